/-
  The walks of layer 18 (heap): what compares; the small methods.
-/
import Derived.Test.YtapnaocdehahdaaGreatHeapLay
import Derived.Test.YtapnaocdehahdaaGreatKtA
import Derived.RegionTactic
import Derived.Deep.RegionHeld3
import Derived.Outline
import Derived.Test.YtapnaocdehahdaaGreatHpA
import Derived.BigRegion
import Derived.Scope
namespace Go.Proofs.YtapnaocdehahdaaGreat
open Go.RowKit Go.IntWalk Go.Lib Go.Sort
set_option linter.unusedVariables false
def orV (a b:Int):Int:=if a=0 then b else a
set_option maxRecDepth 100000 in
set_option maxHeartbeats 400000 in
theorem Or_any (B:Nat) (x y:Int) (w:World) (h0:w.cell? ⟨B,0,none⟩=some (.int .i64 x)) (h1:w.cell? ⟨B,1,none⟩=some (.int .i64 y)) :
  Calls Tryz.prog 181 #[.slice (some ⟨B,0,none⟩) 2 2] w fun e w'=>e=.returned (.int .i64 (orV x y))∧w=w':=by
 by_cases hx:x=0
 ·subst hx
  by_cases hy:y=0
  ·subst hy
   go_enter Tryz.func181,Tryz.ntmps181
   go_wp2_with fail
   refine wp_loop_rounds 3 ?_
   rw [rounds_succ]
   go_wp2_with fail
   rw [rounds_succ]
   go_wp2_with fail
   rw [rounds_succ]
   go_wp2_with fail
   go_ret
   exact ⟨rfl,rfl⟩
  ·have hz:(y == 0)=false:=by simpa using hy
   have hz':(y != 0)=true:=by simpa using hy
   have ho:orV 0 y=y:=rfl
   rw [ho]
   clear ho
   go_enter Tryz.func181,Tryz.ntmps181
   go_wp2_with fail
   refine wp_loop_rounds 2 ?_
   rw [rounds_succ]
   go_wp2_with fail
   rw [rounds_succ]
   go_wp2_with fail
   go_ret
   exact ⟨rfl,rfl⟩
 ·have hz:(x == 0)=false:=by simpa using hx
  have hz':(x != 0)=true:=by simpa using hx
  rw [show orV x y=x from if_neg hx]
  go_enter Tryz.func181,Tryz.ntmps181
  go_wp2_with fail
  refine wp_loop_rounds 1 ?_
  rw [rounds_succ]
  go_wp2_with fail
  go_ret
  exact ⟨rfl,rfl⟩
theorem Compare_any (x y:Int) (w:World):Calls Tryz.prog 182 #[.int .i64 x,.int .i64 y] w fun e w'=>e=.returned (.int .i64 (Lib.compareInt x y))∧w=w':=by
 have h:=AnyG.cmp_Compare_int YtapnaocdehahdaaGreat.cmpInt x y w
 change Calls Tryz.prog 182 _ _ _ at h
 exact h.mono fun _ _ ⟨a,b⟩=>⟨a,b.symm⟩
set_option maxHeartbeats 400000 in
theorem isNaNU_any (x:Int) (w:World):Calls Tryz.prog 209 #[.int .u64 x] w fun e w'=>e=.returned (.bool false)∧w=w':=by
 have hx:(x != x)=false:=by simp
 go_enter Tryz.func209,Tryz.ntmps209
 go_wp2_with fail
 go_ret
 exact ⟨rfl,rfl⟩
set_option maxHeartbeats 400000 in
theorem CompareU_any (x y:Int) (w:World):Calls Tryz.prog 142 #[.int .u64 x,.int .u64 y] w fun e w'=>e=.returned (.int .i64 (Lib.compareInt x y))∧w=w':=by
 have A1:=Lib.hid fun x=>isNaNU_any x w
 unfold Lib.compareInt
 by_cases h1:x<y
 ·rw [if_pos h1]
  go_enter Tryz.func142,Tryz.ntmps142
  go_wp2_with (go_at_call 209;refine (A1.out _).mono ?_;rintro e w' ⟨rfl,rfl⟩)
  go_ret
  exact ⟨rfl,rfl⟩
 ·by_cases h2:y<x
  ·rw [if_neg h1,if_pos h2]
   go_enter Tryz.func142,Tryz.ntmps142
   go_wp2_with (go_at_call 209;refine (A1.out _).mono ?_;rintro e w' ⟨rfl,rfl⟩)
   go_ret
   exact ⟨rfl,rfl⟩
  ·rw [if_neg h1,if_neg h2]
   go_enter Tryz.func142,Tryz.ntmps142
   go_wp2_with (go_at_call 209;refine (A1.out _).mono ?_;rintro e w' ⟨rfl,rfl⟩)
   go_ret
   exact ⟨rfl,rfl⟩
def ordV (x y:Int×Int):Int:=orV (Lib.compareInt x.2 y.2) (Lib.compareInt x.1 y.1)
set_option maxRecDepth 100000 in
set_option maxHeartbeats 1000000 in
theorem order_any (x1 x2 y1 y2:Int) (w:World) :
  Calls Tryz.prog 269 #[.agg #[.int .i64 x1,.int .u64 x2],.agg #[.int .i64 y1,.int .u64 y2]] w fun e w'=>e=.returned (.int .i64 (ordV (x1,x2) (y1,y2)))∧Grows w w':=by
 have A1:=Lib.hid fun x y W=>Compare_any x y W
 have A1':=Lib.hid fun x y W=>CompareU_any x y W
 have A2:=Lib.hid fun B x y W=>Or_any B x y W
 have HG:Grows w ((w.alloc (.cells #[.int .i64 x1,.int .u64 x2] 277)).alloc (.cells #[.int .i64 y1,.int .u64 y2] 277)):=((Grows.refl _).alloc _).alloc _
 have a0:=cell_al (.cells #[.int .i64 y1,.int .u64 y2] 277) (cell_nw w #[.int .i64 x1,.int .u64 x2] 277 0 _ rfl)
 have a1:=cell_al (.cells #[.int .i64 y1,.int .u64 y2] 277) (cell_nw w #[.int .i64 x1,.int .u64 x2] 277 1 _ rfl)
 have b0:=cell_nw (w.alloc (.cells #[.int .i64 x1,.int .u64 x2] 277)) #[.int .i64 y1,.int .u64 y2] 277 0 _ rfl
 have b1:=cell_nw (w.alloc (.cells #[.int .i64 x1,.int .u64 x2] 277)) #[.int .i64 y1,.int .u64 y2] 277 1 _ rfl
 simp only [World.size_alloc] at b0 b1
 go_enter Tryz.func269,Tryz.ntmps269
 go_wp2_with fail
 generalize (w.alloc (.cells #[.int .i64 x1,.int .u64 x2] 277)).alloc (.cells #[.int .i64 y1,.int .u64 y2] 277)=wo at *
 have a0_1:=fun o1=>cell_al o1 (a0)
 have a0_2:=fun o1 o2=>cell_al o2 (cell_al o1 (a0))
 have a1_1:=fun o1=>cell_al o1 (a1)
 have a1_2:=fun o1 o2=>cell_al o2 (cell_al o1 (a1))
 have b0_1:=fun o1=>cell_al o1 (b0)
 have b0_2:=fun o1 o2=>cell_al o2 (cell_al o1 (b0))
 have b1_1:=fun o1=>cell_al o1 (b1)
 have b1_2:=fun o1 o2=>cell_al o2 (cell_al o1 (b1))
 clear a0_1 a0_2 a1_1 a1_2 b0_1 b0_2 b1_1 b1_2
 have hS0:Grows wo wo.drew∧wo.drew.cell? ⟨w.heap.size,0,none⟩=some (.int .i64 x1)∧wo.drew.cell? ⟨w.heap.size,1,none⟩=some (.int .u64 x2)∧wo.drew.cell? ⟨w.heap.size+1,0,none⟩=some (.int .i64 y1)∧wo.drew.cell? ⟨w.heap.size+1,1,none⟩=some (.int .u64 y2):=⟨(Grows.drew (Grows.refl _)),cell_dr a0,cell_dr a1,cell_dr b0,cell_dr b1⟩
 go_region_held3 (fun w'=>Grows wo w'∧w'.cell? ⟨w.heap.size,0,none⟩=some (.int .i64 x1)∧w'.cell? ⟨w.heap.size,1,none⟩=some (.int .u64 x2)∧w'.cell? ⟨w.heap.size+1,0,none⟩=some (.int .i64 y1)∧w'.cell? ⟨w.heap.size+1,1,none⟩=some (.int .u64 y2)) (first | assumption | (refine heldG_4 (by assumption) ?_;assumption) | (refine heldG_4 (grows_ad _ _) ?_;assumption) | (refine heldG_4 (grows_a _ _) ?_;assumption)) (first | (go_at_call 142;refine (A1'.out _ _ _).mono ?_;rintro e w5 ⟨rfl,rfl⟩) | (go_at_call 182;refine (A1.out _ _ _).mono ?_;rintro e w5 ⟨rfl,rfl⟩) | (go_at_call 181;refine (A2.out _ _ _ _ (by exact cell_nw _ _ _ 0 _ rfl) (by exact cell_nw _ _ _ 1 _ rfl)).mono ?_;rintro e w5 ⟨rfl,rfl⟩))
 clear hS0
 all_goals
  rename_i hH
  have HG2:=HG.trans hH.1
  go_wp2_with fail
  go_ret
  exact ⟨rfl,HG2⟩
end Go.Proofs.YtapnaocdehahdaaGreat
namespace Go.Proofs.YtapnaocdehahdaaGreat
open Go.RowKit Go.Maps Go.IntWalk Go.Lib Go.Sort
set_option linter.unusedVariables false
def flatI:Items→List Value
 | []=>[]
 | x::r=>.int .i64 x.1::.int .u64 x.2::flatI r
theorem flatI_app (L M:Items):flatI (L++M)=flatI L++flatI M:=by
 induction L with
 | nil=>rfl
 | cons x r ih=>simp [flatI,ih]
theorem flatI_at {L:Items} {k:Nat} {x:Int×Int} (h:L[k]?=some x):(flatI L)[k*2]?=some (.int .i64 x.1)∧(flatI L)[k*2+1]?=some (.int .u64 x.2):=by
 induction L generalizing k with
 | nil=>cases h
 | cons y r ih =>
  cases k with
  | zero=>cases h;exact ⟨rfl,rfl⟩
  | succ k =>
   have:=ih (k:=k) (by simpa using h)
   rw [show (k+1)*2=k*2+1+1 by omega]
   exact this
theorem flatI_set {L:Items} {k:Nat} {x:Int×Int} (hk:k<L.length):flatI (L.set k x)=((flatI L).set (k*2) (.int .i64 x.1)).set (k*2+1) (.int .u64 x.2):=by
 induction L generalizing k with
 | nil=>simp at hk
 | cons y r ih =>
  cases k with
  | zero=>rfl
  | succ k =>
   have:=ih (k:=k) (by simpa using hk)
   rw [show (k+1)*2=k*2+1+1 by omega]
   simp only [List.set_cons_succ,flatI,this]
def Fits (n:Int) (L:Items):Prop:=∀ x∈L,(0≤x.1∧x.1<n)∧0≤x.2∧x.2≤18446744073709551615
def rowV (a:Option Nat) (n cap:Nat):Value:=.slice (a.map fun g=>⟨g,0,none⟩) n cap
structure Raw (w:World) (p:Nat) (a:Option Nat) (cap bm:Nat) (n:Int) (L:Items) (f:Int→Option Int) (c:Nat):Prop where
 c0:w.cell? ⟨p,0,none⟩=some (rowV a L.length cap)
 c1:w.cell? ⟨p,1,none⟩=some (.map (some bm))
 c2:w.cell? ⟨p,2,none⟩=some (.int .i64 n)
 fp:∀ j,w.frozen? ⟨p,j,none⟩=false
 own:w.ownsRow (max p bm+1) 277 2 (rowV a L.length cap) L.length (flatI L)
 na:∀ g,a=some g→g≠p∧g≠bm
 pb:p≠bm
 map:MapF w bm f c
 fits:Fits n L
 small:n≤131072
 pos:1≤n
theorem Raw.row {w:World} {p:Nat} {a:Option Nat} {cap bm:Nat} {n:Int} {L:Items} {f:Int→Option Int} {c:Nat} (h:Raw w p a cap bm n L f c) (h0:0<L.length):∃ g,a=some g:=by
 rcases h.own.2 with ⟨_,e⟩ | ⟨g,cap',cur,e,_⟩
 ·omega
 ·cases a with
  | none=>simp [rowV] at e
  | some g=>exact ⟨g,rfl⟩
theorem Raw.item {w:World} {p g:Nat} {cap bm:Nat} {n:Int} {L:Items} {f:Int→Option Int} {c:Nat} (h:Raw w p (some g) cap bm n L f c) {k:Nat} (hk:k<L.length) :
  w.cell? ⟨g,k*2,none⟩=some (.int .i64 L[k]!.1)∧w.cell? ⟨g,k*2+1,none⟩=some (.int .u64 L[k]!.2):=by
 have e:=flatI_at (at_get hk)
 have o:=h.own
 change w.ownsRow (max p bm+1) 277 2 (.slice (some ⟨g,0,none⟩) L.length cap) L.length (flatI L) at o
 exact ⟨(o.cellAt (k*2) (by omega)).trans e.1,(o.cellAt (k*2+1) (by omega)).trans e.2⟩
theorem Raw.fg {w:World} {p g:Nat} {cap bm:Nat} {n:Int} {L:Items} {f:Int→Option Int} {c:Nat} (h:Raw w p (some g) cap bm n L f c):∀ j,w.frozen? ⟨g,j,none⟩=false:=fun j=>World.ownsRow.frozenAt (show w.ownsRow (max p bm+1) 277 2 (.slice (some ⟨g,0,none⟩) L.length cap) L.length (flatI L) from h.own) j
theorem Raw.of_heap {w w':World} {p:Nat} {a:Option Nat} {cap bm:Nat} {n:Int} {L:Items} {f:Int→Option Int} {c:Nat} (h:Raw w p a cap bm n L f c) (hp:w'.heap[p]?=w.heap[p]?) (hb:w'.heap[bm]?=w.heap[bm]?) (ha:∀ g,a=some g→w'.heap[g]?=w.heap[g]?):Raw w' p a cap bm n L f c:=by
 have e:∀ j,w'.cell? ⟨p,j,none⟩=w.cell? ⟨p,j,none⟩:=fun j=>World.cell?_of_block (a:=⟨p,j,none⟩) hp
 refine ⟨(e 0).trans h.c0,(e 1).trans h.c1,(e 2).trans h.c2,fun j=>(World.frozen?_of_block (a:=⟨p,j,none⟩) hp).trans (h.fp j),⟨h.own.1,?_⟩,h.na,h.pb,h.map.of_heap hb,h.fits,h.small,h.pos⟩
 rcases h.own.2 with q | ⟨g,cap',cur,ev,h0,hg,r⟩
 ·exact Or.inl q
 ·refine Or.inr ⟨g,cap',cur,ev,h0,?_,r⟩
  cases a with
  | none=>simp [rowV] at ev
  | some g' =>
   simp only [rowV,Option.map_some,Value.slice.injEq,Option.some.injEq,Addr.mk.injEq,and_true] at ev
   rw [ha g (by rw [ev.1])];exact hg
theorem Raw.plt {w:World} {p:Nat} {a:Option Nat} {cap bm:Nat} {n:Int} {L:Items} {f:Int→Option Int} {c:Nat} (h:Raw w p a cap bm n L f c):p<w.heap.size:=lt_of_cell h.c0
theorem Raw.glt {w:World} {p:Nat} {a:Option Nat} {cap bm:Nat} {n:Int} {L:Items} {f:Int→Option Int} {c:Nat} (h:Raw w p a cap bm n L f c) {g:Nat} (e:a=some g):g<w.heap.size:=by
 subst e;exact (h.own.lt g rfl).2
theorem Raw.below {w w':World} {p:Nat} {a:Option Nat} {cap bm:Nat} {n:Int} {L:Items} {f:Int→Option Int} {c:Nat} (h:Raw w p a cap bm n L f c) (hk:Below w.heap.size w w'):Raw w' p a cap bm n L f c:=
 h.of_heap (hk.block _ h.plt) (hk.block _ h.map.lt) (fun g e=>hk.block _ (h.glt e))
def blocks (p:Nat) (a:Option Nat) (bm:Nat):List Nat:=p::bm::a.toList
theorem Raw.kept {w w':World} {p:Nat} {a:Option Nat} {cap bm:Nat} {n:Int} {L:Items} {f:Int→Option Int} {c:Nat} {S:List Nat} (h:Raw w p a cap bm n L f c) (hk:Kept S w w') (hS:∀ b∈blocks p a bm,b∉S):Raw w' p a cap bm n L f c:=
 h.of_heap (hk.block _ h.plt (hS _ (by simp [blocks]))) (hk.block _ h.map.lt (hS _ (by simp [blocks]))) (fun g e=>hk.block _ (h.glt e) (hS _ (by simp [blocks,e])))
theorem Raw.nlen {w:World} {p:Nat} {a:Option Nat} {cap bm:Nat} {n:Int} {L:Items} {f:Int→Option Int} {c:Nat} (h:Raw w p a cap bm n L f c) (hA:Apart L):(L.length:Int)≤n:=by
 have e:=holes_le n.toNat (L.map Prod.fst) (apart_nodup hA) (fun x hx=>by
  obtain ⟨y,hy,rfl⟩:=List.mem_map.1 hx
  have:=(h.fits y hy).1
  omega)
 rw [List.length_map] at e
 have:=h.pos
 omega
set_option maxHeartbeats 400000 in
theorem some_at (p:Nat) (n:Int) (w:World) (c2:w.cell? ⟨p,2,none⟩=some (.int .i64 n)) :
  Calls Tryz.prog 267 #[.pointer (some ⟨p,0,none⟩)] w fun e w'=>e=.returned (.bool (decide (0<n)))∧w=w':=by
 by_cases hn:0<n
 ·rw [show decide (0<n)=true by simpa using hn]
  go_enter Tryz.func267,Tryz.ntmps267
  go_wp2
  go_ret
  exact ⟨rfl,rfl⟩
 ·rw [show decide (0<n)=false by simpa using hn]
  go_enter Tryz.func267,Tryz.ntmps267
  go_wp2
  go_ret
  exact ⟨rfl,rfl⟩
def hasV (n id:Int):Bool:=decide (0≤id∧id<n)
set_option maxHeartbeats 400000 in
theorem has_at (p:Nat) (n id:Int) (w:World) (c2:w.cell? ⟨p,2,none⟩=some (.int .i64 n)) (hn:1≤n) :
  Calls Tryz.prog 268 #[.pointer (some ⟨p,0,none⟩),.int .i64 id] w fun e w'=>e=.returned (.bool (hasV n id))∧w=w':=by
 have A1:=Lib.hid (some_at p n w c2)
 have e1:decide (0<n)=true:=by simp;omega
 rw [e1] at A1
 unfold hasV
 by_cases h1:0≤id
 ·by_cases h2:id<n
  ·rw [show decide (0≤id∧id<n)=true by simp;omega]
   go_enter Tryz.func268,Tryz.ntmps268
   go_wp2_with fail
   refine A1.out.mono ?_;rintro e w1 ⟨rfl,rfl⟩
   go_wp2_with fail
   go_ret
   exact ⟨rfl,rfl⟩
  ·rw [show decide (0≤id∧id<n)=false by simp;omega]
   have z:decide (id<n)=false:=by simpa using h2
   go_enter Tryz.func268,Tryz.ntmps268
   go_wp2_with fail
   refine A1.out.mono ?_;rintro e w1 ⟨rfl,rfl⟩
   go_wp2_with fail
   go_ret
   exact ⟨rfl,rfl⟩
 ·rw [show decide (0≤id∧id<n)=false by simp;omega]
  go_enter Tryz.func268,Tryz.ntmps268
  go_wp2_with fail
  refine A1.out.mono ?_;rintro e w1 ⟨rfl,rfl⟩
  go_wp2_with fail
  go_ret
  exact ⟨rfl,rfl⟩
def findV (n:Int) (f:Int→Option Int) (id:Int):Int×Int:=if hasV n id then (match f id with | some k=>(k,0) | none=>(0,6)) else (0,2)
set_option maxRecDepth 100000 in
set_option maxHeartbeats 400000 in
theorem find_at {p:Nat} {a:Option Nat} {cap bm:Nat} {n:Int} {L:Items} {f:Int→Option Int} {c:Nat} (id:Int) (w:World) (h:Raw w p a cap bm n L f c) (hid:(Lit.int .i64 id).wf=true) :
  Calls Tryz.prog 246 #[.pointer (some ⟨p,0,none⟩),.int .i64 id] w fun e w'=>e=.returned (.tuple #[.int .i64 (findV n f id).1,.int .i64 (findV n f id).2])∧w=w':=by
 have c1:=h.c1
 have A1:=Lib.hid (some_at p n w h.c2)
 rw [show decide (0<n)=true by have:=h.pos;simp;omega] at A1
 have A2:=Lib.hid (has_at p n id w h.c2 h.pos)
 have hlk:=h.map.look hid
 clear h
 unfold findV
 cases hh:hasV n id
 ·rw [hh] at A2
  go_enter Tryz.func246,Tryz.ntmps246
  go_wp2_with (first | (go_at_call 267;refine A1.out.mono ?_;rintro e w1 ⟨rfl,rfl⟩) | (go_at_call 268;refine A2.out.mono ?_;rintro e w1 ⟨rfl,rfl⟩))
  go_ret2
  exact ⟨rfl,rfl⟩
 ·rw [hh] at A2
  cases hf:f id with
  | none =>
   rw [hf] at hlk
   simp only [Option.getD_none,Option.isSome_none] at hlk
   go_enter Tryz.func246,Tryz.ntmps246
   go_wp2_with (first | (go_at_call 267;refine A1.out.mono ?_;rintro e w1 ⟨rfl,rfl⟩) | (go_at_call 268;refine A2.out.mono ?_;rintro e w1 ⟨rfl,rfl⟩))
   go_ret2
   exact ⟨rfl,rfl⟩
  | some k =>
   rw [hf] at hlk
   simp only [Option.getD_some,Option.isSome_some] at hlk
   go_enter Tryz.func246,Tryz.ntmps246
   go_wp2_with (first | (go_at_call 267;refine A1.out.mono ?_;rintro e w1 ⟨rfl,rfl⟩) | (go_at_call 268;refine A2.out.mono ?_;rintro e w1 ⟨rfl,rfl⟩))
   go_ret2
   exact ⟨rfl,rfl⟩
theorem Raw.made (w:World) {n:Int} (h0:1≤n) (h1:n≤131072):Raw ((w.alloc (.map #[] 0)).alloc (.cells #[.slice none 0 0,.map (some w.heap.size),.int .i64 n] 261)) (w.heap.size+1) none 0 w.heap.size n [] (fun _=>none) 0:=by
 have e:(w.alloc (.map #[] 0)).heap.size=w.heap.size+1:=by simp
 refine ⟨?_,?_,?_,fun j=>?_,World.ownsRow_nil _ _ _ _,fun g h=>(by cases h),by omega,(MapF.made w).below (below_a _ _),fun x hx=>(by cases hx),h1,h0⟩
 ·rw [← e];exact cell_nw _ _ _ 0 _ rfl
 ·rw [← e];exact cell_nw _ _ _ 1 _ rfl
 ·rw [← e];exact cell_nw _ _ _ 2 _ rfl
 ·rw [← e,World.frozen?_alloc_new]
set_option maxRecDepth 100000 in
set_option maxHeartbeats 400000 in
theorem New_raw (n:Int) (w:World) (h0:1≤n) (h1:n≤131072):Calls Tryz.prog 107 #[.int .i64 n] w fun e w'=>e=.returned (.tuple #[.pointer (some ⟨w.heap.size+1,0,none⟩),.int .i64 0])∧Raw w' (w.heap.size+1) none 0 w.heap.size n [] (fun _=>none) 0∧Below w.heap.size w w':=by
 have hmm:=@run_makeMap Tryz.prog
 have HM:=Lib.hid (Raw.made w h0 h1)
 have a1:¬ n<1:=by omega
 have a2:¬ 131072<n:=by omega
 go_enter Tryz.func107,Tryz.ntmps107
 go_wp2
 go_ret2
 exact ⟨rfl,HM.out,Below.allocS (Below.allocS (Below.refl _ _) _) _⟩
theorem Raw.stored {w:World} {p g cap bm:Nat} {n:Int} {L:Items} {f:Int→Option Int} {c:Nat} (h:Raw w p (some g) cap bm n L f c) {k:Nat} (hk:k<L.length) {x:Int×Int} (hx:(0≤x.1∧x.1<n)∧0≤x.2∧x.2≤18446744073709551615) :
  Raw ((w.setCell ⟨g,k*2,none⟩ (.int .i64 x.1)).setCell ⟨g,k*2+1,none⟩ (.int .u64 x.2)) p (some g) cap bm n (L.set k x) f c:=by
 obtain ⟨n1,n2⟩:=h.na g rfl
 have o:=h.own
 change w.ownsRow (max p bm+1) 277 2 (.slice (some ⟨g,0,none⟩) L.length cap) L.length (flatI L) at o
 obtain ⟨o1,_⟩:=o.stored (k*2) (.int .i64 x.1)
 obtain ⟨o2,_⟩:=o1.stored (k*2+1) (.int .u64 x.2)
 have hl:(L.set k x).length=L.length:=by simp
 refine ⟨?_,cell_set_ne (cell_set_ne h.c1 (Or.inl (Ne.symm n1))) (Or.inl (Ne.symm n1)),cell_set_ne (cell_set_ne h.c2 (Or.inl (Ne.symm n1))) (Or.inl (Ne.symm n1)),fun j=>by rw [World.frozen?_setCell,World.frozen?_setCell];exact h.fp j,?_,h.na,h.pb,(h.map.setCell (Ne.symm n2) _).setCell (Ne.symm n2) _,fun y hy=>?_,h.small,h.pos⟩
 ·rw [hl];exact cell_set_ne (cell_set_ne h.c0 (Or.inl (Ne.symm n1))) (Or.inl (Ne.symm n1))
 ·rw [hl,flatI_set hk];exact o2
 ·rcases List.mem_or_eq_of_mem_set hy with q | rfl
  ·exact h.fits y q
  ·exact hx
theorem Raw.mapped {w w':World} {p:Nat} {a:Option Nat} {cap bm:Nat} {n:Int} {L:Items} {f f':Int→Option Int} {c c':Nat} (h:Raw w p a cap bm n L f c) (hg:w.grownBy w' (some bm)) (hm:MapF w' bm f' c'):Raw w' p a cap bm n L f' c':=by
 have e:w'.heap[p]?=w.heap[p]?:=hg.block _ h.plt (by simpa using h.pb)
 have o:∀ g,a=some g→w'.heap[g]?=w.heap[g]?:=fun g q=>hg.block _ (h.glt q) (by simpa using (h.na g q).2)
 have c:∀ j,w'.cell? ⟨p,j,none⟩=w.cell? ⟨p,j,none⟩:=fun j=>World.cell?_of_block (a:=⟨p,j,none⟩) e
 refine ⟨(c 0).trans h.c0,(c 1).trans h.c1,(c 2).trans h.c2,fun j=>(World.frozen?_of_block (a:=⟨p,j,none⟩) e).trans (h.fp j),h.own.kept hg ?_,h.na,h.pb,hm,h.fits,h.small,h.pos⟩
 cases a with
 | none=>exact Or.inl rfl
 | some g=>exact Or.inr (by simpa [rowV,Value.ownBlock] using (h.na g rfl).2)
set_option maxRecDepth 100000 in
set_option maxHeartbeats 1000000 in
theorem lay_at {p g cap bm:Nat} {n:Int} {L:Items} {f:Int→Option Int} {c:Nat} (k:Nat) (x y:Int) (w:World) (h:Raw w p (some g) cap bm n L f c) (hk:k<L.length) (hx:(0≤x∧x<n)∧0≤y∧y≤18446744073709551615) (hL:L.length≤131072) (hc:c≤131072) :
  Calls Tryz.prog 270 #[.pointer (some ⟨p,0,none⟩),.int .i64 k,.agg #[.int .i64 x,.int .u64 y]] w fun e w'=>e=.returned (.tuple #[])∧Raw w' p (some g) cap bm n (L.set k (x,y)) (setF f x (some (k:Int))) (putC (f x) c)∧Kept [p,bm,g] w w':=by
 have hb:=h.below (below_a w (.cells #[.int .i64 x,.int .u64 y] 277))
 have z0:(w.alloc (.cells #[.int .i64 x,.int .u64 y] 277)).cell? ⟨w.heap.size,0,none⟩=some (.int .i64 x):=cell_nw w #[.int .i64 x,.int .u64 y] 277 0 _ rfl
 have z1:(w.alloc (.cells #[.int .i64 x,.int .u64 y] 277)).cell? ⟨w.heap.size,1,none⟩=some (.int .u64 y):=cell_nw w #[.int .i64 x,.int .u64 y] 277 1 _ rfl
 have hgw:=h.glt rfl
 have hsm:=h.small
 have hk0:=(Kept.refl [p,bm,g] w).alloc (.cells #[.int .i64 x,.int .u64 y] 277)
 go_enter Tryz.func270,Tryz.ntmps270
 go_wp2_with fail
 generalize hW:w.alloc (.cells #[.int .i64 x,.int .u64 y] 277)=wo at *
 have c0:=hb.c0
 unfold rowV at c0
 simp only [Option.map_some] at c0
 have i0:=(hb.item hk).1
 have i1:=(hb.item hk).2
 have fg0:=hb.fg (k*2)
 have fg1:=hb.fg (k*2+1)
 have hS:=hb.stored hk (x:=(x,y)) hx
 have ne:w.heap.size≠g:=by omega
 have i1':=cell_set_ne (b':=g) (o':=k*2) (u:=.int .i64 x) i1 (Or.inr (by omega))
 have fg1':(wo.setCell ⟨g,k*2,none⟩ (.int .i64 x)).frozen? ⟨g,k*2+1,none⟩=false:=by rw [World.frozen?_setCell];exact fg1
 have z0':=cell_set_ne (b':=g) (o':=k*2+1) (u:=.int .u64 y) (cell_set_ne (b':=g) (o':=k*2) (u:=.int .i64 x) z0 (Or.inl ne)) (Or.inl ne)
 have hk1:=(hk0.setCell (p:=⟨g,k*2,none⟩) (Or.inl (by simp)) (.int .i64 x)).setCell (p:=⟨g,k*2+1,none⟩) (Or.inl (by simp)) (.int .u64 y)
 have hkl:(k:Int)<(L.length:Int):=by omega
 have hk0':(0:Int)≤(k:Int):=by omega
 have H:=Lib.hid h
 have HS:=Lib.hid (show Raw ((wo.setCell ⟨g,k*2,none⟩ (.int .i64 x)).setCell ⟨g,k*2+1,none⟩ (.int .u64 y)).drew p (some g) cap bm n (L.set k (x,y)) f c from hS.of_heap rfl rfl fun _ _=>rfl)
 have HK1:=Lib.hid hk1.drew
 replace z0':=cell_dr z0'
 have HX:=Lib.hid hx
 clear h hb hS hk0 hk1 hx hW
 go_region
 clear c0 i0 i1 fg0 fg1 i1' fg1' z0 z1
 generalize hwS:((wo.setCell ⟨g,k*2,none⟩ (.int .i64 x)).setCell ⟨g,k*2+1,none⟩ (.int .u64 y)).drew=wS at *
 clear hwS
 have hS:=HS.out
 have hxx:=HX.out
 have hm:MapF wS.drew bm f c:=hS.map.of_heap rfl
 obtain ⟨w3,hrun,hM,hg⟩:=hm.put (by unfold maxLen;omega) (WalkArith.wf_i64 (n:=x) (by omega)) (WalkArith.wf_i64 (n:=(k:Int)) (by omega))
 have hg':wS.grownBy w3 (some bm):=⟨hg.os,hg.tape,hg.output,hg.size,hg.block⟩
 have HR:=Lib.hid (hS.mapped hg' hM)
 have HK:=Lib.hid (HK1.out.grown hg' (fun q e=>by cases e;exact Or.inl (by simp)))
 have c1:=hS.c1
 clear hS hxx hm hM hg hg'
 go_wp2_with fail
 go_region
 clear hrun c1 z0'
 go_wp2_with fail
 go_end0
 exact ⟨rfl,HR.out,HK.out⟩
def jumps (J:Nat→Act→World→Prop) (Q:Exit→Act→World→Prop):Exit→Act→World→Prop
 | .goto l,a,w=>J l a w
 | e,a,w=>Q e a w
theorem jumps_mono {J J':Nat→Act→World→Prop} {Q:Exit→Act→World→Prop} (h:∀ l a w,J l a w→J' l a w):∀ e a w,jumps J Q e a w→jumps J' Q e a w:=fun e a w q=>by
 cases e <;> first | exact h _ _ _ q | exact q
@[go_sem] theorem jumps_normal {J:Nat→Act→World→Prop} {Q:Exit→Act→World→Prop} {a:Act} {w:World}:jumps J Q .normal a w=Q .normal a w:=rfl
@[go_sem] theorem jumps_ret {J:Nat→Act→World→Prop} {Q:Exit→Act→World→Prop} {a:Act} {w:World}:jumps J Q .ret a w=Q .ret a w:=rfl
theorem wp_scope_labels {P:Program} {a:Act} {w:World} {Q:Exit→Act→World→Prop} {c:Code} (J:Nat→Act→World→Prop) (μ:Nat→Act→World→Nat)
  (pass:∀ l a w,J l a w→∃ rest,findLabel c l=some rest∧rest.wp P (jumps (fun l' a' w'=>J l' a' w'∧μ l' a' w'<μ l a w) Q) a w)
  (first:c.wp P (jumps J Q) a w):(Code.scope c).wp P Q a w:=by
 intro b k cs
 have key:∀ n l a w,μ l a w=n→J l a w→∃ rest,findLabel c l=some rest∧∃ e a' w',Q e a' w'∧Arrives P (lone (b.at a (.code rest::.inScope c::k)) cs w) b k cs e a' w':=by
  intro n
  induction n using Nat.strongRecOn with
  | _ n ih =>
   intro l a w hn hJ
   obtain ⟨rest,hf,hp⟩:=pass l a w hJ
   refine ⟨rest,hf,?_⟩
   obtain ⟨e,a₁,w₁,hq,harr⟩:=hp b (.inScope c::k) cs
   cases e with
   | normal=>exact ⟨.normal,a₁,w₁,hq,Steps.trans harr (.one step_inScope)⟩
   | exit id=>exact ⟨.exit id,a₁,w₁,hq,fun k' hk=>harr k' (by simp [exitTo,hk])⟩
   | goto l' =>
    obtain ⟨hJ',hlt⟩:=hq
    obtain ⟨rest',hf',e₂,a₂,w₂,hq₂,harr₂⟩:=ih _ (by omega) l' a₁ w₁ rfl hJ'
    have hg:gotoIn l' (.inScope c::k)=some (.code rest'::.inScope c::k):=by simp [gotoIn,hf']
    exact ⟨e₂,a₂,w₂,hq₂,.of_steps (harr _ hg) harr₂⟩
   | ret=>exact ⟨_,a₁,w₁,hq,harr⟩
   | panic ch=>exact ⟨_,a₁,w₁,hq,harr⟩
   | outgrown=>exact ⟨_,a₁,w₁,hq,harr⟩
 obtain ⟨e,a₁,w₁,hq,harr⟩:=first b (.inScope c::k) cs
 cases e with
 | normal=>exact ⟨.normal,a₁,w₁,hq,.head step_scope (Steps.trans harr (.one step_inScope))⟩
 | exit id=>exact ⟨.exit id,a₁,w₁,hq,fun k' hk=>.head step_scope (harr k' (by simp [exitTo,hk]))⟩
 | goto l' =>
  obtain ⟨rest',hf',e₂,a₂,w₂,hq₂,harr₂⟩:=key _ l' a₁ w₁ rfl hq
  have hg:gotoIn l' (.inScope c::k)=some (.code rest'::.inScope c::k):=by simp [gotoIn,hf']
  exact ⟨e₂,a₂,w₂,hq₂,.of_steps (.head step_scope (harr _ hg)) harr₂⟩
 | ret=>exact ⟨_,a₁,w₁,hq,.of_steps (.one step_scope) harr⟩
 | panic ch=>exact ⟨_,a₁,w₁,hq,.of_steps (.one step_scope) harr⟩
 | outgrown=>exact ⟨_,a₁,w₁,hq,.of_steps (.one step_scope) harr⟩
theorem skip_seq {P:Program} {a:Act} {w:World} {Q:Exit→Act→World→Prop} {c:Code} (h:c.wp P Q a w):(Code.seq .skip c).wp P Q a w:=wp_seq (wp_skip h)
theorem K_inl {K:Nat→Act→World→Prop} {A:Act→World→Prop} {B:Nat→Act→World→Prop} (h:K=fun l a' w'=>(l=0∧A a' w')∨B l a' w') {a:Act} {w:World} (q:A a w):K 0 a w:=by rw [h];exact Or.inl ⟨rfl,q⟩
theorem wp_scope_two {P:Program} {a:Act} {w:World} {Q:Exit→Act→World→Prop} {c r0 r1:Code} (J0 J1:Act→World→Prop) (μ0 μ1:Act→World→Nat) (h0:findLabel c 0=some (.seq .skip r0)) (h1:findLabel c 1=some (.seq .skip r1)) (B:Nat) (hB:∀ a w,J1 a w→μ1 a w<B)
  (p1:∀ a w,J1 a w→r1.wp P (jumps (fun l a' w'=>l=1∧J1 a' w'∧μ1 a' w'<μ1 a w) Q) a w)
  (p0:∀ a w,J0 a w→(∀ a w,J1 a w→r1.wp P (jumps (fun l a' w'=>l=1∧J1 a' w') Q) a w)→∀ K,(K=fun l a' w'=>(l=0∧J0 a' w'∧μ0 a' w'<μ0 a w)∨(l=1∧J1 a' w'))→r0.wp P (jumps K Q) a w)
  (first:(∀ a w,J0 a w→∀ K,(K=fun l a' w'=>(l=0∧J0 a' w')∨(l=1∧J1 a' w'))→r0.wp P (jumps K Q) a w)→∀ K,(K=fun l a' w'=>(l=0∧J0 a' w')∨(l=1∧J1 a' w'))→c.wp P (jumps K Q) a w):(Code.scope c).wp P Q a w:=by
 have p1':∀ a w,J1 a w→r1.wp P (jumps (fun l a' w'=>l=1∧J1 a' w') Q) a w:=fun a w j=>Code.wp_mono (jumps_mono fun l a w h=>⟨h.1,h.2.1⟩) (p1 a w j)
 refine wp_scope_labels (fun l a w=>(l=0∧J0 a w)∨(l=1∧J1 a w)) (fun l a w=>if l=0 then B+μ0 a w else μ1 a w) ?_ ?_
 ·rintro l a w (⟨rfl,j⟩ | ⟨rfl,j⟩)
  ·refine ⟨_,h0,skip_seq <| Code.wp_mono (jumps_mono ?_) (p0 a w j p1' _ rfl)⟩
   rintro l a w (⟨rfl,j,hm⟩ | ⟨rfl,j⟩)
   ·exact ⟨Or.inl ⟨rfl,j⟩,by simp;omega⟩
   ·exact ⟨Or.inr ⟨rfl,j⟩,by have:=hB a w j;simp;omega⟩
  ·refine ⟨_,h1,skip_seq <| Code.wp_mono (jumps_mono ?_) (p1 a w j)⟩
   rintro l a w ⟨rfl,j,hm⟩
   exact ⟨Or.inr ⟨rfl,j⟩,by simpa using hm⟩
 ·refine first (fun a w j K hK=>Code.wp_mono (jumps_mono ?_) (p0 a w j p1' _ rfl)) _ rfl
  rintro l a w h
  subst hK
  rcases h with ⟨rfl,j,hm⟩ | ⟨rfl,j⟩
  ·exact Or.inl ⟨rfl,j⟩
  ·exact Or.inr ⟨rfl,j⟩
def PlacedBut (V:Items) (f:Int→Option Int) (x:Int):Prop:=∀ id,id≠x→∀ q,f id=some q↔∃ j:Nat,j<V.length∧V[j]!.1=id∧q=j
def Placed (V:Items) (f:Int→Option Int):Prop:=∀ id q,f id=some q↔∃ j:Nat,j<V.length∧V[j]!.1=id∧q=j
structure Good (w:World) (p:Nat) (a:Option Nat) (cap bm:Nat) (n:Int) (V:Items) (f:Int→Option Int):Prop where
 raw:Raw w p a cap bm n V f V.length
 heaped:Heaped V
 apart:Apart V
 placed:Placed V f
structure Mid (w:World) (p g cap bm:Nat) (n:Int) (L:Items) (f:Int→Option Int) (c:Nat) (V0:Items) (x:Int×Int) (k:Nat):Prop where
 raw:Raw w p (some g) cap bm n L f c
 lt:k<L.length
 hole:Hole (L.set k x) k
 apart:Apart (L.set k x)
 perm:(L.set k x).Perm V0
 pl:PlacedBut (L.set k x) f x.1
 cn:putC (f x.1) c=L.length
 fx:(0≤x.1∧x.1<n)∧0≤x.2∧x.2≤18446744073709551615
theorem Mid.of_raw {w w':World} {p g cap bm:Nat} {n:Int} {L:Items} {f:Int→Option Int} {c:Nat} {V0:Items} {x:Int×Int} {k:Nat} (h:Mid w p g cap bm n L f c V0 x k) (r:Raw w' p (some g) cap bm n L f c):Mid w' p g cap bm n L f c V0 x k:={ h with raw:=r }
theorem Mid.len {w:World} {p g cap bm:Nat} {n:Int} {L:Items} {f:Int→Option Int} {c:Nat} {V0:Items} {x:Int×Int} {k:Nat} (h:Mid w p g cap bm n L f c V0 x k):L.length≤131072∧c≤131072:=by
 have e:=holes_le n.toNat ((L.set k x).map Prod.fst) (apart_nodup h.apart) (fun y hy=>by
  obtain ⟨z,hz,rfl⟩:=List.mem_map.1 hy
  rcases List.mem_or_eq_of_mem_set hz with q | rfl
  ·have:=(h.raw.fits z q).1;omega
  ·have:=h.fx;omega)
 rw [List.length_map,List.length_set] at e
 have:=h.raw.pos
 have:=h.raw.small
 have q:=h.cn
 unfold putC at q
 split at q <;> omega
theorem Mid.move {w w':World} {p g cap bm:Nat} {n:Int} {L:Items} {f:Int→Option Int} {c:Nat} {V0:Items} {x:Int×Int} {k j:Nat} (h:Mid w p g cap bm n L f c V0 x k) (hj:j<L.length) (hjk:j≠k)
  (r:Raw w' p (some g) cap bm n (L.set k L[j]!) (setF f L[j]!.1 (some (k:Int))) (putC (f L[j]!.1) c)) (hh:Hole (swapL (L.set k x) k j) j) :
  Mid w' p g cap bm n (L.set k L[j]!) (setF f L[j]!.1 (some (k:Int))) (putC (f L[j]!.1) c) V0 x j:=by
 have hk:=h.lt
 have hkV:k<(L.set k x).length:=by simpa using hk
 have hjV:j<(L.set k x).length:=by simpa using hj
 have vk:(L.set k x)[k]! = x:=by rw [set_at hk,if_pos rfl]
 have vj:(L.set k x)[j]! = L[j]!:=by rw [set_at hk,if_neg (Ne.symm hjk)]
 have e:(L.set k L[j]!).set j x=swapL (L.set k x) k j:=by
  unfold swapL
  rw [vk,vj]
  simp [List.set_set]
 have ne:L[j]!.1≠x.1:=fun q=>hjk (h.apart j k hjV hkV (by rw [vj,vk];exact q))
 have fj:f L[j]!.1=some (j:Int):=(h.pl _ ne _).2 ⟨j,hjV,by rw [vj],rfl⟩
 refine ⟨r,by simpa using hj,e ▸ hh,by rw [e];exact swap_apart hkV hjV h.apart,by rw [e];exact (swap_perm hkV hjV).trans h.perm,?_,?_,h.fx⟩
 ·rw [e]
  intro id hid q
  rw [swap_len]
  by_cases hi:id=L[j]!.1
  ·subst hi
   rw [setF_same]
   constructor
   ·intro hq
    cases hq
    refine ⟨k,hkV,?_,rfl⟩
    rw [swap_at hkV hjV,if_neg hjk,if_pos rfl,vj]
   ·rintro ⟨i,il,hi,rfl⟩
    have:i=k:=by
     have A:=swap_apart hkV hjV h.apart
     refine A i k (by rw [swap_len];exact il) (by rw [swap_len];exact hkV) ?_
     rw [hi,swap_at hkV hjV,if_neg hjk,if_pos rfl,vj]
    rw [this]
  ·rw [setF_other _ _ hi,h.pl id hid q]
   constructor
   ·rintro ⟨i,il,hi',rfl⟩
    refine ⟨i,il,?_,rfl⟩
    rw [swap_at hkV hjV]
    have i1:j≠i:=fun q=>hi (by rw [← hi',← q,vj])
    have i2:k≠i:=fun q=>hid (by rw [← hi',← q,vk])
    rw [if_neg i1,if_neg i2,hi']
   ·rintro ⟨i,il,hi',rfl⟩
    refine ⟨i,il,?_,rfl⟩
    rw [swap_at hkV hjV] at hi'
    by_cases i1:j=i
    ·rw [if_pos i1,vk] at hi';exact absurd hi'.symm hid
    ·rw [if_neg i1] at hi'
     by_cases i2:k=i
     ·rw [if_pos i2,vj] at hi';exact absurd hi'.symm hi
     ·rw [if_neg i2] at hi';exact hi'
 ·rw [setF_other _ _ (Ne.symm ne),List.length_set,← h.cn]
  have:putC (f L[j]!.1) c=c:=by rw [fj];rfl
  rw [this]
theorem Mid.up {w w':World} {p g cap bm:Nat} {n:Int} {L:Items} {f:Int→Option Int} {c:Nat} {V0:Items} {x:Int×Int} {k:Nat} (h:Mid w p g cap bm n L f c V0 x k) (k0:0<k)
  (r:Raw w' p (some g) cap bm n (L.set k L[par k]!) (setF f L[par k]!.1 (some (k:Int))) (putC (f L[par k]!.1) c)) :
  Mid w' p g cap bm n (L.set k L[par k]!) (setF f L[par k]!.1 (some (k:Int))) (putC (f L[par k]!.1) c) V0 x (par k):=
 h.move (by have:=h.lt;unfold par;omega) (by unfold par;omega) r (hole_up (by have:=h.lt;simpa using this) k0 h.hole)
def Above (L:Items) (x:Int×Int) (k:Nat):Prop:=0<k→ltI L[par k]! x
theorem Mid.down {w w':World} {p g cap bm:Nat} {n:Int} {L:Items} {f:Int→Option Int} {c:Nat} {V0:Items} {x:Int×Int} {k j:Nat} (h:Mid w p g cap bm n L f c V0 x k) (hj:j<L.length) (j0:0<j) (hp:par j=k) (hs:∀ i,0<i→i<L.length→par i=k→i≠j→ltI L[j]! L[i]!)
  (r:Raw w' p (some g) cap bm n (L.set k L[j]!) (setF f L[j]!.1 (some (k:Int))) (putC (f L[j]!.1) c)) :
  Mid w' p g cap bm n (L.set k L[j]!) (setF f L[j]!.1 (some (k:Int))) (putC (f L[j]!.1) c) V0 x j:=by
 have hk:=h.lt
 have pk:∀ i,0<i→par i=k→i≠k:=by intro i hi q;unfold par at q;omega
 refine h.move hj (pk j j0 hp) r (hole_down (by simpa using hj) j0 hp h.hole fun i i0 il hi hn=>?_)
 rw [set_at hk,set_at hk,if_neg (Ne.symm (pk j j0 hp)),if_neg (Ne.symm (pk i i0 hi))]
 exact hs i i0 (by simpa using il) hi hn
theorem Above.down {L:Items} {x:Int×Int} {k j:Nat} (hk:k<L.length) (hp:par j=k) (hl:ltI L[j]! x):Above (L.set k L[j]!) x j:=by
 intro _
 rw [hp,set_at hk,if_pos rfl]
 exact hl
theorem Mid.done {w w':World} {p g cap bm:Nat} {n:Int} {L:Items} {f:Int→Option Int} {c:Nat} {V0:Items} {x:Int×Int} {k:Nat} (h:Mid w p g cap bm n L f c V0 x k) (ha:Above L x k) (hk:∀ i,0<i→i<L.length→par i=k→ltI x L[i]!)
  (r:Raw w' p (some g) cap bm n (L.set k x) (setF f x.1 (some (k:Int))) (putC (f x.1) c)) :
  Good w' p (some g) cap bm n (L.set k x) (setF f x.1 (some (k:Int)))∧(L.set k x).Perm V0:=by
 have hl:=h.lt
 have vk:(L.set k x)[k]! = x:=by rw [set_at hl,if_pos rfl]
 refine ⟨⟨?_,hole_done h.hole (fun k0 _=>?_) (fun i i0 il hi=>?_),h.apart,fun id q=>?_⟩,h.perm⟩
 ·rw [h.cn] at r
  rw [List.length_set];exact r
 ·have hpa:par k<k:=by unfold par;omega
  rw [set_at hl,set_at hl,if_neg (by omega),if_pos rfl]
  exact ha k0
 ·have hne:k≠i:=by unfold par at hi;omega
  rw [set_at hl,set_at hl,if_pos rfl,if_neg hne]
  exact hk i i0 (by simpa using il) hi
 ·by_cases hid:id=x.1
  ·subst hid
   rw [setF_same]
   constructor
   ·intro hq;cases hq;exact ⟨k,by simpa using hl,by rw [vk],rfl⟩
   ·rintro ⟨j,jl,hj,rfl⟩
    rw [h.apart j k jl (by simpa using hl) (by rw [hj,vk])]
  ·rw [setF_other _ _ hid];exact h.pl id hid q
theorem Mid.at {w:World} {p g cap bm:Nat} {n:Int} {L:Items} {f:Int→Option Int} {c:Nat} {V0:Items} {x:Int×Int} {k j:Nat} (h:Mid w p g cap bm n L f c V0 x k) (hj:j<L.length) (hjk:j≠k):L[j]!≠x:=by
 intro e
 refine hjk (h.apart j k (by simpa using hj) (by simpa using h.lt) ?_)
 rw [set_at h.lt,set_at h.lt,if_neg (Ne.symm hjk),if_pos rfl,e]
theorem Mid.ne {w:World} {p g cap bm:Nat} {n:Int} {L:Items} {f:Int→Option Int} {c:Nat} {V0:Items} {x:Int×Int} {k i j:Nat} (h:Mid w p g cap bm n L f c V0 x k) (hi:i<L.length) (hj:j<L.length) (hik:i≠k) (hjk:j≠k) (hij:i≠j):L[i]!≠L[j]!:=by
 intro e
 refine hij (h.apart i j (by simpa using hi) (by simpa using hj) ?_)
 rw [set_at h.lt,set_at h.lt,if_neg (Ne.symm hik),if_neg (Ne.symm hjk),e]
theorem ordV_neg {a b:Int×Int}:ordV a b<0↔ltI a b:=by
 unfold ordV ltI orV Lib.compareInt
 repeat split
 all_goals first | omega | (constructor <;> intro h <;> first | omega | (rcases h with h | h <;> omega))
end Go.Proofs.YtapnaocdehahdaaGreat
