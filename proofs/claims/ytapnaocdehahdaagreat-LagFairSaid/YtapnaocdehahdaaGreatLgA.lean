/-
  Layer 39 (lag): plain laws on lists of tasks (ID, weight, what has run).
-/
import Derived.Test.YtapnaocdehahdaaGreatRows
import Derived.Test.YtapnaocdehahdaaGreatLagLay
import Derived.Test.YtapnaocdehahdaaGreatKtA
import Derived.Maps.OwnSet
import Derived.Maps.OwnOps
import Derived.OwnWalk
import Derived.RegionTactic
import Derived.Deep.RegionHeld3
import Derived.Deep.DeepCutAuto
namespace Go.Proofs.YtapnaocdehahdaaGreat
set_option linter.unusedVariables false
def sumW:List (Int×Int×Int)→Int
 | []=>0
 | x::r=>x.2.1+sumW r
def sumR:List (Int×Int×Int)→Int
 | []=>0
 | x::r=>x.2.2+sumR r
structure GoodL (l:List (Int×Int×Int)):Prop where
 each:∀ x∈l,1≤x.1∧x.1≤65535∧1≤x.2.1∧x.2.1≤65536∧0≤x.2.2
 ids:l.Pairwise fun x y=>x.1<y.1
 many:l.length≤1024
 pos:0<l.length
 ran:sumR l≤68719476736
def Each (l:List (Int×Int×Int)):Prop:=∀ x∈l,1≤x.2.1∧x.2.1≤65536∧0≤x.2.2
theorem GoodL.ea {l:List (Int×Int×Int)} (h:GoodL l):Each l:=fun x hx=>⟨(h.each x hx).2.2.1,(h.each x hx).2.2.2.1,(h.each x hx).2.2.2.2⟩
theorem sumW_nn {l:List (Int×Int×Int)} (h:Each l):(l.length:Int)≤sumW l∧sumW l≤65536*(l.length:Int):=by
 induction l with
 | nil=>simp [sumW]
 | cons x r ih =>
  have a:=h x List.mem_cons_self
  have b:=ih fun y hy=>h y (List.mem_cons_of_mem _ hy)
  simp only [sumW,List.length_cons]
  omega
theorem sumR_nn {l:List (Int×Int×Int)} (h:Each l):0≤sumR l:=by
 induction l with
 | nil=>simp [sumR]
 | cons x r ih =>
  have a:=h x List.mem_cons_self
  have b:=ih fun y hy=>h y (List.mem_cons_of_mem _ hy)
  simp only [sumR]
  omega
theorem sum_split {l:List (Int×Int×Int)} {k:Nat} {x:Int×Int×Int} (h:l[k]?=some x):sumW l=x.2.1+sumW (l.eraseIdx k)∧sumR l=x.2.2+sumR (l.eraseIdx k):=by
 induction l generalizing k with
 | nil=>simp at h
 | cons y r ih =>
  cases k with
  | zero=>simp at h;subst h;simp [sumW,sumR]
  | succ k =>
   simp only [List.getElem?_cons_succ] at h
   have:=ih h
   simp only [List.eraseIdx_cons_succ,sumW,sumR]
   omega
theorem Each.erase {l:List (Int×Int×Int)} (h:Each l) (k:Nat):Each (l.eraseIdx k):=fun x hx=>h x (List.mem_of_mem_eraseIdx hx)
def lagV (l:List (Int×Int×Int)) (x:Int×Int×Int):Int:=sumR l*x.2.1 - x.2.2*sumW l
theorem mul_bounds {a b A B:Int} (h0:0≤a) (h1:a≤A) (h2:0≤b) (h3:b≤B):0≤a*b∧a*b≤A*B:=
 ⟨Int.mul_nonneg h0 h2,Int.mul_le_mul h1 h3 h2 (Int.le_trans h0 h1)⟩
structure Bounds (l:List (Int×Int×Int)) (x:Int×Int×Int):Prop where
 w1:1≤x.2.1
 w2:x.2.1≤65536
 w3:x.2.1≤sumW l
 w4:sumW l≤67108864
 r1:0≤x.2.2
 r2:x.2.2≤sumR l
 r3:sumR l≤68719476736
 a1:0≤sumR l*x.2.1
 a2:sumR l*x.2.1≤4503599627370496
 b1:0≤x.2.2*sumW l
 b2:x.2.2*sumW l≤4611686018427387904
 rest:0<lagV l x→0<sumW l - x.2.1
theorem GoodL.bounds {l:List (Int×Int×Int)} (h:GoodL l) {k:Nat} {x:Int×Int×Int} (hx:l[k]?=some x):Bounds l x:=by
 have he:=h.ea
 have hm:=he x (List.mem_of_getElem? hx)
 have hs:=sum_split hx
 have e:=he.erase k
 have e1:=sumW_nn e
 have e2:=sumR_nn e
 have e3:=sumW_nn he
 have e4:=h.many
 have e5:=h.ran
 have r0:=sumR_nn he
 have hw4:sumW l≤67108864:=by omega
 have p1:=mul_bounds (a:=sumR l) (b:=x.2.1) r0 e5 (by omega) hm.2.1
 have p2:=mul_bounds (a:=x.2.2) (b:=sumW l) (A:=68719476736) (B:=67108864) hm.2.2 (by omega) (by omega) hw4
 refine ⟨hm.1,hm.2.1,by omega,hw4,hm.2.2,by omega,e5,p1.1,by omega,p2.1,by omega,fun hl=>?_⟩
 rcases Nat.eq_zero_or_pos (l.eraseIdx k).length with z | z
 ·have:l.eraseIdx k=[]:=List.eq_nil_of_length_eq_zero z
  rw [this] at hs
  simp only [sumW,sumR,Int.add_zero] at hs
  unfold lagV at hl
  rw [hs.1,hs.2] at hl
  omega
 ·omega
def untilV (l:List (Int×Int×Int)) (x:Int×Int×Int):Int:=if lagV l x≤0 then 0 else (lagV l x+(sumW l - x.2.1) - 1) / (sumW l - x.2.1)
def bump (l:List (Int×Int×Int)) (id t:Int):List (Int×Int×Int):=l.map fun x=>if x.1=id then (x.1,x.2.1,x.2.2+t) else x
def hasId (l:List (Int×Int×Int)) (id:Int):Bool:=l.any fun x=>x.1 == id
theorem hasId_iff {l:List (Int×Int×Int)} {id:Int}:hasId l id=true↔∃ x∈l,x.1=id:=by simp [hasId]
theorem bump_len (l:List (Int×Int×Int)) (id t:Int):(bump l id t).length=l.length:=by simp [bump]
theorem bump_W (l:List (Int×Int×Int)) (id t:Int):sumW (bump l id t)=sumW l:=by
 induction l with
 | nil=>rfl
 | cons x r ih=>simp only [bump,List.map_cons,sumW] at ih ⊢;rw [ih];split <;> rfl
theorem bump_not (l:List (Int×Int×Int)) (id t:Int) (h:∀ x∈l,x.1≠id):bump l id t=l:=by
 unfold bump
 conv=>rhs;rw [← List.map_id l]
 exact List.map_congr_left fun x hx=>by simp [h x hx]
theorem bump_R (l:List (Int×Int×Int)) (id t:Int) (hp:l.Pairwise fun x y=>x.1<y.1) (h:∃ x∈l,x.1=id):sumR (bump l id t)=sumR l+t:=by
 induction l with
 | nil=>obtain ⟨x,hx,_⟩:=h;cases hx
 | cons x r ih =>
  rw [List.pairwise_cons] at hp
  by_cases hx:x.1=id
  ·have hn:∀ y∈r,y.1≠id:=fun y hy=>by have:=hp.1 y hy;omega
   have e:=bump_not r id t hn
   simp only [bump] at e
   simp only [bump,List.map_cons,sumR,if_pos hx,e]
   omega
  ·have:∃ y∈r,y.1=id:=by
    obtain ⟨y,hy,he⟩:=h
    rcases List.mem_cons.1 hy with rfl | hy
    ·exact absurd he hx
    ·exact ⟨y,hy,he⟩
   have e:=ih hp.2 this
   simp only [bump] at e
   simp only [bump,List.map_cons,sumR,if_neg hx,e]
   omega
theorem bump_get {l:List (Int×Int×Int)} {id t:Int} {k:Nat} {x:Int×Int×Int} (h:(bump l id t)[k]?=some x):∃ y,l[k]?=some y∧x=if y.1=id then (y.1,y.2.1,y.2.2+t) else y:=by
 simp only [bump,List.getElem?_map,Option.map_eq_some_iff] at h
 obtain ⟨y,hy,e⟩:=h
 exact ⟨y,hy,e.symm⟩
theorem bump_ids (l:List (Int×Int×Int)) (id t:Int):(bump l id t).map (·.1)=l.map (·.1):=by
 simp only [bump,List.map_map]
 exact List.map_congr_left fun x hx=>by simp only [Function.comp];split <;> rfl
theorem GoodL.bump {l:List (Int×Int×Int)} (h:GoodL l) {id t:Int} (hi:∃ x∈l,x.1=id) (h0:0≤t) (h1:sumR l+t≤68719476736):GoodL (bump l id t):=by
 refine ⟨fun x hx=>?_,?_,by rw [bump_len];exact h.many,by rw [bump_len];exact h.pos,by rw [bump_R l id t h.ids hi];exact h1⟩
 ·obtain ⟨k,hk⟩:=List.getElem?_of_mem hx
  obtain ⟨y,hy,rfl⟩:=bump_get hk
  have:=h.each y (List.mem_of_getElem? hy)
  split
  ·simp only;omega
  ·exact this
 ·have:∀ (a:List (Int×Int×Int)),(a.Pairwise fun x y=>x.1<y.1)↔(a.map (·.1)).Pairwise (·<·):=fun a=>by rw [List.pairwise_map]
  rw [this,bump_ids,← this]
  exact h.ids
def runC (l:List (Int×Int×Int)) (id t:Int):Int:=if t<0∨68719476736<t then 2 else if hasId l id=false then 6 else if 68719476736<sumR l+t then 4 else 0
def runL (l:List (Int×Int×Int)) (id t:Int):List (Int×Int×Int):=if runC l id t=0 then bump l id t else l
def tsk (l:List (Int×Int×Int)) (id:Int):Option (Int×Int×Int):=l.find? fun x=>x.1 == id
def lagR (l:List (Int×Int×Int)) (id:Int):Int:=match tsk l id with | some x=>lagV l x | none=>0
def untilR (l:List (Int×Int×Int)) (id:Int):Int:=match tsk l id with | some x=>untilV l x | none=>0
theorem tsk_at {l:List (Int×Int×Int)} (h:GoodL l) {k:Nat} {x:Int×Int×Int} (hx:l[k]?=some x):tsk l x.1=some x:=by
 have hp:=h.ids
 clear h
 unfold tsk
 induction l generalizing k with
 | nil=>simp at hx
 | cons y r ih =>
  rw [List.pairwise_cons] at hp
  cases k with
  | zero=>simp at hx;subst hx;simp
  | succ k =>
   simp only [List.getElem?_cons_succ] at hx
   have:=hp.1 x (List.mem_of_getElem? hx)
   rw [List.find?_cons_of_neg (by simp;omega)]
   exact ih hx hp.2
theorem tsk_none {l:List (Int×Int×Int)} {id:Int} (h:∀ x∈l,x.1≠id):tsk l id=none:=by
 unfold tsk;rw [List.find?_eq_none];intro x hx;simpa using h x hx
theorem hasId_not {l:List (Int×Int×Int)} {id:Int} (h:∀ x∈l,x.1≠id):hasId l id=false:=by
 rw [Bool.eq_false_iff];intro e;obtain ⟨x,hx,he⟩:=hasId_iff.1 e;exact h x hx he
end Go.Proofs.YtapnaocdehahdaaGreat
namespace Go.Proofs.YtapnaocdehahdaaGreat
open Go.RowKit Go.Maps Go.IntWalk
set_option linter.unusedVariables false
theorem lawIL:Keyed Tryz.prog 3:=int_keyed Tryz.underlying3
theorem zeroIL (w:World):(zeroValue 3).run Tryz.prog w=.ok (.int .i64 0) w:=by kernel_rfl
def PlacesOf (D:DataW Unit) (l:List (Int×Int×Int)):Prop:=
 (∀ (k:Nat) (x:Int×Int×Int),l[k]?=some x→has D (.int .i64 x.1)=true∧D.atKey (.int .i64 x.1) (.lit (.int .i64 0))=.lit (.int .i64 k)) ∧
 (∀ id:Int,(∀ x∈l,x.1≠id)→has D (.int .i64 id)=false)
structure MeterAt (w:World) (p g bm cap:Nat) (l:List (Int×Int×Int)) (n:Nat):Prop where
 good:GoodL l
 len:l.length=n
 ncap:n≤cap
 c0:w.cell? ⟨p,0,none⟩=some (.slice (some ⟨g,0,none⟩) n cap)
 c1:w.cell? ⟨p,1,none⟩=some (.map (some bm))
 c2:w.cell? ⟨p,2,none⟩=some (.int .i64 (sumR l))
 c3:w.cell? ⟨p,3,none⟩=some (.int .i64 (sumW l))
 fp:∀ j,w.frozen? ⟨p,j,none⟩=false
 fg:∀ j,w.frozen? ⟨g,j,none⟩=false
 runs:∀ (k:Nat) (x:Int×Int×Int),l[k]?=some x→w.cell? ⟨g,k*3,none⟩=some (.int .i64 x.1)∧w.cell? ⟨g,k*3+1,none⟩=some (.int .i64 x.2.1)∧w.cell? ⟨g,k*3+2,none⟩=some (.int .i64 x.2.2)
 map:∃ (m:Nat) (D:DataW Unit),w.ownsMap Tryz.prog 3 (plainElem Tryz.prog 3) bm m D∧PlacesOf D l
 apart:p≠g∧p≠bm∧g≠bm
theorem MeterAt.pos {w:World} {p g bm cap:Nat} {l:List (Int×Int×Int)} {n:Nat} (h:MeterAt w p g bm cap l n):0<n:=by rw [← h.len];exact h.good.pos
set_option maxHeartbeats 400000 in
theorem some_any (p g bm cap:Nat) (l:List (Int×Int×Int)) (n:Nat) (w:World) (h:MeterAt w p g bm cap l n) :
  Calls Tryz.prog 98 #[.pointer (some ⟨p,0,none⟩)] w fun e w'=>e=.returned (.bool true)∧w=w':=by
 have c0:=h.c0
 have z:decide (0<n)=true:=by have:=h.pos;simp;omega
 have H:=Lib.hid h
 clear h
 go_enter Tryz.func98,Tryz.ntmps98
 go_wp2
 go_ret
 exact ⟨rfl,rfl⟩
set_option maxHeartbeats 400000 in
theorem lag_any (p:Nat) (l:List (Int×Int×Int)) (a b c:Int) (w:World) (B:Bounds l (a,b,c)) (c2:w.cell? ⟨p,2,none⟩=some (.int .i64 (sumR l))) (c3:w.cell? ⟨p,3,none⟩=some (.int .i64 (sumW l))) :
  Calls Tryz.prog 177 #[.pointer (some ⟨p,0,none⟩),.agg #[.int .i64 a,.int .i64 b,.int .i64 c]] w fun e w'=>e=.returned (.int .i64 (lagV l (a,b,c)))∧Below w.heap.size w w':=by
 have hL:wrap64 (wrap64 (sumR l*b) - wrap64 (c*sumW l))=lagV l (a,b,c):=by
  obtain ⟨_,_,_,_,_,_,_,a1,a2,b1,b2,_⟩:=B
  simp only at a1 a2 b1 b2
  unfold lagV
  rw [wrap64_in (sumR l*b) (by omega),wrap64_in (c*sumW l) (by omega),wrap64_in _ (by omega)]
 have HL:=Lib.hid hL
 clear hL B
 generalize sumR l=tot at c2 HL
 generalize sumW l=wt at c3 HL
 have c2_1:=fun o1=>cell_al o1 c2
 have c3_1:=fun o1=>cell_al o1 c3
 have d0:=cell_nw w #[.int .i64 a,.int .i64 b,.int .i64 c] 174 0 _ rfl
 have d1:=cell_nw w #[.int .i64 a,.int .i64 b,.int .i64 c] 174 1 _ rfl
 have d2:=cell_nw w #[.int .i64 a,.int .i64 b,.int .i64 c] 174 2 _ rfl
 go_enter Tryz.func177,Tryz.ntmps177
 go_wp2
 go_quiet (fail)
 go_wp2
 go_ret
 refine ⟨ret_of (congrArg (Value.int .i64) HL.out),?_⟩
 repeat (first | exact Below.refl _ _ | refine Below.step ?_ (by assumption) | refine Below.setCell ?_ (by first | (simp;done) | (simp;omega) | omega) _ | refine Below.allocS ?_ _ | refine Below.drew ?_ | refine below_drewN ?_ _)
set_option maxRecDepth 100000 in
set_option maxHeartbeats 400000 in
theorem find_any (p g bm cap:Nat) (l:List (Int×Int×Int)) (n:Nat) (id:Int) (w:World) (h:MeterAt w p g bm cap l n) (hid:(Lit.int .i64 id).wf=true) :
  Calls Tryz.prog 97 #[.pointer (some ⟨p,0,none⟩),.int .i64 id] w fun e w'=>w=w' ∧
   ((∃ k x,l[k]?=some x∧x.1=id∧e=.returned (.tuple #[.pointer (some ⟨g,k*3,none⟩),.bool true])) ∨
   ((∀ x∈l,x.1≠id)∧e=.returned (.tuple #[.pointer none,.bool false]))):=by
 have c0:=h.c0
 have c1:=h.c1
 obtain ⟨m,D,hown,hpl⟩:=h.map
 have hkey:=keyOf_int_mk Tryz.underlying3 hid
 have A1:=Lib.hid fun W=>some_any p g bm cap l n W
 have H:=Lib.hid h
 clear h
 go_enter Tryz.func97,Tryz.ntmps97
 go_wp2_with fail
 refine (A1.out _ H.out).mono ?_;rintro e w1 ⟨rfl,rfl⟩
 have cases:(∃ (k:Nat) (x:Int×Int×Int),l[k]?=some x∧x.1=id)∨(∀ x∈l,x.1≠id):=by
  by_cases hx:∃ x∈l,x.1=id
  ·obtain ⟨x,hm,he⟩:=hx
   obtain ⟨k,hk⟩:=List.getElem?_of_mem hm
   exact Or.inl ⟨k,x,hk,he⟩
  ·exact Or.inr fun x hm he=>hx ⟨x,hm,he⟩
 rcases cases with ⟨k,⟨x1,x2,x3⟩,hx,hxe⟩ | hno
 ·obtain ⟨hh,ha⟩:=hpl.1 k _ hx
  have hkn:k<n:=by rw [← H.out.len];exact (List.getElem?_eq_some_iff.1 hx).1
  simp only at hxe hh ha
  subst hxe
  have HX:=Lib.hid hx
  have HA:=Lib.hid ha
  have hin:(k:Int)<(n:Int):=by omega
  have hk0:(0:Int)≤(k:Int):=by omega
  clear hx ha hpl
  go_wp2_with (at_lookup;refine wpList_lookup_own_ok_int _ rfl _ _ 170 rfl 3 3 .i64 lawIL Tryz.underlying170 Tryz.underlying3 (zeroIL _) bm m D rfl hown _ _ rfl hkey ?_;intro c hat hwc;have hck:c=(k:Int):=(Lit.int.inj (DataW.lit.inj (hat.symm.trans HA.out))).2;clear hat hwc;subst hck)
  go_ret2
  exact ⟨rfl,Or.inl ⟨k,_,HX.out,rfl,by go_num⟩⟩
 ·have hh:=hpl.2 _ hno
  have HN:=Lib.hid hno
  clear hno hpl
  go_wp2_with (at_lookup;refine wpList_lookup_own_ok_int _ rfl _ _ 170 rfl 3 3 .i64 lawIL Tryz.underlying170 Tryz.underlying3 (zeroIL _) bm m D rfl hown _ _ rfl hkey ?_;intro c hat hwc;clear hat hwc)
  go_ret2
  exact ⟨rfl,Or.inr ⟨HN.out,rfl⟩⟩
set_option maxRecDepth 100000 in
set_option maxHeartbeats 400000 in
theorem Total_any (p g bm cap:Nat) (l:List (Int×Int×Int)) (n:Nat) (w:World) (h:MeterAt w p g bm cap l n) :
  Calls Tryz.prog 105 #[.pointer (some ⟨p,0,none⟩)] w fun e w'=>e=.returned (.int .i64 (sumR l))∧w=w':=by
 have c2:=h.c2
 have A1:=Lib.hid fun W=>some_any p g bm cap l n W
 have H:=Lib.hid h
 clear h
 go_enter Tryz.func105,Tryz.ntmps105
 go_wp2_with fail
 refine (A1.out _ H.out).mono ?_;rintro e w1 ⟨rfl,rfl⟩
 go_wp2
 go_ret
 exact ⟨rfl,rfl⟩
set_option maxRecDepth 100000 in
set_option maxHeartbeats 400000 in
theorem Weight_any (p g bm cap:Nat) (l:List (Int×Int×Int)) (n:Nat) (w:World) (h:MeterAt w p g bm cap l n) :
  Calls Tryz.prog 100 #[.pointer (some ⟨p,0,none⟩)] w fun e w'=>e=.returned (.int .i64 (sumW l))∧w=w':=by
 have c3:=h.c3
 have A1:=Lib.hid fun W=>some_any p g bm cap l n W
 have H:=Lib.hid h
 clear h
 go_enter Tryz.func100,Tryz.ntmps100
 go_wp2_with fail
 refine (A1.out _ H.out).mono ?_;rintro e w1 ⟨rfl,rfl⟩
 go_wp2
 go_ret
 exact ⟨rfl,rfl⟩
def At (l:List (Int×Int×Int)) (id:Int) (k:Nat) (x:Int×Int×Int):Prop:=l[k]?=some x∧x.1=id
def NotIn (l:List (Int×Int×Int)) (id:Int):Prop:=∀ x∈l,x.1≠id
set_option maxRecDepth 100000 in
set_option maxHeartbeats 400000 in
theorem Lag_any (p g bm cap:Nat) (l:List (Int×Int×Int)) (n:Nat) (id:Int) (w:World) (h:MeterAt w p g bm cap l n) (hid:(Lit.int .i64 id).wf=true) :
  Calls Tryz.prog 99 #[.pointer (some ⟨p,0,none⟩),.int .i64 id] w fun e w'=>Below w.heap.size w w' ∧
   ((∃ k x,At l id k x∧e=.returned (.tuple #[.int .i64 (lagV l x),.bool true]))∨(NotIn l id∧e=.returned (.tuple #[.int .i64 0,.bool false]))):=by
 have A1:=Lib.hid fun W=>fun h=>find_any p g bm cap l n id W h hid
 have c2:=h.c2
 have c3:=h.c3
 have H:=Lib.hid h
 clear h
 go_enter Tryz.func99,Tryz.ntmps99
 go_wp2_with fail
 refine (A1.out _ H.out).mono ?_;rintro e w1 ⟨rfl,⟨k,⟨x1,x2,x3⟩,hx,hxe,rfl⟩ | ⟨hno,rfl⟩⟩
 ·obtain ⟨r0,r1,r2⟩:=H.out.runs k _ hx
  simp only at r0 r1 r2
  have HX:=Lib.hid hx
  have HE:=Lib.hid hxe
  have A2:=Lib.hid (lag_any p l x1 x2 x3 w (H.out.good.bounds hx) c2 c3)
  clear hx hxe
  go_wp2_with fail
  refine A2.out.mono ?_;rintro e w1 ⟨rfl,hb1⟩
  go_wp2
  go_ret2
  exact ⟨hb1,Or.inl ⟨k,_,⟨HX.out,HE.out⟩,rfl⟩⟩
 ·have HN:=Lib.hid hno
  clear hno
  go_wp2
  go_ret2
  exact ⟨Below.refl _ _,Or.inr ⟨HN.out,rfl⟩⟩
def UntilP (l:List (Int×Int×Int)) (id:Int) (e:Ending):Prop:=
 (∃ k x,At l id k x∧e=.returned (.tuple #[.int .i64 (untilV l x),.int .i64 0]))∨(NotIn l id∧e=.returned (.tuple #[.int .i64 0,.int .i64 6]))
set_option maxRecDepth 100000 in
set_option maxHeartbeats 1000000 in
theorem Until_any (p g bm cap:Nat) (l:List (Int×Int×Int)) (n:Nat) (id:Int) (w:World) (h:MeterAt w p g bm cap l n) (hid:(Lit.int .i64 id).wf=true) :
  Calls Tryz.prog 104 #[.pointer (some ⟨p,0,none⟩),.int .i64 id] w fun e w'=>Below w.heap.size w w'∧UntilP l id e:=by
 have A0:=Lib.hid fun W=>some_any p g bm cap l n W
 have A1:=Lib.hid fun W=>fun h=>find_any p g bm cap l n id W h hid
 have c2:=h.c2
 have c3:=h.c3
 have H:=Lib.hid h
 clear h
 go_enter Tryz.func104,Tryz.ntmps104
 go_wp2_with fail
 refine (A0.out _ H.out).mono ?_;rintro e w1 ⟨rfl,rfl⟩
 go_wp2_with fail
 refine (A1.out _ H.out).mono ?_;rintro e w1 ⟨rfl,⟨k,⟨x1,x2,x3⟩,hx,hxe,rfl⟩ | ⟨hno,rfl⟩⟩
 ·obtain ⟨r0,r1,r2⟩:=H.out.runs k _ hx
  simp only at r0 r1 r2
  have HX:=Lib.hid hx
  have HE:=Lib.hid hxe
  have HB:=Lib.hid (H.out.good.bounds hx)
  have A2:=Lib.hid fun W=>lag_any p l x1 x2 x3 W (H.out.good.bounds hx)
  have hw:wrap64 (sumW l - x2)=sumW l - x2:=by
   obtain ⟨b1,b2,b3,b4,_⟩:=HB.out
   simp only at b1 b2 b3 b4
   exact wrap64_in _ (by omega)
  clear hx hxe
  go_wp2_with fail
  have c2_1:=fun o1=>cell_al o1 (c2)
  have c2_2:=fun o1 o2=>cell_al o2 (cell_al o1 (c2))
  have c3_1:=fun o1=>cell_al o1 (c3)
  have c3_2:=fun o1 o2=>cell_al o2 (cell_al o1 (c3))
  have r0_1:=fun o1=>cell_al o1 (r0)
  have r0_2:=fun o1 o2=>cell_al o2 (cell_al o1 (r0))
  have r1_1:=fun o1=>cell_al o1 (r1)
  have r1_2:=fun o1 o2=>cell_al o2 (cell_al o1 (r1))
  have r2_1:=fun o1=>cell_al o1 (r2)
  have r2_2:=fun o1 o2=>cell_al o2 (cell_al o1 (r2))
  clear c2_1 c2_2 c3_1 c3_2 r0_1 r0_2 r1_1 r1_2 r2_1 r2_2
  have hS0:Below w.heap.size w w.drew∧w.drew.cell? ⟨p,2,none⟩=some (.int .i64 (sumR l))∧w.drew.cell? ⟨p,3,none⟩=some (.int .i64 (sumW l))∧w.drew.cell? ⟨g,k*3,none⟩=some (.int .i64 x1)∧w.drew.cell? ⟨g,k*3+1,none⟩=some (.int .i64 x2)∧w.drew.cell? ⟨g,k*3+2,none⟩=some (.int .i64 x3):=⟨(Below.drew (Below.refl _ _)),cell_dr c2,cell_dr c3,cell_dr r0,cell_dr r1,cell_dr r2⟩
  go_region_held3 (fun w'=>Below w.heap.size w w'∧w'.cell? ⟨p,2,none⟩=some (.int .i64 (sumR l))∧w'.cell? ⟨p,3,none⟩=some (.int .i64 (sumW l))∧w'.cell? ⟨g,k*3,none⟩=some (.int .i64 x1)∧w'.cell? ⟨g,k*3+1,none⟩=some (.int .i64 x2)∧w'.cell? ⟨g,k*3+2,none⟩=some (.int .i64 x3)) (first | assumption | (refine held_5 (by assumption) ?_;assumption) | (refine held_5 (below_ad _ _) ?_;assumption) | (refine held_5 (below_a _ _) ?_;assumption)) (first | (go_at_call 177;refine (A2.out _ (by assumption) (by assumption)).mono ?_;rintro e w5 ⟨rfl,hb5⟩))
  clear hS0
  rename_i hH
  obtain ⟨hbq,c2,c3,r0,r1,r2⟩:=hH
  by_cases hL:lagV l (x1,x2,x3)≤0
  ·go_wp2_with fail
   go_ret2
   refine ⟨hbq,Or.inl ⟨k,(x1,x2,x3),⟨HX.out,HE.out⟩,?_⟩⟩
   rw [show untilV l (x1,x2,x3)=0 from if_pos hL]
   rfl
  ·obtain ⟨b1,b2,b3,b4,b5,b6,b7,b8,b9,b10,b11,b12⟩:=HB.out
   simp only at b1 b2 b3 b4 b5 b6 b7 b8 b9 b10 b11 b12
   have h1:=b12 (by omega)
   have hm:lagV l (x1,x2,x3)≤4503599627370496:=by unfold lagV;simp only;omega
   have q1:wrap64 (lagV l (x1,x2,x3)+(sumW l - x2))=lagV l (x1,x2,x3)+(sumW l - x2):=wrap64_in _ (by omega)
   have q2:wrap64 (lagV l (x1,x2,x3)+(sumW l - x2) - 1)=lagV l (x1,x2,x3)+(sumW l - x2) - 1:=wrap64_in _ (by omega)
   have hz:¬ (sumW l - x2=0):=by omega
   go_wp2_with fail
   go_ret2
   refine ⟨hbq,Or.inl ⟨k,(x1,x2,x3),⟨HX.out,HE.out⟩,?_⟩⟩
   rw [show untilV l (x1,x2,x3)=(lagV l (x1,x2,x3)+(sumW l - x2) - 1) / (sumW l - x2) from if_neg (by omega)]
   rfl
 ·have HN:=Lib.hid hno
  clear hno
  go_wp2
  go_ret2
  exact ⟨Below.refl _ _,Or.inr ⟨HN.out,rfl⟩⟩
theorem MeterAt.frame {w w':World} {p g bm cap:Nat} {l:List (Int×Int×Int)} {n:Nat} (h:MeterAt w p g bm cap l n) (hp:w'.heap[p]?=w.heap[p]?) (hg:w'.heap[g]?=w.heap[g]?) (hm:w'.heap[bm]?=w.heap[bm]?):MeterAt w' p g bm cap l n:=by
 have c:∀ o,w'.cell? ⟨p,o,none⟩=w.cell? ⟨p,o,none⟩:=fun o=>World.cell?_of_block (w:=w) (a:=⟨p,o,none⟩) hp
 have d:∀ o,w'.cell? ⟨g,o,none⟩=w.cell? ⟨g,o,none⟩:=fun o=>World.cell?_of_block (w:=w) (a:=⟨g,o,none⟩) hg
 have f:∀ o,w'.frozen? ⟨p,o,none⟩=w.frozen? ⟨p,o,none⟩:=fun o=>World.frozen?_of_block (w:=w) (a:=⟨p,o,none⟩) hp
 have f':∀ o,w'.frozen? ⟨g,o,none⟩=w.frozen? ⟨g,o,none⟩:=fun o=>World.frozen?_of_block (w:=w) (a:=⟨g,o,none⟩) hg
 refine ⟨h.good,h.len,h.ncap,(c _).trans h.c0,(c _).trans h.c1,(c _).trans h.c2,(c _).trans h.c3,fun j=>(f _).trans (h.fp j),fun j=>(f' _).trans (h.fg j),fun k x hx=>?_,?_,h.apart⟩
 ·obtain ⟨a,b,e⟩:=h.runs k x hx
  exact ⟨(d _).trans a,(d _).trans b,(d _).trans e⟩
 ·obtain ⟨m,D,⟨es,clock,hb,rest⟩,hD⟩:=h.map
  exact ⟨m,D,⟨es,clock,hm.trans hb,rest⟩,hD⟩
theorem MeterAt.lts {w:World} {p g bm cap:Nat} {l:List (Int×Int×Int)} {n:Nat} (h:MeterAt w p g bm cap l n):p<w.heap.size∧g<w.heap.size∧bm<w.heap.size:=by
 obtain ⟨m,D,hm,_⟩:=h.map
 refine ⟨lt_of_cell h.c0,?_,hm.lt⟩
 have hp:=h.good.pos
 obtain ⟨a,_,_⟩:=h.runs 0 l[0] (List.getElem?_eq_getElem hp)
 exact lt_of_cell a
theorem MeterAt.below {w w':World} {p g bm cap:Nat} {l:List (Int×Int×Int)} {n:Nat} (h:MeterAt w p g bm cap l n) (hb:Below w.heap.size w w'):MeterAt w' p g bm cap l n:=
 h.frame (hb.block _ h.lts.1) (hb.block _ h.lts.2.1) (hb.block _ h.lts.2.2)
theorem MeterAt.ran {w:World} {p g bm cap:Nat} {l:List (Int×Int×Int)} {n:Nat} (h:MeterAt w p g bm cap l n) {k:Nat} {x:Int×Int×Int} {t:Int} (hx:l[k]?=some x) (h0:0≤t) (h1:sumR l+t≤68719476736) :
  MeterAt ((w.setCell ⟨g,k*3+2,none⟩ (.int .i64 (x.2.2+t))).setCell ⟨p,2,none⟩ (.int .i64 (sumR l+t))) p g bm cap (bump l x.1 t) n:=by
 obtain ⟨a1,a2,a3⟩:=h.apart
 have hi:∃ y∈l,y.1=x.1:=⟨x,List.mem_of_getElem? hx,rfl⟩
 refine ⟨h.good.bump hi h0 h1,by rw [bump_len];exact h.len,h.ncap,?_,?_,?_,?_,fun j=>by rw [World.frozen?_setCell,World.frozen?_setCell];exact h.fp j,fun j=>by rw [World.frozen?_setCell,World.frozen?_setCell];exact h.fg j,fun j y hy=>?_,?_,h.apart⟩
 ·exact cell_set_ne (cell_set_ne h.c0 (Or.inl a1)) (Or.inr (by omega))
 ·exact cell_set_ne (cell_set_ne h.c1 (Or.inl a1)) (Or.inr (by omega))
 ·rw [bump_R l _ t h.good.ids hi]
  exact cell_set_eq (cell_set_ne h.c2 (Or.inl a1))
 ·rw [bump_W]
  exact cell_set_ne (cell_set_ne h.c3 (Or.inl a1)) (Or.inr (by omega))
 ·obtain ⟨z,hz,rfl⟩:=bump_get hy
  obtain ⟨b0,b1,b2⟩:=h.runs j z hz
  by_cases hj:j=k
  ·subst hj
   obtain rfl:z=x:=by rw [hz] at hx;exact Option.some.inj hx
   rw [if_pos rfl]
   refine ⟨cell_set_ne (cell_set_ne b0 (Or.inr (by omega))) (Or.inl (Ne.symm a1)),cell_set_ne (cell_set_ne b1 (Or.inr (by omega))) (Or.inl (Ne.symm a1)),cell_set_ne (cell_set_eq b2) (Or.inl (Ne.symm a1))⟩
  ·have hne:z.1≠x.1:=fun e=>by
    have e1:=tsk_at h.good hz
    have e2:=tsk_at h.good hx
    rw [e,e2] at e1
    obtain rfl:=Option.some.inj e1
    obtain ⟨lj,ej⟩:=List.getElem?_eq_some_iff.1 hz
    obtain ⟨lk,ek⟩:=List.getElem?_eq_some_iff.1 hx
    have hp:=List.pairwise_iff_getElem.1 h.good.ids
    rcases Nat.lt_or_gt_of_ne hj with q | q
    ·have:=hp j k lj lk q;rw [ej,ek] at this;omega
    ·have:=hp k j lk lj q;rw [ej,ek] at this;omega
   rw [if_neg hne]
   refine ⟨cell_set_ne (cell_set_ne b0 (Or.inr (by omega))) (Or.inl (Ne.symm a1)),cell_set_ne (cell_set_ne b1 (Or.inr (by omega))) (Or.inl (Ne.symm a1)),cell_set_ne (cell_set_ne b2 (Or.inr (by omega))) (Or.inl (Ne.symm a1))⟩
 ·obtain ⟨m,D,⟨es,clock,hb,rest⟩,hD⟩:=h.map
  refine ⟨m,D,⟨es,clock,?_,rest⟩,?_,fun id hid=>?_⟩
  ·rw [heap_set_ne (Ne.symm a2),heap_set_ne (Ne.symm a3)];exact hb
  ·intro j y hy
   obtain ⟨z,hz,rfl⟩:=bump_get hy
   have:=hD.1 j z hz
   split <;> exact this
  ·refine hD.2 id fun y hy e=>?_
   have:id∈l.map (·.1):=List.mem_map.2 ⟨y,hy,e⟩
   rw [← bump_ids l x.1 t,List.mem_map] at this
   obtain ⟨z,hz,e⟩:=this
   exact hid z hz e
structure RunP (p g bm cap:Nat) (l:List (Int×Int×Int)) (n:Nat) (id t:Int) (w:World) (e:Ending) (w':World):Prop where
 ret:e=.returned (.int .i64 (runC l id t))
 meter:MeterAt w' p g bm cap (runL l id t) n
 kept:Kept [p,g] w w'
theorem runP_same {p g bm cap:Nat} {l:List (Int×Int×Int)} {n:Nat} {id t c:Int} {w:World} (h:MeterAt w p g bm cap l n) (hc:runC l id t=c) (h0:c≠0):RunP p g bm cap l n id t w (.returned (.int .i64 c)) w:=
 ⟨by rw [hc],by rw [runL,if_neg (by rw [hc];exact h0)];exact h,Kept.refl _ _⟩
set_option maxRecDepth 100000 in
set_option maxHeartbeats 1000000 in
theorem Run_any (p g bm cap:Nat) (l:List (Int×Int×Int)) (n:Nat) (id t:Int) (w:World) (h:MeterAt w p g bm cap l n) (hid:(Lit.int .i64 id).wf=true) (ht:(Lit.int .i64 t).wf=true) :
  Calls Tryz.prog 42 #[.pointer (some ⟨p,0,none⟩),.int .i64 id,.int .i64 t] w (RunP p g bm cap l n id t w):=by
 have A0:=Lib.hid fun W=>some_any p g bm cap l n W
 have A1:=Lib.hid fun W=>fun h=>find_any p g bm cap l n id W h hid
 have c2:=h.c2
 have H:=Lib.hid h
 clear h
 go_enter Tryz.func42,Tryz.ntmps42
 go_wp2_with fail
 refine (A1.out _ H.out).mono ?_;rintro e w1 ⟨rfl,⟨k,⟨x1,x2,x3⟩,hx,hxe,rfl⟩ | ⟨hno,rfl⟩⟩
 ·obtain ⟨r0,r1,r2⟩:=H.out.runs k _ hx
  simp only at r0 r1 r2 hxe
  subst hxe
  have HX:=Lib.hid hx
  have HB:=H.out.good.bounds hx
  have f1:=H.out.fg (k*3+2)
  have f2:=H.out.fp 2
  have HH:=Lib.hid (hasId_iff.2 ⟨_,List.mem_of_getElem? hx,rfl⟩)
  have apart:=H.out.apart.1
  obtain ⟨b1,b2,b3,b4,b5,b6,b7,_⟩:=HB
  simp only at b1 b2 b3 b4 b5 b6 b7
  clear hx
  go_wp2_with fail
  refine (A0.out _ H.out).mono ?_;rintro e w1 ⟨rfl,rfl⟩
  by_cases ht0:t<0
  ·go_wp2_with fail
   go_ret
   exact runP_same H.out (if_pos (Or.inl ht0)) (by decide)
  ·by_cases ht1:68719476736<t
   ·go_wp2_with fail
    go_ret
    exact runP_same H.out (if_pos (Or.inr ht1)) (by decide)
   ·have hs:wrap64 (sumR l+t)=sumR l+t:=wrap64_in _ (by omega)
    have hs2:wrap64 (x3+t)=x3+t:=wrap64_in _ (by omega)
    by_cases hf:68719476736<sumR l+t
    ·go_wp2_with fail
     go_ret
     exact runP_same H.out ((if_neg (by omega)).trans ((if_neg (by rw [HH.out];decide)).trans (if_pos hf))) (by decide)
    ·have HC:=Lib.hid (show runC l x1 t=0 from (if_neg (by omega)).trans ((if_neg (by rw [HH.out];decide)).trans (if_neg hf)))
     have c2':(w.setCell ⟨g,k*3+2,none⟩ (.int .i64 (x3+t))).cell? ⟨p,2,none⟩=some (.int .i64 (sumR l)):=cell_set_ne c2 (Or.inl apart)
     go_wp2_with fail
     go_ret
     refine ⟨by rw [HC.out];rfl,?_,?_⟩
     ·rw [runL,if_pos HC.out];exact H.out.ran HX.out (by omega) (by omega)
     ·exact ((Kept.refl _ _).setCell (Or.inl (by simp)) _).setCell (Or.inl (by simp)) _
 ·have HH:=Lib.hid (hasId_not hno)
  clear hno
  go_wp2_with fail
  refine (A0.out _ H.out).mono ?_;rintro e w1 ⟨rfl,rfl⟩
  by_cases ht0:t<0
  ·go_wp2_with fail
   go_ret
   exact runP_same H.out (if_pos (Or.inl ht0)) (by decide)
  ·by_cases ht1:68719476736<t
   ·go_wp2_with fail
    go_ret
    exact runP_same H.out (if_pos (Or.inr ht1)) (by decide)
   ·go_wp2_with fail
    go_ret
    exact runP_same H.out ((if_neg (by omega)).trans (if_pos HH.out)) (by decide)
theorem at_fn {l:List (Int×Int×Int)} {id:Int} {k:Nat} {x:Int×Int×Int} (hg:GoodL l) (h:At l id k x):tsk l id=some x∧hasId l id=true:=by
 obtain ⟨h1,rfl⟩:=h
 exact ⟨tsk_at hg h1,hasId_iff.2 ⟨x,List.mem_of_getElem? h1,rfl⟩⟩
theorem Lag_fn (p g bm cap:Nat) (l:List (Int×Int×Int)) (n:Nat) (id:Int) (w:World) (h:MeterAt w p g bm cap l n) (hid:(Lit.int .i64 id).wf=true) :
  Calls Tryz.prog 99 #[.pointer (some ⟨p,0,none⟩),.int .i64 id] w fun e w'=>e=.returned (.tuple #[.int .i64 (lagR l id),.bool (hasId l id)])∧Below w.heap.size w w':=by
 refine (Lag_any p g bm cap l n id w h hid).mono ?_
 rintro e w' ⟨hb,⟨k,x,ha,rfl⟩ | ⟨hn,rfl⟩⟩
 ·obtain ⟨h1,h2⟩:=at_fn h.good ha
  exact ⟨by rw [lagR,h1,h2],hb⟩
 ·exact ⟨by rw [lagR,tsk_none hn,hasId_not hn],hb⟩
theorem Until_fn (p g bm cap:Nat) (l:List (Int×Int×Int)) (n:Nat) (id:Int) (w:World) (h:MeterAt w p g bm cap l n) (hid:(Lit.int .i64 id).wf=true) :
  Calls Tryz.prog 104 #[.pointer (some ⟨p,0,none⟩),.int .i64 id] w fun e w'=>e=.returned (.tuple #[.int .i64 (untilR l id),.int .i64 (if hasId l id=true then 0 else 6)])∧Below w.heap.size w w':=by
 refine (Until_any p g bm cap l n id w h hid).mono ?_
 rintro e w' ⟨hb,⟨k,x,ha,rfl⟩ | ⟨hn,rfl⟩⟩
 ·obtain ⟨h1,h2⟩:=at_fn h.good ha
  exact ⟨by rw [untilR,h1,h2];rfl,hb⟩
 ·exact ⟨by rw [untilR,tsk_none hn,hasId_not hn];rfl,hb⟩
end Go.Proofs.YtapnaocdehahdaaGreat
