/-
  The walks of layer 39 (lag): Spread.
-/
import Derived.Test.YtapnaocdehahdaaGreatLgA
import Derived.Outline
import Derived.Test.YtapnaocdehahdaaGreatKtA
namespace Go.Proofs.YtapnaocdehahdaaGreat
open Go.RowKit Go.Maps Go.IntWalk
set_option linter.unusedVariables false
def mostV (l:List (Int×Int×Int)) (m:Int) (k:Nat):Int:=(l.take k).foldl (fun a x=>max a (lagV l x)) m
def leastVL (l:List (Int×Int×Int)) (m:Int) (k:Nat):Int:=(l.take k).foldl (fun a x=>min a (lagV l x)) m
theorem mostV_succ {l:List (Int×Int×Int)} {m:Int} {k:Nat} {x:Int×Int×Int} (h:l[k]?=some x):mostV l m (k+1)=max (mostV l m k) (lagV l x):=by
 unfold mostV
 rw [List.take_add_one,h,Option.toList_some,List.foldl_append];rfl
theorem leastV_succ {l:List (Int×Int×Int)} {m:Int} {k:Nat} {x:Int×Int×Int} (h:l[k]?=some x):leastVL l m (k+1)=min (leastVL l m k) (lagV l x):=by
 unfold leastVL
 rw [List.take_add_one,h,Option.toList_some,List.foldl_append];rfl
def SpreadP (l:List (Int×Int×Int)) (e:Ending):Prop:=∃ x,l[0]?=some x∧e=.returned (.tuple #[.int .i64 (mostV l (lagV l x) l.length),.int .i64 (leastVL l (lagV l x) l.length)])
set_option maxRecDepth 100000 in
set_option maxHeartbeats 1000000 in
theorem Spread_any (p g bm cap:Nat) (l:List (Int×Int×Int)) (n:Nat) (w:World) (h:MeterAt w p g bm cap l n) :
  Calls Tryz.prog 101 #[.pointer (some ⟨p,0,none⟩)] w fun e w'=>Below w.heap.size w w'∧SpreadP l e:=by
 have A0:=Lib.hid fun W=>some_any p g bm cap l n W
 have c0:=h.c0
 have c2:=h.c2
 have c3:=h.c3
 have hpos:=h.pos
 have hn:n≤1024:=by rw [← h.len];exact h.good.many
 have h0:0<l.length:=h.good.pos
 obtain ⟨⟨x1,x2,x3⟩,hx⟩:∃ x,l[0]?=some x:=⟨_,List.getElem?_eq_getElem h0⟩
 obtain ⟨r0,r1,r2⟩:=h.runs 0 _ hx
 simp only at r0 r1 r2
 have HX:=Lib.hid hx
 have H:=Lib.hid h
 have c2':=c2
 have c3':=c3
 have C2:=Lib.hid c2'
 have C3:=Lib.hid c3'
 clear c2' c3'
 have A2:=Lib.hid fun W=>lag_any p l x1 x2 x3 W (H.out.good.bounds hx)
 clear h hx h0
 go_enter Tryz.func101,Tryz.ntmps101
 go_wp2_with fail
 refine (A0.out _ H.out).mono ?_;rintro e w1 ⟨rfl,rfl⟩
 go_wp2_with fail
 have c0_1:=fun o1=>cell_al o1 (c0)
 have c0_2:=fun o1 o2=>cell_al o2 (cell_al o1 (c0))
 have c2_1:=fun o1=>cell_al o1 (c2)
 have c2_2:=fun o1 o2=>cell_al o2 (cell_al o1 (c2))
 have c3_1:=fun o1=>cell_al o1 (c3)
 have c3_2:=fun o1 o2=>cell_al o2 (cell_al o1 (c3))
 have r0_1:=fun o1=>cell_al o1 (r0)
 have r0_2:=fun o1 o2=>cell_al o2 (cell_al o1 (r0))
 have r1_1:=fun o1=>cell_al o1 (r1)
 have r1_2:=fun o1 o2=>cell_al o2 (cell_al o1 (r1))
 have r2_1:=fun o1=>cell_al o1 (r2)
 have r2_2:=fun o1 o2=>cell_al o2 (cell_al o1 (r2))
 clear c0_1 c0_2 c2_1 c2_2 c3_1 c3_2 r0_1 r0_2 r1_1 r1_2 r2_1 r2_2
 have hS0:Below w.heap.size w w.drew∧w.drew.cell? ⟨p,0,none⟩=some (.slice (some ⟨g,0,none⟩) n cap)∧w.drew.cell? ⟨p,2,none⟩=some (.int .i64 (sumR l))∧w.drew.cell? ⟨p,3,none⟩=some (.int .i64 (sumW l))∧w.drew.cell? ⟨g,0,none⟩=some (.int .i64 x1)∧w.drew.cell? ⟨g,1,none⟩=some (.int .i64 x2)∧w.drew.cell? ⟨g,2,none⟩=some (.int .i64 x3):=⟨(Below.drew (Below.refl _ _)),cell_dr c0,cell_dr c2,cell_dr c3,cell_dr r0,cell_dr r1,cell_dr r2⟩
 go_region_held3 (fun w'=>Below w.heap.size w w'∧w'.cell? ⟨p,0,none⟩=some (.slice (some ⟨g,0,none⟩) n cap)∧w'.cell? ⟨p,2,none⟩=some (.int .i64 (sumR l))∧w'.cell? ⟨p,3,none⟩=some (.int .i64 (sumW l))∧w'.cell? ⟨g,0,none⟩=some (.int .i64 x1)∧w'.cell? ⟨g,1,none⟩=some (.int .i64 x2)∧w'.cell? ⟨g,2,none⟩=some (.int .i64 x3)) (first | assumption | (refine held_6 (by assumption) ?_;assumption) | (refine held_6 (below_ad _ _) ?_;assumption) | (refine held_6 (below_a _ _) ?_;assumption)) (first | (go_at_call 177;refine (A2.out _ (by first | assumption | (go_split_ands;assumption)) (by first | assumption | (go_split_ands;assumption))).mono ?_;rintro e w5 ⟨rfl,hb5⟩))
 clear hS0
 rename_i hH
 obtain ⟨hbq,c0,c2,c3,r0,r1,r2⟩:=hH
 go_wp2_with fail
 go_loopw [4,5,32] (fun a b i wr=>∃ k:Nat,k≤n∧i=.int .i64 k∧a=.int .i64 (mostV l (lagV l (x1,x2,x3)) k)∧b=.int .i64 (leastVL l (lagV l (x1,x2,x3)) k)∧Below w.heap.size w wr) (fun _ _ i _=>n - (RowKit.intOf i).toNat)
 case atStart=>exact ⟨0,Nat.zero_le _,rfl,rfl,rfl,hbq⟩
 case round =>
  rename_i wr _ _
  obtain ⟨k,hk,rfl,rfl,rfl,hb⟩:=hrel
  by_cases hlt:k<n
  ·obtain ⟨⟨y1,y2,y3⟩,hy⟩:∃ x,l[k]?=some x:=⟨_,List.getElem?_eq_getElem (by rw [H.out.len];exact hlt)⟩
   obtain ⟨q0,q1,q2⟩:=H.out.runs k _ hy
   simp only at q0 q1 q2
   replace c2:=cell_later hb C2.out
   replace c3:=cell_later hb C3.out
   replace q0:=cell_later hb q0
   replace q1:=cell_later hb q1
   replace q2:=cell_later hb q2
   have HA:=Lib.hid (mostV_succ (m:=lagV l (x1,x2,x3)) hy)
   have HB:=Lib.hid (leastV_succ (m:=lagV l (x1,x2,x3)) hy)
   have A3:=Lib.hid fun W=>lag_any p l y1 y2 y3 W (H.out.good.bounds hy)
   have hk0:(0:Int)≤(k:Int):=by omega
   have hkn:(k:Int)<(n:Int):=by omega
   clear hy
   go_wp2_with fail
   have hbo:Below w.heap.size w (wr.alloc (.cells #[.int .i64 y1,.int .i64 y2,.int .i64 y3] 174)):=Below.allocS hb _
   replace c2:=cell_al (.cells #[.int .i64 y1,.int .i64 y2,.int .i64 y3] 174) c2
   replace c3:=cell_al (.cells #[.int .i64 y1,.int .i64 y2,.int .i64 y3] 174) c3
   have z0:=cell_nw wr #[.int .i64 y1,.int .i64 y2,.int .i64 y3] 174 0 _ rfl
   have z1:=cell_nw wr #[.int .i64 y1,.int .i64 y2,.int .i64 y3] 174 1 _ rfl
   have z2:=cell_nw wr #[.int .i64 y1,.int .i64 y2,.int .i64 y3] 174 2 _ rfl
   generalize (wr.alloc (.cells #[.int .i64 y1,.int .i64 y2,.int .i64 y3] 174))=wo at *
   have c2_1:=fun o1=>cell_al o1 (c2)
   have c2_2:=fun o1 o2=>cell_al o2 (cell_al o1 (c2))
   have c3_1:=fun o1=>cell_al o1 (c3)
   have c3_2:=fun o1 o2=>cell_al o2 (cell_al o1 (c3))
   have z0_1:=fun o1=>cell_al o1 (z0)
   have z0_2:=fun o1 o2=>cell_al o2 (cell_al o1 (z0))
   have z1_1:=fun o1=>cell_al o1 (z1)
   have z1_2:=fun o1 o2=>cell_al o2 (cell_al o1 (z1))
   have z2_1:=fun o1=>cell_al o1 (z2)
   have z2_2:=fun o1 o2=>cell_al o2 (cell_al o1 (z2))
   clear c2_1 c2_2 c3_1 c3_2 z0_1 z0_2 z1_1 z1_2 z2_1 z2_2
   have hS0:Below wo.heap.size wo wo.drew∧wo.drew.cell? ⟨p,2,none⟩=some (.int .i64 (sumR l))∧wo.drew.cell? ⟨p,3,none⟩=some (.int .i64 (sumW l))∧wo.drew.cell? ⟨wr.heap.size,0,none⟩=some (.int .i64 y1)∧wo.drew.cell? ⟨wr.heap.size,1,none⟩=some (.int .i64 y2)∧wo.drew.cell? ⟨wr.heap.size,2,none⟩=some (.int .i64 y3):=⟨(Below.drew (Below.refl _ _)),cell_dr c2,cell_dr c3,cell_dr z0,cell_dr z1,cell_dr z2⟩
   go_region_held3 (fun w'=>Below wo.heap.size wo w'∧w'.cell? ⟨p,2,none⟩=some (.int .i64 (sumR l))∧w'.cell? ⟨p,3,none⟩=some (.int .i64 (sumW l))∧w'.cell? ⟨wr.heap.size,0,none⟩=some (.int .i64 y1)∧w'.cell? ⟨wr.heap.size,1,none⟩=some (.int .i64 y2)∧w'.cell? ⟨wr.heap.size,2,none⟩=some (.int .i64 y3)) (first | assumption | (refine held_5 (by assumption) ?_;assumption) | (refine held_5 (below_ad _ _) ?_;assumption) | (refine held_5 (below_a _ _) ?_;assumption)) (first | (go_at_call 177;refine (A3.out _ (by first | assumption | (go_split_ands;assumption)) (by first | assumption | (go_split_ands;assumption))).mono ?_;rintro e w5 ⟨rfl,hb5⟩))
   clear hS0
   all_goals
    rename_i hH
    obtain ⟨hbq,_⟩:=hH
    have hbw:Below w.heap.size w w5:=Below.step hbo (hbq.mono (Nat.le_refl _))
    go_wp2_with fail
    go_roundw
    case rel=>exact ⟨k+1,by omega,by go_num,by rw [HA.out],by rw [HB.out],hbw⟩
    case measure=>simp [RowKit.intOf];omega
  ·obtain rfl:k=n:=by omega
   go_wp2_with fail
   go_ret2
   refine ⟨hb,_,HX.out,?_⟩
   rw [H.out.len];rfl
end Go.Proofs.YtapnaocdehahdaaGreat
namespace Go.Proofs.YtapnaocdehahdaaGreat
open Go.RowKit Go.Maps Go.IntWalk Go.Lib Go.Sort
set_option linter.unusedVariables false
def orVL (a b:Int):Int:=if a=0 then b else a
set_option maxRecDepth 100000 in
set_option maxHeartbeats 400000 in
theorem Or_anyL (B:Nat) (x y:Int) (w:World) (h0:w.cell? ⟨B,0,none⟩=some (.int .i64 x)) (h1:w.cell? ⟨B,1,none⟩=some (.int .i64 y)) :
  Calls Tryz.prog 181 #[.slice (some ⟨B,0,none⟩) 2 2] w fun e w'=>e=.returned (.int .i64 (orVL x y))∧w=w':=by
 by_cases hx:x=0
 ·subst hx
  by_cases hy:y=0
  ·subst hy
   go_enter Tryz.func181,Tryz.ntmps181
   go_wp2_with fail
   refine wp_loop_rounds 3 ?_
   rw [rounds_succ]
   go_wp2_with fail
   rw [rounds_succ]
   go_wp2_with fail
   rw [rounds_succ]
   go_wp2_with fail
   go_ret
   exact ⟨rfl,rfl⟩
  ·have hz:(y == 0)=false:=by simpa using hy
   have hz':(y != 0)=true:=by simpa using hy
   have ho:orVL 0 y=y:=rfl
   rw [ho]
   clear ho
   go_enter Tryz.func181,Tryz.ntmps181
   go_wp2_with fail
   refine wp_loop_rounds 2 ?_
   rw [rounds_succ]
   go_wp2_with fail
   rw [rounds_succ]
   go_wp2_with fail
   go_ret
   exact ⟨rfl,rfl⟩
 ·have hz:(x == 0)=false:=by simpa using hx
  have hz':(x != 0)=true:=by simpa using hx
  rw [show orVL x y=x from if_neg hx]
  go_enter Tryz.func181,Tryz.ntmps181
  go_wp2_with fail
  refine wp_loop_rounds 1 ?_
  rw [rounds_succ]
  go_wp2_with fail
  go_ret
  exact ⟨rfl,rfl⟩
theorem Compare_anyL (x y:Int) (w:World):Calls Tryz.prog 182 #[.int .i64 x,.int .i64 y] w fun e w'=>e=.returned (.int .i64 (Lib.compareInt x y))∧w=w':=by
 have h:=AnyG.cmp_Compare_int YtapnaocdehahdaaGreat.cmpIntL x y w
 change Calls Tryz.prog 182 _ _ _ at h
 exact h.mono fun _ _ ⟨a,b⟩=>⟨a,b.symm⟩
def encR (x:Int×Int×Int):List Value:=[.int .i64 x.1,.int .i64 x.2.1,.int .i64 x.2.2]
def lagW (tot wt:Int) (x:Int×Int×Int):Int:=wrap64 (wrap64 (tot*x.2.1) - wrap64 (x.2.2*wt))
set_option maxHeartbeats 400000 in
theorem lag_all (p:Nat) (tot wt a b c:Int) (w:World) (c2:w.cell? ⟨p,2,none⟩=some (.int .i64 tot)) (c3:w.cell? ⟨p,3,none⟩=some (.int .i64 wt)) :
  Calls Tryz.prog 177 #[.pointer (some ⟨p,0,none⟩),.agg #[.int .i64 a,.int .i64 b,.int .i64 c]] w fun e w'=>e=.returned (.int .i64 (lagW tot wt (a,b,c)))∧Grows w w':=by
 have c2_1:=fun o1=>cell_al o1 c2
 have c3_1:=fun o1=>cell_al o1 c3
 have d0:=cell_nw w #[.int .i64 a,.int .i64 b,.int .i64 c] 174 0 _ rfl
 have d1:=cell_nw w #[.int .i64 a,.int .i64 b,.int .i64 c] 174 1 _ rfl
 have d2:=cell_nw w #[.int .i64 a,.int .i64 b,.int .i64 c] 174 2 _ rfl
 go_enter Tryz.func177,Tryz.ntmps177
 go_wp2
 go_quiet (fail)
 go_wp2
 go_ret
 exact ⟨rfl,((Grows.refl _).alloc _).drewN _⟩
def leastVL' (x y:Int×Int×Int):Int:=orVL (Lib.compareInt (IntKind.i64.wrap (x.2.2*y.2.1)) (IntKind.i64.wrap (y.2.2*x.2.1))) (Lib.compareInt x.1 y.1)
set_option maxRecDepth 100000 in
set_option maxHeartbeats 1000000 in
theorem least_any (x1 x2 x3 y1 y2 y3:Int) (w:World) :
  Calls Tryz.prog 184 #[.agg #[.int .i64 x1,.int .i64 x2,.int .i64 x3],.agg #[.int .i64 y1,.int .i64 y2,.int .i64 y3]] w fun e w'=>e=.returned (.int .i64 (leastVL' (x1,x2,x3) (y1,y2,y3)))∧Grows w w':=by
 have A1:=Lib.hid fun x y W=>Compare_anyL x y W
 have A2:=Lib.hid fun B x y W=>Or_anyL B x y W
 have HG:Grows w ((w.alloc (.cells #[.int .i64 x1,.int .i64 x2,.int .i64 x3] 174)).alloc (.cells #[.int .i64 y1,.int .i64 y2,.int .i64 y3] 174)):=((Grows.refl _).alloc _).alloc _
 have a0:=cell_al (.cells #[.int .i64 y1,.int .i64 y2,.int .i64 y3] 174) (cell_nw w #[.int .i64 x1,.int .i64 x2,.int .i64 x3] 174 0 _ rfl)
 have a1:=cell_al (.cells #[.int .i64 y1,.int .i64 y2,.int .i64 y3] 174) (cell_nw w #[.int .i64 x1,.int .i64 x2,.int .i64 x3] 174 1 _ rfl)
 have a2:=cell_al (.cells #[.int .i64 y1,.int .i64 y2,.int .i64 y3] 174) (cell_nw w #[.int .i64 x1,.int .i64 x2,.int .i64 x3] 174 2 _ rfl)
 have b0:=cell_nw (w.alloc (.cells #[.int .i64 x1,.int .i64 x2,.int .i64 x3] 174)) #[.int .i64 y1,.int .i64 y2,.int .i64 y3] 174 0 _ rfl
 have b1:=cell_nw (w.alloc (.cells #[.int .i64 x1,.int .i64 x2,.int .i64 x3] 174)) #[.int .i64 y1,.int .i64 y2,.int .i64 y3] 174 1 _ rfl
 have b2:=cell_nw (w.alloc (.cells #[.int .i64 x1,.int .i64 x2,.int .i64 x3] 174)) #[.int .i64 y1,.int .i64 y2,.int .i64 y3] 174 2 _ rfl
 simp only [World.size_alloc] at b0 b1 b2
 go_enter Tryz.func184,Tryz.ntmps184
 go_wp2_with fail
 generalize (w.alloc (.cells #[.int .i64 x1,.int .i64 x2,.int .i64 x3] 174)).alloc (.cells #[.int .i64 y1,.int .i64 y2,.int .i64 y3] 174)=wo at *
 have a0_1:=fun o1=>cell_al o1 (a0)
 have a0_2:=fun o1 o2=>cell_al o2 (cell_al o1 (a0))
 have a1_1:=fun o1=>cell_al o1 (a1)
 have a1_2:=fun o1 o2=>cell_al o2 (cell_al o1 (a1))
 have a2_1:=fun o1=>cell_al o1 (a2)
 have a2_2:=fun o1 o2=>cell_al o2 (cell_al o1 (a2))
 have b0_1:=fun o1=>cell_al o1 (b0)
 have b0_2:=fun o1 o2=>cell_al o2 (cell_al o1 (b0))
 have b1_1:=fun o1=>cell_al o1 (b1)
 have b1_2:=fun o1 o2=>cell_al o2 (cell_al o1 (b1))
 have b2_1:=fun o1=>cell_al o1 (b2)
 have b2_2:=fun o1 o2=>cell_al o2 (cell_al o1 (b2))
 clear a0_1 a0_2 a1_1 a1_2 a2_1 a2_2 b0_1 b0_2 b1_1 b1_2 b2_1 b2_2
 have hS0:Grows wo wo.drew∧wo.drew.cell? ⟨w.heap.size,0,none⟩=some (.int .i64 x1)∧wo.drew.cell? ⟨w.heap.size,1,none⟩=some (.int .i64 x2)∧wo.drew.cell? ⟨w.heap.size,2,none⟩=some (.int .i64 x3)∧wo.drew.cell? ⟨w.heap.size+1,0,none⟩=some (.int .i64 y1)∧wo.drew.cell? ⟨w.heap.size+1,1,none⟩=some (.int .i64 y2)∧wo.drew.cell? ⟨w.heap.size+1,2,none⟩=some (.int .i64 y3):=⟨(Grows.drew (Grows.refl _)),cell_dr a0,cell_dr a1,cell_dr a2,cell_dr b0,cell_dr b1,cell_dr b2⟩
 go_region_held3 (fun w'=>Grows wo w'∧w'.cell? ⟨w.heap.size,0,none⟩=some (.int .i64 x1)∧w'.cell? ⟨w.heap.size,1,none⟩=some (.int .i64 x2)∧w'.cell? ⟨w.heap.size,2,none⟩=some (.int .i64 x3)∧w'.cell? ⟨w.heap.size+1,0,none⟩=some (.int .i64 y1)∧w'.cell? ⟨w.heap.size+1,1,none⟩=some (.int .i64 y2)∧w'.cell? ⟨w.heap.size+1,2,none⟩=some (.int .i64 y3)) (first | assumption | (refine heldG_6 (by assumption) ?_;assumption) | (refine heldG_6 (grows_ad _ _) ?_;assumption) | (refine heldG_6 (grows_a _ _) ?_;assumption)) (first | (go_at_call 182;refine (A1.out _ _ _).mono ?_;rintro e w5 ⟨rfl,rfl⟩) | (go_at_call 181;refine (A2.out _ _ _ _ (by exact cell_nw _ _ _ 0 _ rfl) (by exact cell_nw _ _ _ 1 _ rfl)).mono ?_;rintro e w5 ⟨rfl,rfl⟩))
 clear hS0
 rename_i hH
 have HG2:=HG.trans hH.1
 go_wp2_with fail
 go_ret
 exact ⟨rfl,HG2⟩
def orderC (tot wt:Int) (x y:Int×Int×Int):Int:=orVL (Lib.compareInt (lagW tot wt y) (lagW tot wt x)) (Lib.compareInt x.1 y.1)
set_option maxRecDepth 100000 in
set_option maxHeartbeats 1000000 in
theorem OrderF_any (p Bm:Nat) (tot wt:Int) (x1 x2 x3 y1 y2 y3:Int) (w:World) (cm:w.cell? ⟨Bm,0,none⟩=some (.pointer (some ⟨p,0,none⟩))) (c2:w.cell? ⟨p,2,none⟩=some (.int .i64 tot)) (c3:w.cell? ⟨p,3,none⟩=some (.int .i64 wt)) :
  Calls Tryz.prog 180 #[.agg #[.int .i64 x1,.int .i64 x2,.int .i64 x3],.agg #[.int .i64 y1,.int .i64 y2,.int .i64 y3],.pointer (some ⟨Bm,0,none⟩)] w fun e w'=>e=.returned (.int .i64 (orderC tot wt (x1,x2,x3) (y1,y2,y3)))∧Grows w w':=by
 have A1:=Lib.hid fun x y W=>Compare_anyL x y W
 have A2:=Lib.hid fun B x y W=>Or_anyL B x y W
 have A3:=Lib.hid fun a b c W=>lag_all p tot wt a b c W
 have HG:Grows w ((w.alloc (.cells #[.int .i64 x1,.int .i64 x2,.int .i64 x3] 174)).alloc (.cells #[.int .i64 y1,.int .i64 y2,.int .i64 y3] 174)):=((Grows.refl _).alloc _).alloc _
 have cm:=grows_cell HG cm
 have c2:=grows_cell HG c2
 have c3:=grows_cell HG c3
 have a0:=cell_al (.cells #[.int .i64 y1,.int .i64 y2,.int .i64 y3] 174) (cell_nw w #[.int .i64 x1,.int .i64 x2,.int .i64 x3] 174 0 _ rfl)
 have a1:=cell_al (.cells #[.int .i64 y1,.int .i64 y2,.int .i64 y3] 174) (cell_nw w #[.int .i64 x1,.int .i64 x2,.int .i64 x3] 174 1 _ rfl)
 have a2:=cell_al (.cells #[.int .i64 y1,.int .i64 y2,.int .i64 y3] 174) (cell_nw w #[.int .i64 x1,.int .i64 x2,.int .i64 x3] 174 2 _ rfl)
 have b0:=cell_nw (w.alloc (.cells #[.int .i64 x1,.int .i64 x2,.int .i64 x3] 174)) #[.int .i64 y1,.int .i64 y2,.int .i64 y3] 174 0 _ rfl
 have b1:=cell_nw (w.alloc (.cells #[.int .i64 x1,.int .i64 x2,.int .i64 x3] 174)) #[.int .i64 y1,.int .i64 y2,.int .i64 y3] 174 1 _ rfl
 have b2:=cell_nw (w.alloc (.cells #[.int .i64 x1,.int .i64 x2,.int .i64 x3] 174)) #[.int .i64 y1,.int .i64 y2,.int .i64 y3] 174 2 _ rfl
 simp only [World.size_alloc] at b0 b1 b2
 go_enter Tryz.func180,Tryz.ntmps180
 go_wp2_with fail
 generalize (w.alloc (.cells #[.int .i64 x1,.int .i64 x2,.int .i64 x3] 174)).alloc (.cells #[.int .i64 y1,.int .i64 y2,.int .i64 y3] 174)=wo at *
 have cm_1:=fun o1=>cell_al o1 (cm)
 have cm_2:=fun o1 o2=>cell_al o2 (cell_al o1 (cm))
 have c2_1:=fun o1=>cell_al o1 (c2)
 have c2_2:=fun o1 o2=>cell_al o2 (cell_al o1 (c2))
 have c3_1:=fun o1=>cell_al o1 (c3)
 have c3_2:=fun o1 o2=>cell_al o2 (cell_al o1 (c3))
 have a0_1:=fun o1=>cell_al o1 (a0)
 have a0_2:=fun o1 o2=>cell_al o2 (cell_al o1 (a0))
 have a1_1:=fun o1=>cell_al o1 (a1)
 have a1_2:=fun o1 o2=>cell_al o2 (cell_al o1 (a1))
 have a2_1:=fun o1=>cell_al o1 (a2)
 have a2_2:=fun o1 o2=>cell_al o2 (cell_al o1 (a2))
 have b0_1:=fun o1=>cell_al o1 (b0)
 have b0_2:=fun o1 o2=>cell_al o2 (cell_al o1 (b0))
 have b1_1:=fun o1=>cell_al o1 (b1)
 have b1_2:=fun o1 o2=>cell_al o2 (cell_al o1 (b1))
 have b2_1:=fun o1=>cell_al o1 (b2)
 have b2_2:=fun o1 o2=>cell_al o2 (cell_al o1 (b2))
 clear cm_1 cm_2 c2_1 c2_2 c3_1 c3_2 a0_1 a0_2 a1_1 a1_2 a2_1 a2_2 b0_1 b0_2 b1_1 b1_2 b2_1 b2_2
 have hS0:Grows wo wo.drew∧wo.drew.cell? ⟨Bm,0,none⟩=some (.pointer (some ⟨p,0,none⟩))∧wo.drew.cell? ⟨p,2,none⟩=some (.int .i64 tot)∧wo.drew.cell? ⟨p,3,none⟩=some (.int .i64 wt)∧wo.drew.cell? ⟨w.heap.size,0,none⟩=some (.int .i64 x1)∧wo.drew.cell? ⟨w.heap.size,1,none⟩=some (.int .i64 x2)∧wo.drew.cell? ⟨w.heap.size,2,none⟩=some (.int .i64 x3)∧wo.drew.cell? ⟨w.heap.size+1,0,none⟩=some (.int .i64 y1)∧wo.drew.cell? ⟨w.heap.size+1,1,none⟩=some (.int .i64 y2)∧wo.drew.cell? ⟨w.heap.size+1,2,none⟩=some (.int .i64 y3):=⟨(Grows.drew (Grows.refl _)),cell_dr cm,cell_dr c2,cell_dr c3,cell_dr a0,cell_dr a1,cell_dr a2,cell_dr b0,cell_dr b1,cell_dr b2⟩
 go_region_held3 (fun w'=>Grows wo w'∧w'.cell? ⟨Bm,0,none⟩=some (.pointer (some ⟨p,0,none⟩))∧w'.cell? ⟨p,2,none⟩=some (.int .i64 tot)∧w'.cell? ⟨p,3,none⟩=some (.int .i64 wt)∧w'.cell? ⟨w.heap.size,0,none⟩=some (.int .i64 x1)∧w'.cell? ⟨w.heap.size,1,none⟩=some (.int .i64 x2)∧w'.cell? ⟨w.heap.size,2,none⟩=some (.int .i64 x3)∧w'.cell? ⟨w.heap.size+1,0,none⟩=some (.int .i64 y1)∧w'.cell? ⟨w.heap.size+1,1,none⟩=some (.int .i64 y2)∧w'.cell? ⟨w.heap.size+1,2,none⟩=some (.int .i64 y3)) (first | assumption | (refine heldG_9 (by assumption) ?_;assumption) | (refine heldG_9 (grows_ad _ _) ?_;assumption) | (refine heldG_9 (grows_a _ _) ?_;assumption)) (first | (go_at_call 177;refine (A3.out _ _ _ _ (by first | assumption | (go_split_ands;assumption)) (by first | assumption | (go_split_ands;assumption))).mono ?_;rintro e w5 ⟨rfl,hb5⟩) | (go_at_call 182;refine (A1.out _ _ _).mono ?_;rintro e w5 ⟨rfl,rfl⟩) | (go_at_call 181;refine (A2.out _ _ _ _ (by exact cell_nw _ _ _ 0 _ rfl) (by exact cell_nw _ _ _ 1 _ rfl)).mono ?_;rintro e w5 ⟨rfl,rfl⟩))
 clear hS0
 all_goals
  rename_i hH
  have HG2:=HG.trans hH.1
  go_wp2_with fail
  go_ret
  exact ⟨rfl,HG2⟩
def minStep (m x:Int×Int×Int):Int×Int×Int:=if leastVL' x m<0 then x else m
def minV (l:List (Int×Int×Int)) (m:Int×Int×Int) (k:Nat):Int×Int×Int:=(l.take k).foldl minStep m
theorem minV_succ {l:List (Int×Int×Int)} {m:Int×Int×Int} {k:Nat} {x:Int×Int×Int} (h:l[k]?=some x):minV l m (k+1)=minStep (minV l m k) x:=by
 unfold minV
 rw [List.take_add_one,h,Option.toList_some,List.foldl_append];rfl
theorem leastVL'_self (x:Int×Int×Int):leastVL' x x=0:=by simp [leastVL',orVL,Lib.compareInt]
theorem minV_one {l:List (Int×Int×Int)} {x:Int×Int×Int} (h:l[0]?=some x):minV l x 1=x:=by
 rw [minV_succ h];simp [minV,minStep,leastVL'_self]
def RunsAt (w:World) (g:Nat) (l:List (Int×Int×Int)):Prop:=∀ (k:Nat) (x:Int×Int×Int),l[k]?=some x→w.cell? ⟨g,k*3,none⟩=some (.int .i64 x.1)∧w.cell? ⟨g,k*3+1,none⟩=some (.int .i64 x.2.1)∧w.cell? ⟨g,k*3+2,none⟩=some (.int .i64 x.2.2)
def MinP (l:List (Int×Int×Int)) (e:Ending):Prop:=∃ x,l[0]?=some x∧e=.returned (.agg (encR (minV l x l.length)).toArray)
def BoxIs (B:Nat) (m:Int×Int×Int) (w:World):Prop:=w.cell? ⟨B,0,none⟩=some (.int .i64 m.1)∧w.cell? ⟨B,1,none⟩=some (.int .i64 m.2.1)∧w.cell? ⟨B,2,none⟩=some (.int .i64 m.2.2)∧∀ j,w.frozen? ⟨B,j,none⟩=false
theorem BoxIs.later {B:Nat} {m:Int×Int×Int} {a b:World} (h:BoxIs B m a) (hb:Below a.heap.size a b):BoxIs B m b:=
 ⟨cell_later hb h.1,cell_later hb h.2.1,cell_later hb h.2.2.1,fun j=>(hb.frozen (p:=⟨B,j,none⟩) (lt_of_cell h.1)).trans (h.2.2.2 j)⟩
theorem BoxIs.new (w:World) (m:Int×Int×Int) (t:TypeId):BoxIs w.heap.size m (w.alloc (.cells #[.int .i64 m.1,.int .i64 m.2.1,.int .i64 m.2.2] t)):=
 ⟨cell_nw _ _ _ 0 _ rfl,cell_nw _ _ _ 1 _ rfl,cell_nw _ _ _ 2 _ rfl,fun j=>by rw [World.frozen?_alloc_new]⟩
theorem BoxIs.put {B:Nat} {m:Int×Int×Int} {w:World} (h:BoxIs B m w) (u:Int×Int×Int):BoxIs B u (((w.setCell ⟨B,0,none⟩ (.int .i64 u.1)).setCell ⟨B,1,none⟩ (.int .i64 u.2.1)).setCell ⟨B,2,none⟩ (.int .i64 u.2.2)):=by
 obtain ⟨h0,h1,h2,h3⟩:=h
 refine ⟨cell_set_ne (cell_set_ne (cell_set_eq h0) (Or.inr (by omega))) (Or.inr (by omega)),cell_set_ne (cell_set_eq (cell_set_ne h1 (Or.inr (by omega)))) (Or.inr (by omega)),cell_set_eq (cell_set_ne (cell_set_ne h2 (Or.inr (by omega))) (Or.inr (by omega))),fun j=>?_⟩
 rw [World.frozen?_setCell,World.frozen?_setCell,World.frozen?_setCell];exact h3 j
theorem BoxIs.other {B B':Nat} {m:Int×Int×Int} {w:World} (h:BoxIs B m w) (hn:B≠B') (u v z:Value):BoxIs B m (((w.setCell ⟨B',0,none⟩ u).setCell ⟨B',1,none⟩ v).setCell ⟨B',2,none⟩ z):=by
 obtain ⟨h0,h1,h2,h3⟩:=h
 refine ⟨cell_set_ne (cell_set_ne (cell_set_ne h0 (Or.inl hn)) (Or.inl hn)) (Or.inl hn),cell_set_ne (cell_set_ne (cell_set_ne h1 (Or.inl hn)) (Or.inl hn)) (Or.inl hn),cell_set_ne (cell_set_ne (cell_set_ne h2 (Or.inl hn)) (Or.inl hn)) (Or.inl hn),fun j=>?_⟩
 rw [World.frozen?_setCell,World.frozen?_setCell,World.frozen?_setCell];exact h3 j
set_option maxRecDepth 100000 in
set_option maxHeartbeats 1000000 in
theorem MinFunc_any (g cap n:Nat) (l:List (Int×Int×Int)) (w:World) (h:RunsAt w g l) (hn:l.length=n) (h1:n≤1024) (h0:0<n) :
  Calls Tryz.prog 183 #[.slice (some ⟨g,0,none⟩) n cap,.func (.func 184) #[] #[]] w fun e w'=>Below w.heap.size w w'∧MinP l e:=by
 obtain ⟨⟨x1,x2,x3⟩,hx⟩:∃ x,l[0]?=some x:=⟨_,List.getElem?_eq_getElem (by omega)⟩
 obtain ⟨r0,r1,r2⟩:=h 0 _ hx
 simp only at r0 r1 r2
 have r0:=cell_al (.cells #[.int .i64 0,.int .i64 0,.int .i64 0] 174) r0
 have r1:=cell_al (.cells #[.int .i64 0,.int .i64 0,.int .i64 0] 174) r1
 have r2:=cell_al (.cells #[.int .i64 0,.int .i64 0,.int .i64 0] 174) r2
 have HX:=Lib.hid hx
 have HN:=Lib.hid hn
 have H:=Lib.hid h
 have A1:=Lib.hid fun a b c d e f W=>least_any a b c d e f W
 clear h hx hn
 go_enter Tryz.func183,Tryz.ntmps183
 go_wp2_with fail
 have hb0:Below w.heap.size w ((w.alloc (.cells #[.int .i64 0,.int .i64 0,.int .i64 0] 174)).alloc (.cells #[.int .i64 x1,.int .i64 x2,.int .i64 x3] 174)):=Below.allocS (Below.allocS (Below.refl _ _) _) _
 have hB0:BoxIs w.heap.size (0,0,0) ((w.alloc (.cells #[.int .i64 0,.int .i64 0,.int .i64 0] 174)).alloc (.cells #[.int .i64 x1,.int .i64 x2,.int .i64 x3] 174)):=(BoxIs.new w (0,0,0) 174).later (below_a _ _)
 have hB1:BoxIs (w.heap.size+1) (x1,x2,x3) ((w.alloc (.cells #[.int .i64 0,.int .i64 0,.int .i64 0] 174)).alloc (.cells #[.int .i64 x1,.int .i64 x2,.int .i64 x3] 174)):=by
  have:=BoxIs.new (w.alloc (.cells #[.int .i64 0,.int .i64 0,.int .i64 0] 174)) (x1,x2,x3) 174
  rwa [World.size_alloc] at this
 generalize (w.alloc (.cells #[.int .i64 0,.int .i64 0,.int .i64 0] 174)).alloc (.cells #[.int .i64 x1,.int .i64 x2,.int .i64 x3] 174)=wo at *
 clear r0 r1 r2
 go_loopw [6] (fun i wr=>∃ k:Nat,1≤k∧k≤n∧i=.int .i64 k∧BoxIs (w.heap.size+1) (minV l (x1,x2,x3) k) wr∧BoxIs w.heap.size (0,0,0) wr∧Below w.heap.size w wr) (fun i _=>n - (RowKit.intOf i).toNat)
 case atStart=>exact ⟨1,by omega,by omega,rfl,by rw [minV_one HX.out];exact hB1,hB0,hb0⟩
 case round =>
  rename_i wr _ _
  obtain ⟨k,hk1,hk,rfl,hB1,hB0,hb⟩:=hrel
  clear hb0
  by_cases hlt:k<n
  ·obtain ⟨⟨y1,y2,y3⟩,hy⟩:∃ x,l[k]?=some x:=⟨_,List.getElem?_eq_getElem (by rw [HN.out];exact hlt)⟩
   obtain ⟨q0,q1,q2⟩:=H.out k _ hy
   simp only at q0 q1 q2
   replace q0:=cell_later hb q0
   replace q1:=cell_later hb q1
   replace q2:=cell_later hb q2
   have HM:=Lib.hid (minV_succ (m:=(x1,x2,x3)) hy)
   have hk0:(0:Int)≤(k:Int):=by omega
   have hkn:(k:Int)<(n:Int):=by omega
   clear hy
   rcases hm:minV l (x1,x2,x3) k with ⟨m1,m2,m3⟩
   rw [hm] at HM hB1
   clear hm
   obtain ⟨z0,z1,z2,z3⟩:=hB1
   simp only at z0 z1 z2
   have HZ3:=Lib.hid z3
   have HB0:=Lib.hid hB0
   clear z3 hB0
   go_wp2_with fail
   have q0_1:=fun o1=>cell_al o1 (q0)
   have q0_2:=fun o1 o2=>cell_al o2 (cell_al o1 (q0))
   have q1_1:=fun o1=>cell_al o1 (q1)
   have q1_2:=fun o1 o2=>cell_al o2 (cell_al o1 (q1))
   have q2_1:=fun o1=>cell_al o1 (q2)
   have q2_2:=fun o1 o2=>cell_al o2 (cell_al o1 (q2))
   have z0_1:=fun o1=>cell_al o1 (z0)
   have z0_2:=fun o1 o2=>cell_al o2 (cell_al o1 (z0))
   have z1_1:=fun o1=>cell_al o1 (z1)
   have z1_2:=fun o1 o2=>cell_al o2 (cell_al o1 (z1))
   have z2_1:=fun o1=>cell_al o1 (z2)
   have z2_2:=fun o1 o2=>cell_al o2 (cell_al o1 (z2))
   clear q0_1 q0_2 q1_1 q1_2 q2_1 q2_2 z0_1 z0_2 z1_1 z1_2 z2_1 z2_2
   have hS0:Below wr.heap.size wr wr.drew∧wr.drew.cell? ⟨g,k*3,none⟩=some (.int .i64 y1)∧wr.drew.cell? ⟨g,k*3+1,none⟩=some (.int .i64 y2)∧wr.drew.cell? ⟨g,k*3+2,none⟩=some (.int .i64 y3)∧wr.drew.cell? ⟨w.heap.size+1,0,none⟩=some (.int .i64 m1)∧wr.drew.cell? ⟨w.heap.size+1,1,none⟩=some (.int .i64 m2)∧wr.drew.cell? ⟨w.heap.size+1,2,none⟩=some (.int .i64 m3):=⟨(Below.drew (Below.refl _ _)),cell_dr q0,cell_dr q1,cell_dr q2,cell_dr z0,cell_dr z1,cell_dr z2⟩
   go_region_held3 (fun w'=>Below wr.heap.size wr w'∧w'.cell? ⟨g,k*3,none⟩=some (.int .i64 y1)∧w'.cell? ⟨g,k*3+1,none⟩=some (.int .i64 y2)∧w'.cell? ⟨g,k*3+2,none⟩=some (.int .i64 y3)∧w'.cell? ⟨w.heap.size+1,0,none⟩=some (.int .i64 m1)∧w'.cell? ⟨w.heap.size+1,1,none⟩=some (.int .i64 m2)∧w'.cell? ⟨w.heap.size+1,2,none⟩=some (.int .i64 m3)) (first | assumption | (refine held_6 (by assumption) ?_;assumption) | (refine held_6 (below_ad _ _) ?_;assumption) | (refine held_6 (below_a _ _) ?_;assumption)) (first | (go_at_call 184;refine (A1.out _ _ _ _ _ _ _).mono ?_;rintro e w5 ⟨rfl,hg5⟩;have hb5:=hg5.below))
   clear hS0
   all_goals
    rename_i hH
    obtain ⟨hbq,q0,q1,q2,z0,z1,z2⟩:=hH
    clear hg5 hb5
   have hbw:Below w.heap.size w w5:=Below.step hb hbq
   have B1:BoxIs (w.heap.size+1) (m1,m2,m3) w5:=⟨z0,z1,z2,fun j=>(hbq.frozen (p:=⟨w.heap.size+1,j,none⟩) (lt_of_cell ‹wr.cell? ⟨w.heap.size+1,0,none⟩=_›)).trans (HZ3.out j)⟩
   have B0:=HB0.out.later hbq
   have HB1:=Lib.hid B1
   have HB0':=Lib.hid B0
   have hf:=B1.2.2.2
   clear B1 B0
   by_cases hm:leastVL' (y1,y2,y3) (m1,m2,m3)<0
   ·rw [show minStep (m1,m2,m3) (y1,y2,y3)=(y1,y2,y3) from if_pos hm] at HM
    go_wp2_with fail
    go_roundw
    case rel =>
     refine ⟨k+1,by omega,by omega,by go_num,by rw [HM.out];exact HB1.out.put (y1,y2,y3),HB0'.out.other (by omega) _ _ _,?_⟩
     clear hf HB1 HB0'
     repeat (first | exact Below.refl _ _ | refine Below.step ?_ (by assumption) | refine Below.setCell ?_ (by first | (simp;done) | (simp;omega) | omega) _ | refine Below.allocS ?_ _ | refine Below.drew ?_ | refine below_drewN ?_ _)
    case measure=>simp [RowKit.intOf];omega
   ·rw [show minStep (m1,m2,m3) (y1,y2,y3)=(m1,m2,m3) from if_neg hm] at HM
    go_wp2_with fail
    go_roundw
    case rel=>exact ⟨k+1,by omega,by omega,by go_num,by rw [HM.out];exact HB1.out,HB0'.out,hbw⟩
    case measure=>simp [RowKit.intOf];omega
  ·obtain rfl:k=n:=by omega
   have HE:=Lib.hid (show MinP l (.returned (.agg (encR (minV l (x1,x2,x3) k)).toArray)) from ⟨_,HX.out,by rw [HN.out]⟩)
   rcases hm:minV l (x1,x2,x3) k with ⟨m1,m2,m3⟩
   rw [hm] at HE hB1
   clear hm
   obtain ⟨z0,z1,z2,z3⟩:=hB1
   obtain ⟨e0,e1,e2,e3⟩:=hB0
   simp only at z0 z1 z2 e0 e1 e2
   go_wp2_with fail
   exact bodyPost_ret (v:=.agg #[.int .i64 m1,.int .i64 m2,.int .i64 m3]) (by simp [results,Tryz.results183,go_sem,e0,e1,e2]) rfl ⟨Below.setCell (Below.setCell (Below.setCell hb (Nat.le_refl _) _) (Nat.le_refl _) _) (Nat.le_refl _) _,HE.out⟩
@[go_sem] theorem run_field_run0 (a b c:Value) (w:World):Sem.run Tryz.prog (Instr.field 174 (.agg #[a,b,c]) 0) w=.ok (.agg #[a,b]) w:=by kernel_rfl
@[go_sem] theorem run_field_share0 (a b:Value) (w:World):Sem.run Tryz.prog (Instr.field 90 (.agg #[a,b]) 0) w=.ok a w:=by kernel_rfl
def NextP (l:List (Int×Int×Int)) (e:Ending):Prop:=∃ x,l[0]?=some x∧e=.returned (.int .i64 (minV l x l.length).1)
set_option maxRecDepth 100000 in
set_option maxHeartbeats 1000000 in
theorem Next_any (p g bm cap:Nat) (l:List (Int×Int×Int)) (n:Nat) (w:World) (h:MeterAt w p g bm cap l n) :
  Calls Tryz.prog 103 #[.pointer (some ⟨p,0,none⟩)] w fun e w'=>Below w.heap.size w w'∧NextP l e:=by
 have A0:=Lib.hid fun W=>some_any p g bm cap l n W
 have c0:=h.c0
 have A1:=Lib.hid (MinFunc_any g cap n l w h.runs h.len (by rw [← h.len];exact h.good.many) h.pos)
 have H:=Lib.hid h
 clear h
 go_enter Tryz.func103,Tryz.ntmps103
 go_wp2_with fail
 refine (A0.out _ H.out).mono ?_;rintro e w1 ⟨rfl,rfl⟩
 go_wp2_with fail
 refine A1.out.mono ?_;rintro e w1 ⟨hb1,x,hx,rfl⟩
 have HX:=Lib.hid (show NextP l (.returned (.int .i64 (minV l x l.length).1)) from ⟨x,hx,rfl⟩)
 rcases hm:minV l x l.length with ⟨m1,m2,m3⟩
 rw [hm] at HX
 simp only [encR]
 clear hm hx
 go_wp2_with fail
 go_ret
 exact ⟨hb1,HX.out⟩
end Go.Proofs.YtapnaocdehahdaaGreat
