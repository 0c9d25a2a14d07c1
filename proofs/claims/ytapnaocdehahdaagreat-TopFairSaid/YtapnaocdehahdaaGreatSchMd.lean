/-
  Layer 30's statements: Made.
-/
import Derived.Test.YtapnaocdehahdaaGreatSchU
namespace Go.Proofs.YtapnaocdehahdaaGreat
open Go.RowKit Go.Maps Go.IntWalk Go.Lib
set_option linter.unusedVariables false
set_option linter.unusedSimpArgs false
theorem upL_congr {P Q:Nat→Nat}:∀ g,(∀ k,k≤g→P k=Q k)→upL P g=upL Q g:=by
 intro g
 induction g using Nat.strongRecOn with
 | ind g ih =>
  intro h
  conv=>lhs;rw [upL]
  conv=>rhs;rw [upL]
  rw [h g (Nat.le_refl _)]
  congr 1
  by_cases q:0<g∧Q g<g
  ·rw [dif_pos q,dif_pos q]
   exact ih _ q.2 fun k hk=>h k (by omega)
  ·rw [dif_neg q,dif_neg q]
theorem snoc_old {Gs:Grps} {x:Int×Int} {k:Nat} (h:k<Gs.length):(Gs++[x])[k]! = Gs[k]!:=by
 rw [getElem!_pos (Gs++[x]) k (by simp;omega),getElem!_pos Gs k h,List.getElem_append_left h]
theorem snoc_new {Gs:Grps} {x:Int×Int}:(Gs++[x])[Gs.length]! = x:=by
 rw [getElem!_pos (Gs++[x]) Gs.length (by simp)]
 simp
theorem snoc_par {Gs:Grps} {x:Int×Int} {k:Nat} (h:k<Gs.length):parG (Gs++[x]) k=parG Gs k:=by unfold parG;rw [snoc_old h]
theorem snoc_up {Gs:Grps} {x:Int×Int} {k:Nat} (h:k<Gs.length):upL (parG (Gs++[x])) k=upL (parG Gs) k:=upL_congr k fun j hj=>snoc_par (by omega)
theorem RightG.snoc {Gs:Grps} (h:RightG Gs) {up:Nat} {wt:Int} (hu:up<Gs.length) (hd:((upL (parG Gs) up).length:Int) - 1≤3) (hw:1≤wt∧wt≤65536) (hl:Gs.length<256) :
  RightG (Gs++[((up:Int),wt)])∧upL (parG (Gs++[((up:Int),wt)])) Gs.length=Gs.length::upL (parG Gs) up:=by
 have hp:parG (Gs++[((up:Int),wt)]) Gs.length=up:=by unfold parG;rw [snoc_new];simp
 have hu2:upL (parG (Gs++[((up:Int),wt)])) Gs.length=Gs.length::upL (parG Gs) up:=by rw [upL_pos (by omega) (by omega),hp,snoc_up hu]
 refine ⟨⟨by simp;omega,by simp,by rw [snoc_old h.pos];exact h.root,fun g h1 h2=>?_⟩,hu2⟩
 by_cases e:g<Gs.length
 ·have i:=h.rest g h1 e
  unfold gErr at i ⊢
  rw [snoc_old e,snoc_up e]
  exact i
 ·have e':g=Gs.length:=by simp at h2;omega
  subst e'
  unfold gErr
  rw [snoc_new,hu2]
  simp only [List.length_cons]
  push_cast
  rw [if_neg (by omega),if_neg (by omega),if_neg (by omega)]
structure GrOk (Gs:Grps) (ds:List Int):Prop where
 right:RightG Gs
 len:ds.length=Gs.length
 dep:∀ j,j<Gs.length→ds[j]! = ((upL (parG Gs) j).length:Int) - 1
theorem GrOk.le {Gs:Grps} {ds:List Int} (h:GrOk Gs ds) {j:Nat} (hj:j<Gs.length):0≤ds[j]!∧ds[j]!≤4:=by
 rw [h.dep j hj]
 by_cases hz:j=0
 ·subst hz;rw [upL_zero];simp
 ·have:=(gErr_par (h.right.rest j (by omega) hj)).2.2.2.2
  rw [upL] at this ⊢
  simp only [List.length_cons] at this ⊢
  push_cast at this ⊢
  omega
theorem GrOk.snoc {Gs:Grps} {ds:List Int} (h:GrOk Gs ds) {up:Nat} {wt:Int} (hu:up<Gs.length) (hd:ds[up]!≠4) (hw:1≤wt∧wt≤65536) (hl:Gs.length<256):GrOk (Gs++[((up:Int),wt)]) (ds++[ds[up]!+1]):=by
 have hle:=h.le hu
 have e:=h.dep up hu
 obtain ⟨r1,r2⟩:=h.right.snoc (wt:=wt) hu (by omega) hw hl
 refine ⟨r1,by simp [h.len],fun j hj=>?_⟩
 by_cases q:j<Gs.length
 ·rw [snoc_up q,← h.dep j q,getElem!_pos (ds++[ds[up]!+1]) j (by simp;rw [h.len];omega),getElem!_pos ds j (by rw [h.len];exact q),List.getElem_append_left (by rw [h.len];exact q)]
 ·have e':j=Gs.length:=by simp at hj;omega
  subst e'
  rw [r2,e]
  have hx:(ds++[((upL (parG Gs) up).length:Int) - 1+1])[Gs.length]! = ((upL (parG Gs) up).length:Int) - 1+1:=by
   rw [getElem!_pos (ds++[((upL (parG Gs) up).length:Int) - 1+1]) Gs.length (by simp [h.len])]
   simp [← h.len]
  rw [hx]
  simp only [List.length_cons]
  push_cast
  omega
theorem GrOk.one:GrOk [(0,1)] [0]:=⟨⟨by decide,by decide,rfl,fun g h1 h2=>by simp at h2;omega⟩,rfl,fun j hj=>by
 have:j=0:=by simp at hj;omega
 subst this
 rw [upL_zero];rfl⟩
def MadeN (n0:Int) (w:World) (e:Ending) (w':World):Prop:=∃ (Gs:Grps) (v:Value) (C:Nat) (cr:Int),e=.returned (.agg #[.int .i64 C,.int .u64 cr,v])∧RightG Gs∧Gs.length≤6∧1≤C∧C≤4∧(0≤cr∧cr≤4294967295)∧w'.ownsRow w.heap.size 72 2 v Gs.length (flatR encG Gs)∧Below w.heap.size w w'∧C=n0.toNat % 4+1
def MadeC (w:World) (e:Ending) (w':World):Prop:=∃ (Gs:Grps) (v:Value) (C:Nat) (cr:Int),e=.returned (.agg #[.int .i64 C,.int .u64 cr,v])∧RightG Gs∧Gs.length≤6∧1≤C∧C≤4∧(0≤cr∧cr≤4294967295)∧w'.ownsRow w.heap.size 72 2 v Gs.length (flatR encG Gs)∧Below w.heap.size w w'
structure MdQ (n:Nat) (wr:World) (Gs:Grps) (ds:List Int) (bo co d cd:Nat) (C cr:Int) (P V:Nat→Int):Prop where
 c0:wr.cell? ⟨n+3,0,none⟩=some (.int .i64 C)
 c1:wr.cell? ⟨n+3,1,none⟩=some (.int .u64 cr)
 z:∀ j,wr.frozen? ⟨n+3,j,none⟩=false
 r:∃ a b v,wr.cell? ⟨n+1,0,none⟩=some (.int .i64 a)∧wr.cell? ⟨n+1,1,none⟩=some (.int .u64 b)∧wr.cell? ⟨n+1,2,none⟩=some v
 rz:∀ j,wr.frozen? ⟨n+1,j,none⟩=false
 p:∀ k,k<5→wr.cell? ⟨n,3+k,none⟩=some (.int .u8 (P k))
 v:∀ k,k<5→wr.cell? ⟨n,8+k,none⟩=some (.int .u16 (V k))
 o1:wr.ownsRow n 72 2 (.slice (some ⟨bo,0,none⟩) Gs.length co) Gs.length (flatR encG Gs)
 o2:wr.ownsRow n 3 1 (.slice (some ⟨d,0,none⟩) ds.length cd) ds.length (intsV ds)
 b1:bo=n+2∨n+5≤bo
 b2:d=n+4∨n+5≤d
 ne:bo≠d
 sz:n+5≤wr.heap.size
structure MdR (n:Nat) (wr:World) (Gs:Grps) (ds:List Int) (bo co d cd:Nat) (C cr:Int) (P V:Nat→Int):Prop where
 q:MdQ n wr Gs ds bo co d cd C cr P V
 c2:wr.cell? ⟨n+3,2,none⟩=some (.slice (some ⟨bo,0,none⟩) Gs.length co)
section
variable {n:Nat} {wr w':World} {Gs:Grps} {ds:List Int} {bo co d cd:Nat} {C cr:Int} {P V:Nat→Int}
theorem MdQ.later (h:MdQ n wr Gs ds bo co d cd C cr P V) (hb:Below wr.heap.size wr w'):MdQ n w' Gs ds bo co d cd C cr P V where
 c0:=cell_later hb h.c0
 c1:=cell_later hb h.c1
 z:=fun j=>frz_later hb (h.z j) (lt_of_cell h.c0)
 r:=by
  obtain ⟨a,b,v,h0,h1,h2⟩:=h.r
  exact ⟨a,b,v,cell_later hb h0,cell_later hb h1,cell_later hb h2⟩
 rz:=fun j=>frz_later hb (h.rz j) (by have:=h.sz;omega)
 p:=fun k hk=>cell_later hb (h.p k hk)
 v:=fun k hk=>cell_later hb (h.v k hk)
 o1:=own_below h.o1 hb
 o2:=own_below h.o2 hb
 b1:=h.b1
 b2:=h.b2
 ne:=h.ne
 sz:=Nat.le_trans h.sz hb.size
theorem MdR.later (h:MdR n wr Gs ds bo co d cd C cr P V) (hb:Below wr.heap.size wr w'):MdR n w' Gs ds bo co d cd C cr P V:=⟨h.q.later hb,cell_later hb h.c2⟩
theorem MdR.depth {d' cd':Nat} {y:Int} (h:MdR n wr Gs ds bo co d cd C cr P V) (hg:wr.grownBy w' (some d)) (ho:w'.ownsRow n 3 1 (.slice (some ⟨d',0,none⟩) (ds.length+1) cd') (ds.length+1) (intsV ds++[.int .i64 y])) (hp:some d'=some d∨some d'=some wr.heap.size) :
  MdR n w' Gs (ds++[y]) bo co d' cd' C cr P V:=by
 have hk:=grown_kept hg
 have hq:=h.q
 have sz:=hq.sz
 have b1:=hq.b1
 have b2:=hq.b2
 have lt1:=(hq.o1.lt bo rfl).2
 have e:∀ b,b≠d→b∉(some d).toList:=fun b hb m=>hb (by simpa using m)
 have hd':d'=d∨d'=wr.heap.size:=by simpa using hp
 exact ⟨{
  c0:=hk.cellAt hq.c0 (e _ (by omega))
  c1:=hk.cellAt hq.c1 (e _ (by omega))
  z:=fun j=>hk.frz (hq.z j) (lt_of_cell hq.c0) (e _ (by omega))
  r:=by
   obtain ⟨a,b,v,h0,h1,h2⟩:=hq.r
   exact ⟨a,b,v,hk.cellAt h0 (e _ (by omega)),hk.cellAt h1 (e _ (by omega)),hk.cellAt h2 (e _ (by omega))⟩
  rz:=fun j=>hk.frz (hq.rz j) (by omega) (e _ (by omega))
  p:=fun k q=>hk.cellAt (hq.p k q) (e _ (by omega))
  v:=fun k q=>hk.cellAt (hq.v k q) (e _ (by omega))
  o1:=own_kept hq.o1 hk fun b hb=>by cases hb;exact e _ hq.ne
  o2:=by rw [ints_snoc,List.length_append];exact ho
  b1:=b1
  b2:=by omega
  ne:=by have:=hq.ne;omega
  sz:=Nat.le_trans sz hk.size },hk.cellAt h.c2 (e _ (by omega))⟩
theorem MdR.group {b' c':Nat} {y:Int×Int} (h:MdR n wr Gs ds bo co d cd C cr P V) (hg:wr.grownBy w' (some bo)) (ho:w'.ownsRow n 72 2 (.slice (some ⟨b',0,none⟩) (Gs.length+1) c') (Gs.length+1) (flatR encG Gs++[.int .i64 y.1,.int .i64 y.2])) (hp:some b'=some bo∨some b'=some wr.heap.size) :
  MdQ n w' (Gs++[y]) ds b' c' d cd C cr P V∧w'.cell? ⟨n+3,2,none⟩=some (.slice (some ⟨bo,0,none⟩) Gs.length co):=by
 have hk:=grown_kept hg
 have hq:=h.q
 have sz:=hq.sz
 have b1:=hq.b1
 have b2:=hq.b2
 have lt2:=(hq.o2.lt d rfl).2
 have e:∀ b,b≠bo→b∉(some bo).toList:=fun b hb m=>hb (by simpa using m)
 have hd':b'=bo∨b'=wr.heap.size:=by simpa using hp
 exact ⟨{
  c0:=hk.cellAt hq.c0 (e _ (by omega))
  c1:=hk.cellAt hq.c1 (e _ (by omega))
  z:=fun j=>hk.frz (hq.z j) (lt_of_cell hq.c0) (e _ (by omega))
  r:=by
   obtain ⟨a,b,v,h0,h1,h2⟩:=hq.r
   exact ⟨a,b,v,hk.cellAt h0 (e _ (by omega)),hk.cellAt h1 (e _ (by omega)),hk.cellAt h2 (e _ (by omega))⟩
  rz:=fun j=>hk.frz (hq.rz j) (by omega) (e _ (by omega))
  p:=fun k q=>hk.cellAt (hq.p k q) (e _ (by omega))
  v:=fun k q=>hk.cellAt (hq.v k q) (e _ (by omega))
  o1:=by rw [flatR_app,List.length_append];exact ho
  o2:=own_kept hq.o2 hk fun b hb=>by cases hb;exact e _ (fun q=>hq.ne q.symm)
  b1:=by omega
  b2:=b2
  ne:=by have:=hq.ne;omega
  sz:=Nat.le_trans sz hk.size },hk.cellAt h.c2 (e _ (by omega))⟩
theorem MdQ.store {v:Value} (h:MdQ n wr Gs ds bo co d cd C cr P V) (hc:wr.cell? ⟨n+3,2,none⟩=some v):MdR n (wr.setCell ⟨n+3,2,none⟩ (.slice (some ⟨bo,0,none⟩) Gs.length co)) Gs ds bo co d cd C cr P V:=by
 have hk:Kept [n+3] wr (wr.setCell ⟨n+3,2,none⟩ (.slice (some ⟨bo,0,none⟩) Gs.length co)):=(Kept.refl _ _).setCell (Or.inl (by simp)) _
 have sz:=h.sz
 have b1:=h.b1
 have b2:=h.b2
 exact ⟨{
  c0:=cell_set_ne h.c0 (Or.inr (by decide))
  c1:=cell_set_ne h.c1 (Or.inr (by decide))
  z:=fun j=>by rw [World.frozen?_setCell];exact h.z j
  r:=by
   obtain ⟨a,b,v,h0,h1,h2⟩:=h.r
   exact ⟨a,b,v,cell_set_ne h0 (Or.inl (by omega)),cell_set_ne h1 (Or.inl (by omega)),cell_set_ne h2 (Or.inl (by omega))⟩
  rz:=fun j=>by rw [World.frozen?_setCell];exact h.rz j
  p:=fun k q=>cell_set_ne (h.p k q) (Or.inl (by omega))
  v:=fun k q=>cell_set_ne (h.v k q) (Or.inl (by omega))
  o1:=own_kept h.o1 hk fun b hb m=>by cases hb;simp at m;omega
  o2:=own_kept h.o2 hk fun b hb m=>by cases hb;simp at m;omega
  b1:=b1
  b2:=b2
  ne:=h.ne
  sz:=Nat.le_trans sz hk.size },cell_set_eq hc⟩
end
set_option maxRecDepth 100000 in
theorem MdR.start (w:World) (C cr n0 n1 n2:Int) (P V:Nat→Int):MdR w.heap.size (((((w.alloc (.cells #[.int .u8 n0,.int .u8 n1,.int .u32 n2,.int .u8 (P 0),.int .u8 (P 1),.int .u8 (P 2),.int .u8 (P 3),.int .u8 (P 4),.int .u16 (V 0),.int .u16 (V 1),.int .u16 (V 2),.int .u16 (V 3),.int .u16 (V 4)] 27)).alloc (.cells #[.int .i64 0,.int .u64 0,.slice none 0 0] 37)).alloc (.cells #[.int .i64 0,.int .i64 1] 72)).alloc (.cells #[.int .i64 C,.int .u64 cr,.slice (some ⟨w.heap.size+1+1,0,none⟩) 1 1] 37)).alloc (.cells #[.int .i64 0] 3)) [(0,1)] [0] (w.heap.size+2) 1 (w.heap.size+4) 1 C cr P V:=by
 refine ⟨⟨?_,?_,fun j=>?_,⟨0,0,.slice none 0 0,?_,?_,?_⟩,fun j=>?_,fun k hk=>?_,fun k hk=>?_,?_,?_,Or.inl rfl,Or.inl rfl,by omega,by simp⟩,?_⟩
 ·exact cell_al _ (cell_nwE (by simp) _ _ 0 _ rfl)
 ·exact cell_al _ (cell_nwE (by simp) _ _ 1 _ rfl)
 ·exact frz_later (below_a _ _) (frz_nwE (by simp) _ _ j) (by simp)
 ·exact cell_al _ (cell_al _ (cell_al _ (cell_nwE (by simp) _ _ 0 _ rfl)))
 ·exact cell_al _ (cell_al _ (cell_al _ (cell_nwE (by simp) _ _ 1 _ rfl)))
 ·exact cell_al _ (cell_al _ (cell_al _ (cell_nwE (by simp) _ _ 2 _ rfl)))
 ·exact frz_later (below_a _ _) (frz_later (below_a _ _) (frz_later (below_a _ _) (frz_nwE (by simp) _ _ j) (by simp)) (by simp)) (by simp)
 ·obtain rfl | rfl | rfl | rfl | rfl:k=0∨k=1∨k=2∨k=3∨k=4:=by omega
  all_goals exact cell_al _ (cell_al _ (cell_al _ (cell_al _ (cell_nwE rfl _ _ _ _ rfl))))
 ·obtain rfl | rfl | rfl | rfl | rfl:k=0∨k=1∨k=2∨k=3∨k=4:=by omega
  all_goals exact cell_al _ (cell_al _ (cell_al _ (cell_al _ (cell_nwE rfl _ _ _ _ rfl))))
 ·have:=World.ownsRow_lit (base:=w.heap.size) (e:=72) (size:=2) ((w.alloc (.cells #[.int .u8 n0,.int .u8 n1,.int .u32 n2,.int .u8 (P 0),.int .u8 (P 1),.int .u8 (P 2),.int .u8 (P 3),.int .u8 (P 4),.int .u16 (V 0),.int .u16 (V 1),.int .u16 (V 2),.int .u16 (V 3),.int .u16 (V 4)] 27)).alloc (.cells #[.int .i64 0,.int .u64 0,.slice none 0 0] 37)) #[.int .i64 0,.int .i64 1] 1 (by simp;omega) (by unfold maxLen;omega) rfl
  simp only [World.size_alloc] at this
  exact own_below (own_below this (below_a _ _)) (below_a _ _)
 ·have:=World.ownsRow_lit (base:=w.heap.size) (e:=3) (size:=1) ((((w.alloc (.cells #[.int .u8 n0,.int .u8 n1,.int .u32 n2,.int .u8 (P 0),.int .u8 (P 1),.int .u8 (P 2),.int .u8 (P 3),.int .u8 (P 4),.int .u16 (V 0),.int .u16 (V 1),.int .u16 (V 2),.int .u16 (V 3),.int .u16 (V 4)] 27)).alloc (.cells #[.int .i64 0,.int .u64 0,.slice none 0 0] 37)).alloc (.cells #[.int .i64 0,.int .i64 1] 72)).alloc (.cells #[.int .i64 C,.int .u64 cr,.slice (some ⟨w.heap.size+1+1,0,none⟩) 1 1] 37)) #[.int .i64 0] 1 (by simp;omega) (by unfold maxLen;omega) rfl
  simp only [World.size_alloc] at this
  exact this
 ·exact cell_al _ (cell_nwE (by simp) _ _ 2 _ rfl)
set_option maxRecDepth 100000 in
set_option maxHeartbeats 4000000 in
theorem Made_n (n0 n1 n2:Int) (P V:Nat→Int) (w:World) (h0:0≤n0∧n0≤255) (h1:0≤n1∧n1≤255) (h2:0≤n2∧n2≤4294967295) (hP:∀ i,i<5→0≤P i∧P i≤255) (hV:∀ i,i<5→0≤V i∧V i≤65535) :
  Calls Tryz.prog 14 #[.agg #[.int .u8 n0,.int .u8 n1,.int .u32 n2,.int .u8 (P 0),.int .u8 (P 1),.int .u8 (P 2),.int .u8 (P 3),.int .u8 (P 4),.int .u16 (V 0),.int .u16 (V 1),.int .u16 (V 2),.int .u16 (V 3),.int .u16 (V 4)]] w (MadeN n0 w):=by
 obtain ⟨ig,hi,hz0,hz1,hz2⟩:=info_parts infoGroup
 obtain ⟨ii,hj,hy0,hy1,hy2⟩:=info_parts infoI
 obtain ⟨m,hm⟩:∃ m:Nat,m=n1.toNat % 6:=⟨_,rfl⟩
 have hm5:m≤5:=by omega
 have t1:Int.tmod n1 6=(m:Int):=by rw [Int.tmod_eq_emod_of_nonneg h1.1,hm];omega
 obtain ⟨C,hC⟩:∃ C:Nat,C=n0.toNat % 4+1:=⟨_,rfl⟩
 have hC4:1≤C∧C≤4:=by omega
 have t0:Int.tmod n0 4=(C:Int) - 1:=by rw [Int.tmod_eq_emod_of_nonneg h0.1,hC];omega
 have q1:IntKind.i64.wrap n1=n1:=IntWalk.i64_in _ (by omega)
 have q0:IntKind.i64.wrap n0=n0:=IntWalk.i64_in _ (by omega)
 have q2:IntKind.u64.wrap n2=n2:=IntWalk.u64_in _ (by omega)
 have q3:IntKind.i64.wrap (m:Int)=(m:Int):=IntWalk.i64_in _ (by omega)
 have q4:IntKind.i64.wrap ((C:Int) - 1)=(C:Int) - 1:=IntWalk.i64_in _ (by omega)
 have q5:IntKind.i64.wrap (1+((C:Int) - 1))=(C:Int):=by rw [show 1+((C:Int) - 1)=(C:Int) by omega];exact IntWalk.i64_in _ (by omega)
 have HP:=Lib.hid hP
 have HV:=Lib.hid hV
 have HC:=Lib.hid hC4
 have HCN:=Lib.hid hC
 clear hm hC hP hV
 obtain ⟨W0,hW0⟩:∃ W,W=(((((w.alloc (.cells #[.int .u8 n0,.int .u8 n1,.int .u32 n2,.int .u8 (P 0),.int .u8 (P 1),.int .u8 (P 2),.int .u8 (P 3),.int .u8 (P 4),.int .u16 (V 0),.int .u16 (V 1),.int .u16 (V 2),.int .u16 (V 3),.int .u16 (V 4)] 27)).alloc (.cells #[.int .i64 0,.int .u64 0,.slice none 0 0] 37)).alloc (.cells #[.int .i64 0,.int .i64 1] 72)).alloc (.cells #[.int .i64 C,.int .u64 n2,.slice (some ⟨w.heap.size+1+1,0,none⟩) 1 1] 37)).alloc (.cells #[.int .i64 0] 3)):=⟨_,rfl⟩
 have HM0:=Lib.hid (show MdR w.heap.size W0 [(0,1)] [0] (w.heap.size+2) 1 (w.heap.size+4) 1 C n2 P V by rw [hW0];exact MdR.start w C n2 n0 n1 n2 P V)
 have HB0:=Lib.hid (show Below w.heap.size w W0 by rw [hW0];exact Below.allocS (Below.allocS (Below.allocS (Below.allocS (Below.allocS (Below.refl _ _) _) _) _) _) _)
 have HW0:=Lib.hid hW0
 have HCR:=Lib.hid h2
 clear hW0 h0 h1 h2
 go_enter Tryz.func14,Tryz.ntmps14
 go_upto_region 4 with fail
 rw [← HW0.out]
 clear HW0
 obtain ⟨n,hn⟩:∃ n,n=w.heap.size:=⟨_,rfl⟩
 rw [← hn] at HM0
 rw [show w.heap.size+1=n+1 by omega,show n+1+1+1=n+3 by omega,show n+3+1=n+4 by omega,← hn]
 have HN:=Lib.hid hn
 clear hn
 go_loopw [4,23] (fun v2 i wr=>∃ (k:Nat) (Gs:Grps) (ds:List Int) (bo co d cd:Nat),k≤m∧i=.int .i64 k∧v2=.slice (some ⟨d,0,none⟩) (k+1:Nat) cd∧Hid (Gs.length=k+1)∧Hid (MdR n wr Gs ds bo co d cd C n2 P V)∧Below w.heap.size w wr∧Hid (GrOk Gs ds)) (fun _ i _=>m - (intOf i).toNat)
 case atStart=>exact ⟨0,_,_,_,_,_,_,Nat.zero_le _,rfl,rfl,Lib.hid rfl,HM0,HB0.out,Lib.hid GrOk.one⟩
 case round =>
  obtain ⟨k,Gs,ds,bo,co,d,cd,hk,rfl,rfl,hgl,hM,hB,hok⟩:=hrel
  have HB:=Lib.hid hB
  clear HM0 HB0 hB
  by_cases hlt:k<m
  ·have hki:(k:Int)<(m:Int):=by omega
   have z0:decide ((k:Int)<(m:Int))=true:=decide_eq_true hki
   have hk5:k<5:=by omega
   have hk5i:(k:Int)<5:=by omega
   have z5:decide ((k:Int)<5)=true:=decide_eq_true hk5i
   have c2:=hM.out.c2
   rw [hgl.out] at c2
   have cp:=hM.out.q.p k hk5
   have bp:=HP.out k hk5
   have hdl:ds.length=k+1:=by rw [hok.out.len,hgl.out]
   obtain ⟨up,hup⟩:∃ up:Nat,up=(P k).toNat % (k+1):=⟨_,rfl⟩
   have hul:up<k+1:=by rw [hup];exact Nat.mod_lt _ (by omega)
   have hmod:Int.tmod (P k) ((k:Int)+1)=(up:Int):=by
    rw [Int.tmod_eq_emod_of_nonneg bp.1,hup]
    push_cast
    rw [show (((P k).toNat:Nat):Int)=P k by omega]
   have hmod':(P k).tmod ((k+1:Nat):Int)=(up:Int):=by push_cast;exact hmod
   have z1:IntKind.i64.wrap (P k)=P k:=IntWalk.i64_in _ (by omega)
   have z2:IntKind.i64.wrap (up:Int)=(up:Int):=IntWalk.i64_in _ (by omega)
   have hui:(up:Int)<((k+1:Nat):Int):=by omega
   have hui':(up:Int)<(k:Int)+1:=by omega
   have hk1:((k:Int)+1=0)=False:=by simp;omega
   have o2:=hM.out.q.o2
   rw [hdl] at o2
   have dcell:∀ j,j<k+1→wr.cell? ⟨d,j,none⟩=some (.int .i64 ds[j]!):=fun j hj=>by
    rw [o2.cellAt j (by omega)]
    unfold intsV
    rw [List.getElem?_map,List.getElem?_eq_getElem (by rw [hdl];exact hj),getElem!_pos ds j (by rw [hdl];exact hj)]
    rfl
   have du:=dcell up hul
   have DC:=Lib.hid dcell
   have HDL:=Lib.hid hdl
   clear o2 dcell hdl hup
   obtain ⟨dv,hdv⟩:∃ dv,dv=ds[up]!:=⟨_,rfl⟩
   rw [← hdv] at du
   have HDV:=Lib.hid hdv
   clear hdv
   obtain ⟨u,hu⟩:∃ u:Nat,u=if dv=4 then 0 else up:=⟨_,rfl⟩
   have HU:=Lib.hid hu
   go_wp2_with fail
   go_region
   have du':=cell_dr du
   go_upto_if 39 with fail
   go_cut [6] (fun s6 wx=>s6=.int .i64 (u:Nat)∧wx=wr.drew)
   case first =>
    by_cases h4:dv=4
    ·rw [if_pos h4] at hu
     have z6:(dv == 4)=true:=beq_iff_eq.2 h4
     rw [z6]
     subst hu
     go_wp2_with fail
     go_meet
     case rel=>exact ⟨rfl,rfl⟩
    ·rw [if_neg h4] at hu
     have z6:(dv == 4)=false:=beq_eq_false_iff_ne.2 h4
     rw [z6]
     subst hu
     go_wp2_with fail
     go_meet
     case rel=>exact ⟨rfl,rfl⟩
   case rest =>
    obtain ⟨rfl,rfl⟩:=hcut
    clear hu du du' cp c2 hmod hmod' hui hui'
    have hul2:u<k+1:=by rw [HU.out];split <;> omega
    have hdu:=Lib.hid (show ds[u]!≠4 by
     rw [HU.out]
     split
     ·rw [hok.out.dep 0 (by have:=hgl.out;omega),upL_zero];decide
     ·rw [← HDV.out];assumption)
    have hle:=hok.out.le (j:=u) (by have:=hgl.out;omega)
    obtain ⟨ev,hev⟩:∃ ev,ev=ds[u]!:=⟨_,rfl⟩
    have eu:=cell_dr (DC.out u hul2)
    rw [← hev] at eu hle
    have HSN:=Lib.hid (show GrOk (Gs++[((u:Int),1+V k)]) (ds++[ev+1]) by
     have hg:=hgl.out
     have:=HV.out k hk5
     have:=hok.out.snoc (up:=u) (wt:=1+V k) (by omega) hdu.out (by omega) (by omega)
     rw [← hev] at this
     exact this)
    have bv:=HV.out k hk5
    have hui:(u:Int)<((k+1:Nat):Int):=by omega
    have hui':(u:Int)<(k:Int)+1:=by omega
    have z6:IntKind.i64.wrap (ev+1)=ev+1:=IntWalk.i64_in _ (by omega)
    have z7:IntKind.i64.wrap (V k)=V k:=IntWalk.i64_in _ (by omega)
    have z8:IntKind.i64.wrap (1+V k)=1+V k:=IntWalk.i64_in _ (by omega)
    have z9:IntKind.i64.wrap (u:Int)=(u:Int):=IntWalk.i64_in _ (by omega)
    have hM1:=hM.out.later (show Below wr.heap.size wr wr.drew from (Below.refl _ _).drew)
    have hB1:=Below.step HB.out (show Below wr.heap.size wr wr.drew from (Below.refl _ _).drew)
    obtain ⟨W1,hW1⟩:∃ W,W=wr.drew:=⟨_,rfl⟩
    rw [← hW1] at hM1 hB1 eu ⊢
    clear hW1 hev
    have o2:=hM1.q.o2
    rw [HDL.out] at o2
    have HM1:=Lib.hid hM1
    have HB1:=Lib.hid hB1
    clear hM1 hB1 hM HB
    go_wp2_with (at_builtin;refine wpList_append_own2 rfl (.tmp 40) (.tmp 46) 42 rfl n 3 ii (.int .i64 0) 1 8 Tryz.underlying42 hj hy0 hy1 hy2 rfl (by decide) _ (k+1) (intsV ds) rfl (own_below o2 (below_a _ _)) ⟨W1.heap.size,0,none⟩ 1 1 [.int .i64 (ev+1)] rfl rfl ?c2 ?c3 ?c4 ?c5 ?c6 (by decide) ?_)
    case c2=>exact fun j q hq=>by rw [addN,Nat.zero_add];exact cellN rfl (by simpa using hq)
    case c3=>exact fun q hq=>by simp at hq;subst hq;rfl
    case c4=>unfold maxLen;omega
    case c5=>omega
    case c6=>have:=HM1.out.q.sz;simp;omega
    intro v' W2 oa ga pa
    obtain ⟨d',cd',rfl⟩:=own_some oa
    have hM2:=(HM1.out.later (below_a W1 (.cells #[.int .i64 (ev+1)] 3))).depth (d':=d') (cd':=cd') (y:=ev+1) ga (by rw [HDL.out];exact oa) (by rw [World.size_alloc];exact pa)
    have hB2:Below w.heap.size w W2:=(Below.step HB1.out (below_a W1 (.cells #[.int .i64 (ev+1)] 3))).grown ga (Below.step HB1.out (below_a W1 (.cells #[.int .i64 (ev+1)] 3))).size (fun g hg=>by have:=((own_below o2 (below_a W1 (.cells #[.int .i64 (ev+1)] 3))).lt g hg).1;rw [← HN.out];exact this)
    have HM2:=Lib.hid hM2
    have HB2:=Lib.hid hB2
    have HN2:=Lib.hid (show n=w.heap.size from HN.out)
    clear oa ga pa o2 hB2 HM1 HB1 eu
    go_wp2_with fail
    have cw:=hM2.q.v k hk5
    have hS0:(fun w':World=>w'.cell? ⟨n,8+k,none⟩=some (.int .u16 (V k))) (W2.drew):=cell_dr cw
    refine wp_region_held_drew (S:=fun w':World=>w'.cell? ⟨n,8+k,none⟩=some (.int .u16 (V k))) (by kernel_rfl) hS0 (fun hHeld=>?_)
    have hS00:Below W2.heap.size W2 W2:=Below.refl _ _
    obtain ⟨wc101,hwc101⟩:∃ X,X=W2.drew:=⟨_,rfl⟩
    rw [← hwc101] at hHeld ⊢
    have hWc101:Below W2.heap.size W2 wc101:=by rw [hwc101];exact (Below.refl _ _).drew
    clear hwc101
    refine takeA 0 ?_
    refine takeA 2 ?_
    refine takeA 3 ?_
    refine takeA 4 ?_
    refine takeA 5 ?_
    refine takeA 6 ?_
    refine takeA 7 ?_
    refine takeA 8 ?_
    refine takeA 9 ?_
    refine readyA [1,10] (consA (fun K hK=>?_) (consA (fun K hK=>?_) .nil))
    ·skip
     replace hM2:=hM2.later hWc101
     replace cw:=cell_later hWc101 cw
     have c2:=hM2.c2
     rw [hgl.out] at c2
     go_simp
     clear c2
     refine outA hK (cw) (fun hHeld1=>?_)
     clear hK K
     refine readyA [10] (consA (fun K hK=>?_) .nil)
     go_simp
     obtain ⟨w102,hw102⟩:∃ X,X=wc101.alloc (.cells #[.int .i64 (u:Int),.int .i64 (1+V k)] 72):=⟨_,rfl⟩
     rw [← hw102]
     have hb102:Below wc101.heap.size wc101 w102:=by rw [hw102];exact below_a _ _
     replace hM2:=hM2.later hb102
     replace cw:=cell_later hb102 cw
     have l1:∀ j q,([.int .i64 (u:Int),.int .i64 (1+V k)]:List Value)[j]?=some q→w102.cell? ⟨wc101.heap.size,j,none⟩=some q:=fun j q h=>by rw [hw102];exact cellN rfl (by simpa using h)
     have hBc:=Below.step hWc101 hb102
     clear hw102
     refine outA hK (cw) (fun hHeld10=>?_)
     clear hK K
     refine readyA [11] (consA (fun K hK=>?_) .nil)
     have o1:=hM2.q.o1
     rw [hgl.out] at o1
     refine step_append_own2 rfl (.tmp 49) (.tmp 58) 35 rfl n 72 ig (.agg #[.int .i64 0,.int .i64 0]) 2 16 Tryz.underlying35 hi hz0 hz1 hz2 rfl (by decide) _ (k+1) (flatR encG Gs) rfl o1 _ 1 1 [.int .i64 (u:Int),.int .i64 (1+V k)] rfl rfl (fun j q h=>by rw [addN,Nat.zero_add];exact l1 j q h) (fun q hq=>by simp at hq;rcases hq with rfl | rfl <;> rfl) (by unfold maxLen;omega) (by omega) (by have:=hM2.q.sz;omega) (by decide) ?_
     intro v103 w103 oa103 ga103 pa103
     obtain ⟨bo2,co2,rfl⟩:=own_some oa103
     obtain ⟨hQ,c2⟩:=hM2.group (b':=bo2) (c':=co2) (y:=((u:Int),1+V k)) ga103 (by rw [hgl.out];exact oa103) pa103
     replace cw:=hQ.v k hk5
     have hBd:Below w.heap.size w w103:=(Below.step HB2.out hBc).grown ga103 (Below.step HB2.out hBc).size (fun g hg=>by have:=(o1.lt g hg).1;rw [← HN2.out];exact this)
     clear oa103 ga103 pa103 o1
     refine outA hK (cw) (fun hHeld11=>?_)
     clear hK K
     refine takeA 12 ?_
     refine readyA [13] (consA (fun K hK=>?_) .nil)
     have z2f:=hQ.z 2
     have hR:=hQ.store c2
     rw [List.length_append,hgl.out] at hR
     have hbx:Below w.heap.size w (w103.setCell ⟨n+3,2,none⟩ (.slice (some ⟨bo2,0,none⟩) (k+1+1) co2)):=hBd.setCell (by have:=HN2.out;show w.heap.size≤n+3;omega) _
     go_simp
     refine outA hK (cell_set_ne cw (Or.inl (by omega))) (fun hHeld13=>?_)
     clear hK K
     refine doneA ?_
     have HRN:=Lib.hid hR
     have hGN:=Lib.hid (show (Gs++[((u:Int),1+V k)]).length=k+1+1 by rw [List.length_append,hgl.out];rfl)
     clear hR hQ c2 cw hM2 z2f l1 hBd hBc
     go_wp2_with fail
     go_roundw
     case rel=>exact ⟨k+1,_,_,bo2,co2,d',cd',by omega,by go_num,rfl,hGN,HRN,hbx,HSN⟩
     case measure=>simp [intOf];omega
    ·skip
     replace hM2:=hM2.later hWc101
     replace cw:=cell_later hWc101 cw
     go_simp
     obtain ⟨w104,hw104⟩:∃ X,X=wc101.alloc (.cells #[.int .i64 (u:Int),.int .i64 (1+V k)] 72):=⟨_,rfl⟩
     rw [← hw104]
     have hb104:Below wc101.heap.size wc101 w104:=by rw [hw104];exact below_a _ _
     replace hM2:=hM2.later hb104
     replace cw:=cell_later hb104 cw
     have l1:∀ j q,([.int .i64 (u:Int),.int .i64 (1+V k)]:List Value)[j]?=some q→w104.cell? ⟨wc101.heap.size,j,none⟩=some q:=fun j q h=>by rw [hw104];exact cellN rfl (by simpa using h)
     have hBc:=Below.step hWc101 hb104
     clear hw104
     refine outA hK (cw) (fun hHeld10=>?_)
     clear hK K
     refine readyA [1] (consA (fun K hK=>?_) .nil)
     have c2:=hM2.c2
     rw [hgl.out] at c2
     go_simp
     clear c2
     refine outA hK (cw) (fun hHeld1=>?_)
     clear hK K
     refine readyA [11] (consA (fun K hK=>?_) .nil)
     have o1:=hM2.q.o1
     rw [hgl.out] at o1
     refine step_append_own2 rfl (.tmp 49) (.tmp 58) 35 rfl n 72 ig (.agg #[.int .i64 0,.int .i64 0]) 2 16 Tryz.underlying35 hi hz0 hz1 hz2 rfl (by decide) _ (k+1) (flatR encG Gs) rfl o1 _ 1 1 [.int .i64 (u:Int),.int .i64 (1+V k)] rfl rfl (fun j q h=>by rw [addN,Nat.zero_add];exact l1 j q h) (fun q hq=>by simp at hq;rcases hq with rfl | rfl <;> rfl) (by unfold maxLen;omega) (by omega) (by have:=hM2.q.sz;omega) (by decide) ?_
     intro v105 w105 oa105 ga105 pa105
     obtain ⟨bo2,co2,rfl⟩:=own_some oa105
     obtain ⟨hQ,c2⟩:=hM2.group (b':=bo2) (c':=co2) (y:=((u:Int),1+V k)) ga105 (by rw [hgl.out];exact oa105) pa105
     replace cw:=hQ.v k hk5
     have hBd:Below w.heap.size w w105:=(Below.step HB2.out hBc).grown ga105 (Below.step HB2.out hBc).size (fun g hg=>by have:=(o1.lt g hg).1;rw [← HN2.out];exact this)
     clear oa105 ga105 pa105 o1
     refine outA hK (cw) (fun hHeld11=>?_)
     clear hK K
     refine takeA 12 ?_
     refine readyA [13] (consA (fun K hK=>?_) .nil)
     have z2f:=hQ.z 2
     have hR:=hQ.store c2
     rw [List.length_append,hgl.out] at hR
     have hbx:Below w.heap.size w (w105.setCell ⟨n+3,2,none⟩ (.slice (some ⟨bo2,0,none⟩) (k+1+1) co2)):=hBd.setCell (by have:=HN2.out;show w.heap.size≤n+3;omega) _
     go_simp
     refine outA hK (cell_set_ne cw (Or.inl (by omega))) (fun hHeld13=>?_)
     clear hK K
     refine doneA ?_
     have HRN:=Lib.hid hR
     have hGN:=Lib.hid (show (Gs++[((u:Int),1+V k)]).length=k+1+1 by rw [List.length_append,hgl.out];rfl)
     clear hR hQ c2 cw hM2 z2f l1 hBd hBc
     go_wp2_with fail
     go_roundw
     case rel=>exact ⟨k+1,_,_,bo2,co2,d',cd',by omega,by go_num,rfl,hGN,HRN,hbx,HSN⟩
     case measure=>simp [intOf];omega
  ·obtain rfl:k=m:=by omega
   have z0:decide ((k:Int)<(k:Int))=false:=decide_eq_false (by omega)
   have c0:=hM.out.q.c0
   have c1:=hM.out.q.c1
   have c2:=hM.out.c2
   rw [hgl.out] at c2
   obtain ⟨ra,rb,rv,r0,r1,r2⟩:=hM.out.q.r
   have f0:=hM.out.q.rz 0
   have f1:=hM.out.q.rz 1
   have f2:=hM.out.q.rz 2
   go_wp2_with fail
   refine bodyPost_ret (v:=.agg #[.int .i64 C,.int .u64 n2,.slice (some ⟨bo,0,none⟩) (k+1) co]) (by simp [results,Tryz.results14,go_sem, *]) rfl ?_
   have hk3:Kept [n+1] wr ((((wr.setCell ⟨n+1,0,none⟩ (.int .i64 C)).setCell ⟨n+1,1,none⟩ (.int .u64 n2)).setCell ⟨n+1,2,none⟩ (.slice (some ⟨bo,0,none⟩) (k+1) co))):=(((Kept.refl _ _).setCell (Or.inl (by simp)) _).setCell (Or.inl (by simp)) _).setCell (Or.inl (by simp)) _
   have o1:=hM.out.q.o1
   have b1:=hM.out.q.b1
   have o1':=own_kept o1 hk3 fun b hb m=>by cases hb;simp at m;omega
   refine ⟨Gs,_,C,n2,rfl,hok.out.right,by have:=hgl.out;omega,HC.out.1,HC.out.2,HCR.out,?_,?_,HCN.out⟩
   ·have:=o1'
    rw [← HN.out]
    rw [hgl.out] at this ⊢
    exact this
   ·have hge:w.heap.size≤n+1:=by have:=HN.out;omega
    exact (((HB.out.setCell (p:=⟨n+1,0,none⟩) hge _).setCell (p:=⟨n+1,1,none⟩) hge _).setCell (p:=⟨n+1,2,none⟩) hge _)
theorem Made_at (n0 n1 n2:Int) (P V:Nat→Int) (w:World) (h0:0≤n0∧n0≤255) (h1:0≤n1∧n1≤255) (h2:0≤n2∧n2≤4294967295) (hP:∀ i,i<5→0≤P i∧P i≤255) (hV:∀ i,i<5→0≤V i∧V i≤65535) :
  Calls Tryz.prog 14 #[.agg #[.int .u8 n0,.int .u8 n1,.int .u32 n2,.int .u8 (P 0),.int .u8 (P 1),.int .u8 (P 2),.int .u8 (P 3),.int .u8 (P 4),.int .u16 (V 0),.int .u16 (V 1),.int .u16 (V 2),.int .u16 (V 3),.int .u16 (V 4)]] w (MadeC w):=
 (Made_n n0 n1 n2 P V w h0 h1 h2 hP hV).mono fun e w' ⟨Gs,v,C,cr,q1,q2,q3,q4,q5,q6,q7,q8,_⟩=>⟨Gs,v,C,cr,q1,q2,q3,q4,q5,q6,q7,q8⟩
end Go.Proofs.YtapnaocdehahdaaGreat
