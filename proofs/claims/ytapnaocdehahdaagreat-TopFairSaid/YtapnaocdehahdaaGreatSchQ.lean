/-
  Layer 30's example; layer 31's views of a task.
-/
import Derived.Test.YtapnaocdehahdaaGreatSchJ
namespace Go.Proofs.YtapnaocdehahdaaGreat
open Go.RowKit Go.Maps Go.IntWalk Go.Lib
set_option linter.unusedVariables false
set_option linter.unusedSimpArgs false
def exGs:Grps:=[(0,1),(0,1024)]
theorem right_exGs:RightG exGs:=by
 have h1:upL (parG exGs) 1=[1,0]:=by rw [upL_pos (by decide) (by decide),show parG exGs 1=0 from rfl,upL_zero]
 refine ⟨by decide,by decide,rfl,fun g h0 hl=>?_⟩
 have hl':g<2:=hl
 obtain rfl:g=1:=by omega
 unfold gErr;rw [h1];rfl
set_option maxRecDepth 100000 in
theorem Example_at (w:World):Calls Tryz.prog 60 #[] w fun e w'=>∃ v,e=.returned (.agg #[.int .i64 1,.int .u64 0,v])∧RecsAt encG w' v exGs∧Below w.heap.size w w':=by
 go_enter Tryz.func60,Tryz.ntmps60
 go_wp2_with fail
 refine bodyPost_ret (v:=.agg #[.int .i64 1,.int .u64 0,.slice (some ⟨w.heap.size+1,0,none⟩) 2 2]) (by simp [results,Tryz.results60,go_sem]) rfl ⟨_,rfl,?_,?_⟩
 ·have:=lit_recs encG_ok (w.alloc (.cells #[.int .i64 1,.int .u64 0,.slice (some ⟨w.heap.size+1,0,none⟩) 2 2] 37)) exGs 72 (by decide)
  simp only [World.size_alloc] at this
  exact this
 ·exact Below.allocS (Below.allocS (Below.refl _ _) _) _
def ranX (s:SSt) (id:Int) (t:Tsk):Ent:=if t.rdy then getE ((s.Q t.cpu).M t.g) id else t.run
set_option maxRecDepth 100000 in
set_option maxHeartbeats 4000000 in
theorem xran_at {w:World} {x:Nat} {L:SLay} {s:SSt} {id:Int} {t:Tsk} (h:SRaw w x L s) (ho:SOk s) (hT:s.T id=some t) :
  Calls Tryz.prog 111 #[.pointer (some ⟨x,0,none⟩),.int .i64 id,.pointer (some ⟨L.tp id,0,none⟩)] w fun e w'=>e=.returned (.agg #[.int .u64 (ranX s id t).1,.int .u32 (ranX s id t).2.1,.int .u32 (ranX s id t).2.2])∧Below w.heap.size w w':=by
 have ht:=(ho.task id t hT).2
 have hid:=wfTask ho hT
 obtain ⟨W0,hW0⟩:∃ W0,W0=w.alloc (.cells #[.int .u64 0,.int .u32 0,.int .u32 0] 107):=⟨_,rfl⟩
 have HB0:=Lib.hid (show Below w.heap.size w W0 by rw [hW0];exact below_a _ _)
 have h0:=h.below HB0.out
 have z0:W0.cell? ⟨w.heap.size,0,none⟩=some (.int .u64 0):=by rw [hW0];exact cell_nw _ _ _ 0 _ rfl
 have z1:W0.cell? ⟨w.heap.size,1,none⟩=some (.int .u32 0):=by rw [hW0];exact cell_nw _ _ _ 1 _ rfl
 have z2:W0.cell? ⟨w.heap.size,2,none⟩=some (.int .u32 0):=by rw [hW0];exact cell_nw _ _ _ 2 _ rfl
 have g0:W0.frozen? ⟨w.heap.size,0,none⟩=false:=by rw [hW0];exact frz_nw _ _ _ 0
 have g1:W0.frozen? ⟨w.heap.size,1,none⟩=false:=by rw [hW0];exact frz_nw _ _ _ 1
 have g2:W0.frozen? ⟨w.heap.size,2,none⟩=false:=by rw [hW0];exact frz_nw _ _ _ 2
 have LT:=Lib.hid (show w.heap.size<W0.heap.size by rw [hW0];simp)
 have tk:=h0.tk id t hT
 have c4:W0.cell? ⟨L.tp id,4,none⟩=some (.bool t.rdy):=tk.c4
 have HW0:=Lib.hid hW0
 cases hr:t.rdy with
 | false =>
  have e1:ranX s id t=t.run:=by unfold ranX;rw [hr];rfl
  have c5:W0.cell? ⟨L.tp id,5,none⟩=some (.int .u64 t.run.1):=tk.c5
  have c6:W0.cell? ⟨L.tp id,6,none⟩=some (.int .u32 t.run.2.1):=tk.c6
  have c7:W0.cell? ⟨L.tp id,7,none⟩=some (.int .u32 t.run.2.2):=tk.c7
  have nb:L.tp id≠w.heap.size:=by have:=(h.tk id t hT).lt;omega
  rw [hr] at c4
  rw [e1]
  obtain ⟨bx,hbx⟩:∃ b,b=w.heap.size:=⟨_,rfl⟩
  rw [← hbx] at z0 z1 z2 g0 g1 g2 LT nb
  have HBX:=Lib.hid hbx
  clear h h0 ho hT ht tk hr e1 hW0 hbx
  go_enter Tryz.func111,Tryz.ntmps111
  go_upto_region 1 with fail
  rw [← HW0.out,← HBX.out]
  go_wp2_with fail
  refine bodyPost_ret (v:=.agg #[.int .u64 t.run.1,.int .u32 t.run.2.1,.int .u32 t.run.2.2]) (by simp [results,Tryz.results111,go_sem, *]) rfl ⟨rfl,?_⟩
  have hbn:w.heap.size≤bx:=by have:=HBX.out;omega
  exact ((HB0.out.setCell hbn _).setCell hbn _).setCell hbn _
 | true =>
  have e1:ranX s id t=getE ((s.Q t.cpu).M t.g) id:=by unfold ranX;rw [hr];rfl
  rw [hr] at c4
  have c0:W0.cell? ⟨L.tp id,0,none⟩=some (.int .i64 t.g):=(h0.tk id t hT).c0
  have c2:W0.cell? ⟨L.tp id,2,none⟩=some (.int .i64 t.cpu):=(h0.tk id t hT).c2
  obtain ⟨cq,x6⟩:∃ c,W0.cell? ⟨x,6,none⟩=some (.slice (some ⟨L.bq,0,none⟩) s.n c):=h0.head.c6
  obtain ⟨cr',r6⟩:∃ c,W0.cell? ⟨L.bq,t.g,none⟩=some (.slice (some ⟨L.rq t.g,0,none⟩) s.C c):=h0.rq.c t.g ht.g
  have p6:W0.cell? ⟨L.rq t.g,t.cpu,none⟩=some (.pointer (some ⟨L.qp t.g t.cpu,0,none⟩)):=(h0.qc t.g ht.g).c t.cpu ht.cpu
  have hgm:(t.g:Int)<(s.n:Int):=by have:=ht.g;omega
  have hkm:(t.cpu:Int)<(s.C:Int):=by have:=ht.cpu;omega
  have hq0:=h0.q t.g t.cpu ht.g ht.cpu
  have HQ:=Lib.hid (hq0.below (Below.refl _ _).drew)
  have HQa:=Lib.hid (hq0.below ((below_a W0 (.cells #[.int .u64 0,.int .u32 0,.int .u32 0] 107)).drew))
  have A1:=Lib.hid fun W (hW:QIn W (L.qp t.g t.cpu) (L.Fq t.g t.cpu) qN ((s.Q t.cpu).M t.g) ((s.Q t.cpu).fl t.g))=>(show Calls Tryz.prog 113 #[.pointer (some ⟨L.qp t.g t.cpu,0,none⟩),.int .i64 id] W fun e w'=>e=.returned (.tuple #[.agg #[.int .u64 (ranX s id t).1,.int .u32 (ranX s id t).2.1,.int .u32 (ranX s id t).2.2],.bool (entM ((s.Q t.cpu).M t.g) id).isSome])∧Below W.heap.size W w' by rw [e1];exact Get_at id W hW hid)
  have n1:x∉[W0.heap.size]:=by have:=lt_of_cell x6;simp;omega
  have n2:L.bq∉[W0.heap.size]:=by have:=lt_of_cell r6;simp;omega
  have n3:L.rq t.g∉[W0.heap.size]:=by have:=lt_of_cell p6;simp;omega
  have n4:L.tp id∉[W0.heap.size]:=by have:=lt_of_cell c0;simp;omega
  obtain ⟨xe,hxe⟩:∃ xe,xe=ranX s id t:=⟨_,rfl⟩
  rw [← hxe] at A1 ⊢
  obtain ⟨bx,hbx⟩:∃ b,b=w.heap.size:=⟨_,rfl⟩
  rw [← hbx] at z0 z1 z2 g0 g1 g2 LT
  have HBX:=Lib.hid hbx
  clear h ho hT ht tk hr e1 h0 hid hW0 hxe hbx hq0
  go_enter Tryz.func111,Tryz.ntmps111
  go_upto_region 1 with fail
  rw [← HW0.out,← HBX.out]
  go_wp2_with fail
  refine startA (S:=fun w'=>Kept [W0.heap.size] W0 w'∧w'.cell? ⟨x,6,none⟩=some (.slice (some ⟨L.bq,0,none⟩) s.n cq)∧w'.cell? ⟨L.bq,t.g,none⟩=some (.slice (some ⟨L.rq t.g,0,none⟩) s.C cr')∧w'.cell? ⟨L.rq t.g,t.cpu,none⟩=some (.pointer (some ⟨L.qp t.g t.cpu,0,none⟩))∧w'.cell? ⟨L.tp id,0,none⟩=some (.int .i64 t.g)∧w'.cell? ⟨L.tp id,2,none⟩=some (.int .i64 t.cpu)) ⟨Kept.refl _ _,x6,r6,p6,c0,c2⟩ (fun h=>heldK_5 (kept_dr _ _) h) (fun hS0 hHeld=>?_)
  refine takeA 0 ?_
  refine takeA 1 ?_
  refine takeA 2 ?_
  refine takeA 3 ?_
  refine takeA 4 ?_
  refine takeA 5 ?_
  refine takeA 6 ?_
  refine takeA 7 ?_
  refine takeA 8 ?_
  refine takeA 9 ?_
  refine takeA 10 ?_
  refine takeA 11 ?_
  refine takeA 12 ?_
  refine takeA 13 ?_
  refine takeA 14 ?_
  refine takeA 15 ?_
  refine takeA 16 ?_
  refine readyA [17,21] (consA (fun K hK=>?_) (consA (fun K hK=>?_) .nil))
  ·skip
   go_simp
   refine (A1.out _ HQ.out).mono ?_
   rintro e w13 ⟨rfl,hb13⟩
   have hk13:=Kept.of (S:=[W0.heap.size]) hb13
   have HB13:=Lib.hid (Below.step (Below.refl W0.heap.size W0).drew hb13)
   go_wp2_with fail
   refine outA hK kpK_5 (fun hHeld17=>?_)
   clear hK K
   refine takeA 18 ?_
   refine takeA 19 ?_
   refine takeA 20 ?_
   refine readyA [21] (consA (fun K hK=>?_) .nil)
   go_simp
   refine outA hK kpK_5 (fun hHeld21=>?_)
   clear hK K
   refine readyA [22] (consA (fun K hK=>?_) .nil)
   go_simp
   have hk18:=(((Kept.refl [W0.heap.size] w13).setCell (p:=⟨W0.heap.size,0,none⟩) (Or.inl (by simp)) (.int .u64 xe.1)).setCell (p:=⟨W0.heap.size,1,none⟩) (Or.inl (by simp)) (.int .u32 xe.2.1)).setCell (p:=⟨W0.heap.size,2,none⟩) (Or.inl (by simp)) (.int .u32 xe.2.2)
   refine outA hK kpK_5 (fun hHeld22=>?_)
   clear hK K
   refine takeA 23 ?_
   refine doneA ?_
   first
    | (
     obtain ⟨W3,hW3⟩:∃ X,X=w13.alloc (.cells #[.int .u64 xe.1,.int .u32 xe.2.1,.int .u32 xe.2.2] 107):=⟨_,rfl⟩
     rw [← hW3]
     obtain ⟨b18,hb18⟩:∃ b,b=w13.heap.size:=⟨_,rfl⟩
     rw [← hb18]
     have x0:W3.cell? ⟨b18,0,none⟩=some (.int .u64 xe.1):=by rw [hW3];exact cell_nwE hb18 _ _ 0 _ rfl
     have x1:W3.cell? ⟨b18,1,none⟩=some (.int .u32 xe.2.1):=by rw [hW3];exact cell_nwE hb18 _ _ 1 _ rfl
     have x2:W3.cell? ⟨b18,2,none⟩=some (.int .u32 xe.2.2):=by rw [hW3];exact cell_nwE hb18 _ _ 2 _ rfl
     have hB3:Below W0.heap.size W0 W3:=by rw [hW3];exact Below.allocS HB13.out _)
    | (
     obtain ⟨W3,hW3⟩:∃ X,X=(((w13.setCell ⟨W0.heap.size,0,none⟩ (.int .u64 xe.1)).setCell ⟨W0.heap.size,1,none⟩ (.int .u32 xe.2.1)).setCell ⟨W0.heap.size,2,none⟩ (.int .u32 xe.2.2)):=⟨_,rfl⟩
     rw [← hW3]
     obtain ⟨b18,hb18⟩:∃ b,b=W0.heap.size:=⟨_,rfl⟩
     rw [← hb18]
     have x0:W3.cell? ⟨b18,0,none⟩=some (.int .u64 xe.1):=by rw [hW3,hb18];exact cell_set_ne (cell_set_ne (cell_set_eq x0) (Or.inr (by omega))) (Or.inr (by omega))
     have x1:W3.cell? ⟨b18,1,none⟩=some (.int .u32 xe.2.1):=by rw [hW3,hb18];exact cell_set_ne (cell_set_eq (cell_set_ne x1 (Or.inr (by omega)))) (Or.inr (by omega))
     have x2:W3.cell? ⟨b18,2,none⟩=some (.int .u32 xe.2.2):=by rw [hW3,hb18];exact cell_set_eq (cell_set_ne (cell_set_ne x2 (Or.inr (by omega))) (Or.inr (by omega)))
     have hB3:Below W0.heap.size W0 W3:=by rw [hW3];exact ((HB13.out.setCell (by simp) _).setCell (by simp) _).setCell (by simp) _)
   clear hW3 hb18
   replace z0:=cell_later hB3 z0
   replace z1:=cell_later hB3 z1
   replace z2:=cell_later hB3 z2
   replace g0:=frz_later hB3 g0 LT.out
   replace g1:=frz_later hB3 g1 LT.out
   replace g2:=frz_later hB3 g2 LT.out
   have HB4:=Lib.hid (Below.step HB0.out hB3)
   clear hS0 hHeld hB3
   go_wp2_with fail
   refine bodyPost_ret (v:=.agg #[.int .u64 xe.1,.int .u32 xe.2.1,.int .u32 xe.2.2]) (by simp [results,Tryz.results111,go_sem,z0,z1,z2,g0,g1,g2]) rfl ⟨rfl,?_⟩
   have hbn:w.heap.size≤bx:=by have:=HBX.out;omega
   exact ((HB4.out.setCell hbn _).setCell hbn _).setCell hbn _
  ·skip
   go_simp
   refine outA hK kpK_5 (fun hHeld21=>?_)
   clear hK K
   refine readyA [17] (consA (fun K hK=>?_) .nil)
   go_simp
   refine (A1.out _ HQa.out).mono ?_
   rintro e w13 ⟨rfl,hb13⟩
   have hk13:=Kept.of (S:=[W0.heap.size]) hb13
   have x0:=cell_later hb13 (cell_dr (cell_nw W0 #[.int .u64 0,.int .u32 0,.int .u32 0] 107 0 _ rfl))
   have x1:=cell_later hb13 (cell_dr (cell_nw W0 #[.int .u64 0,.int .u32 0,.int .u32 0] 107 1 _ rfl))
   have x2:=cell_later hb13 (cell_dr (cell_nw W0 #[.int .u64 0,.int .u32 0,.int .u32 0] 107 2 _ rfl))
   have f0:=frz_later hb13 (show (W0.alloc (.cells #[.int .u64 0,.int .u32 0,.int .u32 0] 107)).drew.frozen? ⟨W0.heap.size,0,none⟩=false from frz_nw W0 _ _ 0) (by simp)
   have f1:=frz_later hb13 (show (W0.alloc (.cells #[.int .u64 0,.int .u32 0,.int .u32 0] 107)).drew.frozen? ⟨W0.heap.size,1,none⟩=false from frz_nw W0 _ _ 1) (by simp)
   have f2:=frz_later hb13 (show (W0.alloc (.cells #[.int .u64 0,.int .u32 0,.int .u32 0] 107)).drew.frozen? ⟨W0.heap.size,2,none⟩=false from frz_nw W0 _ _ 2) (by simp)
   have HB13:=Lib.hid (Below.step (Below.allocS (Below.refl W0.heap.size W0) (.cells #[.int .u64 0,.int .u32 0,.int .u32 0] 107)).drew hb13)
   go_wp2_with fail
   refine outA hK kpK_5 (fun hHeld17=>?_)
   clear hK K
   refine takeA 18 ?_
   refine takeA 19 ?_
   refine takeA 20 ?_
   refine readyA [22] (consA (fun K hK=>?_) .nil)
   go_simp
   have hk18:=(((Kept.refl [W0.heap.size] w13).setCell (p:=⟨W0.heap.size,0,none⟩) (Or.inl (by simp)) (.int .u64 xe.1)).setCell (p:=⟨W0.heap.size,1,none⟩) (Or.inl (by simp)) (.int .u32 xe.2.1)).setCell (p:=⟨W0.heap.size,2,none⟩) (Or.inl (by simp)) (.int .u32 xe.2.2)
   refine outA hK kpK_5 (fun hHeld22=>?_)
   clear hK K
   refine takeA 23 ?_
   refine doneA ?_
   first
    | (
     obtain ⟨W3,hW3⟩:∃ X,X=w13.alloc (.cells #[.int .u64 xe.1,.int .u32 xe.2.1,.int .u32 xe.2.2] 107):=⟨_,rfl⟩
     rw [← hW3]
     obtain ⟨b18,hb18⟩:∃ b,b=w13.heap.size:=⟨_,rfl⟩
     rw [← hb18]
     have x0:W3.cell? ⟨b18,0,none⟩=some (.int .u64 xe.1):=by rw [hW3];exact cell_nwE hb18 _ _ 0 _ rfl
     have x1:W3.cell? ⟨b18,1,none⟩=some (.int .u32 xe.2.1):=by rw [hW3];exact cell_nwE hb18 _ _ 1 _ rfl
     have x2:W3.cell? ⟨b18,2,none⟩=some (.int .u32 xe.2.2):=by rw [hW3];exact cell_nwE hb18 _ _ 2 _ rfl
     have hB3:Below W0.heap.size W0 W3:=by rw [hW3];exact Below.allocS HB13.out _)
    | (
     obtain ⟨W3,hW3⟩:∃ X,X=(((w13.setCell ⟨W0.heap.size,0,none⟩ (.int .u64 xe.1)).setCell ⟨W0.heap.size,1,none⟩ (.int .u32 xe.2.1)).setCell ⟨W0.heap.size,2,none⟩ (.int .u32 xe.2.2)):=⟨_,rfl⟩
     rw [← hW3]
     obtain ⟨b18,hb18⟩:∃ b,b=W0.heap.size:=⟨_,rfl⟩
     rw [← hb18]
     have x0:W3.cell? ⟨b18,0,none⟩=some (.int .u64 xe.1):=by rw [hW3,hb18];exact cell_set_ne (cell_set_ne (cell_set_eq x0) (Or.inr (by omega))) (Or.inr (by omega))
     have x1:W3.cell? ⟨b18,1,none⟩=some (.int .u32 xe.2.1):=by rw [hW3,hb18];exact cell_set_ne (cell_set_eq (cell_set_ne x1 (Or.inr (by omega)))) (Or.inr (by omega))
     have x2:W3.cell? ⟨b18,2,none⟩=some (.int .u32 xe.2.2):=by rw [hW3,hb18];exact cell_set_eq (cell_set_ne (cell_set_ne x2 (Or.inr (by omega))) (Or.inr (by omega)))
     have hB3:Below W0.heap.size W0 W3:=by rw [hW3];exact ((HB13.out.setCell (by simp) _).setCell (by simp) _).setCell (by simp) _)
   clear hW3 hb18
   replace z0:=cell_later hB3 z0
   replace z1:=cell_later hB3 z1
   replace z2:=cell_later hB3 z2
   replace g0:=frz_later hB3 g0 LT.out
   replace g1:=frz_later hB3 g1 LT.out
   replace g2:=frz_later hB3 g2 LT.out
   have HB4:=Lib.hid (Below.step HB0.out hB3)
   clear hS0 hHeld hB3
   go_wp2_with fail
   refine bodyPost_ret (v:=.agg #[.int .u64 xe.1,.int .u32 xe.2.1,.int .u32 xe.2.2]) (by simp [results,Tryz.results111,go_sem,z0,z1,z2,g0,g1,g2]) rfl ⟨rfl,?_⟩
   have hbn:w.heap.size≤bx:=by have:=HBX.out;omega
   exact ((HB4.out.setCell hbn _).setCell hbn _).setCell hbn _
end Go.Proofs.YtapnaocdehahdaaGreat
