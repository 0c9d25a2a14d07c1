/-
  Layer 31 (sched): wake.
-/
import Derived.Test.YtapnaocdehahdaaGreatSchB
namespace Go.Proofs.YtapnaocdehahdaaGreat
open Go.RowKit Go.Maps Go.IntWalk Go.Lib
set_option linter.unusedVariables false
set_option linter.unusedSimpArgs false
def wokeT (s:SSt) (t:Tsk):Tsk:={ t with run:=wokenX t.run ((s.Q t.cpu).fl t.g) s.cr }
def awC (s:SSt) (id:Int):Int:=match s.T id with
 | none=>6
 | some t=>if t.rdy then 304 else 0
def awS (s:SSt) (id:Int):SSt:=match s.T id with
 | none=>s
 | some t=>if t.rdy then s else entS (tskS s id (wokeT s t)) id (wokeT s t)
theorem SOk.woken {s:SSt} (h:SOk s) {id:Int} {t:Tsk} (hT:s.T id=some t) (hr:t.rdy=false):SOk (tskS s id (wokeT s t)):=by
 have ht:=(h.task id t hT).2
 refine h.tsk hT hr hr ⟨ht.g,ht.w,ht.cpu,ht.mask,?_⟩
 exact wokenX_ok ht.run ((h.tree t.cpu ht.cpu).core.fok t.g) h.cr.1
theorem wake_set {w:World} {x:Nat} {L:SLay} {s:SSt} {id:Int} {t:Tsk} {y:Ent} (h:SRaw w x L s) (hT:s.T id=some t):SRaw (set3 w (L.tp id) 5 y) x L (tskS s id { t with run:=y })∧SStep L w L (set3 w (L.tp id) 5 y):=by
 have tk:=h.tk id t hT
 have k6:=set3_kept w (L.tp id) 5 y
 have t6:TskAt (set3 w (L.tp id) 5 y) (L.tp id) { t with run:=y }:=by
  unfold set3
  exact ⟨cell_set_ne (cell_set_ne (cell_set_ne tk.c0 (Or.inr (by decide))) (Or.inr (by decide))) (Or.inr (by decide)),cell_set_ne (cell_set_ne (cell_set_ne tk.c1 (Or.inr (by decide))) (Or.inr (by decide))) (Or.inr (by decide)),cell_set_ne (cell_set_ne (cell_set_ne tk.c2 (Or.inr (by decide))) (Or.inr (by decide))) (Or.inr (by decide)),cell_set_ne (cell_set_ne (cell_set_ne tk.c3 (Or.inr (by decide))) (Or.inr (by decide))) (Or.inr (by decide)),cell_set_ne (cell_set_ne (cell_set_ne tk.c4 (Or.inr (by decide))) (Or.inr (by decide))) (Or.inr (by decide)),
   cell_set_ne (cell_set_ne (cell_set_eq tk.c5) (Or.inr (by decide))) (Or.inr (by decide)),cell_set_ne (cell_set_eq (cell_set_ne tk.c6 (Or.inr (by decide)))) (Or.inr (by decide)),cell_set_eq (cell_set_ne (cell_set_ne tk.c7 (Or.inr (by decide))) (Or.inr (by decide))),fun j=>by rw [World.frozen?_setCell,World.frozen?_setCell,World.frozen?_setCell];exact tk.z j⟩
 exact ⟨h.task hT k6 t6,SStep.of_kept k6 fun b hb=>by simp at hb;subst hb;rw [h.ltk id t hT];simp⟩
set_option maxRecDepth 100000 in
set_option maxHeartbeats 4000000 in
theorem dWake_at {w:World} {x:Nat} {L:SLay} {s:SSt} {o:OpV} (h:SRaw w x L s) (ho:SOk s) (hwf:o.Wf) (hwk:0≤s.wk∧s.wk≤1000000) :
  Calls Tryz.prog 300 #[encO o,.pointer (some ⟨x,0,none⟩)] w (SDo w x L 0 (awC s o.task) (awS s o.task)):=by
 have HS:=Lib.hid h
 have HO:=Lib.hid ho
 obtain ⟨W0,hW0⟩:∃ W,W=w.alloc (.cells (cellsO o) 199):=⟨_,rfl⟩
 have hb0:Below w.heap.size w W0:=by rw [hW0];exact below_a _ _
 have B0:OpBox W0 w.heap.size o:=by rw [hW0];exact OpBox.new _ _ _
 have h0:=h.below hb0
 have HB0:=Lib.hid hb0
 unfold cellsO at hW0
 have HW0:=Lib.hid hW0
 clear hW0
 have b2:=B0.c2
 have B1:=Lib.hid B0
 have H0:=Lib.hid h0
 have HID:=Lib.hid hwf.task
 have x5:W0.cell? ⟨x,5,none⟩=some (.map (some L.bm)):=h0.head.c5
 have hlk:=(h0.below (Below.refl _ _).drew).look hwf.task
 obtain ⟨id,hid⟩:∃ id,id=o.task:=⟨_,rfl⟩
 rw [← hid] at b2 hlk ⊢
 have HI:=Lib.hid hid
 cases hT:s.T id with
 | none =>
  have E1:=Lib.hid (show awC s id=6 by unfold awC;rw [hT])
  have E2:=Lib.hid (show awS s id=s by unfold awS;rw [hT])
  rw [hT] at hlk
  have hlk2:(Instr.lookup 96 (.map (some L.bm)) (.int .i64 id) false).run Tryz.prog W0.drew=.ok (.pointer none) W0.drew:=hlk
  clear h ho h0 hb0 B0 hid hlk hT
  unfold encO
  go_enter Tryz.func300,Tryz.ntmps300
  go_upto_region 1 with fail
  rw [← HW0.out]
  go_region
  go_wp2_with fail
  refine bodyPost_ret (v:=.tuple #[.int .i64 0,.int .i64 6]) (by simp [results,Tryz.results300,go_sem]) rfl ⟨by rw [E1.out],?_⟩
  rw [E2.out]
  exact SLeft.same HS.out HB0.out.drew
 | some t =>
  rw [hT] at hlk
  have hlk2:(Instr.lookup 96 (.map (some L.bm)) (.int .i64 id) false).run Tryz.prog W0.drew=.ok (.pointer (some ⟨L.tp id,0,none⟩)) W0.drew:=hlk
  have tk:=h0.tk id t hT
  have t4:=tk.c4
  cases hr:t.rdy with
  | true =>
   have E1:=Lib.hid (show awC s id=304 by unfold awC;rw [hT];simp [hr])
   have E2:=Lib.hid (show awS s id=s by unfold awS;rw [hT];simp [hr])
   rw [hr] at t4
   clear h ho h0 hb0 B0 hid hlk hT tk hr
   unfold encO
   go_enter Tryz.func300,Tryz.ntmps300
   go_upto_region 1 with fail
   rw [← HW0.out]
   go_region
   go_wp2_with fail
   refine bodyPost_ret (v:=.tuple #[.int .i64 0,.int .i64 304]) (by simp [results,Tryz.results300,go_sem]) rfl ⟨by rw [E1.out],?_⟩
   rw [E2.out]
   exact SLeft.same HS.out HB0.out.drew
  | false =>
   have E1:=Lib.hid (show awC s id=0 by unfold awC;rw [hT];simp [hr])
   have E2:=Lib.hid (show awS s id=entS (tskS s id (wokeT s t)) id (wokeT s t) by unfold awS;rw [hT];simp [hr])
   have HT:=Lib.hid hT
   have HR:=Lib.hid hr
   have htk:=(ho.task id t hT).2
   have htc:=htk.cpu
   have htg:=htk.g
   have HTK:=Lib.hid htk
   obtain ⟨W1,hW1⟩:∃ W,W=W0.drew:=⟨_,rfl⟩
   have hB1:Below W0.heap.size W0 W1:=by rw [hW1];exact (Below.refl _ _).drew
   have h1:=h0.below hB1
   have H1:=Lib.hid h1
   have HB1:=Lib.hid hB1
   have HW1:=Lib.hid hW1
   have B2:=Lib.hid (B0.later hB1)
   have tk1:=h1.tk id t hT
   obtain ⟨b,hb⟩:∃ b,b=L.tp id:=⟨_,rfl⟩
   rw [← hb] at tk1 hlk2
   replace t4:W1.cell? ⟨b,4,none⟩=some (.bool false):=by have:=tk1.c4;rw [hr] at this;exact this
   have HB:=Lib.hid hb
   have ta0:=tk1.c0
   have ta2:=tk1.c2
   have ta5:=tk1.c5
   have ta6:=tk1.c6
   have ta7:=tk1.c7
   have TZ:=Lib.hid tk1
   have hcm:(t.cpu:Int)<(s.C:Int):=by omega
   have hgm:(t.g:Int)<(s.n:Int):=by omega
   obtain ⟨c6,x6⟩:∃ c,W1.cell? ⟨x,6,none⟩=some (.slice (some ⟨L.bq,0,none⟩) s.n c):=h1.head.c6
   obtain ⟨cr',r6⟩:∃ c,W1.cell? ⟨L.bq,t.g,none⟩=some (.slice (some ⟨L.rq t.g,0,none⟩) s.C c):=h1.rq.c t.g htg
   have p6:W1.cell? ⟨L.rq t.g,t.cpu,none⟩=some (.pointer (some ⟨L.qp t.g t.cpu,0,none⟩)):=(h1.qc t.g htg).c t.cpu htc
   have x1:W1.cell? ⟨x,1,none⟩=some (.int .u64 s.cr):=h1.head.c1
   have hq:=h1.q t.g t.cpu htg htc
   have lb:L.lab b=(4,id,0):=by rw [HB.out];exact h.ltk id t hT
   have nx:x∉[b]:=by simp;exact lab_ne h.lx lb (by simp)
   have nq:L.bq∉[b]:=by simp;exact lab_ne h.lq lb (by simp)
   have nr:L.rq t.g∉[b]:=by simp;exact lab_ne (h.lrq t.g htg) lb (by simp)
   have A1:=Lib.hid (Floor_at W1.drew (hq.below (Below.refl _ _).drew))
   have hfl:0≤(s.Q t.cpu).fl t.g∧(s.Q t.cpu).fl t.g≤18446744073709551615:=by have:=hq.ids;omega
   have hcr:=ho.cr
   have A2:=Lib.hid fun W=>plWoken_at t.run.1 t.run.2.1 t.run.2.2 ((s.Q t.cpu).fl t.g) s.cr W (Ch.Ok.fits htk.run) hfl (by omega)
   obtain ⟨y,hy⟩:∃ y,y=wokenX t.run ((s.Q t.cpu).fl t.g) s.cr:=⟨_,rfl⟩
   rw [show wokenX (t.run.1,t.run.2.1,t.run.2.2) ((s.Q t.cpu).fl t.g) s.cr=y from hy.symm] at A2
   have HY:=Lib.hid hy
   clear h h0 hb0 B0 hid hlk hT tk hr htk hW1 hB1 h1 tk1 hb hq hfl hcr hy ho
   unfold encO
   go_enter Tryz.func300,Tryz.ntmps300
   go_upto_region 1 with fail
   rw [← HW0.out]
   go_region
   rw [← HW1.out]
   go_upto_region 6 with fail
   go_cut [6] (fun s6 wx=>s6=.pointer (some ⟨b,0,none⟩)∧SRaw wx x L (tskS s id (wokeT s t))∧SStep L W1 L wx)
   case first =>
    as_aux_lemma =>
     refine startA (S:=fun w'=>Kept [b] W1 w'∧w'.cell? ⟨x,6,none⟩=some (.slice (some ⟨L.bq,0,none⟩) s.n c6)∧w'.cell? ⟨L.bq,t.g,none⟩=some (.slice (some ⟨L.rq t.g,0,none⟩) s.C cr')∧w'.cell? ⟨L.rq t.g,t.cpu,none⟩=some (.pointer (some ⟨L.qp t.g t.cpu,0,none⟩))∧w'.cell? ⟨x,1,none⟩=some (.int .u64 s.cr)) ⟨Kept.refl _ _,x6,r6,p6,x1⟩ (fun h=>heldK_4 (kept_dr _ _) h) (fun hS0 hHeld=>?_)
     refine takeA 0 ?_
     refine takeA 1 ?_
     refine takeA 2 ?_
     refine takeA 3 ?_
     refine takeA 5 ?_
     refine takeA 6 ?_
     refine takeA 7 ?_
     refine takeA 8 ?_
     refine takeA 9 ?_
     refine takeA 10 ?_
     refine takeA 11 ?_
     refine takeA 15 ?_
     refine takeA 16 ?_
     refine takeA 17 ?_
     refine takeA 22 ?_
     refine takeA 23 ?_
     refine takeA 24 ?_
     refine takeA 25 ?_
     refine takeA 26 ?_
     refine readyA [4,12,18] (consA (fun K hK=>?_) (consA (fun K hK=>?_) (consA (fun K hK=>?_) .nil)))
     ·skip
      go_simp
      skip
      refine outA hK kpK_4 (fun hHeld4=>?_)
      clear hK K
      refine readyA [12,18] (consA (fun K hK=>?_) (consA (fun K hK=>?_) .nil))
      ·skip
       go_simp
       skip
       refine outA hK kpK_4 (fun hHeld12=>?_)
       clear hK K
       refine takeA 13 ?_
       refine takeA 14 ?_
       refine readyA [18] (consA (fun K hK=>?_) .nil)
       go_simp
       skip
       refine outA hK kpK_4 (fun hHeld18=>?_)
       clear hK K
       refine takeA 19 ?_
       refine takeA 20 ?_
       refine readyA [21] (consA (fun K hK=>?_) .nil)
       go_simp
       refine A1.out.mono ?_
       rintro e w5 ⟨rfl,rfl⟩
       go_wp2_with fail
       refine outA hK kpK_4 (fun hHeld21=>?_)
       clear hK K
       refine readyA [27] (consA (fun K hK=>?_) .nil)
       go_simp
       refine (A2.out _).mono ?_
       rintro e w6 ⟨rfl,hb6⟩
       have hk6:Kept [b] W1.drew w6:=Kept.of hb6
       have e5:=cell_later hb6 (cell_dr ta5)
       have e6:=cell_later hb6 (cell_dr ta6)
       have e7:=cell_later hb6 (cell_dr ta7)
       have fz5:=frz_later hb6 (show W1.drew.frozen? ⟨b,5,none⟩=false from TZ.out.z 5) TZ.out.lt
       have fz6:=frz_later hb6 (show W1.drew.frozen? ⟨b,6,none⟩=false from TZ.out.z 6) TZ.out.lt
       have fz7:=frz_later hb6 (show W1.drew.frozen? ⟨b,7,none⟩=false from TZ.out.z 7) TZ.out.lt
       go_wp2_with fail
       refine outA hK kpK_4 (fun hHeld27=>?_)
       clear hK K
       refine takeA 28 ?_
       refine takeA 29 ?_
       refine takeA 30 ?_
       refine takeA 31 ?_
       refine takeA 32 ?_
       refine readyA [33] (consA (fun K hK=>?_) .nil)
       go_simp
       have hk33:=set3_kept w6 b 5 y
       unfold set3 at hk33
       refine outA hK kpK_4 (fun hHeld33=>?_)
       clear hK K
       refine doneA ?_
       go_wp2_with fail
       go_meet
       case rel =>
        have r6:=wake_set (y:=y) ((H1.out.below (Below.refl _ _).drew).below hb6) HT.out
        rw [← HB.out,HY.out] at r6
        rw [HY.out]
        exact ⟨rfl,r6.1,((SStep.of (Below.refl _ _).drew).trans (SStep.of hb6)).trans r6.2⟩
      ·skip
       go_simp
       skip
       refine outA hK kpK_4 (fun hHeld18=>?_)
       clear hK K
       refine readyA [12] (consA (fun K hK=>?_) .nil)
       go_simp
       skip
       refine outA hK kpK_4 (fun hHeld12=>?_)
       clear hK K
       refine takeA 13 ?_
       refine takeA 14 ?_
       refine takeA 19 ?_
       refine takeA 20 ?_
       refine readyA [21] (consA (fun K hK=>?_) .nil)
       go_simp
       refine A1.out.mono ?_
       rintro e w5 ⟨rfl,rfl⟩
       go_wp2_with fail
       refine outA hK kpK_4 (fun hHeld21=>?_)
       clear hK K
       refine readyA [27] (consA (fun K hK=>?_) .nil)
       go_simp
       refine (A2.out _).mono ?_
       rintro e w6 ⟨rfl,hb6⟩
       have hk6:Kept [b] W1.drew w6:=Kept.of hb6
       have e5:=cell_later hb6 (cell_dr ta5)
       have e6:=cell_later hb6 (cell_dr ta6)
       have e7:=cell_later hb6 (cell_dr ta7)
       have fz5:=frz_later hb6 (show W1.drew.frozen? ⟨b,5,none⟩=false from TZ.out.z 5) TZ.out.lt
       have fz6:=frz_later hb6 (show W1.drew.frozen? ⟨b,6,none⟩=false from TZ.out.z 6) TZ.out.lt
       have fz7:=frz_later hb6 (show W1.drew.frozen? ⟨b,7,none⟩=false from TZ.out.z 7) TZ.out.lt
       go_wp2_with fail
       refine outA hK kpK_4 (fun hHeld27=>?_)
       clear hK K
       refine takeA 28 ?_
       refine takeA 29 ?_
       refine takeA 30 ?_
       refine takeA 31 ?_
       refine takeA 32 ?_
       refine readyA [33] (consA (fun K hK=>?_) .nil)
       go_simp
       have hk33:=set3_kept w6 b 5 y
       unfold set3 at hk33
       refine outA hK kpK_4 (fun hHeld33=>?_)
       clear hK K
       refine doneA ?_
       go_wp2_with fail
       go_meet
       case rel =>
        have r6:=wake_set (y:=y) ((H1.out.below (Below.refl _ _).drew).below hb6) HT.out
        rw [← HB.out,HY.out] at r6
        rw [HY.out]
        exact ⟨rfl,r6.1,((SStep.of (Below.refl _ _).drew).trans (SStep.of hb6)).trans r6.2⟩
     ·skip
      go_simp
      skip
      refine outA hK kpK_4 (fun hHeld12=>?_)
      clear hK K
      refine takeA 13 ?_
      refine takeA 14 ?_
      refine readyA [4,18] (consA (fun K hK=>?_) (consA (fun K hK=>?_) .nil))
      ·skip
       go_simp
       skip
       refine outA hK kpK_4 (fun hHeld4=>?_)
       clear hK K
       refine readyA [18] (consA (fun K hK=>?_) .nil)
       go_simp
       skip
       refine outA hK kpK_4 (fun hHeld18=>?_)
       clear hK K
       refine takeA 19 ?_
       refine takeA 20 ?_
       refine readyA [21] (consA (fun K hK=>?_) .nil)
       go_simp
       refine A1.out.mono ?_
       rintro e w5 ⟨rfl,rfl⟩
       go_wp2_with fail
       refine outA hK kpK_4 (fun hHeld21=>?_)
       clear hK K
       refine readyA [27] (consA (fun K hK=>?_) .nil)
       go_simp
       refine (A2.out _).mono ?_
       rintro e w6 ⟨rfl,hb6⟩
       have hk6:Kept [b] W1.drew w6:=Kept.of hb6
       have e5:=cell_later hb6 (cell_dr ta5)
       have e6:=cell_later hb6 (cell_dr ta6)
       have e7:=cell_later hb6 (cell_dr ta7)
       have fz5:=frz_later hb6 (show W1.drew.frozen? ⟨b,5,none⟩=false from TZ.out.z 5) TZ.out.lt
       have fz6:=frz_later hb6 (show W1.drew.frozen? ⟨b,6,none⟩=false from TZ.out.z 6) TZ.out.lt
       have fz7:=frz_later hb6 (show W1.drew.frozen? ⟨b,7,none⟩=false from TZ.out.z 7) TZ.out.lt
       go_wp2_with fail
       refine outA hK kpK_4 (fun hHeld27=>?_)
       clear hK K
       refine takeA 28 ?_
       refine takeA 29 ?_
       refine takeA 30 ?_
       refine takeA 31 ?_
       refine takeA 32 ?_
       refine readyA [33] (consA (fun K hK=>?_) .nil)
       go_simp
       have hk33:=set3_kept w6 b 5 y
       unfold set3 at hk33
       refine outA hK kpK_4 (fun hHeld33=>?_)
       clear hK K
       refine doneA ?_
       go_wp2_with fail
       go_meet
       case rel =>
        have r6:=wake_set (y:=y) ((H1.out.below (Below.refl _ _).drew).below hb6) HT.out
        rw [← HB.out,HY.out] at r6
        rw [HY.out]
        exact ⟨rfl,r6.1,((SStep.of (Below.refl _ _).drew).trans (SStep.of hb6)).trans r6.2⟩
      ·skip
       go_simp
       skip
       refine outA hK kpK_4 (fun hHeld18=>?_)
       clear hK K
       refine takeA 19 ?_
       refine takeA 20 ?_
       refine readyA [4,21] (consA (fun K hK=>?_) (consA (fun K hK=>?_) .nil))
       ·skip
        go_simp
        skip
        refine outA hK kpK_4 (fun hHeld4=>?_)
        clear hK K
        refine readyA [21] (consA (fun K hK=>?_) .nil)
        go_simp
        refine A1.out.mono ?_
        rintro e w5 ⟨rfl,rfl⟩
        go_wp2_with fail
        refine outA hK kpK_4 (fun hHeld21=>?_)
        clear hK K
        refine readyA [27] (consA (fun K hK=>?_) .nil)
        go_simp
        refine (A2.out _).mono ?_
        rintro e w6 ⟨rfl,hb6⟩
        have hk6:Kept [b] W1.drew w6:=Kept.of hb6
        have e5:=cell_later hb6 (cell_dr ta5)
        have e6:=cell_later hb6 (cell_dr ta6)
        have e7:=cell_later hb6 (cell_dr ta7)
        have fz5:=frz_later hb6 (show W1.drew.frozen? ⟨b,5,none⟩=false from TZ.out.z 5) TZ.out.lt
        have fz6:=frz_later hb6 (show W1.drew.frozen? ⟨b,6,none⟩=false from TZ.out.z 6) TZ.out.lt
        have fz7:=frz_later hb6 (show W1.drew.frozen? ⟨b,7,none⟩=false from TZ.out.z 7) TZ.out.lt
        go_wp2_with fail
        refine outA hK kpK_4 (fun hHeld27=>?_)
        clear hK K
        refine takeA 28 ?_
        refine takeA 29 ?_
        refine takeA 30 ?_
        refine takeA 31 ?_
        refine takeA 32 ?_
        refine readyA [33] (consA (fun K hK=>?_) .nil)
        go_simp
        have hk33:=set3_kept w6 b 5 y
        unfold set3 at hk33
        refine outA hK kpK_4 (fun hHeld33=>?_)
        clear hK K
        refine doneA ?_
        go_wp2_with fail
        go_meet
        case rel =>
         have r6:=wake_set (y:=y) ((H1.out.below (Below.refl _ _).drew).below hb6) HT.out
         rw [← HB.out,HY.out] at r6
         rw [HY.out]
         exact ⟨rfl,r6.1,((SStep.of (Below.refl _ _).drew).trans (SStep.of hb6)).trans r6.2⟩
       ·skip
        go_simp
        refine A1.out.mono ?_
        rintro e w5 ⟨rfl,rfl⟩
        go_wp2_with fail
        refine outA hK kpK_4 (fun hHeld21=>?_)
        clear hK K
        refine readyA [4] (consA (fun K hK=>?_) .nil)
        go_simp
        skip
        refine outA hK kpK_4 (fun hHeld4=>?_)
        clear hK K
        refine readyA [27] (consA (fun K hK=>?_) .nil)
        go_simp
        refine (A2.out _).mono ?_
        rintro e w6 ⟨rfl,hb6⟩
        have hk6:Kept [b] W1.drew w6:=Kept.of hb6
        have e5:=cell_later hb6 (cell_dr ta5)
        have e6:=cell_later hb6 (cell_dr ta6)
        have e7:=cell_later hb6 (cell_dr ta7)
        have fz5:=frz_later hb6 (show W1.drew.frozen? ⟨b,5,none⟩=false from TZ.out.z 5) TZ.out.lt
        have fz6:=frz_later hb6 (show W1.drew.frozen? ⟨b,6,none⟩=false from TZ.out.z 6) TZ.out.lt
        have fz7:=frz_later hb6 (show W1.drew.frozen? ⟨b,7,none⟩=false from TZ.out.z 7) TZ.out.lt
        go_wp2_with fail
        refine outA hK kpK_4 (fun hHeld27=>?_)
        clear hK K
        refine takeA 28 ?_
        refine takeA 29 ?_
        refine takeA 30 ?_
        refine takeA 31 ?_
        refine takeA 32 ?_
        refine readyA [33] (consA (fun K hK=>?_) .nil)
        go_simp
        have hk33:=set3_kept w6 b 5 y
        unfold set3 at hk33
        refine outA hK kpK_4 (fun hHeld33=>?_)
        clear hK K
        refine doneA ?_
        go_wp2_with fail
        go_meet
        case rel =>
         have r6:=wake_set (y:=y) ((H1.out.below (Below.refl _ _).drew).below hb6) HT.out
         rw [← HB.out,HY.out] at r6
         rw [HY.out]
         exact ⟨rfl,r6.1,((SStep.of (Below.refl _ _).drew).trans (SStep.of hb6)).trans r6.2⟩
     ·skip
      go_simp
      skip
      refine outA hK kpK_4 (fun hHeld18=>?_)
      clear hK K
      refine readyA [4,12] (consA (fun K hK=>?_) (consA (fun K hK=>?_) .nil))
      ·skip
       go_simp
       skip
       refine outA hK kpK_4 (fun hHeld4=>?_)
       clear hK K
       refine readyA [12] (consA (fun K hK=>?_) .nil)
       go_simp
       skip
       refine outA hK kpK_4 (fun hHeld12=>?_)
       clear hK K
       refine takeA 13 ?_
       refine takeA 14 ?_
       refine takeA 19 ?_
       refine takeA 20 ?_
       refine readyA [21] (consA (fun K hK=>?_) .nil)
       go_simp
       refine A1.out.mono ?_
       rintro e w5 ⟨rfl,rfl⟩
       go_wp2_with fail
       refine outA hK kpK_4 (fun hHeld21=>?_)
       clear hK K
       refine readyA [27] (consA (fun K hK=>?_) .nil)
       go_simp
       refine (A2.out _).mono ?_
       rintro e w6 ⟨rfl,hb6⟩
       have hk6:Kept [b] W1.drew w6:=Kept.of hb6
       have e5:=cell_later hb6 (cell_dr ta5)
       have e6:=cell_later hb6 (cell_dr ta6)
       have e7:=cell_later hb6 (cell_dr ta7)
       have fz5:=frz_later hb6 (show W1.drew.frozen? ⟨b,5,none⟩=false from TZ.out.z 5) TZ.out.lt
       have fz6:=frz_later hb6 (show W1.drew.frozen? ⟨b,6,none⟩=false from TZ.out.z 6) TZ.out.lt
       have fz7:=frz_later hb6 (show W1.drew.frozen? ⟨b,7,none⟩=false from TZ.out.z 7) TZ.out.lt
       go_wp2_with fail
       refine outA hK kpK_4 (fun hHeld27=>?_)
       clear hK K
       refine takeA 28 ?_
       refine takeA 29 ?_
       refine takeA 30 ?_
       refine takeA 31 ?_
       refine takeA 32 ?_
       refine readyA [33] (consA (fun K hK=>?_) .nil)
       go_simp
       have hk33:=set3_kept w6 b 5 y
       unfold set3 at hk33
       refine outA hK kpK_4 (fun hHeld33=>?_)
       clear hK K
       refine doneA ?_
       go_wp2_with fail
       go_meet
       case rel =>
        have r6:=wake_set (y:=y) ((H1.out.below (Below.refl _ _).drew).below hb6) HT.out
        rw [← HB.out,HY.out] at r6
        rw [HY.out]
        exact ⟨rfl,r6.1,((SStep.of (Below.refl _ _).drew).trans (SStep.of hb6)).trans r6.2⟩
      ·skip
       go_simp
       skip
       refine outA hK kpK_4 (fun hHeld12=>?_)
       clear hK K
       refine takeA 13 ?_
       refine takeA 14 ?_
       refine takeA 19 ?_
       refine takeA 20 ?_
       refine readyA [4,21] (consA (fun K hK=>?_) (consA (fun K hK=>?_) .nil))
       ·skip
        go_simp
        skip
        refine outA hK kpK_4 (fun hHeld4=>?_)
        clear hK K
        refine readyA [21] (consA (fun K hK=>?_) .nil)
        go_simp
        refine A1.out.mono ?_
        rintro e w5 ⟨rfl,rfl⟩
        go_wp2_with fail
        refine outA hK kpK_4 (fun hHeld21=>?_)
        clear hK K
        refine readyA [27] (consA (fun K hK=>?_) .nil)
        go_simp
        refine (A2.out _).mono ?_
        rintro e w6 ⟨rfl,hb6⟩
        have hk6:Kept [b] W1.drew w6:=Kept.of hb6
        have e5:=cell_later hb6 (cell_dr ta5)
        have e6:=cell_later hb6 (cell_dr ta6)
        have e7:=cell_later hb6 (cell_dr ta7)
        have fz5:=frz_later hb6 (show W1.drew.frozen? ⟨b,5,none⟩=false from TZ.out.z 5) TZ.out.lt
        have fz6:=frz_later hb6 (show W1.drew.frozen? ⟨b,6,none⟩=false from TZ.out.z 6) TZ.out.lt
        have fz7:=frz_later hb6 (show W1.drew.frozen? ⟨b,7,none⟩=false from TZ.out.z 7) TZ.out.lt
        go_wp2_with fail
        refine outA hK kpK_4 (fun hHeld27=>?_)
        clear hK K
        refine takeA 28 ?_
        refine takeA 29 ?_
        refine takeA 30 ?_
        refine takeA 31 ?_
        refine takeA 32 ?_
        refine readyA [33] (consA (fun K hK=>?_) .nil)
        go_simp
        have hk33:=set3_kept w6 b 5 y
        unfold set3 at hk33
        refine outA hK kpK_4 (fun hHeld33=>?_)
        clear hK K
        refine doneA ?_
        go_wp2_with fail
        go_meet
        case rel =>
         have r6:=wake_set (y:=y) ((H1.out.below (Below.refl _ _).drew).below hb6) HT.out
         rw [← HB.out,HY.out] at r6
         rw [HY.out]
         exact ⟨rfl,r6.1,((SStep.of (Below.refl _ _).drew).trans (SStep.of hb6)).trans r6.2⟩
       ·skip
        go_simp
        refine A1.out.mono ?_
        rintro e w5 ⟨rfl,rfl⟩
        go_wp2_with fail
        refine outA hK kpK_4 (fun hHeld21=>?_)
        clear hK K
        refine readyA [4] (consA (fun K hK=>?_) .nil)
        go_simp
        skip
        refine outA hK kpK_4 (fun hHeld4=>?_)
        clear hK K
        refine readyA [27] (consA (fun K hK=>?_) .nil)
        go_simp
        refine (A2.out _).mono ?_
        rintro e w6 ⟨rfl,hb6⟩
        have hk6:Kept [b] W1.drew w6:=Kept.of hb6
        have e5:=cell_later hb6 (cell_dr ta5)
        have e6:=cell_later hb6 (cell_dr ta6)
        have e7:=cell_later hb6 (cell_dr ta7)
        have fz5:=frz_later hb6 (show W1.drew.frozen? ⟨b,5,none⟩=false from TZ.out.z 5) TZ.out.lt
        have fz6:=frz_later hb6 (show W1.drew.frozen? ⟨b,6,none⟩=false from TZ.out.z 6) TZ.out.lt
        have fz7:=frz_later hb6 (show W1.drew.frozen? ⟨b,7,none⟩=false from TZ.out.z 7) TZ.out.lt
        go_wp2_with fail
        refine outA hK kpK_4 (fun hHeld27=>?_)
        clear hK K
        refine takeA 28 ?_
        refine takeA 29 ?_
        refine takeA 30 ?_
        refine takeA 31 ?_
        refine takeA 32 ?_
        refine readyA [33] (consA (fun K hK=>?_) .nil)
        go_simp
        have hk33:=set3_kept w6 b 5 y
        unfold set3 at hk33
        refine outA hK kpK_4 (fun hHeld33=>?_)
        clear hK K
        refine doneA ?_
        go_wp2_with fail
        go_meet
        case rel =>
         have r6:=wake_set (y:=y) ((H1.out.below (Below.refl _ _).drew).below hb6) HT.out
         rw [← HB.out,HY.out] at r6
         rw [HY.out]
         exact ⟨rfl,r6.1,((SStep.of (Below.refl _ _).drew).trans (SStep.of hb6)).trans r6.2⟩
   case rest =>
    as_aux_lemma =>
     obtain ⟨rfl,hr7,hs7⟩:=hcut
     obtain ⟨w7,rfl⟩:∃ W:World,W=wc:=⟨_,rfl⟩
     have B3:=B2.out.step hs7 (HS.out.none_at (Nat.le_refl _))
     have b2':=B3.c2
     rw [← HI.out] at b2'
     have A3:=Lib.hid (xenter_at hr7 (HO.out.woken HT.out HR.out) (setF_same _ _ _) HR.out hwk)
     rw [← HB.out] at A3
     have HS7:=Lib.hid hs7
     clear hr7 hs7 B3 x6 r6 p6 x1 ta0 ta2 ta5 ta6 ta7 b2 t4 hlk2 A1 A2 nx nq nr lb TZ H1
     go_wp2_with fail
     refine A3.out.mono ?_;rintro e w8 ⟨rfl,hA8⟩
     go_wp2_with fail
     refine bodyPost_ret (v:=.tuple #[.int .i64 0,.int .i64 0]) (by simp [results,Tryz.results300,go_sem]) rfl ⟨by rw [E1.out],?_⟩
     rw [E2.out]
     exact hA8.from ((SStep.of HB0.out).trans ((SStep.of HB1.out).trans HS7.out)) rfl
end Go.Proofs.YtapnaocdehahdaaGreat
