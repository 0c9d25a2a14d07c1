/-
  Layer 31 (sched): move.
-/
import Derived.Test.YtapnaocdehahdaaGreatSchW
import Derived.Test.YtapnaocdehahdaaGreatPlaceB
namespace Go.Proofs.YtapnaocdehahdaaGreat
open Go.RowKit Go.Maps Go.IntWalk Go.Lib
set_option linter.unusedVariables false
set_option linter.unusedSimpArgs false
def offT (s:SSt) (id:Int) (t:Tsk):Tsk:={ t with rdy:=false,run:=leaveE qN ((s.Q t.cpu).M t.g) id }
def mvT (t:Tsk) (fr th:Int) (j:Nat):Tsk:={ t with run:=movedX t.run fr th,cpu:=j }
def mvS (s:SSt) (id:Int) (t:Tsk) (j:Nat):SSt:=
 if t.rdy then entS (tskS (lvS s id t) id (mvT (offT s id t) ((s.Q t.cpu).fl t.g) ((s.Q j).fl t.g) j)) id (mvT (offT s id t) ((s.Q t.cpu).fl t.g) ((s.Q j).fl t.g) j)
 else tskS s id (mvT t ((s.Q t.cpu).fl t.g) ((s.Q j).fl t.g) j)
theorem SOk.fl {s:SSt} (h:SOk s) {k g:Nat} (hk:k<s.C) (hg:g<s.n):FlOk ((s.Q k).fl g):=(h.tree k hk).core.fok g
theorem SOk.moved {s:SSt} (h:SOk s) {id:Int} {t:Tsk} {j:Nat} {fr th:Int} (hT:s.T id=some t) (hr:t.rdy=false) (hj:j<s.C) (hf:FlOk fr) (ht:FlOk th):SOk (tskS s id (mvT t fr th j)):=by
 have i:=(h.task id t hT).2
 exact h.tsk hT hr hr ⟨i.g,i.w,hj,i.mask,movedX_ok i.run hf ht⟩
theorem SOk.move {s:SSt} (h:SOk s) {id:Int} {t:Tsk} {j:Nat} (hT:s.T id=some t) (hj:j<s.C) (hc:t.rdy=true→s.cu t.cpu≠id):SOk (mvS s id t j):=by
 have i:=(h.task id t hT).2
 unfold mvS
 cases hr:t.rdy with
 | true =>
  have h1:=h.leave hT hr (hc hr)
  have e1:(lvS s id t).T id=some (offT s id t):=setF_same _ _ _
  have h2:=h1.moved (j:=j) e1 rfl hj (h.fl i.cpu i.g) (h.fl hj i.g)
  exact h2.enter (setF_same _ _ _) rfl
 | false=>exact h.moved hT hr hj (h.fl i.cpu i.g) (h.fl hj i.g)
theorem move_set {w:World} {x:Nat} {L:SLay} {s:SSt} {id:Int} {t:Tsk} {y:Ent} {j:Nat} (h:SRaw w x L s) (hT:s.T id=some t):SRaw ((set3 w (L.tp id) 5 y).setCell ⟨L.tp id,2,none⟩ (.int .i64 j)) x L (tskS s id { t with run:=y,cpu:=j })∧SStep L w L ((set3 w (L.tp id) 5 y).setCell ⟨L.tp id,2,none⟩ (.int .i64 j)):=by
 obtain ⟨h1,s1⟩:=wake_set (y:=y) h hT
 have e1:(tskS s id { t with run:=y }).T id=some { t with run:=y }:=setF_same _ _ _
 have tk:=h1.tk id _ e1
 have hk:Kept [L.tp id] (set3 w (L.tp id) 5 y) ((set3 w (L.tp id) 5 y).setCell ⟨L.tp id,2,none⟩ (.int .i64 j)):=(Kept.refl _ _).setCell (Or.inl (by simp)) _
 have t2:TskAt ((set3 w (L.tp id) 5 y).setCell ⟨L.tp id,2,none⟩ (.int .i64 j)) (L.tp id) { t with run:=y,cpu:=j }:=
  ⟨cell_set_ne tk.c0 (Or.inr (by decide)),cell_set_ne tk.c1 (Or.inr (by decide)),cell_set_eq tk.c2,cell_set_ne tk.c3 (Or.inr (by decide)),cell_set_ne tk.c4 (Or.inr (by decide)),cell_set_ne tk.c5 (Or.inr (by decide)),cell_set_ne tk.c6 (Or.inr (by decide)),cell_set_ne tk.c7 (Or.inr (by decide)),fun i=>by rw [World.frozen?_setCell];exact tk.z i⟩
 have h2:=h1.task e1 hk t2
 have e2:tskS (tskS s id { t with run:=y }) id { t with run:=y,cpu:=j }=tskS s id { t with run:=y,cpu:=j }:=by
  unfold tskS
  simp only [setF_setF]
 rw [e2] at h2
 exact ⟨h2,s1.trans (SStep.of_kept hk fun b hb=>by simp at hb;subst hb;rw [h.ltk id t hT];simp)⟩
theorem lv_wk {s:SSt} {id:Int} {t:Tsk} (h:SOk s) (hT:s.T id=some t):s.wk≤(lvS s id t).wk∧(lvS s id t).wk≤s.wk+257:=by
 have i:=(h.task id t hT).2
 have h1:=pathT_len (P:=parG (s.Q t.cpu).Gs) t.g
 have h2:=h.right.le
 have h3:t.g<s.Gs.length:=i.g
 have h4:=lvK_le (parG (s.Q t.cpu).Gs) (pathT (parG (s.Q t.cpu).Gs) t.g) (lvT (lvQ (s.Q t.cpu) t.g id) id)
 show s.wk≤s.wk+(lvW (s.Q t.cpu) t.g id:Nat)∧s.wk+(lvW (s.Q t.cpu) t.g id:Nat)≤_
 unfold lvW
 omega
set_option maxRecDepth 100000 in
set_option maxHeartbeats 4000000 in
theorem xmove_at {w:World} {x:Nat} {L:SLay} {s:SSt} {id:Int} {t:Tsk} {j:Nat} (h:SRaw w x L s) (ho:SOk s) (hT:s.T id=some t) (hj:j<s.C) (hc:t.rdy=true→s.cu t.cpu≠id) (hwk:0≤s.wk∧s.wk≤900000) :
  Calls Tryz.prog 316 #[.pointer (some ⟨x,0,none⟩),.int .i64 id,.pointer (some ⟨L.tp id,0,none⟩),.int .i64 j] w fun e w'=>e=.returned (.tuple #[])∧SLeft w x L (mvS s id t j) w':=by
 have HS:=Lib.hid h
 have HO:=Lib.hid ho
 have HT:=Lib.hid hT
 obtain ⟨hi,ht⟩:=ho.task id t hT
 have HTK:=Lib.hid ht
 have tk:=h.tk id t hT
 obtain ⟨b,hb⟩:∃ b,b=L.tp id:=⟨_,rfl⟩
 rw [← hb] at tk ⊢
 have HB:=Lib.hid hb
 have t0:=tk.c0
 have t2:=tk.c2
 have t4:=tk.c4
 have TZ:=Lib.hid tk
 have htc:=ht.cpu
 have htg:=ht.g
 have hcm:(t.cpu:Int)<(s.C:Int):=by omega
 have hgm:(t.g:Int)<(s.n:Int):=by omega
 have hjm:(j:Int)<(s.C:Int):=by omega
 obtain ⟨c6,x6⟩:∃ c,w.cell? ⟨x,6,none⟩=some (.slice (some ⟨L.bq,0,none⟩) s.n c):=h.head.c6
 obtain ⟨cr',r6⟩:∃ c,w.cell? ⟨L.bq,t.g,none⟩=some (.slice (some ⟨L.rq t.g,0,none⟩) s.C c):=h.rq.c t.g htg
 have p6:w.cell? ⟨L.rq t.g,t.cpu,none⟩=some (.pointer (some ⟨L.qp t.g t.cpu,0,none⟩)):=(h.qc t.g htg).c t.cpu htc
 have p7:w.cell? ⟨L.rq t.g,j,none⟩=some (.pointer (some ⟨L.qp t.g j,0,none⟩)):=(h.qc t.g htg).c j hj
 have A1:=Lib.hid (Floor_at w.drew ((h.q t.g t.cpu htg htc).below (Below.refl _ _).drew))
 have A2:=Lib.hid (Floor_at w.drew ((h.q t.g j htg hj).below (Below.refl _ _).drew))
 obtain ⟨fr,hfr⟩:∃ f,f=(s.Q t.cpu).fl t.g:=⟨_,rfl⟩
 obtain ⟨th,hth⟩:∃ f,f=(s.Q j).fl t.g:=⟨_,rfl⟩
 rw [← hfr] at A1
 rw [← hth] at A2
 have HF:=Lib.hid (And.intro hfr hth)
 have HFO:=Lib.hid (And.intro (show FlOk fr by rw [hfr];exact ho.fl htc htg) (show FlOk th by rw [hth];exact ho.fl hj htg))
 have HC:=Lib.hid hc
 clear h ho hT hi ht tk hb hfr hth hc
 go_enter Tryz.func316,Tryz.ntmps316
 go_upto_region 0 with fail
 go_cut [8,9] (fun s8 s9 wx=>s8=.int .u64 fr∧s9=.int .u64 th∧wx=w.drew)
 case first =>
  as_aux_lemma =>
   refine startA (S:=fun w'=>Below w.heap.size w w'∧w'.cell? ⟨x,6,none⟩=some (.slice (some ⟨L.bq,0,none⟩) s.n c6)∧w'.cell? ⟨b,0,none⟩=some (.int .i64 t.g)∧w'.cell? ⟨L.bq,t.g,none⟩=some (.slice (some ⟨L.rq t.g,0,none⟩) s.C cr')∧w'.cell? ⟨b,2,none⟩=some (.int .i64 t.cpu)∧w'.cell? ⟨L.rq t.g,t.cpu,none⟩=some (.pointer (some ⟨L.qp t.g t.cpu,0,none⟩))∧w'.cell? ⟨L.rq t.g,j,none⟩=some (.pointer (some ⟨L.qp t.g j,0,none⟩))) ⟨Below.refl _ _,x6,t0,r6,t2,p6,p7⟩ (held_6 (below_dr _)) (fun hS0 hHeld=>?_)
   refine takeA 0 ?_
   refine takeA 1 ?_
   refine takeA 2 ?_
   refine takeA 3 ?_
   refine takeA 4 ?_
   refine takeA 5 ?_
   refine takeA 6 ?_
   refine takeA 7 ?_
   refine takeA 8 ?_
   refine takeA 9 ?_
   refine takeA 10 ?_
   refine takeA 11 ?_
   refine takeA 12 ?_
   refine takeA 13 ?_
   refine takeA 14 ?_
   refine takeA 15 ?_
   refine takeA 17 ?_
   refine takeA 18 ?_
   refine takeA 19 ?_
   refine takeA 20 ?_
   refine takeA 21 ?_
   refine takeA 22 ?_
   refine takeA 23 ?_
   refine takeA 24 ?_
   refine takeA 25 ?_
   refine takeA 26 ?_
   refine takeA 27 ?_
   refine takeA 28 ?_
   refine takeA 29 ?_
   refine readyA [16] (consA (fun K hK=>?_) .nil)
   go_simp
   refine A1.out.mono ?_
   rintro e w5 ⟨rfl,rfl⟩
   go_wp2_with fail
   refine outA hK kp_6 (fun hHeld16=>?_)
   clear hK K
   refine readyA [30] (consA (fun K hK=>?_) .nil)
   go_simp
   refine A2.out.mono ?_
   rintro e w5 ⟨rfl,rfl⟩
   go_wp2_with fail
   refine outA hK kp_6 (fun hHeld30=>?_)
   clear hK K
   refine takeA 31 ?_
   refine takeA 32 ?_
   refine doneA ?_
   go_wp2_with fail
   go_meet
   case rel=>exact ⟨rfl,rfl,rfl⟩
 case rest =>
  as_aux_lemma =>
   obtain ⟨rfl,rfl,hwc⟩:=hcut
   obtain ⟨W1,hW1⟩:∃ W:World,W=wc:=⟨_,rfl⟩
   rw [← hW1]
   have hB1:Below w.heap.size w W1:=by rw [hW1,hwc];exact (Below.refl _ _).drew
   have h1:=HS.out.below hB1
   have HB1:=Lib.hid hB1
   have TZ1:=Lib.hid (by have:=h1.tk id t HT.out;rw [← HB.out] at this;exact this:TskAt W1 b t)
   replace t4:=TZ1.out.c4
   have H1:=Lib.hid h1
   clear x6 r6 p6 p7 t0 t2 A1 A2 hwc hW1 hB1 h1 TZ
   cases hr:t.rdy with
   | true =>
    rw [hr] at t4
    have A3:=Lib.hid (xleave_at H1.out HO.out HT.out hr (by omega))
    rw [← HB.out] at A3
    have HR:=Lib.hid hr
    have EM:=Lib.hid (show mvS s id t j=entS (tskS (lvS s id t) id (mvT (offT s id t) fr th j)) id (mvT (offT s id t) fr th j) by unfold mvS;rw [if_pos hr,HF.out.1,HF.out.2])
    clear hr
    go_wp2_with fail
    refine A3.out.mono ?_;rintro e w5 ⟨rfl,L5,hr5,hs5,htp5⟩
    have e5:(lvS s id t).T id=some (offT s id t):=setF_same _ _ _
    have tk5:TskAt w5 b (offT s id t):=by rw [HB.out,← htp5];exact hr5.tk id _ e5
    have ho5:=HO.out.leave HT.out HR.out (HC.out HR.out)
    obtain ⟨t5,ht5⟩:∃ t',t'=offT s id t:=⟨_,rfl⟩
    rw [← ht5] at e5 tk5
    have i5:=(ho5.task id t5 e5).2
    have u5:=tk5.c5
    have u6:=tk5.c6
    have u7:=tk5.c7
    have u2:=tk5.c2
    have A4:=Lib.hid fun W=>plMoved_at t5.run.1 t5.run.2.1 t5.run.2.2 fr th W i5.run HFO.out.1 HFO.out.2
    obtain ⟨y,hy⟩:∃ y,y=movedX t5.run fr th:=⟨_,rfl⟩
    rw [show movedX (t5.run.1,t5.run.2.1,t5.run.2.2) fr th=y from hy.symm] at A4
    have EM2:=Lib.hid (show mvT (offT s id t) fr th j={ t5 with run:=y,cpu:=j } by rw [← ht5,hy];rfl)
    have T5:=Lib.hid tk5
    have E5:=Lib.hid e5
    have R5:=Lib.hid hr5
    have S5:=Lib.hid hs5
    have P5:=Lib.hid htp5
    have O5:=Lib.hid ho5
    have hwl:=lv_wk HO.out HT.out
    have W5:=Lib.hid (show t5.rdy=false by rw [ht5];rfl)
    clear t4 tk5 e5 hr5 hs5 htp5 ho5 ht5 i5 hy A3
    go_wp2_with fail
    refine (A4.out _).mono ?_;rintro e w6 ⟨rfl,hb6⟩
    have e5:=cell_later hb6 u5
    have e6:=cell_later hb6 u6
    have e7:=cell_later hb6 u7
    have e2:=cell_later hb6 u2
    have fz5:=frz_later hb6 (T5.out.z 5) T5.out.lt
    have fz6:=frz_later hb6 (T5.out.z 6) T5.out.lt
    have fz7:=frz_later hb6 (T5.out.z 7) T5.out.lt
    have fz2:=frz_later hb6 (T5.out.z 2) T5.out.lt
    have HB6:=Lib.hid hb6
    have r6:=move_set (y:=y) (j:=j) (R5.out.below hb6) E5.out
    rw [P5.out,← HB.out] at r6
    unfold set3 at r6
    obtain ⟨W7,hW7⟩:∃ W,W=(((w6.setCell ⟨b,5,none⟩ (.int .u64 y.1)).setCell ⟨b,5+1,none⟩ (.int .u32 y.2.1)).setCell ⟨b,5+2,none⟩ (.int .u32 y.2.2)).setCell ⟨b,2,none⟩ (.int .i64 j):=⟨_,rfl⟩
    rw [← hW7] at r6
    have R6:=Lib.hid r6
    have HW7:=Lib.hid hW7
    have O6:=Lib.hid (show SOk (tskS (lvS s id t) id { t5 with run:=y,cpu:=j }) by rw [← EM2.out];exact O5.out.moved (show (lvS s id t).T id=some (offT s id t) from setF_same _ _ _) rfl hj HFO.out.1 HFO.out.2)
    have A5:=Lib.hid (xenter_at r6.1 O6.out (setF_same _ _ _) W5.out (by show 0≤(lvS s id t).wk∧(lvS s id t).wk≤_;omega))
    rw [P5.out,← HB.out] at A5
    clear hb6 r6 hW7 A4 u5 u6 u7 u2 hwl
    go_wp2_with fail
    rw [← HW7.out]
    go_wp2_with fail
    refine A5.out.mono ?_;rintro e w8 ⟨rfl,hA8⟩
    go_wp2_with fail
    go_end0
    refine ⟨rfl,?_⟩
    rw [EM.out,EM2.out]
    exact hA8.from ((SStep.of HB1.out).trans (S5.out.trans ((SStep.of HB6.out).trans R6.out.2))) P5.out
   | false =>
    rw [hr] at t4
    have EM:=Lib.hid (show mvS s id t j=tskS s id (mvT t fr th j) by unfold mvS;rw [hr,HF.out.1,HF.out.2];rfl)
    clear hr
    have u5:=TZ1.out.c5
    have u6:=TZ1.out.c6
    have u7:=TZ1.out.c7
    have u2:=TZ1.out.c2
    have A4:=Lib.hid fun W=>plMoved_at t.run.1 t.run.2.1 t.run.2.2 fr th W HTK.out.run HFO.out.1 HFO.out.2
    obtain ⟨y,hy⟩:∃ y,y=movedX t.run fr th:=⟨_,rfl⟩
    rw [show movedX (t.run.1,t.run.2.1,t.run.2.2) fr th=y from hy.symm] at A4
    have EM2:=Lib.hid (show mvT t fr th j={ t with run:=y,cpu:=j } by rw [hy];rfl)
    clear hy
    go_wp2_with fail
    refine (A4.out _).mono ?_;rintro e w6 ⟨rfl,hb6⟩
    have e5:=cell_later hb6 u5
    have e6:=cell_later hb6 u6
    have e7:=cell_later hb6 u7
    have e2:=cell_later hb6 u2
    have fz5:=frz_later hb6 (TZ1.out.z 5) TZ1.out.lt
    have fz6:=frz_later hb6 (TZ1.out.z 6) TZ1.out.lt
    have fz7:=frz_later hb6 (TZ1.out.z 7) TZ1.out.lt
    have fz2:=frz_later hb6 (TZ1.out.z 2) TZ1.out.lt
    have HB6:=Lib.hid hb6
    have r6:=move_set (y:=y) (j:=j) (H1.out.below hb6) HT.out
    rw [← HB.out] at r6
    unfold set3 at r6
    have R:=Lib.hid (show SLeft w x L (mvS s id t j) _ from ⟨L,by rw [EM.out,EM2.out];exact r6.1,(SStep.of HB1.out).trans ((SStep.of HB6.out).trans r6.2),rfl⟩)
    clear hb6 r6 A4 u5 u6 u7 u2
    go_wp2_with fail
    go_end0
    exact ⟨rfl,R.out⟩
end Go.Proofs.YtapnaocdehahdaaGreat
