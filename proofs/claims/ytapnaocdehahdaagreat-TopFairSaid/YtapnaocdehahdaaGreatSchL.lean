/-
  Layer 31 (sched): leave.
-/
import Derived.Test.YtapnaocdehahdaaGreatSchE
import Derived.Test.YtapnaocdehahdaaGreatQuA
namespace Go.Proofs.YtapnaocdehahdaaGreat
open Go.RowKit Go.Maps Go.IntWalk Go.Lib
set_option linter.unusedVariables false
set_option linter.unusedSimpArgs false
def stL (s:SSt) (id:Int) (t:Tsk) (q:TSt) (j:Nat) (y:Ent):SSt:={ s with T:=setF s.T id (some { t with rdy:=false,run:=y }),ld:=upd s.ld t.cpu (s.ld t.cpu - t.w),Q:=upd s.Q t.cpu q,wk:=s.wk+(j:Nat) }
theorem qSet_stL (s:SSt) (id:Int) (t:Tsk) (q:TSt) (j:Nat) (y:Ent) (g:Nat) (M:Mems) (fl:Int):qSet (stL s id t q j y) t.cpu g M fl=stL s id t { q with M:=upd q.M g M,fl:=upd q.fl g fl } j y:=by
 unfold qSet stL
 simp only [upd_same,upd_upd]
theorem aSet_stL (s:SSt) (id:Int) (t:Tsk) (q:TSt) (j:Nat) (y:Ent) (g:Nat) (z:Ent):aSet (stL s id t q j y) t.cpu g z=stL s id t { q with A:=upd q.A g z } j y:=by
 unfold aSet stL
 simp only [upd_same,upd_upd]
theorem stL_work (s:SSt) (id:Int) (t:Tsk) (q:TSt) (j:Nat) (y:Ent):{ stL s id t q j y with wk:=s.wk+(j:Int)+1 }=stL s id t q (j+1) y:=by
 unfold stL
 simp only [Int.natCast_add,Int.natCast_one,Int.add_assoc]
theorem lv_end {P:Nat→Nat} {s:TSt} {g:Nat} (h:(s.M g).isEmpty=false∨g=0):(lvUp P s (pathT P g)).1=s∧lvK P s (pathT P g)=0:=by
 by_cases g0:g=0
 ·subst g0;rw [pathT_zero];exact ⟨rfl,rfl⟩
 ·have h:=h.resolve_right g0
  by_cases hp:P g<g
  ·rw [pathT_pos (by omega) hp]
   unfold lvUp
   rw [List.foldl_cons]
   have e:lvStep P (s,false) g=(s,true):=by unfold lvStep;rw [if_neg (by simp),if_neg (by rw [h];simp)]
   rw [e,lv_stop]
   refine ⟨rfl,?_⟩
   unfold lvK
   rw [if_neg (by rw [h];simp)]
  ·rw [pathT,dif_neg (fun q=>hp q.2)];exact ⟨rfl,rfl⟩
theorem lv_next {P:Nat→Nat} {s:TSt} {g:Nat} (h:(s.M g).isEmpty=true) (h0:0<g) (hp:P g<g) :
  (lvUp P s (pathT P g)).1=(lvUp P (lvA s g (P g)) (pathT P (P g))).1∧lvK P s (pathT P g)=1+lvK P (lvA s g (P g)) (pathT P (P g)):=by
 rw [pathT_pos h0 hp]
 unfold lvUp
 rw [List.foldl_cons]
 have e:lvStep P (s,false) g=(lvA s g (P g),false):=by unfold lvStep;rw [if_neg (by simp),if_pos h]
 rw [e]
 refine ⟨rfl,?_⟩
 conv=>lhs;unfold lvK
 rw [if_pos h]
theorem setF_setF {α:Type} (f:Int→Option α) (id:Int) (a b:Option α):setF (setF f id a) id b=setF f id b:=funext fun j=>by
 by_cases e:j=id
 ·subst e;rw [setF_same,setF_same]
 ·rw [setF_other _ _ e,setF_other _ _ e,setF_other _ _ e]
def entOfL (s:SSt) (id:Int) (t:Tsk) (q:TSt) (j:Nat) (y:Ent):SSt:=stL s id t q j y
theorem lv_first {W w5:World} {x:Nat} {L:SLay} {s:SSt} {id:Int} {t:Tsk} {F5:List Nat} {y:Ent}
  (h:SRaw W x L { tskS s id { t with rdy:=false } with ld:=upd s.ld t.cpu (s.ld t.cpu - t.w) }) (ht:TkOk s.n s.C t) (hs:Step (L.Fq t.g t.cpu) W F5 w5) (hq:QIn w5 (L.qp t.g t.cpu) F5 qN (leaveM qN ((s.Q t.cpu).M t.g) id) (leaveF qN ((s.Q t.cpu).M t.g) id ((s.Q t.cpu).fl t.g))) :
  SRaw (set3 w5 (L.tp id) 5 y) x (L.queue t.g t.cpu F5) (stL s id t (lvT (lvQ (s.Q t.cpu) t.g id) id) 0 y)∧SStep L W (L.queue t.g t.cpu F5) (set3 w5 (L.tp id) 5 y)∧(L.queue t.g t.cpu F5).tp=L.tp:=by
 have h5:=h.queue (k:=t.cpu) ht.g ht.cpu hq hs
 have s5:=SStep.queue (k:=t.cpu) h ht.g ht.cpu hs
 have hT:(qSet { tskS s id { t with rdy:=false } with ld:=upd s.ld t.cpu (s.ld t.cpu - t.w) } t.cpu t.g (leaveM qN ((s.Q t.cpu).M t.g) id) (leaveF qN ((s.Q t.cpu).M t.g) id ((s.Q t.cpu).fl t.g))).T id=some { t with rdy:=false }:=setF_same _ _ _
 have tk:TskAt w5 (L.tp id) { t with rdy:=false }:=h5.tk id _ hT
 have k6:=set3_kept w5 (L.tp id) 5 y
 have t6:TskAt (set3 w5 (L.tp id) 5 y) (L.tp id) { t with rdy:=false,run:=y }:=by
  unfold set3
  exact ⟨cell_set_ne (cell_set_ne (cell_set_ne tk.c0 (Or.inr (by decide))) (Or.inr (by decide))) (Or.inr (by decide)),cell_set_ne (cell_set_ne (cell_set_ne tk.c1 (Or.inr (by decide))) (Or.inr (by decide))) (Or.inr (by decide)),cell_set_ne (cell_set_ne (cell_set_ne tk.c2 (Or.inr (by decide))) (Or.inr (by decide))) (Or.inr (by decide)),cell_set_ne (cell_set_ne (cell_set_ne tk.c3 (Or.inr (by decide))) (Or.inr (by decide))) (Or.inr (by decide)),cell_set_ne (cell_set_ne (cell_set_ne tk.c4 (Or.inr (by decide))) (Or.inr (by decide))) (Or.inr (by decide)),
   cell_set_ne (cell_set_ne (cell_set_eq tk.c5) (Or.inr (by decide))) (Or.inr (by decide)),cell_set_ne (cell_set_eq (cell_set_ne tk.c6 (Or.inr (by decide)))) (Or.inr (by decide)),cell_set_eq (cell_set_ne (cell_set_ne tk.c7 (Or.inr (by decide))) (Or.inr (by decide))),fun j=>by rw [World.frozen?_setCell,World.frozen?_setCell,World.frozen?_setCell];exact tk.z j⟩
 have h6:=h5.task hT k6 t6
 have e:tskS (qSet { tskS s id { t with rdy:=false } with ld:=upd s.ld t.cpu (s.ld t.cpu - t.w) } t.cpu t.g (leaveM qN ((s.Q t.cpu).M t.g) id) (leaveF qN ((s.Q t.cpu).M t.g) id ((s.Q t.cpu).fl t.g))) id { t with rdy:=false,run:=y }=stL s id t (lvQ (s.Q t.cpu) t.g id) 0 y:=by
  unfold tskS qSet stL
  simp only [setF_setF]
  simp [lvQ]
 rw [e] at h6
 refine ⟨?_,s5.trans (SStep.of_kept (L:=L.queue t.g t.cpu F5) k6 (fun b hb=>by simp at hb;subst hb;have q1:=h5.ltk id _ hT;exact fun q=>by have:=q1.symm.trans q;simp at this)),rfl⟩
 have g:=SRaw.ghost (Q:=upd s.Q t.cpu (lvT (lvQ (s.Q t.cpu) t.g id) id)) h6 (fun k=>?_) (fun k=>?_) fun k=>?_
 ·exact g
 all_goals
  dsimp only [stL]
  by_cases e:k=t.cpu
  ·subst e;rw [upd_same,upd_same];rfl
  ·rw [upd_other _ _ e,upd_other _ _ e]
set_option maxRecDepth 100000 in
set_option maxHeartbeats 4000000 in
theorem xleave_at {w:World} {x:Nat} {L:SLay} {s:SSt} {id:Int} {t:Tsk} (h:SRaw w x L s) (ho:SOk s) (hT:s.T id=some t) (hr:t.rdy=true) (hwk:0≤s.wk∧s.wk≤1000000) :
  Calls Tryz.prog 303 #[.pointer (some ⟨x,0,none⟩),.int .i64 id,.pointer (some ⟨L.tp id,0,none⟩)] w fun e w'=>e=.returned (.tuple #[])∧SLeft w x L (lvS s id t) w':=by
 have HS:=Lib.hid h
 have HO:=Lib.hid ho
 have HT:=Lib.hid hT
 obtain ⟨hi,ht⟩:=ho.task id t hT
 have HTK:=Lib.hid ht
 have HID:=Lib.hid (wfTask ho hT)
 have tk:=h.tk id t hT
 obtain ⟨b,hb⟩:∃ b,b=L.tp id:=⟨_,rfl⟩
 rw [← hb] at tk ⊢
 have HB:=Lib.hid hb
 have t4:=tk.c4
 have f4:=tk.z 4
 have hld:=ho.load ht.cpu
 have htw:=ht.w
 have hw1:IntKind.i64.wrap (s.ld t.cpu - t.w)=s.ld t.cpu - t.w:=IntWalk.i64_in _ (by omega)
 have hw1':wrap64 (s.ld t.cpu - t.w)=s.ld t.cpu - t.w:=IntWalk.wrap64_in _ (by omega)
 have hcm:(t.cpu:Int)<(s.C:Int):=by have:=ht.cpu;omega
 have hgm:(t.g:Int)<(s.n:Int):=by have:=ht.g;omega
 obtain ⟨W1,hW1⟩:∃ W,W=w.setCell ⟨b,4,none⟩ (.bool false):=⟨_,rfl⟩
 have k1:Kept [L.tp id] w W1:=by rw [hW1,← hb];exact (Kept.refl _ _).setCell (Or.inl (by simp)) _
 have tk1:TskAt W1 (L.tp id) { t with rdy:=false }:=by
  rw [hW1,← hb]
  exact ⟨cell_set_ne tk.c0 (Or.inr (by decide)),cell_set_ne tk.c1 (Or.inr (by decide)),cell_set_ne tk.c2 (Or.inr (by decide)),cell_set_ne tk.c3 (Or.inr (by decide)),cell_set_eq tk.c4,cell_set_ne tk.c5 (Or.inr (by decide)),cell_set_ne tk.c6 (Or.inr (by decide)),cell_set_ne tk.c7 (Or.inr (by decide)),fun j=>by rw [World.frozen?_setCell];exact tk.z j⟩
 have h1:=h.task hT k1 tk1
 have q1:=SStep.of_kept (L:=L) k1 (fun b hb=>by simp at hb;subst hb;rw [h.ltk id t hT];simp)
 have HW1:=Lib.hid hW1
 have H1:=Lib.hid h1
 have Q1:=Lib.hid q1
 obtain ⟨co,x8⟩:∃ c,W1.cell? ⟨x,8,none⟩=some (.slice (some ⟨L.bo,0,none⟩) s.C c):=h1.head.c8
 have o0:W1.cell? ⟨L.bo,t.cpu,none⟩=some (.int .i64 (s.ld t.cpu)):=h1.ld.c t.cpu ht.cpu
 have fo:=h1.ld.z t.cpu
 rw [← hb] at tk1
 have u1:=tk1.c1
 have u2:=tk1.c2
 clear h ho hT hi ht tk hb hld htw hW1 k1 tk1 h1 q1
 go_enter Tryz.func303,Tryz.ntmps303
 go_wp2_with fail
 rw [← HW1.out]
 go_region
 obtain ⟨W2,hW2⟩:∃ W,W=(W1.setCell ⟨L.bo,t.cpu,none⟩ (.int .i64 (s.ld t.cpu - t.w))).drew:=⟨_,rfl⟩
 have k2:Kept [L.bo] W1 W2:=by rw [hW2];exact ((Kept.refl _ _).setCell (Or.inl (by simp)) _).drew
 have h2:SRaw W2 x L { tskS s id { t with rdy:=false } with ld:=upd s.ld t.cpu (s.ld t.cpu - t.w) }:=by
  rw [hW2]
  exact (H1.out.load (k:=t.cpu) HTK.out.cpu (s.ld t.cpu - t.w)).below (Below.refl _ _).drew
 have H2:=Lib.hid h2
 have Q2:=Lib.hid (Q1.out.trans (SStep.of_kept (L:=L) k2 (fun b hb=>by simp at hb;subst hb;rw [H1.out.lo];simp)))
 rw [← hW2]
 have tq:TskAt W2 (L.tp id) { t with rdy:=false }:=h2.tk id _ (setF_same _ _ _)
 rw [← HB.out] at tq
 have u0:=tq.c0
 have v2:=tq.c2
 have e5:=tq.c5
 have e6:=tq.c6
 have e7:=tq.c7
 have TZ:=Lib.hid tq
 have htc:=HTK.out.cpu
 have htg:=HTK.out.g
 obtain ⟨c6,x6⟩:∃ c,W2.cell? ⟨x,6,none⟩=some (.slice (some ⟨L.bq,0,none⟩) s.n c):=h2.head.c6
 obtain ⟨cr',r6⟩:∃ c,W2.cell? ⟨L.bq,t.g,none⟩=some (.slice (some ⟨L.rq t.g,0,none⟩) s.C c):=h2.rq.c t.g htg
 have p6:W2.cell? ⟨L.rq t.g,t.cpu,none⟩=some (.pointer (some ⟨L.qp t.g t.cpu,0,none⟩)):=(h2.qc t.g htg).c t.cpu htc
 have hq:QIn W2 (L.qp t.g t.cpu) (L.Fq t.g t.cpu) qN ((s.Q t.cpu).M t.g) ((s.Q t.cpu).fl t.g):=h2.q t.g t.cpu htg htc
 have HQ:=Lib.hid hq
 have nF:∀ c p,L.lab c=p→p≠(5,(t.g:Int),t.cpu)→c∉L.Fq t.g t.cpu:=fun c p hc hn m=>hn (by rw [← hc];exact h2.lF t.g t.cpu htg htc c m)
 have lb:L.lab b=(4,id,0):=by rw [HB.out];exact HS.out.ltk id t HT.out
 obtain ⟨Fq,hFq⟩:∃ F,F=L.Fq t.g t.cpu:=⟨_,rfl⟩
 rw [← hFq] at nF
 have HFQ:=Lib.hid hFq
 have nb:b∉Fq:=nF b _ lb (by simp)
 have mx:x∉b::Fq:=by simp;exact ⟨lab_ne h2.lx lb (by simp),nF x _ h2.lx (by simp)⟩
 have mq:L.bq∉b::Fq:=by simp;exact ⟨lab_ne h2.lq lb (by simp),nF _ _ h2.lq (by simp)⟩
 have mr:L.rq t.g∉b::Fq:=by simp;exact ⟨lab_ne (h2.lrq t.g htg) lb (by simp),nF _ _ (h2.lrq t.g htg) (by simp)⟩
 obtain ⟨y,hy⟩:∃ y,y=leaveE qN ((s.Q t.cpu).M t.g) id:=⟨_,rfl⟩
 have HY:=Lib.hid hy
 have hyf:=leaveE_fits hq id
 rw [← hy] at hyf
 have A1:=Lib.hid (Leave_at id W2.drew (hq.below (Below.refl _ _).drew) HID.out)
 rw [← hy,← hFq] at A1
 clear hW2 k2 h2 x8 o0 fo u1 u2 hw1 hw1' t4 f4 tq hq hFq hy nF
 have E5:=Lib.hid (And.intro e5 (And.intro e6 e7))
 go_upto_region 2 with fail
 go_cut [1] (fun s1 wx=>s1=.int .i64 id∧∃ L':SLay,SRaw wx x L' (stL s id t (lvT (lvQ (s.Q t.cpu) t.g id) id) 0 y)∧SStep L w L' wx∧L'.tp=L.tp)
 case first =>
  as_aux_lemma =>
   refine startA (S:=fun w'=>Kept (b::Fq) W2 w'∧w'.cell? ⟨x,6,none⟩=some (.slice (some ⟨L.bq,0,none⟩) s.n c6)∧w'.cell? ⟨L.bq,t.g,none⟩=some (.slice (some ⟨L.rq t.g,0,none⟩) s.C cr')∧w'.cell? ⟨L.rq t.g,t.cpu,none⟩=some (.pointer (some ⟨L.qp t.g t.cpu,0,none⟩))) ⟨Kept.refl _ _,x6,r6,p6⟩ (fun h=>heldK_3 (kept_dr _ _) h) (fun hS0 hHeld=>?_)
   refine takeA 0 ?_
   refine takeA 1 ?_
   refine takeA 2 ?_
   refine takeA 3 ?_
   refine takeA 4 ?_
   refine takeA 5 ?_
   refine takeA 6 ?_
   refine takeA 7 ?_
   refine takeA 11 ?_
   refine takeA 12 ?_
   refine takeA 13 ?_
   refine takeA 17 ?_
   refine readyA [8,14] (consA (fun K hK=>?_) (consA (fun K hK=>?_) .nil))
   ·skip
    go_simp
    skip
    refine outA hK kpK_3 (fun hHeld8=>?_)
    clear hK K
    refine takeA 9 ?_
    refine takeA 10 ?_
    refine readyA [14] (consA (fun K hK=>?_) .nil)
    go_simp
    skip
    refine outA hK kpK_3 (fun hHeld14=>?_)
    clear hK K
    refine takeA 15 ?_
    refine takeA 16 ?_
    refine readyA [18] (consA (fun K hK=>?_) .nil)
    go_simp
    refine A1.out.mono ?_
    rintro e w5 ⟨rfl,F5,h5,s5⟩
    have hk5:Kept (b::Fq) W2.drew w5:=s5.kept.mono (fun b hb=>List.mem_cons_of_mem _ hb)
    replace e5:=s5.cell nb (cell_dr e5)
    replace e6:=s5.cell nb (cell_dr e6)
    replace e7:=s5.cell nb (cell_dr e7)
    have fz5:=s5.kept.frz (show W2.drew.frozen? ⟨b,5,none⟩=false from TZ.out.z 5) TZ.out.lt nb
    have fz6:=s5.kept.frz (show W2.drew.frozen? ⟨b,6,none⟩=false from TZ.out.z 6) TZ.out.lt nb
    have fz7:=s5.kept.frz (show W2.drew.frozen? ⟨b,7,none⟩=false from TZ.out.z 7) TZ.out.lt nb
    go_wp2_with fail
    refine outA hK kpK_3 (fun hHeld18=>?_)
    clear hK K
    refine takeA 19 ?_
    refine takeA 20 ?_
    refine takeA 21 ?_
    refine takeA 22 ?_
    refine takeA 23 ?_
    refine readyA [24] (consA (fun K hK=>?_) .nil)
    go_simp
    have hk24:=(set3_kept w5 b 5 y).mono (T:=b::Fq) (fun b hb=>by simp at hb;subst hb;simp)
    unfold set3 at hk24
    refine outA hK kpK_3 (fun hHeld24=>?_)
    clear hK K
    refine doneA ?_
    go_wp2_with fail
    go_meet
    case rel =>
     have r5:=lv_first (y:=y) (H2.out.below (Below.refl _ _).drew) HTK.out (by rw [← HFQ.out];exact s5) h5
     rw [← HB.out] at r5
     exact ⟨rfl,_,r5.1,(Q2.out.trans (SStep.of (Below.refl _ _).drew)).trans r5.2.1,r5.2.2⟩
   ·skip
    go_simp
    skip
    refine outA hK kpK_3 (fun hHeld14=>?_)
    clear hK K
    refine readyA [8] (consA (fun K hK=>?_) .nil)
    go_simp
    skip
    refine outA hK kpK_3 (fun hHeld8=>?_)
    clear hK K
    refine takeA 9 ?_
    refine takeA 10 ?_
    refine takeA 15 ?_
    refine takeA 16 ?_
    refine readyA [18] (consA (fun K hK=>?_) .nil)
    go_simp
    refine A1.out.mono ?_
    rintro e w5 ⟨rfl,F5,h5,s5⟩
    have hk5:Kept (b::Fq) W2.drew w5:=s5.kept.mono (fun b hb=>List.mem_cons_of_mem _ hb)
    replace e5:=s5.cell nb (cell_dr e5)
    replace e6:=s5.cell nb (cell_dr e6)
    replace e7:=s5.cell nb (cell_dr e7)
    have fz5:=s5.kept.frz (show W2.drew.frozen? ⟨b,5,none⟩=false from TZ.out.z 5) TZ.out.lt nb
    have fz6:=s5.kept.frz (show W2.drew.frozen? ⟨b,6,none⟩=false from TZ.out.z 6) TZ.out.lt nb
    have fz7:=s5.kept.frz (show W2.drew.frozen? ⟨b,7,none⟩=false from TZ.out.z 7) TZ.out.lt nb
    go_wp2_with fail
    refine outA hK kpK_3 (fun hHeld18=>?_)
    clear hK K
    refine takeA 19 ?_
    refine takeA 20 ?_
    refine takeA 21 ?_
    refine takeA 22 ?_
    refine takeA 23 ?_
    refine readyA [24] (consA (fun K hK=>?_) .nil)
    go_simp
    have hk24:=(set3_kept w5 b 5 y).mono (T:=b::Fq) (fun b hb=>by simp at hb;subst hb;simp)
    unfold set3 at hk24
    refine outA hK kpK_3 (fun hHeld24=>?_)
    clear hK K
    refine doneA ?_
    go_wp2_with fail
    go_meet
    case rel =>
     have r5:=lv_first (y:=y) (H2.out.below (Below.refl _ _).drew) HTK.out (by rw [← HFQ.out];exact s5) h5
     rw [← HB.out] at r5
     exact ⟨rfl,_,r5.1,(Q2.out.trans (SStep.of (Below.refl _ _).drew)).trans r5.2.1,r5.2.2⟩
 case rest =>
  as_aux_lemma =>
   obtain ⟨rfl,L3,hr3,hs3,htp3⟩:=hcut
   obtain ⟨W3,rfl⟩:∃ W:World,W=wc:=⟨_,rfl⟩
   clear E5 TZ e5 e6 e7 u0 v2 x6 r6 p6 A1 HQ HFQ nb mx mq mr H1 H2 HW1 Q1 Q2 hcm hgm
   have c9:W3.cell? ⟨x,9,none⟩=some (.int .i64 s.wk):=by
    have:=hr3.head.c9
    have e:(stL s id t (lvT (lvQ (s.Q t.cpu) t.g id) id) 0 y).wk=s.wk:=by unfold stL;simp
    rw [e] at this;exact this
   have f9:=hr3.head.z 9
   have hw9:IntKind.i64.wrap (s.wk+1)=s.wk+1:=IntWalk.i64_in _ (by omega)
   have hw9':wrap64 (s.wk+1)=s.wk+1:=IntWalk.wrap64_in _ (by omega)
   have tq:TskAt W3 (L3.tp id) { t with rdy:=false,run:=y }:=hr3.tk id _ (setF_same _ _ _)
   rw [htp3,← HB.out] at tq
   have nbx:b≠x:=lab_ne lb HS.out.lx (by simp)
   have u0:(W3.setCell ⟨x,9,none⟩ (.int .i64 (s.wk+1))).cell? ⟨b,0,none⟩=some (.int .i64 t.g):=cell_set_ne tq.c0 (Or.inl nbx)
   obtain ⟨W4,hW4⟩:∃ W,W=W3.setCell ⟨x,9,none⟩ (.int .i64 (s.wk+1)):=⟨_,rfl⟩
   have hr4:SRaw W4 x L3 (stL s id t (lvT (lvQ (s.Q t.cpu) t.g id) id) 1 y):=by
    have:=hr3.work (s.wk+1)
    rw [hW4]
    have e:{ stL s id t (lvT (lvQ (s.Q t.cpu) t.g id) id) 0 y with wk:=s.wk+1 }=stL s id t (lvT (lvQ (s.Q t.cpu) t.g id) id) 1 y:=by unfold stL;simp
    rw [e] at this;exact this
   have hs4:SStep L w L3 W4:=hs3.trans (SStep.of_kept (L:=L3) (G:=[x]) (by rw [hW4];exact (Kept.refl _ _).setCell (Or.inl (by simp)) _) (fun c hc=>by simp at hc;subst hc;rw [hr3.lx];simp))
   have HW4:=Lib.hid hW4
   obtain ⟨q0,hq0⟩:∃ q,q=lvT (lvQ (s.Q t.cpu) t.g id) id:=⟨_,rfl⟩
   rw [← hq0] at hr4
   obtain ⟨FIN,hFIN⟩:∃ F,F=lvTo (s.Q t.cpu) t.g id:=⟨_,rfl⟩
   obtain ⟨N,hN⟩:∃ N,N=lvW (s.Q t.cpu) t.g id:=⟨_,rfl⟩
   have HF:=Lib.hid (show (lvUp (parG s.Gs) q0 (pathT (parG s.Gs) t.g)).1=FIN by rw [hFIN,hq0,← HO.out.gs _ htc];rfl)
   have HK:=Lib.hid (show 1+lvK (parG s.Gs) q0 (pathT (parG s.Gs) t.g)=N by rw [hN,hq0,← HO.out.gs _ htc];rfl)
   have HNL:=Lib.hid (show N≤1+256 by
    have h1:=pathT_len (P:=parG s.Gs) t.g
    have h2:=HO.out.right.le
    have h3:t.g<s.Gs.length:=htg
    have:=lvK_le (parG s.Gs) (pathT (parG s.Gs) t.g) q0
    have:=HK.out
    omega)
   have HFN:=Lib.hid hFIN
   have HNN:=Lib.hid hN
   have hE:entOfL s id t FIN N y=lvS s id t:=by rw [HFN.out,HNN.out,HY.out];rfl
   have HE:=Lib.hid hE
   clear hFIN hN hq0 hr3 hs3 tq nbx hE
   go_wp2_with fail
   rw [← HW4.out]
   rw [← HW4.out] at u0
   clear c9 f9 hw9 hw9' hW4 u0
   go_loopw [6] (fun gv wr=>∃ (gk:Nat) (q:TSt) (j:Nat) (L':SLay),gk<s.n∧gv=.int .i64 gk∧SRaw wr x L' (stL s id t q j y)∧SStep L w L' wr∧L'.tp=L.tp∧Hid ((lvUp (parG s.Gs) q (pathT (parG s.Gs) gk)).1=FIN)∧Hid (j+lvK (parG s.Gs) q (pathT (parG s.Gs) gk)=N)) (fun g _=>(intOf g).toNat)
   case atStart=>exact ⟨t.g,q0,1,L3,htg,rfl,hr4,hs4,htp3,HF,HK⟩
   case round =>
    obtain ⟨gk,q,j,L',hgk,rfl,hr,hs,htp,hF,hK⟩:=hrel
    have tq:TskAt wr (L'.tp id) { t with rdy:=false,run:=y }:=hr.tk id _ (setF_same _ _ _)
    rw [htp,← HB.out] at tq
    have u2:=tq.c2
    have hcm:(t.cpu:Int)<(s.C:Int):=by omega
    have hgm:(gk:Int)<(s.n:Int):=by omega
    obtain ⟨c6,x6⟩:∃ c,wr.cell? ⟨x,6,none⟩=some (.slice (some ⟨L'.bq,0,none⟩) s.n c):=hr.head.c6
    obtain ⟨cr',r6⟩:∃ c,wr.cell? ⟨L'.bq,gk,none⟩=some (.slice (some ⟨L'.rq gk,0,none⟩) s.C c):=hr.rq.c gk hgk
    have p6:wr.cell? ⟨L'.rq gk,t.cpu,none⟩=some (.pointer (some ⟨L'.qp gk t.cpu,0,none⟩)):=(hr.qc gk hgk).c t.cpu htc
    have hq:QIn wr (L'.qp gk t.cpu) (L'.Fq gk t.cpu) qN (q.M gk) (q.fl gk):=by
     have:QIn wr (L'.qp gk t.cpu) (L'.Fq gk t.cpu) qN ((upd s.Q t.cpu q t.cpu).M gk) ((upd s.Q t.cpu q t.cpu).fl gk):=hr.q gk t.cpu hgk htc
     rw [upd_same] at this
     exact this
    have A2:=Lib.hid (Len_at' wr.drew (hq.below (Below.refl _ _).drew))
    have HR:=Lib.hid hr
    have HSt:=Lib.hid hs
    have HTP:=Lib.hid htp
    have HGK:=Lib.hid hgk
    obtain ⟨wo,hwo⟩:∃ wo,wo=wr:=⟨_,rfl⟩
    subst hwo
    clear hr hs htp hq tq
    by_cases g0:gk=0
    ·have st:=lv_end (P:=parG s.Gs) (s:=q) (g:=gk) (Or.inr g0)
     have z1:decide ((gk:Int) > 0)=false:=decide_eq_false (by omega)
     have z2:decide ((0:Int)<(gk:Int))=false:=decide_eq_false (by omega)
     have z3:decide (0<gk)=false:=decide_eq_false (by omega)
     have ST:=Lib.hid st
     clear g0 st
     go_wp2_with fail
     refine startA (S:=fun w'=>Below wo.heap.size wo w'∧w'.cell? ⟨x,6,none⟩=some (.slice (some ⟨L'.bq,0,none⟩) s.n c6)) ⟨Below.refl _ _,x6⟩ (held_1 (below_dr _)) (fun hS0 hHeld=>?_)
     refine takeA 0 ?_
     refine takeA 1 ?_
     refine takeA 2 ?_
     refine skipA 3 ?_
     refine skipA 4 ?_
     refine skipA 5 ?_
     refine skipA 6 ?_
     refine skipA 7 ?_
     refine skipA 8 ?_
     refine skipA 9 ?_
     refine skipA 10 ?_
     refine skipA 11 ?_
     refine skipA 12 ?_
     refine skipA 13 ?_
     refine skipA 14 ?_
     refine skipA 15 ?_
     refine skipA 16 ?_
     refine skipA 17 ?_
     refine takeA 18 ?_
     refine doneA ?_
     go_wp2_with fail
     go_end0
     refine ⟨rfl,L',?_,HSt.out.trans (SStep.of (Below.refl _ _).drew),HTP.out⟩
     have e1:FIN=q:=hF.out.symm.trans ST.out.1
     have e2:N=j:=by have:=hK.out;have:=ST.out.2;omega
     rw [← HE.out,e1,e2]
     exact HR.out.below (Below.refl _ _).drew
    ·have g1:0<gk:=by omega
     have z1:decide ((gk:Int) > 0)=true:=decide_eq_true (by omega)
     have z2:decide ((0:Int)<(gk:Int))=true:=decide_eq_true (by omega)
     have z3:decide (0<gk)=true:=decide_eq_true (by omega)
     cases he:List.isEmpty (q.M gk) with
     | false =>
      have st:=lv_end (P:=parG s.Gs) (s:=q) (g:=gk) (Or.inl he)
      have zE:(((q.M gk).length:Int) == 0)=false:=by rw [len_zero];exact he
      have ST:=Lib.hid st
      clear he g0 st g1
      go_wp2_with fail
      refine startA (S:=fun w'=>Below wo.heap.size wo w'∧w'.cell? ⟨x,6,none⟩=some (.slice (some ⟨L'.bq,0,none⟩) s.n c6)∧w'.cell? ⟨L'.bq,gk,none⟩=some (.slice (some ⟨L'.rq gk,0,none⟩) s.C cr')∧w'.cell? ⟨b,2,none⟩=some (.int .i64 t.cpu)∧w'.cell? ⟨L'.rq gk,t.cpu,none⟩=some (.pointer (some ⟨L'.qp gk t.cpu,0,none⟩))) ⟨Below.refl _ _,x6,r6,u2,p6⟩ (held_4 (below_dr _)) (fun hS0 hHeld=>?_)
      refine takeA 0 ?_
      refine takeA 1 ?_
      refine takeA 2 ?_
      refine takeA 3 ?_
      refine takeA 4 ?_
      refine takeA 5 ?_
      refine takeA 6 ?_
      refine takeA 7 ?_
      refine takeA 8 ?_
      refine takeA 9 ?_
      refine takeA 10 ?_
      refine takeA 11 ?_
      refine takeA 12 ?_
      refine takeA 13 ?_
      refine takeA 14 ?_
      refine takeA 15 ?_
      refine readyA [16] (consA (fun K hK=>?_) .nil)
      go_simp
      refine A2.out.mono ?_
      rintro e w5 ⟨rfl,rfl⟩
      go_wp2_with fail
      refine outA hK kp_4 (fun hHeld16=>?_)
      clear hK K
      refine takeA 17 ?_
      refine takeA 18 ?_
      refine doneA ?_
      go_wp2_with fail
      go_end0
      refine ⟨rfl,L',?_,HSt.out.trans (SStep.of (Below.refl _ _).drew),HTP.out⟩
      have e1:FIN=q:=hF.out.symm.trans ST.out.1
      have e2:N=j:=by have:=hK.out;have:=ST.out.2;omega
      rw [← HE.out,e1,e2]
      exact HR.out.below (Below.refl _ _).drew
     | true =>
      have hpl:parG s.Gs gk<gk:=(HO.out.right.par HGK.out).2.1 (by omega)
      have st:=lv_next (P:=parG s.Gs) (s:=q) (g:=gk) he g1 hpl
      have zE:(((q.M gk).length:Int) == 0)=true:=by rw [len_zero];exact he
      have ST:=Lib.hid st
      have HPL:=Lib.hid (And.intro hpl g1)
      clear he g0 st g1 hpl
      go_wp2_with fail
      refine startA (S:=fun w'=>Below wo.heap.size wo w'∧w'.cell? ⟨x,6,none⟩=some (.slice (some ⟨L'.bq,0,none⟩) s.n c6)∧w'.cell? ⟨L'.bq,gk,none⟩=some (.slice (some ⟨L'.rq gk,0,none⟩) s.C cr')∧w'.cell? ⟨b,2,none⟩=some (.int .i64 t.cpu)∧w'.cell? ⟨L'.rq gk,t.cpu,none⟩=some (.pointer (some ⟨L'.qp gk t.cpu,0,none⟩))) ⟨Below.refl _ _,x6,r6,u2,p6⟩ (held_4 (below_dr _)) (fun hS0 hHeld=>?_)
      refine takeA 0 ?_
      refine takeA 1 ?_
      refine takeA 2 ?_
      refine takeA 3 ?_
      refine takeA 4 ?_
      refine takeA 5 ?_
      refine takeA 6 ?_
      refine takeA 7 ?_
      refine takeA 8 ?_
      refine takeA 9 ?_
      refine takeA 10 ?_
      refine takeA 11 ?_
      refine takeA 12 ?_
      refine takeA 13 ?_
      refine takeA 14 ?_
      refine takeA 15 ?_
      refine readyA [16] (consA (fun K hK=>?_) .nil)
      go_simp
      refine A2.out.mono ?_
      rintro e w5 ⟨rfl,rfl⟩
      go_wp2_with fail
      refine outA hK kp_4 (fun hHeld16=>?_)
      clear hK K
      refine takeA 17 ?_
      refine takeA 18 ?_
      refine doneA ?_
      skip
      obtain ⟨w4,hw4⟩:∃ W,W=wo.drew:=⟨_,rfl⟩
      rw [← hw4]
      have hB4:Below wo.heap.size wo w4:=by rw [hw4];exact (Below.refl _ _).drew
      have HB4:=Lib.hid hB4
      have hr4:=HR.out.below hB4
      have HR4:=Lib.hid hr4
      clear hw4 hB4 x6 r6 p6 u2 A2 hS0 hHeld
      obtain ⟨pg,hpg⟩:∃ p,p=parG s.Gs gk:=⟨_,rfl⟩
      have hpgn:pg<s.n:=by have:=HPL.out.1;have:=HGK.out;omega
      have hpm:(pg:Int)<(s.n:Int):=by omega
      have A3:=Lib.hid (show Calls Tryz.prog 112 #[.pointer (some ⟨x,0,none⟩),.int .i64 gk] w4.drew fun e w'=>e=.returned (.int .i64 (pg:Nat))∧w4.drew=w' from by rw [hpg];exact xparent_at (hr4.below (Below.refl _ _).drew) HO.out.right (g:=gk) HGK.out)
      have tq:TskAt w4 (L'.tp id) { t with rdy:=false,run:=y }:=hr4.tk id _ (setF_same _ _ _)
      rw [HTP.out,← HB.out] at tq
      have u2:=tq.c2
      obtain ⟨c6,x6⟩:∃ c,w4.cell? ⟨x,6,none⟩=some (.slice (some ⟨L'.bq,0,none⟩) s.n c):=hr4.head.c6
      obtain ⟨cr6,r6⟩:∃ c,w4.cell? ⟨L'.bq,pg,none⟩=some (.slice (some ⟨L'.rq pg,0,none⟩) s.C c):=hr4.rq.c pg hpgn
      have p6:w4.cell? ⟨L'.rq pg,t.cpu,none⟩=some (.pointer (some ⟨L'.qp pg t.cpu,0,none⟩)):=(hr4.qc pg hpgn).c t.cpu htc
      obtain ⟨c7,x7⟩:∃ c,w4.cell? ⟨x,7,none⟩=some (.slice (some ⟨L'.ba,0,none⟩) s.n c):=hr4.head.c7
      obtain ⟨cr7,r7⟩:∃ c,w4.cell? ⟨L'.ba,gk,none⟩=some (.slice (some ⟨L'.ra gk,0,none⟩) s.C c):=hr4.ra.c gk HGK.out
      have hq:QIn w4 (L'.qp pg t.cpu) (L'.Fq pg t.cpu) qN (q.M pg) (q.fl pg):=by
       have:QIn w4 (L'.qp pg t.cpu) (L'.Fq pg t.cpu) qN ((upd s.Q t.cpu q t.cpu).M pg) ((upd s.Q t.cpu q t.cpu).fl pg):=hr4.q pg t.cpu hpgn htc
       rw [upd_same] at this
       exact this
      have hEA:EntsAt w4 (L'.ra gk) s.C (fun k=>((upd s.Q t.cpu q) k).A gk):=hr4.ac gk HGK.out
      obtain ⟨a0,a1,a2⟩:=hEA.c t.cpu htc
      have HAZ:=Lib.hid hEA
      have nF:∀ c p,L'.lab c=p→p≠(5,(pg:Int),t.cpu)→c∉L'.Fq pg t.cpu:=fun c p hc hn m=>hn (by rw [← hc];exact hr4.lF pg t.cpu hpgn htc c m)
      have lb':L'.lab b=(4,id,0):=by rw [HB.out,← HTP.out];exact hr4.ltk id _ (setF_same _ _ _)
      have lra:L'.lab (L'.ra gk)=(3,(gk:Int),0):=hr4.lra gk HGK.out
      obtain ⟨Fq,hFq⟩:∃ F,F=L'.Fq pg t.cpu:=⟨_,rfl⟩
      rw [← hFq] at nF
      have HFQ:=Lib.hid hFq
      have na:L'.ra gk∉Fq:=nF _ _ lra (by simp)
      have mx:x∉L'.ra gk::Fq:=by simp;exact ⟨lab_ne hr4.lx lra (by simp),nF x _ hr4.lx (by simp)⟩
      have mb:b∉L'.ra gk::Fq:=by simp;exact ⟨lab_ne lb' lra (by simp),nF b _ lb' (by simp)⟩
      have mq:L'.bq∉L'.ra gk::Fq:=by simp;exact ⟨lab_ne hr4.lq lra (by simp),nF _ _ hr4.lq (by simp)⟩
      have ma:L'.ba∉L'.ra gk::Fq:=by simp;exact ⟨lab_ne hr4.la lra (by simp),nF _ _ hr4.la (by simp)⟩
      have mr:L'.rq pg∉L'.ra gk::Fq:=by simp;exact ⟨lab_ne (hr4.lrq pg hpgn) lra (by simp),nF _ _ (hr4.lrq pg hpgn) (by simp)⟩
      obtain ⟨ye,hye⟩:∃ y,y=leaveE qN (q.M pg) (65536+(gk:Int)):=⟨_,rfl⟩
      have hyf2:=leaveE_fits hq (65536+(gk:Int))
      rw [← hye] at hyf2
      have hgn:(gk:Int)<256:=by have:=HO.out.right.le;have:=HGK.out;unfold SSt.n at this;omega
      have A5:=Lib.hid (Leave_at (65536+(gk:Int)) w4.drew (hq.below (Below.refl _ _).drew) (wfI (by omega) (by omega)))
      rw [← hye,← hFq] at A5
      have hwm:IntKind.i64.wrap (65536+(gk:Int))=65536+(gk:Int):=IntWalk.i64_in _ (by omega)
      have hwm':wrap64 (65536+(gk:Int))=65536+(gk:Int):=IntWalk.wrap64_in _ (by omega)
      have HYE:=Lib.hid hye
      have HPG:=Lib.hid hpg
      have lra4:L'.ra gk<w4.heap.size:=hEA.lt
      clear hr4 tq hq hEA nF hFq hye hpg
      go_wp2_with fail
      refine startA (S:=fun w'=>Kept (L'.ra gk::Fq) w4 w'∧w'.cell? ⟨x,6,none⟩=some (.slice (some ⟨L'.bq,0,none⟩) s.n c6)∧w'.cell? ⟨L'.bq,pg,none⟩=some (.slice (some ⟨L'.rq pg,0,none⟩) s.C cr6)∧w'.cell? ⟨b,2,none⟩=some (.int .i64 t.cpu)∧w'.cell? ⟨L'.rq pg,t.cpu,none⟩=some (.pointer (some ⟨L'.qp pg t.cpu,0,none⟩))∧w'.cell? ⟨x,7,none⟩=some (.slice (some ⟨L'.ba,0,none⟩) s.n c7)∧w'.cell? ⟨L'.ba,gk,none⟩=some (.slice (some ⟨L'.ra gk,0,none⟩) s.C cr7)) ⟨Kept.refl _ _,x6,r6,u2,p6,x7,r7⟩ (fun h=>heldK_6 (kept_dr _ _) h) (fun hS0 hHeld=>?_)
      refine takeA 0 ?_
      refine takeA 1 ?_
      refine takeA 2 ?_
      refine takeA 3 ?_
      refine takeA 4 ?_
      refine takeA 5 ?_
      refine takeA 6 ?_
      refine takeA 7 ?_
      refine takeA 8 ?_
      refine takeA 9 ?_
      refine takeA 10 ?_
      refine takeA 11 ?_
      refine takeA 12 ?_
      refine takeA 13 ?_
      refine takeA 14 ?_
      refine takeA 15 ?_
      refine takeA 16 ?_
      refine takeA 20 ?_
      refine takeA 21 ?_
      refine takeA 22 ?_
      refine takeA 23 ?_
      refine takeA 26 ?_
      refine takeA 27 ?_
      refine readyA [17] (consA (fun K hK=>?_) .nil)
      go_simp
      refine A3.out.mono ?_
      rintro e w6 ⟨rfl,rfl⟩
      go_wp2_with fail
      refine outA hK kpK_6 (fun hHeld17=>?_)
      clear hK K
      refine takeA 18 ?_
      refine takeA 19 ?_
      refine takeA 24 ?_
      refine takeA 25 ?_
      refine readyA [28] (consA (fun K hK=>?_) .nil)
      go_simp
      refine A5.out.mono ?_
      rintro e w8 ⟨rfl,F8,h8,s8⟩
      have hk8:Kept (L'.ra gk::Fq) w4.drew w8:=s8.kept.mono (fun b hb=>List.mem_cons_of_mem _ hb)
      replace a0:=s8.cell na (cell_dr a0)
      replace a1:=s8.cell na (cell_dr a1)
      replace a2:=s8.cell na (cell_dr a2)
      have fz0:=s8.kept.frz (show w4.drew.frozen? ⟨L'.ra gk,t.cpu*3,none⟩=false from HAZ.out.z _) lra4 na
      have fz1:=s8.kept.frz (show w4.drew.frozen? ⟨L'.ra gk,t.cpu*3+1,none⟩=false from HAZ.out.z _) lra4 na
      have fz2:=s8.kept.frz (show w4.drew.frozen? ⟨L'.ra gk,t.cpu*3+2,none⟩=false from HAZ.out.z _) lra4 na
      go_wp2_with fail
      refine outA hK kpK_6 (fun hHeld28=>?_)
      clear hK K
      refine takeA 29 ?_
      refine takeA 30 ?_
      refine takeA 31 ?_
      refine takeA 32 ?_
      refine readyA [33] (consA (fun K hK=>?_) .nil)
      go_simp
      have hk33:=(set3_kept w8 (L'.ra gk) (t.cpu*3) ye).mono (T:=L'.ra gk::Fq) (fun b hb=>by simp at hb;subst hb;simp)
      unfold set3 at hk33
      refine outA hK kpK_6 (fun hHeld33=>?_)
      clear hK K
      refine doneA ?_
      skip
      obtain ⟨w9,hw9⟩:∃ W,W=set3 w8 (L'.ra gk) (t.cpu*3) ye:=⟨_,rfl⟩
      have hr8:=(HR4.out.below (Below.refl _ _).drew).queue (k:=t.cpu) hpgn htc (by exact h8) (by rw [← HFQ.out];exact s8)
      rw [qSet_stL] at hr8
      have hr9:=hr8.aside (g:=gk) (k:=t.cpu) HGK.out htc hyf2
      rw [aSet_stL] at hr9
      have hs8:=SStep.queue (HR4.out.below (Below.refl _ _).drew) (k:=t.cpu) hpgn htc (by rw [← HFQ.out];exact s8)
      obtain ⟨q9,hq9⟩:∃ q9,q9=lvA q gk pg:=⟨_,rfl⟩
      obtain ⟨L9,hL9⟩:∃ L9,L9=L'.queue pg t.cpu F8:=⟨_,rfl⟩
      replace hr9:SRaw w9 x L9 (stL s id t q9 j y):=by rw [hw9,hq9,hL9,lvA,← HYE.out];exact hr9
      have hs9:SStep L w L9 w9:=by
       rw [hL9,hw9]
       refine (HSt.out.trans ((SStep.of HB4.out).trans ((SStep.of (Below.refl _ _).drew).trans hs8))).trans (SStep.of_kept (L:=L'.queue pg t.cpu F8) (set3_kept _ _ _ _) fun c hc=>?_)
       simp at hc
       subst hc
       have:=hr8.lra gk HGK.out
       show (L'.queue pg t.cpu F8).lab ((L'.queue pg t.cpu F8).ra gk)≠_
       rw [this];simp
      have htp9:L9.tp=L.tp:=by rw [hL9];exact HTP.out
      unfold set3 at hw9
      rw [← hw9]
      have c9:w9.cell? ⟨x,9,none⟩=some (.int .i64 (s.wk+(j:Int))):=hr9.head.c9
      have f9:=hr9.head.z 9
      have hjN:(j:Int)≤257:=by have:=HNL.out;have:=hK.out;omega
      have hw9a:IntKind.i64.wrap (s.wk+(j:Int)+1)=s.wk+(j:Int)+1:=IntWalk.i64_in _ (by omega)
      have hw9b:wrap64 (s.wk+(j:Int)+1)=s.wk+(j:Int)+1:=IntWalk.wrap64_in _ (by omega)
      have hr10:=hr9.work (s.wk+(j:Int)+1)
      rw [stL_work] at hr10
      have hs10:=hs9.trans (SStep.of_kept (L:=L9) ((Kept.refl [x] w9).setCell (p:=⟨x,9,none⟩) (Or.inl (by simp)) (.int .i64 (s.wk+(j:Int)+1))) (fun c hc=>by simp at hc;subst hc;rw [hr9.lx];simp))
      have HR10:=Lib.hid hr10
      have HS10:=Lib.hid hs10
      have HTP9:=Lib.hid htp9
      have HQ9:=Lib.hid hq9
      clear hr8 hr9 hs8 hs9 htp9 hq9 hL9 hw9 hr10 hs10 h8 s8 hk8 hk33 hHeld28 hHeld33 hHeld17 a0 a1 a2 fz0 fz1 fz2 x6 r6 p6 x7 r7 u2 hjN
      go_wp2_with fail
      have A6:=Lib.hid (show Calls Tryz.prog 112 #[.pointer (some ⟨x,0,none⟩),.int .i64 gk] (w9.setCell ⟨x,9,none⟩ (.int .i64 (s.wk+(j:Int)+1))) fun e w'=>e=.returned (.int .i64 (pg:Nat))∧(w9.setCell ⟨x,9,none⟩ (.int .i64 (s.wk+(j:Int)+1)))=w' from by rw [HPG.out];exact xparent_at HR10.out HO.out.right (g:=gk) HGK.out)
      refine A6.out.mono ?_;rintro e w11 ⟨rfl,rfl⟩
      go_wp2_with fail
      go_roundw
      case rel=>exact ⟨pg,q9,j+1,L9,hpgn,rfl,HR10.out,HS10.out,HTP9.out,Lib.hid (by rw [HQ9.out,HPG.out];exact ST.out.1.symm.trans hF.out),Lib.hid (by rw [HQ9.out,HPG.out];have:=hK.out;have:=ST.out.2;omega)⟩
      case measure=>simp [intOf];have:=HPL.out;have:=HPG.out;omega
end Go.Proofs.YtapnaocdehahdaaGreat
