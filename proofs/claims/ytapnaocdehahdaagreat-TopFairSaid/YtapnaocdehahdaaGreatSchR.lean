/-
  Layer 31 (sched): reweight.
-/
import Derived.Test.YtapnaocdehahdaaGreatSchW
namespace Go.Proofs.YtapnaocdehahdaaGreat
open Go.RowKit Go.Maps Go.IntWalk Go.Lib
set_option linter.unusedVariables false
set_option linter.unusedSimpArgs false
def wgT (t:Tsk) (k:Int):Tsk:={ t with w:=k,run:=wghX k t.run }
def reC (s:SSt) (id k:Int):Int:=if wgOk k then (match s.T id with
 | none=>6
 | some _=>0) else 2
def reS (s:SSt) (id k:Int):SSt:=if wgOk k then (match s.T id with
 | none=>s
 | some t=>if t.rdy then rwS s id t k else tskS s id (wgT t k)) else s
theorem SOk.asleep {s:SSt} {id k:Int} {t:Tsk} (h:SOk s) (hT:s.T id=some t) (hr:t.rdy=false) (hk:wgOk k):SOk (tskS s id (wgT t k)):=by
 have ht:=(h.task id t hT).2
 refine h.tsk hT hr hr ⟨ht.g,hk,ht.cpu,ht.mask,?_⟩
 exact okW ht.run hk
theorem SOk.re {s:SSt} (h:SOk s) (id k:Int):SOk (reS s id k):=by
 unfold reS
 split
 ·rename_i hk
  split
  ·exact h
  ·rename_i t hT
   split
   ·rename_i hr;exact h.reweight hT hr hk
   ·rename_i hr;exact h.asleep hT (by simpa using hr) hk
 ·exact h
theorem TskAt.weight {w:World} {b:Nat} {t:Tsk} (h:TskAt w b t) (k:Int):TskAt (w.setCell ⟨b,1,none⟩ (.int .i64 k)) b { t with w:=k }:=
 ⟨cell_set_ne h.c0 (Or.inr (by decide)),cell_set_eq h.c1,cell_set_ne h.c2 (Or.inr (by decide)),cell_set_ne h.c3 (Or.inr (by decide)),cell_set_ne h.c4 (Or.inr (by decide)),cell_set_ne h.c5 (Or.inr (by decide)),cell_set_ne h.c6 (Or.inr (by decide)),cell_set_ne h.c7 (Or.inr (by decide)),fun j=>by rw [World.frozen?_setCell];exact h.z j⟩
theorem SRaw.weight {w:World} {x:Nat} {L:SLay} {s:SSt} {id:Int} {t:Tsk} (h:SRaw w x L s) (hT:s.T id=some t) (k:Int):SRaw (w.setCell ⟨L.tp id,1,none⟩ (.int .i64 k)) x L (tskS s id { t with w:=k })∧SStep L w L (w.setCell ⟨L.tp id,1,none⟩ (.int .i64 k)):=by
 have hk:Kept [L.tp id] w (w.setCell ⟨L.tp id,1,none⟩ (.int .i64 k)):=(Kept.refl _ _).setCell (Or.inl (by simp)) _
 exact ⟨h.task hT hk ((h.tk id t hT).weight k),SStep.of_kept hk fun b hb=>by simp at hb;subst hb;rw [h.ltk id t hT];simp⟩
set_option maxRecDepth 100000 in
set_option maxHeartbeats 4000000 in
theorem dReweight_at {w:World} {x:Nat} {L:SLay} {s:SSt} {o:OpV} (h:SRaw w x L s) (ho:SOk s) (hwf:o.Wf) (hwk:0≤s.wk∧s.wk≤1000000) :
  Calls Tryz.prog 312 #[encO o,.pointer (some ⟨x,0,none⟩)] w (SDo w x L 0 (reC s o.task o.weight) (reS s o.task o.weight)):=by
 have HS:=Lib.hid h
 have HO:=Lib.hid ho
 obtain ⟨W0,hW0⟩:∃ W,W=w.alloc (.cells (cellsO o) 204):=⟨_,rfl⟩
 have hb0:Below w.heap.size w W0:=by rw [hW0];exact below_a _ _
 have B0:OpBox W0 w.heap.size o:=by rw [hW0];exact OpBox.new _ _ _
 have h0:=h.below hb0
 have HB0:=Lib.hid hb0
 unfold cellsO at hW0
 have HW0:=Lib.hid hW0
 clear hW0
 have b2:=B0.c2
 have b4:=B0.c4
 have HID:=Lib.hid hwf.task
 have x5:W0.cell? ⟨x,5,none⟩=some (.map (some L.bm)):=h0.head.c5
 have hlk:=(h0.below (Below.refl _ _).drew).look hwf.task
 obtain ⟨id,hid⟩:∃ id,id=o.task:=⟨_,rfl⟩
 rw [← hid] at b2 hlk ⊢
 have HI:=Lib.hid hid
 obtain ⟨k,hkk⟩:∃ k,k=o.weight:=⟨_,rfl⟩
 rw [← hkk] at b4 ⊢
 have HK:=Lib.hid hkk
 obtain ⟨W1,hW1⟩:∃ W,W=W0.drew:=⟨_,rfl⟩
 have hB1:Below W0.heap.size W0 W1:=by rw [hW1];exact (Below.refl _ _).drew
 have h1:=h0.below hB1
 have b2':=cell_later hB1 b2
 have b4':=cell_later hB1 b4
 have H1:=Lib.hid h1
 have HB1:=Lib.hid hB1
 have HW1:=Lib.hid hW1
 have A1:=Lib.hid fun W=>sweighs_at k W
 cases hT:s.T id with
 | none =>
  rw [hT] at hlk
  have hlk2:(Instr.lookup 96 (.map (some L.bm)) (.int .i64 id) false).run Tryz.prog W0.drew=.ok (.pointer none) W0.drew:=hlk
  by_cases hw:wgOk k
  ·have E1:=Lib.hid (show reC s id k=6 by unfold reC;rw [if_pos hw,hT])
   have E2:=Lib.hid (show reS s id k=s by unfold reS;rw [if_pos hw,hT])
   have z1:decide (wgOk k)=true:=decide_eq_true hw
   rw [z1] at A1
   clear h ho h0 hb0 B0 hid hlk hT hw z1 hkk hW1 hB1 h1
   unfold encO
   go_enter Tryz.func312,Tryz.ntmps312
   go_upto_region 1 with fail
   rw [← HW0.out]
   go_region
   rw [← HW1.out]
   go_wp2_with fail
   refine (A1.out _).mono ?_;rintro e w5 ⟨rfl,rfl⟩
   go_wp2_with fail
   refine bodyPost_ret (v:=.tuple #[.int .i64 0,.int .i64 6]) (by simp [results,Tryz.results312,go_sem]) rfl ⟨by rw [E1.out],?_⟩
   rw [E2.out]
   exact SLeft.same HS.out (Below.step HB0.out HB1.out)
  ·have E1:=Lib.hid (show reC s id k=2 by unfold reC;rw [if_neg hw])
   have E2:=Lib.hid (show reS s id k=s by unfold reS;rw [if_neg hw])
   have z1:decide (wgOk k)=false:=decide_eq_false hw
   rw [z1] at A1
   clear h ho h0 hb0 B0 hid hlk hT hw z1 hkk hW1 hB1 h1
   unfold encO
   go_enter Tryz.func312,Tryz.ntmps312
   go_upto_region 1 with fail
   rw [← HW0.out]
   go_region
   rw [← HW1.out]
   go_wp2_with fail
   refine (A1.out _).mono ?_;rintro e w5 ⟨rfl,rfl⟩
   go_wp2_with fail
   refine bodyPost_ret (v:=.tuple #[.int .i64 0,.int .i64 2]) (by simp [results,Tryz.results312,go_sem]) rfl ⟨by rw [E1.out],?_⟩
   rw [E2.out]
   exact SLeft.same HS.out (Below.step HB0.out HB1.out)
 | some t =>
  rw [hT] at hlk
  have hlk2:(Instr.lookup 96 (.map (some L.bm)) (.int .i64 id) false).run Tryz.prog W0.drew=.ok (.pointer (some ⟨L.tp id,0,none⟩)) W0.drew:=hlk
  by_cases hw:wgOk k
  ·have z1:decide (wgOk k)=true:=decide_eq_true hw
   rw [z1] at A1
   have htk:=(ho.task id t hT).2
   have HTK:=Lib.hid htk
   have HT:=Lib.hid hT
   have tk1:=h1.tk id t hT
   obtain ⟨b,hb⟩:∃ b,b=L.tp id:=⟨_,rfl⟩
   rw [← hb] at tk1 hlk2
   have HB:=Lib.hid hb
   have t4:=tk1.c4
   have lb:L.lab b=(4,id,0):=by rw [hb];exact h.ltk id t hT
   have lx0:L.lab w.heap.size=(0,0,0):=h.none_at (Nat.le_refl _)
   cases hr:t.rdy with
   | true =>
    have E1:=Lib.hid (show reC s id k=0 by unfold reC;rw [if_pos hw,hT])
    have E2:=Lib.hid (show reS s id k=rwS s id t k by unfold reS;rw [if_pos hw,hT];simp [hr])
    rw [hr] at t4
    have ta0:=tk1.c0
    have ta2:=tk1.c2
    have htc:=htk.cpu
    have htg:=htk.g
    have hcm:(t.cpu:Int)<(s.C:Int):=by omega
    have hgm:(t.g:Int)<(s.n:Int):=by omega
    obtain ⟨c6,x6⟩:∃ c,W1.cell? ⟨x,6,none⟩=some (.slice (some ⟨L.bq,0,none⟩) s.n c):=h1.head.c6
    obtain ⟨cr',r6⟩:∃ c,W1.cell? ⟨L.bq,t.g,none⟩=some (.slice (some ⟨L.rq t.g,0,none⟩) s.C c):=h1.rq.c t.g htg
    have p6:W1.cell? ⟨L.rq t.g,t.cpu,none⟩=some (.pointer (some ⟨L.qp t.g t.cpu,0,none⟩)):=(h1.qc t.g htg).c t.cpu htc
    have hq:=h1.q t.g t.cpu htg htc
    have nF:∀ c p,L.lab c=p→p≠(5,(t.g:Int),t.cpu)→c∉L.Fq t.g t.cpu:=fun c p hc hn m=>hn (by rw [← hc];exact h1.lF t.g t.cpu htg htc c m)
    obtain ⟨Fq,hFq⟩:∃ F,F=L.Fq t.g t.cpu:=⟨_,rfl⟩
    rw [← hFq] at nF
    have HFQ:=Lib.hid hFq
    have mx:x∉Fq:=nF x _ h1.lx (by simp)
    have mw:w.heap.size∉Fq:=nF _ _ lx0 (by simp)
    have mb:b∉Fq:=nF _ _ lb (by simp)
    have mq:L.bq∉Fq:=nF _ _ h1.lq (by simp)
    have mr:L.rq t.g∉Fq:=nF _ _ (h1.lrq t.g htg) (by simp)
    have A2:=Lib.hid (Weigh_at id k W1.drew (hq.below (Below.refl _ _).drew) (by rw [hid];exact hwf.task))
    rw [← hFq] at A2
    obtain ⟨bx,hbx⟩:∃ b,b=w.heap.size:=⟨_,rfl⟩
    rw [← hbx] at b2' b4' mw lx0
    have HBX:=Lib.hid hbx
    have hld:=ho.load htc
    have htw:=htk.w
    have HW:=Lib.hid hw
    unfold wgOk at hw
    have hw1:IntKind.i64.wrap (k - t.w)=k - t.w:=IntWalk.i64_in _ (by omega)
    have hw1':wrap64 (k - t.w)=k - t.w:=IntWalk.wrap64_in _ (by omega)
    have hw2:IntKind.i64.wrap (s.ld t.cpu+(k - t.w))=s.ld t.cpu+(k - t.w):=IntWalk.i64_in _ (by omega)
    have hw2':wrap64 (s.ld t.cpu+(k - t.w))=s.ld t.cpu+(k - t.w):=IntWalk.wrap64_in _ (by omega)
    have hw9:IntKind.i64.wrap (s.wk+1)=s.wk+1:=IntWalk.i64_in _ (by omega)
    have hw9':wrap64 (s.wk+1)=s.wk+1:=IntWalk.wrap64_in _ (by omega)
    clear h ho h0 hb0 B0 hid hlk hT hw z1 hkk hW1 hB1 h1 tk1 hb hr htk hq nF hFq hld htw
    unfold encO
    go_enter Tryz.func312,Tryz.ntmps312
    go_upto_region 1 with fail
    rw [← HW0.out]
    go_region
    rw [← HW1.out,← HBX.out]
    clear x5 b2 b4 hlk2 hbx
    go_wp2_with fail
    refine (A1.out _).mono ?_;rintro e w5 ⟨rfl,rfl⟩
    go_wp2_with fail
    refine startA (S:=fun w'=>Kept Fq W1 w'∧w'.cell? ⟨x,6,none⟩=some (.slice (some ⟨L.bq,0,none⟩) s.n c6)∧w'.cell? ⟨b,0,none⟩=some (.int .i64 t.g)∧w'.cell? ⟨L.bq,t.g,none⟩=some (.slice (some ⟨L.rq t.g,0,none⟩) s.C cr')∧w'.cell? ⟨b,2,none⟩=some (.int .i64 t.cpu)∧w'.cell? ⟨L.rq t.g,t.cpu,none⟩=some (.pointer (some ⟨L.qp t.g t.cpu,0,none⟩))∧w'.cell? ⟨bx,2,none⟩=some (.int .i64 id)∧w'.cell? ⟨bx,4,none⟩=some (.int .i64 k)) ⟨Kept.refl _ _,x6,ta0,r6,ta2,p6,b2',b4'⟩ (fun h=>heldK_7 (kept_dr _ _) h) (fun hS0 hHeld=>?_)
    refine takeA 0 ?_
    refine takeA 1 ?_
    refine takeA 2 ?_
    refine takeA 3 ?_
    refine takeA 4 ?_
    refine takeA 5 ?_
    refine takeA 6 ?_
    refine takeA 7 ?_
    refine takeA 8 ?_
    refine takeA 9 ?_
    refine takeA 10 ?_
    refine takeA 11 ?_
    refine takeA 12 ?_
    refine takeA 13 ?_
    refine takeA 14 ?_
    refine takeA 15 ?_
    refine takeA 16 ?_
    refine takeA 17 ?_
    refine takeA 18 ?_
    refine takeA 19 ?_
    refine takeA 20 ?_
    refine takeA 21 ?_
    refine takeA 22 ?_
    refine takeA 23 ?_
    refine readyA [24] (consA (fun K hK=>?_) .nil)
    go_simp
    refine A2.out.mono ?_
    rintro e w5 ⟨rfl,F5,h5,s5⟩
    have hk5:Kept Fq W1.drew w5:=s5.kept
    go_wp2_with fail
    refine outA hK kpK_7 (fun hHeld24=>?_)
    clear hK K
    refine doneA ?_
    skip
    have hr5:=(H1.out.below (Below.refl _ _).drew).queue (k:=t.cpu) htg htc (by exact h5) (by rw [← HFQ.out];exact s5)
    have hs5:=SStep.queue (H1.out.below (Below.refl _ _).drew) (k:=t.cpu) htg htc (by rw [← HFQ.out];exact s5)
    obtain ⟨L5,hL5⟩:∃ L5,L5=L.queue t.g t.cpu F5:=⟨_,rfl⟩
    have htp5:L5.tp=L.tp:=by rw [hL5];rfl
    rw [← hL5] at hr5 hs5
    have lx5:=hs5.off (b:=bx) (by have:=lt_of_cell b4';simpa using this) lx0
    have bo5:w5.cell? ⟨bx,4,none⟩=some (.int .i64 k):=hs5.cell lx0 (cell_dr b4')
    have tk5:=hr5.tk id t HT.out
    rw [htp5,← HB.out] at tk5
    have u1:=tk5.c1
    have u2:=tk5.c2
    obtain ⟨c8,x8⟩:∃ c,w5.cell? ⟨x,8,none⟩=some (.slice (some ⟨L5.bo,0,none⟩) s.C c):=hr5.head.c8
    have o8:w5.cell? ⟨L5.bo,t.cpu,none⟩=some (.int .i64 (s.ld t.cpu)):=hr5.ld.c t.cpu htc
    have f8:=hr5.ld.z t.cpu
    have HR5:=Lib.hid hr5
    have HS5:=Lib.hid hs5
    have lb5:L5.lab b=(4,id,0):=by have:=hr5.ltk id t HT.out;rw [htp5,← HB.out] at this;exact this
    have lo5:L5.lab L5.bo=(1,7,0):=hr5.lo
    have lx51:L5.lab x=(1,0,0):=hr5.lx
    clear hr5 hs5 tk5 hL5 h5 s5 hk5 x6 r6 p6 ta0 ta2 b2' b4' A1 A2 mx mw mb mq mr hS0 hHeld hHeld24
    go_wp2_with fail
    go_region
    obtain ⟨W6,hW6⟩:∃ W,W=(w5.setCell ⟨L5.bo,t.cpu,none⟩ (.int .i64 (s.ld t.cpu+(k - t.w)))).drew:=⟨_,rfl⟩
    rw [← hW6]
    have hr6:=(HR5.out.load (k:=t.cpu) htc (s.ld t.cpu+(k - t.w))).below (Below.refl _ _).drew
    have k6:Kept [L5.bo] w5 W6:=by rw [hW6];exact ((Kept.refl _ _).setCell (Or.inl (by simp)) _).drew
    rw [← hW6] at hr6
    have s6:SStep L5 w5 L5 W6:=SStep.of_kept k6 fun c hc=>by simp at hc;subst hc;rw [lo5];simp
    have bo6:W6.cell? ⟨bx,4,none⟩=some (.int .i64 k):=s6.cell lx5 bo5
    have c9:W6.cell? ⟨x,9,none⟩=some (.int .i64 s.wk):=hr6.head.c9
    have f9:=hr6.head.z 9
    have hr7:=hr6.work (s.wk+1)
    have s7:SStep L5 W6 L5 (W6.setCell ⟨x,9,none⟩ (.int .i64 (s.wk+1))):=SStep.of_kept ((Kept.refl [x] W6).setCell (Or.inl (by simp)) _) fun c hc=>by simp at hc;subst hc;rw [lx51];simp
    obtain ⟨W7,hW7⟩:∃ W,W=W6.setCell ⟨x,9,none⟩ (.int .i64 (s.wk+1)):=⟨_,rfl⟩
    rw [← hW7] at hr7 s7
    have bo7:W7.cell? ⟨bx,4,none⟩=some (.int .i64 k):=s7.cell lx5 bo6
    have tk7:TskAt W7 (L5.tp id) t:=hr7.tk id t HT.out
    obtain ⟨hr8,hs8⟩:=hr7.weight HT.out k
    replace hr8:SRaw (W7.setCell ⟨L5.tp id,1,none⟩ (.int .i64 k)) x L5 (rwS s id t k):=hr8
    rw [htp5,← HB.out] at tk7 hr8 hs8
    have fw:=tk7.z 1
    have u1:=tk7.c1
    have R:=Lib.hid (show SLeft w x L (reS s id k) (W7.setCell ⟨b,1,none⟩ (.int .i64 k)) from ⟨L5,by rw [E2.out];exact hr8,((SStep.of (Below.step HB0.out HB1.out)).trans ((SStep.of (Below.refl _ _).drew).trans HS5.out)).trans (s6.trans (s7.trans hs8)),htp5⟩)
    rw [hW7] at bo7 fw u1 R
    clear hr6 hr7 hr8 hs8 s6 s7 k6 hW6 hW7 tk7 x8 o8 f8 u2 bo5 bo6
    go_wp2_with fail
    refine bodyPost_ret (v:=.tuple #[.int .i64 0,.int .i64 0]) (by simp [results,Tryz.results312,go_sem]) rfl ⟨by rw [E1.out],R.out⟩
   | false =>
    have E1:=Lib.hid (show reC s id k=0 by unfold reC;rw [if_pos hw,hT])
    have E2:=Lib.hid (show reS s id k=tskS s id (wgT t k) by unfold reS;rw [if_pos hw,hT];simp [hr])
    rw [hr] at t4
    have ta5:=tk1.c5
    have ta6:=tk1.c6
    have ta7:=tk1.c7
    have TZ:=Lib.hid tk1
    have A2:=Lib.hid fun W=>Weigh_ok t.run.1 t.run.2.1 t.run.2.2 k W htk.run hw
    obtain ⟨y,hy⟩:∃ y:Ent,y=wghX k t.run:=⟨_,rfl⟩
    have A2':=Lib.hid fun W=>(show Calls Tryz.prog 160 #[.agg #[.int .u64 t.run.1,.int .u32 t.run.2.1,.int .u32 t.run.2.2],.int .i64 k] W fun e w'=>e=.returned (.tuple #[.agg #[.int .u64 y.1,.int .u32 y.2.1,.int .u32 y.2.2],.int .i64 0])∧Below W.heap.size W w' from by rw [hy];exact A2.out W)
    have HY:=Lib.hid hy
    obtain ⟨bx,hbx⟩:∃ b,b=w.heap.size:=⟨_,rfl⟩
    rw [← hbx] at b2' b4' lx0
    have HBX:=Lib.hid hbx
    have nbx:bx∉[b]:=by simp;intro q;rw [q,lb] at lx0;simp at lx0
    have lbx:bx<W1.heap.size:=lt_of_cell b4'
    have bo9:=b4'
    clear h ho h0 hb0 B0 hid hlk hT hw z1 hkk hW1 hB1 h1 tk1 hb hr htk hy A2
    unfold encO
    go_enter Tryz.func312,Tryz.ntmps312
    go_upto_region 1 with fail
    rw [← HW0.out]
    go_region
    rw [← HW1.out,← HBX.out]
    clear x5 b2 b4 hlk2 hbx
    go_wp2_with fail
    refine (A1.out _).mono ?_;rintro e w5 ⟨rfl,rfl⟩
    go_wp2_with fail
    refine startA (S:=fun w'=>Kept [b] W1 w'∧w'.cell? ⟨bx,4,none⟩=some (.int .i64 k)) ⟨Kept.refl _ _,b4'⟩ (fun h=>heldK_1 (kept_dr _ _) h) (fun hS0 hHeld=>?_)
    refine takeA 0 ?_
    refine takeA 1 ?_
    refine takeA 2 ?_
    refine takeA 3 ?_
    refine takeA 5 ?_
    refine takeA 6 ?_
    refine takeA 7 ?_
    refine takeA 8 ?_
    refine readyA [4] (consA (fun K hK=>?_) .nil)
    go_simp
    skip
    refine outA hK kpK_1 (fun hHeld4=>?_)
    clear hK K
    refine readyA [9] (consA (fun K hK=>?_) .nil)
    go_simp
    refine (A2'.out _).mono ?_
    rintro e w6 ⟨rfl,hb6⟩
    have hk6:Kept [b] W1.drew w6:=Kept.of hb6
    have e5:=cell_later hb6 (cell_dr ta5)
    have e6:=cell_later hb6 (cell_dr ta6)
    have e7:=cell_later hb6 (cell_dr ta7)
    have fz5:=frz_later hb6 (show W1.drew.frozen? ⟨b,5,none⟩=false from TZ.out.z 5) TZ.out.lt
    have fz6:=frz_later hb6 (show W1.drew.frozen? ⟨b,6,none⟩=false from TZ.out.z 6) TZ.out.lt
    have fz7:=frz_later hb6 (show W1.drew.frozen? ⟨b,7,none⟩=false from TZ.out.z 7) TZ.out.lt
    go_wp2_with fail
    refine outA hK kpK_1 (fun hHeld9=>?_)
    clear hK K
    refine takeA 10 ?_
    refine takeA 11 ?_
    refine takeA 12 ?_
    refine takeA 13 ?_
    refine takeA 14 ?_
    refine readyA [15] (consA (fun K hK=>?_) .nil)
    go_simp
    have hk15:=set3_kept w6 b 5 y
    unfold set3 at hk15
    refine outA hK kpK_1 (fun hHeld15=>?_)
    clear hK K
    refine doneA ?_
    skip
    refine q_world (fun W7 hW7=>?_)
    have r6:=wake_set (y:=y) ((H1.out.below (Below.refl _ _).drew).below hb6) HT.out
    rw [← HB.out] at r6
    have k7:Kept [b] W1 (set3 w6 b 5 y):=((Kept.of (Below.step (Below.refl _ _).drew hb6)).trans (set3_kept w6 b 5 y))
    unfold set3 at r6 k7
    have r7:SRaw W7 x L (tskS s id { t with run:=y }):=by rw [hW7];exact r6.1
    replace k7:Kept [b] W1 W7:=by rw [hW7];exact k7
    have q7:SStep L w L W7:=(SStep.of (Below.step HB0.out HB1.out)).trans (SStep.of_kept k7 fun c hc=>by simp at hc;subst hc;rw [lb];simp)
    have bo7:W7.cell? ⟨bx,4,none⟩=some (.int .i64 k):=k7.cellAt bo9 nbx
    have e7:(tskS s id { t with run:=y }).T id=some { t with run:=y }:=setF_same _ _ _
    have tk7:=r7.tk id _ e7
    obtain ⟨hr8,hs8⟩:=r7.weight e7 k
    have e8:tskS (tskS s id { t with run:=y }) id { ({ t with run:=y }:Tsk) with w:=k }=tskS s id (wgT t k):=by
     unfold tskS wgT
     rw [← HY.out]
     simp only [setF_setF]
    rw [e8] at hr8
    rw [← HB.out] at tk7 hr8 hs8
    have fw:=tk7.z 1
    have u1:=tk7.c1
    have R:=Lib.hid (show SLeft w x L (reS s id k) (W7.setCell ⟨b,1,none⟩ (.int .i64 k)) from ⟨L,by rw [E2.out];exact hr8,q7.trans hs8,rfl⟩)
    clear hr8 hs8 k7 hW7 tk7 q7 r7 e7 e8 r6 e5 e6 hb6 hS0 hHeld bo9 b4' b2' ta5 ta6 ta7 A2' fz5 fz6 fz7
    go_wp2_with fail
    refine bodyPost_ret (v:=.tuple #[.int .i64 0,.int .i64 0]) (by simp [results,Tryz.results312,go_sem]) rfl ⟨by rw [E1.out],R.out⟩
  ·have E1:=Lib.hid (show reC s id k=2 by unfold reC;rw [if_neg hw])
   have E2:=Lib.hid (show reS s id k=s by unfold reS;rw [if_neg hw])
   have z1:decide (wgOk k)=false:=decide_eq_false hw
   rw [z1] at A1
   clear h ho h0 hb0 B0 hid hlk hT hw z1 hkk hW1 hB1 h1
   unfold encO
   go_enter Tryz.func312,Tryz.ntmps312
   go_upto_region 1 with fail
   rw [← HW0.out]
   go_region
   rw [← HW1.out]
   go_wp2_with fail
   refine (A1.out _).mono ?_;rintro e w5 ⟨rfl,rfl⟩
   go_wp2_with fail
   refine bodyPost_ret (v:=.tuple #[.int .i64 0,.int .i64 2]) (by simp [results,Tryz.results312,go_sem]) rfl ⟨by rw [E1.out],?_⟩
   rw [E2.out]
   exact SLeft.same HS.out (Below.step HB0.out HB1.out)
end Go.Proofs.YtapnaocdehahdaaGreat
