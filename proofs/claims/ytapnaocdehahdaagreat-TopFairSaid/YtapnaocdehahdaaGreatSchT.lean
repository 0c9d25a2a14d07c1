/-
  Layer 31 (sched): tick.
-/
import Derived.Test.YtapnaocdehahdaaGreatSchB
namespace Go.Proofs.YtapnaocdehahdaaGreat
open Go.RowKit Go.Maps Go.IntWalk Go.Lib
set_option linter.unusedVariables false
set_option linter.unusedSimpArgs false
def tickC (s:SSt) (k:Nat) (tk:Int):Int:=if 1≤tk∧tk≤4294967295 then (if s.cl k > 281474976710656 - tk then 4 else 0) else 2
def tickG (s:SSt) (k:Nat) (tk:Int):Int:=if tickC s k tk=0 then s.cu k else 0
def tickS (s:SSt) (k:Nat) (tk:Int):SSt:=if tickC s k tk=0 then
  (match s.T (s.cu k) with
  | some t=>tkS { s with cl:=upd s.cl k (s.cl k+tk) } k tk (s.cu k) t.g
  | none=>{ s with cl:=upd s.cl k (s.cl k+tk) })
 else s
def stT (s:SSt) (k:Nat) (q:TSt) (j:Nat):SSt:={ s with Q:=upd s.Q k q,wk:=s.wk+(j:Nat) }
theorem qSet_stT (s:SSt) (k:Nat) (q:TSt) (j g:Nat) (M:Mems) (fl:Int):qSet (stT s k q j) k g M fl=stT s k { q with M:=upd q.M g M,fl:=upd q.fl g fl } j:=by
 unfold qSet stT
 simp only [upd_same,upd_upd]
theorem stT_work (s:SSt) (k:Nat) (q:TSt) (j:Nat):{ stT s k q j with wk:=s.wk+(j:Int)+1 }=stT s k q (j+1):=by
 unfold stT
 simp only [Int.natCast_add,Int.natCast_one,Int.add_assoc]
def chGo (tk:Int) (P:Nat→Nat) (q:TSt) (g:Nat) (m:Int):TSt:=chgUp tk P (chgQ tk q g m) (pathT P g)
theorem chGo_zero (tk:Int) (P:Nat→Nat) (q:TSt) (m:Int):chGo tk P q 0 m=chgQ tk q 0 m:=by unfold chGo;rw [pathT_zero];rfl
theorem chGo_step {tk:Int} {P:Nat→Nat} {q:TSt} {g:Nat} {m:Int} (h0:0<g) (hp:P g<g):chGo tk P q g m=chGo tk P (chgQ tk q g m) (P g) (65536+(g:Int)):=by
 unfold chGo
 rw [pathT_pos h0 hp]
 rfl
set_option maxRecDepth 100000 in
set_option maxHeartbeats 4000000 in
theorem dTick_at {w:World} {x:Nat} {L:SLay} {s:SSt} {k:Nat} {o:OpV} (h:SRaw w x L s) (ho:SOk s) (hk:o.cpu=(k:Int)) (hkC:k<s.C) (hwf:o.Wf) (hwk:0≤s.wk∧s.wk≤1000000) :
  Calls Tryz.prog 307 #[encO o,.pointer (some ⟨x,0,none⟩)] w (SDo w x L (tickG s k o.ticks) (tickC s k o.ticks) (tickS s k o.ticks)):=by
 have HS:=Lib.hid h
 have HO:=Lib.hid ho
 obtain ⟨W0,hW0⟩:∃ W,W=w.alloc (.cells (cellsO o) 202):=⟨_,rfl⟩
 have hb0:Below w.heap.size w W0:=by rw [hW0];exact below_a _ _
 have B0:OpBox W0 w.heap.size o:=by rw [hW0];exact OpBox.new _ _ _
 have h0:=h.below hb0
 have HB0:=Lib.hid hb0
 unfold cellsO at hW0
 have HW0:=Lib.hid hW0
 have HK:=Lib.hid hk
 clear hW0 hk
 have b1:=B0.c1
 rw [HK.out] at b1
 have b6:=B0.c6
 have B1:=Lib.hid B0
 have H0:=Lib.hid h0
 have hkm:(k:Int)<(s.C:Int):=by omega
 have wt:=wf_i64 hwf.ticks
 obtain ⟨tk,htk⟩:∃ tk,tk=o.ticks:=⟨_,rfl⟩
 rw [← htk] at b6 wt ⊢
 have HTK:=Lib.hid htk
 by_cases h1:1≤tk∧tk≤4294967295
 ·have z1:decide (tk<1)=false:=decide_eq_false (by omega)
  have z2:decide (tk > 4294967295)=false:=decide_eq_false (by omega)
  have z3:decide (4294967295<tk)=false:=z2
  have hcl:=ho.cl k hkC
  have hw1:IntKind.i64.wrap (281474976710656 - tk)=281474976710656 - tk:=IntWalk.i64_in _ (by omega)
  have hw1':wrap64 (281474976710656 - tk)=281474976710656 - tk:=IntWalk.wrap64_in _ (by omega)
  obtain ⟨c3,x3⟩:∃ c,W0.cell? ⟨x,3,none⟩=some (.slice (some ⟨L.bl,0,none⟩) s.C c):=h0.head.c3
  have u3:=h0.cl.c k hkC
  have f3:=h0.cl.z k
  by_cases h2:s.cl k > 281474976710656 - tk
  ·have E1:=Lib.hid (show tickC s k tk=4 by unfold tickC;rw [if_pos h1,if_pos h2])
   have E2:=Lib.hid (show tickG s k tk=0 by unfold tickG;rw [E1.out];rfl)
   have E3:=Lib.hid (show tickS s k tk=s by unfold tickS;rw [E1.out];rfl)
   have z4:decide (s.cl k > 281474976710656 - tk)=true:=decide_eq_true h2
   have z5:decide (281474976710656 - tk<s.cl k)=true:=decide_eq_true h2
   clear h ho h0 hb0 B0 h1 h2 htk hcl wt
   unfold encO
   go_enter Tryz.func307,Tryz.ntmps307
   go_upto_region 1 with fail
   rw [← HW0.out]
   go_wp2_with fail
   go_region
   go_wp2_with fail
   refine bodyPost_ret (v:=.tuple #[.int .i64 0,.int .i64 4]) (by simp [results,Tryz.results307,go_sem]) rfl ⟨by rw [E1.out,E2.out],?_⟩
   rw [E3.out]
   exact SLeft.same HS.out (HB0.out.drew)
  ·have z4:decide (s.cl k > 281474976710656 - tk)=false:=decide_eq_false h2
   have z5:decide (281474976710656 - tk<s.cl k)=false:=decide_eq_false h2
   have E1:=Lib.hid (show tickC s k tk=0 by unfold tickC;rw [if_pos h1,if_neg h2])
   have E2:=Lib.hid (show tickG s k tk=s.cu k by unfold tickG;rw [E1.out];rfl)
   have hw2:IntKind.i64.wrap (s.cl k+tk)=s.cl k+tk:=IntWalk.i64_in _ (by omega)
   have hw2':wrap64 (s.cl k+tk)=s.cl k+tk:=IntWalk.wrap64_in _ (by omega)
   have HTO:=Lib.hid (show tkOk tk from ⟨by omega,h1.2⟩)
   clear h h0 hb0 B0 h1 h2 htk hcl wt
   unfold encO
   go_enter Tryz.func307,Tryz.ntmps307
   go_upto_region 1 with fail
   rw [← HW0.out]
   go_wp2_with fail
   go_region
   go_wp2_with fail
   go_region
   obtain ⟨W1,hW1⟩:∃ W,W=(W0.setCell ⟨L.bl,k,none⟩ (.int .i64 (s.cl k+tk))).drew.drew:=⟨_,rfl⟩
   rw [← hW1]
   have k1:Kept [L.bl] W0 W1:=by rw [hW1];exact (((Kept.refl _ _).setCell (Or.inl (by simp)) _).drew).drew
   obtain ⟨s1,hs1⟩:∃ s1,s1=({ s with cl:=upd s.cl k (s.cl k+tk) }:SSt):=⟨_,rfl⟩
   have h1:SRaw W1 x L s1:=by
    rw [hW1,hs1]
    exact ((H0.out.clock hkC (s.cl k+tk)).below (Below.refl _ _).drew).below (Below.refl _ _).drew
   have ho1:SOk s1:=by rw [hs1];exact HO.out.clock (by have:=HO.out.cl k hkC;have:=E1.out;unfold tickC at this;have:=HTO.out;unfold tkOk at this;split at*<;> first | omega | (split at*<;> omega))
   have q1:SStep L w L W1:=(SStep.of HB0.out).trans (SStep.of_kept k1 fun b hb=>by simp at hb;subst hb;rw [H0.out.ll];simp)
   have hx0:L.lab w.heap.size=(0,0,0):=HS.out.none_at (Nat.le_refl _)
   have B2:=B1.out.step (SStep.of_kept (L:=L) k1 fun b hb=>by simp at hb;subst hb;rw [H0.out.ll];simp) hx0
   have b1':=B2.c1
   rw [HK.out] at b1'
   have e1:s1.C=s.C∧s1.cu=s.cu∧s1.n=s.n∧s1.T=s.T∧s1.Gs=s.Gs∧s1.wk=s.wk∧s1.Q=s.Q:=by rw [hs1];exact ⟨rfl,rfl,rfl,rfl,rfl,rfl,rfl⟩
   obtain ⟨c4,x4⟩:∃ c,W1.cell? ⟨x,4,none⟩=some (.slice (some ⟨L.bu,0,none⟩) s.C c):=by rw [← e1.1];exact h1.head.c4
   have u4:W1.cell? ⟨L.bu,k,none⟩=some (.int .i64 (s.cu k)):=by rw [← e1.2.1];exact h1.cu.c k (by rw [e1.1];exact hkC)
   have HS1:=Lib.hid hs1
   have H1:=Lib.hid h1
   have HO1:=Lib.hid ho1
   have Q1:=Lib.hid q1
   have HB2:=Lib.hid B2
   have HE1:=Lib.hid e1
   by_cases c0:s.cu k=0
   ·have E3:=Lib.hid (show tickS s k tk=s1 by unfold tickS;rw [if_pos E1.out,c0,ho.zero];exact hs1.symm)
    have z6:(s.cu k == 0)=true:=by simp [c0]
    have z7:=c0
    clear hW1 k1 hs1 h1 ho1 q1 B2 e1 ho x3 u3 f3 b1 b6 c0
    go_wp2_with fail
    go_region
    go_wp2_with fail
    refine bodyPost_ret (v:=.tuple #[.int .i64 0,.int .i64 0]) (by simp [results,Tryz.results307,go_sem]) rfl ⟨by rw [E1.out,E2.out,z7],?_⟩
    rw [E3.out]
    exact ⟨L,H1.out.below (Below.refl _ _).drew,Q1.out.trans (SStep.of (Below.refl _ _).drew),rfl⟩
   ·obtain ⟨t,hT,hr,hc⟩:=HO.out.who hkC c0
    have E3:=Lib.hid (show tickS s k tk=tkS s1 k tk (s.cu k) t.g by unfold tickS;rw [if_pos E1.out,hT,hs1])
    have z6:(s.cu k == 0)=false:=by simpa using c0
    have hid:=wfTask HO.out hT
    have hit:=(HO.out.task _ t hT).1
    have htg:=(HO.out.task _ t hT).2.g
    have hlk:=(h1.below (Below.refl _ _).drew).look hid
    rw [show s1.T (s.cu k)=some t by rw [e1.2.2.2.1];exact hT] at hlk
    have hlk2:(Instr.lookup 96 (.map (some L.bm)) (.int .i64 (s.cu k)) false).run Tryz.prog W1.drew=.ok (.pointer (some ⟨L.tp (s.cu k),0,none⟩)) W1.drew:=hlk
    have x5:W1.cell? ⟨x,5,none⟩=some (.map (some L.bm)):=h1.head.c5
    have tk0:=(h1.tk (s.cu k) t (by rw [e1.2.2.2.1];exact hT)).c0
    have HT:=Lib.hid hT
    have HIT:=Lib.hid hit
    obtain ⟨i,hi⟩:∃ i,i=s.cu k:=⟨_,rfl⟩
    rw [← hi] at u4 z6 hlk2 tk0 E2 E3 HT HIT
    clear hW1 k1 hs1 h1 ho1 q1 B2 ho x3 u3 f3 b1 b6 c0 hT hr hc hid hit hlk hi
    go_wp2_with fail
    go_region
    go_wp2_with fail
    obtain ⟨W2,hW2⟩:∃ W,W=W1.drew:=⟨_,rfl⟩
    rw [← hW2]
    have hB2:Below W1.heap.size W1 W2:=by rw [hW2];exact (Below.refl _ _).drew
    have es:stT s1 k (s.Q k) 0=s1:=by
     unfold stT
     have:=HE1.out.2.2.2.2.2.2
     rw [← this,upd_id]
     simp
    have h2:SRaw W2 x L (stT s1 k (s.Q k) 0):=by rw [es];exact H1.out.below hB2
    have q2:=Q1.out.trans (SStep.of (L:=L) hB2)
    have B3:=HB2.out.later hB2
    obtain ⟨FIN,hFIN⟩:∃ F,F=chGo tk (parG s.Gs) (s.Q k) t.g i:=⟨_,rfl⟩
    obtain ⟨N,hN⟩:∃ N,N=1+(pathT (parG s.Gs) t.g).length:=⟨_,rfl⟩
    have HF:=Lib.hid hFIN
    have HN:=Lib.hid hN
    have HB3:=Lib.hid B3
    have HQ2:=Lib.hid q2
    have hx2:L.lab w.heap.size=(0,0,0):=hx0
    have HX:=Lib.hid hx0
    have htgn:=htg
    have hiB:=HIT.out
    clear hW2 hB2 es B3 q2 hx0 x4 u4 x5 tk0 hlk2 b1' hFIN hN z6 e1
    go_loopw [7,8] (fun mv gv wr=>∃ (gk:Nat) (m:Int) (q:TSt) (j:Nat) (L':SLay),gk<s.n∧(1≤m∧m<65792)∧mv=.int .i64 m∧gv=.int .i64 gk∧SRaw wr x L' (stT s1 k q j)∧SStep L W2 L' wr∧L'.tp=L.tp∧Hid (chGo tk (parG s.Gs) q gk m=FIN)∧Hid (j+1+(pathT (parG s.Gs) gk).length=N)) (fun _ g _=>(intOf g).toNat)
    case atStart=>exact ⟨t.g,i,s.Q k,0,L,htgn,by omega,rfl,rfl,h2,SStep.refl _ _,rfl,Lib.hid HF.out.symm,Lib.hid (by have:=HN.out;omega)⟩
    case round =>
     obtain ⟨gk,m,q,j,L',hgk,hm,rfl,rfl,hr,hs,htp,hF,hK⟩:=hrel
     have hkC1:k<s1.C:=by rw [HE1.out.1];exact hkC
     have hgk1:gk<s1.n:=by rw [HE1.out.2.2.1];exact hgk
     have hgm:(gk:Int)<(s.n:Int):=by omega
     have hB:=HB3.out.step hs HX.out
     have b1:=hB.c1
     rw [HK.out] at b1
     have b6:=hB.c6
     rw [← HTK.out] at b6
     obtain ⟨c6,x6⟩:∃ c,wr.cell? ⟨x,6,none⟩=some (.slice (some ⟨L'.bq,0,none⟩) s.n c):=by rw [← HE1.out.2.2.1];exact hr.head.c6
     obtain ⟨cr',r6⟩:∃ c,wr.cell? ⟨L'.bq,gk,none⟩=some (.slice (some ⟨L'.rq gk,0,none⟩) s.C c):=by rw [← HE1.out.1];exact hr.rq.c gk hgk1
     have p6:wr.cell? ⟨L'.rq gk,k,none⟩=some (.pointer (some ⟨L'.qp gk k,0,none⟩)):=(hr.qc gk hgk1).c k hkC1
     have hq:QIn wr (L'.qp gk k) (L'.Fq gk k) qN (q.M gk) (q.fl gk):=by
      have:QIn wr (L'.qp gk k) (L'.Fq gk k) qN ((upd s1.Q k q k).M gk) ((upd s1.Q k q k).fl gk):=hr.q gk k hgk1 hkC1
      rw [upd_same] at this
      exact this
     have nF:∀ c p,L'.lab c=p→p≠(5,(gk:Int),k)→c∉L'.Fq gk k:=fun c p hc hn m=>hn (by rw [← hc];exact hr.lF gk k hgk1 hkC1 c m)
     have hlb:L'.lab w.heap.size=(0,0,0):=hs.off HB3.out.lt HX.out
     obtain ⟨Fq,hFq⟩:∃ F,F=L'.Fq gk k:=⟨_,rfl⟩
     rw [← hFq] at nF
     have HFQ:=Lib.hid hFq
     have mx:x∉Fq:=nF x _ hr.lx (by simp)
     have mb:w.heap.size∉Fq:=nF _ _ hlb (by simp)
     have mq:L'.bq∉Fq:=nF _ _ hr.lq (by simp)
     have mr:L'.rq gk∉Fq:=nF _ _ (hr.lrq gk hgk1) (by simp)
     have A1:=Lib.hid (Charge_at m tk wr.drew (hq.below (Below.refl _ _).drew) (wfI (by omega) (by omega)))
     rw [← hFq] at A1
     have HR:=Lib.hid hr
     have HSt:=Lib.hid hs
     have HTP:=Lib.hid htp
     have HGK:=Lib.hid (And.intro hgk hgk1)
     obtain ⟨wo,hwo⟩:∃ wo,wo=wr:=⟨_,rfl⟩
     subst hwo
     obtain ⟨bx,hbx⟩:∃ b,b=w.heap.size:=⟨_,rfl⟩
     rw [← hbx] at b1 b6 mb ⊢
     have hmw:=hm
     clear hr hs htp hq nF hFq hB hlb hbx hgk1
     go_wp2_with fail
     refine startA (S:=fun w'=>Kept Fq wo w'∧w'.cell? ⟨x,6,none⟩=some (.slice (some ⟨L'.bq,0,none⟩) s.n c6)∧w'.cell? ⟨L'.bq,gk,none⟩=some (.slice (some ⟨L'.rq gk,0,none⟩) s.C cr')∧w'.cell? ⟨L'.rq gk,k,none⟩=some (.pointer (some ⟨L'.qp gk k,0,none⟩))∧w'.cell? ⟨bx,1,none⟩=some (.int .i64 k)∧w'.cell? ⟨bx,6,none⟩=some (.int .i64 tk)) ⟨Kept.refl _ _,x6,r6,p6,b1,b6⟩ (fun h=>heldK_5 (kept_dr _ _) h) (fun hS0 hHeld=>?_)
     refine takeA 0 ?_
     refine takeA 1 ?_
     refine takeA 2 ?_
     refine takeA 3 ?_
     refine takeA 4 ?_
     refine takeA 5 ?_
     refine takeA 6 ?_
     refine takeA 7 ?_
     refine takeA 8 ?_
     refine takeA 9 ?_
     refine takeA 10 ?_
     refine takeA 11 ?_
     refine takeA 12 ?_
     refine takeA 13 ?_
     refine takeA 14 ?_
     refine takeA 15 ?_
     refine takeA 16 ?_
     refine takeA 17 ?_
     refine readyA [18] (consA (fun K hK=>?_) .nil)
     go_simp
     refine A1.out.mono ?_
     rintro e w5 ⟨rfl,F5,h5,s5⟩
     have hk5:Kept Fq wo.drew w5:=s5.kept
     go_wp2_with fail
     refine outA hK kpK_5 (fun hHeld18=>?_)
     clear hK K
     refine doneA ?_
     skip
     have hr5:=(HR.out.below (Below.refl _ _).drew).queue (k:=k) HGK.out.2 hkC1 (by exact h5) (by rw [← HFQ.out];exact s5)
     rw [qSet_stT] at hr5
     have hs5:=SStep.queue (HR.out.below (Below.refl _ _).drew) (k:=k) HGK.out.2 hkC1 (by rw [← HFQ.out];exact s5)
     obtain ⟨q5,hq5⟩:∃ q5,q5=chgQ tk q gk m:=⟨_,rfl⟩
     obtain ⟨L5,hL5⟩:∃ L5,L5=L'.queue gk k F5:=⟨_,rfl⟩
     replace hr5:SRaw w5 x L5 (stT s1 k q5 j):=by rw [hq5,hL5];exact hr5
     have hs5':SStep L W2 L5 w5:=by rw [hL5];exact HSt.out.trans ((SStep.of (Below.refl _ _).drew).trans hs5)
     have htp5:L5.tp=L.tp:=by rw [hL5];exact HTP.out
     have c9:w5.cell? ⟨x,9,none⟩=some (.int .i64 (s1.wk+(j:Int))):=hr5.head.c9
     have f9:=hr5.head.z 9
     have hjN:(j:Int)≤257:=by
      have h1:=pathT_len (P:=parG s.Gs) t.g
      have h2:=HO.out.right.le
      have h3:t.g<s.Gs.length:=htgn
      have:=HN.out
      have:=hK.out
      omega
     have hwk1:s1.wk=s.wk:=HE1.out.2.2.2.2.2.1
     have hgn:(gk:Int)<256:=by have:=HO.out.right.le;have:=HGK.out.1;unfold SSt.n at this;omega
     have HMB:=Lib.hid (show 1≤65536+(gk:Int)∧65536+(gk:Int)<65792 by omega)
     have hwm:IntKind.i64.wrap (65536+(gk:Int))=65536+(gk:Int):=IntWalk.i64_in _ (by omega)
     have hwm':wrap64 (65536+(gk:Int))=65536+(gk:Int):=IntWalk.wrap64_in _ (by omega)
     clear z1 z2 z3 z4 z5 hw1 hw1' hw2 hw2'
     have hw9:IntKind.i64.wrap (s1.wk+(j:Int)+1)=s1.wk+(j:Int)+1:=IntWalk.i64_in _ (by omega)
     have hw9':wrap64 (s1.wk+(j:Int)+1)=s1.wk+(j:Int)+1:=IntWalk.wrap64_in _ (by omega)
     have hr6:=hr5.work (s1.wk+(j:Int)+1)
     rw [stT_work] at hr6
     have hs6:=hs5'.trans (SStep.of_kept (L:=L5) ((Kept.refl [x] w5).setCell (p:=⟨x,9,none⟩) (Or.inl (by simp)) (.int .i64 (s1.wk+(j:Int)+1))) (fun c hc=>by simp at hc;subst hc;rw [hr5.lx];simp))
     have HR6:=Lib.hid hr6
     have HS6:=Lib.hid hs6
     have HTP6:=Lib.hid htp5
     have HQ5:=Lib.hid hq5
     clear hr5 hs5 hs5' htp5 hq5 hL5 hr6 hs6 h5 s5 hk5 hjN hwk1 x6 r6 p6 b1 b6 hS0 hHeld hHeld18 A1 mx mb mq mr hx2 hiB htgn
     by_cases g0:gk=0
     ·have z0:((gk:Int) == 0)=true:=by simp [g0]
      have e5:FIN=q5∧N=j+1:=by
       have a:=hF.out
       have b:=hK.out
       rw [g0] at a b
       rw [chGo_zero] at a
       rw [pathT_zero] at b
       rw [HQ5.out,g0]
       exact ⟨a.symm,by simpa using b.symm⟩
      have HE5:=Lib.hid e5
      clear g0 e5
      go_wp2_with fail
      refine bodyPost_ret (v:=.tuple #[.int .i64 i,.int .i64 0]) (by simp [results,Tryz.results307,go_sem]) rfl ⟨by rw [E1.out,E2.out],?_⟩
      rw [E3.out]
      refine ⟨L5,?_,HQ2.out.trans HS6.out,HTP6.out⟩
      have e:tkS s1 k tk i t.g=stT s1 k q5 (j+1):=by
       unfold tkS stT
       rw [← HE5.out.1,HF.out,← HE5.out.2,HN.out,HE1.out.2.2.2.2.1,HE1.out.2.2.2.2.2.2]
       unfold chTo chGo
       rw [HO.out.gs k hkC]
      rw [e]
      exact HR6.out
     ·have hpl:parG s.Gs gk<gk:=(HO.out.right.par HGK.out.1).2.1 (Nat.pos_of_ne_zero g0)
      have st:=chGo_step (tk:=tk) (P:=parG s.Gs) (q:=q) (g:=gk) (m:=m) (Nat.pos_of_ne_zero g0) hpl
      have sl:(pathT (parG s.Gs) gk).length=1+(pathT (parG s.Gs) (parG s.Gs gk)).length:=by rw [pathT_pos (Nat.pos_of_ne_zero g0) hpl,List.length_cons,Nat.add_comm]
      have z0:((gk:Int) == 0)=false:=by simp;exact g0
      have ST:=Lib.hid (And.intro st sl)
      have HPL:=Lib.hid (And.intro hpl (Nat.pos_of_ne_zero g0))
      clear g0 hpl st sl
      go_wp2_with fail
      have A6:=Lib.hid (show Calls Tryz.prog 112 #[.pointer (some ⟨x,0,none⟩),.int .i64 gk] (w5.setCell ⟨x,9,none⟩ (.int .i64 (s1.wk+(j:Int)+1))) fun e w'=>e=.returned (.int .i64 (parG s.Gs gk:Nat))∧(w5.setCell ⟨x,9,none⟩ (.int .i64 (s1.wk+(j:Int)+1)))=w' from by rw [← HE1.out.2.2.2.2.1];exact xparent_at HR6.out HO1.out.right (g:=gk) HGK.out.2)
      refine A6.out.mono ?_;rintro e w11 ⟨rfl,rfl⟩
      go_wp2_with fail
      go_roundw
      case rel=>exact ⟨parG s.Gs gk,65536+(gk:Int),q5,j+1,L5,Nat.lt_trans HPL.out.1 HGK.out.1,HMB.out,rfl,rfl,HR6.out,HS6.out,HTP6.out,Lib.hid (by rw [HQ5.out];exact ST.out.1.symm.trans hF.out),Lib.hid (by rw [← hK.out,ST.out.2];simp only [Nat.add_assoc])⟩
      case measure=>simp [intOf];exact HPL.out.1
 ·have E1:=Lib.hid (show tickC s k tk=2 by unfold tickC;rw [if_neg h1])
  have E2:=Lib.hid (show tickG s k tk=0 by unfold tickG;rw [E1.out];rfl)
  have E3:=Lib.hid (show tickS s k tk=s by unfold tickS;rw [E1.out];rfl)
  by_cases h2:tk<1
  ·have z1:decide (tk<1)=true:=decide_eq_true h2
   clear h ho h0 hb0 B0 h1 h2 htk
   unfold encO
   go_enter Tryz.func307,Tryz.ntmps307
   go_upto_region 1 with fail
   rw [← HW0.out]
   go_wp2_with fail
   refine bodyPost_ret (v:=.tuple #[.int .i64 0,.int .i64 2]) (by simp [results,Tryz.results307,go_sem]) rfl ⟨by rw [E1.out,E2.out],?_⟩
   rw [E3.out]
   exact SLeft.same HS.out HB0.out
  ·have z1:decide (tk<1)=false:=decide_eq_false h2
   have z2:decide (tk > 4294967295)=true:=decide_eq_true (by omega)
   have z3:decide (4294967295<tk)=true:=z2
   clear h ho h0 hb0 B0 h1 h2 htk
   unfold encO
   go_enter Tryz.func307,Tryz.ntmps307
   go_upto_region 1 with fail
   rw [← HW0.out]
   go_wp2_with fail
   refine bodyPost_ret (v:=.tuple #[.int .i64 0,.int .i64 2]) (by simp [results,Tryz.results307,go_sem]) rfl ⟨by rw [E1.out,E2.out],?_⟩
   rw [E3.out]
   exact SLeft.same HS.out HB0.out
end Go.Proofs.YtapnaocdehahdaaGreat
