/-
  Layer 31 (sched): pick, stop, block, exit.
-/
import Derived.Test.YtapnaocdehahdaaGreatSchF
import Derived.Test.YtapnaocdehahdaaGreatSchK
import Derived.Test.YtapnaocdehahdaaGreatSchL
namespace Go.Proofs.YtapnaocdehahdaaGreat
open Go.RowKit Go.Maps Go.IntWalk Go.Lib
set_option linter.unusedVariables false
set_option linter.unusedSimpArgs false
theorem SOk.zero {s:SSt} (h:SOk s):s.T 0=none:=by
 cases e:s.T 0 with
 | none=>rfl
 | some t=>have:=(h.task 0 t e).1;omega
theorem SOk.who {s:SSt} (h:SOk s) {k:Nat} (hk:k<s.C) (h0:s.cu k≠0):∃ t,s.T (s.cu k)=some t∧t.rdy=true∧t.cpu=k:=(h.cu k hk).resolve_left h0
theorem SRaw.look {w:World} {x:Nat} {L:SLay} {s:SSt} (h:SRaw w x L s) {id:Int} (hid:(Lit.int .i64 id).wf=true) :
  (Instr.lookup 96 (.map (some L.bm)) (.int .i64 id) false).run Tryz.prog w=.ok (encP ((s.T id).map fun _=>L.tp id)) w:=by
 have:=(h.map.look elemP undP (z0:=none) trivial zeroP hid).2
 rw [this]
 cases s.T id <;> rfl
def stopS (s:SSt) (k:Nat):SSt:=match s.T (s.cu k) with
 | some t=>lvS { s with cu:=upd s.cu k 0 } (s.cu k) t
 | none=>s
def stopC (s:SSt) (k:Nat):Int:=if s.cu k=0 then 6 else 0
set_option maxRecDepth 100000 in
theorem sstop_at {w:World} {x:Nat} {L:SLay} {s:SSt} {k:Nat} (h:SRaw w x L s) (ho:SOk s) (hk:k<s.C) (hwk:0≤s.wk∧s.wk≤1000000) :
  Calls Tryz.prog 302 #[.pointer (some ⟨x,0,none⟩),.int .i64 k] w (SDo w x L (s.cu k) (stopC s k) (stopS s k)):=by
 have hkm:(k:Int)<(s.C:Int):=by omega
 obtain ⟨c4,x4⟩:=h.head.c4
 have u4:=h.cu.c k hk
 have f4:=h.cu.z k
 by_cases h0:s.cu k=0
 ·have E1:=Lib.hid (show stopS s k=s by unfold stopS;rw [h0,ho.zero])
  have E2:=Lib.hid (show stopC s k=6 by unfold stopC;rw [if_pos h0])
  have HS:=Lib.hid h
  rw [h0] at u4 ⊢
  clear h ho h0 f4
  go_enter Tryz.func302,Tryz.ntmps302
  go_wp2_with fail
  refine bodyPost_ret (v:=.tuple #[.int .i64 0,.int .i64 6]) (by simp [results,Tryz.results302,go_sem]) rfl ⟨by rw [E2.out],?_⟩
  rw [E1.out]
  exact SLeft.same HS.out (Below.refl _ _)
 ·obtain ⟨t,hT,hr,hc⟩:=ho.who hk h0
  have E1:=Lib.hid (show stopS s k=lvS { s with cu:=upd s.cu k 0 } (s.cu k) t by unfold stopS;rw [hT])
  have E2:=Lib.hid (show stopC s k=0 by unfold stopC;rw [if_neg h0])
  have z1:(s.cu k == 0)=false:=by simpa using h0
  have hid:=wfTask ho hT
  obtain ⟨W1,hW1⟩:∃ W,W=w.setCell ⟨L.bu,k,none⟩ (.int .i64 0):=⟨_,rfl⟩
  have h1:=h.now hk 0
  rw [← hW1] at h1
  have ho1:SOk { s with cu:=upd s.cu k 0 }:=ho.now (Or.inl rfl)
  have x5:W1.cell? ⟨x,5,none⟩=some (.map (some L.bm)):=h1.head.c5
  have hlk:=h1.look hid
  have hT1:({ s with cu:=upd s.cu k 0 }:SSt).T (s.cu k)=some t:=hT
  rw [hT1] at hlk
  have hlk2:(Instr.lookup 96 (.map (some L.bm)) (.int .i64 (s.cu k)) false).run Tryz.prog W1=.ok (.pointer (some ⟨L.tp (s.cu k),0,none⟩)) W1:=hlk
  have A1:=Lib.hid (xleave_at h1 ho1 hT1 hr hwk)
  have HS1:=Lib.hid (show SStep L w L W1 from SStep.of_kept (L:=L) (G:=[L.bu]) (by rw [hW1];exact (Kept.refl _ _).setCell (Or.inl (by simp)) _) (fun c hc=>by simp at hc;subst hc;rw [h.lu];simp))
  have HW1:=Lib.hid hW1
  rw [hW1] at x5 hlk2
  obtain ⟨i,hi⟩:∃ i,i=s.cu k:=⟨_,rfl⟩
  rw [← hi] at u4 z1 hid hlk2 A1 E1 ⊢
  clear h ho h0 hT hr hc h1 ho1 hlk hT1 hW1 hi
  go_enter Tryz.func302,Tryz.ntmps302
  go_wp2_with fail
  rw [← HW1.out]
  refine A1.out.mono ?_;rintro e w5 ⟨rfl,hA5⟩
  go_wp2_with fail
  refine bodyPost_ret (v:=.tuple #[.int .i64 i,.int .i64 0]) (by simp [results,Tryz.results302,go_sem]) rfl ⟨by rw [E2.out],?_⟩
  rw [E1.out]
  exact hA5.from HS1.out rfl
set_option maxRecDepth 100000 in
theorem dBlock_at {w:World} {x:Nat} {L:SLay} {s:SSt} {k:Nat} {o:OpV} (h:SRaw w x L s) (ho:SOk s) (hk:o.cpu=(k:Int)) (hkC:k<s.C) (hwk:0≤s.wk∧s.wk≤1000000) :
  Calls Tryz.prog 301 #[encO o,.pointer (some ⟨x,0,none⟩)] w (SDo w x L (s.cu k) (stopC s k) (stopS s k)):=by
 have HS:=Lib.hid h
 have HO:=Lib.hid ho
 obtain ⟨W0,hW0⟩:∃ W,W=w.alloc (.cells (cellsO o) 200):=⟨_,rfl⟩
 have hb0:Below w.heap.size w W0:=by rw [hW0];exact below_a _ _
 have B0:OpBox W0 w.heap.size o:=by rw [hW0];exact OpBox.new _ _ _
 have h0:=h.below hb0
 have HB0:=Lib.hid hb0
 unfold cellsO at hW0
 have HW0:=Lib.hid hW0
 have HK:=Lib.hid hk
 clear hW0 hk
 have A1:=Lib.hid (sstop_at h0 ho hkC hwk)
 have b1:=B0.c1
 rw [HK.out] at b1
 clear h ho h0 hb0 B0
 unfold encO
 go_enter Tryz.func301,Tryz.ntmps301
 go_upto_region 1 with fail
 rw [← HW0.out]
 go_wp2_with fail
 refine A1.out.mono ?_;rintro e w5 ⟨rfl,hA5⟩
 go_wp2_with fail
 refine bodyPost_ret (v:=.tuple #[.int .i64 (s.cu k),.int .i64 (stopC s k)]) (by simp [results,Tryz.results301,go_sem]) rfl ⟨rfl,hA5.from (SStep.of HB0.out) rfl⟩
def exitS (s:SSt) (k:Nat):SSt:=if s.cu k=0 then s else goneS (stopS s k) (s.cu k)
theorem SRaw.maps {w w':World} {x:Nat} {L:SLay} {s:SSt} {T':Int→Option Tsk} {c':Nat} (h:SRaw w x L s) (hT:∀ j t,T' j=some t→s.T j=some t) (hg:w.grownBy w' (some L.bm)) (hm:MapP w' L.bm (fun j=>(T' j).map fun _=>some (L.tp j)) c'):SRaw w' x L { s with T:=T',c:=c' }∧Kept [L.bm] w w':=by
 have hk:Kept [L.bm] w w':=(Kept.refl _ _).grown hg (fun k q=>by cases q;exact Or.inl (by simp))
 have e:∀ b p,L.lab b=p→p≠(1,4,0)→b∉[L.bm]:=fun b p hp hn m=>by
  simp at m;subst m;exact hn (by rw [← hp];exact h.lm)
 exact ⟨{ h with
  head:=h.head.kept hk (e _ _ h.lx (by simp))
  gr:=h.gr.kept hk (e _ _ h.lg (by simp))
  cl:=h.cl.kept hk (e _ _ h.ll (by simp))
  cu:=h.cu.kept hk (e _ _ h.lu (by simp))
  ld:=h.ld.kept hk (e _ _ h.lo (by simp))
  rq:=h.rq.kept hk (e _ _ h.lq (by simp))
  ra:=h.ra.kept hk (e _ _ h.la (by simp))
  qc:=fun g hg=>(h.qc g hg).kept hk (e _ _ (h.lrq g hg) (by simp))
  ac:=fun g hg=>(h.ac g hg).kept hk (e _ _ (h.lra g hg) (by simp))
  map:=hm
  tk:=fun j t2 hj=>(h.tk j t2 (hT j t2 hj)).kept hk (e _ _ (h.ltk j t2 (hT j t2 hj)) (by simp))
  q:=fun g k hg hc=>(h.q g k hg hc).kept hk fun b hb=>e _ _ (h.lF g k hg hc b hb) (by simp)
  ltk:=fun j t2 hj=>h.ltk j t2 (hT j t2 hj)
  lt:=fun b hb=>Nat.lt_of_lt_of_le (h.lt b hb) hk.size },hk⟩
theorem SRaw.strike {w:World} {x:Nat} {L:SLay} {s:SSt} (h:SRaw w x L s) {id:Int} (hid:(Lit.int .i64 id).wf=true):∃ w',(Builtin.delete_ #[96,3] 0 #[.map (some L.bm),.int .i64 id]).run Tryz.prog w=.ok (.tuple #[]) w' ∧
  SRaw w' x L (if s.T id=none then s else goneS s id)∧SStep L w L w':=by
 obtain ⟨w',hrun,hm,hg⟩:=h.map.del (id:=id) undP hid 0
 refine ⟨w',hrun,?_⟩
 have key:=h.maps (T':=setF s.T id none) (c':=delC (((s.T id).map fun _=>some (L.tp id)).map fun _=>(0:Int)) s.c) (fun j t hj=>by
  by_cases q:j=id
  ·subst q;rw [setF_same] at hj;cases hj
  ·rw [setF_other _ _ q] at hj;exact hj) hg (by
  have e2:(fun j=>(setF s.T id none j).map fun _=>some (L.tp j))=setF (fun j=>(s.T j).map fun _=>some (L.tp j)) id none:=funext fun j=>by
   by_cases q:j=id
   ·subst q;rw [setF_same,setF_same];rfl
   ·rw [setF_other _ _ q,setF_other _ _ q]
  rw [e2];exact hm)
 refine ⟨?_,SStep.of_kept key.2 fun b hb=>by simp at hb;subst hb;rw [h.lm];simp⟩
 cases e:s.T id with
 | none =>
  rw [if_pos rfl]
  have k1:=key.1
  rw [e] at k1
  have e3:setF s.T id none=s.T:=funext fun j=>by
   by_cases q:j=id
   ·subst q;rw [setF_same,e]
   ·rw [setF_other _ _ q]
  rw [e3] at k1
  exact k1
 | some t =>
  rw [if_neg (by simp)]
  have k1:=key.1
  rw [e] at k1
  exact k1
set_option maxRecDepth 100000 in
theorem dExit_at {w:World} {x:Nat} {L:SLay} {s:SSt} {k:Nat} {o:OpV} (h:SRaw w x L s) (ho:SOk s) (hk:o.cpu=(k:Int)) (hkC:k<s.C) (hwk:0≤s.wk∧s.wk≤1000000) :
  Calls Tryz.prog 306 #[encO o,.pointer (some ⟨x,0,none⟩)] w (SDo w x L (s.cu k) (stopC s k) (exitS s k)):=by
 have HS:=Lib.hid h
 have HO:=Lib.hid ho
 obtain ⟨W0,hW0⟩:∃ W,W=w.alloc (.cells (cellsO o) 201):=⟨_,rfl⟩
 have hb0:Below w.heap.size w W0:=by rw [hW0];exact below_a _ _
 have B0:OpBox W0 w.heap.size o:=by rw [hW0];exact OpBox.new _ _ _
 have h0:=h.below hb0
 have HB0:=Lib.hid hb0
 unfold cellsO at hW0
 have HW0:=Lib.hid hW0
 have HK:=Lib.hid hk
 clear hW0 hk
 have A1:=Lib.hid (sstop_at h0 ho hkC hwk)
 have b1:=B0.c1
 rw [HK.out] at b1
 clear h h0 hb0 B0
 unfold encO
 go_enter Tryz.func306,Tryz.ntmps306
 go_upto_region 1 with fail
 rw [← HW0.out]
 go_wp2_with fail
 refine A1.out.mono ?_;rintro e w5 ⟨rfl,hA5⟩
 obtain ⟨L5,h5,s5,t5⟩:=hA5
 have x5:w5.cell? ⟨x,5,none⟩=some (.map (some L5.bm)):=h5.head.c5
 have hid:(Lit.int .i64 (s.cu k)).wf=true:=by
  by_cases c0:s.cu k=0
  ·rw [c0];decide
  ·obtain ⟨t,hT,_⟩:=ho.who hkC c0
   exact wfTask ho hT
 have E:(if (stopS s k).T (s.cu k)=none then stopS s k else goneS (stopS s k) (s.cu k))=exitS s k:=by
  unfold exitS
  by_cases c0:s.cu k=0
  ·have E1:stopS s k=s:=by unfold stopS;rw [c0,ho.zero]
   rw [if_pos c0,E1,c0,if_pos ho.zero]
  ·obtain ⟨t,hT,_⟩:=ho.who hkC c0
   rw [if_neg c0,if_neg]
   have E1:stopS s k=lvS { s with cu:=upd s.cu k 0 } (s.cu k) t:=by unfold stopS;rw [hT]
   rw [E1]
   show setF s.T (s.cu k) _ (s.cu k)≠none
   rw [setF_same];simp
 obtain ⟨w7,hrun,h7,s7⟩:=h5.strike hid
 rw [E] at h7
 have R:=Lib.hid (show SLeft w x L (exitS s k) w7 from ⟨L5,h7,(SStep.of HB0.out).trans (s5.trans s7),t5⟩)
 clear h5 s5 t5 h7 s7 E ho
 generalize s.cu k=i at *
 go_wp2_with fail
 refine bodyPost_ret (v:=.tuple #[.int .i64 i,.int .i64 (stopC s k)]) (by simp [results,Tryz.results306,go_sem]) rfl ⟨rfl,R.out⟩
def pickS (s:SSt) (k:Nat):SSt:={ s with cu:=upd s.cu k (frT (s.Q k)).1,wk:=((frT (s.Q k)).2:Nat) }
set_option maxRecDepth 100000 in
theorem dPick_at {w:World} {x:Nat} {L:SLay} {s:SSt} {k:Nat} {o:OpV} (h:SRaw w x L s) (ho:SOk s) (hk:o.cpu=(k:Int)) (hkC:k<s.C) :
  Calls Tryz.prog 311 #[encO o,.pointer (some ⟨x,0,none⟩)] w (SDo w x L (frT (s.Q k)).1 0 (pickS s k)):=by
 have HS:=Lib.hid h
 have HO:=Lib.hid ho
 obtain ⟨W0,hW0⟩:∃ W,W=w.alloc (.cells (cellsO o) 203):=⟨_,rfl⟩
 have hb0:Below w.heap.size w W0:=by rw [hW0];exact below_a _ _
 have B0:OpBox W0 w.heap.size o:=by rw [hW0];exact OpBox.new _ _ _
 have h0:=h.below hb0
 have HB0:=Lib.hid hb0
 unfold cellsO at hW0
 have HW0:=Lib.hid hW0
 have HK:=Lib.hid hk
 clear hW0 hk
 have A1:=Lib.hid (xfirst_at h0 ho hkC)
 have b1:=B0.c1
 rw [HK.out] at b1
 have B1:=Lib.hid B0
 have H0:=Lib.hid h0
 clear h h0 hb0 B0
 have E:=Lib.hid (show pickS s k={ s with cu:=upd s.cu k (frT (s.Q k)).1,wk:=((frT (s.Q k)).2:Nat) } from rfl)
 unfold encO
 go_enter Tryz.func311,Tryz.ntmps311
 go_upto_region 1 with fail
 rw [← HW0.out]
 go_wp2_with fail
 refine A1.out.mono ?_;rintro e w5 ⟨rfl,hb5⟩
 obtain ⟨r,hr⟩:∃ r,r=frT (s.Q k):=⟨_,rfl⟩
 rw [← hr] at E ⊢
 have HRR:=Lib.hid hr
 have h5:=H0.out.below hb5
 have b5:=(B1.out.later hb5).c1
 rw [HK.out] at b5
 obtain ⟨c4,x4⟩:∃ c,w5.cell? ⟨x,4,none⟩=some (.slice (some ⟨L.bu,0,none⟩) s.C c):=h5.head.c4
 have u4:=h5.cu.c k hkC
 have f4:=h5.cu.z k
 have hkm:(k:Int)<(s.C:Int):=by omega
 have H5:=Lib.hid h5
 have HB5:=Lib.hid (Below.step HB0.out hb5)
 clear A1 b1 hr h5 hb5
 go_wp2_with fail
 go_region
 obtain ⟨w6,hw6⟩:∃ W,W=(w5.setCell ⟨L.bu,k,none⟩ (.int .i64 r.1)).drew:=⟨_,rfl⟩
 rw [← hw6]
 have h6:=(H5.out.now hkC r.1).below (Below.refl _ _).drew
 have s6:SStep L w5 L w6:=SStep.of_kept (G:=[L.bu]) (by rw [hw6];exact ((Kept.refl _ _).setCell (Or.inl (by simp)) _).drew) fun b hb=>by simp at hb;subst hb;rw [H5.out.lu];simp
 rw [← hw6] at h6
 have c9:=h6.head.c9
 have f9:=h6.head.z 9
 have h7:=h6.work ((r.2:Nat):Int)
 have s7:=s6.trans (SStep.of_kept (L:=L) ((Kept.refl [x] w6).setCell (p:=⟨x,9,none⟩) (Or.inl (by simp)) (.int .i64 ((r.2:Nat):Int))) (fun b hb=>by simp at hb;subst hb;rw [h6.lx];simp))
 have R:=Lib.hid (show SLeft w x L (pickS s k) (w6.setCell ⟨x,9,none⟩ (.int .i64 ((r.2:Nat):Int))) from ⟨L,by rw [E.out];exact h7,(SStep.of HB5.out).trans s7,rfl⟩)
 clear h6 s6 h7 s7 hw6 b5 x4 u4 f4
 go_wp2_with fail
 refine bodyPost_ret (v:=.tuple #[.int .i64 r.1,.int .i64 0]) (by simp [results,Tryz.results311,go_sem]) rfl ⟨by rw [HRR.out],R.out⟩
end Go.Proofs.YtapnaocdehahdaaGreat
