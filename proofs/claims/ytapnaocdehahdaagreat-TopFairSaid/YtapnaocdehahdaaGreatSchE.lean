/-
  Layer 31 (sched): the small functions, and enter.
-/
import Derived.Test.YtapnaocdehahdaaGreatSchS
import Derived.Test.YtapnaocdehahdaaGreatPlaceA
import Derived.Test.YtapnaocdehahdaaGreatQuA
import Derived.Test.YtapnaocdehahdaaGreatKtA
import Derived.Test.YtapnaocdehahdaaGreatKtB
namespace Go.Proofs.YtapnaocdehahdaaGreat
open Go.RowKit Go.Maps Go.IntWalk Go.Lib
set_option linter.unusedVariables false
set_option linter.unusedSimpArgs false
section
variable {w:World} {x:Nat} {L:SLay} {s:SSt}
theorem xparent_at (h:SRaw w x L s) (hr:RightG s.Gs) {g:Nat} (hg:g<s.n):Calls Tryz.prog 112 #[.pointer (some ⟨x,0,none⟩),.int .i64 g] w fun e w'=>e=.returned (.int .i64 (parG s.Gs g:Nat))∧w=w':=by
 obtain ⟨c,c2⟩:=h.head.c2
 have g0:=(h.gr.c g hg).1
 rw [← (hr.par hg).1] at g0
 have hgi:(g:Int)<(s.n:Int):=by omega
 clear h
 generalize s.n=n at *
 generalize parG s.Gs g=p at *
 go_enter Tryz.func112,Tryz.ntmps112
 go_wp2_with fail
 go_ret
 exact ⟨rfl,rfl⟩
theorem xsome_at (h:SRaw w x L s) (hc:1≤s.C):Calls Tryz.prog 48 #[.pointer (some ⟨x,0,none⟩)] w fun e w'=>e=.returned (.bool true)∧w=w':=by
 obtain ⟨c,c3⟩:=h.head.c3
 have hp:(0:Int)<(s.C:Int):=by omega
 have z:decide ((0:Int)<(s.C:Int))=true:=decide_eq_true hp
 have z1:decide ((s.C:Int) > 0)=true:=decide_eq_true hp
 clear h
 generalize s.C=n at *
 go_enter Tryz.func48,Tryz.ntmps48
 go_wp2_with fail
 go_ret
 exact ⟨by simp;omega,rfl⟩
theorem xcpu_at (k:Int) (h:SRaw w x L s):Calls Tryz.prog 134 #[.pointer (some ⟨x,0,none⟩),.int .i64 k] w fun e w'=>e=.returned (.bool (hasV (s.C:Int) k))∧w=w':=by
 obtain ⟨c,c3⟩:=h.head.c3
 clear h
 unfold hasV
 generalize s.C=n at *
 by_cases h1:0≤k
 ·have z1:decide (k ≥ 0)=true:=decide_eq_true h1
  have z2:decide (0≤k∧k<(n:Int))=decide (k<(n:Int)):=by simp [h1]
  rw [z2]
  clear z2
  go_enter Tryz.func134,Tryz.ntmps134
  go_wp2_with fail
  go_ret
  exact ⟨rfl,rfl⟩
 ·have z1:decide (k ≥ 0)=false:=decide_eq_false h1
  have z2:decide (0≤k∧k<(n:Int))=false:=by simp [h1]
  rw [z2]
  clear z2
  go_enter Tryz.func134,Tryz.ntmps134
  go_wp2_with fail
  go_ret
  exact ⟨rfl,rfl⟩
end
theorem snamed_at (id:Int) (w:World):Calls Tryz.prog 65 #[.int .i64 id] w fun e w'=>e=.returned (.bool (nameV id))∧w=w':=by
 unfold nameV
 by_cases h1:1≤id
 ·have z1:decide (id ≥ 1)=true:=decide_eq_true h1
  have z2:decide (1≤id∧id≤65535)=decide (id≤65535):=by simp [h1]
  rw [z2]
  clear z2
  go_enter Tryz.func65,Tryz.ntmps65
  go_wp2_with fail
  go_ret
  exact ⟨rfl,rfl⟩
 ·have z1:decide (id ≥ 1)=false:=decide_eq_false h1
  have z2:decide (1≤id∧id≤65535)=false:=by simp [h1]
  rw [z2]
  clear z2
  go_enter Tryz.func65,Tryz.ntmps65
  go_wp2_with fail
  go_ret
  exact ⟨rfl,rfl⟩
theorem sweighs_at (k:Int) (w:World):Calls Tryz.prog 297 #[.int .i64 k] w fun e w'=>e=.returned (.bool (decide (wgOk k)))∧w=w':=by
 unfold wgOk
 by_cases h1:1≤k
 ·have z1:decide (k ≥ 1)=true:=decide_eq_true h1
  have z2:decide (1≤k∧k≤65536)=decide (k≤65536):=by simp [h1]
  rw [z2]
  clear z2
  go_enter Tryz.func297,Tryz.ntmps297
  go_wp2_with fail
  go_ret
  exact ⟨rfl,rfl⟩
 ·have z1:decide (k ≥ 1)=false:=decide_eq_false h1
  have z2:decide (1≤k∧k≤65536)=false:=by simp [h1]
  rw [z2]
  clear z2
  go_enter Tryz.func297,Tryz.ntmps297
  go_wp2_with fail
  go_ret
  exact ⟨rfl,rfl⟩
theorem wfTask {s:SSt} (h:SOk s) {id:Int} {t:Tsk} (hT:s.T id=some t):(Lit.int .i64 id).wf=true:=by
 have:=(h.task id t hT).1
 exact wfI (by omega) (by omega)
def enGo (P:Nat→Nat) (cr:Int) (s:TSt) (g:Nat) (m:Int) (y:Ent):TSt:=
 (enUp P (enQ s g m (if 65536≤m then wokenX y (s.fl g) cr else y)) (s.M g).isEmpty (pathT P g)).1
def enGoK (P:Nat→Nat) (cr:Int) (s:TSt) (g:Nat) (m:Int) (y:Ent):Nat:=
 1+enK P (enQ s g m (if 65536≤m then wokenX y (s.fl g) cr else y)) (s.M g).isEmpty (pathT P g)
theorem enGo_stop {P:Nat→Nat} {cr:Int} {s:TSt} {g:Nat} {m:Int} {y:Ent} (h:(s.M g).isEmpty=false∨g=0) :
  enGo P cr s g m y=enQ s g m (if 65536≤m then wokenX y (s.fl g) cr else y)∧enGoK P cr s g m y=1:=by
 unfold enGo enGoK
 rcases h with h | h
 ·rw [h]
  unfold enUp
  rw [en_stop]
  refine ⟨rfl,?_⟩
  cases pathT P g with
  | nil=>rfl
  | cons a r=>unfold enK;rfl
 ·subst h
  rw [pathT_zero]
  exact ⟨rfl,rfl⟩
theorem enGo_step {P:Nat→Nat} {cr:Int} {s s':TSt} {g:Nat} {m:Int} {y:Ent} (h:(s.M g).isEmpty=true) (h0:0<g) (hp:P g<g) (hs:s'=enQ s g m (if 65536≤m then wokenX y (s.fl g) cr else y)) (hc:s.cr=cr) :
  enGo P cr s g m y=enGo P cr s' (P g) (65536+g) (s'.A g)∧enGoK P cr s g m y=1+enGoK P cr s' (P g) (65536+g) (s'.A g):=by
 have e:(65536:Int)≤65536+(g:Int):=by omega
 have hc':s'.cr=cr:=by rw [hs];exact hc
 unfold enGo enGoK
 rw [h,← hs,pathT_pos h0 hp,if_pos e]
 unfold enUp
 rw [List.foldl_cons]
 have e1:enStep P (s',true) g=(enQ s' (P g) (65536+g) (wokenX (s'.A g) (s'.fl (P g)) cr),(s'.M (P g)).isEmpty):=by unfold enStep;rw [if_pos rfl,hc']
 refine ⟨by rw [e1],?_⟩
 have e2:enK P s' true (g::pathT P (P g))=1+enK P (enStep P (s',true) g).1 (enStep P (s',true) g).2 (pathT P (P g)):=by
  conv=>lhs;unfold enK
  rw [if_pos rfl]
 rw [e2,e1]
structure EntBox (w:World) (b:Nat) (y:Ent):Prop where
 c0:w.cell? ⟨b,0,none⟩=some (.int .u64 y.1)
 c1:w.cell? ⟨b,1,none⟩=some (.int .u32 y.2.1)
 c2:w.cell? ⟨b,2,none⟩=some (.int .u32 y.2.2)
 z:∀ j,w.frozen? ⟨b,j,none⟩=false
theorem EntBox.lt {w:World} {b:Nat} {y:Ent} (h:EntBox w b y):b<w.heap.size:=lt_of_cell h.c0
theorem EntBox.kept {w w':World} {G:List Nat} {b:Nat} {y:Ent} (h:EntBox w b y) (hk:Kept G w w') (hb:b∉G):EntBox w' b y:=⟨hk.cellAt h.c0 hb,hk.cellAt h.c1 hb,hk.cellAt h.c2 hb,fun j=>hk.frz (h.z j) h.lt hb⟩
theorem EntBox.step {w w':World} {L L':SLay} {b:Nat} {y:Ent} (h:EntBox w b y) (hs:SStep L w L' w') (hb:L.lab b=(0,0,0)):EntBox w' b y:=⟨hs.cell hb h.c0,hs.cell hb h.c1,hs.cell hb h.c2,fun j=>hs.frz hb h.lt (h.z j)⟩
theorem EntBox.set {w:World} {b:Nat} {y:Ent} (h:EntBox w b y) (z:Ent):EntBox (set3 w b 0 z) b z:=by
 unfold set3
 exact ⟨cell_set_ne (cell_set_ne (cell_set_eq h.c0) (Or.inr (by decide))) (Or.inr (by decide)),cell_set_ne (cell_set_eq (cell_set_ne h.c1 (Or.inr (by decide)))) (Or.inr (by decide)),cell_set_eq (cell_set_ne (cell_set_ne h.c2 (Or.inr (by decide))) (Or.inr (by decide))),fun j=>by rw [World.frozen?_setCell,World.frozen?_setCell,World.frozen?_setCell];exact h.z j⟩
def stE (s:SSt) (id:Int) (t:Tsk) (q:TSt) (j:Nat):SSt:={ s with T:=setF s.T id (some { t with rdy:=true }),ld:=upd s.ld t.cpu (s.ld t.cpu+t.w),Q:=upd s.Q t.cpu q,wk:=s.wk+(j:Nat) }
theorem upd_upd {α:Type} (f:Nat→α) (g:Nat) (a b:α):upd (upd f g a) g b=upd f g b:=funext fun k=>by
 by_cases e:k=g
 ·subst e;rw [upd_same,upd_same]
 ·rw [upd_other _ _ e,upd_other _ _ e,upd_other _ _ e]
theorem qSet_stE (s:SSt) (id:Int) (t:Tsk) (q:TSt) (j g:Nat) (M:Mems) (fl:Int):qSet (stE s id t q j) t.cpu g M fl=stE s id t { q with M:=upd q.M g M,fl:=upd q.fl g fl } j:=by
 unfold qSet stE
 simp only [upd_same,upd_upd]
theorem stE_work (s:SSt) (id:Int) (t:Tsk) (q:TSt) (j:Nat):{ stE s id t q j with wk:=s.wk+(j:Int)+1 }=stE s id t q (j+1):=by
 unfold stE
 simp only [Int.natCast_add,Int.natCast_one,Int.add_assoc]
set_option maxRecDepth 100000 in
set_option maxHeartbeats 4000000 in
theorem xenter_at {w:World} {x:Nat} {L:SLay} {s:SSt} {id:Int} {t:Tsk} (h:SRaw w x L s) (ho:SOk s) (hT:s.T id=some t) (hr:t.rdy=false) (hwk:0≤s.wk∧s.wk≤1000000) :
  Calls Tryz.prog 298 #[.pointer (some ⟨x,0,none⟩),.int .i64 id,.pointer (some ⟨L.tp id,0,none⟩)] w fun e w'=>e=.returned (.tuple #[])∧SLeft w x L (entS s id t) w':=by
 have HS:=Lib.hid h
 have HO:=Lib.hid ho
 have HT:=Lib.hid hT
 obtain ⟨hi,ht⟩:=ho.task id t hT
 have HTK:=Lib.hid ht
 have tk:=h.tk id t hT
 obtain ⟨b,hb⟩:∃ b,b=L.tp id:=⟨_,rfl⟩
 rw [← hb] at tk ⊢
 have HB:=Lib.hid hb
 have t4:=tk.c4
 have f4:=tk.z 4
 have hld:=ho.load ht.cpu
 have htw:=ht.w
 have hw1:IntKind.i64.wrap (s.ld t.cpu+t.w)=s.ld t.cpu+t.w:=IntWalk.i64_in _ (by omega)
 have hw1':wrap64 (s.ld t.cpu+t.w)=s.ld t.cpu+t.w:=IntWalk.wrap64_in _ (by omega)
 have hcm:(t.cpu:Int)<(s.C:Int):=by have:=ht.cpu;omega
 obtain ⟨W1,hW1⟩:∃ W,W=w.setCell ⟨b,4,none⟩ (.bool true):=⟨_,rfl⟩
 have k1:Kept [L.tp id] w W1:=by rw [hW1,← hb];exact (Kept.refl _ _).setCell (Or.inl (by simp)) _
 have tk1:TskAt W1 (L.tp id) { t with rdy:=true }:=by
  rw [hW1,← hb]
  exact ⟨cell_set_ne tk.c0 (Or.inr (by decide)),cell_set_ne tk.c1 (Or.inr (by decide)),cell_set_ne tk.c2 (Or.inr (by decide)),cell_set_ne tk.c3 (Or.inr (by decide)),cell_set_eq tk.c4,cell_set_ne tk.c5 (Or.inr (by decide)),cell_set_ne tk.c6 (Or.inr (by decide)),cell_set_ne tk.c7 (Or.inr (by decide)),fun j=>by rw [World.frozen?_setCell];exact tk.z j⟩
 have h1:=h.task hT k1 tk1
 have q1:=SStep.of_kept (L:=L) k1 (fun b hb=>by simp at hb;subst hb;rw [h.ltk id t hT];simp)
 have HW1:=Lib.hid hW1
 have H1:=Lib.hid h1
 have Q1:=Lib.hid q1
 have T1:=Lib.hid tk1
 obtain ⟨co,x8⟩:∃ c,W1.cell? ⟨x,8,none⟩=some (.slice (some ⟨L.bo,0,none⟩) s.C c):=h1.head.c8
 have o0:W1.cell? ⟨L.bo,t.cpu,none⟩=some (.int .i64 (s.ld t.cpu)):=h1.ld.c t.cpu ht.cpu
 have fo:=h1.ld.z t.cpu
 rw [← hb] at tk1
 have u0:=tk1.c0
 have u1:=tk1.c1
 have u2:=tk1.c2
 have u5:=tk1.c5
 have u6:=tk1.c6
 have u7:=tk1.c7
 clear h ho hT hi ht tk hb hld htw hW1 k1 tk1 h1 q1
 go_enter Tryz.func298,Tryz.ntmps298
 go_wp2_with fail
 rw [← HW1.out]
 go_region
 obtain ⟨W2,hW2⟩:∃ W,W=(W1.setCell ⟨L.bo,t.cpu,none⟩ (.int .i64 (s.ld t.cpu+t.w))).drew:=⟨_,rfl⟩
 have k2:Kept [L.bo] W1 W2:=by rw [hW2];exact ((Kept.refl _ _).setCell (Or.inl (by simp)) _).drew
 have nb:b∉[L.bo]:=by
  have:=H1.out.ltk id _ (setF_same _ _ _)
  rw [← HB.out] at this
  simp;intro e;rw [e,H1.out.lo] at this;simp at this
 have h2:SRaw W2 x L { tskS s id { t with rdy:=true } with ld:=upd s.ld t.cpu (s.ld t.cpu+t.w) }:=by
  rw [hW2]
  exact (H1.out.load (k:=t.cpu) HTK.out.cpu (s.ld t.cpu+t.w)).below (Below.refl _ _).drew
 have H2:=Lib.hid h2
 have Q2:=Lib.hid (Q1.out.trans (SStep.of_kept (L:=L) k2 (fun b hb=>by simp at hb;subst hb;rw [H1.out.lo];simp)))
 rw [← hW2]
 replace u0:=k2.cellAt u0 nb
 replace u2:=k2.cellAt u2 nb
 replace u5:=k2.cellAt u5 nb
 replace u6:=k2.cellAt u6 nb
 replace u7:=k2.cellAt u7 nb
 clear hW2 k2 h2 x8 o0 fo u1 hw1 hw1' hcm t4 f4
 have y5:=cell_al (.cells #[.int .u64 0,.int .u32 0,.int .u32 0] 107) u5
 have y6:=cell_al (.cells #[.int .u64 0,.int .u32 0,.int .u32 0] 107) u6
 have y7:=cell_al (.cells #[.int .u64 0,.int .u32 0,.int .u32 0] 107) u7
 go_wp2_with fail
 go_region
 have HX:=Lib.hid (show L.lab W2.heap.size=(0,0,0) from H2.out.none_at (Nat.le_refl _))
 obtain ⟨bx,hbx⟩:∃ b,b=W2.heap.size:=⟨_,rfl⟩
 obtain ⟨W3,hW3⟩:∃ W,W=(W2.alloc (.cells #[.int .u64 t.run.1,.int .u32 t.run.2.1,.int .u32 t.run.2.2] 107)).drew:=⟨_,rfl⟩
 rw [← hbx,← hW3]
 have hB3:Below W2.heap.size W2 W3:=by rw [hW3];exact (below_a _ _).drew
 have hE3:EntBox W3 bx t.run:=by
  rw [hW3,hbx]
  exact ⟨cell_nw W2 _ _ 0 _ rfl,cell_nw W2 _ _ 1 _ rfl,cell_nw W2 _ _ 2 _ rfl,fun j=>frz_nw W2 _ _ j⟩
 have h3:=H2.out.below hB3
 have HQ3:=Lib.hid (SStep.of (L:=L) hB3)
 replace u0:=cell_later hB3 u0
 have HBX:=Lib.hid (show L.lab bx=(0,0,0)∧bx<W3.heap.size∧W2.heap.size≤bx from ⟨by rw [hbx];exact HX.out,hE3.lt,by omega⟩)
 obtain ⟨q0,hq0⟩:∃ q,q=enT (s.Q t.cpu) t.g id:=⟨_,rfl⟩
 have h3':SRaw W3 x L (stE s id t q0 0):=by
  have e:(stE s id t q0 0)={ tskS s id { t with rdy:=true } with ld:=upd s.ld t.cpu (s.ld t.cpu+t.w),Q:=upd s.Q t.cpu q0 }:=by unfold stE tskS;simp
  rw [e]
  refine SRaw.ghost h3 (fun k=>?_) (fun k=>?_) fun k=>?_ <;> (show _=_) <;> (by_cases e:k=t.cpu)
  ·subst e;rw [upd_same,hq0];rfl
  ·rw [upd_other _ _ e];rfl
  ·subst e;rw [upd_same,hq0];rfl
  ·rw [upd_other _ _ e];rfl
  ·subst e;rw [upd_same,hq0];rfl
  ·rw [upd_other _ _ e];rfl
 have hid:=(HO.out.task id t HT.out).1
 have HF:=Lib.hid (show enGo (parG s.Gs) s.cr q0 t.g id t.run=enTo (s.Q t.cpu) t.g id t.run by
  unfold enGo enTo
  rw [if_neg (by omega),HO.out.gs _ HTK.out.cpu,hq0]
  rfl)
 have HK:=Lib.hid (show enGoK (parG s.Gs) s.cr q0 t.g id t.run=enW (s.Q t.cpu) t.g id t.run by
  unfold enGoK enW
  rw [if_neg (by omega),HO.out.gs _ HTK.out.cpu,hq0]
  rfl)
 have HC0:=Lib.hid (show q0.cr=s.cr by rw [hq0];exact HO.out.qcr _ HTK.out.cpu)
 have hrf:Ch.Fits t.run.1 t.run.2.1 t.run.2.2:=Ch.Ok.fits HTK.out.run
 have hg0:=HTK.out.g
 obtain ⟨FIN,hFIN⟩:∃ F,F=enTo (s.Q t.cpu) t.g id t.run:=⟨_,rfl⟩
 obtain ⟨N,hN⟩:∃ N,N=enW (s.Q t.cpu) t.g id t.run:=⟨_,rfl⟩
 rw [← hFIN] at HF
 rw [← hN] at HK
 have HNL:=Lib.hid (show N≤1+256 by
  have h1:=pathT_len (P:=parG (s.Q t.cpu).Gs) t.g
  have h2:=HO.out.right.le
  have h3:t.g<s.Gs.length:=hg0
  rw [hN]
  unfold enW
  have:=enK_le (parG (s.Q t.cpu).Gs) (pathT (parG (s.Q t.cpu).Gs) t.g) (enT (enQ (s.Q t.cpu) t.g id t.run) t.g id) ((s.Q t.cpu).M t.g).isEmpty
  omega)
 have HFN:=Lib.hid hFIN
 have HNN:=Lib.hid hN
 clear hq0 h3 hB3 hW3 hbx hFIN hN u5 u6 u7 y5 y6 y7 nb
 go_wp2_with fail
 go_loopw [6,8] (fun mv gv wr=>∃ (gk:Nat) (m:Int) (y:Ent) (q:TSt) (j:Nat) (L':SLay),gk<s.n∧(1≤m∧m<65792)∧mv=.int .i64 m∧gv=.int .i64 gk∧SRaw wr x L' (stE s id t q j)∧SStep L W2 L' wr∧L'.tp=L.tp∧L'.lab bx=(0,0,0)∧EntBox wr bx y∧Ch.Fits y.1 y.2.1 y.2.2∧Hid (enGo (parG s.Gs) s.cr q gk m y=FIN)∧Hid (j+enGoK (parG s.Gs) s.cr q gk m y=N)∧Hid (q.cr=s.cr)) (fun _ g _=>(intOf g).toNat)
 case atStart=>exact ⟨t.g,id,t.run,q0,0,L,hg0,by omega,rfl,rfl,h3',HQ3.out,rfl,HBX.out.1,hE3,hrf,HF,by rw [Nat.zero_add];exact HK,HC0⟩
 case round =>
  obtain ⟨gk,m,y,q,j,L',hgk,hm,rfl,rfl,hr,hs,htp,hlx,hE,hyf,hF,hK,hC⟩:=hrel
  have tq:TskAt wr (L'.tp id) { t with rdy:=true }:=hr.tk id _ (setF_same _ _ _)
  rw [htp,← HB.out] at tq
  have u2:=tq.c2
  have htc:=HTK.out.cpu
  have hcm:(t.cpu:Int)<(s.C:Int):=by omega
  have hgm:(gk:Int)<(s.n:Int):=by omega
  obtain ⟨c6,x6⟩:∃ c,wr.cell? ⟨x,6,none⟩=some (.slice (some ⟨L'.bq,0,none⟩) s.n c):=hr.head.c6
  obtain ⟨cr',r6⟩:∃ c,wr.cell? ⟨L'.bq,gk,none⟩=some (.slice (some ⟨L'.rq gk,0,none⟩) s.C c):=hr.rq.c gk hgk
  have p6:wr.cell? ⟨L'.rq gk,t.cpu,none⟩=some (.pointer (some ⟨L'.qp gk t.cpu,0,none⟩)):=(hr.qc gk hgk).c t.cpu htc
  have hq:QIn wr (L'.qp gk t.cpu) (L'.Fq gk t.cpu) qN (q.M gk) (q.fl gk):=by
   have:QIn wr (L'.qp gk t.cpu) (L'.Fq gk t.cpu) qN ((upd s.Q t.cpu q t.cpu).M gk) ((upd s.Q t.cpu q t.cpu).fl gk):=hr.q gk t.cpu hgk htc
   rw [upd_same] at this
   exact this
  have HR:=Lib.hid hr
  have HSt:=Lib.hid hs
  have HLX:=Lib.hid hlx
  have HE:=Lib.hid hE
  have HQ:=Lib.hid hq
  have HTP:=Lib.hid htp
  have HYF:=Lib.hid hyf
  have HGK:=Lib.hid hgk
  have HM:=Lib.hid hm
  obtain ⟨qp,hqp⟩:∃ p,p=L'.qp gk t.cpu:=⟨_,rfl⟩
  rw [← hqp] at p6 hq
  have HQP:=Lib.hid hqp
  clear hr hs hlx hE htp hyf hqp tq
  go_wp2_with fail
  go_region
  obtain ⟨w4,hw4⟩:∃ W,W=wr.drew:=⟨_,rfl⟩
  rw [← hw4]
  have hB4:Below wr.heap.size wr w4:=by rw [hw4];exact (Below.refl _ _).drew
  have A1:=Lib.hid (Len_at' w4 (hq.below hB4))
  have A2:=Lib.hid (Floor_at w4 (hq.below hB4))
  have zE:(((q.M gk).length:Int) == 0)=(q.M gk).isEmpty:=len_zero _
  have HB4:=Lib.hid hB4
  have E4:=Lib.hid (HE.out.kept (Kept.of (S:=[]) hB4) (by simp))
  clear hw4 hq hB4 x6 r6 p6 u2
  go_wp2_with fail
  refine A1.out.mono ?_;rintro e w5 ⟨rfl,rfl⟩
  go_wp2_with fail
  refine A2.out.mono ?_;rintro e w5 ⟨rfl,rfl⟩
  go_upto_if 62 with fail
  go_cut [6] (fun s6 wx=>s6=.int .i64 m∧∃ yx:Ent,Hid (yx=if 65536≤m then wokenX y (q.fl gk) s.cr else y)∧Ch.Fits yx.1 yx.2.1 yx.2.2∧EntBox wx bx yx∧Kept [bx] w4 wx)
  case first =>
   as_aux_lemma =>
    by_cases h6:65536≤m
    ·have z1:decide (m ≥ 65536)=true:=decide_eq_true h6
     have z2:decide (65536≤m)=true:=decide_eq_true h6
     have HYX:=Lib.hid (show wokenX y (q.fl gk) s.cr=if 65536≤m then wokenX y (q.fl gk) s.cr else y by rw [if_pos h6])
     have hfl:0≤q.fl gk∧q.fl gk≤18446744073709551615:=by have:=HQ.out.ids;omega
     have hcr:=HO.out.cr
     have A3:=Lib.hid fun W=>plWoken_at y.1 y.2.1 y.2.2 (q.fl gk) s.cr W HYF.out hfl (by omega)
     have hwf:=Lib.hid (wokenX_fits (x:=y) (fl:=q.fl gk) (cr:=s.cr) HYF.out hfl (by omega))
     have x1:w4.cell? ⟨x,1,none⟩=some (.int .u64 s.cr):=(HR.out.below HB4.out).head.c1
     have y0:=E4.out.c0
     have y1:=E4.out.c1
     have y2:=E4.out.c2
     have nx:x∉[bx]:=by
      simp;intro e;have:=HBX.out.1;rw [← e] at this;rw [HS.out.lx] at this;simp at this
     generalize hle:wokenX y (q.fl gk) s.cr=xe at *
     clear h6 hfl hcr
     rw [z2]
     go_wp2_with fail
     refine startA (S:=fun w'=>Kept [bx] w4 w'∧w'.cell? ⟨x,1,none⟩=some (.int .u64 s.cr)) ⟨Kept.refl _ _,x1⟩ (fun h=>heldK_1 (kept_dr _ _) h) (fun hS0 hHeld=>?_)
     refine takeA 1 ?_
     refine takeA 2 ?_
     refine takeA 3 ?_
     refine takeA 4 ?_
     refine takeA 5 ?_
     refine takeA 6 ?_
     refine readyA [0] (consA (fun K hK=>?_) .nil)
     go_simp
     skip
     refine outA hK kpK_1 (fun hHeld0=>?_)
     clear hK K
     refine readyA [7] (consA (fun K hK=>?_) .nil)
     go_simp
     refine (A3.out _).mono ?_
     rintro e w6 ⟨rfl,hb6⟩
     have hk6:Kept [bx] w4.drew w6:=Kept.of hb6
     have e0:=cell_later hb6 (cell_dr y0)
     have e1:=cell_later hb6 (cell_dr y1)
     have e2:=cell_later hb6 (cell_dr y2)
     have fz0:=frz_later hb6 (show w4.drew.frozen? ⟨bx,0,none⟩=false from E4.out.z 0) E4.out.lt
     have fz1:=frz_later hb6 (show w4.drew.frozen? ⟨bx,1,none⟩=false from E4.out.z 1) E4.out.lt
     have fz2:=frz_later hb6 (show w4.drew.frozen? ⟨bx,2,none⟩=false from E4.out.z 2) E4.out.lt
     go_wp2_with fail
     refine outA hK kpK_1 (fun hHeld7=>?_)
     clear hK K
     refine takeA 8 ?_
     refine takeA 9 ?_
     refine takeA 10 ?_
     refine readyA [11] (consA (fun K hK=>?_) .nil)
     go_simp
     have hk11:=set3_kept w6 bx 0 xe
     unfold set3 at hk11
     simp only [Nat.zero_add] at hk11
     have E11:=(show EntBox w6 bx y from ⟨e0,e1,e2,fun j=>frz_later hb6 (show w4.drew.frozen? ⟨bx,j,none⟩=false from E4.out.z j) E4.out.lt⟩).set xe
     unfold set3 at E11
     simp only [Nat.zero_add] at E11
     refine outA hK kpK_1 (fun hHeld11=>?_)
     clear hK K
     refine doneA ?_
     go_wp2_with fail
     go_meet
     case rel=>exact ⟨rfl,xe,by first | exact HYX | (rw [hle];exact HYX),hwf.out,E11,hHeld11.1⟩
    ·have z1:decide (m ≥ 65536)=false:=decide_eq_false h6
     have z2:decide (65536≤m)=false:=decide_eq_false h6
     have HYX:=Lib.hid (show y=if 65536≤m then wokenX y (q.fl gk) s.cr else y by rw [if_neg h6])
     clear h6
     rw [z2]
     go_wp2_with fail
     go_meet
     case rel=>exact ⟨rfl,y,HYX,HYF.out,E4.out,Kept.refl _ _⟩
  case rest =>
   as_aux_lemma =>
    obtain ⟨rfl,yx,HYX,hyf6,he6,hk6⟩:=hcut
    obtain ⟨w6,rfl⟩:∃ W:World,W=wc:=⟨_,rfl⟩
    have HYF6:=Lib.hid hyf6
    have E6:=Lib.hid he6
    have HR6:=Lib.hid (show SRaw w6 x L' (stE s id t q j) from (HR.out.below HB4.out).kept hk6 (fun b hb=>by simp at hb;subst hb;exact HLX.out))
    have HS6:=Lib.hid (show SStep L W2 L' w6 from (HSt.out.trans (SStep.of HB4.out)).own hk6 (fun b hb=>by simp at hb;subst hb;exact HBX.out.2.2))
    clear hyf6 he6 hk6 A1 A2
    have hq6:QIn w6 (L'.qp gk t.cpu) (L'.Fq gk t.cpu) qN (q.M gk) (q.fl gk):=by
     have:QIn w6 (L'.qp gk t.cpu) (L'.Fq gk t.cpu) qN ((upd s.Q t.cpu q t.cpu).M gk) ((upd s.Q t.cpu q t.cpu).fl gk):=HR6.out.q gk t.cpu HGK.out htc
     rw [upd_same] at this
     exact this
    have HEN:=Lib.hid (Enter_at m yx w6 hq6 (wfI (by have:=HM.out;omega) (by have:=HM.out;omega)) HYF6.out)
    rw [← HQP.out] at HEN
    have y0:=E6.out.c0
    have y1:=E6.out.c1
    have y2:=E6.out.c2
    clear hq6
    go_wp2_with fail
    refine HEN.out.mono ?_;rintro e w7 ⟨rfl,F7,h7,s7⟩
    rw [HQP.out] at h7
    have hr7:=HR6.out.queue (k:=t.cpu) HGK.out htc h7 s7
    rw [qSet_stE] at hr7
    have HS7:=Lib.hid (HS6.out.trans (SStep.queue HR6.out HGK.out htc s7))
    have hl7:=(SStep.queue HR6.out HGK.out htc s7).off E6.out.lt HLX.out
    have E7:=Lib.hid (E6.out.step (SStep.queue HR6.out HGK.out htc s7) HLX.out)
    obtain ⟨q7,hq7⟩:∃ q7,q7=enQ q gk m yx:=⟨_,rfl⟩
    replace hr7:SRaw w7 x (L'.queue gk t.cpu F7) (stE s id t q7 j):=by rw [hq7];exact hr7
    have hr8:=hr7.work (s.wk+(j:Int)+1)
    rw [stE_work] at hr8
    obtain ⟨L7,hL7⟩:∃ L7,L7=L'.queue gk t.cpu F7:=⟨_,rfl⟩
    rw [← hL7] at hr7 hr8 HS7 hl7
    have HTP7:=Lib.hid (show L7.tp=L.tp by rw [hL7];exact HTP.out)
    have HQ7:=Lib.hid hq7
    have c9:w7.cell? ⟨x,9,none⟩=some (.int .i64 (s.wk+(j:Int))):=hr7.head.c9
    have f9:=hr7.head.z 9
    have hjN:(j:Int)≤257:=by have:=HNL.out;have:=hK.out;omega
    have hw9:IntKind.i64.wrap (s.wk+(j:Int)+1)=s.wk+(j:Int)+1:=IntWalk.i64_in _ (by omega)
    have hw9':wrap64 (s.wk+(j:Int)+1)=s.wk+(j:Int)+1:=IntWalk.wrap64_in _ (by omega)
    have nx9:x≠bx:=fun e=>by have:=HBX.out.1;rw [← e] at this;rw [HS.out.lx] at this;simp at this
    have HR8:=Lib.hid hr8
    have E8:=Lib.hid (E7.out.kept (((Kept.refl [x] w7).setCell (p:=⟨x,9,none⟩) (Or.inl (by simp)) (.int .i64 (s.wk+(j:Int)+1)))) (by simp;exact Ne.symm nx9))
    have HS8:=Lib.hid (HS7.out.trans (SStep.of_kept (L:=L7) ((Kept.refl [x] w7).setCell (p:=⟨x,9,none⟩) (Or.inl (by simp)) (.int .i64 (s.wk+(j:Int)+1))) (fun b hb=>by simp at hb;subst hb;rw [hr7.lx];simp)))
    have HL7:=Lib.hid hl7
    clear h7 s7 hr7 hr8 hq7 hL7 hl7 y0 y1 y2 hjN nx9 E7 HS7 HEN
    cases he:List.isEmpty (q.M gk) with
    | false =>
     have st:=enGo_stop (P:=parG s.Gs) (cr:=s.cr) (s:=q) (g:=gk) (m:=m) (y:=y) (Or.inl he)
     rw [← HYX.out,← HQ7.out] at st
     clear he
     go_wp2_with fail
     refine bodyPost_ret (results_none rfl _ _ _) rfl ?_
     refine ⟨rfl,L7,?_,Q2.out.trans HS8.out,HTP7.out⟩
     have e1:FIN=q7:=hF.out.symm.trans st.1
     have e2:N=j+1:=by have:=hK.out;have:=st.2;omega
     rw [show entS s id t=stE s id t FIN N by rw [HFN.out,HNN.out];rfl,e1,e2]
     exact HR8.out
    | true =>
     by_cases g0:gk=0
     ·have st:=enGo_stop (P:=parG s.Gs) (cr:=s.cr) (s:=q) (g:=gk) (m:=m) (y:=y) (Or.inr g0)
      rw [← HYX.out,← HQ7.out] at st
      have z0:((gk:Int) == 0)=true:=by simp [g0]
      have Z:=Lib.hid g0
      clear he g0
      go_wp2_with fail
      refine bodyPost_ret (results_none rfl _ _ _) rfl ?_
      refine ⟨rfl,L7,?_,Q2.out.trans HS8.out,HTP7.out⟩
      have e1:FIN=q7:=hF.out.symm.trans st.1
      have e2:N=j+1:=by have:=hK.out;have:=st.2;omega
      rw [show entS s id t=stE s id t FIN N by rw [HFN.out,HNN.out];rfl,e1,e2]
      exact HR8.out
     ·have hpl:parG s.Gs gk<gk:=(HO.out.right.par HGK.out).2.1 (by omega)
      have st:=enGo_step (P:=parG s.Gs) (cr:=s.cr) (s:=q) (s':=q7) (g:=gk) (m:=m) (y:=y) he (by omega) hpl (by rw [← HYX.out];exact HQ7.out) hC.out
      have z0:((gk:Int) == 0)=false:=by simp;exact g0
      have HPL:=Lib.hid (And.intro hpl (show 0<gk by omega))
      have HE0:=Lib.hid st
      clear he g0 hpl st
      go_wp2_with fail
      obtain ⟨w8,hw8⟩:∃ W,W=w7.setCell ⟨x,9,none⟩ (.int .i64 (s.wk+(j:Int)+1)):=⟨_,rfl⟩
      rw [← hw8] at HR8 E8 HS8 ⊢
      clear hw8 c9 f9 hw9 hw9'
      have st:=HE0.out
      have hq8:EntsAt w8 (L7.ra gk) s.C (fun k=>((upd s.Q t.cpu q7) k).A gk):=HR8.out.ac gk HGK.out
      obtain ⟨a0,a1,a2⟩:=hq8.c t.cpu htc
      have hfA:=hq8.fit t.cpu htc
      simp only [upd_same] at a0 a1 a2 hfA
      obtain ⟨c7,x7⟩:∃ c,w8.cell? ⟨x,7,none⟩=some (.slice (some ⟨L7.ba,0,none⟩) s.n c):=HR8.out.head.c7
      obtain ⟨c7',r7⟩:∃ c,w8.cell? ⟨L7.ba,gk,none⟩=some (.slice (some ⟨L7.ra gk,0,none⟩) s.C c):=HR8.out.ra.c gk HGK.out
      have tq:TskAt w8 (L7.tp id) { t with rdy:=true }:=HR8.out.tk id _ (setF_same _ _ _)
      rw [HTP7.out,← HB.out] at tq
      have u2:=tq.c2
      have y0:=E8.out.c0
      have y1:=E8.out.c1
      have y2:=E8.out.c2
      have f0:=E8.out.z 0
      have f1:=E8.out.z 1
      have f2:=E8.out.z 2
      have hwm:IntKind.i64.wrap (65536+(gk:Int))=65536+(gk:Int):=IntWalk.i64_in _ (by have:=HO.out.right.le;have:=HGK.out;unfold SSt.n at this;omega)
      have hwm':wrap64 (65536+(gk:Int))=65536+(gk:Int):=IntWalk.wrap64_in _ (by have:=HO.out.right.le;have:=HGK.out;unfold SSt.n at this;omega)
      have hgm':(gk:Int)<(s.n:Int):=by have:=HGK.out;omega
      obtain ⟨z,hz⟩:∃ z,z=q7.A gk:=⟨_,rfl⟩
      rw [← hz] at a0 a1 a2 hfA st
      have HZ:=Lib.hid hz
      have ST:=Lib.hid st
      clear st tq hq8 hz HE0
      go_region
      obtain ⟨w9,hw9⟩:∃ W,W=(set3 w8 bx 0 z).drew:=⟨_,rfl⟩
      have k9:Kept [bx] w8 w9:=by rw [hw9];exact (set3_kept w8 bx 0 z).drew
      have hr9:=HR8.out.kept k9 (fun b hb=>by simp at hb;subst hb;exact HL7.out)
      have E9:EntBox w9 bx z:=by
       have:=E8.out.set z
       rw [hw9]
       exact ⟨this.c0,this.c1,this.c2,this.z⟩
      unfold set3 at hw9
      simp only [Nat.zero_add] at hw9
      rw [← hw9]
      have hs9:=HS8.out.own k9 (fun b hb=>by simp at hb;subst hb;exact HBX.out.2.2)
      have A4:=Lib.hid (show Calls Tryz.prog 112 #[.pointer (some ⟨x,0,none⟩),.int .i64 gk] w9 fun e w'=>e=.returned (.int .i64 (parG s.Gs gk:Nat))∧w9=w' from xparent_at hr9 HO.out.right (g:=gk) HGK.out)
      clear hw9 a0 a1 a2 x7 r7 u2 y0 y1 y2 f0 f1 f2 hwm hwm' hgm' k9
      have HR9:=Lib.hid hr9
      have HS9:=Lib.hid hs9
      have HE9:=Lib.hid E9
      have HFA:=Lib.hid hfA
      clear hr9 hs9 E9 hfA
      go_wp2_with fail
      refine A4.out.mono ?_;rintro e w10 ⟨rfl,rfl⟩
      go_wp2_with fail
      go_roundw
      case rel=>exact ⟨parG s.Gs gk,65536+(gk:Int),z,q7,j+1,L7,by have:=HPL.out.1;have:=HGK.out;omega,by have:=HO.out.right.le;have:=HGK.out;unfold SSt.n at this;omega,rfl,rfl,HR9.out,HS9.out,HTP7.out,HL7.out,HE9.out,HFA.out,Lib.hid (ST.out.1.symm.trans hF.out),Lib.hid (by have:=hK.out;have:=ST.out.2;omega),Lib.hid (by rw [HQ7.out];exact hC.out)⟩
      case measure=>simp [intOf];have:=HPL.out;omega
end Go.Proofs.YtapnaocdehahdaaGreat
