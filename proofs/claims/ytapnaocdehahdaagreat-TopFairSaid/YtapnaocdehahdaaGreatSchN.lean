/-
  Layer 31 (sched): Do.
-/
import Derived.Test.YtapnaocdehahdaaGreatSchD
import Derived.Test.YtapnaocdehahdaaGreatSchI
namespace Go.Proofs.YtapnaocdehahdaaGreat
open Go.RowKit Go.Maps Go.IntWalk Go.Lib
set_option linter.unusedVariables false
set_option linter.unusedSimpArgs false
theorem zero_ck (w:World):(zeroValue 126).run Tryz.prog w=.ok .nilIface w:=by kernel_rfl
theorem part_some (p:String→Bool) (f:String→String) (a:String):(Instr.least ([a].partition p).2 <|> Instr.least (([a].partition p).1.map f)).isSome=true:=by
 cases h:p a <;> simp [List.partition,List.partition.loop,h,Instr.least]
theorem missing_some {want:Array (String×TypeId)} {got:Array Method} (a:String×TypeId) (e:(want.toList.filter fun (name,sig)=>!got.any fun m=>m.name == name && m.sig == sig)=[a]):Instr.missingMethod want got≠none:=by
 intro q
 have h:(Instr.missingMethod want got).isSome=true:=by
  unfold Instr.missingMethod
  simp only [e,List.map_cons,List.map_nil]
  exact part_some _ _ _
 rw [q] at h
 cases h
@[go_sem high] theorem run_ta_spawn (v:Value) (w:World):(Instr.typeAssert (.iface 196 v) 123 126 true).run Tryz.prog w=.ok (.tuple #[.iface 196 v,.bool true]) w:=by kernel_rfl
@[go_sem high] theorem run_ta_wake (v:Value) (w:World):(Instr.typeAssert (.iface 199 v) 123 126 true).run Tryz.prog w=.ok (.tuple #[.iface 199 v,.bool true]) w:=by kernel_rfl
@[go_sem high] theorem run_ta_block (v:Value) (w:World):(Instr.typeAssert (.iface 200 v) 123 126 true).run Tryz.prog w=.ok (.tuple #[.iface 200 v,.bool true]) w:=by kernel_rfl
@[go_sem high] theorem run_ta_exit (v:Value) (w:World):(Instr.typeAssert (.iface 201 v) 123 126 true).run Tryz.prog w=.ok (.tuple #[.iface 201 v,.bool true]) w:=by kernel_rfl
@[go_sem high] theorem run_ta_tick (v:Value) (w:World):(Instr.typeAssert (.iface 202 v) 123 126 true).run Tryz.prog w=.ok (.tuple #[.iface 202 v,.bool true]) w:=by kernel_rfl
@[go_sem high] theorem run_ta_pick (v:Value) (w:World):(Instr.typeAssert (.iface 203 v) 123 126 true).run Tryz.prog w=.ok (.tuple #[.iface 203 v,.bool true]) w:=by kernel_rfl
@[go_sem high] theorem run_ta_reweight (v:Value) (w:World):(Instr.typeAssert (.iface 204 v) 123 126 true).run Tryz.prog w=.ok (.tuple #[.iface 204 v,.bool true]) w:=by kernel_rfl
@[go_sem high] theorem run_ta_balance (v:Value) (w:World):(Instr.typeAssert (.iface 207 v) 123 126 true).run Tryz.prog w=.ok (.tuple #[.iface 207 v,.bool true]) w:=by kernel_rfl
@[go_sem high] theorem run_ta_regroup (v:Value) (w:World):(Instr.typeAssert (.iface 205 v) 123 126 true).run Tryz.prog w=.ok (.tuple #[.nilIface,.bool false]) w:=by
 have h:=zero_ck w
 simp [go_sem,Instr.typeAssert]
 split
 ·rename_i e
  exact absurd e (missing_some ("quantum/sched.check",128) (by simp [Tryz.t205]))
 ·simp [h]
@[go_sem high] theorem run_ta_migrate (v:Value) (w:World):(Instr.typeAssert (.iface 206 v) 123 126 true).run Tryz.prog w=.ok (.tuple #[.nilIface,.bool false]) w:=by
 have h:=zero_ck w
 simp [go_sem,Instr.typeAssert]
 split
 ·rename_i e
  exact absurd e (missing_some ("quantum/sched.check",128) (by simp [Tryz.t206]))
 ·simp [h]
theorem ckCPU_at {w:World} {x:Nat} {L:SLay} {s:SSt} (o:OpV) (h:SRaw w x L s):Calls Tryz.prog 295 #[encO o,.pointer (some ⟨x,0,none⟩)] w fun e w'=>e=.returned (.int .i64 (if hasV (s.C:Int) o.cpu=true then 0 else 300))∧Below w.heap.size w w':=by
 obtain ⟨W0,hW0⟩:∃ W,W=w.alloc (.cells (cellsO o) 194):=⟨_,rfl⟩
 have hb0:Below w.heap.size w W0:=by rw [hW0];exact below_a _ _
 have B0:OpBox W0 w.heap.size o:=by rw [hW0];exact OpBox.new _ _ _
 have b1:=B0.c1
 have A1:=Lib.hid (xcpu_at o.cpu (h.below hb0))
 unfold cellsO at hW0
 have HW0:=Lib.hid hW0
 have HB0:=Lib.hid hb0
 clear hW0 B0 h hb0
 cases hd:hasV (s.C:Int) o.cpu
 all_goals
  rw [hd] at A1
  unfold encO
  go_enter Tryz.func295,Tryz.ntmps295
  go_upto_region 1 with fail
  rw [← HW0.out]
  go_wp2_with fail
  refine A1.out.mono ?_;rintro e w5 ⟨rfl,rfl⟩
  go_wp2_with fail
  go_ret
  exact ⟨rfl,HB0.out⟩
theorem ckTask_at {w:World} (x:Nat) (o:OpV):Calls Tryz.prog 299 #[encO o,.pointer (some ⟨x,0,none⟩)] w fun e w'=>e=.returned (.int .i64 (if nameV o.task=true then 0 else 301))∧Below w.heap.size w w':=by
 obtain ⟨W0,hW0⟩:∃ W,W=w.alloc (.cells (cellsO o) 197):=⟨_,rfl⟩
 have hb0:Below w.heap.size w W0:=by rw [hW0];exact below_a _ _
 have B0:OpBox W0 w.heap.size o:=by rw [hW0];exact OpBox.new _ _ _
 have b2:=B0.c2
 have A1:=Lib.hid (snamed_at o.task W0)
 unfold cellsO at hW0
 have HW0:=Lib.hid hW0
 have HB0:=Lib.hid hb0
 clear hW0 B0 hb0
 cases hd:nameV o.task
 all_goals
  rw [hd] at A1
  unfold encO
  go_enter Tryz.func299,Tryz.ntmps299
  go_upto_region 1 with fail
  rw [← HW0.out]
  go_wp2_with fail
  refine A1.out.mono ?_;rintro e w5 ⟨rfl,rfl⟩
  go_wp2_with fail
  go_ret
  exact ⟨rfl,HB0.out⟩
set_option maxRecDepth 100000 in
set_option maxHeartbeats 8000000 in
theorem xDo_at {w:World} {x:Nat} {L:SLay} {s:SSt} {o:OpV} (h:SRaw w x L s) (ho:SOk s) (hwf:o.Wf):Calls Tryz.prog 17 #[.pointer (some ⟨x,0,none⟩),encO o] w (SDone w x L (doR s o).1 (doR s o).2.1 (doR s o).2.2):=by
 have HS:=Lib.hid h
 obtain ⟨W0,hW0⟩:∃ W,W=w.alloc (.cells (cellsO o) 41):=⟨_,rfl⟩
 have hb0:Below w.heap.size w W0:=by rw [hW0];exact below_a _ _
 have B0:OpBox W0 w.heap.size o:=by rw [hW0];exact OpBox.new _ _ _
 have h0:=h.below hb0
 have A0:=Lib.hid (xsome_at h0 ho.cpus.1)
 have c9:W0.cell? ⟨x,9,none⟩=some (.int .i64 s.wk):=h0.head.c9
 have f9:=h0.head.z 9
 obtain ⟨W1,hW1⟩:∃ W,W=W0.setCell ⟨x,9,none⟩ (.int .i64 0):=⟨_,rfl⟩
 have h1:=h0.work 0
 rw [← hW1] at h1
 have k1:Kept [x] W0 W1:=by rw [hW1];exact (Kept.refl _ _).setCell (Or.inl (by simp)) _
 have s1:SStep L w L W1:=(SStep.of hb0).trans (SStep.of_kept k1 fun c hc=>by simp at hc;subst hc;rw [h.lx];simp)
 have B1:=B0.step (SStep.of_kept (L:=L) k1 fun c hc=>by simp at hc;subst hc;rw [h.lx];simp) (h.none_at (Nat.le_refl _))
 have q0:=B1.c0
 have q1:=B1.c1
 have q2:=B1.c2
 have q3:=B1.c3
 have q4:=B1.c4
 have q5:=B1.c5
 have q6:=B1.c6
 have q7:=B1.c7
 have A1:=Lib.hid (skind_at o W1)
 have ho1:SOk { s with wk:=0 }:=ho.work 0
 obtain ⟨s',hs'⟩:∃ s',s'=({ s with wk:=0 }:SSt):=⟨_,rfl⟩
 rw [← hs'] at h1 ho1
 have HR:=Lib.hid (show doR s o=opR s' o by rw [hs'];rfl)
 have hwk:0≤s'.wk∧s'.wk≤1000000:=by rw [hs'];exact ⟨Int.le_refl 0,(by decide:(0:Int)≤1000000)⟩
 have hwk2:0≤s'.wk∧s'.wk≤900000:=by rw [hs'];exact ⟨Int.le_refl 0,(by decide:(0:Int)≤900000)⟩
 have S1:=Lib.hid s1
 have H1:=Lib.hid h1
 have HO:=Lib.hid ho1
 have HW0:=Lib.hid (show W0=w.alloc (.cells #[.int .u8 o.kind,.int .i64 o.cpu,.int .i64 o.task,.int .i64 o.group,.int .i64 o.weight,.int .i64 o.dst,.int .i64 o.ticks,.int .u64 o.mask] 41) from hW0)
 have HW1:=Lib.hid hW1
 obtain ⟨bx,hbx⟩:∃ b,b=w.heap.size:=⟨_,rfl⟩
 rw [← hbx] at q0 q1 q2 q3 q4 q5 q6 q7
 have HBX:=Lib.hid hbx
 rw [HR.out]
 obtain ⟨R,hR⟩:∃ R,R=opR s' o:=⟨_,rfl⟩
 rw [← hR]
 have HRR:=Lib.hid hR
 clear h ho hW0 hb0 B0 h0 hW1 h1 k1 s1 B1 ho1 hs' hbx hR
 rw [HW1.out] at q0 q1 q2 q3 q4 q5 q6 q7
 by_cases E1:o.kind=1
 ·have EK:=Lib.hid (show kindV o=.iface 196 (encO o) by unfold kindV;rw [if_pos E1])
  rw [EK.out] at A1
  have ER:=Lib.hid (HRR.out.trans (opR_1 (s:=s') E1))
  clear E1
  cases hd:hasV (s'.C:Int) o.cpu with
  | false =>
   rw [hd,if_neg (by simp)] at ER
   have EE3:=Lib.hid (show R=(0,300,s') from ER.out)
   have A2:=Lib.hid fun (w6:World) (hb:Below W1.heap.size W1 w6)=>ckCPU_at o (H1.out.below hb)
   rw [hd] at A2
   clear hd ER
   unfold encO at A2
   unfold encO at A1
   unfold encO
   go_enter Tryz.func17,Tryz.ntmps17
   go_upto_region 1 with fail
   rw [← HW0.out,← HBX.out]
   go_wp2_with fail
   refine A0.out.mono ?_;rintro e w5 ⟨rfl,rfl⟩
   go_wp2_with fail
   rw [← HW1.out]
   refine A1.out.mono ?_;rintro e w5 ⟨rfl,hb5⟩
   go_wp2_with fail
   refine (A2.out _ hb5).mono ?_;rintro e w6 ⟨rfl,hb6⟩
   go_wp2_with fail
   refine bodyPost_ret (v:=.tuple #[.int .i64 0,.int .i64 300]) (by simp [results,Tryz.results17,go_sem]) rfl ⟨by rw [EE3.out],L,?_,S1.out.trans (SStep.of (Below.step hb5 hb6))⟩
   rw [EE3.out]
   exact H1.out.below (Below.step hb5 hb6)
  | true =>
   rw [hd,if_pos rfl] at ER
   have A2:=Lib.hid fun (w6:World) (hb:Below W1.heap.size W1 w6)=>ckCPU_at o (H1.out.below hb)
   rw [hd] at A2
   obtain ⟨hkC,hk⟩:=has_nat hd
   have H6:∀ w6,Below W1.heap.size W1 w6→Calls Tryz.prog 296 #[encO o,.pointer (some ⟨x,0,none⟩)] w6 (SDone w6 x L R.1 R.2.1 R.2.2):=fun w6 hb=>by
    have h6:=H1.out.below hb
    rw [ER.out];dsimp only
    exact dSpawn_at h6 HO.out hk hkC hwf hwk
   clear hd ER hkC hk
   unfold encO at A2 H6
   unfold encO at A1
   unfold encO
   go_enter Tryz.func17,Tryz.ntmps17
   go_upto_region 1 with fail
   rw [← HW0.out,← HBX.out]
   go_wp2_with fail
   refine A0.out.mono ?_;rintro e w5 ⟨rfl,rfl⟩
   go_wp2_with fail
   rw [← HW1.out]
   refine A1.out.mono ?_;rintro e w5 ⟨rfl,hb5⟩
   go_wp2_with fail
   refine (A2.out _ hb5).mono ?_;rintro e w6 ⟨rfl,hb6⟩
   go_wp2_with fail
   refine (H6 _ (Below.step hb5 hb6)).mono ?_;rintro e w7 ⟨rfl,L7,r7,s7⟩
   go_wp2_with fail
   refine bodyPost_ret (v:=.tuple #[.int .i64 R.1,.int .i64 R.2.1]) (by simp [results,Tryz.results17,go_sem]) rfl ⟨rfl,_,r7,S1.out.trans ((SStep.of (Below.step hb5 hb6)).trans s7)⟩
 by_cases E2:o.kind=2
 ·have EK:=Lib.hid (show kindV o=.iface 199 (encO o) by unfold kindV;rw [if_neg E1,if_pos E2])
  rw [EK.out] at A1
  have ER:=Lib.hid (HRR.out.trans (opR_2 (s:=s') E2))
  clear E1 E2
  cases hd:nameV o.task with
  | false =>
   rw [hd,if_neg (by simp)] at ER
   have EE3:=Lib.hid (show R=(0,301,s') from ER.out)
   have A2:=Lib.hid fun (w6:World) (hb:Below W1.heap.size W1 w6)=>ckTask_at (w:=w6) x o
   rw [hd] at A2
   clear hd ER
   unfold encO at A2
   unfold encO at A1
   unfold encO
   go_enter Tryz.func17,Tryz.ntmps17
   go_upto_region 1 with fail
   rw [← HW0.out,← HBX.out]
   go_wp2_with fail
   refine A0.out.mono ?_;rintro e w5 ⟨rfl,rfl⟩
   go_wp2_with fail
   rw [← HW1.out]
   refine A1.out.mono ?_;rintro e w5 ⟨rfl,hb5⟩
   go_wp2_with fail
   refine (A2.out _ hb5).mono ?_;rintro e w6 ⟨rfl,hb6⟩
   go_wp2_with fail
   refine bodyPost_ret (v:=.tuple #[.int .i64 0,.int .i64 301]) (by simp [results,Tryz.results17,go_sem]) rfl ⟨by rw [EE3.out],L,?_,S1.out.trans (SStep.of (Below.step hb5 hb6))⟩
   rw [EE3.out]
   exact H1.out.below (Below.step hb5 hb6)
  | true =>
   rw [hd,if_pos rfl] at ER
   have A2:=Lib.hid fun (w6:World) (hb:Below W1.heap.size W1 w6)=>ckTask_at (w:=w6) x o
   rw [hd] at A2
   have H6:∀ w6,Below W1.heap.size W1 w6→Calls Tryz.prog 300 #[encO o,.pointer (some ⟨x,0,none⟩)] w6 (SDone w6 x L R.1 R.2.1 R.2.2):=fun w6 hb=>by
    have h6:=H1.out.below hb
    rw [ER.out];dsimp only
    exact (dWake_at h6 HO.out hwf hwk).mono fun e w' q=>q.done
   clear hd ER
   unfold encO at A2 H6
   unfold encO at A1
   unfold encO
   go_enter Tryz.func17,Tryz.ntmps17
   go_upto_region 1 with fail
   rw [← HW0.out,← HBX.out]
   go_wp2_with fail
   refine A0.out.mono ?_;rintro e w5 ⟨rfl,rfl⟩
   go_wp2_with fail
   rw [← HW1.out]
   refine A1.out.mono ?_;rintro e w5 ⟨rfl,hb5⟩
   go_wp2_with fail
   refine (A2.out _ hb5).mono ?_;rintro e w6 ⟨rfl,hb6⟩
   go_wp2_with fail
   refine (H6 _ (Below.step hb5 hb6)).mono ?_;rintro e w7 ⟨rfl,L7,r7,s7⟩
   go_wp2_with fail
   refine bodyPost_ret (v:=.tuple #[.int .i64 R.1,.int .i64 R.2.1]) (by simp [results,Tryz.results17,go_sem]) rfl ⟨rfl,_,r7,S1.out.trans ((SStep.of (Below.step hb5 hb6)).trans s7)⟩
 by_cases E3:o.kind=3
 ·have EK:=Lib.hid (show kindV o=.iface 200 (encO o) by unfold kindV;rw [if_neg E1,if_neg E2,if_pos E3])
  rw [EK.out] at A1
  have ER:=Lib.hid (HRR.out.trans (opR_3 (s:=s') E3))
  clear E1 E2 E3
  cases hd:hasV (s'.C:Int) o.cpu with
  | false =>
   rw [hd,if_neg (by simp)] at ER
   have EE3:=Lib.hid (show R=(0,300,s') from ER.out)
   have A2:=Lib.hid fun (w6:World) (hb:Below W1.heap.size W1 w6)=>ckCPU_at o (H1.out.below hb)
   rw [hd] at A2
   clear hd ER
   unfold encO at A2
   unfold encO at A1
   unfold encO
   go_enter Tryz.func17,Tryz.ntmps17
   go_upto_region 1 with fail
   rw [← HW0.out,← HBX.out]
   go_wp2_with fail
   refine A0.out.mono ?_;rintro e w5 ⟨rfl,rfl⟩
   go_wp2_with fail
   rw [← HW1.out]
   refine A1.out.mono ?_;rintro e w5 ⟨rfl,hb5⟩
   go_wp2_with fail
   refine (A2.out _ hb5).mono ?_;rintro e w6 ⟨rfl,hb6⟩
   go_wp2_with fail
   refine bodyPost_ret (v:=.tuple #[.int .i64 0,.int .i64 300]) (by simp [results,Tryz.results17,go_sem]) rfl ⟨by rw [EE3.out],L,?_,S1.out.trans (SStep.of (Below.step hb5 hb6))⟩
   rw [EE3.out]
   exact H1.out.below (Below.step hb5 hb6)
  | true =>
   rw [hd,if_pos rfl] at ER
   have A2:=Lib.hid fun (w6:World) (hb:Below W1.heap.size W1 w6)=>ckCPU_at o (H1.out.below hb)
   rw [hd] at A2
   obtain ⟨hkC,hk⟩:=has_nat hd
   have H6:∀ w6,Below W1.heap.size W1 w6→Calls Tryz.prog 301 #[encO o,.pointer (some ⟨x,0,none⟩)] w6 (SDone w6 x L R.1 R.2.1 R.2.2):=fun w6 hb=>by
    have h6:=H1.out.below hb
    rw [ER.out];dsimp only
    exact (dBlock_at h6 HO.out hk hkC hwk).mono fun e w' q=>q.done
   clear hd ER hkC hk
   unfold encO at A2 H6
   unfold encO at A1
   unfold encO
   go_enter Tryz.func17,Tryz.ntmps17
   go_upto_region 1 with fail
   rw [← HW0.out,← HBX.out]
   go_wp2_with fail
   refine A0.out.mono ?_;rintro e w5 ⟨rfl,rfl⟩
   go_wp2_with fail
   rw [← HW1.out]
   refine A1.out.mono ?_;rintro e w5 ⟨rfl,hb5⟩
   go_wp2_with fail
   refine (A2.out _ hb5).mono ?_;rintro e w6 ⟨rfl,hb6⟩
   go_wp2_with fail
   refine (H6 _ (Below.step hb5 hb6)).mono ?_;rintro e w7 ⟨rfl,L7,r7,s7⟩
   go_wp2_with fail
   refine bodyPost_ret (v:=.tuple #[.int .i64 R.1,.int .i64 R.2.1]) (by simp [results,Tryz.results17,go_sem]) rfl ⟨rfl,_,r7,S1.out.trans ((SStep.of (Below.step hb5 hb6)).trans s7)⟩
 by_cases E4:o.kind=4
 ·have EK:=Lib.hid (show kindV o=.iface 201 (encO o) by unfold kindV;rw [if_neg E1,if_neg E2,if_neg E3,if_pos E4])
  rw [EK.out] at A1
  have ER:=Lib.hid (HRR.out.trans (opR_4 (s:=s') E4))
  clear E1 E2 E3 E4
  cases hd:hasV (s'.C:Int) o.cpu with
  | false =>
   rw [hd,if_neg (by simp)] at ER
   have EE3:=Lib.hid (show R=(0,300,s') from ER.out)
   have A2:=Lib.hid fun (w6:World) (hb:Below W1.heap.size W1 w6)=>ckCPU_at o (H1.out.below hb)
   rw [hd] at A2
   clear hd ER
   unfold encO at A2
   unfold encO at A1
   unfold encO
   go_enter Tryz.func17,Tryz.ntmps17
   go_upto_region 1 with fail
   rw [← HW0.out,← HBX.out]
   go_wp2_with fail
   refine A0.out.mono ?_;rintro e w5 ⟨rfl,rfl⟩
   go_wp2_with fail
   rw [← HW1.out]
   refine A1.out.mono ?_;rintro e w5 ⟨rfl,hb5⟩
   go_wp2_with fail
   refine (A2.out _ hb5).mono ?_;rintro e w6 ⟨rfl,hb6⟩
   go_wp2_with fail
   refine bodyPost_ret (v:=.tuple #[.int .i64 0,.int .i64 300]) (by simp [results,Tryz.results17,go_sem]) rfl ⟨by rw [EE3.out],L,?_,S1.out.trans (SStep.of (Below.step hb5 hb6))⟩
   rw [EE3.out]
   exact H1.out.below (Below.step hb5 hb6)
  | true =>
   rw [hd,if_pos rfl] at ER
   have A2:=Lib.hid fun (w6:World) (hb:Below W1.heap.size W1 w6)=>ckCPU_at o (H1.out.below hb)
   rw [hd] at A2
   obtain ⟨hkC,hk⟩:=has_nat hd
   have H6:∀ w6,Below W1.heap.size W1 w6→Calls Tryz.prog 306 #[encO o,.pointer (some ⟨x,0,none⟩)] w6 (SDone w6 x L R.1 R.2.1 R.2.2):=fun w6 hb=>by
    have h6:=H1.out.below hb
    rw [ER.out];dsimp only
    exact (dExit_at h6 HO.out hk hkC hwk).mono fun e w' q=>q.done
   clear hd ER hkC hk
   unfold encO at A2 H6
   unfold encO at A1
   unfold encO
   go_enter Tryz.func17,Tryz.ntmps17
   go_upto_region 1 with fail
   rw [← HW0.out,← HBX.out]
   go_wp2_with fail
   refine A0.out.mono ?_;rintro e w5 ⟨rfl,rfl⟩
   go_wp2_with fail
   rw [← HW1.out]
   refine A1.out.mono ?_;rintro e w5 ⟨rfl,hb5⟩
   go_wp2_with fail
   refine (A2.out _ hb5).mono ?_;rintro e w6 ⟨rfl,hb6⟩
   go_wp2_with fail
   refine (H6 _ (Below.step hb5 hb6)).mono ?_;rintro e w7 ⟨rfl,L7,r7,s7⟩
   go_wp2_with fail
   refine bodyPost_ret (v:=.tuple #[.int .i64 R.1,.int .i64 R.2.1]) (by simp [results,Tryz.results17,go_sem]) rfl ⟨rfl,_,r7,S1.out.trans ((SStep.of (Below.step hb5 hb6)).trans s7)⟩
 by_cases E5:o.kind=5
 ·have EK:=Lib.hid (show kindV o=.iface 202 (encO o) by unfold kindV;rw [if_neg E1,if_neg E2,if_neg E3,if_neg E4,if_pos E5])
  rw [EK.out] at A1
  have ER:=Lib.hid (HRR.out.trans (opR_5 (s:=s') E5))
  clear E1 E2 E3 E4 E5
  cases hd:hasV (s'.C:Int) o.cpu with
  | false =>
   rw [hd,if_neg (by simp)] at ER
   have EE3:=Lib.hid (show R=(0,300,s') from ER.out)
   have A2:=Lib.hid fun (w6:World) (hb:Below W1.heap.size W1 w6)=>ckCPU_at o (H1.out.below hb)
   rw [hd] at A2
   clear hd ER
   unfold encO at A2
   unfold encO at A1
   unfold encO
   go_enter Tryz.func17,Tryz.ntmps17
   go_upto_region 1 with fail
   rw [← HW0.out,← HBX.out]
   go_wp2_with fail
   refine A0.out.mono ?_;rintro e w5 ⟨rfl,rfl⟩
   go_wp2_with fail
   rw [← HW1.out]
   refine A1.out.mono ?_;rintro e w5 ⟨rfl,hb5⟩
   go_wp2_with fail
   refine (A2.out _ hb5).mono ?_;rintro e w6 ⟨rfl,hb6⟩
   go_wp2_with fail
   refine bodyPost_ret (v:=.tuple #[.int .i64 0,.int .i64 300]) (by simp [results,Tryz.results17,go_sem]) rfl ⟨by rw [EE3.out],L,?_,S1.out.trans (SStep.of (Below.step hb5 hb6))⟩
   rw [EE3.out]
   exact H1.out.below (Below.step hb5 hb6)
  | true =>
   rw [hd,if_pos rfl] at ER
   have A2:=Lib.hid fun (w6:World) (hb:Below W1.heap.size W1 w6)=>ckCPU_at o (H1.out.below hb)
   rw [hd] at A2
   obtain ⟨hkC,hk⟩:=has_nat hd
   have H6:∀ w6,Below W1.heap.size W1 w6→Calls Tryz.prog 307 #[encO o,.pointer (some ⟨x,0,none⟩)] w6 (SDone w6 x L R.1 R.2.1 R.2.2):=fun w6 hb=>by
    have h6:=H1.out.below hb
    rw [ER.out];dsimp only
    exact (dTick_at h6 HO.out hk hkC hwf hwk).mono fun e w' q=>q.done
   clear hd ER hkC hk
   unfold encO at A2 H6
   unfold encO at A1
   unfold encO
   go_enter Tryz.func17,Tryz.ntmps17
   go_upto_region 1 with fail
   rw [← HW0.out,← HBX.out]
   go_wp2_with fail
   refine A0.out.mono ?_;rintro e w5 ⟨rfl,rfl⟩
   go_wp2_with fail
   rw [← HW1.out]
   refine A1.out.mono ?_;rintro e w5 ⟨rfl,hb5⟩
   go_wp2_with fail
   refine (A2.out _ hb5).mono ?_;rintro e w6 ⟨rfl,hb6⟩
   go_wp2_with fail
   refine (H6 _ (Below.step hb5 hb6)).mono ?_;rintro e w7 ⟨rfl,L7,r7,s7⟩
   go_wp2_with fail
   refine bodyPost_ret (v:=.tuple #[.int .i64 R.1,.int .i64 R.2.1]) (by simp [results,Tryz.results17,go_sem]) rfl ⟨rfl,_,r7,S1.out.trans ((SStep.of (Below.step hb5 hb6)).trans s7)⟩
 by_cases E6:o.kind=6
 ·have EK:=Lib.hid (show kindV o=.iface 203 (encO o) by unfold kindV;rw [if_neg E1,if_neg E2,if_neg E3,if_neg E4,if_neg E5,if_pos E6])
  rw [EK.out] at A1
  have ER:=Lib.hid (HRR.out.trans (opR_6 (s:=s') E6))
  clear E1 E2 E3 E4 E5 E6
  cases hd:hasV (s'.C:Int) o.cpu with
  | false =>
   rw [hd,if_neg (by simp)] at ER
   have EE3:=Lib.hid (show R=(0,300,s') from ER.out)
   have A2:=Lib.hid fun (w6:World) (hb:Below W1.heap.size W1 w6)=>ckCPU_at o (H1.out.below hb)
   rw [hd] at A2
   clear hd ER
   unfold encO at A2
   unfold encO at A1
   unfold encO
   go_enter Tryz.func17,Tryz.ntmps17
   go_upto_region 1 with fail
   rw [← HW0.out,← HBX.out]
   go_wp2_with fail
   refine A0.out.mono ?_;rintro e w5 ⟨rfl,rfl⟩
   go_wp2_with fail
   rw [← HW1.out]
   refine A1.out.mono ?_;rintro e w5 ⟨rfl,hb5⟩
   go_wp2_with fail
   refine (A2.out _ hb5).mono ?_;rintro e w6 ⟨rfl,hb6⟩
   go_wp2_with fail
   refine bodyPost_ret (v:=.tuple #[.int .i64 0,.int .i64 300]) (by simp [results,Tryz.results17,go_sem]) rfl ⟨by rw [EE3.out],L,?_,S1.out.trans (SStep.of (Below.step hb5 hb6))⟩
   rw [EE3.out]
   exact H1.out.below (Below.step hb5 hb6)
  | true =>
   rw [hd,if_pos rfl] at ER
   have A2:=Lib.hid fun (w6:World) (hb:Below W1.heap.size W1 w6)=>ckCPU_at o (H1.out.below hb)
   rw [hd] at A2
   obtain ⟨hkC,hk⟩:=has_nat hd
   have H6:∀ w6,Below W1.heap.size W1 w6→Calls Tryz.prog 311 #[encO o,.pointer (some ⟨x,0,none⟩)] w6 (SDone w6 x L R.1 R.2.1 R.2.2):=fun w6 hb=>by
    have h6:=H1.out.below hb
    rw [ER.out];dsimp only
    exact (dPick_at h6 HO.out hk hkC).mono fun e w' q=>q.done
   clear hd ER hkC hk
   unfold encO at A2 H6
   unfold encO at A1
   unfold encO
   go_enter Tryz.func17,Tryz.ntmps17
   go_upto_region 1 with fail
   rw [← HW0.out,← HBX.out]
   go_wp2_with fail
   refine A0.out.mono ?_;rintro e w5 ⟨rfl,rfl⟩
   go_wp2_with fail
   rw [← HW1.out]
   refine A1.out.mono ?_;rintro e w5 ⟨rfl,hb5⟩
   go_wp2_with fail
   refine (A2.out _ hb5).mono ?_;rintro e w6 ⟨rfl,hb6⟩
   go_wp2_with fail
   refine (H6 _ (Below.step hb5 hb6)).mono ?_;rintro e w7 ⟨rfl,L7,r7,s7⟩
   go_wp2_with fail
   refine bodyPost_ret (v:=.tuple #[.int .i64 R.1,.int .i64 R.2.1]) (by simp [results,Tryz.results17,go_sem]) rfl ⟨rfl,_,r7,S1.out.trans ((SStep.of (Below.step hb5 hb6)).trans s7)⟩
 by_cases E7:o.kind=7
 ·have EK:=Lib.hid (show kindV o=.iface 204 (encO o) by unfold kindV;rw [if_neg E1,if_neg E2,if_neg E3,if_neg E4,if_neg E5,if_neg E6,if_pos E7])
  rw [EK.out] at A1
  have ER:=Lib.hid (HRR.out.trans (opR_7 (s:=s') E7))
  clear E1 E2 E3 E4 E5 E6 E7
  cases hd:nameV o.task with
  | false =>
   rw [hd,if_neg (by simp)] at ER
   have EE3:=Lib.hid (show R=(0,301,s') from ER.out)
   have A2:=Lib.hid fun (w6:World) (hb:Below W1.heap.size W1 w6)=>ckTask_at (w:=w6) x o
   rw [hd] at A2
   clear hd ER
   unfold encO at A2
   unfold encO at A1
   unfold encO
   go_enter Tryz.func17,Tryz.ntmps17
   go_upto_region 1 with fail
   rw [← HW0.out,← HBX.out]
   go_wp2_with fail
   refine A0.out.mono ?_;rintro e w5 ⟨rfl,rfl⟩
   go_wp2_with fail
   rw [← HW1.out]
   refine A1.out.mono ?_;rintro e w5 ⟨rfl,hb5⟩
   go_wp2_with fail
   refine (A2.out _ hb5).mono ?_;rintro e w6 ⟨rfl,hb6⟩
   go_wp2_with fail
   refine bodyPost_ret (v:=.tuple #[.int .i64 0,.int .i64 301]) (by simp [results,Tryz.results17,go_sem]) rfl ⟨by rw [EE3.out],L,?_,S1.out.trans (SStep.of (Below.step hb5 hb6))⟩
   rw [EE3.out]
   exact H1.out.below (Below.step hb5 hb6)
  | true =>
   rw [hd,if_pos rfl] at ER
   have A2:=Lib.hid fun (w6:World) (hb:Below W1.heap.size W1 w6)=>ckTask_at (w:=w6) x o
   rw [hd] at A2
   have H6:∀ w6,Below W1.heap.size W1 w6→Calls Tryz.prog 312 #[encO o,.pointer (some ⟨x,0,none⟩)] w6 (SDone w6 x L R.1 R.2.1 R.2.2):=fun w6 hb=>by
    have h6:=H1.out.below hb
    rw [ER.out];dsimp only
    exact (dReweight_at h6 HO.out hwf hwk).mono fun e w' q=>q.done
   clear hd ER
   unfold encO at A2 H6
   unfold encO at A1
   unfold encO
   go_enter Tryz.func17,Tryz.ntmps17
   go_upto_region 1 with fail
   rw [← HW0.out,← HBX.out]
   go_wp2_with fail
   refine A0.out.mono ?_;rintro e w5 ⟨rfl,rfl⟩
   go_wp2_with fail
   rw [← HW1.out]
   refine A1.out.mono ?_;rintro e w5 ⟨rfl,hb5⟩
   go_wp2_with fail
   refine (A2.out _ hb5).mono ?_;rintro e w6 ⟨rfl,hb6⟩
   go_wp2_with fail
   refine (H6 _ (Below.step hb5 hb6)).mono ?_;rintro e w7 ⟨rfl,L7,r7,s7⟩
   go_wp2_with fail
   refine bodyPost_ret (v:=.tuple #[.int .i64 R.1,.int .i64 R.2.1]) (by simp [results,Tryz.results17,go_sem]) rfl ⟨rfl,_,r7,S1.out.trans ((SStep.of (Below.step hb5 hb6)).trans s7)⟩
 by_cases E8:o.kind=8
 ·have EK:=Lib.hid (show kindV o=.iface 205 (encO o) by unfold kindV;rw [if_neg E1,if_neg E2,if_neg E3,if_neg E4,if_neg E5,if_neg E6,if_neg E7,if_pos E8])
  rw [EK.out] at A1
  have ER:=Lib.hid (HRR.out.trans (opR_8 (s:=s') E8))
  clear E1 E2 E3 E4 E5 E6 E7 E8
  have H6:∀ w6,Below W1.heap.size W1 w6→Calls Tryz.prog 314 #[encO o,.pointer (some ⟨x,0,none⟩)] w6 (SDone w6 x L R.1 R.2.1 R.2.2):=fun w6 hb=>by
   have h6:=H1.out.below hb
   rw [ER.out];dsimp only
   exact (dRegroup_at h6 HO.out hwf hwk).mono fun e w' q=>q.done
  clear ER
  unfold encO at H6
  unfold encO at A1
  unfold encO
  go_enter Tryz.func17,Tryz.ntmps17
  go_upto_region 1 with fail
  rw [← HW0.out,← HBX.out]
  go_wp2_with fail
  refine A0.out.mono ?_;rintro e w5 ⟨rfl,rfl⟩
  go_wp2_with fail
  rw [← HW1.out]
  refine A1.out.mono ?_;rintro e w5 ⟨rfl,hb5⟩
  go_wp2_with fail
  refine (H6 _ hb5).mono ?_;rintro e w7 ⟨rfl,L7,r7,s7⟩
  go_wp2_with fail
  refine bodyPost_ret (v:=.tuple #[.int .i64 R.1,.int .i64 R.2.1]) (by simp [results,Tryz.results17,go_sem]) rfl ⟨rfl,_,r7,S1.out.trans ((SStep.of hb5).trans s7)⟩
 by_cases E9:o.kind=9
 ·have EK:=Lib.hid (show kindV o=.iface 206 (encO o) by unfold kindV;rw [if_neg E1,if_neg E2,if_neg E3,if_neg E4,if_neg E5,if_neg E6,if_neg E7,if_neg E8,if_pos E9])
  rw [EK.out] at A1
  have ER:=Lib.hid (HRR.out.trans (opR_9 (s:=s') E9))
  clear E1 E2 E3 E4 E5 E6 E7 E8 E9
  have H6:∀ w6,Below W1.heap.size W1 w6→Calls Tryz.prog 315 #[encO o,.pointer (some ⟨x,0,none⟩)] w6 (SDone w6 x L R.1 R.2.1 R.2.2):=fun w6 hb=>by
   have h6:=H1.out.below hb
   rw [ER.out];dsimp only
   exact (dMigrate_at h6 HO.out hwf hwk2).mono fun e w' q=>q.done
  clear ER
  unfold encO at H6
  unfold encO at A1
  unfold encO
  go_enter Tryz.func17,Tryz.ntmps17
  go_upto_region 1 with fail
  rw [← HW0.out,← HBX.out]
  go_wp2_with fail
  refine A0.out.mono ?_;rintro e w5 ⟨rfl,rfl⟩
  go_wp2_with fail
  rw [← HW1.out]
  refine A1.out.mono ?_;rintro e w5 ⟨rfl,hb5⟩
  go_wp2_with fail
  refine (H6 _ hb5).mono ?_;rintro e w7 ⟨rfl,L7,r7,s7⟩
  go_wp2_with fail
  refine bodyPost_ret (v:=.tuple #[.int .i64 R.1,.int .i64 R.2.1]) (by simp [results,Tryz.results17,go_sem]) rfl ⟨rfl,_,r7,S1.out.trans ((SStep.of hb5).trans s7)⟩
 by_cases E10:o.kind=10
 ·have EK:=Lib.hid (show kindV o=.iface 207 (encO o) by unfold kindV;rw [if_neg E1,if_neg E2,if_neg E3,if_neg E4,if_neg E5,if_neg E6,if_neg E7,if_neg E8,if_neg E9,if_pos E10])
  rw [EK.out] at A1
  have ER:=Lib.hid (HRR.out.trans (opR_10 (s:=s') E10))
  clear E1 E2 E3 E4 E5 E6 E7 E8 E9 E10
  cases hd:hasV (s'.C:Int) o.cpu with
  | false =>
   rw [hd,if_neg (by simp)] at ER
   have EE3:=Lib.hid (show R=(0,300,s') from ER.out)
   have A2:=Lib.hid fun (w6:World) (hb:Below W1.heap.size W1 w6)=>ckCPU_at o (H1.out.below hb)
   rw [hd] at A2
   clear hd ER
   unfold encO at A2
   unfold encO at A1
   unfold encO
   go_enter Tryz.func17,Tryz.ntmps17
   go_upto_region 1 with fail
   rw [← HW0.out,← HBX.out]
   go_wp2_with fail
   refine A0.out.mono ?_;rintro e w5 ⟨rfl,rfl⟩
   go_wp2_with fail
   rw [← HW1.out]
   refine A1.out.mono ?_;rintro e w5 ⟨rfl,hb5⟩
   go_wp2_with fail
   refine (A2.out _ hb5).mono ?_;rintro e w6 ⟨rfl,hb6⟩
   go_wp2_with fail
   refine bodyPost_ret (v:=.tuple #[.int .i64 0,.int .i64 300]) (by simp [results,Tryz.results17,go_sem]) rfl ⟨by rw [EE3.out],L,?_,S1.out.trans (SStep.of (Below.step hb5 hb6))⟩
   rw [EE3.out]
   exact H1.out.below (Below.step hb5 hb6)
  | true =>
   rw [hd,if_pos rfl] at ER
   have A2:=Lib.hid fun (w6:World) (hb:Below W1.heap.size W1 w6)=>ckCPU_at o (H1.out.below hb)
   rw [hd] at A2
   obtain ⟨hkC,hk⟩:=has_nat hd
   have H6:∀ w6,Below W1.heap.size W1 w6→Calls Tryz.prog 317 #[encO o,.pointer (some ⟨x,0,none⟩)] w6 (SDone w6 x L R.1 R.2.1 R.2.2):=fun w6 hb=>by
    have h6:=H1.out.below hb
    rw [ER.out];dsimp only
    exact (dBalance_at h6 HO.out hk hkC).mono fun e w' q=>q.done
   clear hd ER hkC hk
   unfold encO at A2 H6
   unfold encO at A1
   unfold encO
   go_enter Tryz.func17,Tryz.ntmps17
   go_upto_region 1 with fail
   rw [← HW0.out,← HBX.out]
   go_wp2_with fail
   refine A0.out.mono ?_;rintro e w5 ⟨rfl,rfl⟩
   go_wp2_with fail
   rw [← HW1.out]
   refine A1.out.mono ?_;rintro e w5 ⟨rfl,hb5⟩
   go_wp2_with fail
   refine (A2.out _ hb5).mono ?_;rintro e w6 ⟨rfl,hb6⟩
   go_wp2_with fail
   refine (H6 _ (Below.step hb5 hb6)).mono ?_;rintro e w7 ⟨rfl,L7,r7,s7⟩
   go_wp2_with fail
   refine bodyPost_ret (v:=.tuple #[.int .i64 R.1,.int .i64 R.2.1]) (by simp [results,Tryz.results17,go_sem]) rfl ⟨rfl,_,r7,S1.out.trans ((SStep.of (Below.step hb5 hb6)).trans s7)⟩
 have EK:=Lib.hid (show kindV o=.nilIface by unfold kindV;rw [if_neg E1,if_neg E2,if_neg E3,if_neg E4,if_neg E5,if_neg E6,if_neg E7,if_neg E8,if_neg E9,if_neg E10])
 rw [EK.out] at A1
 have EE3:=Lib.hid (HRR.out.trans (opR_0 (s:=s') (by omega)))
 clear E1 E2 E3 E4 E5 E6 E7 E8 E9 E10
 unfold encO at A1
 unfold encO
 go_enter Tryz.func17,Tryz.ntmps17
 go_upto_region 1 with fail
 rw [← HW0.out,← HBX.out]
 go_wp2_with fail
 refine A0.out.mono ?_;rintro e w5 ⟨rfl,rfl⟩
 go_wp2_with fail
 rw [← HW1.out]
 refine A1.out.mono ?_;rintro e w5 ⟨rfl,hb5⟩
 go_wp2_with fail
 refine bodyPost_ret (v:=.tuple #[.int .i64 0,.int .i64 2]) (by simp [results,Tryz.results17,go_sem]) rfl ⟨by rw [EE3.out],L,?_,S1.out.trans (SStep.of hb5)⟩
 rw [EE3.out]
 exact H1.out.below hb5
end Go.Proofs.YtapnaocdehahdaaGreat
