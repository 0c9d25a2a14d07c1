/-
  Layer 18 (heap), law.go: act: Pop.
-/
import Derived.Test.YtpbaegdmjmickaaHeapAc
namespace Go.Proofs.Ytpbaegdmjmickaa
open Go.RowKit Go.Maps Go.IntWalk Go.Lib
set_option linter.unusedVariables false
set_option linter.unusedSimpArgs false
theorem act_done2 {w W0 w9 wf : World} {p bq : Nat} {F F9 : List Nat} {n : Int} {a' : Option Addr} {cap' : Nat} {S' : Items} (hW : Below w.heap.size w W0) (hF : ∀ b ∈ F, b < w.heap.size) (hx : w.heap.size ≤ bq) (hbq : bq < W0.heap.size)
    (hS : Step F W0 F9 w9) (hH : HeapIn w9 p F9 n S') (hR : HeldR encQ (bq :: F9) w9 (.slice a' S'.length cap') S') (KF : Kept [bq] w9 wf) :
    ActP w p F n (.returned (.tuple #[.agg #[.int .i64 n, .slice a' S'.length cap'], .bool true])) wf := by
  have hn : bq ∉ F := fun m => by have := hF _ m; omega
  have hn9 : bq ∉ F9 := hS.off hn hbq
  have s1 : Step F w F9 w9 := (Step.of hW).trans hS
  refine ⟨a', cap', S', F9, rfl, hH.kept KF (fun b hb m => ?_), ?_, ⟨?_, s1.new⟩⟩
  · simp at m; subst m; exact hn9 hb
  · exact (hR.kept (KF.mono (fun b hb => by simp at hb; simp [hb]))).sub (fun b hb => by simp [hb])
  · refine ⟨KF.os.trans s1.kept.os, KF.tape.trans s1.kept.tape, KF.output.trans s1.kept.output, Nat.le_trans s1.kept.size KF.size, fun k hk hkn => ?_⟩
    rw [KF.block k (Nat.lt_of_lt_of_le hk s1.kept.size) (by simp; omega)]
    exact s1.kept.block k hk hkn
set_option maxRecDepth 100000 in
set_option maxHeartbeats 4000000 in
theorem act_pop {p : Nat} {F : List Nat} {n : Int} {S : Items} (a : Option Addr) (cap : Nat) (kind id key : Int) (w : World) (h : HeapIn w p F n S) (hr : HeldR encQ F w (.slice a S.length cap) S) (hk : kind.tmod 6 = 4) (hid : (Lit.int .i64 id).wf = true) (hkey : 0 ≤ key ∧ key ≤ 18446744073709551615) :
    Calls Try.prog 25 #[.pointer (some ⟨p, 0, none⟩), .agg #[.int .i64 n, .slice a S.length cap], .agg #[.int .u8 kind, .int .i64 id, .int .u64 key]] w (ActP w p F n) := by
  have HI := Lib.hid h
  have HR := Lib.hid hr
  have HF := Lib.hid h.lt
  have HRS := Lib.hid h.refS
  have HID := Lib.hid hid
  have HKEY := Lib.hid hkey
  have AP := Lib.hid fun (W : World) (q : RecsAt encQ W (.slice a S.length cap) S) => rPut_any a cap n id key S W q h.refS
  have AS := Lib.hid fun (W : World) (q : HeldR encQ [] W (.slice a S.length cap) S) => rSet_any a cap n id key S W q h.refS
  have AO := Lib.hid fun (i : Int) (W : World) (q : RecsAt encQ W (.slice a S.length cap) S) => rOut_any a cap n i S W q h.refS
  have hM4 : S.length ≤ 400000 := h.refS.len
  clear h hr hid hkey
  obtain ⟨M, hM⟩ : ∃ M, M = S.length := ⟨_, rfl⟩
  have HM := Lib.hid hM.symm
  rw [← hM] at HR AP AS AO hM4 ⊢
  clear hM
  obtain ⟨W0, hW0⟩ : ∃ W0, W0 = ((w.alloc (.cells #[.int .i64 n, .slice a M cap] 58)).alloc (.cells #[.int .u8 kind, .int .i64 id, .int .u64 key] 60)).alloc (.cells #[.int .i64 0, .slice none 0 0] 58) := ⟨_, rfl⟩
  have HB0 := Lib.hid (show Below w.heap.size w W0 by rw [hW0]; exact Below.allocS (Below.allocS (Below.allocS (Below.refl _ _) _) _) _)
  have r0 : W0.cell? ⟨w.heap.size, 0, none⟩ = some (.int .i64 n) := by rw [hW0]; exact cell_al _ (cell_al _ (cell_nw _ _ _ 0 _ rfl))
  have r1 : W0.cell? ⟨w.heap.size, 1, none⟩ = some (.slice a M cap) := by rw [hW0]; exact cell_al _ (cell_al _ (cell_nw _ _ _ 1 _ rfl))
  have x0 : W0.cell? ⟨w.heap.size + 1, 0, none⟩ = some (.int .u8 kind) := by rw [hW0]; refine cell_al _ ?_; simp
  have x1 : W0.cell? ⟨w.heap.size + 1, 1, none⟩ = some (.int .i64 id) := by rw [hW0]; refine cell_al _ ?_; simp
  have x2 : W0.cell? ⟨w.heap.size + 1, 2, none⟩ = some (.int .u64 key) := by rw [hW0]; refine cell_al _ ?_; simp
  have q0 : W0.cell? ⟨w.heap.size + 1 + 1, 0, none⟩ = some (.int .i64 0) := by rw [hW0]; exact cell_nwE (by simp) _ _ 0 _ rfl
  have q1 : W0.cell? ⟨w.heap.size + 1 + 1, 1, none⟩ = some (.slice none 0 0) := by rw [hW0]; exact cell_nwE (by simp) _ _ 1 _ rfl
  have g0 : W0.frozen? ⟨w.heap.size + 1 + 1, 0, none⟩ = false := by rw [hW0]; exact frz_nwE (by simp) _ _ 0
  have g1 : W0.frozen? ⟨w.heap.size + 1 + 1, 1, none⟩ = false := by rw [hW0]; exact frz_nwE (by simp) _ _ 1
  have n0 : w.heap.size ∉ F := fun m => by have := HF.out _ m; omega
  have n1 : w.heap.size + 1 ∉ F := fun m => by have := HF.out _ m; omega
  have n2 : w.heap.size + 1 + 1 ∉ F := fun m => by have := HF.out _ m; omega
  have HW0 := Lib.hid hW0
  clear hW0
  clear AP AS
  have z0 : (kind.tmod 6 == 0) = false := by rw [hk]; rfl
  have z1 : (kind.tmod 6 == 1) = false := by rw [hk]; rfl
  have z2 : (kind.tmod 6 == 2) = false := by rw [hk]; rfl
  have z3 : (kind.tmod 6 == 3) = false := by rw [hk]; rfl
  have z4 : (kind.tmod 6 == 4) = true := by rw [hk]; rfl
  clear hk
  cases S with
  | nil =>
    have hM0 : M = 0 := HM.out.symm
    subst hM0
    go_enter Try.func25, Try.ntmps25
    go_wp2_with fail
    rw [← HW0.out]
    have HLQ := Lib.hid (lt_of_cell q0)
    generalize hbx : w.heap.size = bx at r0 r1 x0 x1 x2 q0 q1 g0 g1 n0 n1 n2 HLQ ⊢
    have HBX := Lib.hid hbx
    clear hbx
    refine (Pop_at W0 (HI.out.below HB0.out)).mono ?_
    rintro e w3 ⟨rfl, hA3⟩
    rw [(show popV ([] : Items) = .tuple #[.agg #[.int .i64 0, .int .u64 0], .int .i64 6] from rfl)]
    obtain ⟨F3, h3, s3⟩ := hA3.split
    replace g0 := s3.kept.frz g0 (lt_of_cell q0) n2
    replace g1 := s3.kept.frz g1 (lt_of_cell q1) n2
    replace q0 := s3.cell n2 q0
    replace q1 := s3.cell n2 q1
    replace r0 := s3.cell n0 r0
    replace r1 := s3.cell n0 r1
    clear x0 x1 x2 n1
    have HS3 := Lib.hid s3
    have HH3 := Lib.hid h3
    have o0 := Lib.hid (s3.off n0 (by have := HLQ.out; omega))
    have o2 := Lib.hid (s3.off n2 (by have := HLQ.out; omega))
    have HRR := Lib.hid (show HeldR encQ ((bx + 1 + 1) :: F3) w3 (.slice a _ cap) _ from (HR.out.step (F' := (bx + 1 + 1) :: F) (Kept.of HB0.out) (fun b hb => by
      have h1 := HBX.out
      rcases List.mem_cons.1 hb with rfl | hb
      · exact Or.inr (by omega)
      · exact Or.inl hb)).step (s3.kept.mono (fun b hb => by simp [hb])) (fun b hb => by
      rcases List.mem_cons.1 hb with rfl | hb
      · exact Or.inl (by simp)
      · rcases s3.new b hb with q | q
        · exact Or.inl (by simp [q])
        · exact Or.inr q))
    clear hA3 s3 h3 n0 n2
    have r1a := cell_al (.cells #[.int .i64 0, .int .u64 0] 28) r1
    go_wp2_with fail
    clear r1a
    obtain ⟨W4, hW4⟩ : ∃ W, W = w3.alloc (.cells #[.int .i64 0, .int .u64 0] 28) := ⟨_, rfl⟩
    rw [← hW4]
    have hb4 : Below w3.heap.size w3 W4 := by rw [hW4]; exact below_a _ _
    have p0 : W4.cell? ⟨w3.heap.size, 0, none⟩ = some (.int .i64 0) := by rw [hW4]; exact cell_nw _ _ _ 0 _ rfl
    have p1 : W4.cell? ⟨w3.heap.size, 1, none⟩ = some (.int .u64 0) := by rw [hW4]; exact cell_nw _ _ _ 1 _ rfl
    replace g0 := frz_later hb4 g0 (lt_of_cell q0)
    replace g1 := frz_later hb4 g1 (lt_of_cell q1)
    replace r0 := cell_later hb4 r0
    replace r1 := cell_later hb4 r1
    replace q0 := cell_later hb4 q0
    replace q1 := cell_later hb4 q1
    have HX4 := Lib.hid hb4
    have L17 := Lib.hid (show bx + 1 + 1 < w3.heap.size from Nat.lt_of_lt_of_le HLQ.out HS3.out.kept.size)
    generalize hb17 : w3.heap.size = b17 at p0 p1 L17 ⊢
    have HB17 := Lib.hid hb17
    have hm7 : b17 ∉ [bx + 1 + 1] := by have := L17.out; simp; omega
    have hm0 : bx ∉ [bx + 1 + 1] := by simp; omega
    clear hb4 hW4 hb17
    have hS0 : Kept [bx + 1 + 1] W4 W4.drew ∧ W4.drew.cell? ⟨b17, 0, none⟩ = some (.int .i64 0) ∧ W4.drew.cell? ⟨b17, 1, none⟩ = some (.int .u64 0) ∧ W4.drew.cell? ⟨bx, 0, none⟩ = some (.int .i64 n) ∧ W4.drew.cell? ⟨bx, 1, none⟩ = some (.slice a 0 cap) := ⟨Kept.drew (Kept.refl _ _), cell_dr p0, cell_dr p1, cell_dr r0, cell_dr r1⟩
    refine wp_region_held_drew (S := fun w' => Kept [bx + 1 + 1] W4 w' ∧ w'.cell? ⟨b17, 0, none⟩ = some (.int .i64 0) ∧ w'.cell? ⟨b17, 1, none⟩ = some (.int .u64 0) ∧ w'.cell? ⟨bx, 0, none⟩ = some (.int .i64 n) ∧ w'.cell? ⟨bx, 1, none⟩ = some (.slice a 0 cap)) (by kernel_rfl) hS0 (fun hHeld => ?_)
    refine takeH (i := 0) (v := ?v0_1) rfl (by kernel_rfl) (fun _ _ _ h => h) (by rfl) ?hy0_1 (by assumption) ?rest0_1
    case hy0_1 => (intro w hSw; (try dsimp only at hSw); go_simp; try with_reducible rfl)
    try simp only [Act.put, List.setIfInBounds_toArray, List.set_cons_zero, List.set_cons_succ]
    refine takeH (i := 1) (v := ?v1_2) rfl (by kernel_rfl) (fun _ _ _ h => h) (by rfl) ?hy1_2 (by assumption) ?rest1_2
    case hy1_2 => (intro w hSw; (try dsimp only at hSw); go_simp; try with_reducible rfl)
    try simp only [Act.put, List.setIfInBounds_toArray, List.set_cons_zero, List.set_cons_succ]
    refine takeH (i := 2) (v := ?v2_3) rfl (by kernel_rfl) (fun _ _ _ h => h) (by rfl) ?hy2_3 (by assumption) ?rest2_3
    case hy2_3 => (intro w hSw; (try dsimp only at hSw); go_simp; try with_reducible rfl)
    try simp only [Act.put, List.setIfInBounds_toArray, List.set_cons_zero, List.set_cons_succ]
    refine takeH (i := 3) (v := ?v3_4) rfl (by kernel_rfl) (fun _ _ _ h => h) (by rfl) ?hy3_4 (by assumption) ?rest3_4
    case hy3_4 => (intro w hSw; (try dsimp only at hSw); go_simp; try with_reducible rfl)
    try simp only [Act.put, List.setIfInBounds_toArray, List.set_cons_zero, List.set_cons_succ]
    refine takeH (i := 4) (v := ?v4_5) rfl (by kernel_rfl) (fun _ _ _ h => h) (by rfl) ?hy4_5 (by assumption) ?rest4_5
    case hy4_5 => (intro w hSw; (try dsimp only at hSw); go_simp; try with_reducible rfl)
    try simp only [Act.put, List.setIfInBounds_toArray, List.set_cons_zero, List.set_cons_succ]
    refine wpAnyH_ready (rs := [5, 8]) (by kernel_rfl) (by simp) ?_
    refine consH rfl (fun K hK => ?_) (consH rfl (fun K hK => ?_) (AllReadyH.nil))
    · skip
      go_simp
      skip
      refine hK.out _ _ ?_ (fun hHeld5 => ?_)
      · (first | assumption | (refine heldK_4 (by assumption) ?_ (by assumption) (by assumption) (by assumption) (by assumption) ; assumption) | (refine heldK_4 (Kept.of (below_ad _ _)) ?_ (by assumption) (by assumption) (by assumption) (by assumption) ; assumption) | (refine heldK_4 (Kept.of (below_a _ _)) ?_ (by assumption) (by assumption) (by assumption) (by assumption) ; assumption))
      clear hK K
      try simp only [Act.put, List.setIfInBounds_toArray, List.set_cons_zero, List.set_cons_succ]
      refine takeH (i := 6) (v := ?v6_6) rfl (by kernel_rfl) (fun _ _ _ h => h) (by rfl) ?hy6_6 (by assumption) ?rest6_6
      case hy6_6 => (intro w hSw; (try dsimp only at hSw); go_simp; try with_reducible rfl)
      try simp only [Act.put, List.setIfInBounds_toArray, List.set_cons_zero, List.set_cons_succ]
      refine takeH (i := 7) (v := ?v7_7) rfl (by kernel_rfl) (fun _ _ _ h => h) (by rfl) ?hy7_7 (by assumption) ?rest7_7
      case hy7_7 => (intro w hSw; (try dsimp only at hSw); go_simp; try with_reducible rfl)
      try simp only [Act.put, List.setIfInBounds_toArray, List.set_cons_zero, List.set_cons_succ]
      refine wpAnyH_ready (rs := [8]) (by kernel_rfl) (by simp) ?_
      refine consH rfl (fun K hK => ?_) (AllReadyH.nil)
      go_simp
      have hk9b : Kept [bx + 1 + 1] W4.drew ((W4.drew.setCell ⟨bx + 1 + 1, 0, none⟩ (.int .i64 n)).setCell ⟨bx + 1 + 1, 1, none⟩ (.slice a 0 cap)) := ((Kept.refl _ _).setCell (Or.inl (by simp)) _).setCell (Or.inl (by simp)) _
      refine hK.out _ _ ?_ (fun hHeld8 => ?_)
      · (first | assumption | (refine heldK_4 (by assumption) ?_ (by assumption) (by assumption) (by assumption) (by assumption) ; assumption) | (refine heldK_4 (Kept.of (below_ad _ _)) ?_ (by assumption) (by assumption) (by assumption) (by assumption) ; assumption) | (refine heldK_4 (Kept.of (below_a _ _)) ?_ (by assumption) (by assumption) (by assumption) (by assumption) ; assumption))
      clear hK K
      try simp only [Act.put, List.setIfInBounds_toArray, List.set_cons_zero, List.set_cons_succ]
      refine takeH (i := 9) (v := ?v9_8) rfl (by kernel_rfl) (fun _ _ _ h => h) (by rfl) ?hy9_8 (by assumption) ?rest9_8
      case hy9_8 => (intro w hSw; (try dsimp only at hSw); go_simp; try with_reducible rfl)
      try simp only [Act.put, List.setIfInBounds_toArray, List.set_cons_zero, List.set_cons_succ]
      refine wpAnyH_done (by kernel_rfl) ?_ _
      go_wp2_with fail
      refine bodyPost_ret (v := .tuple #[.agg #[.int .i64 n, .slice a 0 cap], .bool true]) (by simp [results, Try.results25, go_sem, *]) rfl ?_
      have KF : Kept [bx + 1 + 1] W4.drew ((W4.drew.setCell ⟨bx + 1 + 1, 0, none⟩ (.int .i64 n)).setCell ⟨bx + 1 + 1, 1, none⟩ (.slice a 0 cap)) := ((Kept.refl _ _).setCell (Or.inl (by simp)) _).setCell (Or.inl (by simp)) _
      exact act_done2 HB0.out HF.out (by have := HBX.out; omega) HLQ.out (HS3.out.trans (Step.of (HX4.out.drew))) (HH3.out.below HX4.out.drew) (HRR.out.later HX4.out.drew) KF
    · skip
      go_simp
      have hk9b : Kept [bx + 1 + 1] W4.drew ((W4.drew.setCell ⟨bx + 1 + 1, 0, none⟩ (.int .i64 n)).setCell ⟨bx + 1 + 1, 1, none⟩ (.slice a 0 cap)) := ((Kept.refl _ _).setCell (Or.inl (by simp)) _).setCell (Or.inl (by simp)) _
      refine hK.out _ _ ?_ (fun hHeld8 => ?_)
      · (first | assumption | (refine heldK_4 (by assumption) ?_ (by assumption) (by assumption) (by assumption) (by assumption) ; assumption) | (refine heldK_4 (Kept.of (below_ad _ _)) ?_ (by assumption) (by assumption) (by assumption) (by assumption) ; assumption) | (refine heldK_4 (Kept.of (below_a _ _)) ?_ (by assumption) (by assumption) (by assumption) (by assumption) ; assumption))
      clear hK K
      try simp only [Act.put, List.setIfInBounds_toArray, List.set_cons_zero, List.set_cons_succ]
      refine wpAnyH_ready (rs := [5]) (by kernel_rfl) (by simp) ?_
      refine consH rfl (fun K hK => ?_) (AllReadyH.nil)
      go_simp
      skip
      refine hK.out _ _ ?_ (fun hHeld5 => ?_)
      · (first | assumption | (refine heldK_4 (by assumption) ?_ (by assumption) (by assumption) (by assumption) (by assumption) ; assumption) | (refine heldK_4 (Kept.of (below_ad _ _)) ?_ (by assumption) (by assumption) (by assumption) (by assumption) ; assumption) | (refine heldK_4 (Kept.of (below_a _ _)) ?_ (by assumption) (by assumption) (by assumption) (by assumption) ; assumption))
      clear hK K
      try simp only [Act.put, List.setIfInBounds_toArray, List.set_cons_zero, List.set_cons_succ]
      refine takeH (i := 6) (v := ?v6_9) rfl (by kernel_rfl) (fun _ _ _ h => h) (by rfl) ?hy6_9 (by assumption) ?rest6_9
      case hy6_9 => (intro w hSw; (try dsimp only at hSw); go_simp; try with_reducible rfl)
      try simp only [Act.put, List.setIfInBounds_toArray, List.set_cons_zero, List.set_cons_succ]
      refine takeH (i := 7) (v := ?v7_10) rfl (by kernel_rfl) (fun _ _ _ h => h) (by rfl) ?hy7_10 (by assumption) ?rest7_10
      case hy7_10 => (intro w hSw; (try dsimp only at hSw); go_simp; try with_reducible rfl)
      try simp only [Act.put, List.setIfInBounds_toArray, List.set_cons_zero, List.set_cons_succ]
      refine takeH (i := 9) (v := ?v9_11) rfl (by kernel_rfl) (fun _ _ _ h => h) (by rfl) ?hy9_11 (by assumption) ?rest9_11
      case hy9_11 => (intro w hSw; (try dsimp only at hSw); go_simp; try with_reducible rfl)
      try simp only [Act.put, List.setIfInBounds_toArray, List.set_cons_zero, List.set_cons_succ]
      refine wpAnyH_done (by kernel_rfl) ?_ _
      go_wp2_with fail
      refine bodyPost_ret (v := .tuple #[.agg #[.int .i64 n, .slice a 0 cap], .bool true]) (by simp [results, Try.results25, go_sem, *]) rfl ?_
      have KF : Kept [bx + 1 + 1] W4.drew ((W4.drew.setCell ⟨bx + 1 + 1, 0, none⟩ (.int .i64 n)).setCell ⟨bx + 1 + 1, 1, none⟩ (.slice a 0 cap)) := ((Kept.refl _ _).setCell (Or.inl (by simp)) _).setCell (Or.inl (by simp)) _
      exact act_done2 HB0.out HF.out (by have := HBX.out; omega) HLQ.out (HS3.out.trans (Step.of (HX4.out.drew))) (HH3.out.below HX4.out.drew) (HRR.out.later HX4.out.drew) KF
  | cons y r =>
    go_enter Try.func25, Try.ntmps25
    go_wp2_with fail
    rw [← HW0.out]
    have HLQ := Lib.hid (lt_of_cell q0)
    generalize hbx : w.heap.size = bx at r0 r1 x0 x1 x2 q0 q1 g0 g1 n0 n1 n2 HLQ ⊢
    have HBX := Lib.hid hbx
    clear hbx
    refine (Pop_at W0 (HI.out.below HB0.out)).mono ?_
    rintro e w3 ⟨rfl, hA3⟩
    rw [(show popV (y :: r : Items) = .tuple #[.agg #[.int .i64 y.1, .int .u64 y.2], .int .i64 0] from rfl)]
    obtain ⟨F3, h3, s3⟩ := hA3.split
    replace g0 := s3.kept.frz g0 (lt_of_cell q0) n2
    replace g1 := s3.kept.frz g1 (lt_of_cell q1) n2
    replace q0 := s3.cell n2 q0
    replace q1 := s3.cell n2 q1
    replace r0 := s3.cell n0 r0
    replace r1 := s3.cell n0 r1
    clear x0 x1 x2 n1
    have HS3 := Lib.hid s3
    have HH3 := Lib.hid h3
    have o0 := Lib.hid (s3.off n0 (by have := HLQ.out; omega))
    have o2 := Lib.hid (s3.off n2 (by have := HLQ.out; omega))
    have HRR := Lib.hid (show HeldR encQ ((bx + 1 + 1) :: F3) w3 (.slice a _ cap) _ from (HR.out.step (F' := (bx + 1 + 1) :: F) (Kept.of HB0.out) (fun b hb => by
      have h1 := HBX.out
      rcases List.mem_cons.1 hb with rfl | hb
      · exact Or.inr (by omega)
      · exact Or.inl hb)).step (s3.kept.mono (fun b hb => by simp [hb])) (fun b hb => by
      rcases List.mem_cons.1 hb with rfl | hb
      · exact Or.inl (by simp)
      · rcases s3.new b hb with q | q
        · exact Or.inl (by simp [q])
        · exact Or.inr q))
    clear hA3 s3 h3 n0 n2
    obtain ⟨b, off, e1, ⟨hbF, hbl⟩, hc⟩ := (show ∃ b off, a = some ⟨b, off, none⟩ ∧ (b ∉ (bx + 1 + 1) :: F3 ∧ b < w3.heap.size) ∧ ∀ j u, (flatR encQ (y :: r))[j]? = some u → w3.cell? ⟨b, off + j, none⟩ = some u by
      obtain ⟨a', cap', e, _, _, _, h⟩ := HRR.out
      cases e
      rcases h with h | h
      · cases h
      · exact h)
    subst e1
    have i0 : w3.cell? ⟨b, off, none⟩ = some (.int .i64 y.1) := hc 0 _ rfl
    have i1 : w3.cell? ⟨b, off + 1, none⟩ = some (.int .u64 y.2) := hc 1 _ rfl
    have hMp : (0 : Int) < (M : Int) := by rw [← HM.out, List.length_cons]; omega
    have hMz : ((M : Int) == 0) = false := by rw [← HM.out, List.length_cons]; simp; omega
    have hMn : 0 < M := by omega
    have hb2 : b ≠ bx + 1 + 1 := fun e => hbF (by simp [e])
    have HB2 := Lib.hid hb2
    clear hc hbF hb2
    have r1a := cell_al (.cells #[.int .i64 y.1, .int .u64 y.2] 28) r1
    go_wp2_with fail
    clear r1a
    obtain ⟨W4, hW4⟩ : ∃ W, W = w3.alloc (.cells #[.int .i64 y.1, .int .u64 y.2] 28) := ⟨_, rfl⟩
    rw [← hW4]
    have hb4 : Below w3.heap.size w3 W4 := by rw [hW4]; exact below_a _ _
    have p0 : W4.cell? ⟨w3.heap.size, 0, none⟩ = some (.int .i64 y.1) := by rw [hW4]; exact cell_nw _ _ _ 0 _ rfl
    have p1 : W4.cell? ⟨w3.heap.size, 1, none⟩ = some (.int .u64 y.2) := by rw [hW4]; exact cell_nw _ _ _ 1 _ rfl
    replace g0 := frz_later hb4 g0 (lt_of_cell q0)
    replace g1 := frz_later hb4 g1 (lt_of_cell q1)
    replace r0 := cell_later hb4 r0
    replace r1 := cell_later hb4 r1
    replace q0 := cell_later hb4 q0
    replace q1 := cell_later hb4 q1
    have HX4 := Lib.hid hb4
    have L17 := Lib.hid (show bx + 1 + 1 < w3.heap.size from Nat.lt_of_lt_of_le HLQ.out HS3.out.kept.size)
    generalize hb17 : w3.heap.size = b17 at p0 p1 L17 ⊢
    have HB17 := Lib.hid hb17
    have hm7 : b17 ∉ [bx + 1 + 1] := by have := L17.out; simp; omega
    have hm0 : bx ∉ [bx + 1 + 1] := by simp; omega
    clear hb4 hW4 hb17
    replace i0 := cell_later HX4.out i0
    replace i1 := cell_later HX4.out i1
    have lb : b < W4.heap.size := lt_of_cell i0
    have HRC := Lib.hid (HRR.out.later HX4.out)
    have AY := Lib.hid fun (W : World) (q : RecsAt encQ W (.slice (some ⟨b, off, none⟩) M cap) (y :: r)) => AO.out y.1 W q
    have hout : outS n (y :: r) y.1 = r ∧ outRes n (y :: r) y.1 = 0 ∧ outKey n (y :: r) y.1 = y.2 := by
      have hi := HI.out.ids
      have h0 := outRes_ok (x := y) (S := y :: r) (by simp) hi.1 (hi.2.2.1 y (by simp)).1
      have h1 := outL_head hi.1
      refine ⟨by unfold outS; rw [h0.1, if_pos rfl, h1], h0.1, by unfold outKey; rw [h0.1, h0.2]; rfl⟩
    rw [hout.1, hout.2.1, hout.2.2] at AY
    clear hout AO
    have lbx : bx < W4.heap.size := lt_of_cell r0
    have lb7 : b17 < W4.heap.size := lt_of_cell p0
    have l2 : bx + 1 + 1 < W4.heap.size := lt_of_cell q0
    have HLF := Lib.hid (show ∀ b ∈ (bx + 1 + 1) :: F3, b < W4.heap.size from List.forall_mem_cons.2 ⟨l2, fun b hb => Nat.lt_of_lt_of_le (HH3.out.lt _ hb) HX4.out.size⟩)
    obtain ⟨N, hN⟩ : ∃ N, N = List.length r := ⟨_, rfl⟩
    have HN := Lib.hid hN
    unfold ROutP at AY
    rw [← hN] at AY
    clear hN
    have hS0 : Below W4.heap.size W4 W4.drew ∧ W4.drew.cell? ⟨b17, 0, none⟩ = some (.int .i64 y.1) ∧ W4.drew.cell? ⟨b17, 1, none⟩ = some (.int .u64 y.2) ∧ W4.drew.cell? ⟨bx, 0, none⟩ = some (.int .i64 n) ∧ W4.drew.cell? ⟨bx, 1, none⟩ = some (.slice (some ⟨b, off, none⟩) M cap) ∧ W4.drew.cell? ⟨b, off, none⟩ = some (.int .i64 y.1) ∧ W4.drew.cell? ⟨b, off + 1, none⟩ = some (.int .u64 y.2) ∧ W4.drew.cell? ⟨bx + 1 + 1, 0, none⟩ = some (.int .i64 0) ∧ W4.drew.cell? ⟨bx + 1 + 1, 1, none⟩ = some (.slice none 0 0) := ⟨Below.drew (Below.refl _ _), cell_dr p0, cell_dr p1, cell_dr r0, cell_dr r1, cell_dr i0, cell_dr i1, cell_dr q0, cell_dr q1⟩
    refine wp_region_held_drew (S := fun w' => Below W4.heap.size W4 w' ∧ w'.cell? ⟨b17, 0, none⟩ = some (.int .i64 y.1) ∧ w'.cell? ⟨b17, 1, none⟩ = some (.int .u64 y.2) ∧ w'.cell? ⟨bx, 0, none⟩ = some (.int .i64 n) ∧ w'.cell? ⟨bx, 1, none⟩ = some (.slice (some ⟨b, off, none⟩) M cap) ∧ w'.cell? ⟨b, off, none⟩ = some (.int .i64 y.1) ∧ w'.cell? ⟨b, off + 1, none⟩ = some (.int .u64 y.2) ∧ w'.cell? ⟨bx + 1 + 1, 0, none⟩ = some (.int .i64 0) ∧ w'.cell? ⟨bx + 1 + 1, 1, none⟩ = some (.slice none 0 0)) (by kernel_rfl) hS0 (fun hHeld => ?_)
    refine takeH (i := 0) (v := ?v0_12) rfl (by kernel_rfl) (fun _ _ _ h => h) (by rfl) ?hy0_12 (by assumption) ?rest0_12
    case hy0_12 => (intro w hSw; (try dsimp only at hSw); go_simp; try with_reducible rfl)
    try simp only [Act.put, List.setIfInBounds_toArray, List.set_cons_zero, List.set_cons_succ]
    refine takeH (i := 1) (v := ?v1_13) rfl (by kernel_rfl) (fun _ _ _ h => h) (by rfl) ?hy1_13 (by assumption) ?rest1_13
    case hy1_13 => (intro w hSw; (try dsimp only at hSw); go_simp; try with_reducible rfl)
    try simp only [Act.put, List.setIfInBounds_toArray, List.set_cons_zero, List.set_cons_succ]
    refine takeH (i := 2) (v := ?v2_14) rfl (by kernel_rfl) (fun _ _ _ h => h) (by rfl) ?hy2_14 (by assumption) ?rest2_14
    case hy2_14 => (intro w hSw; (try dsimp only at hSw); go_simp; try with_reducible rfl)
    try simp only [Act.put, List.setIfInBounds_toArray, List.set_cons_zero, List.set_cons_succ]
    refine takeH (i := 3) (v := ?v3_15) rfl (by kernel_rfl) (fun _ _ _ h => h) (by rfl) ?hy3_15 (by assumption) ?rest3_15
    case hy3_15 => (intro w hSw; (try dsimp only at hSw); go_simp; try with_reducible rfl)
    try simp only [Act.put, List.setIfInBounds_toArray, List.set_cons_zero, List.set_cons_succ]
    refine takeH (i := 4) (v := ?v4_16) rfl (by kernel_rfl) (fun _ _ _ h => h) (by rfl) ?hy4_16 (by assumption) ?rest4_16
    case hy4_16 => (intro w hSw; (try dsimp only at hSw); go_simp; try with_reducible rfl)
    try simp only [Act.put, List.setIfInBounds_toArray, List.set_cons_zero, List.set_cons_succ]
    refine takeH (i := 5) (v := ?v5_17) rfl (by kernel_rfl) (fun _ _ _ h => h) (by rfl) ?hy5_17 (by assumption) ?rest5_17
    case hy5_17 => (intro w hSw; (try dsimp only at hSw); go_simp; try with_reducible rfl)
    try simp only [Act.put, List.setIfInBounds_toArray, List.set_cons_zero, List.set_cons_succ]
    refine wpAnyH_ready (rs := [6, 11]) (by kernel_rfl) (by simp) ?_
    refine consH rfl (fun K hK => ?_) (consH rfl (fun K hK => ?_) (AllReadyH.nil))
    · skip
      go_simp
      refine (AY.out _ (HRC.out.later (Below.refl W4.heap.size W4).drew).recs).mono ?_
      rintro e w4 ⟨a4, cap4, rfl, hn4, hb4⟩
      have hb4w : Below W4.heap.size W4 w4 ∧ True := ⟨Below.step (Below.refl W4.heap.size W4).drew hb4, trivial⟩
      have HR4 := Lib.hid (hn4 ((bx + 1 + 1) :: F3) HLF.out (HRC.out.later (Below.refl W4.heap.size W4).drew))
      go_wp2_with fail
      refine hK.out _ _ ?_ (fun hHeld6 => ?_)
      · (first | assumption | (refine held_8 (by assumption) ?_; assumption) | (refine held_8 (below_ad _ _) ?_; assumption) | (refine held_8 (below_a _ _) ?_; assumption))
      clear hK K
      try simp only [Act.put, List.setIfInBounds_toArray, List.set_cons_zero, List.set_cons_succ]
      refine takeH (i := 7) (v := ?v7_18) rfl (by kernel_rfl) (fun _ _ _ h => h) (by rfl) ?hy7_18 (by assumption) ?rest7_18
      case hy7_18 => (intro w hSw; (try dsimp only at hSw); go_simp; try with_reducible rfl)
      try simp only [Act.put, List.setIfInBounds_toArray, List.set_cons_zero, List.set_cons_succ]
      refine takeH (i := 8) (v := ?v8_19) rfl (by kernel_rfl) (fun _ _ _ h => h) (by rfl) ?hy8_19 (by assumption) ?rest8_19
      case hy8_19 => (intro w hSw; (try dsimp only at hSw); go_simp; try with_reducible rfl)
      try simp only [Act.put, List.setIfInBounds_toArray, List.set_cons_zero, List.set_cons_succ]
      refine takeH (i := 9) (v := ?v9_20) rfl (by kernel_rfl) (fun _ _ _ h => h) (by rfl) ?hy9_20 (by assumption) ?rest9_20
      case hy9_20 => (intro w hSw; (try dsimp only at hSw); go_simp; try with_reducible rfl)
      try simp only [Act.put, List.setIfInBounds_toArray, List.set_cons_zero, List.set_cons_succ]
      refine takeH (i := 10) (v := ?v10_21) rfl (by kernel_rfl) (fun _ _ _ h => h) (by rfl) ?hy10_21 (by assumption) ?rest10_21
      case hy10_21 => (intro w hSw; (try dsimp only at hSw); go_simp; try with_reducible rfl)
      try simp only [Act.put, List.setIfInBounds_toArray, List.set_cons_zero, List.set_cons_succ]
      refine wpAnyH_ready (rs := [11]) (by kernel_rfl) (by simp) ?_
      refine consH rfl (fun K hK => ?_) (AllReadyH.nil)
      go_simp
      obtain ⟨wa, hwa⟩ : ∃ X, X = w4.alloc (.cells #[.int .i64 0, .slice none 0 0] 58) := ⟨_, rfl⟩
      rw [← hwa]
      obtain ⟨ba, hba⟩ : ∃ X, X = w4.heap.size := ⟨_, rfl⟩
      rw [← hba]
      have za0 : wa.cell? ⟨ba, 0, none⟩ = some (.int .i64 0) := by rw [hwa, hba]; exact cell_nw _ _ _ 0 _ rfl
      have za1 : wa.cell? ⟨ba, 1, none⟩ = some (.slice none 0 0) := by rw [hwa, hba]; exact cell_nw _ _ _ 1 _ rfl
      have fa0 : wa.frozen? ⟨ba, 0, none⟩ = false := by rw [hwa, hba]; exact frz_nw _ _ _ 0
      have fa1 : wa.frozen? ⟨ba, 1, none⟩ = false := by rw [hwa, hba]; exact frz_nw _ _ _ 1
      have hbwa : Below w4.heap.size w4 wa := by rw [hwa]; exact below_a w4 _
      have hWa : Below W4.heap.size W4 wa ∧ True := ⟨Below.step (hb4w.1) hbwa, trivial⟩
      have lba : W4.heap.size ≤ ba := by rw [hba]; exact (hb4w.1).size
      have HRF := Lib.hid (show HeldR encQ (ba :: (bx + 1 + 1) :: F3) wa (.slice a4 N cap4) r from HR4.out.step (Kept.of hbwa) (List.forall_mem_cons.2 ⟨Or.inr (by rw [hba]; exact Nat.le_refl _), fun b hb => Or.inl hb⟩))
      have HBA := Lib.hid (show ba < wa.heap.size from lt_of_cell za0)
      clear hwa hba
      refine hK.out _ _ ?_ (fun hHeld11 => ?_)
      · (first | assumption | (refine held_8 (by assumption) ?_; assumption) | (refine held_8 (below_ad _ _) ?_; assumption) | (refine held_8 (below_a _ _) ?_; assumption))
      clear hK K
      try simp only [Act.put, List.setIfInBounds_toArray, List.set_cons_zero, List.set_cons_succ]
      refine wpAnyH_ready (rs := [12]) (by kernel_rfl) (by simp) ?_
      refine consH rfl (fun K hK => ?_) (AllReadyH.nil)
      go_simp
      first | (have hk12 : Below W4.heap.size W4 ((wz.setCell ⟨ba, 0, none⟩ (.int .i64 n)).setCell ⟨ba, 1, none⟩ (.slice a4 N cap4)) ∧ ((wz.setCell ⟨ba, 0, none⟩ (.int .i64 n)).setCell ⟨ba, 1, none⟩ (.slice a4 N cap4)).cell? ⟨b17, 0, none⟩ = some (.int .i64 y.1) ∧ ((wz.setCell ⟨ba, 0, none⟩ (.int .i64 n)).setCell ⟨ba, 1, none⟩ (.slice a4 N cap4)).cell? ⟨b17, 1, none⟩ = some (.int .u64 y.2) ∧ ((wz.setCell ⟨ba, 0, none⟩ (.int .i64 n)).setCell ⟨ba, 1, none⟩ (.slice a4 N cap4)).cell? ⟨bx, 0, none⟩ = some (.int .i64 n) ∧ ((wz.setCell ⟨ba, 0, none⟩ (.int .i64 n)).setCell ⟨ba, 1, none⟩ (.slice a4 N cap4)).cell? ⟨bx, 1, none⟩ = some (.slice (some ⟨b, off, none⟩) M cap) ∧ ((wz.setCell ⟨ba, 0, none⟩ (.int .i64 n)).setCell ⟨ba, 1, none⟩ (.slice a4 N cap4)).cell? ⟨b, off, none⟩ = some (.int .i64 y.1) ∧ ((wz.setCell ⟨ba, 0, none⟩ (.int .i64 n)).setCell ⟨ba, 1, none⟩ (.slice a4 N cap4)).cell? ⟨b, off + 1, none⟩ = some (.int .u64 y.2) ∧ ((wz.setCell ⟨ba, 0, none⟩ (.int .i64 n)).setCell ⟨ba, 1, none⟩ (.slice a4 N cap4)).cell? ⟨bx + 1 + 1, 0, none⟩ = some (.int .i64 0) ∧ ((wz.setCell ⟨ba, 0, none⟩ (.int .i64 n)).setCell ⟨ba, 1, none⟩ (.slice a4 N cap4)).cell? ⟨bx + 1 + 1, 1, none⟩ = some (.slice none 0 0) := ⟨(hHeld6.1.setCell (by simpa using lba) _).setCell (by simpa using lba) _, cell_set_ne (cell_set_ne hHeld6.2.1 (by omega)) (by omega), cell_set_ne (cell_set_ne hHeld6.2.2.1 (by omega)) (by omega), cell_set_ne (cell_set_ne hHeld6.2.2.2.1 (by omega)) (by omega), cell_set_ne (cell_set_ne hHeld6.2.2.2.2.1 (by omega)) (by omega), cell_set_ne (cell_set_ne hHeld6.2.2.2.2.2.1 (by omega)) (by omega), cell_set_ne (cell_set_ne hHeld6.2.2.2.2.2.2.1 (by omega)) (by omega), cell_set_ne (cell_set_ne hHeld6.2.2.2.2.2.2.2.1 (by omega)) (by omega), cell_set_ne (cell_set_ne hHeld6.2.2.2.2.2.2.2.2 (by omega)) (by omega)⟩; have KA : Kept [ba] wz ((wz.setCell ⟨ba, 0, none⟩ (.int .i64 n)).setCell ⟨ba, 1, none⟩ (.slice a4 N cap4)) := ((Kept.refl _ _).setCell (Or.inl (by simp)) _).setCell (Or.inl (by simp)) _; have c0 : ((wz.setCell ⟨ba, 0, none⟩ (.int .i64 n)).setCell ⟨ba, 1, none⟩ (.slice a4 N cap4)).cell? ⟨ba, 0, none⟩ = some (.int .i64 n) := cell_set_ne (cell_set_eq za0) (by simp); have c1 : ((wz.setCell ⟨ba, 0, none⟩ (.int .i64 n)).setCell ⟨ba, 1, none⟩ (.slice a4 N cap4)).cell? ⟨ba, 1, none⟩ = some (.slice a4 N cap4) := cell_set_eq (cell_set_ne za1 (by simp)); have HRG := Lib.hid ((HRF.out.kept (KA.mono (fun b hb => by simp at hb; simp [hb]))).sub (F' := (bx + 1 + 1) :: F3) (fun b hb => List.mem_cons_of_mem _ hb)); obtain ⟨wf, hwf⟩ : ∃ X, X = ((wz.setCell ⟨ba, 0, none⟩ (.int .i64 n)).setCell ⟨ba, 1, none⟩ (.slice a4 N cap4)) := ⟨_, rfl⟩; rw [← hwf] at hk12 c0 c1 HRG ⊢; have g0 := frz_later hk12.1 g0 l2; have g1 := frz_later hk12.1 g1 l2; clear hwf KA za0 za1 fa0 fa1) | (have hk12 : Below W4.heap.size W4 ((wa.setCell ⟨ba, 0, none⟩ (.int .i64 n)).setCell ⟨ba, 1, none⟩ (.slice a4 N cap4)) ∧ ((wa.setCell ⟨ba, 0, none⟩ (.int .i64 n)).setCell ⟨ba, 1, none⟩ (.slice a4 N cap4)).cell? ⟨b17, 0, none⟩ = some (.int .i64 y.1) ∧ ((wa.setCell ⟨ba, 0, none⟩ (.int .i64 n)).setCell ⟨ba, 1, none⟩ (.slice a4 N cap4)).cell? ⟨b17, 1, none⟩ = some (.int .u64 y.2) ∧ ((wa.setCell ⟨ba, 0, none⟩ (.int .i64 n)).setCell ⟨ba, 1, none⟩ (.slice a4 N cap4)).cell? ⟨bx, 0, none⟩ = some (.int .i64 n) ∧ ((wa.setCell ⟨ba, 0, none⟩ (.int .i64 n)).setCell ⟨ba, 1, none⟩ (.slice a4 N cap4)).cell? ⟨bx, 1, none⟩ = some (.slice (some ⟨b, off, none⟩) M cap) ∧ ((wa.setCell ⟨ba, 0, none⟩ (.int .i64 n)).setCell ⟨ba, 1, none⟩ (.slice a4 N cap4)).cell? ⟨b, off, none⟩ = some (.int .i64 y.1) ∧ ((wa.setCell ⟨ba, 0, none⟩ (.int .i64 n)).setCell ⟨ba, 1, none⟩ (.slice a4 N cap4)).cell? ⟨b, off + 1, none⟩ = some (.int .u64 y.2) ∧ ((wa.setCell ⟨ba, 0, none⟩ (.int .i64 n)).setCell ⟨ba, 1, none⟩ (.slice a4 N cap4)).cell? ⟨bx + 1 + 1, 0, none⟩ = some (.int .i64 0) ∧ ((wa.setCell ⟨ba, 0, none⟩ (.int .i64 n)).setCell ⟨ba, 1, none⟩ (.slice a4 N cap4)).cell? ⟨bx + 1 + 1, 1, none⟩ = some (.slice none 0 0) := ⟨(hHeld11.1.setCell (by simpa using lba) _).setCell (by simpa using lba) _, cell_set_ne (cell_set_ne hHeld11.2.1 (by omega)) (by omega), cell_set_ne (cell_set_ne hHeld11.2.2.1 (by omega)) (by omega), cell_set_ne (cell_set_ne hHeld11.2.2.2.1 (by omega)) (by omega), cell_set_ne (cell_set_ne hHeld11.2.2.2.2.1 (by omega)) (by omega), cell_set_ne (cell_set_ne hHeld11.2.2.2.2.2.1 (by omega)) (by omega), cell_set_ne (cell_set_ne hHeld11.2.2.2.2.2.2.1 (by omega)) (by omega), cell_set_ne (cell_set_ne hHeld11.2.2.2.2.2.2.2.1 (by omega)) (by omega), cell_set_ne (cell_set_ne hHeld11.2.2.2.2.2.2.2.2 (by omega)) (by omega)⟩; have KA : Kept [ba] wa ((wa.setCell ⟨ba, 0, none⟩ (.int .i64 n)).setCell ⟨ba, 1, none⟩ (.slice a4 N cap4)) := ((Kept.refl _ _).setCell (Or.inl (by simp)) _).setCell (Or.inl (by simp)) _; have c0 : ((wa.setCell ⟨ba, 0, none⟩ (.int .i64 n)).setCell ⟨ba, 1, none⟩ (.slice a4 N cap4)).cell? ⟨ba, 0, none⟩ = some (.int .i64 n) := cell_set_ne (cell_set_eq za0) (by simp); have c1 : ((wa.setCell ⟨ba, 0, none⟩ (.int .i64 n)).setCell ⟨ba, 1, none⟩ (.slice a4 N cap4)).cell? ⟨ba, 1, none⟩ = some (.slice a4 N cap4) := cell_set_eq (cell_set_ne za1 (by simp)); have HRG := Lib.hid ((HRF.out.kept (KA.mono (fun b hb => by simp at hb; simp [hb]))).sub (F' := (bx + 1 + 1) :: F3) (fun b hb => List.mem_cons_of_mem _ hb)); obtain ⟨wf, hwf⟩ : ∃ X, X = ((wa.setCell ⟨ba, 0, none⟩ (.int .i64 n)).setCell ⟨ba, 1, none⟩ (.slice a4 N cap4)) := ⟨_, rfl⟩; rw [← hwf] at hk12 c0 c1 HRG ⊢; have g0 := frz_later hk12.1 g0 l2; have g1 := frz_later hk12.1 g1 l2; clear hwf KA za0 za1 fa0 fa1)
      refine hK.out _ _ ?_ (fun hHeld12 => ?_)
      · (first | assumption | (refine held_8 (by assumption) ?_; assumption) | (refine held_8 (below_ad _ _) ?_; assumption) | (refine held_8 (below_a _ _) ?_; assumption))
      clear hK K
      try simp only [Act.put, List.setIfInBounds_toArray, List.set_cons_zero, List.set_cons_succ]
      refine takeH (i := 13) (v := ?v13_22) rfl (by kernel_rfl) (fun _ _ _ h => h) (by rfl) ?hy13_22 (by assumption) ?rest13_22
      case hy13_22 => (intro w hSw; (try dsimp only at hSw); go_simp; try with_reducible rfl)
      try simp only [Act.put, List.setIfInBounds_toArray, List.set_cons_zero, List.set_cons_succ]
      refine takeH (i := 14) (v := ?v14_23) rfl (by kernel_rfl) (fun _ _ _ h => h) (by rfl) ?hy14_23 (by assumption) ?rest14_23
      case hy14_23 => (intro w hSw; (try dsimp only at hSw); go_simp; try with_reducible rfl)
      try simp only [Act.put, List.setIfInBounds_toArray, List.set_cons_zero, List.set_cons_succ]
      refine wpAnyH_done (by kernel_rfl) ?_ _
      obtain ⟨hBf, p0, p1, r0, r1, i0, i1, q0, q1⟩ := hHeld12
      have HBF := Lib.hid hBf
      have hma : ba ∉ [bx + 1 + 1] := by simp; omega
      have hmb : b ∉ [bx + 1 + 1] := by simp; exact HB2.out
      clear hk12 hBf hS0
      go_wp2_with fail
      have hS0 : Kept [bx + 1 + 1] wf wf.drew ∧ wf.drew.cell? ⟨ba, 0, none⟩ = some (.int .i64 n) ∧ wf.drew.cell? ⟨ba, 1, none⟩ = some (.slice a4 N cap4) ∧ wf.drew.cell? ⟨b17, 0, none⟩ = some (.int .i64 y.1) ∧ wf.drew.cell? ⟨b17, 1, none⟩ = some (.int .u64 y.2) ∧ wf.drew.cell? ⟨bx, 1, none⟩ = some (.slice (some ⟨b, off, none⟩) M cap) ∧ wf.drew.cell? ⟨b, off, none⟩ = some (.int .i64 y.1) ∧ wf.drew.cell? ⟨b, off + 1, none⟩ = some (.int .u64 y.2) := ⟨Kept.drew (Kept.refl _ _), cell_dr c0, cell_dr c1, cell_dr p0, cell_dr p1, cell_dr r1, cell_dr i0, cell_dr i1⟩
      refine wp_region_held_drew (S := fun w' => Kept [bx + 1 + 1] wf w' ∧ w'.cell? ⟨ba, 0, none⟩ = some (.int .i64 n) ∧ w'.cell? ⟨ba, 1, none⟩ = some (.slice a4 N cap4) ∧ w'.cell? ⟨b17, 0, none⟩ = some (.int .i64 y.1) ∧ w'.cell? ⟨b17, 1, none⟩ = some (.int .u64 y.2) ∧ w'.cell? ⟨bx, 1, none⟩ = some (.slice (some ⟨b, off, none⟩) M cap) ∧ w'.cell? ⟨b, off, none⟩ = some (.int .i64 y.1) ∧ w'.cell? ⟨b, off + 1, none⟩ = some (.int .u64 y.2)) (by kernel_rfl) hS0 (fun hHeld => ?_)
      refine takeH (i := 0) (v := ?v0_24) rfl (by kernel_rfl) (fun _ _ _ h => h) (by rfl) ?hy0_24 (by assumption) ?rest0_24
      case hy0_24 => (intro w hSw; (try dsimp only at hSw); go_simp; try with_reducible rfl)
      try simp only [Act.put, List.setIfInBounds_toArray, List.set_cons_zero, List.set_cons_succ]
      refine takeH (i := 1) (v := ?v1_25) rfl (by kernel_rfl) (fun _ _ _ h => h) (by rfl) ?hy1_25 (by assumption) ?rest1_25
      case hy1_25 => (intro w hSw; (try dsimp only at hSw); go_simp; try with_reducible rfl)
      try simp only [Act.put, List.setIfInBounds_toArray, List.set_cons_zero, List.set_cons_succ]
      refine takeH (i := 2) (v := ?v2_26) rfl (by kernel_rfl) (fun _ _ _ h => h) (by rfl) ?hy2_26 (by assumption) ?rest2_26
      case hy2_26 => (intro w hSw; (try dsimp only at hSw); go_simp; try with_reducible rfl)
      try simp only [Act.put, List.setIfInBounds_toArray, List.set_cons_zero, List.set_cons_succ]
      refine takeH (i := 3) (v := ?v3_27) rfl (by kernel_rfl) (fun _ _ _ h => h) (by rfl) ?hy3_27 (by assumption) ?rest3_27
      case hy3_27 => (intro w hSw; (try dsimp only at hSw); go_simp; try with_reducible rfl)
      try simp only [Act.put, List.setIfInBounds_toArray, List.set_cons_zero, List.set_cons_succ]
      refine takeH (i := 4) (v := ?v4_28) rfl (by kernel_rfl) (fun _ _ _ h => h) (by rfl) ?hy4_28 (by assumption) ?rest4_28
      case hy4_28 => (intro w hSw; (try dsimp only at hSw); go_simp; try with_reducible rfl)
      try simp only [Act.put, List.setIfInBounds_toArray, List.set_cons_zero, List.set_cons_succ]
      refine takeH (i := 5) (v := ?v5_29) rfl (by kernel_rfl) (fun _ _ _ h => h) (by rfl) ?hy5_29 (by assumption) ?rest5_29
      case hy5_29 => (intro w hSw; (try dsimp only at hSw); go_simp; try with_reducible rfl)
      try simp only [Act.put, List.setIfInBounds_toArray, List.set_cons_zero, List.set_cons_succ]
      refine takeH (i := 6) (v := ?v6_30) rfl (by kernel_rfl) (fun _ _ _ h => h) (by rfl) ?hy6_30 (by assumption) ?rest6_30
      case hy6_30 => (intro w hSw; (try dsimp only at hSw); go_simp; try with_reducible rfl)
      try simp only [Act.put, List.setIfInBounds_toArray, List.set_cons_zero, List.set_cons_succ]
      refine takeH (i := 7) (v := ?v7_31) rfl (by kernel_rfl) (fun _ _ _ h => h) (by rfl) ?hy7_31 (by assumption) ?rest7_31
      case hy7_31 => (intro w hSw; (try dsimp only at hSw); go_simp; try with_reducible rfl)
      try simp only [Act.put, List.setIfInBounds_toArray, List.set_cons_zero, List.set_cons_succ]
      refine takeH (i := 8) (v := ?v8_32) rfl (by kernel_rfl) (fun _ _ _ h => h) (by rfl) ?hy8_32 (by assumption) ?rest8_32
      case hy8_32 => (intro w hSw; (try dsimp only at hSw); go_simp; try with_reducible rfl)
      try simp only [Act.put, List.setIfInBounds_toArray, List.set_cons_zero, List.set_cons_succ]
      refine takeH (i := 9) (v := ?v9_33) rfl (by kernel_rfl) (fun _ _ _ h => h) (by rfl) ?hy9_33 (by assumption) ?rest9_33
      case hy9_33 => (intro w hSw; (try dsimp only at hSw); go_simp; try with_reducible rfl)
      try simp only [Act.put, List.setIfInBounds_toArray, List.set_cons_zero, List.set_cons_succ]
      refine takeH (i := 10) (v := ?v10_34) rfl (by kernel_rfl) (fun _ _ _ h => h) (by rfl) ?hy10_34 (by assumption) ?rest10_34
      case hy10_34 => (intro w hSw; (try dsimp only at hSw); go_simp; try with_reducible rfl)
      try simp only [Act.put, List.setIfInBounds_toArray, List.set_cons_zero, List.set_cons_succ]
      refine wpAnyH_ready (rs := [11]) (by kernel_rfl) (by simp) ?_
      refine consH rfl (fun K hK => ?_) (AllReadyH.nil)
      go_simp
      have hk9b : Kept [bx + 1 + 1] wf.drew ((wf.drew.setCell ⟨bx + 1 + 1, 0, none⟩ (.int .i64 n)).setCell ⟨bx + 1 + 1, 1, none⟩ (.slice a4 N cap4)) := ((Kept.refl _ _).setCell (Or.inl (by simp)) _).setCell (Or.inl (by simp)) _
      refine hK.out _ _ ?_ (fun hHeld11 => ?_)
      · (first | assumption | (refine heldK_7 (by assumption) ?_ (by assumption) (by assumption) (by assumption) (by assumption) (by assumption) (by assumption) (by assumption) ; assumption) | (refine heldK_7 (Kept.of (below_ad _ _)) ?_ (by assumption) (by assumption) (by assumption) (by assumption) (by assumption) (by assumption) (by assumption) ; assumption) | (refine heldK_7 (Kept.of (below_a _ _)) ?_ (by assumption) (by assumption) (by assumption) (by assumption) (by assumption) (by assumption) (by assumption) ; assumption))
      clear hK K
      try simp only [Act.put, List.setIfInBounds_toArray, List.set_cons_zero, List.set_cons_succ]
      refine takeH (i := 12) (v := ?v12_35) rfl (by kernel_rfl) (fun _ _ _ h => h) (by rfl) ?hy12_35 (by assumption) ?rest12_35
      case hy12_35 => (intro w hSw; (try dsimp only at hSw); go_simp; try with_reducible rfl)
      try simp only [Act.put, List.setIfInBounds_toArray, List.set_cons_zero, List.set_cons_succ]
      refine wpAnyH_done (by kernel_rfl) ?_ _
      go_wp2_with fail
      refine bodyPost_ret (v := .tuple #[.agg #[.int .i64 n, .slice a4 N cap4], .bool true]) (by simp [results, Try.results25, go_sem, *]) rfl ?_
      have KF : Kept [bx + 1 + 1] wf.drew ((wf.drew.setCell ⟨bx + 1 + 1, 0, none⟩ (.int .i64 n)).setCell ⟨bx + 1 + 1, 1, none⟩ (.slice a4 N cap4)) := ((Kept.refl _ _).setCell (Or.inl (by simp)) _).setCell (Or.inl (by simp)) _
      have HRL := HRG.out
      rw [HN.out] at HRL KF ⊢
      exact act_done2 HB0.out HF.out (by have := HBX.out; omega) HLQ.out (HS3.out.trans (Step.of ((Below.step HX4.out HBF.out).drew))) (HH3.out.below (Below.step HX4.out HBF.out).drew) (HRL.later (Below.refl _ _).drew) KF
    · skip
      go_simp
      obtain ⟨wa, hwa⟩ : ∃ X, X = (W4.alloc (.cells #[.int .i64 0, .slice none 0 0] 58)).drew := ⟨_, rfl⟩
      rw [← hwa]
      obtain ⟨ba, hba⟩ : ∃ X, X = W4.heap.size := ⟨_, rfl⟩
      rw [← hba]
      have za0 : wa.cell? ⟨ba, 0, none⟩ = some (.int .i64 0) := by rw [hwa, hba]; exact cell_nw _ _ _ 0 _ rfl
      have za1 : wa.cell? ⟨ba, 1, none⟩ = some (.slice none 0 0) := by rw [hwa, hba]; exact cell_nw _ _ _ 1 _ rfl
      have fa0 : wa.frozen? ⟨ba, 0, none⟩ = false := by rw [hwa, hba]; exact frz_nw _ _ _ 0
      have fa1 : wa.frozen? ⟨ba, 1, none⟩ = false := by rw [hwa, hba]; exact frz_nw _ _ _ 1
      have hbwa : Below W4.drew.heap.size W4.drew wa := by rw [hwa]; exact below_a W4.drew _
      have hWa : Below W4.heap.size W4 wa ∧ True := ⟨Below.step ((Below.refl W4.heap.size W4).drew) hbwa, trivial⟩
      have lba : W4.heap.size ≤ ba := by rw [hba]; exact ((Below.refl W4.heap.size W4).drew).size
      have HRW := Lib.hid (HRC.out.step (F' := ba :: (bx + 1 + 1) :: F3) (Kept.of hWa.1) (List.forall_mem_cons.2 ⟨Or.inr lba, fun b hb => Or.inl hb⟩))
      have HBA := Lib.hid (show ba < wa.heap.size from lt_of_cell za0)
      clear hwa hba
      refine hK.out _ _ ?_ (fun hHeld11 => ?_)
      · (first | assumption | (refine held_8 (by assumption) ?_; assumption) | (refine held_8 (below_ad _ _) ?_; assumption) | (refine held_8 (below_a _ _) ?_; assumption))
      clear hK K
      try simp only [Act.put, List.setIfInBounds_toArray, List.set_cons_zero, List.set_cons_succ]
      refine wpAnyH_ready (rs := [6]) (by kernel_rfl) (by simp) ?_
      refine consH rfl (fun K hK => ?_) (AllReadyH.nil)
      go_simp
      refine (AY.out _ HRW.out.recs).mono ?_
      rintro e wz ⟨a4, cap4, rfl, hn4, hb4⟩
      have hb4w : Below W4.heap.size W4 wz ∧ True := ⟨Below.step hWa.1 hb4, trivial⟩
      have HRF := Lib.hid (hn4 (ba :: (bx + 1 + 1) :: F3) (List.forall_mem_cons.2 ⟨HBA.out, fun b hb => Nat.lt_of_lt_of_le (HLF.out b hb) hWa.1.size⟩) HRW.out)
      replace fa0 := frz_later hb4 fa0 (lt_of_cell za0)
      replace fa1 := frz_later hb4 fa1 (lt_of_cell za1)
      replace za0 := cell_later hb4 za0
      replace za1 := cell_later hb4 za1
      replace HBA := Lib.hid (show ba < wz.heap.size from lt_of_cell za0)
      go_wp2_with fail
      refine hK.out _ _ ?_ (fun hHeld6 => ?_)
      · (first | assumption | (refine held_8 (by assumption) ?_; assumption) | (refine held_8 (below_ad _ _) ?_; assumption) | (refine held_8 (below_a _ _) ?_; assumption))
      clear hK K
      try simp only [Act.put, List.setIfInBounds_toArray, List.set_cons_zero, List.set_cons_succ]
      refine takeH (i := 7) (v := ?v7_36) rfl (by kernel_rfl) (fun _ _ _ h => h) (by rfl) ?hy7_36 (by assumption) ?rest7_36
      case hy7_36 => (intro w hSw; (try dsimp only at hSw); go_simp; try with_reducible rfl)
      try simp only [Act.put, List.setIfInBounds_toArray, List.set_cons_zero, List.set_cons_succ]
      refine takeH (i := 8) (v := ?v8_37) rfl (by kernel_rfl) (fun _ _ _ h => h) (by rfl) ?hy8_37 (by assumption) ?rest8_37
      case hy8_37 => (intro w hSw; (try dsimp only at hSw); go_simp; try with_reducible rfl)
      try simp only [Act.put, List.setIfInBounds_toArray, List.set_cons_zero, List.set_cons_succ]
      refine takeH (i := 9) (v := ?v9_38) rfl (by kernel_rfl) (fun _ _ _ h => h) (by rfl) ?hy9_38 (by assumption) ?rest9_38
      case hy9_38 => (intro w hSw; (try dsimp only at hSw); go_simp; try with_reducible rfl)
      try simp only [Act.put, List.setIfInBounds_toArray, List.set_cons_zero, List.set_cons_succ]
      refine takeH (i := 10) (v := ?v10_39) rfl (by kernel_rfl) (fun _ _ _ h => h) (by rfl) ?hy10_39 (by assumption) ?rest10_39
      case hy10_39 => (intro w hSw; (try dsimp only at hSw); go_simp; try with_reducible rfl)
      try simp only [Act.put, List.setIfInBounds_toArray, List.set_cons_zero, List.set_cons_succ]
      refine wpAnyH_ready (rs := [12]) (by kernel_rfl) (by simp) ?_
      refine consH rfl (fun K hK => ?_) (AllReadyH.nil)
      go_simp
      first | (have hk12 : Below W4.heap.size W4 ((wz.setCell ⟨ba, 0, none⟩ (.int .i64 n)).setCell ⟨ba, 1, none⟩ (.slice a4 N cap4)) ∧ ((wz.setCell ⟨ba, 0, none⟩ (.int .i64 n)).setCell ⟨ba, 1, none⟩ (.slice a4 N cap4)).cell? ⟨b17, 0, none⟩ = some (.int .i64 y.1) ∧ ((wz.setCell ⟨ba, 0, none⟩ (.int .i64 n)).setCell ⟨ba, 1, none⟩ (.slice a4 N cap4)).cell? ⟨b17, 1, none⟩ = some (.int .u64 y.2) ∧ ((wz.setCell ⟨ba, 0, none⟩ (.int .i64 n)).setCell ⟨ba, 1, none⟩ (.slice a4 N cap4)).cell? ⟨bx, 0, none⟩ = some (.int .i64 n) ∧ ((wz.setCell ⟨ba, 0, none⟩ (.int .i64 n)).setCell ⟨ba, 1, none⟩ (.slice a4 N cap4)).cell? ⟨bx, 1, none⟩ = some (.slice (some ⟨b, off, none⟩) M cap) ∧ ((wz.setCell ⟨ba, 0, none⟩ (.int .i64 n)).setCell ⟨ba, 1, none⟩ (.slice a4 N cap4)).cell? ⟨b, off, none⟩ = some (.int .i64 y.1) ∧ ((wz.setCell ⟨ba, 0, none⟩ (.int .i64 n)).setCell ⟨ba, 1, none⟩ (.slice a4 N cap4)).cell? ⟨b, off + 1, none⟩ = some (.int .u64 y.2) ∧ ((wz.setCell ⟨ba, 0, none⟩ (.int .i64 n)).setCell ⟨ba, 1, none⟩ (.slice a4 N cap4)).cell? ⟨bx + 1 + 1, 0, none⟩ = some (.int .i64 0) ∧ ((wz.setCell ⟨ba, 0, none⟩ (.int .i64 n)).setCell ⟨ba, 1, none⟩ (.slice a4 N cap4)).cell? ⟨bx + 1 + 1, 1, none⟩ = some (.slice none 0 0) := ⟨(hHeld6.1.setCell (by simpa using lba) _).setCell (by simpa using lba) _, cell_set_ne (cell_set_ne hHeld6.2.1 (by omega)) (by omega), cell_set_ne (cell_set_ne hHeld6.2.2.1 (by omega)) (by omega), cell_set_ne (cell_set_ne hHeld6.2.2.2.1 (by omega)) (by omega), cell_set_ne (cell_set_ne hHeld6.2.2.2.2.1 (by omega)) (by omega), cell_set_ne (cell_set_ne hHeld6.2.2.2.2.2.1 (by omega)) (by omega), cell_set_ne (cell_set_ne hHeld6.2.2.2.2.2.2.1 (by omega)) (by omega), cell_set_ne (cell_set_ne hHeld6.2.2.2.2.2.2.2.1 (by omega)) (by omega), cell_set_ne (cell_set_ne hHeld6.2.2.2.2.2.2.2.2 (by omega)) (by omega)⟩; have KA : Kept [ba] wz ((wz.setCell ⟨ba, 0, none⟩ (.int .i64 n)).setCell ⟨ba, 1, none⟩ (.slice a4 N cap4)) := ((Kept.refl _ _).setCell (Or.inl (by simp)) _).setCell (Or.inl (by simp)) _; have c0 : ((wz.setCell ⟨ba, 0, none⟩ (.int .i64 n)).setCell ⟨ba, 1, none⟩ (.slice a4 N cap4)).cell? ⟨ba, 0, none⟩ = some (.int .i64 n) := cell_set_ne (cell_set_eq za0) (by simp); have c1 : ((wz.setCell ⟨ba, 0, none⟩ (.int .i64 n)).setCell ⟨ba, 1, none⟩ (.slice a4 N cap4)).cell? ⟨ba, 1, none⟩ = some (.slice a4 N cap4) := cell_set_eq (cell_set_ne za1 (by simp)); have HRG := Lib.hid ((HRF.out.kept (KA.mono (fun b hb => by simp at hb; simp [hb]))).sub (F' := (bx + 1 + 1) :: F3) (fun b hb => List.mem_cons_of_mem _ hb)); obtain ⟨wf, hwf⟩ : ∃ X, X = ((wz.setCell ⟨ba, 0, none⟩ (.int .i64 n)).setCell ⟨ba, 1, none⟩ (.slice a4 N cap4)) := ⟨_, rfl⟩; rw [← hwf] at hk12 c0 c1 HRG ⊢; have g0 := frz_later hk12.1 g0 l2; have g1 := frz_later hk12.1 g1 l2; clear hwf KA za0 za1 fa0 fa1) | (have hk12 : Below W4.heap.size W4 ((wa.setCell ⟨ba, 0, none⟩ (.int .i64 n)).setCell ⟨ba, 1, none⟩ (.slice a4 N cap4)) ∧ ((wa.setCell ⟨ba, 0, none⟩ (.int .i64 n)).setCell ⟨ba, 1, none⟩ (.slice a4 N cap4)).cell? ⟨b17, 0, none⟩ = some (.int .i64 y.1) ∧ ((wa.setCell ⟨ba, 0, none⟩ (.int .i64 n)).setCell ⟨ba, 1, none⟩ (.slice a4 N cap4)).cell? ⟨b17, 1, none⟩ = some (.int .u64 y.2) ∧ ((wa.setCell ⟨ba, 0, none⟩ (.int .i64 n)).setCell ⟨ba, 1, none⟩ (.slice a4 N cap4)).cell? ⟨bx, 0, none⟩ = some (.int .i64 n) ∧ ((wa.setCell ⟨ba, 0, none⟩ (.int .i64 n)).setCell ⟨ba, 1, none⟩ (.slice a4 N cap4)).cell? ⟨bx, 1, none⟩ = some (.slice (some ⟨b, off, none⟩) M cap) ∧ ((wa.setCell ⟨ba, 0, none⟩ (.int .i64 n)).setCell ⟨ba, 1, none⟩ (.slice a4 N cap4)).cell? ⟨b, off, none⟩ = some (.int .i64 y.1) ∧ ((wa.setCell ⟨ba, 0, none⟩ (.int .i64 n)).setCell ⟨ba, 1, none⟩ (.slice a4 N cap4)).cell? ⟨b, off + 1, none⟩ = some (.int .u64 y.2) ∧ ((wa.setCell ⟨ba, 0, none⟩ (.int .i64 n)).setCell ⟨ba, 1, none⟩ (.slice a4 N cap4)).cell? ⟨bx + 1 + 1, 0, none⟩ = some (.int .i64 0) ∧ ((wa.setCell ⟨ba, 0, none⟩ (.int .i64 n)).setCell ⟨ba, 1, none⟩ (.slice a4 N cap4)).cell? ⟨bx + 1 + 1, 1, none⟩ = some (.slice none 0 0) := ⟨(hHeld11.1.setCell (by simpa using lba) _).setCell (by simpa using lba) _, cell_set_ne (cell_set_ne hHeld11.2.1 (by omega)) (by omega), cell_set_ne (cell_set_ne hHeld11.2.2.1 (by omega)) (by omega), cell_set_ne (cell_set_ne hHeld11.2.2.2.1 (by omega)) (by omega), cell_set_ne (cell_set_ne hHeld11.2.2.2.2.1 (by omega)) (by omega), cell_set_ne (cell_set_ne hHeld11.2.2.2.2.2.1 (by omega)) (by omega), cell_set_ne (cell_set_ne hHeld11.2.2.2.2.2.2.1 (by omega)) (by omega), cell_set_ne (cell_set_ne hHeld11.2.2.2.2.2.2.2.1 (by omega)) (by omega), cell_set_ne (cell_set_ne hHeld11.2.2.2.2.2.2.2.2 (by omega)) (by omega)⟩; have KA : Kept [ba] wa ((wa.setCell ⟨ba, 0, none⟩ (.int .i64 n)).setCell ⟨ba, 1, none⟩ (.slice a4 N cap4)) := ((Kept.refl _ _).setCell (Or.inl (by simp)) _).setCell (Or.inl (by simp)) _; have c0 : ((wa.setCell ⟨ba, 0, none⟩ (.int .i64 n)).setCell ⟨ba, 1, none⟩ (.slice a4 N cap4)).cell? ⟨ba, 0, none⟩ = some (.int .i64 n) := cell_set_ne (cell_set_eq za0) (by simp); have c1 : ((wa.setCell ⟨ba, 0, none⟩ (.int .i64 n)).setCell ⟨ba, 1, none⟩ (.slice a4 N cap4)).cell? ⟨ba, 1, none⟩ = some (.slice a4 N cap4) := cell_set_eq (cell_set_ne za1 (by simp)); have HRG := Lib.hid ((HRF.out.kept (KA.mono (fun b hb => by simp at hb; simp [hb]))).sub (F' := (bx + 1 + 1) :: F3) (fun b hb => List.mem_cons_of_mem _ hb)); obtain ⟨wf, hwf⟩ : ∃ X, X = ((wa.setCell ⟨ba, 0, none⟩ (.int .i64 n)).setCell ⟨ba, 1, none⟩ (.slice a4 N cap4)) := ⟨_, rfl⟩; rw [← hwf] at hk12 c0 c1 HRG ⊢; have g0 := frz_later hk12.1 g0 l2; have g1 := frz_later hk12.1 g1 l2; clear hwf KA za0 za1 fa0 fa1)
      refine hK.out _ _ ?_ (fun hHeld12 => ?_)
      · (first | assumption | (refine held_8 (by assumption) ?_; assumption) | (refine held_8 (below_ad _ _) ?_; assumption) | (refine held_8 (below_a _ _) ?_; assumption))
      clear hK K
      try simp only [Act.put, List.setIfInBounds_toArray, List.set_cons_zero, List.set_cons_succ]
      refine takeH (i := 13) (v := ?v13_40) rfl (by kernel_rfl) (fun _ _ _ h => h) (by rfl) ?hy13_40 (by assumption) ?rest13_40
      case hy13_40 => (intro w hSw; (try dsimp only at hSw); go_simp; try with_reducible rfl)
      try simp only [Act.put, List.setIfInBounds_toArray, List.set_cons_zero, List.set_cons_succ]
      refine takeH (i := 14) (v := ?v14_41) rfl (by kernel_rfl) (fun _ _ _ h => h) (by rfl) ?hy14_41 (by assumption) ?rest14_41
      case hy14_41 => (intro w hSw; (try dsimp only at hSw); go_simp; try with_reducible rfl)
      try simp only [Act.put, List.setIfInBounds_toArray, List.set_cons_zero, List.set_cons_succ]
      refine wpAnyH_done (by kernel_rfl) ?_ _
      obtain ⟨hBf, p0, p1, r0, r1, i0, i1, q0, q1⟩ := hHeld12
      have HBF := Lib.hid hBf
      have hma : ba ∉ [bx + 1 + 1] := by simp; omega
      have hmb : b ∉ [bx + 1 + 1] := by simp; exact HB2.out
      clear hk12 hBf hS0
      go_wp2_with fail
      have hS0 : Kept [bx + 1 + 1] wf wf.drew ∧ wf.drew.cell? ⟨ba, 0, none⟩ = some (.int .i64 n) ∧ wf.drew.cell? ⟨ba, 1, none⟩ = some (.slice a4 N cap4) ∧ wf.drew.cell? ⟨b17, 0, none⟩ = some (.int .i64 y.1) ∧ wf.drew.cell? ⟨b17, 1, none⟩ = some (.int .u64 y.2) ∧ wf.drew.cell? ⟨bx, 1, none⟩ = some (.slice (some ⟨b, off, none⟩) M cap) ∧ wf.drew.cell? ⟨b, off, none⟩ = some (.int .i64 y.1) ∧ wf.drew.cell? ⟨b, off + 1, none⟩ = some (.int .u64 y.2) := ⟨Kept.drew (Kept.refl _ _), cell_dr c0, cell_dr c1, cell_dr p0, cell_dr p1, cell_dr r1, cell_dr i0, cell_dr i1⟩
      refine wp_region_held_drew (S := fun w' => Kept [bx + 1 + 1] wf w' ∧ w'.cell? ⟨ba, 0, none⟩ = some (.int .i64 n) ∧ w'.cell? ⟨ba, 1, none⟩ = some (.slice a4 N cap4) ∧ w'.cell? ⟨b17, 0, none⟩ = some (.int .i64 y.1) ∧ w'.cell? ⟨b17, 1, none⟩ = some (.int .u64 y.2) ∧ w'.cell? ⟨bx, 1, none⟩ = some (.slice (some ⟨b, off, none⟩) M cap) ∧ w'.cell? ⟨b, off, none⟩ = some (.int .i64 y.1) ∧ w'.cell? ⟨b, off + 1, none⟩ = some (.int .u64 y.2)) (by kernel_rfl) hS0 (fun hHeld => ?_)
      refine takeH (i := 0) (v := ?v0_42) rfl (by kernel_rfl) (fun _ _ _ h => h) (by rfl) ?hy0_42 (by assumption) ?rest0_42
      case hy0_42 => (intro w hSw; (try dsimp only at hSw); go_simp; try with_reducible rfl)
      try simp only [Act.put, List.setIfInBounds_toArray, List.set_cons_zero, List.set_cons_succ]
      refine takeH (i := 1) (v := ?v1_43) rfl (by kernel_rfl) (fun _ _ _ h => h) (by rfl) ?hy1_43 (by assumption) ?rest1_43
      case hy1_43 => (intro w hSw; (try dsimp only at hSw); go_simp; try with_reducible rfl)
      try simp only [Act.put, List.setIfInBounds_toArray, List.set_cons_zero, List.set_cons_succ]
      refine takeH (i := 2) (v := ?v2_44) rfl (by kernel_rfl) (fun _ _ _ h => h) (by rfl) ?hy2_44 (by assumption) ?rest2_44
      case hy2_44 => (intro w hSw; (try dsimp only at hSw); go_simp; try with_reducible rfl)
      try simp only [Act.put, List.setIfInBounds_toArray, List.set_cons_zero, List.set_cons_succ]
      refine takeH (i := 3) (v := ?v3_45) rfl (by kernel_rfl) (fun _ _ _ h => h) (by rfl) ?hy3_45 (by assumption) ?rest3_45
      case hy3_45 => (intro w hSw; (try dsimp only at hSw); go_simp; try with_reducible rfl)
      try simp only [Act.put, List.setIfInBounds_toArray, List.set_cons_zero, List.set_cons_succ]
      refine takeH (i := 4) (v := ?v4_46) rfl (by kernel_rfl) (fun _ _ _ h => h) (by rfl) ?hy4_46 (by assumption) ?rest4_46
      case hy4_46 => (intro w hSw; (try dsimp only at hSw); go_simp; try with_reducible rfl)
      try simp only [Act.put, List.setIfInBounds_toArray, List.set_cons_zero, List.set_cons_succ]
      refine takeH (i := 5) (v := ?v5_47) rfl (by kernel_rfl) (fun _ _ _ h => h) (by rfl) ?hy5_47 (by assumption) ?rest5_47
      case hy5_47 => (intro w hSw; (try dsimp only at hSw); go_simp; try with_reducible rfl)
      try simp only [Act.put, List.setIfInBounds_toArray, List.set_cons_zero, List.set_cons_succ]
      refine takeH (i := 6) (v := ?v6_48) rfl (by kernel_rfl) (fun _ _ _ h => h) (by rfl) ?hy6_48 (by assumption) ?rest6_48
      case hy6_48 => (intro w hSw; (try dsimp only at hSw); go_simp; try with_reducible rfl)
      try simp only [Act.put, List.setIfInBounds_toArray, List.set_cons_zero, List.set_cons_succ]
      refine takeH (i := 7) (v := ?v7_49) rfl (by kernel_rfl) (fun _ _ _ h => h) (by rfl) ?hy7_49 (by assumption) ?rest7_49
      case hy7_49 => (intro w hSw; (try dsimp only at hSw); go_simp; try with_reducible rfl)
      try simp only [Act.put, List.setIfInBounds_toArray, List.set_cons_zero, List.set_cons_succ]
      refine takeH (i := 8) (v := ?v8_50) rfl (by kernel_rfl) (fun _ _ _ h => h) (by rfl) ?hy8_50 (by assumption) ?rest8_50
      case hy8_50 => (intro w hSw; (try dsimp only at hSw); go_simp; try with_reducible rfl)
      try simp only [Act.put, List.setIfInBounds_toArray, List.set_cons_zero, List.set_cons_succ]
      refine takeH (i := 9) (v := ?v9_51) rfl (by kernel_rfl) (fun _ _ _ h => h) (by rfl) ?hy9_51 (by assumption) ?rest9_51
      case hy9_51 => (intro w hSw; (try dsimp only at hSw); go_simp; try with_reducible rfl)
      try simp only [Act.put, List.setIfInBounds_toArray, List.set_cons_zero, List.set_cons_succ]
      refine takeH (i := 10) (v := ?v10_52) rfl (by kernel_rfl) (fun _ _ _ h => h) (by rfl) ?hy10_52 (by assumption) ?rest10_52
      case hy10_52 => (intro w hSw; (try dsimp only at hSw); go_simp; try with_reducible rfl)
      try simp only [Act.put, List.setIfInBounds_toArray, List.set_cons_zero, List.set_cons_succ]
      refine wpAnyH_ready (rs := [11]) (by kernel_rfl) (by simp) ?_
      refine consH rfl (fun K hK => ?_) (AllReadyH.nil)
      go_simp
      have hk9b : Kept [bx + 1 + 1] wf.drew ((wf.drew.setCell ⟨bx + 1 + 1, 0, none⟩ (.int .i64 n)).setCell ⟨bx + 1 + 1, 1, none⟩ (.slice a4 N cap4)) := ((Kept.refl _ _).setCell (Or.inl (by simp)) _).setCell (Or.inl (by simp)) _
      refine hK.out _ _ ?_ (fun hHeld11 => ?_)
      · (first | assumption | (refine heldK_7 (by assumption) ?_ (by assumption) (by assumption) (by assumption) (by assumption) (by assumption) (by assumption) (by assumption) ; assumption) | (refine heldK_7 (Kept.of (below_ad _ _)) ?_ (by assumption) (by assumption) (by assumption) (by assumption) (by assumption) (by assumption) (by assumption) ; assumption) | (refine heldK_7 (Kept.of (below_a _ _)) ?_ (by assumption) (by assumption) (by assumption) (by assumption) (by assumption) (by assumption) (by assumption) ; assumption))
      clear hK K
      try simp only [Act.put, List.setIfInBounds_toArray, List.set_cons_zero, List.set_cons_succ]
      refine takeH (i := 12) (v := ?v12_53) rfl (by kernel_rfl) (fun _ _ _ h => h) (by rfl) ?hy12_53 (by assumption) ?rest12_53
      case hy12_53 => (intro w hSw; (try dsimp only at hSw); go_simp; try with_reducible rfl)
      try simp only [Act.put, List.setIfInBounds_toArray, List.set_cons_zero, List.set_cons_succ]
      refine wpAnyH_done (by kernel_rfl) ?_ _
      go_wp2_with fail
      refine bodyPost_ret (v := .tuple #[.agg #[.int .i64 n, .slice a4 N cap4], .bool true]) (by simp [results, Try.results25, go_sem, *]) rfl ?_
      have KF : Kept [bx + 1 + 1] wf.drew ((wf.drew.setCell ⟨bx + 1 + 1, 0, none⟩ (.int .i64 n)).setCell ⟨bx + 1 + 1, 1, none⟩ (.slice a4 N cap4)) := ((Kept.refl _ _).setCell (Or.inl (by simp)) _).setCell (Or.inl (by simp)) _
      have HRL := HRG.out
      rw [HN.out] at HRL KF ⊢
      exact act_done2 HB0.out HF.out (by have := HBX.out; omega) HLQ.out (HS3.out.trans (Step.of ((Below.step HX4.out HBF.out).drew))) (HH3.out.below (Below.step HX4.out HBF.out).drew) (HRL.later (Below.refl _ _).drew) KF
end Go.Proofs.Ytpbaegdmjmickaa
