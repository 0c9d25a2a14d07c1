/-
  Layer 18 (heap), law.go: act: Put.
-/
import Derived.Test.YtpbaegdmjmickaaHeapRe
import Derived.Test.YtpbaegdmjmickaaKitV
namespace Go.Proofs.Ytpbaegdmjmickaa
open Go.RowKit Go.Maps Go.IntWalk Go.Lib
set_option linter.unusedVariables false
set_option linter.unusedSimpArgs false
/-- what act leaves: both have the same items -/
def ActP (w : World) (p : Nat) (F : List Nat) (n : Int) (e : Ending) (w' : World) : Prop :=
  ∃ a cap S' F', e = .returned (.tuple #[.agg #[.int .i64 n, .slice a S'.length cap], .bool true]) ∧ HeapIn w' p F' n S' ∧ HeldR encQ F' w' (.slice a S'.length cap) S' ∧ Step F w F' w'
theorem act_done {w W4 w9 wf : World} {p bq : Nat} {F F9 : List Nat} {n : Int} {a' : Option Addr} {cap' : Nat} {S' : Items} (hW : Below w.heap.size w W4) (hF : ∀ b ∈ F, b < w.heap.size) (hx : w.heap.size ≤ bq) (hbq : bq < W4.heap.size)
    (hS : Step F W4 F9 w9) (hH : HeapIn w9 p F9 n S') (hR : HeldR encQ (bq :: F) W4 (.slice a' S'.length cap') S') (KF : Kept [bq] w9 wf) :
    ActP w p F n (.returned (.tuple #[.agg #[.int .i64 n, .slice a' S'.length cap'], .bool true])) wf := by
  have hn : bq ∉ F := fun m => by have := hF _ m; omega
  have hn9 : bq ∉ F9 := hS.off hn hbq
  have s1 : Step F w F9 w9 := (Step.of hW).trans hS
  refine ⟨a', cap', S', F9, rfl, hH.kept KF (fun b hb m => ?_), ?_, ⟨?_, s1.new⟩⟩
  · simp at m; subst m; exact hn9 hb
  · refine (HeldR.kept (F := bq :: F9) ?_ (KF.mono (fun b hb => by simp at hb; simp [hb]))).sub (fun b hb => by simp [hb])
    refine hR.step (hS.kept.mono (fun b hb => by simp [hb])) (fun b hb => ?_)
    rcases List.mem_cons.1 hb with rfl | hb
    · exact Or.inl (by simp)
    · rcases hS.new b hb with q | q
      · exact Or.inl (by simp [q])
      · exact Or.inr q
  · refine ⟨KF.os.trans s1.kept.os, KF.tape.trans s1.kept.tape, KF.output.trans s1.kept.output, Nat.le_trans s1.kept.size KF.size, fun k hk hkn => ?_⟩
    rw [KF.block k (Nat.lt_of_lt_of_le hk s1.kept.size) (by simp; omega)]
    exact s1.kept.block k hk hkn
theorem HeapIn.refS {w : World} {p : Nat} {F : List Nat} {n : Int} {S : Items} (h : HeapIn w p F n S) : RefS n S := ⟨h.ids.1, by have := h.ids; omega⟩
set_option maxRecDepth 100000 in
set_option maxHeartbeats 4000000 in
theorem act_put {p : Nat} {F : List Nat} {n : Int} {S : Items} (a : Option Addr) (cap : Nat) (kind id key : Int) (w : World) (h : HeapIn w p F n S) (hr : HeldR encQ F w (.slice a S.length cap) S) (hk : kind.tmod 6 = 0 ∨ kind.tmod 6 = 1) (hid : (Lit.int .i64 id).wf = true) (hkey : 0 ≤ key ∧ key ≤ 18446744073709551615) :
    Calls Try.prog 25 #[.pointer (some ⟨p, 0, none⟩), .agg #[.int .i64 n, .slice a S.length cap], .agg #[.int .u8 kind, .int .i64 id, .int .u64 key]] w (ActP w p F n) := by
  have HI := Lib.hid h
  have HR := Lib.hid hr
  have HF := Lib.hid h.lt
  have HRS := Lib.hid h.refS
  have HID := Lib.hid hid
  have HKEY := Lib.hid hkey
  have AP := Lib.hid fun (W : World) (q : RecsAt encQ W (.slice a S.length cap) S) => rPut_any a cap n id key S W q h.refS
  have AS := Lib.hid fun (W : World) (q : HeldR encQ [] W (.slice a S.length cap) S) => rSet_any a cap n id key S W q h.refS
  have AO := Lib.hid fun (i : Int) (W : World) (q : RecsAt encQ W (.slice a S.length cap) S) => rOut_any a cap n i S W q h.refS
  have hM4 : S.length ≤ 400000 := h.refS.len
  clear h hr hid hkey
  obtain ⟨M, hM⟩ : ∃ M, M = S.length := ⟨_, rfl⟩
  have HM := Lib.hid hM.symm
  rw [← hM] at HR AP AS AO hM4 ⊢
  clear hM
  obtain ⟨W0, hW0⟩ : ∃ W0, W0 = ((w.alloc (.cells #[.int .i64 n, .slice a M cap] 58)).alloc (.cells #[.int .u8 kind, .int .i64 id, .int .u64 key] 60)).alloc (.cells #[.int .i64 0, .slice none 0 0] 58) := ⟨_, rfl⟩
  have HB0 := Lib.hid (show Below w.heap.size w W0 by rw [hW0]; exact Below.allocS (Below.allocS (Below.allocS (Below.refl _ _) _) _) _)
  have r0 : W0.cell? ⟨w.heap.size, 0, none⟩ = some (.int .i64 n) := by rw [hW0]; exact cell_al _ (cell_al _ (cell_nw _ _ _ 0 _ rfl))
  have r1 : W0.cell? ⟨w.heap.size, 1, none⟩ = some (.slice a M cap) := by rw [hW0]; exact cell_al _ (cell_al _ (cell_nw _ _ _ 1 _ rfl))
  have x0 : W0.cell? ⟨w.heap.size + 1, 0, none⟩ = some (.int .u8 kind) := by rw [hW0]; refine cell_al _ ?_; simp
  have x1 : W0.cell? ⟨w.heap.size + 1, 1, none⟩ = some (.int .i64 id) := by rw [hW0]; refine cell_al _ ?_; simp
  have x2 : W0.cell? ⟨w.heap.size + 1, 2, none⟩ = some (.int .u64 key) := by rw [hW0]; refine cell_al _ ?_; simp
  have q0 : W0.cell? ⟨w.heap.size + 1 + 1, 0, none⟩ = some (.int .i64 0) := by rw [hW0]; exact cell_nwE (by simp) _ _ 0 _ rfl
  have q1 : W0.cell? ⟨w.heap.size + 1 + 1, 1, none⟩ = some (.slice none 0 0) := by rw [hW0]; exact cell_nwE (by simp) _ _ 1 _ rfl
  have g0 : W0.frozen? ⟨w.heap.size + 1 + 1, 0, none⟩ = false := by rw [hW0]; exact frz_nwE (by simp) _ _ 0
  have g1 : W0.frozen? ⟨w.heap.size + 1 + 1, 1, none⟩ = false := by rw [hW0]; exact frz_nwE (by simp) _ _ 1
  have n0 : w.heap.size ∉ F := fun m => by have := HF.out _ m; omega
  have n1 : w.heap.size + 1 ∉ F := fun m => by have := HF.out _ m; omega
  have n2 : w.heap.size + 1 + 1 ∉ F := fun m => by have := HF.out _ m; omega
  have HW0 := Lib.hid hW0
  clear hW0
  rcases hk with hk | hk
  · skip
    have z0 : (kind.tmod 6 == 0) = true := by rw [hk]; rfl
    have z1 : (kind.tmod 6 == 1) = false := by rw [hk]; rfl
    have z2 : (kind.tmod 6 == 2) = false := by rw [hk]; rfl
    have z3 : (kind.tmod 6 == 3) = false := by rw [hk]; rfl
    have z4 : (kind.tmod 6 == 4) = false := by rw [hk]; rfl
    clear hk
    go_enter Try.func25, Try.ntmps25
    go_wp2_with fail
    rw [← HW0.out]
    have HLQ := Lib.hid (lt_of_cell q0)
    generalize hbx : w.heap.size = bx at r0 r1 x0 x1 x2 q0 q1 g0 g1 n0 n1 n2 HLQ ⊢
    have HBX := Lib.hid hbx
    clear hbx
    refine (AP.out W0 (by first | exact (HR.out.later HB0.out).recs | exact (HR.out.later HB0.out).sub (by simp))).mono ?_
    rintro e w3 ⟨a3, cap3, rfl, hn3, hb3⟩
    replace g0 := frz_later hb3 g0 (lt_of_cell q0)
    replace g1 := frz_later hb3 g1 (lt_of_cell q1)
    replace r0 := cell_later hb3 r0
    replace r1 := cell_later hb3 r1
    replace x0 := cell_later hb3 x0
    replace x1 := cell_later hb3 x1
    replace x2 := cell_later hb3 x2
    replace q0 := cell_later hb3 q0
    replace q1 := cell_later hb3 q1
    have HN3 := Lib.hid hn3
    have HB3 := Lib.hid (Below.step HB0.out hb3)
    have H03 := Lib.hid hb3
    obtain ⟨N, hN⟩ : ∃ N, N = (putS n S id key).length := ⟨_, rfl⟩
    have HN := Lib.hid hN
    rw [← hN] at HN3 ⊢
    clear hn3 hb3 hN
    go_wp2_with fail
    obtain ⟨W4, hW4⟩ : ∃ W, W = w3.alloc (.cells #[.int .i64 n, .slice a3 N cap3] 58) := ⟨_, rfl⟩
    rw [← hW4]
    have hb4 : Below w3.heap.size w3 W4 := by rw [hW4]; exact below_a _ _
    have y0 : W4.cell? ⟨w3.heap.size, 0, none⟩ = some (.int .i64 n) := by rw [hW4]; exact cell_nw _ _ _ 0 _ rfl
    have y1 : W4.cell? ⟨w3.heap.size, 1, none⟩ = some (.slice a3 N cap3) := by rw [hW4]; exact cell_nw _ _ _ 1 _ rfl
    have f8 : W4.frozen? ⟨w3.heap.size, 0, none⟩ = false ∧ W4.frozen? ⟨w3.heap.size, 1, none⟩ = false := by rw [hW4]; exact ⟨frz_nw _ _ _ 0, frz_nw _ _ _ 1⟩
    replace g0 := frz_later hb4 g0 (lt_of_cell q0)
    replace g1 := frz_later hb4 g1 (lt_of_cell q1)
    replace r0 := cell_later hb4 r0
    replace r1 := cell_later hb4 r1
    replace x0 := cell_later hb4 x0
    replace x1 := cell_later hb4 x1
    replace x2 := cell_later hb4 x2
    replace q0 := cell_later hb4 q0
    replace q1 := cell_later hb4 q1
    have HB4 := Lib.hid (Below.step HB3.out hb4)
    have HX4 := Lib.hid (hb4)
    have L8 := Lib.hid (show W0.heap.size ≤ w3.heap.size from H03.out.size)
    generalize hb8 : w3.heap.size = b8 at y0 y1 f8 L8 ⊢
    have HB8 := Lib.hid hb8
    have hm8 : b8 ∉ (bx + 1 + 1) :: F := fun m => by
      have h1 := HLQ.out; have h2 := L8.out; have h3 := HB0.out.size
      rcases List.mem_cons.1 m with m | m
      · omega
      · have := HF.out _ m; omega
    have hm1 : bx + 1 ∉ (bx + 1 + 1) :: F := fun m => by
      rcases List.mem_cons.1 m with m | m
      · omega
      · exact n1 m
    have HH := Lib.hid (show HeapIn W4.drew p F n S from (HI.out.below HB4.out).below (Below.refl _ _).drew)
    have HRR := Lib.hid (show HeldR encQ ((bx + 1 + 1) :: F) W4 (.slice a3 N cap3) _ from (HN3.out ((bx + 1 + 1) :: F) (fun b hb => by
      have h1 := HLQ.out; have h3 := HB0.out.size
      rcases List.mem_cons.1 hb with rfl | hb
      · exact h1
      · have := HF.out _ hb; omega) (HR.out.step (Kept.of HB0.out) (fun b hb => by
      have h1 := HBX.out
      rcases List.mem_cons.1 hb with rfl | hb
      · exact Or.inr (by omega)
      · exact Or.inl hb))).later HX4.out)
    clear hb4 hW4 hb8 f8
    have hS0 : Kept ((bx + 1 + 1) :: F) W4 W4.drew ∧ W4.drew.cell? ⟨b8, 0, none⟩ = some (.int .i64 n) ∧ W4.drew.cell? ⟨b8, 1, none⟩ = some (.slice a3 N cap3) ∧ W4.drew.cell? ⟨bx + 1, 1, none⟩ = some (.int .i64 id) ∧ W4.drew.cell? ⟨bx + 1, 2, none⟩ = some (.int .u64 key) := ⟨Kept.drew (Kept.refl _ _), cell_dr y0, cell_dr y1, cell_dr x1, cell_dr x2⟩
    refine wp_region_held_drew (S := fun w' => Kept ((bx + 1 + 1) :: F) W4 w' ∧ w'.cell? ⟨b8, 0, none⟩ = some (.int .i64 n) ∧ w'.cell? ⟨b8, 1, none⟩ = some (.slice a3 N cap3) ∧ w'.cell? ⟨bx + 1, 1, none⟩ = some (.int .i64 id) ∧ w'.cell? ⟨bx + 1, 2, none⟩ = some (.int .u64 key)) (by kernel_rfl) hS0 (fun hHeld => ?_)
    refine takeH (i := 0) (v := ?v0_1) rfl (by kernel_rfl) (fun _ _ _ h => h) (by rfl) ?hy0_1 (by assumption) ?rest0_1
    case hy0_1 => (intro w hSw; (try dsimp only at hSw); go_simp; try with_reducible rfl)
    try simp only [Act.put, List.setIfInBounds_toArray, List.set_cons_zero, List.set_cons_succ]
    refine takeH (i := 1) (v := ?v1_2) rfl (by kernel_rfl) (fun _ _ _ h => h) (by rfl) ?hy1_2 (by assumption) ?rest1_2
    case hy1_2 => (intro w hSw; (try dsimp only at hSw); go_simp; try with_reducible rfl)
    try simp only [Act.put, List.setIfInBounds_toArray, List.set_cons_zero, List.set_cons_succ]
    refine takeH (i := 2) (v := ?v2_3) rfl (by kernel_rfl) (fun _ _ _ h => h) (by rfl) ?hy2_3 (by assumption) ?rest2_3
    case hy2_3 => (intro w hSw; (try dsimp only at hSw); go_simp; try with_reducible rfl)
    try simp only [Act.put, List.setIfInBounds_toArray, List.set_cons_zero, List.set_cons_succ]
    refine takeH (i := 3) (v := ?v3_4) rfl (by kernel_rfl) (fun _ _ _ h => h) (by rfl) ?hy3_4 (by assumption) ?rest3_4
    case hy3_4 => (intro w hSw; (try dsimp only at hSw); go_simp; try with_reducible rfl)
    try simp only [Act.put, List.setIfInBounds_toArray, List.set_cons_zero, List.set_cons_succ]
    refine takeH (i := 4) (v := ?v4_5) rfl (by kernel_rfl) (fun _ _ _ h => h) (by rfl) ?hy4_5 (by assumption) ?rest4_5
    case hy4_5 => (intro w hSw; (try dsimp only at hSw); go_simp; try with_reducible rfl)
    try simp only [Act.put, List.setIfInBounds_toArray, List.set_cons_zero, List.set_cons_succ]
    refine takeH (i := 5) (v := ?v5_6) rfl (by kernel_rfl) (fun _ _ _ h => h) (by rfl) ?hy5_6 (by assumption) ?rest5_6
    case hy5_6 => (intro w hSw; (try dsimp only at hSw); go_simp; try with_reducible rfl)
    try simp only [Act.put, List.setIfInBounds_toArray, List.set_cons_zero, List.set_cons_succ]
    refine takeH (i := 7) (v := ?v7_7) rfl (by kernel_rfl) (fun _ _ _ h => h) (by rfl) ?hy7_7 (by assumption) ?rest7_7
    case hy7_7 => (intro w hSw; (try dsimp only at hSw); go_simp; try with_reducible rfl)
    try simp only [Act.put, List.setIfInBounds_toArray, List.set_cons_zero, List.set_cons_succ]
    refine wpAnyH_ready (rs := [6]) (by kernel_rfl) (by simp) ?_
    refine consH rfl (fun K hK => ?_) (AllReadyH.nil)
    go_simp
    refine (Put_at id key _ HH.out HID.out HKEY.out).mono ?_
    rintro e w9 ⟨rfl, hA9⟩
    obtain ⟨F9, h9, s9⟩ := hA9.split
    have hk9 : Kept ((bx + 1 + 1) :: F) W4.drew w9 := s9.kept.mono (fun b hb => by simp [hb])
    replace g0 := s9.kept.frz g0 (lt_of_cell q0) n2
    replace g1 := s9.kept.frz g1 (lt_of_cell q1) n2
    replace q0 := s9.cell n2 q0
    replace q1 := s9.cell n2 q1
    have HS9 := Lib.hid s9
    have HH9 := Lib.hid h9
    clear hA9 s9 h9
    go_wp2_with fail
    refine hK.out _ _ ?_ (fun hHeld6 => ?_)
    · (first | assumption | (refine heldK_4 (by assumption) ?_ (by assumption) (by assumption) (by assumption) (by assumption) ; assumption) | (refine heldK_4 (Kept.of (below_ad _ _)) ?_ (by assumption) (by assumption) (by assumption) (by assumption) ; assumption) | (refine heldK_4 (Kept.of (below_a _ _)) ?_ (by assumption) (by assumption) (by assumption) (by assumption) ; assumption))
    clear hK K
    try simp only [Act.put, List.setIfInBounds_toArray, List.set_cons_zero, List.set_cons_succ]
    refine takeH (i := 8) (v := ?v8_8) rfl (by kernel_rfl) (fun _ _ _ h => h) (by rfl) ?hy8_8 (by assumption) ?rest8_8
    case hy8_8 => (intro w hSw; (try dsimp only at hSw); go_simp; try with_reducible rfl)
    try simp only [Act.put, List.setIfInBounds_toArray, List.set_cons_zero, List.set_cons_succ]
    refine wpAnyH_ready (rs := [9]) (by kernel_rfl) (by simp) ?_
    refine consH rfl (fun K hK => ?_) (AllReadyH.nil)
    go_simp
    have hk9b : Kept ((bx + 1 + 1) :: F) w9 ((w9.setCell ⟨bx + 1 + 1, 0, none⟩ (.int .i64 n)).setCell ⟨bx + 1 + 1, 1, none⟩ (.slice a3 N cap3)) := ((Kept.refl _ _).setCell (Or.inl (by simp)) _).setCell (Or.inl (by simp)) _
    refine hK.out _ _ ?_ (fun hHeld9 => ?_)
    · (first | assumption | (refine heldK_4 (by assumption) ?_ (by assumption) (by assumption) (by assumption) (by assumption) ; assumption) | (refine heldK_4 (Kept.of (below_ad _ _)) ?_ (by assumption) (by assumption) (by assumption) (by assumption) ; assumption) | (refine heldK_4 (Kept.of (below_a _ _)) ?_ (by assumption) (by assumption) (by assumption) (by assumption) ; assumption))
    clear hK K
    try simp only [Act.put, List.setIfInBounds_toArray, List.set_cons_zero, List.set_cons_succ]
    refine takeH (i := 10) (v := ?v10_9) rfl (by kernel_rfl) (fun _ _ _ h => h) (by rfl) ?hy10_9 (by assumption) ?rest10_9
    case hy10_9 => (intro w hSw; (try dsimp only at hSw); go_simp; try with_reducible rfl)
    try simp only [Act.put, List.setIfInBounds_toArray, List.set_cons_zero, List.set_cons_succ]
    refine wpAnyH_done (by kernel_rfl) ?_ _
    go_wp2_with fail
    refine bodyPost_ret (v := .tuple #[.agg #[.int .i64 n, .slice a3 N cap3], .bool true]) (by simp [results, Try.results25, go_sem, *]) rfl ?_
    have KF : Kept [bx + 1 + 1] w9 ((w9.setCell ⟨bx + 1 + 1, 0, none⟩ (.int .i64 n)).setCell ⟨bx + 1 + 1, 1, none⟩ (.slice a3 N cap3)) := ((Kept.refl _ _).setCell (Or.inl (by simp)) _).setCell (Or.inl (by simp)) _
    have HR9 := HRR.out
    rw [HN.out] at HR9 KF ⊢
    exact act_done HB4.out HF.out (by have := HBX.out; omega) (by have := HLQ.out; have := HB3.out.size; have := HX4.out.size; have := H03.out.size; omega) ((Step.of (Below.refl W4.heap.size W4).drew).trans HS9.out) HH9.out HR9 KF
  · skip
    have z0 : (kind.tmod 6 == 0) = false := by rw [hk]; rfl
    have z1 : (kind.tmod 6 == 1) = true := by rw [hk]; rfl
    have z2 : (kind.tmod 6 == 2) = false := by rw [hk]; rfl
    have z3 : (kind.tmod 6 == 3) = false := by rw [hk]; rfl
    have z4 : (kind.tmod 6 == 4) = false := by rw [hk]; rfl
    clear hk
    go_enter Try.func25, Try.ntmps25
    go_wp2_with fail
    rw [← HW0.out]
    have HLQ := Lib.hid (lt_of_cell q0)
    generalize hbx : w.heap.size = bx at r0 r1 x0 x1 x2 q0 q1 g0 g1 n0 n1 n2 HLQ ⊢
    have HBX := Lib.hid hbx
    clear hbx
    refine (AP.out W0 (by first | exact (HR.out.later HB0.out).recs | exact (HR.out.later HB0.out).sub (by simp))).mono ?_
    rintro e w3 ⟨a3, cap3, rfl, hn3, hb3⟩
    replace g0 := frz_later hb3 g0 (lt_of_cell q0)
    replace g1 := frz_later hb3 g1 (lt_of_cell q1)
    replace r0 := cell_later hb3 r0
    replace r1 := cell_later hb3 r1
    replace x0 := cell_later hb3 x0
    replace x1 := cell_later hb3 x1
    replace x2 := cell_later hb3 x2
    replace q0 := cell_later hb3 q0
    replace q1 := cell_later hb3 q1
    have HN3 := Lib.hid hn3
    have HB3 := Lib.hid (Below.step HB0.out hb3)
    have H03 := Lib.hid hb3
    obtain ⟨N, hN⟩ : ∃ N, N = (putS n S id key).length := ⟨_, rfl⟩
    have HN := Lib.hid hN
    rw [← hN] at HN3 ⊢
    clear hn3 hb3 hN
    go_wp2_with fail
    obtain ⟨W4, hW4⟩ : ∃ W, W = w3.alloc (.cells #[.int .i64 n, .slice a3 N cap3] 58) := ⟨_, rfl⟩
    rw [← hW4]
    have hb4 : Below w3.heap.size w3 W4 := by rw [hW4]; exact below_a _ _
    have y0 : W4.cell? ⟨w3.heap.size, 0, none⟩ = some (.int .i64 n) := by rw [hW4]; exact cell_nw _ _ _ 0 _ rfl
    have y1 : W4.cell? ⟨w3.heap.size, 1, none⟩ = some (.slice a3 N cap3) := by rw [hW4]; exact cell_nw _ _ _ 1 _ rfl
    have f8 : W4.frozen? ⟨w3.heap.size, 0, none⟩ = false ∧ W4.frozen? ⟨w3.heap.size, 1, none⟩ = false := by rw [hW4]; exact ⟨frz_nw _ _ _ 0, frz_nw _ _ _ 1⟩
    replace g0 := frz_later hb4 g0 (lt_of_cell q0)
    replace g1 := frz_later hb4 g1 (lt_of_cell q1)
    replace r0 := cell_later hb4 r0
    replace r1 := cell_later hb4 r1
    replace x0 := cell_later hb4 x0
    replace x1 := cell_later hb4 x1
    replace x2 := cell_later hb4 x2
    replace q0 := cell_later hb4 q0
    replace q1 := cell_later hb4 q1
    have HB4 := Lib.hid (Below.step HB3.out hb4)
    have HX4 := Lib.hid (hb4)
    have L8 := Lib.hid (show W0.heap.size ≤ w3.heap.size from H03.out.size)
    generalize hb8 : w3.heap.size = b8 at y0 y1 f8 L8 ⊢
    have HB8 := Lib.hid hb8
    have hm8 : b8 ∉ (bx + 1 + 1) :: F := fun m => by
      have h1 := HLQ.out; have h2 := L8.out; have h3 := HB0.out.size
      rcases List.mem_cons.1 m with m | m
      · omega
      · have := HF.out _ m; omega
    have hm1 : bx + 1 ∉ (bx + 1 + 1) :: F := fun m => by
      rcases List.mem_cons.1 m with m | m
      · omega
      · exact n1 m
    have HH := Lib.hid (show HeapIn W4.drew p F n S from (HI.out.below HB4.out).below (Below.refl _ _).drew)
    have HRR := Lib.hid (show HeldR encQ ((bx + 1 + 1) :: F) W4 (.slice a3 N cap3) _ from (HN3.out ((bx + 1 + 1) :: F) (fun b hb => by
      have h1 := HLQ.out; have h3 := HB0.out.size
      rcases List.mem_cons.1 hb with rfl | hb
      · exact h1
      · have := HF.out _ hb; omega) (HR.out.step (Kept.of HB0.out) (fun b hb => by
      have h1 := HBX.out
      rcases List.mem_cons.1 hb with rfl | hb
      · exact Or.inr (by omega)
      · exact Or.inl hb))).later HX4.out)
    clear hb4 hW4 hb8 f8
    have hS0 : Kept ((bx + 1 + 1) :: F) W4 W4.drew ∧ W4.drew.cell? ⟨b8, 0, none⟩ = some (.int .i64 n) ∧ W4.drew.cell? ⟨b8, 1, none⟩ = some (.slice a3 N cap3) ∧ W4.drew.cell? ⟨bx + 1, 1, none⟩ = some (.int .i64 id) ∧ W4.drew.cell? ⟨bx + 1, 2, none⟩ = some (.int .u64 key) := ⟨Kept.drew (Kept.refl _ _), cell_dr y0, cell_dr y1, cell_dr x1, cell_dr x2⟩
    refine wp_region_held_drew (S := fun w' => Kept ((bx + 1 + 1) :: F) W4 w' ∧ w'.cell? ⟨b8, 0, none⟩ = some (.int .i64 n) ∧ w'.cell? ⟨b8, 1, none⟩ = some (.slice a3 N cap3) ∧ w'.cell? ⟨bx + 1, 1, none⟩ = some (.int .i64 id) ∧ w'.cell? ⟨bx + 1, 2, none⟩ = some (.int .u64 key)) (by kernel_rfl) hS0 (fun hHeld => ?_)
    refine takeH (i := 0) (v := ?v0_10) rfl (by kernel_rfl) (fun _ _ _ h => h) (by rfl) ?hy0_10 (by assumption) ?rest0_10
    case hy0_10 => (intro w hSw; (try dsimp only at hSw); go_simp; try with_reducible rfl)
    try simp only [Act.put, List.setIfInBounds_toArray, List.set_cons_zero, List.set_cons_succ]
    refine takeH (i := 1) (v := ?v1_11) rfl (by kernel_rfl) (fun _ _ _ h => h) (by rfl) ?hy1_11 (by assumption) ?rest1_11
    case hy1_11 => (intro w hSw; (try dsimp only at hSw); go_simp; try with_reducible rfl)
    try simp only [Act.put, List.setIfInBounds_toArray, List.set_cons_zero, List.set_cons_succ]
    refine takeH (i := 2) (v := ?v2_12) rfl (by kernel_rfl) (fun _ _ _ h => h) (by rfl) ?hy2_12 (by assumption) ?rest2_12
    case hy2_12 => (intro w hSw; (try dsimp only at hSw); go_simp; try with_reducible rfl)
    try simp only [Act.put, List.setIfInBounds_toArray, List.set_cons_zero, List.set_cons_succ]
    refine takeH (i := 3) (v := ?v3_13) rfl (by kernel_rfl) (fun _ _ _ h => h) (by rfl) ?hy3_13 (by assumption) ?rest3_13
    case hy3_13 => (intro w hSw; (try dsimp only at hSw); go_simp; try with_reducible rfl)
    try simp only [Act.put, List.setIfInBounds_toArray, List.set_cons_zero, List.set_cons_succ]
    refine takeH (i := 4) (v := ?v4_14) rfl (by kernel_rfl) (fun _ _ _ h => h) (by rfl) ?hy4_14 (by assumption) ?rest4_14
    case hy4_14 => (intro w hSw; (try dsimp only at hSw); go_simp; try with_reducible rfl)
    try simp only [Act.put, List.setIfInBounds_toArray, List.set_cons_zero, List.set_cons_succ]
    refine takeH (i := 5) (v := ?v5_15) rfl (by kernel_rfl) (fun _ _ _ h => h) (by rfl) ?hy5_15 (by assumption) ?rest5_15
    case hy5_15 => (intro w hSw; (try dsimp only at hSw); go_simp; try with_reducible rfl)
    try simp only [Act.put, List.setIfInBounds_toArray, List.set_cons_zero, List.set_cons_succ]
    refine takeH (i := 7) (v := ?v7_16) rfl (by kernel_rfl) (fun _ _ _ h => h) (by rfl) ?hy7_16 (by assumption) ?rest7_16
    case hy7_16 => (intro w hSw; (try dsimp only at hSw); go_simp; try with_reducible rfl)
    try simp only [Act.put, List.setIfInBounds_toArray, List.set_cons_zero, List.set_cons_succ]
    refine wpAnyH_ready (rs := [6]) (by kernel_rfl) (by simp) ?_
    refine consH rfl (fun K hK => ?_) (AllReadyH.nil)
    go_simp
    refine (Put_at id key _ HH.out HID.out HKEY.out).mono ?_
    rintro e w9 ⟨rfl, hA9⟩
    obtain ⟨F9, h9, s9⟩ := hA9.split
    have hk9 : Kept ((bx + 1 + 1) :: F) W4.drew w9 := s9.kept.mono (fun b hb => by simp [hb])
    replace g0 := s9.kept.frz g0 (lt_of_cell q0) n2
    replace g1 := s9.kept.frz g1 (lt_of_cell q1) n2
    replace q0 := s9.cell n2 q0
    replace q1 := s9.cell n2 q1
    have HS9 := Lib.hid s9
    have HH9 := Lib.hid h9
    clear hA9 s9 h9
    go_wp2_with fail
    refine hK.out _ _ ?_ (fun hHeld6 => ?_)
    · (first | assumption | (refine heldK_4 (by assumption) ?_ (by assumption) (by assumption) (by assumption) (by assumption) ; assumption) | (refine heldK_4 (Kept.of (below_ad _ _)) ?_ (by assumption) (by assumption) (by assumption) (by assumption) ; assumption) | (refine heldK_4 (Kept.of (below_a _ _)) ?_ (by assumption) (by assumption) (by assumption) (by assumption) ; assumption))
    clear hK K
    try simp only [Act.put, List.setIfInBounds_toArray, List.set_cons_zero, List.set_cons_succ]
    refine takeH (i := 8) (v := ?v8_17) rfl (by kernel_rfl) (fun _ _ _ h => h) (by rfl) ?hy8_17 (by assumption) ?rest8_17
    case hy8_17 => (intro w hSw; (try dsimp only at hSw); go_simp; try with_reducible rfl)
    try simp only [Act.put, List.setIfInBounds_toArray, List.set_cons_zero, List.set_cons_succ]
    refine wpAnyH_ready (rs := [9]) (by kernel_rfl) (by simp) ?_
    refine consH rfl (fun K hK => ?_) (AllReadyH.nil)
    go_simp
    have hk9b : Kept ((bx + 1 + 1) :: F) w9 ((w9.setCell ⟨bx + 1 + 1, 0, none⟩ (.int .i64 n)).setCell ⟨bx + 1 + 1, 1, none⟩ (.slice a3 N cap3)) := ((Kept.refl _ _).setCell (Or.inl (by simp)) _).setCell (Or.inl (by simp)) _
    refine hK.out _ _ ?_ (fun hHeld9 => ?_)
    · (first | assumption | (refine heldK_4 (by assumption) ?_ (by assumption) (by assumption) (by assumption) (by assumption) ; assumption) | (refine heldK_4 (Kept.of (below_ad _ _)) ?_ (by assumption) (by assumption) (by assumption) (by assumption) ; assumption) | (refine heldK_4 (Kept.of (below_a _ _)) ?_ (by assumption) (by assumption) (by assumption) (by assumption) ; assumption))
    clear hK K
    try simp only [Act.put, List.setIfInBounds_toArray, List.set_cons_zero, List.set_cons_succ]
    refine takeH (i := 10) (v := ?v10_18) rfl (by kernel_rfl) (fun _ _ _ h => h) (by rfl) ?hy10_18 (by assumption) ?rest10_18
    case hy10_18 => (intro w hSw; (try dsimp only at hSw); go_simp; try with_reducible rfl)
    try simp only [Act.put, List.setIfInBounds_toArray, List.set_cons_zero, List.set_cons_succ]
    refine wpAnyH_done (by kernel_rfl) ?_ _
    go_wp2_with fail
    refine bodyPost_ret (v := .tuple #[.agg #[.int .i64 n, .slice a3 N cap3], .bool true]) (by simp [results, Try.results25, go_sem, *]) rfl ?_
    have KF : Kept [bx + 1 + 1] w9 ((w9.setCell ⟨bx + 1 + 1, 0, none⟩ (.int .i64 n)).setCell ⟨bx + 1 + 1, 1, none⟩ (.slice a3 N cap3)) := ((Kept.refl _ _).setCell (Or.inl (by simp)) _).setCell (Or.inl (by simp)) _
    have HR9 := HRR.out
    rw [HN.out] at HR9 KF ⊢
    exact act_done HB4.out HF.out (by have := HBX.out; omega) (by have := HLQ.out; have := HB3.out.size; have := HX4.out.size; have := H03.out.size; omega) ((Step.of (Below.refl W4.heap.size W4).drew).trans HS9.out) HH9.out HR9 KF
set_option maxRecDepth 100000 in
set_option maxHeartbeats 4000000 in
theorem act_set {p : Nat} {F : List Nat} {n : Int} {S : Items} (a : Option Addr) (cap : Nat) (kind id key : Int) (w : World) (h : HeapIn w p F n S) (hr : HeldR encQ F w (.slice a S.length cap) S) (hk : kind.tmod 6 = 2) (hid : (Lit.int .i64 id).wf = true) (hkey : 0 ≤ key ∧ key ≤ 18446744073709551615) :
    Calls Try.prog 25 #[.pointer (some ⟨p, 0, none⟩), .agg #[.int .i64 n, .slice a S.length cap], .agg #[.int .u8 kind, .int .i64 id, .int .u64 key]] w (ActP w p F n) := by
  have HI := Lib.hid h
  have HR := Lib.hid hr
  have HF := Lib.hid h.lt
  have HRS := Lib.hid h.refS
  have HID := Lib.hid hid
  have HKEY := Lib.hid hkey
  have AP := Lib.hid fun (W : World) (q : RecsAt encQ W (.slice a S.length cap) S) => rPut_any a cap n id key S W q h.refS
  have AS := Lib.hid fun (W : World) (q : HeldR encQ [] W (.slice a S.length cap) S) => rSet_any a cap n id key S W q h.refS
  have AO := Lib.hid fun (i : Int) (W : World) (q : RecsAt encQ W (.slice a S.length cap) S) => rOut_any a cap n i S W q h.refS
  have hM4 : S.length ≤ 400000 := h.refS.len
  clear h hr hid hkey
  obtain ⟨M, hM⟩ : ∃ M, M = S.length := ⟨_, rfl⟩
  have HM := Lib.hid hM.symm
  rw [← hM] at HR AP AS AO hM4 ⊢
  clear hM
  obtain ⟨W0, hW0⟩ : ∃ W0, W0 = ((w.alloc (.cells #[.int .i64 n, .slice a M cap] 58)).alloc (.cells #[.int .u8 kind, .int .i64 id, .int .u64 key] 60)).alloc (.cells #[.int .i64 0, .slice none 0 0] 58) := ⟨_, rfl⟩
  have HB0 := Lib.hid (show Below w.heap.size w W0 by rw [hW0]; exact Below.allocS (Below.allocS (Below.allocS (Below.refl _ _) _) _) _)
  have r0 : W0.cell? ⟨w.heap.size, 0, none⟩ = some (.int .i64 n) := by rw [hW0]; exact cell_al _ (cell_al _ (cell_nw _ _ _ 0 _ rfl))
  have r1 : W0.cell? ⟨w.heap.size, 1, none⟩ = some (.slice a M cap) := by rw [hW0]; exact cell_al _ (cell_al _ (cell_nw _ _ _ 1 _ rfl))
  have x0 : W0.cell? ⟨w.heap.size + 1, 0, none⟩ = some (.int .u8 kind) := by rw [hW0]; refine cell_al _ ?_; simp
  have x1 : W0.cell? ⟨w.heap.size + 1, 1, none⟩ = some (.int .i64 id) := by rw [hW0]; refine cell_al _ ?_; simp
  have x2 : W0.cell? ⟨w.heap.size + 1, 2, none⟩ = some (.int .u64 key) := by rw [hW0]; refine cell_al _ ?_; simp
  have q0 : W0.cell? ⟨w.heap.size + 1 + 1, 0, none⟩ = some (.int .i64 0) := by rw [hW0]; exact cell_nwE (by simp) _ _ 0 _ rfl
  have q1 : W0.cell? ⟨w.heap.size + 1 + 1, 1, none⟩ = some (.slice none 0 0) := by rw [hW0]; exact cell_nwE (by simp) _ _ 1 _ rfl
  have g0 : W0.frozen? ⟨w.heap.size + 1 + 1, 0, none⟩ = false := by rw [hW0]; exact frz_nwE (by simp) _ _ 0
  have g1 : W0.frozen? ⟨w.heap.size + 1 + 1, 1, none⟩ = false := by rw [hW0]; exact frz_nwE (by simp) _ _ 1
  have n0 : w.heap.size ∉ F := fun m => by have := HF.out _ m; omega
  have n1 : w.heap.size + 1 ∉ F := fun m => by have := HF.out _ m; omega
  have n2 : w.heap.size + 1 + 1 ∉ F := fun m => by have := HF.out _ m; omega
  have HW0 := Lib.hid hW0
  clear hW0
  have AP := Lib.hid fun (W : World) (q : HeldR encQ [] W (.slice a M cap) S) => AS.out W q
  have z0 : (kind.tmod 6 == 0) = false := by rw [hk]; rfl
  have z1 : (kind.tmod 6 == 1) = false := by rw [hk]; rfl
  have z2 : (kind.tmod 6 == 2) = true := by rw [hk]; rfl
  have z3 : (kind.tmod 6 == 3) = false := by rw [hk]; rfl
  have z4 : (kind.tmod 6 == 4) = false := by rw [hk]; rfl
  clear hk
  go_enter Try.func25, Try.ntmps25
  go_wp2_with fail
  rw [← HW0.out]
  have HLQ := Lib.hid (lt_of_cell q0)
  generalize hbx : w.heap.size = bx at r0 r1 x0 x1 x2 q0 q1 g0 g1 n0 n1 n2 HLQ ⊢
  have HBX := Lib.hid hbx
  clear hbx
  refine (AP.out W0 (by first | exact (HR.out.later HB0.out).recs | exact (HR.out.later HB0.out).sub (by simp))).mono ?_
  rintro e w3 ⟨a3, cap3, rfl, hn3, hb3⟩
  replace g0 := frz_later hb3 g0 (lt_of_cell q0)
  replace g1 := frz_later hb3 g1 (lt_of_cell q1)
  replace r0 := cell_later hb3 r0
  replace r1 := cell_later hb3 r1
  replace x0 := cell_later hb3 x0
  replace x1 := cell_later hb3 x1
  replace x2 := cell_later hb3 x2
  replace q0 := cell_later hb3 q0
  replace q1 := cell_later hb3 q1
  have HN3 := Lib.hid hn3
  have HB3 := Lib.hid (Below.step HB0.out hb3)
  have H03 := Lib.hid hb3
  obtain ⟨N, hN⟩ : ∃ N, N = (setS n S id key).length := ⟨_, rfl⟩
  have HN := Lib.hid hN
  rw [← hN] at HN3 ⊢
  clear hn3 hb3 hN
  go_wp2_with fail
  obtain ⟨W4, hW4⟩ : ∃ W, W = w3.alloc (.cells #[.int .i64 n, .slice a3 N cap3] 58) := ⟨_, rfl⟩
  rw [← hW4]
  have hb4 : Below w3.heap.size w3 W4 := by rw [hW4]; exact below_a _ _
  have y0 : W4.cell? ⟨w3.heap.size, 0, none⟩ = some (.int .i64 n) := by rw [hW4]; exact cell_nw _ _ _ 0 _ rfl
  have y1 : W4.cell? ⟨w3.heap.size, 1, none⟩ = some (.slice a3 N cap3) := by rw [hW4]; exact cell_nw _ _ _ 1 _ rfl
  have f8 : W4.frozen? ⟨w3.heap.size, 0, none⟩ = false ∧ W4.frozen? ⟨w3.heap.size, 1, none⟩ = false := by rw [hW4]; exact ⟨frz_nw _ _ _ 0, frz_nw _ _ _ 1⟩
  replace g0 := frz_later hb4 g0 (lt_of_cell q0)
  replace g1 := frz_later hb4 g1 (lt_of_cell q1)
  replace r0 := cell_later hb4 r0
  replace r1 := cell_later hb4 r1
  replace x0 := cell_later hb4 x0
  replace x1 := cell_later hb4 x1
  replace x2 := cell_later hb4 x2
  replace q0 := cell_later hb4 q0
  replace q1 := cell_later hb4 q1
  have HB4 := Lib.hid (Below.step HB3.out hb4)
  have HX4 := Lib.hid (hb4)
  have L8 := Lib.hid (show W0.heap.size ≤ w3.heap.size from H03.out.size)
  generalize hb8 : w3.heap.size = b8 at y0 y1 f8 L8 ⊢
  have HB8 := Lib.hid hb8
  have hm8 : b8 ∉ (bx + 1 + 1) :: F := fun m => by
    have h1 := HLQ.out; have h2 := L8.out; have h3 := HB0.out.size
    rcases List.mem_cons.1 m with m | m
    · omega
    · have := HF.out _ m; omega
  have hm1 : bx + 1 ∉ (bx + 1 + 1) :: F := fun m => by
    rcases List.mem_cons.1 m with m | m
    · omega
    · exact n1 m
  have HH := Lib.hid (show HeapIn W4.drew p F n S from (HI.out.below HB4.out).below (Below.refl _ _).drew)
  have HRR := Lib.hid (show HeldR encQ ((bx + 1 + 1) :: F) W4 (.slice a3 N cap3) _ from (HN3.out ((bx + 1 + 1) :: F) (fun b hb => by
    have h1 := HLQ.out; have h3 := HB0.out.size
    rcases List.mem_cons.1 hb with rfl | hb
    · exact h1
    · have := HF.out _ hb; omega) (HR.out.step (Kept.of HB0.out) (fun b hb => by
    have h1 := HBX.out
    rcases List.mem_cons.1 hb with rfl | hb
    · exact Or.inr (by omega)
    · exact Or.inl hb))).later HX4.out)
  clear hb4 hW4 hb8 f8
  have hS0 : Kept ((bx + 1 + 1) :: F) W4 W4.drew ∧ W4.drew.cell? ⟨b8, 0, none⟩ = some (.int .i64 n) ∧ W4.drew.cell? ⟨b8, 1, none⟩ = some (.slice a3 N cap3) ∧ W4.drew.cell? ⟨bx + 1, 1, none⟩ = some (.int .i64 id) ∧ W4.drew.cell? ⟨bx + 1, 2, none⟩ = some (.int .u64 key) := ⟨Kept.drew (Kept.refl _ _), cell_dr y0, cell_dr y1, cell_dr x1, cell_dr x2⟩
  refine wp_region_held_drew (S := fun w' => Kept ((bx + 1 + 1) :: F) W4 w' ∧ w'.cell? ⟨b8, 0, none⟩ = some (.int .i64 n) ∧ w'.cell? ⟨b8, 1, none⟩ = some (.slice a3 N cap3) ∧ w'.cell? ⟨bx + 1, 1, none⟩ = some (.int .i64 id) ∧ w'.cell? ⟨bx + 1, 2, none⟩ = some (.int .u64 key)) (by kernel_rfl) hS0 (fun hHeld => ?_)
  refine takeH (i := 0) (v := ?v0_19) rfl (by kernel_rfl) (fun _ _ _ h => h) (by rfl) ?hy0_19 (by assumption) ?rest0_19
  case hy0_19 => (intro w hSw; (try dsimp only at hSw); go_simp; try with_reducible rfl)
  try simp only [Act.put, List.setIfInBounds_toArray, List.set_cons_zero, List.set_cons_succ]
  refine takeH (i := 1) (v := ?v1_20) rfl (by kernel_rfl) (fun _ _ _ h => h) (by rfl) ?hy1_20 (by assumption) ?rest1_20
  case hy1_20 => (intro w hSw; (try dsimp only at hSw); go_simp; try with_reducible rfl)
  try simp only [Act.put, List.setIfInBounds_toArray, List.set_cons_zero, List.set_cons_succ]
  refine takeH (i := 2) (v := ?v2_21) rfl (by kernel_rfl) (fun _ _ _ h => h) (by rfl) ?hy2_21 (by assumption) ?rest2_21
  case hy2_21 => (intro w hSw; (try dsimp only at hSw); go_simp; try with_reducible rfl)
  try simp only [Act.put, List.setIfInBounds_toArray, List.set_cons_zero, List.set_cons_succ]
  refine takeH (i := 3) (v := ?v3_22) rfl (by kernel_rfl) (fun _ _ _ h => h) (by rfl) ?hy3_22 (by assumption) ?rest3_22
  case hy3_22 => (intro w hSw; (try dsimp only at hSw); go_simp; try with_reducible rfl)
  try simp only [Act.put, List.setIfInBounds_toArray, List.set_cons_zero, List.set_cons_succ]
  refine takeH (i := 4) (v := ?v4_23) rfl (by kernel_rfl) (fun _ _ _ h => h) (by rfl) ?hy4_23 (by assumption) ?rest4_23
  case hy4_23 => (intro w hSw; (try dsimp only at hSw); go_simp; try with_reducible rfl)
  try simp only [Act.put, List.setIfInBounds_toArray, List.set_cons_zero, List.set_cons_succ]
  refine takeH (i := 5) (v := ?v5_24) rfl (by kernel_rfl) (fun _ _ _ h => h) (by rfl) ?hy5_24 (by assumption) ?rest5_24
  case hy5_24 => (intro w hSw; (try dsimp only at hSw); go_simp; try with_reducible rfl)
  try simp only [Act.put, List.setIfInBounds_toArray, List.set_cons_zero, List.set_cons_succ]
  refine takeH (i := 7) (v := ?v7_25) rfl (by kernel_rfl) (fun _ _ _ h => h) (by rfl) ?hy7_25 (by assumption) ?rest7_25
  case hy7_25 => (intro w hSw; (try dsimp only at hSw); go_simp; try with_reducible rfl)
  try simp only [Act.put, List.setIfInBounds_toArray, List.set_cons_zero, List.set_cons_succ]
  refine wpAnyH_ready (rs := [6]) (by kernel_rfl) (by simp) ?_
  refine consH rfl (fun K hK => ?_) (AllReadyH.nil)
  go_simp
  refine (Set_at id key _ HH.out HID.out HKEY.out).mono ?_
  rintro e w9 ⟨rfl, hA9⟩
  obtain ⟨F9, h9, s9⟩ := hA9.split
  have hk9 : Kept ((bx + 1 + 1) :: F) W4.drew w9 := s9.kept.mono (fun b hb => by simp [hb])
  replace g0 := s9.kept.frz g0 (lt_of_cell q0) n2
  replace g1 := s9.kept.frz g1 (lt_of_cell q1) n2
  replace q0 := s9.cell n2 q0
  replace q1 := s9.cell n2 q1
  have HS9 := Lib.hid s9
  have HH9 := Lib.hid h9
  clear hA9 s9 h9
  go_wp2_with fail
  refine hK.out _ _ ?_ (fun hHeld6 => ?_)
  · (first | assumption | (refine heldK_4 (by assumption) ?_ (by assumption) (by assumption) (by assumption) (by assumption) ; assumption) | (refine heldK_4 (Kept.of (below_ad _ _)) ?_ (by assumption) (by assumption) (by assumption) (by assumption) ; assumption) | (refine heldK_4 (Kept.of (below_a _ _)) ?_ (by assumption) (by assumption) (by assumption) (by assumption) ; assumption))
  clear hK K
  try simp only [Act.put, List.setIfInBounds_toArray, List.set_cons_zero, List.set_cons_succ]
  refine takeH (i := 8) (v := ?v8_26) rfl (by kernel_rfl) (fun _ _ _ h => h) (by rfl) ?hy8_26 (by assumption) ?rest8_26
  case hy8_26 => (intro w hSw; (try dsimp only at hSw); go_simp; try with_reducible rfl)
  try simp only [Act.put, List.setIfInBounds_toArray, List.set_cons_zero, List.set_cons_succ]
  refine wpAnyH_ready (rs := [9]) (by kernel_rfl) (by simp) ?_
  refine consH rfl (fun K hK => ?_) (AllReadyH.nil)
  go_simp
  have hk9b : Kept ((bx + 1 + 1) :: F) w9 ((w9.setCell ⟨bx + 1 + 1, 0, none⟩ (.int .i64 n)).setCell ⟨bx + 1 + 1, 1, none⟩ (.slice a3 N cap3)) := ((Kept.refl _ _).setCell (Or.inl (by simp)) _).setCell (Or.inl (by simp)) _
  refine hK.out _ _ ?_ (fun hHeld9 => ?_)
  · (first | assumption | (refine heldK_4 (by assumption) ?_ (by assumption) (by assumption) (by assumption) (by assumption) ; assumption) | (refine heldK_4 (Kept.of (below_ad _ _)) ?_ (by assumption) (by assumption) (by assumption) (by assumption) ; assumption) | (refine heldK_4 (Kept.of (below_a _ _)) ?_ (by assumption) (by assumption) (by assumption) (by assumption) ; assumption))
  clear hK K
  try simp only [Act.put, List.setIfInBounds_toArray, List.set_cons_zero, List.set_cons_succ]
  refine takeH (i := 10) (v := ?v10_27) rfl (by kernel_rfl) (fun _ _ _ h => h) (by rfl) ?hy10_27 (by assumption) ?rest10_27
  case hy10_27 => (intro w hSw; (try dsimp only at hSw); go_simp; try with_reducible rfl)
  try simp only [Act.put, List.setIfInBounds_toArray, List.set_cons_zero, List.set_cons_succ]
  refine wpAnyH_done (by kernel_rfl) ?_ _
  go_wp2_with fail
  refine bodyPost_ret (v := .tuple #[.agg #[.int .i64 n, .slice a3 N cap3], .bool true]) (by simp [results, Try.results25, go_sem, *]) rfl ?_
  have KF : Kept [bx + 1 + 1] w9 ((w9.setCell ⟨bx + 1 + 1, 0, none⟩ (.int .i64 n)).setCell ⟨bx + 1 + 1, 1, none⟩ (.slice a3 N cap3)) := ((Kept.refl _ _).setCell (Or.inl (by simp)) _).setCell (Or.inl (by simp)) _
  have HR9 := HRR.out
  rw [HN.out] at HR9 KF ⊢
  exact act_done HB4.out HF.out (by have := HBX.out; omega) (by have := HLQ.out; have := HB3.out.size; have := HX4.out.size; have := H03.out.size; omega) ((Step.of (Below.refl W4.heap.size W4).drew).trans HS9.out) HH9.out HR9 KF
set_option maxRecDepth 100000 in
set_option maxHeartbeats 4000000 in
theorem act_out {p : Nat} {F : List Nat} {n : Int} {S : Items} (a : Option Addr) (cap : Nat) (kind id key : Int) (w : World) (h : HeapIn w p F n S) (hr : HeldR encQ F w (.slice a S.length cap) S) (hk : kind.tmod 6 = 3) (hid : (Lit.int .i64 id).wf = true) (hkey : 0 ≤ key ∧ key ≤ 18446744073709551615) :
    Calls Try.prog 25 #[.pointer (some ⟨p, 0, none⟩), .agg #[.int .i64 n, .slice a S.length cap], .agg #[.int .u8 kind, .int .i64 id, .int .u64 key]] w (ActP w p F n) := by
  have HI := Lib.hid h
  have HR := Lib.hid hr
  have HF := Lib.hid h.lt
  have HRS := Lib.hid h.refS
  have HID := Lib.hid hid
  have HKEY := Lib.hid hkey
  have AP := Lib.hid fun (W : World) (q : RecsAt encQ W (.slice a S.length cap) S) => rPut_any a cap n id key S W q h.refS
  have AS := Lib.hid fun (W : World) (q : HeldR encQ [] W (.slice a S.length cap) S) => rSet_any a cap n id key S W q h.refS
  have AO := Lib.hid fun (i : Int) (W : World) (q : RecsAt encQ W (.slice a S.length cap) S) => rOut_any a cap n i S W q h.refS
  have hM4 : S.length ≤ 400000 := h.refS.len
  clear h hr hid hkey
  obtain ⟨M, hM⟩ : ∃ M, M = S.length := ⟨_, rfl⟩
  have HM := Lib.hid hM.symm
  rw [← hM] at HR AP AS AO hM4 ⊢
  clear hM
  obtain ⟨W0, hW0⟩ : ∃ W0, W0 = ((w.alloc (.cells #[.int .i64 n, .slice a M cap] 58)).alloc (.cells #[.int .u8 kind, .int .i64 id, .int .u64 key] 60)).alloc (.cells #[.int .i64 0, .slice none 0 0] 58) := ⟨_, rfl⟩
  have HB0 := Lib.hid (show Below w.heap.size w W0 by rw [hW0]; exact Below.allocS (Below.allocS (Below.allocS (Below.refl _ _) _) _) _)
  have r0 : W0.cell? ⟨w.heap.size, 0, none⟩ = some (.int .i64 n) := by rw [hW0]; exact cell_al _ (cell_al _ (cell_nw _ _ _ 0 _ rfl))
  have r1 : W0.cell? ⟨w.heap.size, 1, none⟩ = some (.slice a M cap) := by rw [hW0]; exact cell_al _ (cell_al _ (cell_nw _ _ _ 1 _ rfl))
  have x0 : W0.cell? ⟨w.heap.size + 1, 0, none⟩ = some (.int .u8 kind) := by rw [hW0]; refine cell_al _ ?_; simp
  have x1 : W0.cell? ⟨w.heap.size + 1, 1, none⟩ = some (.int .i64 id) := by rw [hW0]; refine cell_al _ ?_; simp
  have x2 : W0.cell? ⟨w.heap.size + 1, 2, none⟩ = some (.int .u64 key) := by rw [hW0]; refine cell_al _ ?_; simp
  have q0 : W0.cell? ⟨w.heap.size + 1 + 1, 0, none⟩ = some (.int .i64 0) := by rw [hW0]; exact cell_nwE (by simp) _ _ 0 _ rfl
  have q1 : W0.cell? ⟨w.heap.size + 1 + 1, 1, none⟩ = some (.slice none 0 0) := by rw [hW0]; exact cell_nwE (by simp) _ _ 1 _ rfl
  have g0 : W0.frozen? ⟨w.heap.size + 1 + 1, 0, none⟩ = false := by rw [hW0]; exact frz_nwE (by simp) _ _ 0
  have g1 : W0.frozen? ⟨w.heap.size + 1 + 1, 1, none⟩ = false := by rw [hW0]; exact frz_nwE (by simp) _ _ 1
  have n0 : w.heap.size ∉ F := fun m => by have := HF.out _ m; omega
  have n1 : w.heap.size + 1 ∉ F := fun m => by have := HF.out _ m; omega
  have n2 : w.heap.size + 1 + 1 ∉ F := fun m => by have := HF.out _ m; omega
  have HW0 := Lib.hid hW0
  clear hW0
  have z0 : (kind.tmod 6 == 0) = false := by rw [hk]; rfl
  have z1 : (kind.tmod 6 == 1) = false := by rw [hk]; rfl
  have z2 : (kind.tmod 6 == 2) = false := by rw [hk]; rfl
  have z3 : (kind.tmod 6 == 3) = true := by rw [hk]; rfl
  have z4 : (kind.tmod 6 == 4) = false := by rw [hk]; rfl
  clear hk
  go_enter Try.func25, Try.ntmps25
  go_wp2_with fail
  rw [← HW0.out]
  have HLQ := Lib.hid (lt_of_cell q0)
  generalize hbx : w.heap.size = bx at r0 r1 x0 x1 x2 q0 q1 g0 g1 n0 n1 n2 HLQ ⊢
  have HBX := Lib.hid hbx
  clear hbx
  refine (AO.out id W0 (HR.out.later HB0.out).recs).mono ?_
  rintro e w3 ⟨a3, cap3, rfl, hn3, hb3⟩
  replace g0 := frz_later hb3 g0 (lt_of_cell q0)
  replace g1 := frz_later hb3 g1 (lt_of_cell q1)
  replace r0 := cell_later hb3 r0
  replace r1 := cell_later hb3 r1
  replace x0 := cell_later hb3 x0
  replace x1 := cell_later hb3 x1
  replace x2 := cell_later hb3 x2
  replace q0 := cell_later hb3 q0
  replace q1 := cell_later hb3 q1
  have HN3 := Lib.hid hn3
  have HB3 := Lib.hid (Below.step HB0.out hb3)
  have H03 := Lib.hid hb3
  obtain ⟨N, hN⟩ : ∃ N, N = (outS n S id).length := ⟨_, rfl⟩
  have HN := Lib.hid hN
  rw [← hN] at HN3 ⊢
  clear hn3 hb3 hN
  have x1a := cell_al (.cells #[.int .i64 n, .slice a3 N cap3] 58) x1
  go_wp2_with fail
  clear x1a
  obtain ⟨W4, hW4⟩ : ∃ W, W = w3.alloc (.cells #[.int .i64 n, .slice a3 N cap3] 58) := ⟨_, rfl⟩
  rw [← hW4]
  have hb4 : Below w3.heap.size w3 W4 := by rw [hW4]; exact below_a _ _
  have y0 : W4.cell? ⟨w3.heap.size, 0, none⟩ = some (.int .i64 n) := by rw [hW4]; exact cell_nw _ _ _ 0 _ rfl
  have y1 : W4.cell? ⟨w3.heap.size, 1, none⟩ = some (.slice a3 N cap3) := by rw [hW4]; exact cell_nw _ _ _ 1 _ rfl
  have f8 : W4.frozen? ⟨w3.heap.size, 0, none⟩ = false ∧ W4.frozen? ⟨w3.heap.size, 1, none⟩ = false := by rw [hW4]; exact ⟨frz_nw _ _ _ 0, frz_nw _ _ _ 1⟩
  replace g0 := frz_later hb4 g0 (lt_of_cell q0)
  replace g1 := frz_later hb4 g1 (lt_of_cell q1)
  replace r0 := cell_later hb4 r0
  replace r1 := cell_later hb4 r1
  replace x0 := cell_later hb4 x0
  replace x1 := cell_later hb4 x1
  replace x2 := cell_later hb4 x2
  replace q0 := cell_later hb4 q0
  replace q1 := cell_later hb4 q1
  have HB4 := Lib.hid (Below.step HB3.out hb4)
  have HX4 := Lib.hid (hb4)
  have L8 := Lib.hid (show W0.heap.size ≤ w3.heap.size from H03.out.size)
  generalize hb8 : w3.heap.size = b8 at y0 y1 f8 L8 ⊢
  have HB8 := Lib.hid hb8
  have hm8 : b8 ∉ (bx + 1 + 1) :: F := fun m => by
    have h1 := HLQ.out; have h2 := L8.out; have h3 := HB0.out.size
    rcases List.mem_cons.1 m with m | m
    · omega
    · have := HF.out _ m; omega
  have hm1 : bx + 1 ∉ (bx + 1 + 1) :: F := fun m => by
    rcases List.mem_cons.1 m with m | m
    · omega
    · exact n1 m
  have HH := Lib.hid (show HeapIn W4.drew p F n S from (HI.out.below HB4.out).below (Below.refl _ _).drew)
  have HRR := Lib.hid (show HeldR encQ ((bx + 1 + 1) :: F) W4 (.slice a3 N cap3) _ from (HN3.out ((bx + 1 + 1) :: F) (fun b hb => by
    have h1 := HLQ.out; have h3 := HB0.out.size
    rcases List.mem_cons.1 hb with rfl | hb
    · exact h1
    · have := HF.out _ hb; omega) (HR.out.step (Kept.of HB0.out) (fun b hb => by
    have h1 := HBX.out
    rcases List.mem_cons.1 hb with rfl | hb
    · exact Or.inr (by omega)
    · exact Or.inl hb))).later HX4.out)
  clear hb4 hW4 hb8 f8
  refine (Out_at id _ (HI.out.below HB4.out) HID.out).mono ?_
  rintro e w9 ⟨rfl, hA9⟩
  obtain ⟨F9, h9, s9⟩ := hA9.split
  replace g0 := s9.kept.frz g0 (lt_of_cell q0) n2
  replace g1 := s9.kept.frz g1 (lt_of_cell q1) n2
  replace q0 := s9.cell n2 q0
  replace q1 := s9.cell n2 q1
  replace y0 := s9.cell (fun m => hm8 (by simp [m])) y0
  replace y1 := s9.cell (fun m => hm8 (by simp [m])) y1
  have HS9 := Lib.hid s9
  have HH9 := Lib.hid h9
  clear hA9 s9 h9
  go_wp2_with fail
  refine bodyPost_ret (v := .tuple #[.agg #[.int .i64 n, .slice a3 N cap3], .bool true]) (by simp [results, Try.results25, go_sem, *]) rfl ?_
  have KF : Kept [bx + 1 + 1] w9 ((w9.setCell ⟨bx + 1 + 1, 0, none⟩ (.int .i64 n)).setCell ⟨bx + 1 + 1, 1, none⟩ (.slice a3 N cap3)) := ((Kept.refl _ _).setCell (Or.inl (by simp)) _).setCell (Or.inl (by simp)) _
  have HR9 := HRR.out
  rw [HN.out] at HR9 KF ⊢
  exact act_done HB4.out HF.out (by have := HBX.out; omega) (by have := HLQ.out; have := HB3.out.size; have := HX4.out.size; have := H03.out.size; omega) HS9.out HH9.out HR9 KF
end Go.Proofs.Ytpbaegdmjmickaa
