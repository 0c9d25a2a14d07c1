/-
  Layer 24 (queue), law.go: act: Enter, Charge, Weigh.
  Layer 24 (queue), law.go: act: Leave, Raise.
  Layer 24 (queue), law.go: members; act: look; act.
  Layer 24 (queue), law.go: same.
  Layer 24 (queue), law.go: the reference's queue in a variable.
-/
import Derived.Test.YtekjakmeopolhaaQueueRef
import Derived.Test.YtekjakmeopolhaaQueueP
namespace Go.Proofs.Ytekjakmeopolhaa
open Go.RowKit Go.Maps Go.IntWalk Go.Lib
set_option linter.unusedVariables false
set_option linter.unusedSimpArgs false
/-- what act leaves: both have the same members, and the same floor -/
def QActP (w : World) (q : Nat) (F : List Nat) (n : Int) (e : Ending) (w' : World) : Prop :=
  ∃ a cap M' fl' F', e = .returned (.tuple #[rqV n a M'.length cap fl', .bool true]) ∧ QIn w' q F' n M' fl' ∧ HeldR encMs F' w' (.slice a M'.length cap) M' ∧ Step F w F' w'
theorem qact_done {w W4 w9 wf : World} {q bq : Nat} {F F9 : List Nat} {n fl' : Int} {a' : Option Addr} {cap' : Nat} {M' : Mems} (hW : Below w.heap.size w W4) (hF : ∀ b ∈ F, b < w.heap.size) (hx : w.heap.size ≤ bq) (hbq : bq < W4.heap.size)
    (hS : Step F W4 F9 w9) (hH : QIn w9 q F9 n M' fl') (hR : HeldR encMs (bq :: F) W4 (.slice a' M'.length cap') M') (KF : Kept [bq] w9 wf) :
    QActP w q F n (.returned (.tuple #[rqV n a' M'.length cap' fl', .bool true])) wf := by
  have hn : bq ∉ F := fun m => by have := hF _ m; omega
  have hn9 : bq ∉ F9 := hS.off hn hbq
  have s1 : Step F w F9 w9 := (Step.of hW).trans hS
  refine ⟨a', cap', M', fl', F9, rfl, hH.kept KF (fun b hb m => ?_), ?_, ⟨?_, s1.new⟩⟩
  · simp at m; subst m; exact hn9 hb
  · refine (HeldR.kept (F := bq :: F9) ?_ (KF.mono (fun b hb => by simp at hb; simp [hb]))).subM (fun b hb => by simp [hb])
    refine hR.step (hS.kept.mono (fun b hb => by simp [hb])) (fun b hb => ?_)
    rcases List.mem_cons.1 hb with rfl | hb
    · exact Or.inl (by simp)
    · rcases hS.new b hb with q | q
      · exact Or.inl (by simp [q])
      · exact Or.inr q
  · refine ⟨KF.os.trans s1.kept.os, KF.tape.trans s1.kept.tape, KF.output.trans s1.kept.output, Nat.le_trans s1.kept.size KF.size, fun k hk hkn => ?_⟩
    rw [KF.block k (Nat.lt_of_lt_of_le hk s1.kept.size) (by simp; omega)]
    exact s1.kept.block k hk hkn
theorem QIn.refM {w : World} {q : Nat} {F : List Nat} {n : Int} {M : Mems} {fl : Int} (h : QIn w q F n M fl) : RefM M := ⟨h.ids.1, by have := h.ids.2; omega⟩
set_option maxRecDepth 100000 in
set_option maxHeartbeats 4000000 in
theorem act_enter0 {q : Nat} {F : List Nat} {n : Int} {M : Mems} {fl : Int} (a : Option Addr) (cap : Nat) (kd id v r g nn : Int) (w : World) (h : QIn w q F n M fl) (hr : HeldR encMs F w (.slice a M.length cap) M) (hk : kd % 8 = 0) (hkd : 0 ≤ kd) (hid : (Lit.int .i64 id).wf = true) (hx : Ch.Fits v r g) (hnn : -9223372036854775808 ≤ nn ∧ nn ≤ 9223372036854775807) :
    Calls Try.prog 30 #[.pointer (some ⟨q, 0, none⟩), .agg #[.int .i64 n, .slice a M.length cap, .int .u64 fl], .agg #[.int .u8 kd, .int .i64 id, .int .u64 v, .int .u32 r, .int .u32 g, .int .i64 nn]] w (QActP w q F n) := by
  have z0 : (kd % 8 == 0) = true := by rw [hk]; rfl
  have z1 : (kd % 8 == 1) = false := by rw [hk]; rfl
  have z2 : (kd % 8 == 2) = false := by rw [hk]; rfl
  have z3 : (kd % 8 == 3) = false := by rw [hk]; rfl
  have z4 : (kd % 8 == 4) = false := by rw [hk]; rfl
  have z5 : (kd % 8 == 5) = false := by rw [hk]; rfl
  have z6 : (kd % 8 == 6) = false := by rw [hk]; rfl
  clear hk
  have HI := Lib.hid h
  have HR := Lib.hid hr
  have HF := Lib.hid h.lt
  have HRM := Lib.hid h.refM
  have HID := Lib.hid hid
  have HX := Lib.hid hx
  have HNN := Lib.hid hnn
  have hfl := h.ids.2.2.2.2.2
  have AE := Lib.hid fun (W : World) (q : HeldR encMs [] W (.slice a M.length cap) M) => rEnter_any a cap n fl id (v, r, g) M W q HRM.out HX.out
  clear h hr hid hx hnn
  obtain ⟨L, hL⟩ : ∃ L, L = M.length := ⟨_, rfl⟩
  have HL := Lib.hid hL
  rw [← hL] at HR AE ⊢
  clear hL
  obtain ⟨W0, hW0⟩ : ∃ W0, W0 = (((w.alloc (.cells #[.int .i64 n, .slice a L cap, .int .u64 fl] 68)).alloc (.cells #[.int .u8 kd, .int .i64 id, .int .u64 v, .int .u32 r, .int .u32 g, .int .i64 nn] 60)).alloc (.cells #[.int .i64 0, .slice none 0 0, .int .u64 0] 68)) := ⟨_, rfl⟩
  have HB0 := Lib.hid (show Below w.heap.size w W0 by rw [hW0]; exact (Below.allocS (Below.allocS (Below.allocS (Below.refl _ _) _) _) _))
  have c0 : W0.cell? ⟨w.heap.size, 0, none⟩ = some (.int .i64 n) := by rw [hW0]; exact cell_al _ (cell_al _ (cell_nwE (by simp) _ _ 0 _ rfl))
  have fc0 : W0.frozen? ⟨w.heap.size, 0, none⟩ = false := by rw [hW0]; exact frz_later (below_a _ _) (frz_later (below_a _ _) (frz_nwE (by simp) _ _ 0) (by first | (simp; done) | (simp; omega))) (by first | (simp; done) | (simp; omega))
  have c1 : W0.cell? ⟨w.heap.size, 1, none⟩ = some (.slice a L cap) := by rw [hW0]; exact cell_al _ (cell_al _ (cell_nwE (by simp) _ _ 1 _ rfl))
  have fc1 : W0.frozen? ⟨w.heap.size, 1, none⟩ = false := by rw [hW0]; exact frz_later (below_a _ _) (frz_later (below_a _ _) (frz_nwE (by simp) _ _ 1) (by first | (simp; done) | (simp; omega))) (by first | (simp; done) | (simp; omega))
  have c2 : W0.cell? ⟨w.heap.size, 2, none⟩ = some (.int .u64 fl) := by rw [hW0]; exact cell_al _ (cell_al _ (cell_nwE (by simp) _ _ 2 _ rfl))
  have fc2 : W0.frozen? ⟨w.heap.size, 2, none⟩ = false := by rw [hW0]; exact frz_later (below_a _ _) (frz_later (below_a _ _) (frz_nwE (by simp) _ _ 2) (by first | (simp; done) | (simp; omega))) (by first | (simp; done) | (simp; omega))
  have x0 : W0.cell? ⟨w.heap.size + 1, 0, none⟩ = some (.int .u8 kd) := by rw [hW0]; exact cell_al _ (cell_nwE (by simp) _ _ 0 _ rfl)
  have fx0 : W0.frozen? ⟨w.heap.size + 1, 0, none⟩ = false := by rw [hW0]; exact frz_later (below_a _ _) (frz_nwE (by simp) _ _ 0) (by first | (simp; done) | (simp; omega))
  have x1 : W0.cell? ⟨w.heap.size + 1, 1, none⟩ = some (.int .i64 id) := by rw [hW0]; exact cell_al _ (cell_nwE (by simp) _ _ 1 _ rfl)
  have fx1 : W0.frozen? ⟨w.heap.size + 1, 1, none⟩ = false := by rw [hW0]; exact frz_later (below_a _ _) (frz_nwE (by simp) _ _ 1) (by first | (simp; done) | (simp; omega))
  have x2 : W0.cell? ⟨w.heap.size + 1, 2, none⟩ = some (.int .u64 v) := by rw [hW0]; exact cell_al _ (cell_nwE (by simp) _ _ 2 _ rfl)
  have fx2 : W0.frozen? ⟨w.heap.size + 1, 2, none⟩ = false := by rw [hW0]; exact frz_later (below_a _ _) (frz_nwE (by simp) _ _ 2) (by first | (simp; done) | (simp; omega))
  have x3 : W0.cell? ⟨w.heap.size + 1, 3, none⟩ = some (.int .u32 r) := by rw [hW0]; exact cell_al _ (cell_nwE (by simp) _ _ 3 _ rfl)
  have fx3 : W0.frozen? ⟨w.heap.size + 1, 3, none⟩ = false := by rw [hW0]; exact frz_later (below_a _ _) (frz_nwE (by simp) _ _ 3) (by first | (simp; done) | (simp; omega))
  have x4 : W0.cell? ⟨w.heap.size + 1, 4, none⟩ = some (.int .u32 g) := by rw [hW0]; exact cell_al _ (cell_nwE (by simp) _ _ 4 _ rfl)
  have fx4 : W0.frozen? ⟨w.heap.size + 1, 4, none⟩ = false := by rw [hW0]; exact frz_later (below_a _ _) (frz_nwE (by simp) _ _ 4) (by first | (simp; done) | (simp; omega))
  have x5 : W0.cell? ⟨w.heap.size + 1, 5, none⟩ = some (.int .i64 nn) := by rw [hW0]; exact cell_al _ (cell_nwE (by simp) _ _ 5 _ rfl)
  have fx5 : W0.frozen? ⟨w.heap.size + 1, 5, none⟩ = false := by rw [hW0]; exact frz_later (below_a _ _) (frz_nwE (by simp) _ _ 5) (by first | (simp; done) | (simp; omega))
  have r0 : W0.cell? ⟨w.heap.size + 1 + 1, 0, none⟩ = some (.int .i64 0) := by rw [hW0]; exact cell_nwE (by simp) _ _ 0 _ rfl
  have fr0 : W0.frozen? ⟨w.heap.size + 1 + 1, 0, none⟩ = false := by rw [hW0]; exact frz_nwE (by simp) _ _ 0
  have r1 : W0.cell? ⟨w.heap.size + 1 + 1, 1, none⟩ = some (.slice none 0 0) := by rw [hW0]; exact cell_nwE (by simp) _ _ 1 _ rfl
  have fr1 : W0.frozen? ⟨w.heap.size + 1 + 1, 1, none⟩ = false := by rw [hW0]; exact frz_nwE (by simp) _ _ 1
  have r2 : W0.cell? ⟨w.heap.size + 1 + 1, 2, none⟩ = some (.int .u64 0) := by rw [hW0]; exact cell_nwE (by simp) _ _ 2 _ rfl
  have fr2 : W0.frozen? ⟨w.heap.size + 1 + 1, 2, none⟩ = false := by rw [hW0]; exact frz_nwE (by simp) _ _ 2
  have HSZ := Lib.hid (show W0.heap.size = w.heap.size + 1 + 1 + 1 by rw [hW0]; simp)
  have HW0 := Lib.hid hW0
  clear hW0
  have nc : w.heap.size ∉ F := fun m => by have := HF.out _ m; omega
  have nx : w.heap.size + 1 ∉ F := fun m => by have := HF.out _ m; omega
  have nr : w.heap.size + 1 + 1 ∉ F := fun m => by have := HF.out _ m; omega
  go_enter Try.func30, Try.ntmps30
  go_wp2_with fail
  rw [← HW0.out]
  generalize hbx : w.heap.size = bx at c0 c1 c2 x0 x1 x2 x3 x4 x5 r0 r1 r2 fc0 fc1 fc2 fx0 fx1 fx2 fx3 fx4 fx5 fr0 fr1 fr2 HSZ nc nx nr ⊢
  have HBX := Lib.hid hbx
  clear hbx HW0
  refine (AE.out W0 ((HR.out.later HB0.out).subM (by simp))).mono ?_
  rintro e w3 ⟨a3, cap3, rfl, hn3, hb3⟩
  unfold rqV
  replace fc0 := frz_later hb3 fc0 (lt_of_cell c0)
  replace fc1 := frz_later hb3 fc1 (lt_of_cell c1)
  replace fc2 := frz_later hb3 fc2 (lt_of_cell c2)
  replace fx0 := frz_later hb3 fx0 (lt_of_cell x0)
  replace fx1 := frz_later hb3 fx1 (lt_of_cell x1)
  replace fx2 := frz_later hb3 fx2 (lt_of_cell x2)
  replace fx3 := frz_later hb3 fx3 (lt_of_cell x3)
  replace fx4 := frz_later hb3 fx4 (lt_of_cell x4)
  replace fx5 := frz_later hb3 fx5 (lt_of_cell x5)
  replace fr0 := frz_later hb3 fr0 (lt_of_cell r0)
  replace fr1 := frz_later hb3 fr1 (lt_of_cell r1)
  replace fr2 := frz_later hb3 fr2 (lt_of_cell r2)
  replace c0 := cell_later hb3 c0
  replace c1 := cell_later hb3 c1
  replace c2 := cell_later hb3 c2
  replace x0 := cell_later hb3 x0
  replace x1 := cell_later hb3 x1
  replace x2 := cell_later hb3 x2
  replace x3 := cell_later hb3 x3
  replace x4 := cell_later hb3 x4
  replace x5 := cell_later hb3 x5
  replace r0 := cell_later hb3 r0
  replace r1 := cell_later hb3 r1
  replace r2 := cell_later hb3 r2
  have HN3 := Lib.hid hn3
  have HB3 := Lib.hid (Below.step HB0.out hb3)
  have H03 := Lib.hid hb3
  obtain ⟨M3, hM3⟩ : ∃ M3, M3 = (enterM n M id (v, r, g)) := ⟨_, rfl⟩
  obtain ⟨f3, hf3⟩ : ∃ f3, f3 = (enterF n M id (v, r, g) fl) := ⟨_, rfl⟩
  obtain ⟨c3, hc3⟩ : ∃ c3, c3 = (enterC n M id (v, r, g)) := ⟨_, rfl⟩
  rw [← hM3] at HN3 ⊢
  rw [← hf3, ← hc3]
  have HM3 := Lib.hid hM3
  have HF3 := Lib.hid hf3
  have HC3 := Lib.hid hc3
  obtain ⟨N, hN⟩ : ∃ N, N = M3.length := ⟨_, rfl⟩
  have HN := Lib.hid hN
  rw [← hN] at HN3 ⊢
  clear hn3 hb3 hN hM3 hf3 hc3
  go_wp2_with fail
  obtain ⟨W4, hW4⟩ : ∃ W, W = w3.alloc (.cells #[.int .i64 n, .slice a3 N cap3, .int .u64 f3] 68) := ⟨_, rfl⟩
  rw [← hW4]
  have hb4 : Below w3.heap.size w3 W4 := by rw [hW4]; exact below_a _ _
  have y0 : W4.cell? ⟨w3.heap.size, 0, none⟩ = some (.int .i64 n) := by rw [hW4]; exact cell_nw _ _ _ 0 _ rfl
  have y1 : W4.cell? ⟨w3.heap.size, 1, none⟩ = some (.slice a3 N cap3) := by rw [hW4]; exact cell_nw _ _ _ 1 _ rfl
  have y2 : W4.cell? ⟨w3.heap.size, 2, none⟩ = some (.int .u64 f3) := by rw [hW4]; exact cell_nw _ _ _ 2 _ rfl
  replace fc0 := frz_later hb4 fc0 (lt_of_cell c0)
  replace fc1 := frz_later hb4 fc1 (lt_of_cell c1)
  replace fc2 := frz_later hb4 fc2 (lt_of_cell c2)
  replace fx0 := frz_later hb4 fx0 (lt_of_cell x0)
  replace fx1 := frz_later hb4 fx1 (lt_of_cell x1)
  replace fx2 := frz_later hb4 fx2 (lt_of_cell x2)
  replace fx3 := frz_later hb4 fx3 (lt_of_cell x3)
  replace fx4 := frz_later hb4 fx4 (lt_of_cell x4)
  replace fx5 := frz_later hb4 fx5 (lt_of_cell x5)
  replace fr0 := frz_later hb4 fr0 (lt_of_cell r0)
  replace fr1 := frz_later hb4 fr1 (lt_of_cell r1)
  replace fr2 := frz_later hb4 fr2 (lt_of_cell r2)
  replace c0 := cell_later hb4 c0
  replace c1 := cell_later hb4 c1
  replace c2 := cell_later hb4 c2
  replace x0 := cell_later hb4 x0
  replace x1 := cell_later hb4 x1
  replace x2 := cell_later hb4 x2
  replace x3 := cell_later hb4 x3
  replace x4 := cell_later hb4 x4
  replace x5 := cell_later hb4 x5
  replace r0 := cell_later hb4 r0
  replace r1 := cell_later hb4 r1
  replace r2 := cell_later hb4 r2
  have HB4 := Lib.hid (Below.step HB3.out hb4)
  have HX4 := Lib.hid hb4
  have L8 := Lib.hid (show W0.heap.size ≤ w3.heap.size from H03.out.size)
  generalize hb8 : w3.heap.size = b8 at y0 y1 y2 L8 ⊢
  have HB8 := Lib.hid hb8
  have hm8 : b8 ∉ (bx + 1 + 1) :: F := fun m => by
    have h1 := HSZ.out; have h2 := L8.out; have h3 := HB0.out.size; have h4 := HBX.out
    rcases List.mem_cons.1 m with m | m
    · omega
    · have := HF.out _ m; omega
  have hm1 : bx + 1 ∉ (bx + 1 + 1) :: F := fun m => by
    rcases List.mem_cons.1 m with m | m
    · omega
    · exact nx m
  have HH := Lib.hid (show QIn W4.drew q F n M fl from (HI.out.below HB4.out).below (Below.refl _ _).drew)
  have HRR := Lib.hid (show HeldR encMs ((bx + 1 + 1) :: F) W4 (.slice a3 N cap3) M3 from (HN3.out ((bx + 1 + 1) :: F) (fun b hb => by
    have h1 := HSZ.out; have h3 := HB0.out.size; have h4 := HBX.out
    rcases List.mem_cons.1 hb with rfl | hb
    · omega
    · have := HF.out _ hb; omega) (HR.out.step (Kept.of HB0.out) (fun b hb => by
    have h1 := HBX.out
    rcases List.mem_cons.1 hb with rfl | hb
    · exact Or.inr (by omega)
    · exact Or.inl hb))).later HX4.out)
  clear hb4 hW4 hb8
  have hS0 : Kept ((bx + 1 + 1) :: F) W4 W4.drew ∧ W4.drew.cell? ⟨b8, 0, none⟩ = some (.int .i64 n) ∧ W4.drew.cell? ⟨b8, 1, none⟩ = some (.slice a3 N cap3) ∧ W4.drew.cell? ⟨b8, 2, none⟩ = some (.int .u64 f3) ∧ W4.drew.cell? ⟨bx + 1, 1, none⟩ = some (.int .i64 id) ∧ W4.drew.cell? ⟨bx + 1, 2, none⟩ = some (.int .u64 v) ∧ W4.drew.cell? ⟨bx + 1, 3, none⟩ = some (.int .u32 r) ∧ W4.drew.cell? ⟨bx + 1, 4, none⟩ = some (.int .u32 g) := ⟨Kept.drew (Kept.refl _ _), cell_dr y0, cell_dr y1, cell_dr y2, cell_dr x1, cell_dr x2, cell_dr x3, cell_dr x4⟩
  refine wp_region_held_drew (S := fun w' => Kept ((bx + 1 + 1) :: F) W4 w' ∧ w'.cell? ⟨b8, 0, none⟩ = some (.int .i64 n) ∧ w'.cell? ⟨b8, 1, none⟩ = some (.slice a3 N cap3) ∧ w'.cell? ⟨b8, 2, none⟩ = some (.int .u64 f3) ∧ w'.cell? ⟨bx + 1, 1, none⟩ = some (.int .i64 id) ∧ w'.cell? ⟨bx + 1, 2, none⟩ = some (.int .u64 v) ∧ w'.cell? ⟨bx + 1, 3, none⟩ = some (.int .u32 r) ∧ w'.cell? ⟨bx + 1, 4, none⟩ = some (.int .u32 g)) (by kernel_rfl) hS0 (fun hHeld => ?_)
  refine takeH (i := 0) (v := ?v0_1) rfl (by kernel_rfl) (fun _ _ _ h => h) (by rfl) ?hy0_1 (by assumption) ?rest0_1
  case hy0_1 => (intro w hSw; (try dsimp only at hSw); go_simp; try with_reducible rfl)
  try simp only [Act.put, List.setIfInBounds_toArray, List.set_cons_zero, List.set_cons_succ]
  refine takeH (i := 1) (v := ?v1_2) rfl (by kernel_rfl) (fun _ _ _ h => h) (by rfl) ?hy1_2 (by assumption) ?rest1_2
  case hy1_2 => (intro w hSw; (try dsimp only at hSw); go_simp; try with_reducible rfl)
  try simp only [Act.put, List.setIfInBounds_toArray, List.set_cons_zero, List.set_cons_succ]
  refine takeH (i := 2) (v := ?v2_3) rfl (by kernel_rfl) (fun _ _ _ h => h) (by rfl) ?hy2_3 (by assumption) ?rest2_3
  case hy2_3 => (intro w hSw; (try dsimp only at hSw); go_simp; try with_reducible rfl)
  try simp only [Act.put, List.setIfInBounds_toArray, List.set_cons_zero, List.set_cons_succ]
  refine takeH (i := 3) (v := ?v3_4) rfl (by kernel_rfl) (fun _ _ _ h => h) (by rfl) ?hy3_4 (by assumption) ?rest3_4
  case hy3_4 => (intro w hSw; (try dsimp only at hSw); go_simp; try with_reducible rfl)
  try simp only [Act.put, List.setIfInBounds_toArray, List.set_cons_zero, List.set_cons_succ]
  refine takeH (i := 4) (v := ?v4_5) rfl (by kernel_rfl) (fun _ _ _ h => h) (by rfl) ?hy4_5 (by assumption) ?rest4_5
  case hy4_5 => (intro w hSw; (try dsimp only at hSw); go_simp; try with_reducible rfl)
  try simp only [Act.put, List.setIfInBounds_toArray, List.set_cons_zero, List.set_cons_succ]
  refine takeH (i := 5) (v := ?v5_6) rfl (by kernel_rfl) (fun _ _ _ h => h) (by rfl) ?hy5_6 (by assumption) ?rest5_6
  case hy5_6 => (intro w hSw; (try dsimp only at hSw); go_simp; try with_reducible rfl)
  try simp only [Act.put, List.setIfInBounds_toArray, List.set_cons_zero, List.set_cons_succ]
  refine takeH (i := 7) (v := ?v7_7) rfl (by kernel_rfl) (fun _ _ _ h => h) (by rfl) ?hy7_7 (by assumption) ?rest7_7
  case hy7_7 => (intro w hSw; (try dsimp only at hSw); go_simp; try with_reducible rfl)
  try simp only [Act.put, List.setIfInBounds_toArray, List.set_cons_zero, List.set_cons_succ]
  refine wpAnyH_ready (rs := [6]) (by kernel_rfl) (by simp) ?_
  refine consH rfl (fun K hK => ?_) (AllReadyH.nil)
  go_simp
  refine (Enter_at id (v, r, g) _ HH.out HID.out HX.out).mono ?_
  rintro e w9 ⟨rfl, hA9⟩
  obtain ⟨F9, h9, s9⟩ := hA9
  have hk9 : Kept ((bx + 1 + 1) :: F) W4.drew w9 := s9.kept.mono (fun b hb => by simp [hb])
  replace fr0 := s9.kept.frz fr0 (lt_of_cell r0) nr
  replace fr1 := s9.kept.frz fr1 (lt_of_cell r1) nr
  replace fr2 := s9.kept.frz fr2 (lt_of_cell r2) nr
  replace r0 := s9.cell nr r0
  replace r1 := s9.cell nr r1
  replace r2 := s9.cell nr r2
  have HS9 := Lib.hid s9
  have HH9 := Lib.hid h9
  clear s9 h9
  rw [← HC3.out]
  go_wp2_with fail
  refine hK.out _ _ ?_ (fun hHeld6 => ?_)
  · (first | assumption | (refine heldK_7 (by assumption) ?_ (by assumption) (by assumption) (by assumption) (by assumption) (by assumption) (by assumption) (by assumption) ; assumption) | (refine heldK_7 (Kept.of (below_ad _ _)) ?_ (by assumption) (by assumption) (by assumption) (by assumption) (by assumption) (by assumption) (by assumption) ; assumption) | (refine heldK_7 (Kept.of (below_a _ _)) ?_ (by assumption) (by assumption) (by assumption) (by assumption) (by assumption) (by assumption) (by assumption) ; assumption))
  clear hK K
  try simp only [Act.put, List.setIfInBounds_toArray, List.set_cons_zero, List.set_cons_succ]
  refine takeH (i := 8) (v := ?v8_8) rfl (by kernel_rfl) (fun _ _ _ h => h) (by rfl) ?hy8_8 (by assumption) ?rest8_8
  case hy8_8 => (intro w hSw; (try dsimp only at hSw); go_simp; try with_reducible rfl)
  try simp only [Act.put, List.setIfInBounds_toArray, List.set_cons_zero, List.set_cons_succ]
  refine wpAnyH_ready (rs := [9]) (by kernel_rfl) (by simp) ?_
  refine consH rfl (fun K hK => ?_) (AllReadyH.nil)
  go_simp
  have hk9b : Kept ((bx + 1 + 1) :: F) w9 (((w9.setCell ⟨bx + 1 + 1, 0, none⟩ (.int .i64 n)).setCell ⟨bx + 1 + 1, 1, none⟩ (.slice a3 N cap3)).setCell ⟨bx + 1 + 1, 2, none⟩ (.int .u64 f3)) := ((((Kept.refl _ _).setCell (Or.inl (by simp)) _).setCell (Or.inl (by simp)) _).setCell (Or.inl (by simp)) _)
  have KF : Kept [bx + 1 + 1] w9 (((w9.setCell ⟨bx + 1 + 1, 0, none⟩ (.int .i64 n)).setCell ⟨bx + 1 + 1, 1, none⟩ (.slice a3 N cap3)).setCell ⟨bx + 1 + 1, 2, none⟩ (.int .u64 f3)) := ((((Kept.refl _ _).setCell (Or.inl (by simp)) _).setCell (Or.inl (by simp)) _).setCell (Or.inl (by simp)) _)
  replace r0 : (((w9.setCell ⟨bx + 1 + 1, 0, none⟩ (.int .i64 n)).setCell ⟨bx + 1 + 1, 1, none⟩ (.slice a3 N cap3)).setCell ⟨bx + 1 + 1, 2, none⟩ (.int .u64 f3)).cell? ⟨bx + 1 + 1, 0, none⟩ = some (.int .i64 n) := (cell_set_ne (cell_set_ne (cell_set_eq r0) (Or.inr (by decide))) (Or.inr (by decide)))
  replace r1 : (((w9.setCell ⟨bx + 1 + 1, 0, none⟩ (.int .i64 n)).setCell ⟨bx + 1 + 1, 1, none⟩ (.slice a3 N cap3)).setCell ⟨bx + 1 + 1, 2, none⟩ (.int .u64 f3)).cell? ⟨bx + 1 + 1, 1, none⟩ = some (.slice a3 N cap3) := (cell_set_ne (cell_set_eq (cell_set_ne r1 (Or.inr (by decide)))) (Or.inr (by decide)))
  replace r2 : (((w9.setCell ⟨bx + 1 + 1, 0, none⟩ (.int .i64 n)).setCell ⟨bx + 1 + 1, 1, none⟩ (.slice a3 N cap3)).setCell ⟨bx + 1 + 1, 2, none⟩ (.int .u64 f3)).cell? ⟨bx + 1 + 1, 2, none⟩ = some (.int .u64 f3) := (cell_set_eq (cell_set_ne (cell_set_ne r2 (Or.inr (by decide))) (Or.inr (by decide))))
  obtain ⟨wq, hwq⟩ : ∃ wq, wq = (((w9.setCell ⟨bx + 1 + 1, 0, none⟩ (.int .i64 n)).setCell ⟨bx + 1 + 1, 1, none⟩ (.slice a3 N cap3)).setCell ⟨bx + 1 + 1, 2, none⟩ (.int .u64 f3)) := ⟨_, rfl⟩
  rw [← hwq] at hk9b KF r0 r1 r2 ⊢
  clear hwq
  refine hK.out _ _ ?_ (fun hHeld9 => ?_)
  · (first | assumption | (refine heldK_7 (by assumption) ?_ (by assumption) (by assumption) (by assumption) (by assumption) (by assumption) (by assumption) (by assumption) ; assumption) | (refine heldK_7 (Kept.of (below_ad _ _)) ?_ (by assumption) (by assumption) (by assumption) (by assumption) (by assumption) (by assumption) (by assumption) ; assumption) | (refine heldK_7 (Kept.of (below_a _ _)) ?_ (by assumption) (by assumption) (by assumption) (by assumption) (by assumption) (by assumption) (by assumption) ; assumption))
  clear hK K
  try simp only [Act.put, List.setIfInBounds_toArray, List.set_cons_zero, List.set_cons_succ]
  refine takeH (i := 10) (v := ?v10_9) rfl (by kernel_rfl) (fun _ _ _ h => h) (by rfl) ?hy10_9 (by assumption) ?rest10_9
  case hy10_9 => (intro w hSw; (try dsimp only at hSw); go_simp; try with_reducible rfl)
  try simp only [Act.put, List.setIfInBounds_toArray, List.set_cons_zero, List.set_cons_succ]
  refine wpAnyH_done (by kernel_rfl) ?_ _
  go_wp2_with fail
  refine bodyPost_ret (v := .tuple #[rqV n a3 N cap3 f3, .bool true]) (by simp [results, Try.results30, go_sem, rqV, *]) rfl ?_
  have HR9 := HRR.out
  rw [HN.out] at HR9 ⊢
  exact qact_done HB4.out HF.out (by have := HBX.out; omega) (by have := HSZ.out; have := HB3.out.size; have := HX4.out.size; have := H03.out.size; omega) ((Step.of (Below.refl W4.heap.size W4).drew).trans HS9.out) (by rw [HM3.out, HF3.out]; exact HH9.out) HR9 KF
set_option maxRecDepth 100000 in
set_option maxHeartbeats 4000000 in
theorem act_enter1 {q : Nat} {F : List Nat} {n : Int} {M : Mems} {fl : Int} (a : Option Addr) (cap : Nat) (kd id v r g nn : Int) (w : World) (h : QIn w q F n M fl) (hr : HeldR encMs F w (.slice a M.length cap) M) (hk : kd % 8 = 1) (hkd : 0 ≤ kd) (hid : (Lit.int .i64 id).wf = true) (hx : Ch.Fits v r g) (hnn : -9223372036854775808 ≤ nn ∧ nn ≤ 9223372036854775807) :
    Calls Try.prog 30 #[.pointer (some ⟨q, 0, none⟩), .agg #[.int .i64 n, .slice a M.length cap, .int .u64 fl], .agg #[.int .u8 kd, .int .i64 id, .int .u64 v, .int .u32 r, .int .u32 g, .int .i64 nn]] w (QActP w q F n) := by
  have z0 : (kd % 8 == 0) = false := by rw [hk]; rfl
  have z1 : (kd % 8 == 1) = true := by rw [hk]; rfl
  have z2 : (kd % 8 == 2) = false := by rw [hk]; rfl
  have z3 : (kd % 8 == 3) = false := by rw [hk]; rfl
  have z4 : (kd % 8 == 4) = false := by rw [hk]; rfl
  have z5 : (kd % 8 == 5) = false := by rw [hk]; rfl
  have z6 : (kd % 8 == 6) = false := by rw [hk]; rfl
  clear hk
  have HI := Lib.hid h
  have HR := Lib.hid hr
  have HF := Lib.hid h.lt
  have HRM := Lib.hid h.refM
  have HID := Lib.hid hid
  have HX := Lib.hid hx
  have HNN := Lib.hid hnn
  have hfl := h.ids.2.2.2.2.2
  have AE := Lib.hid fun (W : World) (q : HeldR encMs [] W (.slice a M.length cap) M) => rEnter_any a cap n fl id (v, r, g) M W q HRM.out HX.out
  clear h hr hid hx hnn
  obtain ⟨L, hL⟩ : ∃ L, L = M.length := ⟨_, rfl⟩
  have HL := Lib.hid hL
  rw [← hL] at HR AE ⊢
  clear hL
  obtain ⟨W0, hW0⟩ : ∃ W0, W0 = (((w.alloc (.cells #[.int .i64 n, .slice a L cap, .int .u64 fl] 68)).alloc (.cells #[.int .u8 kd, .int .i64 id, .int .u64 v, .int .u32 r, .int .u32 g, .int .i64 nn] 60)).alloc (.cells #[.int .i64 0, .slice none 0 0, .int .u64 0] 68)) := ⟨_, rfl⟩
  have HB0 := Lib.hid (show Below w.heap.size w W0 by rw [hW0]; exact (Below.allocS (Below.allocS (Below.allocS (Below.refl _ _) _) _) _))
  have c0 : W0.cell? ⟨w.heap.size, 0, none⟩ = some (.int .i64 n) := by rw [hW0]; exact cell_al _ (cell_al _ (cell_nwE (by simp) _ _ 0 _ rfl))
  have fc0 : W0.frozen? ⟨w.heap.size, 0, none⟩ = false := by rw [hW0]; exact frz_later (below_a _ _) (frz_later (below_a _ _) (frz_nwE (by simp) _ _ 0) (by first | (simp; done) | (simp; omega))) (by first | (simp; done) | (simp; omega))
  have c1 : W0.cell? ⟨w.heap.size, 1, none⟩ = some (.slice a L cap) := by rw [hW0]; exact cell_al _ (cell_al _ (cell_nwE (by simp) _ _ 1 _ rfl))
  have fc1 : W0.frozen? ⟨w.heap.size, 1, none⟩ = false := by rw [hW0]; exact frz_later (below_a _ _) (frz_later (below_a _ _) (frz_nwE (by simp) _ _ 1) (by first | (simp; done) | (simp; omega))) (by first | (simp; done) | (simp; omega))
  have c2 : W0.cell? ⟨w.heap.size, 2, none⟩ = some (.int .u64 fl) := by rw [hW0]; exact cell_al _ (cell_al _ (cell_nwE (by simp) _ _ 2 _ rfl))
  have fc2 : W0.frozen? ⟨w.heap.size, 2, none⟩ = false := by rw [hW0]; exact frz_later (below_a _ _) (frz_later (below_a _ _) (frz_nwE (by simp) _ _ 2) (by first | (simp; done) | (simp; omega))) (by first | (simp; done) | (simp; omega))
  have x0 : W0.cell? ⟨w.heap.size + 1, 0, none⟩ = some (.int .u8 kd) := by rw [hW0]; exact cell_al _ (cell_nwE (by simp) _ _ 0 _ rfl)
  have fx0 : W0.frozen? ⟨w.heap.size + 1, 0, none⟩ = false := by rw [hW0]; exact frz_later (below_a _ _) (frz_nwE (by simp) _ _ 0) (by first | (simp; done) | (simp; omega))
  have x1 : W0.cell? ⟨w.heap.size + 1, 1, none⟩ = some (.int .i64 id) := by rw [hW0]; exact cell_al _ (cell_nwE (by simp) _ _ 1 _ rfl)
  have fx1 : W0.frozen? ⟨w.heap.size + 1, 1, none⟩ = false := by rw [hW0]; exact frz_later (below_a _ _) (frz_nwE (by simp) _ _ 1) (by first | (simp; done) | (simp; omega))
  have x2 : W0.cell? ⟨w.heap.size + 1, 2, none⟩ = some (.int .u64 v) := by rw [hW0]; exact cell_al _ (cell_nwE (by simp) _ _ 2 _ rfl)
  have fx2 : W0.frozen? ⟨w.heap.size + 1, 2, none⟩ = false := by rw [hW0]; exact frz_later (below_a _ _) (frz_nwE (by simp) _ _ 2) (by first | (simp; done) | (simp; omega))
  have x3 : W0.cell? ⟨w.heap.size + 1, 3, none⟩ = some (.int .u32 r) := by rw [hW0]; exact cell_al _ (cell_nwE (by simp) _ _ 3 _ rfl)
  have fx3 : W0.frozen? ⟨w.heap.size + 1, 3, none⟩ = false := by rw [hW0]; exact frz_later (below_a _ _) (frz_nwE (by simp) _ _ 3) (by first | (simp; done) | (simp; omega))
  have x4 : W0.cell? ⟨w.heap.size + 1, 4, none⟩ = some (.int .u32 g) := by rw [hW0]; exact cell_al _ (cell_nwE (by simp) _ _ 4 _ rfl)
  have fx4 : W0.frozen? ⟨w.heap.size + 1, 4, none⟩ = false := by rw [hW0]; exact frz_later (below_a _ _) (frz_nwE (by simp) _ _ 4) (by first | (simp; done) | (simp; omega))
  have x5 : W0.cell? ⟨w.heap.size + 1, 5, none⟩ = some (.int .i64 nn) := by rw [hW0]; exact cell_al _ (cell_nwE (by simp) _ _ 5 _ rfl)
  have fx5 : W0.frozen? ⟨w.heap.size + 1, 5, none⟩ = false := by rw [hW0]; exact frz_later (below_a _ _) (frz_nwE (by simp) _ _ 5) (by first | (simp; done) | (simp; omega))
  have r0 : W0.cell? ⟨w.heap.size + 1 + 1, 0, none⟩ = some (.int .i64 0) := by rw [hW0]; exact cell_nwE (by simp) _ _ 0 _ rfl
  have fr0 : W0.frozen? ⟨w.heap.size + 1 + 1, 0, none⟩ = false := by rw [hW0]; exact frz_nwE (by simp) _ _ 0
  have r1 : W0.cell? ⟨w.heap.size + 1 + 1, 1, none⟩ = some (.slice none 0 0) := by rw [hW0]; exact cell_nwE (by simp) _ _ 1 _ rfl
  have fr1 : W0.frozen? ⟨w.heap.size + 1 + 1, 1, none⟩ = false := by rw [hW0]; exact frz_nwE (by simp) _ _ 1
  have r2 : W0.cell? ⟨w.heap.size + 1 + 1, 2, none⟩ = some (.int .u64 0) := by rw [hW0]; exact cell_nwE (by simp) _ _ 2 _ rfl
  have fr2 : W0.frozen? ⟨w.heap.size + 1 + 1, 2, none⟩ = false := by rw [hW0]; exact frz_nwE (by simp) _ _ 2
  have HSZ := Lib.hid (show W0.heap.size = w.heap.size + 1 + 1 + 1 by rw [hW0]; simp)
  have HW0 := Lib.hid hW0
  clear hW0
  have nc : w.heap.size ∉ F := fun m => by have := HF.out _ m; omega
  have nx : w.heap.size + 1 ∉ F := fun m => by have := HF.out _ m; omega
  have nr : w.heap.size + 1 + 1 ∉ F := fun m => by have := HF.out _ m; omega
  go_enter Try.func30, Try.ntmps30
  go_wp2_with fail
  rw [← HW0.out]
  generalize hbx : w.heap.size = bx at c0 c1 c2 x0 x1 x2 x3 x4 x5 r0 r1 r2 fc0 fc1 fc2 fx0 fx1 fx2 fx3 fx4 fx5 fr0 fr1 fr2 HSZ nc nx nr ⊢
  have HBX := Lib.hid hbx
  clear hbx HW0
  refine (AE.out W0 ((HR.out.later HB0.out).subM (by simp))).mono ?_
  rintro e w3 ⟨a3, cap3, rfl, hn3, hb3⟩
  unfold rqV
  replace fc0 := frz_later hb3 fc0 (lt_of_cell c0)
  replace fc1 := frz_later hb3 fc1 (lt_of_cell c1)
  replace fc2 := frz_later hb3 fc2 (lt_of_cell c2)
  replace fx0 := frz_later hb3 fx0 (lt_of_cell x0)
  replace fx1 := frz_later hb3 fx1 (lt_of_cell x1)
  replace fx2 := frz_later hb3 fx2 (lt_of_cell x2)
  replace fx3 := frz_later hb3 fx3 (lt_of_cell x3)
  replace fx4 := frz_later hb3 fx4 (lt_of_cell x4)
  replace fx5 := frz_later hb3 fx5 (lt_of_cell x5)
  replace fr0 := frz_later hb3 fr0 (lt_of_cell r0)
  replace fr1 := frz_later hb3 fr1 (lt_of_cell r1)
  replace fr2 := frz_later hb3 fr2 (lt_of_cell r2)
  replace c0 := cell_later hb3 c0
  replace c1 := cell_later hb3 c1
  replace c2 := cell_later hb3 c2
  replace x0 := cell_later hb3 x0
  replace x1 := cell_later hb3 x1
  replace x2 := cell_later hb3 x2
  replace x3 := cell_later hb3 x3
  replace x4 := cell_later hb3 x4
  replace x5 := cell_later hb3 x5
  replace r0 := cell_later hb3 r0
  replace r1 := cell_later hb3 r1
  replace r2 := cell_later hb3 r2
  have HN3 := Lib.hid hn3
  have HB3 := Lib.hid (Below.step HB0.out hb3)
  have H03 := Lib.hid hb3
  obtain ⟨M3, hM3⟩ : ∃ M3, M3 = (enterM n M id (v, r, g)) := ⟨_, rfl⟩
  obtain ⟨f3, hf3⟩ : ∃ f3, f3 = (enterF n M id (v, r, g) fl) := ⟨_, rfl⟩
  obtain ⟨c3, hc3⟩ : ∃ c3, c3 = (enterC n M id (v, r, g)) := ⟨_, rfl⟩
  rw [← hM3] at HN3 ⊢
  rw [← hf3, ← hc3]
  have HM3 := Lib.hid hM3
  have HF3 := Lib.hid hf3
  have HC3 := Lib.hid hc3
  obtain ⟨N, hN⟩ : ∃ N, N = M3.length := ⟨_, rfl⟩
  have HN := Lib.hid hN
  rw [← hN] at HN3 ⊢
  clear hn3 hb3 hN hM3 hf3 hc3
  go_wp2_with fail
  obtain ⟨W4, hW4⟩ : ∃ W, W = w3.alloc (.cells #[.int .i64 n, .slice a3 N cap3, .int .u64 f3] 68) := ⟨_, rfl⟩
  rw [← hW4]
  have hb4 : Below w3.heap.size w3 W4 := by rw [hW4]; exact below_a _ _
  have y0 : W4.cell? ⟨w3.heap.size, 0, none⟩ = some (.int .i64 n) := by rw [hW4]; exact cell_nw _ _ _ 0 _ rfl
  have y1 : W4.cell? ⟨w3.heap.size, 1, none⟩ = some (.slice a3 N cap3) := by rw [hW4]; exact cell_nw _ _ _ 1 _ rfl
  have y2 : W4.cell? ⟨w3.heap.size, 2, none⟩ = some (.int .u64 f3) := by rw [hW4]; exact cell_nw _ _ _ 2 _ rfl
  replace fc0 := frz_later hb4 fc0 (lt_of_cell c0)
  replace fc1 := frz_later hb4 fc1 (lt_of_cell c1)
  replace fc2 := frz_later hb4 fc2 (lt_of_cell c2)
  replace fx0 := frz_later hb4 fx0 (lt_of_cell x0)
  replace fx1 := frz_later hb4 fx1 (lt_of_cell x1)
  replace fx2 := frz_later hb4 fx2 (lt_of_cell x2)
  replace fx3 := frz_later hb4 fx3 (lt_of_cell x3)
  replace fx4 := frz_later hb4 fx4 (lt_of_cell x4)
  replace fx5 := frz_later hb4 fx5 (lt_of_cell x5)
  replace fr0 := frz_later hb4 fr0 (lt_of_cell r0)
  replace fr1 := frz_later hb4 fr1 (lt_of_cell r1)
  replace fr2 := frz_later hb4 fr2 (lt_of_cell r2)
  replace c0 := cell_later hb4 c0
  replace c1 := cell_later hb4 c1
  replace c2 := cell_later hb4 c2
  replace x0 := cell_later hb4 x0
  replace x1 := cell_later hb4 x1
  replace x2 := cell_later hb4 x2
  replace x3 := cell_later hb4 x3
  replace x4 := cell_later hb4 x4
  replace x5 := cell_later hb4 x5
  replace r0 := cell_later hb4 r0
  replace r1 := cell_later hb4 r1
  replace r2 := cell_later hb4 r2
  have HB4 := Lib.hid (Below.step HB3.out hb4)
  have HX4 := Lib.hid hb4
  have L8 := Lib.hid (show W0.heap.size ≤ w3.heap.size from H03.out.size)
  generalize hb8 : w3.heap.size = b8 at y0 y1 y2 L8 ⊢
  have HB8 := Lib.hid hb8
  have hm8 : b8 ∉ (bx + 1 + 1) :: F := fun m => by
    have h1 := HSZ.out; have h2 := L8.out; have h3 := HB0.out.size; have h4 := HBX.out
    rcases List.mem_cons.1 m with m | m
    · omega
    · have := HF.out _ m; omega
  have hm1 : bx + 1 ∉ (bx + 1 + 1) :: F := fun m => by
    rcases List.mem_cons.1 m with m | m
    · omega
    · exact nx m
  have HH := Lib.hid (show QIn W4.drew q F n M fl from (HI.out.below HB4.out).below (Below.refl _ _).drew)
  have HRR := Lib.hid (show HeldR encMs ((bx + 1 + 1) :: F) W4 (.slice a3 N cap3) M3 from (HN3.out ((bx + 1 + 1) :: F) (fun b hb => by
    have h1 := HSZ.out; have h3 := HB0.out.size; have h4 := HBX.out
    rcases List.mem_cons.1 hb with rfl | hb
    · omega
    · have := HF.out _ hb; omega) (HR.out.step (Kept.of HB0.out) (fun b hb => by
    have h1 := HBX.out
    rcases List.mem_cons.1 hb with rfl | hb
    · exact Or.inr (by omega)
    · exact Or.inl hb))).later HX4.out)
  clear hb4 hW4 hb8
  have hS0 : Kept ((bx + 1 + 1) :: F) W4 W4.drew ∧ W4.drew.cell? ⟨b8, 0, none⟩ = some (.int .i64 n) ∧ W4.drew.cell? ⟨b8, 1, none⟩ = some (.slice a3 N cap3) ∧ W4.drew.cell? ⟨b8, 2, none⟩ = some (.int .u64 f3) ∧ W4.drew.cell? ⟨bx + 1, 1, none⟩ = some (.int .i64 id) ∧ W4.drew.cell? ⟨bx + 1, 2, none⟩ = some (.int .u64 v) ∧ W4.drew.cell? ⟨bx + 1, 3, none⟩ = some (.int .u32 r) ∧ W4.drew.cell? ⟨bx + 1, 4, none⟩ = some (.int .u32 g) := ⟨Kept.drew (Kept.refl _ _), cell_dr y0, cell_dr y1, cell_dr y2, cell_dr x1, cell_dr x2, cell_dr x3, cell_dr x4⟩
  refine wp_region_held_drew (S := fun w' => Kept ((bx + 1 + 1) :: F) W4 w' ∧ w'.cell? ⟨b8, 0, none⟩ = some (.int .i64 n) ∧ w'.cell? ⟨b8, 1, none⟩ = some (.slice a3 N cap3) ∧ w'.cell? ⟨b8, 2, none⟩ = some (.int .u64 f3) ∧ w'.cell? ⟨bx + 1, 1, none⟩ = some (.int .i64 id) ∧ w'.cell? ⟨bx + 1, 2, none⟩ = some (.int .u64 v) ∧ w'.cell? ⟨bx + 1, 3, none⟩ = some (.int .u32 r) ∧ w'.cell? ⟨bx + 1, 4, none⟩ = some (.int .u32 g)) (by kernel_rfl) hS0 (fun hHeld => ?_)
  refine takeH (i := 0) (v := ?v0_10) rfl (by kernel_rfl) (fun _ _ _ h => h) (by rfl) ?hy0_10 (by assumption) ?rest0_10
  case hy0_10 => (intro w hSw; (try dsimp only at hSw); go_simp; try with_reducible rfl)
  try simp only [Act.put, List.setIfInBounds_toArray, List.set_cons_zero, List.set_cons_succ]
  refine takeH (i := 1) (v := ?v1_11) rfl (by kernel_rfl) (fun _ _ _ h => h) (by rfl) ?hy1_11 (by assumption) ?rest1_11
  case hy1_11 => (intro w hSw; (try dsimp only at hSw); go_simp; try with_reducible rfl)
  try simp only [Act.put, List.setIfInBounds_toArray, List.set_cons_zero, List.set_cons_succ]
  refine takeH (i := 2) (v := ?v2_12) rfl (by kernel_rfl) (fun _ _ _ h => h) (by rfl) ?hy2_12 (by assumption) ?rest2_12
  case hy2_12 => (intro w hSw; (try dsimp only at hSw); go_simp; try with_reducible rfl)
  try simp only [Act.put, List.setIfInBounds_toArray, List.set_cons_zero, List.set_cons_succ]
  refine takeH (i := 3) (v := ?v3_13) rfl (by kernel_rfl) (fun _ _ _ h => h) (by rfl) ?hy3_13 (by assumption) ?rest3_13
  case hy3_13 => (intro w hSw; (try dsimp only at hSw); go_simp; try with_reducible rfl)
  try simp only [Act.put, List.setIfInBounds_toArray, List.set_cons_zero, List.set_cons_succ]
  refine takeH (i := 4) (v := ?v4_14) rfl (by kernel_rfl) (fun _ _ _ h => h) (by rfl) ?hy4_14 (by assumption) ?rest4_14
  case hy4_14 => (intro w hSw; (try dsimp only at hSw); go_simp; try with_reducible rfl)
  try simp only [Act.put, List.setIfInBounds_toArray, List.set_cons_zero, List.set_cons_succ]
  refine takeH (i := 5) (v := ?v5_15) rfl (by kernel_rfl) (fun _ _ _ h => h) (by rfl) ?hy5_15 (by assumption) ?rest5_15
  case hy5_15 => (intro w hSw; (try dsimp only at hSw); go_simp; try with_reducible rfl)
  try simp only [Act.put, List.setIfInBounds_toArray, List.set_cons_zero, List.set_cons_succ]
  refine takeH (i := 7) (v := ?v7_16) rfl (by kernel_rfl) (fun _ _ _ h => h) (by rfl) ?hy7_16 (by assumption) ?rest7_16
  case hy7_16 => (intro w hSw; (try dsimp only at hSw); go_simp; try with_reducible rfl)
  try simp only [Act.put, List.setIfInBounds_toArray, List.set_cons_zero, List.set_cons_succ]
  refine wpAnyH_ready (rs := [6]) (by kernel_rfl) (by simp) ?_
  refine consH rfl (fun K hK => ?_) (AllReadyH.nil)
  go_simp
  refine (Enter_at id (v, r, g) _ HH.out HID.out HX.out).mono ?_
  rintro e w9 ⟨rfl, hA9⟩
  obtain ⟨F9, h9, s9⟩ := hA9
  have hk9 : Kept ((bx + 1 + 1) :: F) W4.drew w9 := s9.kept.mono (fun b hb => by simp [hb])
  replace fr0 := s9.kept.frz fr0 (lt_of_cell r0) nr
  replace fr1 := s9.kept.frz fr1 (lt_of_cell r1) nr
  replace fr2 := s9.kept.frz fr2 (lt_of_cell r2) nr
  replace r0 := s9.cell nr r0
  replace r1 := s9.cell nr r1
  replace r2 := s9.cell nr r2
  have HS9 := Lib.hid s9
  have HH9 := Lib.hid h9
  clear s9 h9
  rw [← HC3.out]
  go_wp2_with fail
  refine hK.out _ _ ?_ (fun hHeld6 => ?_)
  · (first | assumption | (refine heldK_7 (by assumption) ?_ (by assumption) (by assumption) (by assumption) (by assumption) (by assumption) (by assumption) (by assumption) ; assumption) | (refine heldK_7 (Kept.of (below_ad _ _)) ?_ (by assumption) (by assumption) (by assumption) (by assumption) (by assumption) (by assumption) (by assumption) ; assumption) | (refine heldK_7 (Kept.of (below_a _ _)) ?_ (by assumption) (by assumption) (by assumption) (by assumption) (by assumption) (by assumption) (by assumption) ; assumption))
  clear hK K
  try simp only [Act.put, List.setIfInBounds_toArray, List.set_cons_zero, List.set_cons_succ]
  refine takeH (i := 8) (v := ?v8_17) rfl (by kernel_rfl) (fun _ _ _ h => h) (by rfl) ?hy8_17 (by assumption) ?rest8_17
  case hy8_17 => (intro w hSw; (try dsimp only at hSw); go_simp; try with_reducible rfl)
  try simp only [Act.put, List.setIfInBounds_toArray, List.set_cons_zero, List.set_cons_succ]
  refine wpAnyH_ready (rs := [9]) (by kernel_rfl) (by simp) ?_
  refine consH rfl (fun K hK => ?_) (AllReadyH.nil)
  go_simp
  have hk9b : Kept ((bx + 1 + 1) :: F) w9 (((w9.setCell ⟨bx + 1 + 1, 0, none⟩ (.int .i64 n)).setCell ⟨bx + 1 + 1, 1, none⟩ (.slice a3 N cap3)).setCell ⟨bx + 1 + 1, 2, none⟩ (.int .u64 f3)) := ((((Kept.refl _ _).setCell (Or.inl (by simp)) _).setCell (Or.inl (by simp)) _).setCell (Or.inl (by simp)) _)
  have KF : Kept [bx + 1 + 1] w9 (((w9.setCell ⟨bx + 1 + 1, 0, none⟩ (.int .i64 n)).setCell ⟨bx + 1 + 1, 1, none⟩ (.slice a3 N cap3)).setCell ⟨bx + 1 + 1, 2, none⟩ (.int .u64 f3)) := ((((Kept.refl _ _).setCell (Or.inl (by simp)) _).setCell (Or.inl (by simp)) _).setCell (Or.inl (by simp)) _)
  replace r0 : (((w9.setCell ⟨bx + 1 + 1, 0, none⟩ (.int .i64 n)).setCell ⟨bx + 1 + 1, 1, none⟩ (.slice a3 N cap3)).setCell ⟨bx + 1 + 1, 2, none⟩ (.int .u64 f3)).cell? ⟨bx + 1 + 1, 0, none⟩ = some (.int .i64 n) := (cell_set_ne (cell_set_ne (cell_set_eq r0) (Or.inr (by decide))) (Or.inr (by decide)))
  replace r1 : (((w9.setCell ⟨bx + 1 + 1, 0, none⟩ (.int .i64 n)).setCell ⟨bx + 1 + 1, 1, none⟩ (.slice a3 N cap3)).setCell ⟨bx + 1 + 1, 2, none⟩ (.int .u64 f3)).cell? ⟨bx + 1 + 1, 1, none⟩ = some (.slice a3 N cap3) := (cell_set_ne (cell_set_eq (cell_set_ne r1 (Or.inr (by decide)))) (Or.inr (by decide)))
  replace r2 : (((w9.setCell ⟨bx + 1 + 1, 0, none⟩ (.int .i64 n)).setCell ⟨bx + 1 + 1, 1, none⟩ (.slice a3 N cap3)).setCell ⟨bx + 1 + 1, 2, none⟩ (.int .u64 f3)).cell? ⟨bx + 1 + 1, 2, none⟩ = some (.int .u64 f3) := (cell_set_eq (cell_set_ne (cell_set_ne r2 (Or.inr (by decide))) (Or.inr (by decide))))
  obtain ⟨wq, hwq⟩ : ∃ wq, wq = (((w9.setCell ⟨bx + 1 + 1, 0, none⟩ (.int .i64 n)).setCell ⟨bx + 1 + 1, 1, none⟩ (.slice a3 N cap3)).setCell ⟨bx + 1 + 1, 2, none⟩ (.int .u64 f3)) := ⟨_, rfl⟩
  rw [← hwq] at hk9b KF r0 r1 r2 ⊢
  clear hwq
  refine hK.out _ _ ?_ (fun hHeld9 => ?_)
  · (first | assumption | (refine heldK_7 (by assumption) ?_ (by assumption) (by assumption) (by assumption) (by assumption) (by assumption) (by assumption) (by assumption) ; assumption) | (refine heldK_7 (Kept.of (below_ad _ _)) ?_ (by assumption) (by assumption) (by assumption) (by assumption) (by assumption) (by assumption) (by assumption) ; assumption) | (refine heldK_7 (Kept.of (below_a _ _)) ?_ (by assumption) (by assumption) (by assumption) (by assumption) (by assumption) (by assumption) (by assumption) ; assumption))
  clear hK K
  try simp only [Act.put, List.setIfInBounds_toArray, List.set_cons_zero, List.set_cons_succ]
  refine takeH (i := 10) (v := ?v10_18) rfl (by kernel_rfl) (fun _ _ _ h => h) (by rfl) ?hy10_18 (by assumption) ?rest10_18
  case hy10_18 => (intro w hSw; (try dsimp only at hSw); go_simp; try with_reducible rfl)
  try simp only [Act.put, List.setIfInBounds_toArray, List.set_cons_zero, List.set_cons_succ]
  refine wpAnyH_done (by kernel_rfl) ?_ _
  go_wp2_with fail
  refine bodyPost_ret (v := .tuple #[rqV n a3 N cap3 f3, .bool true]) (by simp [results, Try.results30, go_sem, rqV, *]) rfl ?_
  have HR9 := HRR.out
  rw [HN.out] at HR9 ⊢
  exact qact_done HB4.out HF.out (by have := HBX.out; omega) (by have := HSZ.out; have := HB3.out.size; have := HX4.out.size; have := H03.out.size; omega) ((Step.of (Below.refl W4.heap.size W4).drew).trans HS9.out) (by rw [HM3.out, HF3.out]; exact HH9.out) HR9 KF
set_option maxRecDepth 100000 in
set_option maxHeartbeats 4000000 in
theorem act_charge3 {q : Nat} {F : List Nat} {n : Int} {M : Mems} {fl : Int} (a : Option Addr) (cap : Nat) (kd id v r g nn : Int) (w : World) (h : QIn w q F n M fl) (hr : HeldR encMs F w (.slice a M.length cap) M) (hk : kd % 8 = 3) (hkd : 0 ≤ kd) (hid : (Lit.int .i64 id).wf = true) (hx : Ch.Fits v r g) (hnn : -9223372036854775808 ≤ nn ∧ nn ≤ 9223372036854775807) :
    Calls Try.prog 30 #[.pointer (some ⟨q, 0, none⟩), .agg #[.int .i64 n, .slice a M.length cap, .int .u64 fl], .agg #[.int .u8 kd, .int .i64 id, .int .u64 v, .int .u32 r, .int .u32 g, .int .i64 nn]] w (QActP w q F n) := by
  have z0 : (kd % 8 == 0) = false := by rw [hk]; rfl
  have z1 : (kd % 8 == 1) = false := by rw [hk]; rfl
  have z2 : (kd % 8 == 2) = false := by rw [hk]; rfl
  have z3 : (kd % 8 == 3) = true := by rw [hk]; rfl
  have z4 : (kd % 8 == 4) = false := by rw [hk]; rfl
  have z5 : (kd % 8 == 5) = false := by rw [hk]; rfl
  have z6 : (kd % 8 == 6) = false := by rw [hk]; rfl
  clear hk
  have HI := Lib.hid h
  have HR := Lib.hid hr
  have HF := Lib.hid h.lt
  have HRM := Lib.hid h.refM
  have HID := Lib.hid hid
  have HX := Lib.hid hx
  have HNN := Lib.hid hnn
  have hfl := h.ids.2.2.2.2.2
  have AE := Lib.hid fun (W : World) (q : HeldR encMs [] W (.slice a M.length cap) M) => rCharge_any a cap n fl id nn M W q HRM.out HNN.out
  clear h hr hid hx hnn
  obtain ⟨L, hL⟩ : ∃ L, L = M.length := ⟨_, rfl⟩
  have HL := Lib.hid hL
  rw [← hL] at HR AE ⊢
  clear hL
  obtain ⟨W0, hW0⟩ : ∃ W0, W0 = (((w.alloc (.cells #[.int .i64 n, .slice a L cap, .int .u64 fl] 68)).alloc (.cells #[.int .u8 kd, .int .i64 id, .int .u64 v, .int .u32 r, .int .u32 g, .int .i64 nn] 60)).alloc (.cells #[.int .i64 0, .slice none 0 0, .int .u64 0] 68)) := ⟨_, rfl⟩
  have HB0 := Lib.hid (show Below w.heap.size w W0 by rw [hW0]; exact (Below.allocS (Below.allocS (Below.allocS (Below.refl _ _) _) _) _))
  have c0 : W0.cell? ⟨w.heap.size, 0, none⟩ = some (.int .i64 n) := by rw [hW0]; exact cell_al _ (cell_al _ (cell_nwE (by simp) _ _ 0 _ rfl))
  have fc0 : W0.frozen? ⟨w.heap.size, 0, none⟩ = false := by rw [hW0]; exact frz_later (below_a _ _) (frz_later (below_a _ _) (frz_nwE (by simp) _ _ 0) (by first | (simp; done) | (simp; omega))) (by first | (simp; done) | (simp; omega))
  have c1 : W0.cell? ⟨w.heap.size, 1, none⟩ = some (.slice a L cap) := by rw [hW0]; exact cell_al _ (cell_al _ (cell_nwE (by simp) _ _ 1 _ rfl))
  have fc1 : W0.frozen? ⟨w.heap.size, 1, none⟩ = false := by rw [hW0]; exact frz_later (below_a _ _) (frz_later (below_a _ _) (frz_nwE (by simp) _ _ 1) (by first | (simp; done) | (simp; omega))) (by first | (simp; done) | (simp; omega))
  have c2 : W0.cell? ⟨w.heap.size, 2, none⟩ = some (.int .u64 fl) := by rw [hW0]; exact cell_al _ (cell_al _ (cell_nwE (by simp) _ _ 2 _ rfl))
  have fc2 : W0.frozen? ⟨w.heap.size, 2, none⟩ = false := by rw [hW0]; exact frz_later (below_a _ _) (frz_later (below_a _ _) (frz_nwE (by simp) _ _ 2) (by first | (simp; done) | (simp; omega))) (by first | (simp; done) | (simp; omega))
  have x0 : W0.cell? ⟨w.heap.size + 1, 0, none⟩ = some (.int .u8 kd) := by rw [hW0]; exact cell_al _ (cell_nwE (by simp) _ _ 0 _ rfl)
  have fx0 : W0.frozen? ⟨w.heap.size + 1, 0, none⟩ = false := by rw [hW0]; exact frz_later (below_a _ _) (frz_nwE (by simp) _ _ 0) (by first | (simp; done) | (simp; omega))
  have x1 : W0.cell? ⟨w.heap.size + 1, 1, none⟩ = some (.int .i64 id) := by rw [hW0]; exact cell_al _ (cell_nwE (by simp) _ _ 1 _ rfl)
  have fx1 : W0.frozen? ⟨w.heap.size + 1, 1, none⟩ = false := by rw [hW0]; exact frz_later (below_a _ _) (frz_nwE (by simp) _ _ 1) (by first | (simp; done) | (simp; omega))
  have x2 : W0.cell? ⟨w.heap.size + 1, 2, none⟩ = some (.int .u64 v) := by rw [hW0]; exact cell_al _ (cell_nwE (by simp) _ _ 2 _ rfl)
  have fx2 : W0.frozen? ⟨w.heap.size + 1, 2, none⟩ = false := by rw [hW0]; exact frz_later (below_a _ _) (frz_nwE (by simp) _ _ 2) (by first | (simp; done) | (simp; omega))
  have x3 : W0.cell? ⟨w.heap.size + 1, 3, none⟩ = some (.int .u32 r) := by rw [hW0]; exact cell_al _ (cell_nwE (by simp) _ _ 3 _ rfl)
  have fx3 : W0.frozen? ⟨w.heap.size + 1, 3, none⟩ = false := by rw [hW0]; exact frz_later (below_a _ _) (frz_nwE (by simp) _ _ 3) (by first | (simp; done) | (simp; omega))
  have x4 : W0.cell? ⟨w.heap.size + 1, 4, none⟩ = some (.int .u32 g) := by rw [hW0]; exact cell_al _ (cell_nwE (by simp) _ _ 4 _ rfl)
  have fx4 : W0.frozen? ⟨w.heap.size + 1, 4, none⟩ = false := by rw [hW0]; exact frz_later (below_a _ _) (frz_nwE (by simp) _ _ 4) (by first | (simp; done) | (simp; omega))
  have x5 : W0.cell? ⟨w.heap.size + 1, 5, none⟩ = some (.int .i64 nn) := by rw [hW0]; exact cell_al _ (cell_nwE (by simp) _ _ 5 _ rfl)
  have fx5 : W0.frozen? ⟨w.heap.size + 1, 5, none⟩ = false := by rw [hW0]; exact frz_later (below_a _ _) (frz_nwE (by simp) _ _ 5) (by first | (simp; done) | (simp; omega))
  have r0 : W0.cell? ⟨w.heap.size + 1 + 1, 0, none⟩ = some (.int .i64 0) := by rw [hW0]; exact cell_nwE (by simp) _ _ 0 _ rfl
  have fr0 : W0.frozen? ⟨w.heap.size + 1 + 1, 0, none⟩ = false := by rw [hW0]; exact frz_nwE (by simp) _ _ 0
  have r1 : W0.cell? ⟨w.heap.size + 1 + 1, 1, none⟩ = some (.slice none 0 0) := by rw [hW0]; exact cell_nwE (by simp) _ _ 1 _ rfl
  have fr1 : W0.frozen? ⟨w.heap.size + 1 + 1, 1, none⟩ = false := by rw [hW0]; exact frz_nwE (by simp) _ _ 1
  have r2 : W0.cell? ⟨w.heap.size + 1 + 1, 2, none⟩ = some (.int .u64 0) := by rw [hW0]; exact cell_nwE (by simp) _ _ 2 _ rfl
  have fr2 : W0.frozen? ⟨w.heap.size + 1 + 1, 2, none⟩ = false := by rw [hW0]; exact frz_nwE (by simp) _ _ 2
  have HSZ := Lib.hid (show W0.heap.size = w.heap.size + 1 + 1 + 1 by rw [hW0]; simp)
  have HW0 := Lib.hid hW0
  clear hW0
  have nc : w.heap.size ∉ F := fun m => by have := HF.out _ m; omega
  have nx : w.heap.size + 1 ∉ F := fun m => by have := HF.out _ m; omega
  have nr : w.heap.size + 1 + 1 ∉ F := fun m => by have := HF.out _ m; omega
  go_enter Try.func30, Try.ntmps30
  go_wp2_with fail
  rw [← HW0.out]
  generalize hbx : w.heap.size = bx at c0 c1 c2 x0 x1 x2 x3 x4 x5 r0 r1 r2 fc0 fc1 fc2 fx0 fx1 fx2 fx3 fx4 fx5 fr0 fr1 fr2 HSZ nc nx nr ⊢
  have HBX := Lib.hid hbx
  clear hbx HW0
  refine (AE.out W0 ((HR.out.later HB0.out).subM (by simp))).mono ?_
  rintro e w3 ⟨a3, cap3, rfl, hn3, hb3⟩
  unfold rqV
  replace fc0 := frz_later hb3 fc0 (lt_of_cell c0)
  replace fc1 := frz_later hb3 fc1 (lt_of_cell c1)
  replace fc2 := frz_later hb3 fc2 (lt_of_cell c2)
  replace fx0 := frz_later hb3 fx0 (lt_of_cell x0)
  replace fx1 := frz_later hb3 fx1 (lt_of_cell x1)
  replace fx2 := frz_later hb3 fx2 (lt_of_cell x2)
  replace fx3 := frz_later hb3 fx3 (lt_of_cell x3)
  replace fx4 := frz_later hb3 fx4 (lt_of_cell x4)
  replace fx5 := frz_later hb3 fx5 (lt_of_cell x5)
  replace fr0 := frz_later hb3 fr0 (lt_of_cell r0)
  replace fr1 := frz_later hb3 fr1 (lt_of_cell r1)
  replace fr2 := frz_later hb3 fr2 (lt_of_cell r2)
  replace c0 := cell_later hb3 c0
  replace c1 := cell_later hb3 c1
  replace c2 := cell_later hb3 c2
  replace x0 := cell_later hb3 x0
  replace x1 := cell_later hb3 x1
  replace x2 := cell_later hb3 x2
  replace x3 := cell_later hb3 x3
  replace x4 := cell_later hb3 x4
  replace x5 := cell_later hb3 x5
  replace r0 := cell_later hb3 r0
  replace r1 := cell_later hb3 r1
  replace r2 := cell_later hb3 r2
  have HN3 := Lib.hid hn3
  have HB3 := Lib.hid (Below.step HB0.out hb3)
  have H03 := Lib.hid hb3
  obtain ⟨M3, hM3⟩ : ∃ M3, M3 = (chS (decide (tkOk nn)) n M id (chgX nn)) := ⟨_, rfl⟩
  obtain ⟨f3, hf3⟩ : ∃ f3, f3 = (chF (decide (tkOk nn)) n M id (chgX nn) fl) := ⟨_, rfl⟩
  obtain ⟨c3, hc3⟩ : ∃ c3, c3 = (chC (decide (tkOk nn)) n M id) := ⟨_, rfl⟩
  rw [← hM3] at HN3 ⊢
  rw [← hf3, ← hc3]
  have HM3 := Lib.hid hM3
  have HF3 := Lib.hid hf3
  have HC3 := Lib.hid hc3
  obtain ⟨N, hN⟩ : ∃ N, N = M3.length := ⟨_, rfl⟩
  have HN := Lib.hid hN
  rw [← hN] at HN3 ⊢
  clear hn3 hb3 hN hM3 hf3 hc3
  go_wp2_with fail
  obtain ⟨W4, hW4⟩ : ∃ W, W = w3.alloc (.cells #[.int .i64 n, .slice a3 N cap3, .int .u64 f3] 68) := ⟨_, rfl⟩
  rw [← hW4]
  have hb4 : Below w3.heap.size w3 W4 := by rw [hW4]; exact below_a _ _
  have y0 : W4.cell? ⟨w3.heap.size, 0, none⟩ = some (.int .i64 n) := by rw [hW4]; exact cell_nw _ _ _ 0 _ rfl
  have y1 : W4.cell? ⟨w3.heap.size, 1, none⟩ = some (.slice a3 N cap3) := by rw [hW4]; exact cell_nw _ _ _ 1 _ rfl
  have y2 : W4.cell? ⟨w3.heap.size, 2, none⟩ = some (.int .u64 f3) := by rw [hW4]; exact cell_nw _ _ _ 2 _ rfl
  replace fc0 := frz_later hb4 fc0 (lt_of_cell c0)
  replace fc1 := frz_later hb4 fc1 (lt_of_cell c1)
  replace fc2 := frz_later hb4 fc2 (lt_of_cell c2)
  replace fx0 := frz_later hb4 fx0 (lt_of_cell x0)
  replace fx1 := frz_later hb4 fx1 (lt_of_cell x1)
  replace fx2 := frz_later hb4 fx2 (lt_of_cell x2)
  replace fx3 := frz_later hb4 fx3 (lt_of_cell x3)
  replace fx4 := frz_later hb4 fx4 (lt_of_cell x4)
  replace fx5 := frz_later hb4 fx5 (lt_of_cell x5)
  replace fr0 := frz_later hb4 fr0 (lt_of_cell r0)
  replace fr1 := frz_later hb4 fr1 (lt_of_cell r1)
  replace fr2 := frz_later hb4 fr2 (lt_of_cell r2)
  replace c0 := cell_later hb4 c0
  replace c1 := cell_later hb4 c1
  replace c2 := cell_later hb4 c2
  replace x0 := cell_later hb4 x0
  replace x1 := cell_later hb4 x1
  replace x2 := cell_later hb4 x2
  replace x3 := cell_later hb4 x3
  replace x4 := cell_later hb4 x4
  replace x5 := cell_later hb4 x5
  replace r0 := cell_later hb4 r0
  replace r1 := cell_later hb4 r1
  replace r2 := cell_later hb4 r2
  have HB4 := Lib.hid (Below.step HB3.out hb4)
  have HX4 := Lib.hid hb4
  have L8 := Lib.hid (show W0.heap.size ≤ w3.heap.size from H03.out.size)
  generalize hb8 : w3.heap.size = b8 at y0 y1 y2 L8 ⊢
  have HB8 := Lib.hid hb8
  have hm8 : b8 ∉ (bx + 1 + 1) :: F := fun m => by
    have h1 := HSZ.out; have h2 := L8.out; have h3 := HB0.out.size; have h4 := HBX.out
    rcases List.mem_cons.1 m with m | m
    · omega
    · have := HF.out _ m; omega
  have hm1 : bx + 1 ∉ (bx + 1 + 1) :: F := fun m => by
    rcases List.mem_cons.1 m with m | m
    · omega
    · exact nx m
  have HH := Lib.hid (show QIn W4.drew q F n M fl from (HI.out.below HB4.out).below (Below.refl _ _).drew)
  have HRR := Lib.hid (show HeldR encMs ((bx + 1 + 1) :: F) W4 (.slice a3 N cap3) M3 from (HN3.out ((bx + 1 + 1) :: F) (fun b hb => by
    have h1 := HSZ.out; have h3 := HB0.out.size; have h4 := HBX.out
    rcases List.mem_cons.1 hb with rfl | hb
    · omega
    · have := HF.out _ hb; omega) (HR.out.step (Kept.of HB0.out) (fun b hb => by
    have h1 := HBX.out
    rcases List.mem_cons.1 hb with rfl | hb
    · exact Or.inr (by omega)
    · exact Or.inl hb))).later HX4.out)
  clear hb4 hW4 hb8
  have hS0 : Kept ((bx + 1 + 1) :: F) W4 W4.drew ∧ W4.drew.cell? ⟨b8, 0, none⟩ = some (.int .i64 n) ∧ W4.drew.cell? ⟨b8, 1, none⟩ = some (.slice a3 N cap3) ∧ W4.drew.cell? ⟨b8, 2, none⟩ = some (.int .u64 f3) ∧ W4.drew.cell? ⟨bx + 1, 1, none⟩ = some (.int .i64 id) ∧ W4.drew.cell? ⟨bx + 1, 5, none⟩ = some (.int .i64 nn) := ⟨Kept.drew (Kept.refl _ _), cell_dr y0, cell_dr y1, cell_dr y2, cell_dr x1, cell_dr x5⟩
  refine wp_region_held_drew (S := fun w' => Kept ((bx + 1 + 1) :: F) W4 w' ∧ w'.cell? ⟨b8, 0, none⟩ = some (.int .i64 n) ∧ w'.cell? ⟨b8, 1, none⟩ = some (.slice a3 N cap3) ∧ w'.cell? ⟨b8, 2, none⟩ = some (.int .u64 f3) ∧ w'.cell? ⟨bx + 1, 1, none⟩ = some (.int .i64 id) ∧ w'.cell? ⟨bx + 1, 5, none⟩ = some (.int .i64 nn)) (by kernel_rfl) hS0 (fun hHeld => ?_)
  refine takeH (i := 0) (v := ?v0_19) rfl (by kernel_rfl) (fun _ _ _ h => h) (by rfl) ?hy0_19 (by assumption) ?rest0_19
  case hy0_19 => (intro w hSw; (try dsimp only at hSw); go_simp; try with_reducible rfl)
  try simp only [Act.put, List.setIfInBounds_toArray, List.set_cons_zero, List.set_cons_succ]
  refine takeH (i := 1) (v := ?v1_20) rfl (by kernel_rfl) (fun _ _ _ h => h) (by rfl) ?hy1_20 (by assumption) ?rest1_20
  case hy1_20 => (intro w hSw; (try dsimp only at hSw); go_simp; try with_reducible rfl)
  try simp only [Act.put, List.setIfInBounds_toArray, List.set_cons_zero, List.set_cons_succ]
  refine takeH (i := 2) (v := ?v2_21) rfl (by kernel_rfl) (fun _ _ _ h => h) (by rfl) ?hy2_21 (by assumption) ?rest2_21
  case hy2_21 => (intro w hSw; (try dsimp only at hSw); go_simp; try with_reducible rfl)
  try simp only [Act.put, List.setIfInBounds_toArray, List.set_cons_zero, List.set_cons_succ]
  refine takeH (i := 3) (v := ?v3_22) rfl (by kernel_rfl) (fun _ _ _ h => h) (by rfl) ?hy3_22 (by assumption) ?rest3_22
  case hy3_22 => (intro w hSw; (try dsimp only at hSw); go_simp; try with_reducible rfl)
  try simp only [Act.put, List.setIfInBounds_toArray, List.set_cons_zero, List.set_cons_succ]
  refine takeH (i := 4) (v := ?v4_23) rfl (by kernel_rfl) (fun _ _ _ h => h) (by rfl) ?hy4_23 (by assumption) ?rest4_23
  case hy4_23 => (intro w hSw; (try dsimp only at hSw); go_simp; try with_reducible rfl)
  try simp only [Act.put, List.setIfInBounds_toArray, List.set_cons_zero, List.set_cons_succ]
  refine takeH (i := 5) (v := ?v5_24) rfl (by kernel_rfl) (fun _ _ _ h => h) (by rfl) ?hy5_24 (by assumption) ?rest5_24
  case hy5_24 => (intro w hSw; (try dsimp only at hSw); go_simp; try with_reducible rfl)
  try simp only [Act.put, List.setIfInBounds_toArray, List.set_cons_zero, List.set_cons_succ]
  refine takeH (i := 7) (v := ?v7_25) rfl (by kernel_rfl) (fun _ _ _ h => h) (by rfl) ?hy7_25 (by assumption) ?rest7_25
  case hy7_25 => (intro w hSw; (try dsimp only at hSw); go_simp; try with_reducible rfl)
  try simp only [Act.put, List.setIfInBounds_toArray, List.set_cons_zero, List.set_cons_succ]
  refine wpAnyH_ready (rs := [6]) (by kernel_rfl) (by simp) ?_
  refine consH rfl (fun K hK => ?_) (AllReadyH.nil)
  go_simp
  refine (Charge_at id nn _ HH.out HID.out).mono ?_
  rintro e w9 ⟨rfl, hA9⟩
  obtain ⟨F9, h9, s9⟩ := hA9
  have hk9 : Kept ((bx + 1 + 1) :: F) W4.drew w9 := s9.kept.mono (fun b hb => by simp [hb])
  replace fr0 := s9.kept.frz fr0 (lt_of_cell r0) nr
  replace fr1 := s9.kept.frz fr1 (lt_of_cell r1) nr
  replace fr2 := s9.kept.frz fr2 (lt_of_cell r2) nr
  replace r0 := s9.cell nr r0
  replace r1 := s9.cell nr r1
  replace r2 := s9.cell nr r2
  have HS9 := Lib.hid s9
  have HH9 := Lib.hid h9
  clear s9 h9
  rw [← HC3.out]
  go_wp2_with fail
  refine hK.out _ _ ?_ (fun hHeld6 => ?_)
  · (first | assumption | (refine heldK_5 (by assumption) ?_ (by assumption) (by assumption) (by assumption) (by assumption) (by assumption) ; assumption) | (refine heldK_5 (Kept.of (below_ad _ _)) ?_ (by assumption) (by assumption) (by assumption) (by assumption) (by assumption) ; assumption) | (refine heldK_5 (Kept.of (below_a _ _)) ?_ (by assumption) (by assumption) (by assumption) (by assumption) (by assumption) ; assumption))
  clear hK K
  try simp only [Act.put, List.setIfInBounds_toArray, List.set_cons_zero, List.set_cons_succ]
  refine takeH (i := 8) (v := ?v8_26) rfl (by kernel_rfl) (fun _ _ _ h => h) (by rfl) ?hy8_26 (by assumption) ?rest8_26
  case hy8_26 => (intro w hSw; (try dsimp only at hSw); go_simp; try with_reducible rfl)
  try simp only [Act.put, List.setIfInBounds_toArray, List.set_cons_zero, List.set_cons_succ]
  refine wpAnyH_ready (rs := [9]) (by kernel_rfl) (by simp) ?_
  refine consH rfl (fun K hK => ?_) (AllReadyH.nil)
  go_simp
  have hk9b : Kept ((bx + 1 + 1) :: F) w9 (((w9.setCell ⟨bx + 1 + 1, 0, none⟩ (.int .i64 n)).setCell ⟨bx + 1 + 1, 1, none⟩ (.slice a3 N cap3)).setCell ⟨bx + 1 + 1, 2, none⟩ (.int .u64 f3)) := ((((Kept.refl _ _).setCell (Or.inl (by simp)) _).setCell (Or.inl (by simp)) _).setCell (Or.inl (by simp)) _)
  have KF : Kept [bx + 1 + 1] w9 (((w9.setCell ⟨bx + 1 + 1, 0, none⟩ (.int .i64 n)).setCell ⟨bx + 1 + 1, 1, none⟩ (.slice a3 N cap3)).setCell ⟨bx + 1 + 1, 2, none⟩ (.int .u64 f3)) := ((((Kept.refl _ _).setCell (Or.inl (by simp)) _).setCell (Or.inl (by simp)) _).setCell (Or.inl (by simp)) _)
  replace r0 : (((w9.setCell ⟨bx + 1 + 1, 0, none⟩ (.int .i64 n)).setCell ⟨bx + 1 + 1, 1, none⟩ (.slice a3 N cap3)).setCell ⟨bx + 1 + 1, 2, none⟩ (.int .u64 f3)).cell? ⟨bx + 1 + 1, 0, none⟩ = some (.int .i64 n) := (cell_set_ne (cell_set_ne (cell_set_eq r0) (Or.inr (by decide))) (Or.inr (by decide)))
  replace r1 : (((w9.setCell ⟨bx + 1 + 1, 0, none⟩ (.int .i64 n)).setCell ⟨bx + 1 + 1, 1, none⟩ (.slice a3 N cap3)).setCell ⟨bx + 1 + 1, 2, none⟩ (.int .u64 f3)).cell? ⟨bx + 1 + 1, 1, none⟩ = some (.slice a3 N cap3) := (cell_set_ne (cell_set_eq (cell_set_ne r1 (Or.inr (by decide)))) (Or.inr (by decide)))
  replace r2 : (((w9.setCell ⟨bx + 1 + 1, 0, none⟩ (.int .i64 n)).setCell ⟨bx + 1 + 1, 1, none⟩ (.slice a3 N cap3)).setCell ⟨bx + 1 + 1, 2, none⟩ (.int .u64 f3)).cell? ⟨bx + 1 + 1, 2, none⟩ = some (.int .u64 f3) := (cell_set_eq (cell_set_ne (cell_set_ne r2 (Or.inr (by decide))) (Or.inr (by decide))))
  obtain ⟨wq, hwq⟩ : ∃ wq, wq = (((w9.setCell ⟨bx + 1 + 1, 0, none⟩ (.int .i64 n)).setCell ⟨bx + 1 + 1, 1, none⟩ (.slice a3 N cap3)).setCell ⟨bx + 1 + 1, 2, none⟩ (.int .u64 f3)) := ⟨_, rfl⟩
  rw [← hwq] at hk9b KF r0 r1 r2 ⊢
  clear hwq
  refine hK.out _ _ ?_ (fun hHeld9 => ?_)
  · (first | assumption | (refine heldK_5 (by assumption) ?_ (by assumption) (by assumption) (by assumption) (by assumption) (by assumption) ; assumption) | (refine heldK_5 (Kept.of (below_ad _ _)) ?_ (by assumption) (by assumption) (by assumption) (by assumption) (by assumption) ; assumption) | (refine heldK_5 (Kept.of (below_a _ _)) ?_ (by assumption) (by assumption) (by assumption) (by assumption) (by assumption) ; assumption))
  clear hK K
  try simp only [Act.put, List.setIfInBounds_toArray, List.set_cons_zero, List.set_cons_succ]
  refine takeH (i := 10) (v := ?v10_27) rfl (by kernel_rfl) (fun _ _ _ h => h) (by rfl) ?hy10_27 (by assumption) ?rest10_27
  case hy10_27 => (intro w hSw; (try dsimp only at hSw); go_simp; try with_reducible rfl)
  try simp only [Act.put, List.setIfInBounds_toArray, List.set_cons_zero, List.set_cons_succ]
  refine wpAnyH_done (by kernel_rfl) ?_ _
  go_wp2_with fail
  refine bodyPost_ret (v := .tuple #[rqV n a3 N cap3 f3, .bool true]) (by simp [results, Try.results30, go_sem, rqV, *]) rfl ?_
  have HR9 := HRR.out
  rw [HN.out] at HR9 ⊢
  exact qact_done HB4.out HF.out (by have := HBX.out; omega) (by have := HSZ.out; have := HB3.out.size; have := HX4.out.size; have := H03.out.size; omega) ((Step.of (Below.refl W4.heap.size W4).drew).trans HS9.out) (by rw [HM3.out, HF3.out]; exact HH9.out) HR9 KF
set_option maxRecDepth 100000 in
set_option maxHeartbeats 4000000 in
theorem act_charge4 {q : Nat} {F : List Nat} {n : Int} {M : Mems} {fl : Int} (a : Option Addr) (cap : Nat) (kd id v r g nn : Int) (w : World) (h : QIn w q F n M fl) (hr : HeldR encMs F w (.slice a M.length cap) M) (hk : kd % 8 = 4) (hkd : 0 ≤ kd) (hid : (Lit.int .i64 id).wf = true) (hx : Ch.Fits v r g) (hnn : -9223372036854775808 ≤ nn ∧ nn ≤ 9223372036854775807) :
    Calls Try.prog 30 #[.pointer (some ⟨q, 0, none⟩), .agg #[.int .i64 n, .slice a M.length cap, .int .u64 fl], .agg #[.int .u8 kd, .int .i64 id, .int .u64 v, .int .u32 r, .int .u32 g, .int .i64 nn]] w (QActP w q F n) := by
  have z0 : (kd % 8 == 0) = false := by rw [hk]; rfl
  have z1 : (kd % 8 == 1) = false := by rw [hk]; rfl
  have z2 : (kd % 8 == 2) = false := by rw [hk]; rfl
  have z3 : (kd % 8 == 3) = false := by rw [hk]; rfl
  have z4 : (kd % 8 == 4) = true := by rw [hk]; rfl
  have z5 : (kd % 8 == 5) = false := by rw [hk]; rfl
  have z6 : (kd % 8 == 6) = false := by rw [hk]; rfl
  clear hk
  have HI := Lib.hid h
  have HR := Lib.hid hr
  have HF := Lib.hid h.lt
  have HRM := Lib.hid h.refM
  have HID := Lib.hid hid
  have HX := Lib.hid hx
  have HNN := Lib.hid hnn
  have hfl := h.ids.2.2.2.2.2
  have AE := Lib.hid fun (W : World) (q : HeldR encMs [] W (.slice a M.length cap) M) => rCharge_any a cap n fl id nn M W q HRM.out HNN.out
  clear h hr hid hx hnn
  obtain ⟨L, hL⟩ : ∃ L, L = M.length := ⟨_, rfl⟩
  have HL := Lib.hid hL
  rw [← hL] at HR AE ⊢
  clear hL
  obtain ⟨W0, hW0⟩ : ∃ W0, W0 = (((w.alloc (.cells #[.int .i64 n, .slice a L cap, .int .u64 fl] 68)).alloc (.cells #[.int .u8 kd, .int .i64 id, .int .u64 v, .int .u32 r, .int .u32 g, .int .i64 nn] 60)).alloc (.cells #[.int .i64 0, .slice none 0 0, .int .u64 0] 68)) := ⟨_, rfl⟩
  have HB0 := Lib.hid (show Below w.heap.size w W0 by rw [hW0]; exact (Below.allocS (Below.allocS (Below.allocS (Below.refl _ _) _) _) _))
  have c0 : W0.cell? ⟨w.heap.size, 0, none⟩ = some (.int .i64 n) := by rw [hW0]; exact cell_al _ (cell_al _ (cell_nwE (by simp) _ _ 0 _ rfl))
  have fc0 : W0.frozen? ⟨w.heap.size, 0, none⟩ = false := by rw [hW0]; exact frz_later (below_a _ _) (frz_later (below_a _ _) (frz_nwE (by simp) _ _ 0) (by first | (simp; done) | (simp; omega))) (by first | (simp; done) | (simp; omega))
  have c1 : W0.cell? ⟨w.heap.size, 1, none⟩ = some (.slice a L cap) := by rw [hW0]; exact cell_al _ (cell_al _ (cell_nwE (by simp) _ _ 1 _ rfl))
  have fc1 : W0.frozen? ⟨w.heap.size, 1, none⟩ = false := by rw [hW0]; exact frz_later (below_a _ _) (frz_later (below_a _ _) (frz_nwE (by simp) _ _ 1) (by first | (simp; done) | (simp; omega))) (by first | (simp; done) | (simp; omega))
  have c2 : W0.cell? ⟨w.heap.size, 2, none⟩ = some (.int .u64 fl) := by rw [hW0]; exact cell_al _ (cell_al _ (cell_nwE (by simp) _ _ 2 _ rfl))
  have fc2 : W0.frozen? ⟨w.heap.size, 2, none⟩ = false := by rw [hW0]; exact frz_later (below_a _ _) (frz_later (below_a _ _) (frz_nwE (by simp) _ _ 2) (by first | (simp; done) | (simp; omega))) (by first | (simp; done) | (simp; omega))
  have x0 : W0.cell? ⟨w.heap.size + 1, 0, none⟩ = some (.int .u8 kd) := by rw [hW0]; exact cell_al _ (cell_nwE (by simp) _ _ 0 _ rfl)
  have fx0 : W0.frozen? ⟨w.heap.size + 1, 0, none⟩ = false := by rw [hW0]; exact frz_later (below_a _ _) (frz_nwE (by simp) _ _ 0) (by first | (simp; done) | (simp; omega))
  have x1 : W0.cell? ⟨w.heap.size + 1, 1, none⟩ = some (.int .i64 id) := by rw [hW0]; exact cell_al _ (cell_nwE (by simp) _ _ 1 _ rfl)
  have fx1 : W0.frozen? ⟨w.heap.size + 1, 1, none⟩ = false := by rw [hW0]; exact frz_later (below_a _ _) (frz_nwE (by simp) _ _ 1) (by first | (simp; done) | (simp; omega))
  have x2 : W0.cell? ⟨w.heap.size + 1, 2, none⟩ = some (.int .u64 v) := by rw [hW0]; exact cell_al _ (cell_nwE (by simp) _ _ 2 _ rfl)
  have fx2 : W0.frozen? ⟨w.heap.size + 1, 2, none⟩ = false := by rw [hW0]; exact frz_later (below_a _ _) (frz_nwE (by simp) _ _ 2) (by first | (simp; done) | (simp; omega))
  have x3 : W0.cell? ⟨w.heap.size + 1, 3, none⟩ = some (.int .u32 r) := by rw [hW0]; exact cell_al _ (cell_nwE (by simp) _ _ 3 _ rfl)
  have fx3 : W0.frozen? ⟨w.heap.size + 1, 3, none⟩ = false := by rw [hW0]; exact frz_later (below_a _ _) (frz_nwE (by simp) _ _ 3) (by first | (simp; done) | (simp; omega))
  have x4 : W0.cell? ⟨w.heap.size + 1, 4, none⟩ = some (.int .u32 g) := by rw [hW0]; exact cell_al _ (cell_nwE (by simp) _ _ 4 _ rfl)
  have fx4 : W0.frozen? ⟨w.heap.size + 1, 4, none⟩ = false := by rw [hW0]; exact frz_later (below_a _ _) (frz_nwE (by simp) _ _ 4) (by first | (simp; done) | (simp; omega))
  have x5 : W0.cell? ⟨w.heap.size + 1, 5, none⟩ = some (.int .i64 nn) := by rw [hW0]; exact cell_al _ (cell_nwE (by simp) _ _ 5 _ rfl)
  have fx5 : W0.frozen? ⟨w.heap.size + 1, 5, none⟩ = false := by rw [hW0]; exact frz_later (below_a _ _) (frz_nwE (by simp) _ _ 5) (by first | (simp; done) | (simp; omega))
  have r0 : W0.cell? ⟨w.heap.size + 1 + 1, 0, none⟩ = some (.int .i64 0) := by rw [hW0]; exact cell_nwE (by simp) _ _ 0 _ rfl
  have fr0 : W0.frozen? ⟨w.heap.size + 1 + 1, 0, none⟩ = false := by rw [hW0]; exact frz_nwE (by simp) _ _ 0
  have r1 : W0.cell? ⟨w.heap.size + 1 + 1, 1, none⟩ = some (.slice none 0 0) := by rw [hW0]; exact cell_nwE (by simp) _ _ 1 _ rfl
  have fr1 : W0.frozen? ⟨w.heap.size + 1 + 1, 1, none⟩ = false := by rw [hW0]; exact frz_nwE (by simp) _ _ 1
  have r2 : W0.cell? ⟨w.heap.size + 1 + 1, 2, none⟩ = some (.int .u64 0) := by rw [hW0]; exact cell_nwE (by simp) _ _ 2 _ rfl
  have fr2 : W0.frozen? ⟨w.heap.size + 1 + 1, 2, none⟩ = false := by rw [hW0]; exact frz_nwE (by simp) _ _ 2
  have HSZ := Lib.hid (show W0.heap.size = w.heap.size + 1 + 1 + 1 by rw [hW0]; simp)
  have HW0 := Lib.hid hW0
  clear hW0
  have nc : w.heap.size ∉ F := fun m => by have := HF.out _ m; omega
  have nx : w.heap.size + 1 ∉ F := fun m => by have := HF.out _ m; omega
  have nr : w.heap.size + 1 + 1 ∉ F := fun m => by have := HF.out _ m; omega
  go_enter Try.func30, Try.ntmps30
  go_wp2_with fail
  rw [← HW0.out]
  generalize hbx : w.heap.size = bx at c0 c1 c2 x0 x1 x2 x3 x4 x5 r0 r1 r2 fc0 fc1 fc2 fx0 fx1 fx2 fx3 fx4 fx5 fr0 fr1 fr2 HSZ nc nx nr ⊢
  have HBX := Lib.hid hbx
  clear hbx HW0
  refine (AE.out W0 ((HR.out.later HB0.out).subM (by simp))).mono ?_
  rintro e w3 ⟨a3, cap3, rfl, hn3, hb3⟩
  unfold rqV
  replace fc0 := frz_later hb3 fc0 (lt_of_cell c0)
  replace fc1 := frz_later hb3 fc1 (lt_of_cell c1)
  replace fc2 := frz_later hb3 fc2 (lt_of_cell c2)
  replace fx0 := frz_later hb3 fx0 (lt_of_cell x0)
  replace fx1 := frz_later hb3 fx1 (lt_of_cell x1)
  replace fx2 := frz_later hb3 fx2 (lt_of_cell x2)
  replace fx3 := frz_later hb3 fx3 (lt_of_cell x3)
  replace fx4 := frz_later hb3 fx4 (lt_of_cell x4)
  replace fx5 := frz_later hb3 fx5 (lt_of_cell x5)
  replace fr0 := frz_later hb3 fr0 (lt_of_cell r0)
  replace fr1 := frz_later hb3 fr1 (lt_of_cell r1)
  replace fr2 := frz_later hb3 fr2 (lt_of_cell r2)
  replace c0 := cell_later hb3 c0
  replace c1 := cell_later hb3 c1
  replace c2 := cell_later hb3 c2
  replace x0 := cell_later hb3 x0
  replace x1 := cell_later hb3 x1
  replace x2 := cell_later hb3 x2
  replace x3 := cell_later hb3 x3
  replace x4 := cell_later hb3 x4
  replace x5 := cell_later hb3 x5
  replace r0 := cell_later hb3 r0
  replace r1 := cell_later hb3 r1
  replace r2 := cell_later hb3 r2
  have HN3 := Lib.hid hn3
  have HB3 := Lib.hid (Below.step HB0.out hb3)
  have H03 := Lib.hid hb3
  obtain ⟨M3, hM3⟩ : ∃ M3, M3 = (chS (decide (tkOk nn)) n M id (chgX nn)) := ⟨_, rfl⟩
  obtain ⟨f3, hf3⟩ : ∃ f3, f3 = (chF (decide (tkOk nn)) n M id (chgX nn) fl) := ⟨_, rfl⟩
  obtain ⟨c3, hc3⟩ : ∃ c3, c3 = (chC (decide (tkOk nn)) n M id) := ⟨_, rfl⟩
  rw [← hM3] at HN3 ⊢
  rw [← hf3, ← hc3]
  have HM3 := Lib.hid hM3
  have HF3 := Lib.hid hf3
  have HC3 := Lib.hid hc3
  obtain ⟨N, hN⟩ : ∃ N, N = M3.length := ⟨_, rfl⟩
  have HN := Lib.hid hN
  rw [← hN] at HN3 ⊢
  clear hn3 hb3 hN hM3 hf3 hc3
  go_wp2_with fail
  obtain ⟨W4, hW4⟩ : ∃ W, W = w3.alloc (.cells #[.int .i64 n, .slice a3 N cap3, .int .u64 f3] 68) := ⟨_, rfl⟩
  rw [← hW4]
  have hb4 : Below w3.heap.size w3 W4 := by rw [hW4]; exact below_a _ _
  have y0 : W4.cell? ⟨w3.heap.size, 0, none⟩ = some (.int .i64 n) := by rw [hW4]; exact cell_nw _ _ _ 0 _ rfl
  have y1 : W4.cell? ⟨w3.heap.size, 1, none⟩ = some (.slice a3 N cap3) := by rw [hW4]; exact cell_nw _ _ _ 1 _ rfl
  have y2 : W4.cell? ⟨w3.heap.size, 2, none⟩ = some (.int .u64 f3) := by rw [hW4]; exact cell_nw _ _ _ 2 _ rfl
  replace fc0 := frz_later hb4 fc0 (lt_of_cell c0)
  replace fc1 := frz_later hb4 fc1 (lt_of_cell c1)
  replace fc2 := frz_later hb4 fc2 (lt_of_cell c2)
  replace fx0 := frz_later hb4 fx0 (lt_of_cell x0)
  replace fx1 := frz_later hb4 fx1 (lt_of_cell x1)
  replace fx2 := frz_later hb4 fx2 (lt_of_cell x2)
  replace fx3 := frz_later hb4 fx3 (lt_of_cell x3)
  replace fx4 := frz_later hb4 fx4 (lt_of_cell x4)
  replace fx5 := frz_later hb4 fx5 (lt_of_cell x5)
  replace fr0 := frz_later hb4 fr0 (lt_of_cell r0)
  replace fr1 := frz_later hb4 fr1 (lt_of_cell r1)
  replace fr2 := frz_later hb4 fr2 (lt_of_cell r2)
  replace c0 := cell_later hb4 c0
  replace c1 := cell_later hb4 c1
  replace c2 := cell_later hb4 c2
  replace x0 := cell_later hb4 x0
  replace x1 := cell_later hb4 x1
  replace x2 := cell_later hb4 x2
  replace x3 := cell_later hb4 x3
  replace x4 := cell_later hb4 x4
  replace x5 := cell_later hb4 x5
  replace r0 := cell_later hb4 r0
  replace r1 := cell_later hb4 r1
  replace r2 := cell_later hb4 r2
  have HB4 := Lib.hid (Below.step HB3.out hb4)
  have HX4 := Lib.hid hb4
  have L8 := Lib.hid (show W0.heap.size ≤ w3.heap.size from H03.out.size)
  generalize hb8 : w3.heap.size = b8 at y0 y1 y2 L8 ⊢
  have HB8 := Lib.hid hb8
  have hm8 : b8 ∉ (bx + 1 + 1) :: F := fun m => by
    have h1 := HSZ.out; have h2 := L8.out; have h3 := HB0.out.size; have h4 := HBX.out
    rcases List.mem_cons.1 m with m | m
    · omega
    · have := HF.out _ m; omega
  have hm1 : bx + 1 ∉ (bx + 1 + 1) :: F := fun m => by
    rcases List.mem_cons.1 m with m | m
    · omega
    · exact nx m
  have HH := Lib.hid (show QIn W4.drew q F n M fl from (HI.out.below HB4.out).below (Below.refl _ _).drew)
  have HRR := Lib.hid (show HeldR encMs ((bx + 1 + 1) :: F) W4 (.slice a3 N cap3) M3 from (HN3.out ((bx + 1 + 1) :: F) (fun b hb => by
    have h1 := HSZ.out; have h3 := HB0.out.size; have h4 := HBX.out
    rcases List.mem_cons.1 hb with rfl | hb
    · omega
    · have := HF.out _ hb; omega) (HR.out.step (Kept.of HB0.out) (fun b hb => by
    have h1 := HBX.out
    rcases List.mem_cons.1 hb with rfl | hb
    · exact Or.inr (by omega)
    · exact Or.inl hb))).later HX4.out)
  clear hb4 hW4 hb8
  have hS0 : Kept ((bx + 1 + 1) :: F) W4 W4.drew ∧ W4.drew.cell? ⟨b8, 0, none⟩ = some (.int .i64 n) ∧ W4.drew.cell? ⟨b8, 1, none⟩ = some (.slice a3 N cap3) ∧ W4.drew.cell? ⟨b8, 2, none⟩ = some (.int .u64 f3) ∧ W4.drew.cell? ⟨bx + 1, 1, none⟩ = some (.int .i64 id) ∧ W4.drew.cell? ⟨bx + 1, 5, none⟩ = some (.int .i64 nn) := ⟨Kept.drew (Kept.refl _ _), cell_dr y0, cell_dr y1, cell_dr y2, cell_dr x1, cell_dr x5⟩
  refine wp_region_held_drew (S := fun w' => Kept ((bx + 1 + 1) :: F) W4 w' ∧ w'.cell? ⟨b8, 0, none⟩ = some (.int .i64 n) ∧ w'.cell? ⟨b8, 1, none⟩ = some (.slice a3 N cap3) ∧ w'.cell? ⟨b8, 2, none⟩ = some (.int .u64 f3) ∧ w'.cell? ⟨bx + 1, 1, none⟩ = some (.int .i64 id) ∧ w'.cell? ⟨bx + 1, 5, none⟩ = some (.int .i64 nn)) (by kernel_rfl) hS0 (fun hHeld => ?_)
  refine takeH (i := 0) (v := ?v0_28) rfl (by kernel_rfl) (fun _ _ _ h => h) (by rfl) ?hy0_28 (by assumption) ?rest0_28
  case hy0_28 => (intro w hSw; (try dsimp only at hSw); go_simp; try with_reducible rfl)
  try simp only [Act.put, List.setIfInBounds_toArray, List.set_cons_zero, List.set_cons_succ]
  refine takeH (i := 1) (v := ?v1_29) rfl (by kernel_rfl) (fun _ _ _ h => h) (by rfl) ?hy1_29 (by assumption) ?rest1_29
  case hy1_29 => (intro w hSw; (try dsimp only at hSw); go_simp; try with_reducible rfl)
  try simp only [Act.put, List.setIfInBounds_toArray, List.set_cons_zero, List.set_cons_succ]
  refine takeH (i := 2) (v := ?v2_30) rfl (by kernel_rfl) (fun _ _ _ h => h) (by rfl) ?hy2_30 (by assumption) ?rest2_30
  case hy2_30 => (intro w hSw; (try dsimp only at hSw); go_simp; try with_reducible rfl)
  try simp only [Act.put, List.setIfInBounds_toArray, List.set_cons_zero, List.set_cons_succ]
  refine takeH (i := 3) (v := ?v3_31) rfl (by kernel_rfl) (fun _ _ _ h => h) (by rfl) ?hy3_31 (by assumption) ?rest3_31
  case hy3_31 => (intro w hSw; (try dsimp only at hSw); go_simp; try with_reducible rfl)
  try simp only [Act.put, List.setIfInBounds_toArray, List.set_cons_zero, List.set_cons_succ]
  refine takeH (i := 4) (v := ?v4_32) rfl (by kernel_rfl) (fun _ _ _ h => h) (by rfl) ?hy4_32 (by assumption) ?rest4_32
  case hy4_32 => (intro w hSw; (try dsimp only at hSw); go_simp; try with_reducible rfl)
  try simp only [Act.put, List.setIfInBounds_toArray, List.set_cons_zero, List.set_cons_succ]
  refine takeH (i := 5) (v := ?v5_33) rfl (by kernel_rfl) (fun _ _ _ h => h) (by rfl) ?hy5_33 (by assumption) ?rest5_33
  case hy5_33 => (intro w hSw; (try dsimp only at hSw); go_simp; try with_reducible rfl)
  try simp only [Act.put, List.setIfInBounds_toArray, List.set_cons_zero, List.set_cons_succ]
  refine takeH (i := 7) (v := ?v7_34) rfl (by kernel_rfl) (fun _ _ _ h => h) (by rfl) ?hy7_34 (by assumption) ?rest7_34
  case hy7_34 => (intro w hSw; (try dsimp only at hSw); go_simp; try with_reducible rfl)
  try simp only [Act.put, List.setIfInBounds_toArray, List.set_cons_zero, List.set_cons_succ]
  refine wpAnyH_ready (rs := [6]) (by kernel_rfl) (by simp) ?_
  refine consH rfl (fun K hK => ?_) (AllReadyH.nil)
  go_simp
  refine (Charge_at id nn _ HH.out HID.out).mono ?_
  rintro e w9 ⟨rfl, hA9⟩
  obtain ⟨F9, h9, s9⟩ := hA9
  have hk9 : Kept ((bx + 1 + 1) :: F) W4.drew w9 := s9.kept.mono (fun b hb => by simp [hb])
  replace fr0 := s9.kept.frz fr0 (lt_of_cell r0) nr
  replace fr1 := s9.kept.frz fr1 (lt_of_cell r1) nr
  replace fr2 := s9.kept.frz fr2 (lt_of_cell r2) nr
  replace r0 := s9.cell nr r0
  replace r1 := s9.cell nr r1
  replace r2 := s9.cell nr r2
  have HS9 := Lib.hid s9
  have HH9 := Lib.hid h9
  clear s9 h9
  rw [← HC3.out]
  go_wp2_with fail
  refine hK.out _ _ ?_ (fun hHeld6 => ?_)
  · (first | assumption | (refine heldK_5 (by assumption) ?_ (by assumption) (by assumption) (by assumption) (by assumption) (by assumption) ; assumption) | (refine heldK_5 (Kept.of (below_ad _ _)) ?_ (by assumption) (by assumption) (by assumption) (by assumption) (by assumption) ; assumption) | (refine heldK_5 (Kept.of (below_a _ _)) ?_ (by assumption) (by assumption) (by assumption) (by assumption) (by assumption) ; assumption))
  clear hK K
  try simp only [Act.put, List.setIfInBounds_toArray, List.set_cons_zero, List.set_cons_succ]
  refine takeH (i := 8) (v := ?v8_35) rfl (by kernel_rfl) (fun _ _ _ h => h) (by rfl) ?hy8_35 (by assumption) ?rest8_35
  case hy8_35 => (intro w hSw; (try dsimp only at hSw); go_simp; try with_reducible rfl)
  try simp only [Act.put, List.setIfInBounds_toArray, List.set_cons_zero, List.set_cons_succ]
  refine wpAnyH_ready (rs := [9]) (by kernel_rfl) (by simp) ?_
  refine consH rfl (fun K hK => ?_) (AllReadyH.nil)
  go_simp
  have hk9b : Kept ((bx + 1 + 1) :: F) w9 (((w9.setCell ⟨bx + 1 + 1, 0, none⟩ (.int .i64 n)).setCell ⟨bx + 1 + 1, 1, none⟩ (.slice a3 N cap3)).setCell ⟨bx + 1 + 1, 2, none⟩ (.int .u64 f3)) := ((((Kept.refl _ _).setCell (Or.inl (by simp)) _).setCell (Or.inl (by simp)) _).setCell (Or.inl (by simp)) _)
  have KF : Kept [bx + 1 + 1] w9 (((w9.setCell ⟨bx + 1 + 1, 0, none⟩ (.int .i64 n)).setCell ⟨bx + 1 + 1, 1, none⟩ (.slice a3 N cap3)).setCell ⟨bx + 1 + 1, 2, none⟩ (.int .u64 f3)) := ((((Kept.refl _ _).setCell (Or.inl (by simp)) _).setCell (Or.inl (by simp)) _).setCell (Or.inl (by simp)) _)
  replace r0 : (((w9.setCell ⟨bx + 1 + 1, 0, none⟩ (.int .i64 n)).setCell ⟨bx + 1 + 1, 1, none⟩ (.slice a3 N cap3)).setCell ⟨bx + 1 + 1, 2, none⟩ (.int .u64 f3)).cell? ⟨bx + 1 + 1, 0, none⟩ = some (.int .i64 n) := (cell_set_ne (cell_set_ne (cell_set_eq r0) (Or.inr (by decide))) (Or.inr (by decide)))
  replace r1 : (((w9.setCell ⟨bx + 1 + 1, 0, none⟩ (.int .i64 n)).setCell ⟨bx + 1 + 1, 1, none⟩ (.slice a3 N cap3)).setCell ⟨bx + 1 + 1, 2, none⟩ (.int .u64 f3)).cell? ⟨bx + 1 + 1, 1, none⟩ = some (.slice a3 N cap3) := (cell_set_ne (cell_set_eq (cell_set_ne r1 (Or.inr (by decide)))) (Or.inr (by decide)))
  replace r2 : (((w9.setCell ⟨bx + 1 + 1, 0, none⟩ (.int .i64 n)).setCell ⟨bx + 1 + 1, 1, none⟩ (.slice a3 N cap3)).setCell ⟨bx + 1 + 1, 2, none⟩ (.int .u64 f3)).cell? ⟨bx + 1 + 1, 2, none⟩ = some (.int .u64 f3) := (cell_set_eq (cell_set_ne (cell_set_ne r2 (Or.inr (by decide))) (Or.inr (by decide))))
  obtain ⟨wq, hwq⟩ : ∃ wq, wq = (((w9.setCell ⟨bx + 1 + 1, 0, none⟩ (.int .i64 n)).setCell ⟨bx + 1 + 1, 1, none⟩ (.slice a3 N cap3)).setCell ⟨bx + 1 + 1, 2, none⟩ (.int .u64 f3)) := ⟨_, rfl⟩
  rw [← hwq] at hk9b KF r0 r1 r2 ⊢
  clear hwq
  refine hK.out _ _ ?_ (fun hHeld9 => ?_)
  · (first | assumption | (refine heldK_5 (by assumption) ?_ (by assumption) (by assumption) (by assumption) (by assumption) (by assumption) ; assumption) | (refine heldK_5 (Kept.of (below_ad _ _)) ?_ (by assumption) (by assumption) (by assumption) (by assumption) (by assumption) ; assumption) | (refine heldK_5 (Kept.of (below_a _ _)) ?_ (by assumption) (by assumption) (by assumption) (by assumption) (by assumption) ; assumption))
  clear hK K
  try simp only [Act.put, List.setIfInBounds_toArray, List.set_cons_zero, List.set_cons_succ]
  refine takeH (i := 10) (v := ?v10_36) rfl (by kernel_rfl) (fun _ _ _ h => h) (by rfl) ?hy10_36 (by assumption) ?rest10_36
  case hy10_36 => (intro w hSw; (try dsimp only at hSw); go_simp; try with_reducible rfl)
  try simp only [Act.put, List.setIfInBounds_toArray, List.set_cons_zero, List.set_cons_succ]
  refine wpAnyH_done (by kernel_rfl) ?_ _
  go_wp2_with fail
  refine bodyPost_ret (v := .tuple #[rqV n a3 N cap3 f3, .bool true]) (by simp [results, Try.results30, go_sem, rqV, *]) rfl ?_
  have HR9 := HRR.out
  rw [HN.out] at HR9 ⊢
  exact qact_done HB4.out HF.out (by have := HBX.out; omega) (by have := HSZ.out; have := HB3.out.size; have := HX4.out.size; have := H03.out.size; omega) ((Step.of (Below.refl W4.heap.size W4).drew).trans HS9.out) (by rw [HM3.out, HF3.out]; exact HH9.out) HR9 KF
set_option maxRecDepth 100000 in
set_option maxHeartbeats 4000000 in
theorem act_weigh {q : Nat} {F : List Nat} {n : Int} {M : Mems} {fl : Int} (a : Option Addr) (cap : Nat) (kd id v r g nn : Int) (w : World) (h : QIn w q F n M fl) (hr : HeldR encMs F w (.slice a M.length cap) M) (hk : kd % 8 = 5) (hkd : 0 ≤ kd) (hid : (Lit.int .i64 id).wf = true) (hx : Ch.Fits v r g) (hnn : -9223372036854775808 ≤ nn ∧ nn ≤ 9223372036854775807) :
    Calls Try.prog 30 #[.pointer (some ⟨q, 0, none⟩), .agg #[.int .i64 n, .slice a M.length cap, .int .u64 fl], .agg #[.int .u8 kd, .int .i64 id, .int .u64 v, .int .u32 r, .int .u32 g, .int .i64 nn]] w (QActP w q F n) := by
  have z0 : (kd % 8 == 0) = false := by rw [hk]; rfl
  have z1 : (kd % 8 == 1) = false := by rw [hk]; rfl
  have z2 : (kd % 8 == 2) = false := by rw [hk]; rfl
  have z3 : (kd % 8 == 3) = false := by rw [hk]; rfl
  have z4 : (kd % 8 == 4) = false := by rw [hk]; rfl
  have z5 : (kd % 8 == 5) = true := by rw [hk]; rfl
  have z6 : (kd % 8 == 6) = false := by rw [hk]; rfl
  clear hk
  have HI := Lib.hid h
  have HR := Lib.hid hr
  have HF := Lib.hid h.lt
  have HRM := Lib.hid h.refM
  have HID := Lib.hid hid
  have HX := Lib.hid hx
  have HNN := Lib.hid hnn
  have hfl := h.ids.2.2.2.2.2
  have AE := Lib.hid fun (W : World) (q : HeldR encMs [] W (.slice a M.length cap) M) => rWeigh_any a cap n fl id nn M W q HRM.out HNN.out
  clear h hr hid hx hnn
  obtain ⟨L, hL⟩ : ∃ L, L = M.length := ⟨_, rfl⟩
  have HL := Lib.hid hL
  rw [← hL] at HR AE ⊢
  clear hL
  obtain ⟨W0, hW0⟩ : ∃ W0, W0 = (((w.alloc (.cells #[.int .i64 n, .slice a L cap, .int .u64 fl] 68)).alloc (.cells #[.int .u8 kd, .int .i64 id, .int .u64 v, .int .u32 r, .int .u32 g, .int .i64 nn] 60)).alloc (.cells #[.int .i64 0, .slice none 0 0, .int .u64 0] 68)) := ⟨_, rfl⟩
  have HB0 := Lib.hid (show Below w.heap.size w W0 by rw [hW0]; exact (Below.allocS (Below.allocS (Below.allocS (Below.refl _ _) _) _) _))
  have c0 : W0.cell? ⟨w.heap.size, 0, none⟩ = some (.int .i64 n) := by rw [hW0]; exact cell_al _ (cell_al _ (cell_nwE (by simp) _ _ 0 _ rfl))
  have fc0 : W0.frozen? ⟨w.heap.size, 0, none⟩ = false := by rw [hW0]; exact frz_later (below_a _ _) (frz_later (below_a _ _) (frz_nwE (by simp) _ _ 0) (by first | (simp; done) | (simp; omega))) (by first | (simp; done) | (simp; omega))
  have c1 : W0.cell? ⟨w.heap.size, 1, none⟩ = some (.slice a L cap) := by rw [hW0]; exact cell_al _ (cell_al _ (cell_nwE (by simp) _ _ 1 _ rfl))
  have fc1 : W0.frozen? ⟨w.heap.size, 1, none⟩ = false := by rw [hW0]; exact frz_later (below_a _ _) (frz_later (below_a _ _) (frz_nwE (by simp) _ _ 1) (by first | (simp; done) | (simp; omega))) (by first | (simp; done) | (simp; omega))
  have c2 : W0.cell? ⟨w.heap.size, 2, none⟩ = some (.int .u64 fl) := by rw [hW0]; exact cell_al _ (cell_al _ (cell_nwE (by simp) _ _ 2 _ rfl))
  have fc2 : W0.frozen? ⟨w.heap.size, 2, none⟩ = false := by rw [hW0]; exact frz_later (below_a _ _) (frz_later (below_a _ _) (frz_nwE (by simp) _ _ 2) (by first | (simp; done) | (simp; omega))) (by first | (simp; done) | (simp; omega))
  have x0 : W0.cell? ⟨w.heap.size + 1, 0, none⟩ = some (.int .u8 kd) := by rw [hW0]; exact cell_al _ (cell_nwE (by simp) _ _ 0 _ rfl)
  have fx0 : W0.frozen? ⟨w.heap.size + 1, 0, none⟩ = false := by rw [hW0]; exact frz_later (below_a _ _) (frz_nwE (by simp) _ _ 0) (by first | (simp; done) | (simp; omega))
  have x1 : W0.cell? ⟨w.heap.size + 1, 1, none⟩ = some (.int .i64 id) := by rw [hW0]; exact cell_al _ (cell_nwE (by simp) _ _ 1 _ rfl)
  have fx1 : W0.frozen? ⟨w.heap.size + 1, 1, none⟩ = false := by rw [hW0]; exact frz_later (below_a _ _) (frz_nwE (by simp) _ _ 1) (by first | (simp; done) | (simp; omega))
  have x2 : W0.cell? ⟨w.heap.size + 1, 2, none⟩ = some (.int .u64 v) := by rw [hW0]; exact cell_al _ (cell_nwE (by simp) _ _ 2 _ rfl)
  have fx2 : W0.frozen? ⟨w.heap.size + 1, 2, none⟩ = false := by rw [hW0]; exact frz_later (below_a _ _) (frz_nwE (by simp) _ _ 2) (by first | (simp; done) | (simp; omega))
  have x3 : W0.cell? ⟨w.heap.size + 1, 3, none⟩ = some (.int .u32 r) := by rw [hW0]; exact cell_al _ (cell_nwE (by simp) _ _ 3 _ rfl)
  have fx3 : W0.frozen? ⟨w.heap.size + 1, 3, none⟩ = false := by rw [hW0]; exact frz_later (below_a _ _) (frz_nwE (by simp) _ _ 3) (by first | (simp; done) | (simp; omega))
  have x4 : W0.cell? ⟨w.heap.size + 1, 4, none⟩ = some (.int .u32 g) := by rw [hW0]; exact cell_al _ (cell_nwE (by simp) _ _ 4 _ rfl)
  have fx4 : W0.frozen? ⟨w.heap.size + 1, 4, none⟩ = false := by rw [hW0]; exact frz_later (below_a _ _) (frz_nwE (by simp) _ _ 4) (by first | (simp; done) | (simp; omega))
  have x5 : W0.cell? ⟨w.heap.size + 1, 5, none⟩ = some (.int .i64 nn) := by rw [hW0]; exact cell_al _ (cell_nwE (by simp) _ _ 5 _ rfl)
  have fx5 : W0.frozen? ⟨w.heap.size + 1, 5, none⟩ = false := by rw [hW0]; exact frz_later (below_a _ _) (frz_nwE (by simp) _ _ 5) (by first | (simp; done) | (simp; omega))
  have r0 : W0.cell? ⟨w.heap.size + 1 + 1, 0, none⟩ = some (.int .i64 0) := by rw [hW0]; exact cell_nwE (by simp) _ _ 0 _ rfl
  have fr0 : W0.frozen? ⟨w.heap.size + 1 + 1, 0, none⟩ = false := by rw [hW0]; exact frz_nwE (by simp) _ _ 0
  have r1 : W0.cell? ⟨w.heap.size + 1 + 1, 1, none⟩ = some (.slice none 0 0) := by rw [hW0]; exact cell_nwE (by simp) _ _ 1 _ rfl
  have fr1 : W0.frozen? ⟨w.heap.size + 1 + 1, 1, none⟩ = false := by rw [hW0]; exact frz_nwE (by simp) _ _ 1
  have r2 : W0.cell? ⟨w.heap.size + 1 + 1, 2, none⟩ = some (.int .u64 0) := by rw [hW0]; exact cell_nwE (by simp) _ _ 2 _ rfl
  have fr2 : W0.frozen? ⟨w.heap.size + 1 + 1, 2, none⟩ = false := by rw [hW0]; exact frz_nwE (by simp) _ _ 2
  have HSZ := Lib.hid (show W0.heap.size = w.heap.size + 1 + 1 + 1 by rw [hW0]; simp)
  have HW0 := Lib.hid hW0
  clear hW0
  have nc : w.heap.size ∉ F := fun m => by have := HF.out _ m; omega
  have nx : w.heap.size + 1 ∉ F := fun m => by have := HF.out _ m; omega
  have nr : w.heap.size + 1 + 1 ∉ F := fun m => by have := HF.out _ m; omega
  go_enter Try.func30, Try.ntmps30
  go_wp2_with fail
  rw [← HW0.out]
  generalize hbx : w.heap.size = bx at c0 c1 c2 x0 x1 x2 x3 x4 x5 r0 r1 r2 fc0 fc1 fc2 fx0 fx1 fx2 fx3 fx4 fx5 fr0 fr1 fr2 HSZ nc nx nr ⊢
  have HBX := Lib.hid hbx
  clear hbx HW0
  refine (AE.out W0 ((HR.out.later HB0.out).subM (by simp))).mono ?_
  rintro e w3 ⟨a3, cap3, rfl, hn3, hb3⟩
  unfold rqV
  replace fc0 := frz_later hb3 fc0 (lt_of_cell c0)
  replace fc1 := frz_later hb3 fc1 (lt_of_cell c1)
  replace fc2 := frz_later hb3 fc2 (lt_of_cell c2)
  replace fx0 := frz_later hb3 fx0 (lt_of_cell x0)
  replace fx1 := frz_later hb3 fx1 (lt_of_cell x1)
  replace fx2 := frz_later hb3 fx2 (lt_of_cell x2)
  replace fx3 := frz_later hb3 fx3 (lt_of_cell x3)
  replace fx4 := frz_later hb3 fx4 (lt_of_cell x4)
  replace fx5 := frz_later hb3 fx5 (lt_of_cell x5)
  replace fr0 := frz_later hb3 fr0 (lt_of_cell r0)
  replace fr1 := frz_later hb3 fr1 (lt_of_cell r1)
  replace fr2 := frz_later hb3 fr2 (lt_of_cell r2)
  replace c0 := cell_later hb3 c0
  replace c1 := cell_later hb3 c1
  replace c2 := cell_later hb3 c2
  replace x0 := cell_later hb3 x0
  replace x1 := cell_later hb3 x1
  replace x2 := cell_later hb3 x2
  replace x3 := cell_later hb3 x3
  replace x4 := cell_later hb3 x4
  replace x5 := cell_later hb3 x5
  replace r0 := cell_later hb3 r0
  replace r1 := cell_later hb3 r1
  replace r2 := cell_later hb3 r2
  have HN3 := Lib.hid hn3
  have HB3 := Lib.hid (Below.step HB0.out hb3)
  have H03 := Lib.hid hb3
  obtain ⟨M3, hM3⟩ : ∃ M3, M3 = (chS (decide (wgOk nn)) n M id (wghX nn)) := ⟨_, rfl⟩
  obtain ⟨f3, hf3⟩ : ∃ f3, f3 = (chF (decide (wgOk nn)) n M id (wghX nn) fl) := ⟨_, rfl⟩
  obtain ⟨c3, hc3⟩ : ∃ c3, c3 = (chC (decide (wgOk nn)) n M id) := ⟨_, rfl⟩
  rw [← hM3] at HN3 ⊢
  rw [← hf3, ← hc3]
  have HM3 := Lib.hid hM3
  have HF3 := Lib.hid hf3
  have HC3 := Lib.hid hc3
  obtain ⟨N, hN⟩ : ∃ N, N = M3.length := ⟨_, rfl⟩
  have HN := Lib.hid hN
  rw [← hN] at HN3 ⊢
  clear hn3 hb3 hN hM3 hf3 hc3
  go_wp2_with fail
  obtain ⟨W4, hW4⟩ : ∃ W, W = w3.alloc (.cells #[.int .i64 n, .slice a3 N cap3, .int .u64 f3] 68) := ⟨_, rfl⟩
  rw [← hW4]
  have hb4 : Below w3.heap.size w3 W4 := by rw [hW4]; exact below_a _ _
  have y0 : W4.cell? ⟨w3.heap.size, 0, none⟩ = some (.int .i64 n) := by rw [hW4]; exact cell_nw _ _ _ 0 _ rfl
  have y1 : W4.cell? ⟨w3.heap.size, 1, none⟩ = some (.slice a3 N cap3) := by rw [hW4]; exact cell_nw _ _ _ 1 _ rfl
  have y2 : W4.cell? ⟨w3.heap.size, 2, none⟩ = some (.int .u64 f3) := by rw [hW4]; exact cell_nw _ _ _ 2 _ rfl
  replace fc0 := frz_later hb4 fc0 (lt_of_cell c0)
  replace fc1 := frz_later hb4 fc1 (lt_of_cell c1)
  replace fc2 := frz_later hb4 fc2 (lt_of_cell c2)
  replace fx0 := frz_later hb4 fx0 (lt_of_cell x0)
  replace fx1 := frz_later hb4 fx1 (lt_of_cell x1)
  replace fx2 := frz_later hb4 fx2 (lt_of_cell x2)
  replace fx3 := frz_later hb4 fx3 (lt_of_cell x3)
  replace fx4 := frz_later hb4 fx4 (lt_of_cell x4)
  replace fx5 := frz_later hb4 fx5 (lt_of_cell x5)
  replace fr0 := frz_later hb4 fr0 (lt_of_cell r0)
  replace fr1 := frz_later hb4 fr1 (lt_of_cell r1)
  replace fr2 := frz_later hb4 fr2 (lt_of_cell r2)
  replace c0 := cell_later hb4 c0
  replace c1 := cell_later hb4 c1
  replace c2 := cell_later hb4 c2
  replace x0 := cell_later hb4 x0
  replace x1 := cell_later hb4 x1
  replace x2 := cell_later hb4 x2
  replace x3 := cell_later hb4 x3
  replace x4 := cell_later hb4 x4
  replace x5 := cell_later hb4 x5
  replace r0 := cell_later hb4 r0
  replace r1 := cell_later hb4 r1
  replace r2 := cell_later hb4 r2
  have HB4 := Lib.hid (Below.step HB3.out hb4)
  have HX4 := Lib.hid hb4
  have L8 := Lib.hid (show W0.heap.size ≤ w3.heap.size from H03.out.size)
  generalize hb8 : w3.heap.size = b8 at y0 y1 y2 L8 ⊢
  have HB8 := Lib.hid hb8
  have hm8 : b8 ∉ (bx + 1 + 1) :: F := fun m => by
    have h1 := HSZ.out; have h2 := L8.out; have h3 := HB0.out.size; have h4 := HBX.out
    rcases List.mem_cons.1 m with m | m
    · omega
    · have := HF.out _ m; omega
  have hm1 : bx + 1 ∉ (bx + 1 + 1) :: F := fun m => by
    rcases List.mem_cons.1 m with m | m
    · omega
    · exact nx m
  have HH := Lib.hid (show QIn W4.drew q F n M fl from (HI.out.below HB4.out).below (Below.refl _ _).drew)
  have HRR := Lib.hid (show HeldR encMs ((bx + 1 + 1) :: F) W4 (.slice a3 N cap3) M3 from (HN3.out ((bx + 1 + 1) :: F) (fun b hb => by
    have h1 := HSZ.out; have h3 := HB0.out.size; have h4 := HBX.out
    rcases List.mem_cons.1 hb with rfl | hb
    · omega
    · have := HF.out _ hb; omega) (HR.out.step (Kept.of HB0.out) (fun b hb => by
    have h1 := HBX.out
    rcases List.mem_cons.1 hb with rfl | hb
    · exact Or.inr (by omega)
    · exact Or.inl hb))).later HX4.out)
  clear hb4 hW4 hb8
  have hS0 : Kept ((bx + 1 + 1) :: F) W4 W4.drew ∧ W4.drew.cell? ⟨b8, 0, none⟩ = some (.int .i64 n) ∧ W4.drew.cell? ⟨b8, 1, none⟩ = some (.slice a3 N cap3) ∧ W4.drew.cell? ⟨b8, 2, none⟩ = some (.int .u64 f3) ∧ W4.drew.cell? ⟨bx + 1, 1, none⟩ = some (.int .i64 id) ∧ W4.drew.cell? ⟨bx + 1, 5, none⟩ = some (.int .i64 nn) := ⟨Kept.drew (Kept.refl _ _), cell_dr y0, cell_dr y1, cell_dr y2, cell_dr x1, cell_dr x5⟩
  refine wp_region_held_drew (S := fun w' => Kept ((bx + 1 + 1) :: F) W4 w' ∧ w'.cell? ⟨b8, 0, none⟩ = some (.int .i64 n) ∧ w'.cell? ⟨b8, 1, none⟩ = some (.slice a3 N cap3) ∧ w'.cell? ⟨b8, 2, none⟩ = some (.int .u64 f3) ∧ w'.cell? ⟨bx + 1, 1, none⟩ = some (.int .i64 id) ∧ w'.cell? ⟨bx + 1, 5, none⟩ = some (.int .i64 nn)) (by kernel_rfl) hS0 (fun hHeld => ?_)
  refine takeH (i := 0) (v := ?v0_37) rfl (by kernel_rfl) (fun _ _ _ h => h) (by rfl) ?hy0_37 (by assumption) ?rest0_37
  case hy0_37 => (intro w hSw; (try dsimp only at hSw); go_simp; try with_reducible rfl)
  try simp only [Act.put, List.setIfInBounds_toArray, List.set_cons_zero, List.set_cons_succ]
  refine takeH (i := 1) (v := ?v1_38) rfl (by kernel_rfl) (fun _ _ _ h => h) (by rfl) ?hy1_38 (by assumption) ?rest1_38
  case hy1_38 => (intro w hSw; (try dsimp only at hSw); go_simp; try with_reducible rfl)
  try simp only [Act.put, List.setIfInBounds_toArray, List.set_cons_zero, List.set_cons_succ]
  refine takeH (i := 2) (v := ?v2_39) rfl (by kernel_rfl) (fun _ _ _ h => h) (by rfl) ?hy2_39 (by assumption) ?rest2_39
  case hy2_39 => (intro w hSw; (try dsimp only at hSw); go_simp; try with_reducible rfl)
  try simp only [Act.put, List.setIfInBounds_toArray, List.set_cons_zero, List.set_cons_succ]
  refine takeH (i := 3) (v := ?v3_40) rfl (by kernel_rfl) (fun _ _ _ h => h) (by rfl) ?hy3_40 (by assumption) ?rest3_40
  case hy3_40 => (intro w hSw; (try dsimp only at hSw); go_simp; try with_reducible rfl)
  try simp only [Act.put, List.setIfInBounds_toArray, List.set_cons_zero, List.set_cons_succ]
  refine takeH (i := 4) (v := ?v4_41) rfl (by kernel_rfl) (fun _ _ _ h => h) (by rfl) ?hy4_41 (by assumption) ?rest4_41
  case hy4_41 => (intro w hSw; (try dsimp only at hSw); go_simp; try with_reducible rfl)
  try simp only [Act.put, List.setIfInBounds_toArray, List.set_cons_zero, List.set_cons_succ]
  refine takeH (i := 5) (v := ?v5_42) rfl (by kernel_rfl) (fun _ _ _ h => h) (by rfl) ?hy5_42 (by assumption) ?rest5_42
  case hy5_42 => (intro w hSw; (try dsimp only at hSw); go_simp; try with_reducible rfl)
  try simp only [Act.put, List.setIfInBounds_toArray, List.set_cons_zero, List.set_cons_succ]
  refine takeH (i := 7) (v := ?v7_43) rfl (by kernel_rfl) (fun _ _ _ h => h) (by rfl) ?hy7_43 (by assumption) ?rest7_43
  case hy7_43 => (intro w hSw; (try dsimp only at hSw); go_simp; try with_reducible rfl)
  try simp only [Act.put, List.setIfInBounds_toArray, List.set_cons_zero, List.set_cons_succ]
  refine wpAnyH_ready (rs := [6]) (by kernel_rfl) (by simp) ?_
  refine consH rfl (fun K hK => ?_) (AllReadyH.nil)
  go_simp
  refine (Weigh_at id nn _ HH.out HID.out).mono ?_
  rintro e w9 ⟨rfl, hA9⟩
  obtain ⟨F9, h9, s9⟩ := hA9
  have hk9 : Kept ((bx + 1 + 1) :: F) W4.drew w9 := s9.kept.mono (fun b hb => by simp [hb])
  replace fr0 := s9.kept.frz fr0 (lt_of_cell r0) nr
  replace fr1 := s9.kept.frz fr1 (lt_of_cell r1) nr
  replace fr2 := s9.kept.frz fr2 (lt_of_cell r2) nr
  replace r0 := s9.cell nr r0
  replace r1 := s9.cell nr r1
  replace r2 := s9.cell nr r2
  have HS9 := Lib.hid s9
  have HH9 := Lib.hid h9
  clear s9 h9
  rw [← HC3.out]
  go_wp2_with fail
  refine hK.out _ _ ?_ (fun hHeld6 => ?_)
  · (first | assumption | (refine heldK_5 (by assumption) ?_ (by assumption) (by assumption) (by assumption) (by assumption) (by assumption) ; assumption) | (refine heldK_5 (Kept.of (below_ad _ _)) ?_ (by assumption) (by assumption) (by assumption) (by assumption) (by assumption) ; assumption) | (refine heldK_5 (Kept.of (below_a _ _)) ?_ (by assumption) (by assumption) (by assumption) (by assumption) (by assumption) ; assumption))
  clear hK K
  try simp only [Act.put, List.setIfInBounds_toArray, List.set_cons_zero, List.set_cons_succ]
  refine takeH (i := 8) (v := ?v8_44) rfl (by kernel_rfl) (fun _ _ _ h => h) (by rfl) ?hy8_44 (by assumption) ?rest8_44
  case hy8_44 => (intro w hSw; (try dsimp only at hSw); go_simp; try with_reducible rfl)
  try simp only [Act.put, List.setIfInBounds_toArray, List.set_cons_zero, List.set_cons_succ]
  refine wpAnyH_ready (rs := [9]) (by kernel_rfl) (by simp) ?_
  refine consH rfl (fun K hK => ?_) (AllReadyH.nil)
  go_simp
  have hk9b : Kept ((bx + 1 + 1) :: F) w9 (((w9.setCell ⟨bx + 1 + 1, 0, none⟩ (.int .i64 n)).setCell ⟨bx + 1 + 1, 1, none⟩ (.slice a3 N cap3)).setCell ⟨bx + 1 + 1, 2, none⟩ (.int .u64 f3)) := ((((Kept.refl _ _).setCell (Or.inl (by simp)) _).setCell (Or.inl (by simp)) _).setCell (Or.inl (by simp)) _)
  have KF : Kept [bx + 1 + 1] w9 (((w9.setCell ⟨bx + 1 + 1, 0, none⟩ (.int .i64 n)).setCell ⟨bx + 1 + 1, 1, none⟩ (.slice a3 N cap3)).setCell ⟨bx + 1 + 1, 2, none⟩ (.int .u64 f3)) := ((((Kept.refl _ _).setCell (Or.inl (by simp)) _).setCell (Or.inl (by simp)) _).setCell (Or.inl (by simp)) _)
  replace r0 : (((w9.setCell ⟨bx + 1 + 1, 0, none⟩ (.int .i64 n)).setCell ⟨bx + 1 + 1, 1, none⟩ (.slice a3 N cap3)).setCell ⟨bx + 1 + 1, 2, none⟩ (.int .u64 f3)).cell? ⟨bx + 1 + 1, 0, none⟩ = some (.int .i64 n) := (cell_set_ne (cell_set_ne (cell_set_eq r0) (Or.inr (by decide))) (Or.inr (by decide)))
  replace r1 : (((w9.setCell ⟨bx + 1 + 1, 0, none⟩ (.int .i64 n)).setCell ⟨bx + 1 + 1, 1, none⟩ (.slice a3 N cap3)).setCell ⟨bx + 1 + 1, 2, none⟩ (.int .u64 f3)).cell? ⟨bx + 1 + 1, 1, none⟩ = some (.slice a3 N cap3) := (cell_set_ne (cell_set_eq (cell_set_ne r1 (Or.inr (by decide)))) (Or.inr (by decide)))
  replace r2 : (((w9.setCell ⟨bx + 1 + 1, 0, none⟩ (.int .i64 n)).setCell ⟨bx + 1 + 1, 1, none⟩ (.slice a3 N cap3)).setCell ⟨bx + 1 + 1, 2, none⟩ (.int .u64 f3)).cell? ⟨bx + 1 + 1, 2, none⟩ = some (.int .u64 f3) := (cell_set_eq (cell_set_ne (cell_set_ne r2 (Or.inr (by decide))) (Or.inr (by decide))))
  obtain ⟨wq, hwq⟩ : ∃ wq, wq = (((w9.setCell ⟨bx + 1 + 1, 0, none⟩ (.int .i64 n)).setCell ⟨bx + 1 + 1, 1, none⟩ (.slice a3 N cap3)).setCell ⟨bx + 1 + 1, 2, none⟩ (.int .u64 f3)) := ⟨_, rfl⟩
  rw [← hwq] at hk9b KF r0 r1 r2 ⊢
  clear hwq
  refine hK.out _ _ ?_ (fun hHeld9 => ?_)
  · (first | assumption | (refine heldK_5 (by assumption) ?_ (by assumption) (by assumption) (by assumption) (by assumption) (by assumption) ; assumption) | (refine heldK_5 (Kept.of (below_ad _ _)) ?_ (by assumption) (by assumption) (by assumption) (by assumption) (by assumption) ; assumption) | (refine heldK_5 (Kept.of (below_a _ _)) ?_ (by assumption) (by assumption) (by assumption) (by assumption) (by assumption) ; assumption))
  clear hK K
  try simp only [Act.put, List.setIfInBounds_toArray, List.set_cons_zero, List.set_cons_succ]
  refine takeH (i := 10) (v := ?v10_45) rfl (by kernel_rfl) (fun _ _ _ h => h) (by rfl) ?hy10_45 (by assumption) ?rest10_45
  case hy10_45 => (intro w hSw; (try dsimp only at hSw); go_simp; try with_reducible rfl)
  try simp only [Act.put, List.setIfInBounds_toArray, List.set_cons_zero, List.set_cons_succ]
  refine wpAnyH_done (by kernel_rfl) ?_ _
  go_wp2_with fail
  refine bodyPost_ret (v := .tuple #[rqV n a3 N cap3 f3, .bool true]) (by simp [results, Try.results30, go_sem, rqV, *]) rfl ?_
  have HR9 := HRR.out
  rw [HN.out] at HR9 ⊢
  exact qact_done HB4.out HF.out (by have := HBX.out; omega) (by have := HSZ.out; have := HB3.out.size; have := HX4.out.size; have := H03.out.size; omega) ((Step.of (Below.refl W4.heap.size W4).drew).trans HS9.out) (by rw [HM3.out, HF3.out]; exact HH9.out) HR9 KF
end Go.Proofs.Ytekjakmeopolhaa
namespace Go.Proofs.Ytekjakmeopolhaa
open Go.RowKit Go.Maps Go.IntWalk Go.Lib
set_option linter.unusedVariables false
set_option linter.unusedSimpArgs false
theorem eqIn_rentity (D : Nat) (w : World) (b c d b' c' d' : Int) : (Op.equalIn (D + 3) 99 (.agg #[.int .u64 b, .int .u32 c, .int .u32 d]) (.agg #[.int .u64 b', .int .u32 c', .int .u32 d'])).run Try.prog w = .ok (eq3 b c d b' c' d') w := by
  rw [run_equalIn_agg w (D + 2) _ _ _ (by kernel_rfl) (by kernel_rfl)]
  simp [go_sem, Try.underlying99]
  unfold eq3
  by_cases h1 : b = b' <;> by_cases h2 : c = c' <;> by_cases h3 : d = d' <;> simp [h1, h2, h3]
@[go_sem] theorem eg_rentity : Try.prog.eqGuardType Try.prog.depth 99 = false := by kernel_rfl
@[go_sem high] theorem run_eql_rentity (w : World) (b c d b' c' d' : Int) : (binOp .eql 99 (.agg #[.int .u64 b, .int .u32 c, .int .u32 d]) (.agg #[.int .u64 b', .int .u32 c', .int .u32 d'])).run Try.prog w = .ok (.bool (eq3 b c d b' c' d')) w := by
  rw [run_eql_struct, eqIn_rentity 9997]
  rfl
@[go_sem high] theorem run_neq_rentity (w : World) (b c d b' c' d' : Int) : (binOp .neq 99 (.agg #[.int .u64 b, .int .u32 c, .int .u32 d]) (.agg #[.int .u64 b', .int .u32 c', .int .u32 d'])).run Try.prog w = .ok (.bool (!(eq3 b c d b' c' d'))) w := by
  rw [run_neq_struct, eqIn_rentity 9997]
  rfl
theorem eq3_self (b c d : Int) : eq3 b c d b c d = true := by simp [eq3]
set_option maxRecDepth 100000 in
set_option maxHeartbeats 4000000 in
theorem act_leave {q : Nat} {F : List Nat} {n : Int} {M : Mems} {fl : Int} (a : Option Addr) (cap : Nat) (kd id v r g nn : Int) (w : World) (h : QIn w q F n M fl) (hr : HeldR encMs F w (.slice a M.length cap) M) (hk : kd % 8 = 2) (hkd : 0 ≤ kd) (hid : (Lit.int .i64 id).wf = true) (hx : Ch.Fits v r g) (hnn : -9223372036854775808 ≤ nn ∧ nn ≤ 9223372036854775807) :
    Calls Try.prog 30 #[.pointer (some ⟨q, 0, none⟩), .agg #[.int .i64 n, .slice a M.length cap, .int .u64 fl], .agg #[.int .u8 kd, .int .i64 id, .int .u64 v, .int .u32 r, .int .u32 g, .int .i64 nn]] w (QActP w q F n) := by
  have z0 : (kd % 8 == 0) = false := by rw [hk]; rfl
  have z1 : (kd % 8 == 1) = false := by rw [hk]; rfl
  have z2 : (kd % 8 == 2) = true := by rw [hk]; rfl
  have z3 : (kd % 8 == 3) = false := by rw [hk]; rfl
  have z4 : (kd % 8 == 4) = false := by rw [hk]; rfl
  have z5 : (kd % 8 == 5) = false := by rw [hk]; rfl
  have z6 : (kd % 8 == 6) = false := by rw [hk]; rfl
  clear hk
  have HI := Lib.hid h
  have HR := Lib.hid hr
  have HF := Lib.hid h.lt
  have HRM := Lib.hid h.refM
  have HID := Lib.hid hid
  have HX := Lib.hid hx
  have HNN := Lib.hid hnn
  have hfl := h.ids.2.2.2.2.2
  have AE := Lib.hid fun (W : World) (q : HeldR encMs [] W (.slice a M.length cap) M) => rLeave_any a cap n fl id M W q HRM.out
  clear h hr hid hx hnn
  obtain ⟨L, hL⟩ : ∃ L, L = M.length := ⟨_, rfl⟩
  have HL := Lib.hid hL
  rw [← hL] at HR AE ⊢
  clear hL
  obtain ⟨W0, hW0⟩ : ∃ W0, W0 = (((w.alloc (.cells #[.int .i64 n, .slice a L cap, .int .u64 fl] 68)).alloc (.cells #[.int .u8 kd, .int .i64 id, .int .u64 v, .int .u32 r, .int .u32 g, .int .i64 nn] 60)).alloc (.cells #[.int .i64 0, .slice none 0 0, .int .u64 0] 68)) := ⟨_, rfl⟩
  have HB0 := Lib.hid (show Below w.heap.size w W0 by rw [hW0]; exact (Below.allocS (Below.allocS (Below.allocS (Below.refl _ _) _) _) _))
  have c0 : W0.cell? ⟨w.heap.size, 0, none⟩ = some (.int .i64 n) := by rw [hW0]; exact cell_al _ (cell_al _ (cell_nwE (by simp) _ _ 0 _ rfl))
  have fc0 : W0.frozen? ⟨w.heap.size, 0, none⟩ = false := by rw [hW0]; exact frz_later (below_a _ _) (frz_later (below_a _ _) (frz_nwE (by simp) _ _ 0) (by first | (simp; done) | (simp; omega))) (by first | (simp; done) | (simp; omega))
  have c1 : W0.cell? ⟨w.heap.size, 1, none⟩ = some (.slice a L cap) := by rw [hW0]; exact cell_al _ (cell_al _ (cell_nwE (by simp) _ _ 1 _ rfl))
  have fc1 : W0.frozen? ⟨w.heap.size, 1, none⟩ = false := by rw [hW0]; exact frz_later (below_a _ _) (frz_later (below_a _ _) (frz_nwE (by simp) _ _ 1) (by first | (simp; done) | (simp; omega))) (by first | (simp; done) | (simp; omega))
  have c2 : W0.cell? ⟨w.heap.size, 2, none⟩ = some (.int .u64 fl) := by rw [hW0]; exact cell_al _ (cell_al _ (cell_nwE (by simp) _ _ 2 _ rfl))
  have fc2 : W0.frozen? ⟨w.heap.size, 2, none⟩ = false := by rw [hW0]; exact frz_later (below_a _ _) (frz_later (below_a _ _) (frz_nwE (by simp) _ _ 2) (by first | (simp; done) | (simp; omega))) (by first | (simp; done) | (simp; omega))
  have x0 : W0.cell? ⟨w.heap.size + 1, 0, none⟩ = some (.int .u8 kd) := by rw [hW0]; exact cell_al _ (cell_nwE (by simp) _ _ 0 _ rfl)
  have fx0 : W0.frozen? ⟨w.heap.size + 1, 0, none⟩ = false := by rw [hW0]; exact frz_later (below_a _ _) (frz_nwE (by simp) _ _ 0) (by first | (simp; done) | (simp; omega))
  have x1 : W0.cell? ⟨w.heap.size + 1, 1, none⟩ = some (.int .i64 id) := by rw [hW0]; exact cell_al _ (cell_nwE (by simp) _ _ 1 _ rfl)
  have fx1 : W0.frozen? ⟨w.heap.size + 1, 1, none⟩ = false := by rw [hW0]; exact frz_later (below_a _ _) (frz_nwE (by simp) _ _ 1) (by first | (simp; done) | (simp; omega))
  have x2 : W0.cell? ⟨w.heap.size + 1, 2, none⟩ = some (.int .u64 v) := by rw [hW0]; exact cell_al _ (cell_nwE (by simp) _ _ 2 _ rfl)
  have fx2 : W0.frozen? ⟨w.heap.size + 1, 2, none⟩ = false := by rw [hW0]; exact frz_later (below_a _ _) (frz_nwE (by simp) _ _ 2) (by first | (simp; done) | (simp; omega))
  have x3 : W0.cell? ⟨w.heap.size + 1, 3, none⟩ = some (.int .u32 r) := by rw [hW0]; exact cell_al _ (cell_nwE (by simp) _ _ 3 _ rfl)
  have fx3 : W0.frozen? ⟨w.heap.size + 1, 3, none⟩ = false := by rw [hW0]; exact frz_later (below_a _ _) (frz_nwE (by simp) _ _ 3) (by first | (simp; done) | (simp; omega))
  have x4 : W0.cell? ⟨w.heap.size + 1, 4, none⟩ = some (.int .u32 g) := by rw [hW0]; exact cell_al _ (cell_nwE (by simp) _ _ 4 _ rfl)
  have fx4 : W0.frozen? ⟨w.heap.size + 1, 4, none⟩ = false := by rw [hW0]; exact frz_later (below_a _ _) (frz_nwE (by simp) _ _ 4) (by first | (simp; done) | (simp; omega))
  have x5 : W0.cell? ⟨w.heap.size + 1, 5, none⟩ = some (.int .i64 nn) := by rw [hW0]; exact cell_al _ (cell_nwE (by simp) _ _ 5 _ rfl)
  have fx5 : W0.frozen? ⟨w.heap.size + 1, 5, none⟩ = false := by rw [hW0]; exact frz_later (below_a _ _) (frz_nwE (by simp) _ _ 5) (by first | (simp; done) | (simp; omega))
  have r0 : W0.cell? ⟨w.heap.size + 1 + 1, 0, none⟩ = some (.int .i64 0) := by rw [hW0]; exact cell_nwE (by simp) _ _ 0 _ rfl
  have fr0 : W0.frozen? ⟨w.heap.size + 1 + 1, 0, none⟩ = false := by rw [hW0]; exact frz_nwE (by simp) _ _ 0
  have r1 : W0.cell? ⟨w.heap.size + 1 + 1, 1, none⟩ = some (.slice none 0 0) := by rw [hW0]; exact cell_nwE (by simp) _ _ 1 _ rfl
  have fr1 : W0.frozen? ⟨w.heap.size + 1 + 1, 1, none⟩ = false := by rw [hW0]; exact frz_nwE (by simp) _ _ 1
  have r2 : W0.cell? ⟨w.heap.size + 1 + 1, 2, none⟩ = some (.int .u64 0) := by rw [hW0]; exact cell_nwE (by simp) _ _ 2 _ rfl
  have fr2 : W0.frozen? ⟨w.heap.size + 1 + 1, 2, none⟩ = false := by rw [hW0]; exact frz_nwE (by simp) _ _ 2
  have HSZ := Lib.hid (show W0.heap.size = w.heap.size + 1 + 1 + 1 by rw [hW0]; simp)
  have HW0 := Lib.hid hW0
  clear hW0
  have nc : w.heap.size ∉ F := fun m => by have := HF.out _ m; omega
  have nx : w.heap.size + 1 ∉ F := fun m => by have := HF.out _ m; omega
  have nr : w.heap.size + 1 + 1 ∉ F := fun m => by have := HF.out _ m; omega
  go_enter Try.func30, Try.ntmps30
  go_wp2_with fail
  rw [← HW0.out]
  generalize hbx : w.heap.size = bx at c0 c1 c2 x0 x1 x2 x3 x4 x5 r0 r1 r2 fc0 fc1 fc2 fx0 fx1 fx2 fx3 fx4 fx5 fr0 fr1 fr2 HSZ nc nx nr ⊢
  have HBX := Lib.hid hbx
  clear hbx HW0
  refine (AE.out W0 ((HR.out.later HB0.out).subM (by simp))).mono ?_
  rintro e w3 ⟨a3, cap3, rfl, hn3, hb3⟩
  unfold rqV
  replace fc0 := frz_later hb3 fc0 (lt_of_cell c0)
  replace fc1 := frz_later hb3 fc1 (lt_of_cell c1)
  replace fc2 := frz_later hb3 fc2 (lt_of_cell c2)
  replace fx0 := frz_later hb3 fx0 (lt_of_cell x0)
  replace fx1 := frz_later hb3 fx1 (lt_of_cell x1)
  replace fx2 := frz_later hb3 fx2 (lt_of_cell x2)
  replace fx3 := frz_later hb3 fx3 (lt_of_cell x3)
  replace fx4 := frz_later hb3 fx4 (lt_of_cell x4)
  replace fx5 := frz_later hb3 fx5 (lt_of_cell x5)
  replace fr0 := frz_later hb3 fr0 (lt_of_cell r0)
  replace fr1 := frz_later hb3 fr1 (lt_of_cell r1)
  replace fr2 := frz_later hb3 fr2 (lt_of_cell r2)
  replace c0 := cell_later hb3 c0
  replace c1 := cell_later hb3 c1
  replace c2 := cell_later hb3 c2
  replace x0 := cell_later hb3 x0
  replace x1 := cell_later hb3 x1
  replace x2 := cell_later hb3 x2
  replace x3 := cell_later hb3 x3
  replace x4 := cell_later hb3 x4
  replace x5 := cell_later hb3 x5
  replace r0 := cell_later hb3 r0
  replace r1 := cell_later hb3 r1
  replace r2 := cell_later hb3 r2
  have HN3 := Lib.hid hn3
  have HB3 := Lib.hid (Below.step HB0.out hb3)
  have H03 := Lib.hid hb3
  obtain ⟨M3, hM3⟩ : ∃ M3, M3 = leaveM n M id := ⟨_, rfl⟩
  obtain ⟨f3, hf3⟩ : ∃ f3, f3 = leaveF n M id fl := ⟨_, rfl⟩
  obtain ⟨c3, hc3⟩ : ∃ c3, c3 = leaveC n M id := ⟨_, rfl⟩
  obtain ⟨xe, hxe⟩ : ∃ xe, xe = leaveE n M id := ⟨_, rfl⟩
  rw [← hM3] at HN3 ⊢
  rw [← hf3, ← hc3, ← hxe]
  have HM3 := Lib.hid hM3
  have HF3 := Lib.hid hf3
  have HC3 := Lib.hid hc3
  have HX3 := Lib.hid hxe
  obtain ⟨N, hN⟩ : ∃ N, N = M3.length := ⟨_, rfl⟩
  have HN := Lib.hid hN
  rw [← hN] at HN3 ⊢
  clear hn3 hb3 hN hM3 hf3 hc3 hxe
  have x1b : ((w3.alloc (.cells #[.int .i64 n, .slice a3 N cap3, .int .u64 f3] 68)).alloc (.cells #[.int .u64 xe.1, .int .u32 xe.2.1, .int .u32 xe.2.2] 99)).cell? ⟨bx + 1, 1, none⟩ = some (.int .i64 id) := cell_al _ (cell_al _ x1)
  go_wp2_with fail
  clear x1b
  obtain ⟨W4, hW4⟩ : ∃ W, W = (w3.alloc (.cells #[.int .i64 n, .slice a3 N cap3, .int .u64 f3] 68)).alloc (.cells #[.int .u64 xe.1, .int .u32 xe.2.1, .int .u32 xe.2.2] 99) := ⟨_, rfl⟩
  rw [← hW4]
  have hb4 : Below w3.heap.size w3 W4 := by rw [hW4]; exact Below.allocS (below_a _ _) _
  have y0 : W4.cell? ⟨w3.heap.size, 0, none⟩ = some (.int .i64 n) := by rw [hW4]; exact cell_al _ (cell_nw _ _ _ 0 _ rfl)
  have y1 : W4.cell? ⟨w3.heap.size, 1, none⟩ = some (.slice a3 N cap3) := by rw [hW4]; exact cell_al _ (cell_nw _ _ _ 1 _ rfl)
  have y2 : W4.cell? ⟨w3.heap.size, 2, none⟩ = some (.int .u64 f3) := by rw [hW4]; exact cell_al _ (cell_nw _ _ _ 2 _ rfl)
  have p0 : W4.cell? ⟨w3.heap.size + 1, 0, none⟩ = some (.int .u64 xe.1) := by rw [hW4]; exact cell_nwE (by simp) _ _ 0 _ rfl
  have p1 : W4.cell? ⟨w3.heap.size + 1, 1, none⟩ = some (.int .u32 xe.2.1) := by rw [hW4]; exact cell_nwE (by simp) _ _ 1 _ rfl
  have p2 : W4.cell? ⟨w3.heap.size + 1, 2, none⟩ = some (.int .u32 xe.2.2) := by rw [hW4]; exact cell_nwE (by simp) _ _ 2 _ rfl
  replace fc0 := frz_later hb4 fc0 (lt_of_cell c0)
  replace fc1 := frz_later hb4 fc1 (lt_of_cell c1)
  replace fc2 := frz_later hb4 fc2 (lt_of_cell c2)
  replace fx0 := frz_later hb4 fx0 (lt_of_cell x0)
  replace fx1 := frz_later hb4 fx1 (lt_of_cell x1)
  replace fx2 := frz_later hb4 fx2 (lt_of_cell x2)
  replace fx3 := frz_later hb4 fx3 (lt_of_cell x3)
  replace fx4 := frz_later hb4 fx4 (lt_of_cell x4)
  replace fx5 := frz_later hb4 fx5 (lt_of_cell x5)
  replace fr0 := frz_later hb4 fr0 (lt_of_cell r0)
  replace fr1 := frz_later hb4 fr1 (lt_of_cell r1)
  replace fr2 := frz_later hb4 fr2 (lt_of_cell r2)
  replace c0 := cell_later hb4 c0
  replace c1 := cell_later hb4 c1
  replace c2 := cell_later hb4 c2
  replace x0 := cell_later hb4 x0
  replace x1 := cell_later hb4 x1
  replace x2 := cell_later hb4 x2
  replace x3 := cell_later hb4 x3
  replace x4 := cell_later hb4 x4
  replace x5 := cell_later hb4 x5
  replace r0 := cell_later hb4 r0
  replace r1 := cell_later hb4 r1
  replace r2 := cell_later hb4 r2
  have HB4 := Lib.hid (Below.step HB3.out hb4)
  have HX4 := Lib.hid hb4
  have L8 := Lib.hid (show W0.heap.size ≤ w3.heap.size from H03.out.size)
  generalize hb8 : w3.heap.size = b8 at y0 y1 y2 p0 p1 p2 L8 ⊢
  have m8 : b8 ∉ F := fun m => by have := HF.out _ m; have h1 := HSZ.out; have h2 := L8.out; have h4 := HBX.out; omega
  have m9 : b8 + 1 ∉ F := fun m => by have := HF.out _ m; have h1 := HSZ.out; have h2 := L8.out; have h4 := HBX.out; omega
  have HH := Lib.hid (show QIn W4 q F n M fl from HI.out.below HB4.out)
  have HRR := Lib.hid (show HeldR encMs ((bx + 1 + 1) :: F) W4 (.slice a3 N cap3) M3 from (HN3.out ((bx + 1 + 1) :: F) (fun b hb => by
    have h1 := HSZ.out; have h3 := HB0.out.size; have h4 := HBX.out
    rcases List.mem_cons.1 hb with rfl | hb
    · omega
    · have := HF.out _ hb; omega) (HR.out.step (Kept.of HB0.out) (fun b hb => by
    have h1 := HBX.out
    rcases List.mem_cons.1 hb with rfl | hb
    · exact Or.inr (by omega)
    · exact Or.inl hb))).later HX4.out)
  clear hb4 hW4 hb8
  refine (Leave_at id W4 HH.out HID.out).mono ?_
  rintro e w9 ⟨rfl, hA9⟩
  obtain ⟨F9, h9, s9⟩ := hA9
  rw [← HC3.out, ← HX3.out]
  replace fr0 := s9.kept.frz fr0 (lt_of_cell r0) nr
  replace fr1 := s9.kept.frz fr1 (lt_of_cell r1) nr
  replace fr2 := s9.kept.frz fr2 (lt_of_cell r2) nr
  replace r0 := s9.cell nr r0
  replace r1 := s9.cell nr r1
  replace r2 := s9.cell nr r2
  replace y0 := s9.cell m8 y0
  replace y1 := s9.cell m8 y1
  replace y2 := s9.cell m8 y2
  replace p0 := s9.cell m9 p0
  replace p1 := s9.cell m9 p1
  replace p2 := s9.cell m9 p2
  have HS9 := Lib.hid s9
  have HH9 := Lib.hid h9
  have HZ9 := Lib.hid s9.kept.size
  clear s9 h9
  go_wp2_with fail
  obtain ⟨W5, hW5⟩ : ∃ W, W = w9.alloc (.cells #[.int .u64 xe.1, .int .u32 xe.2.1, .int .u32 xe.2.2] 32) := ⟨_, rfl⟩
  rw [← hW5]
  have hb5 : Below w9.heap.size w9 W5 := by rw [hW5]; exact below_a _ _
  have t0 : W5.cell? ⟨w9.heap.size, 0, none⟩ = some (.int .u64 xe.1) := by rw [hW5]; exact cell_nw _ _ _ 0 _ rfl
  have t1 : W5.cell? ⟨w9.heap.size, 1, none⟩ = some (.int .u32 xe.2.1) := by rw [hW5]; exact cell_nw _ _ _ 1 _ rfl
  have t2 : W5.cell? ⟨w9.heap.size, 2, none⟩ = some (.int .u32 xe.2.2) := by rw [hW5]; exact cell_nw _ _ _ 2 _ rfl
  replace fr0 := frz_later hb5 fr0 (lt_of_cell r0)
  replace fr1 := frz_later hb5 fr1 (lt_of_cell r1)
  replace fr2 := frz_later hb5 fr2 (lt_of_cell r2)
  replace r0 := cell_later hb5 r0
  replace r1 := cell_later hb5 r1
  replace r2 := cell_later hb5 r2
  replace y0 := cell_later hb5 y0
  replace y1 := cell_later hb5 y1
  replace y2 := cell_later hb5 y2
  replace p0 := cell_later hb5 p0
  replace p1 := cell_later hb5 p1
  replace p2 := cell_later hb5 p2
  have HS5 := Lib.hid (HS9.out.trans (Step.of hb5))
  have HH5 := Lib.hid (HH9.out.below hb5)
  have HL4 := Lib.hid (show bx + 1 + 1 < W4.heap.size by have := HSZ.out; have := H03.out.size; have := HX4.out.size; omega)
  generalize hb9 : w9.heap.size = b9 at t0 t1 t2 HZ9 ⊢
  have k8 : b8 ∉ [bx + 1 + 1] := fun m => by simp at m; have h1 := HSZ.out; have h2 := L8.out; omega
  have k9 : b8 + 1 ∉ [bx + 1 + 1] := fun m => by simp at m; have h1 := HSZ.out; have h2 := L8.out; omega
  have k10 : b9 ∉ [bx + 1 + 1] := fun m => by simp at m; have h1 := HL4.out; have h2 := HZ9.out; omega
  have zq := eq3_self xe.1 xe.2.1 xe.2.2
  clear hb5 hW5 hb9
  have hS0 : Kept [bx + 1 + 1] W5 W5.drew ∧ W5.drew.cell? ⟨b8, 0, none⟩ = some (.int .i64 n) ∧ W5.drew.cell? ⟨b8, 1, none⟩ = some (.slice a3 N cap3) ∧ W5.drew.cell? ⟨b8, 2, none⟩ = some (.int .u64 f3) ∧ W5.drew.cell? ⟨b8 + 1, 0, none⟩ = some (.int .u64 xe.1) ∧ W5.drew.cell? ⟨b8 + 1, 1, none⟩ = some (.int .u32 xe.2.1) ∧ W5.drew.cell? ⟨b8 + 1, 2, none⟩ = some (.int .u32 xe.2.2) ∧ W5.drew.cell? ⟨b9, 0, none⟩ = some (.int .u64 xe.1) ∧ W5.drew.cell? ⟨b9, 1, none⟩ = some (.int .u32 xe.2.1) ∧ W5.drew.cell? ⟨b9, 2, none⟩ = some (.int .u32 xe.2.2) := ⟨Kept.drew (Kept.refl _ _), cell_dr y0, cell_dr y1, cell_dr y2, cell_dr p0, cell_dr p1, cell_dr p2, cell_dr t0, cell_dr t1, cell_dr t2⟩
  refine wp_region_held_drew (S := fun w' => Kept [bx + 1 + 1] W5 w' ∧ w'.cell? ⟨b8, 0, none⟩ = some (.int .i64 n) ∧ w'.cell? ⟨b8, 1, none⟩ = some (.slice a3 N cap3) ∧ w'.cell? ⟨b8, 2, none⟩ = some (.int .u64 f3) ∧ w'.cell? ⟨b8 + 1, 0, none⟩ = some (.int .u64 xe.1) ∧ w'.cell? ⟨b8 + 1, 1, none⟩ = some (.int .u32 xe.2.1) ∧ w'.cell? ⟨b8 + 1, 2, none⟩ = some (.int .u32 xe.2.2) ∧ w'.cell? ⟨b9, 0, none⟩ = some (.int .u64 xe.1) ∧ w'.cell? ⟨b9, 1, none⟩ = some (.int .u32 xe.2.1) ∧ w'.cell? ⟨b9, 2, none⟩ = some (.int .u32 xe.2.2)) (by kernel_rfl) hS0 (fun hHeld => ?_)
  refine takeH (i := 0) (v := ?v0_1) rfl (by kernel_rfl) (fun _ _ _ h => h) (by rfl) ?hy0_1 (by assumption) ?rest0_1
  case hy0_1 => (intro w hSw; (try dsimp only at hSw); go_simp; try with_reducible rfl)
  try simp only [Act.put, List.setIfInBounds_toArray, List.set_cons_zero, List.set_cons_succ]
  refine takeH (i := 1) (v := ?v1_2) rfl (by kernel_rfl) (fun _ _ _ h => h) (by rfl) ?hy1_2 (by assumption) ?rest1_2
  case hy1_2 => (intro w hSw; (try dsimp only at hSw); go_simp; try with_reducible rfl)
  try simp only [Act.put, List.setIfInBounds_toArray, List.set_cons_zero, List.set_cons_succ]
  refine takeH (i := 2) (v := ?v2_3) rfl (by kernel_rfl) (fun _ _ _ h => h) (by rfl) ?hy2_3 (by assumption) ?rest2_3
  case hy2_3 => (intro w hSw; (try dsimp only at hSw); go_simp; try with_reducible rfl)
  try simp only [Act.put, List.setIfInBounds_toArray, List.set_cons_zero, List.set_cons_succ]
  refine takeH (i := 3) (v := ?v3_4) rfl (by kernel_rfl) (fun _ _ _ h => h) (by rfl) ?hy3_4 (by assumption) ?rest3_4
  case hy3_4 => (intro w hSw; (try dsimp only at hSw); go_simp; try with_reducible rfl)
  try simp only [Act.put, List.setIfInBounds_toArray, List.set_cons_zero, List.set_cons_succ]
  refine takeH (i := 4) (v := ?v4_5) rfl (by kernel_rfl) (fun _ _ _ h => h) (by rfl) ?hy4_5 (by assumption) ?rest4_5
  case hy4_5 => (intro w hSw; (try dsimp only at hSw); go_simp; try with_reducible rfl)
  try simp only [Act.put, List.setIfInBounds_toArray, List.set_cons_zero, List.set_cons_succ]
  refine takeH (i := 5) (v := ?v5_6) rfl (by kernel_rfl) (fun _ _ _ h => h) (by rfl) ?hy5_6 (by assumption) ?rest5_6
  case hy5_6 => (intro w hSw; (try dsimp only at hSw); go_simp; try with_reducible rfl)
  try simp only [Act.put, List.setIfInBounds_toArray, List.set_cons_zero, List.set_cons_succ]
  refine takeH (i := 6) (v := ?v6_7) rfl (by kernel_rfl) (fun _ _ _ h => h) (by rfl) ?hy6_7 (by assumption) ?rest6_7
  case hy6_7 => (intro w hSw; (try dsimp only at hSw); go_simp; try with_reducible rfl)
  try simp only [Act.put, List.setIfInBounds_toArray, List.set_cons_zero, List.set_cons_succ]
  refine takeH (i := 7) (v := ?v7_8) rfl (by kernel_rfl) (fun _ _ _ h => h) (by rfl) ?hy7_8 (by assumption) ?rest7_8
  case hy7_8 => (intro w hSw; (try dsimp only at hSw); go_simp; try with_reducible rfl)
  try simp only [Act.put, List.setIfInBounds_toArray, List.set_cons_zero, List.set_cons_succ]
  refine takeH (i := 8) (v := ?v8_9) rfl (by kernel_rfl) (fun _ _ _ h => h) (by rfl) ?hy8_9 (by assumption) ?rest8_9
  case hy8_9 => (intro w hSw; (try dsimp only at hSw); go_simp; try with_reducible rfl)
  try simp only [Act.put, List.setIfInBounds_toArray, List.set_cons_zero, List.set_cons_succ]
  refine wpAnyH_ready (rs := [9]) (by kernel_rfl) (by simp) ?_
  refine consH rfl (fun K hK => ?_) (AllReadyH.nil)
  go_simp
  have KF0 : Kept [bx + 1 + 1] W5 (((W5.setCell ⟨bx + 1 + 1, 0, none⟩ (.int .i64 n)).setCell ⟨bx + 1 + 1, 1, none⟩ (.slice a3 N cap3)).setCell ⟨bx + 1 + 1, 2, none⟩ (.int .u64 f3)) := ((((Kept.refl _ _).setCell (Or.inl (by simp)) _).setCell (Or.inl (by simp)) _).setCell (Or.inl (by simp)) _)
  have KF : Kept [bx + 1 + 1] W5 ((((W5.setCell ⟨bx + 1 + 1, 0, none⟩ (.int .i64 n)).setCell ⟨bx + 1 + 1, 1, none⟩ (.slice a3 N cap3)).setCell ⟨bx + 1 + 1, 2, none⟩ (.int .u64 f3))).drew := KF0.drew
  have KD : Kept [bx + 1 + 1] W5.drew ((((W5.setCell ⟨bx + 1 + 1, 0, none⟩ (.int .i64 n)).setCell ⟨bx + 1 + 1, 1, none⟩ (.slice a3 N cap3)).setCell ⟨bx + 1 + 1, 2, none⟩ (.int .u64 f3))).drew := ⟨KF.os, KF.tape, KF.output, KF.size, KF.block⟩
  clear KF0
  replace r0 : ((((W5.setCell ⟨bx + 1 + 1, 0, none⟩ (.int .i64 n)).setCell ⟨bx + 1 + 1, 1, none⟩ (.slice a3 N cap3)).setCell ⟨bx + 1 + 1, 2, none⟩ (.int .u64 f3))).drew.cell? ⟨bx + 1 + 1, 0, none⟩ = some (.int .i64 n) := cell_dr ((cell_set_ne (cell_set_ne (cell_set_eq r0) (Or.inr (by decide))) (Or.inr (by decide))))
  replace r1 : ((((W5.setCell ⟨bx + 1 + 1, 0, none⟩ (.int .i64 n)).setCell ⟨bx + 1 + 1, 1, none⟩ (.slice a3 N cap3)).setCell ⟨bx + 1 + 1, 2, none⟩ (.int .u64 f3))).drew.cell? ⟨bx + 1 + 1, 1, none⟩ = some (.slice a3 N cap3) := cell_dr ((cell_set_ne (cell_set_eq (cell_set_ne r1 (Or.inr (by decide)))) (Or.inr (by decide))))
  replace r2 : ((((W5.setCell ⟨bx + 1 + 1, 0, none⟩ (.int .i64 n)).setCell ⟨bx + 1 + 1, 1, none⟩ (.slice a3 N cap3)).setCell ⟨bx + 1 + 1, 2, none⟩ (.int .u64 f3))).drew.cell? ⟨bx + 1 + 1, 2, none⟩ = some (.int .u64 f3) := cell_dr ((cell_set_eq (cell_set_ne (cell_set_ne r2 (Or.inr (by decide))) (Or.inr (by decide)))))
  obtain ⟨wq, hwq⟩ : ∃ wq, wq = ((((W5.setCell ⟨bx + 1 + 1, 0, none⟩ (.int .i64 n)).setCell ⟨bx + 1 + 1, 1, none⟩ (.slice a3 N cap3)).setCell ⟨bx + 1 + 1, 2, none⟩ (.int .u64 f3))).drew := ⟨_, rfl⟩
  clear KF
  rw [← hwq] at KD r0 r1 r2 ⊢
  clear hwq
  refine hK.out _ _ ?_ (fun hHeld9 => ?_)
  · (first | assumption | (refine heldK_9 (by assumption) ?_ (by assumption) (by assumption) (by assumption) (by assumption) (by assumption) (by assumption) (by assumption) (by assumption) (by assumption) ; assumption) | (refine heldK_9 (Kept.of (below_ad _ _)) ?_ (by assumption) (by assumption) (by assumption) (by assumption) (by assumption) (by assumption) (by assumption) (by assumption) (by assumption) ; assumption) | (refine heldK_9 (Kept.of (below_a _ _)) ?_ (by assumption) (by assumption) (by assumption) (by assumption) (by assumption) (by assumption) (by assumption) (by assumption) (by assumption) ; assumption))
  clear hK K
  try simp only [Act.put, List.setIfInBounds_toArray, List.set_cons_zero, List.set_cons_succ]
  refine takeH (i := 10) (v := ?v10_10) rfl (by kernel_rfl) (fun _ _ _ h => h) (by rfl) ?hy10_10 (by assumption) ?rest10_10
  case hy10_10 => (intro w hSw; (try dsimp only at hSw); go_simp; try with_reducible rfl)
  try simp only [Act.put, List.setIfInBounds_toArray, List.set_cons_zero, List.set_cons_succ]
  refine wpAnyH_done (by kernel_rfl) ?_ _
  go_wp2_with fail
  refine bodyPost_ret (v := .tuple #[rqV n a3 N cap3 f3, .bool true]) (by simp [results, Try.results30, go_sem, rqV, *]) rfl ?_
  have HR9 := HRR.out
  rw [HN.out] at HR9 ⊢
  exact qact_done HB4.out HF.out (by have := HBX.out; omega) HL4.out HS5.out (by rw [HM3.out, HF3.out]; exact HH5.out) HR9 ⟨KD.os, KD.tape, KD.output, KD.size, KD.block⟩
set_option maxRecDepth 100000 in
set_option maxHeartbeats 4000000 in
theorem act_raise {q : Nat} {F : List Nat} {n : Int} {M : Mems} {fl : Int} (a : Option Addr) (cap : Nat) (kd id v r g nn : Int) (w : World) (h : QIn w q F n M fl) (hr : HeldR encMs F w (.slice a M.length cap) M) (hk : kd % 8 = 6) (hkd : 0 ≤ kd) (hid : (Lit.int .i64 id).wf = true) (hx : Ch.Fits v r g) (hnn : -9223372036854775808 ≤ nn ∧ nn ≤ 9223372036854775807) :
    Calls Try.prog 30 #[.pointer (some ⟨q, 0, none⟩), .agg #[.int .i64 n, .slice a M.length cap, .int .u64 fl], .agg #[.int .u8 kd, .int .i64 id, .int .u64 v, .int .u32 r, .int .u32 g, .int .i64 nn]] w (QActP w q F n) := by
  have z0 : (kd % 8 == 0) = false := by rw [hk]; rfl
  have z1 : (kd % 8 == 1) = false := by rw [hk]; rfl
  have z2 : (kd % 8 == 2) = false := by rw [hk]; rfl
  have z3 : (kd % 8 == 3) = false := by rw [hk]; rfl
  have z4 : (kd % 8 == 4) = false := by rw [hk]; rfl
  have z5 : (kd % 8 == 5) = false := by rw [hk]; rfl
  have z6 : (kd % 8 == 6) = true := by rw [hk]; rfl
  clear hk
  have HI := Lib.hid h
  have HR := Lib.hid hr
  have HF := Lib.hid h.lt
  have HRM := Lib.hid h.refM
  have HID := Lib.hid hid
  have HX := Lib.hid hx
  have HNN := Lib.hid hnn
  have hfl := h.ids.2.2.2.2.2
  have AE := Lib.hid fun (W : World) => rRaise_any a M.length cap n fl v W
  clear h hr hid hx hnn
  obtain ⟨L, hL⟩ : ∃ L, L = M.length := ⟨_, rfl⟩
  have HL := Lib.hid hL
  rw [← hL] at HR AE ⊢
  clear hL
  obtain ⟨W0, hW0⟩ : ∃ W0, W0 = (((w.alloc (.cells #[.int .i64 n, .slice a L cap, .int .u64 fl] 68)).alloc (.cells #[.int .u8 kd, .int .i64 id, .int .u64 v, .int .u32 r, .int .u32 g, .int .i64 nn] 60)).alloc (.cells #[.int .i64 0, .slice none 0 0, .int .u64 0] 68)) := ⟨_, rfl⟩
  have HB0 := Lib.hid (show Below w.heap.size w W0 by rw [hW0]; exact (Below.allocS (Below.allocS (Below.allocS (Below.refl _ _) _) _) _))
  have c0 : W0.cell? ⟨w.heap.size, 0, none⟩ = some (.int .i64 n) := by rw [hW0]; exact cell_al _ (cell_al _ (cell_nwE (by simp) _ _ 0 _ rfl))
  have fc0 : W0.frozen? ⟨w.heap.size, 0, none⟩ = false := by rw [hW0]; exact frz_later (below_a _ _) (frz_later (below_a _ _) (frz_nwE (by simp) _ _ 0) (by first | (simp; done) | (simp; omega))) (by first | (simp; done) | (simp; omega))
  have c1 : W0.cell? ⟨w.heap.size, 1, none⟩ = some (.slice a L cap) := by rw [hW0]; exact cell_al _ (cell_al _ (cell_nwE (by simp) _ _ 1 _ rfl))
  have fc1 : W0.frozen? ⟨w.heap.size, 1, none⟩ = false := by rw [hW0]; exact frz_later (below_a _ _) (frz_later (below_a _ _) (frz_nwE (by simp) _ _ 1) (by first | (simp; done) | (simp; omega))) (by first | (simp; done) | (simp; omega))
  have c2 : W0.cell? ⟨w.heap.size, 2, none⟩ = some (.int .u64 fl) := by rw [hW0]; exact cell_al _ (cell_al _ (cell_nwE (by simp) _ _ 2 _ rfl))
  have fc2 : W0.frozen? ⟨w.heap.size, 2, none⟩ = false := by rw [hW0]; exact frz_later (below_a _ _) (frz_later (below_a _ _) (frz_nwE (by simp) _ _ 2) (by first | (simp; done) | (simp; omega))) (by first | (simp; done) | (simp; omega))
  have x0 : W0.cell? ⟨w.heap.size + 1, 0, none⟩ = some (.int .u8 kd) := by rw [hW0]; exact cell_al _ (cell_nwE (by simp) _ _ 0 _ rfl)
  have fx0 : W0.frozen? ⟨w.heap.size + 1, 0, none⟩ = false := by rw [hW0]; exact frz_later (below_a _ _) (frz_nwE (by simp) _ _ 0) (by first | (simp; done) | (simp; omega))
  have x1 : W0.cell? ⟨w.heap.size + 1, 1, none⟩ = some (.int .i64 id) := by rw [hW0]; exact cell_al _ (cell_nwE (by simp) _ _ 1 _ rfl)
  have fx1 : W0.frozen? ⟨w.heap.size + 1, 1, none⟩ = false := by rw [hW0]; exact frz_later (below_a _ _) (frz_nwE (by simp) _ _ 1) (by first | (simp; done) | (simp; omega))
  have x2 : W0.cell? ⟨w.heap.size + 1, 2, none⟩ = some (.int .u64 v) := by rw [hW0]; exact cell_al _ (cell_nwE (by simp) _ _ 2 _ rfl)
  have fx2 : W0.frozen? ⟨w.heap.size + 1, 2, none⟩ = false := by rw [hW0]; exact frz_later (below_a _ _) (frz_nwE (by simp) _ _ 2) (by first | (simp; done) | (simp; omega))
  have x3 : W0.cell? ⟨w.heap.size + 1, 3, none⟩ = some (.int .u32 r) := by rw [hW0]; exact cell_al _ (cell_nwE (by simp) _ _ 3 _ rfl)
  have fx3 : W0.frozen? ⟨w.heap.size + 1, 3, none⟩ = false := by rw [hW0]; exact frz_later (below_a _ _) (frz_nwE (by simp) _ _ 3) (by first | (simp; done) | (simp; omega))
  have x4 : W0.cell? ⟨w.heap.size + 1, 4, none⟩ = some (.int .u32 g) := by rw [hW0]; exact cell_al _ (cell_nwE (by simp) _ _ 4 _ rfl)
  have fx4 : W0.frozen? ⟨w.heap.size + 1, 4, none⟩ = false := by rw [hW0]; exact frz_later (below_a _ _) (frz_nwE (by simp) _ _ 4) (by first | (simp; done) | (simp; omega))
  have x5 : W0.cell? ⟨w.heap.size + 1, 5, none⟩ = some (.int .i64 nn) := by rw [hW0]; exact cell_al _ (cell_nwE (by simp) _ _ 5 _ rfl)
  have fx5 : W0.frozen? ⟨w.heap.size + 1, 5, none⟩ = false := by rw [hW0]; exact frz_later (below_a _ _) (frz_nwE (by simp) _ _ 5) (by first | (simp; done) | (simp; omega))
  have r0 : W0.cell? ⟨w.heap.size + 1 + 1, 0, none⟩ = some (.int .i64 0) := by rw [hW0]; exact cell_nwE (by simp) _ _ 0 _ rfl
  have fr0 : W0.frozen? ⟨w.heap.size + 1 + 1, 0, none⟩ = false := by rw [hW0]; exact frz_nwE (by simp) _ _ 0
  have r1 : W0.cell? ⟨w.heap.size + 1 + 1, 1, none⟩ = some (.slice none 0 0) := by rw [hW0]; exact cell_nwE (by simp) _ _ 1 _ rfl
  have fr1 : W0.frozen? ⟨w.heap.size + 1 + 1, 1, none⟩ = false := by rw [hW0]; exact frz_nwE (by simp) _ _ 1
  have r2 : W0.cell? ⟨w.heap.size + 1 + 1, 2, none⟩ = some (.int .u64 0) := by rw [hW0]; exact cell_nwE (by simp) _ _ 2 _ rfl
  have fr2 : W0.frozen? ⟨w.heap.size + 1 + 1, 2, none⟩ = false := by rw [hW0]; exact frz_nwE (by simp) _ _ 2
  have HSZ := Lib.hid (show W0.heap.size = w.heap.size + 1 + 1 + 1 by rw [hW0]; simp)
  have HW0 := Lib.hid hW0
  clear hW0
  have nc : w.heap.size ∉ F := fun m => by have := HF.out _ m; omega
  have nx : w.heap.size + 1 ∉ F := fun m => by have := HF.out _ m; omega
  have nr : w.heap.size + 1 + 1 ∉ F := fun m => by have := HF.out _ m; omega
  have HV := Lib.hid (show 0 ≤ v ∧ v ≤ 18446744073709551615 from by have := HX.out; unfold Ch.Fits at this; omega)
  go_enter Try.func30, Try.ntmps30
  go_wp2_with fail
  rw [← HW0.out]
  generalize hbx : w.heap.size = bx at c0 c1 c2 x0 x1 x2 x3 x4 x5 r0 r1 r2 fc0 fc1 fc2 fx0 fx1 fx2 fx3 fx4 fx5 fr0 fr1 fr2 HSZ nc nx nr ⊢
  have HBX := Lib.hid hbx
  clear hbx HW0
  have HH := Lib.hid (show QIn W0.drew q F n M fl from (HI.out.below HB0.out).below (Below.refl _ _).drew)
  have HRR := Lib.hid (show HeldR encMs ((bx + 1 + 1) :: F) W0 (.slice a L cap) M from HR.out.step (Kept.of HB0.out) (fun b hb => by
    have h1 := HBX.out
    rcases List.mem_cons.1 hb with rfl | hb
    · exact Or.inr (by omega)
    · exact Or.inl hb))
  have j0 : bx ∉ (bx + 1 + 1) :: F := fun m => by
    rcases List.mem_cons.1 m with m | m
    · omega
    · exact nc m
  have j1 : bx + 1 ∉ (bx + 1 + 1) :: F := fun m => by
    rcases List.mem_cons.1 m with m | m
    · omega
    · exact nx m
  obtain ⟨f3, hf3⟩ : ∃ f3, f3 = max fl v := ⟨_, rfl⟩
  have HF3 := Lib.hid hf3
  rw [← hf3] at AE
  clear hf3
  have hS0 : Kept ((bx + 1 + 1) :: F) W0 W0.drew ∧ W0.drew.cell? ⟨bx, 0, none⟩ = some (.int .i64 n) ∧ W0.drew.cell? ⟨bx, 1, none⟩ = some (.slice a L cap) ∧ W0.drew.cell? ⟨bx, 2, none⟩ = some (.int .u64 fl) ∧ W0.drew.cell? ⟨bx + 1, 2, none⟩ = some (.int .u64 v) := ⟨Kept.drew (Kept.refl _ _), cell_dr c0, cell_dr c1, cell_dr c2, cell_dr x2⟩
  refine wp_region_held_drew (S := fun w' => Kept ((bx + 1 + 1) :: F) W0 w' ∧ w'.cell? ⟨bx, 0, none⟩ = some (.int .i64 n) ∧ w'.cell? ⟨bx, 1, none⟩ = some (.slice a L cap) ∧ w'.cell? ⟨bx, 2, none⟩ = some (.int .u64 fl) ∧ w'.cell? ⟨bx + 1, 2, none⟩ = some (.int .u64 v)) (by kernel_rfl) hS0 (fun hHeld => ?_)
  refine takeH (i := 0) (v := ?v0_11) rfl (by kernel_rfl) (fun _ _ _ h => h) (by rfl) ?hy0_11 (by assumption) ?rest0_11
  case hy0_11 => (intro w hSw; (try dsimp only at hSw); go_simp; try with_reducible rfl)
  try simp only [Act.put, List.setIfInBounds_toArray, List.set_cons_zero, List.set_cons_succ]
  refine takeH (i := 1) (v := ?v1_12) rfl (by kernel_rfl) (fun _ _ _ h => h) (by rfl) ?hy1_12 (by assumption) ?rest1_12
  case hy1_12 => (intro w hSw; (try dsimp only at hSw); go_simp; try with_reducible rfl)
  try simp only [Act.put, List.setIfInBounds_toArray, List.set_cons_zero, List.set_cons_succ]
  refine takeH (i := 2) (v := ?v2_13) rfl (by kernel_rfl) (fun _ _ _ h => h) (by rfl) ?hy2_13 (by assumption) ?rest2_13
  case hy2_13 => (intro w hSw; (try dsimp only at hSw); go_simp; try with_reducible rfl)
  try simp only [Act.put, List.setIfInBounds_toArray, List.set_cons_zero, List.set_cons_succ]
  refine takeH (i := 3) (v := ?v3_14) rfl (by kernel_rfl) (fun _ _ _ h => h) (by rfl) ?hy3_14 (by assumption) ?rest3_14
  case hy3_14 => (intro w hSw; (try dsimp only at hSw); go_simp; try with_reducible rfl)
  try simp only [Act.put, List.setIfInBounds_toArray, List.set_cons_zero, List.set_cons_succ]
  refine takeH (i := 5) (v := ?v5_15) rfl (by kernel_rfl) (fun _ _ _ h => h) (by rfl) ?hy5_15 (by assumption) ?rest5_15
  case hy5_15 => (intro w hSw; (try dsimp only at hSw); go_simp; try with_reducible rfl)
  try simp only [Act.put, List.setIfInBounds_toArray, List.set_cons_zero, List.set_cons_succ]
  refine takeH (i := 6) (v := ?v6_16) rfl (by kernel_rfl) (fun _ _ _ h => h) (by rfl) ?hy6_16 (by assumption) ?rest6_16
  case hy6_16 => (intro w hSw; (try dsimp only at hSw); go_simp; try with_reducible rfl)
  try simp only [Act.put, List.setIfInBounds_toArray, List.set_cons_zero, List.set_cons_succ]
  refine takeH (i := 7) (v := ?v7_17) rfl (by kernel_rfl) (fun _ _ _ h => h) (by rfl) ?hy7_17 (by assumption) ?rest7_17
  case hy7_17 => (intro w hSw; (try dsimp only at hSw); go_simp; try with_reducible rfl)
  try simp only [Act.put, List.setIfInBounds_toArray, List.set_cons_zero, List.set_cons_succ]
  refine takeH (i := 8) (v := ?v8_18) rfl (by kernel_rfl) (fun _ _ _ h => h) (by rfl) ?hy8_18 (by assumption) ?rest8_18
  case hy8_18 => (intro w hSw; (try dsimp only at hSw); go_simp; try with_reducible rfl)
  try simp only [Act.put, List.setIfInBounds_toArray, List.set_cons_zero, List.set_cons_succ]
  refine wpAnyH_ready (rs := [4]) (by kernel_rfl) (by simp) ?_
  refine consH rfl (fun K hK => ?_) (AllReadyH.nil)
  go_simp
  refine (AE.out W0.drew).mono ?_
  rintro e w3 ⟨rfl, hb3⟩
  unfold rqV
  have hk3 : Kept ((bx + 1 + 1) :: F) W0.drew w3 := Kept.of hb3
  replace fr0 := frz_later hb3 fr0 (lt_of_cell r0)
  replace fr1 := frz_later hb3 fr1 (lt_of_cell r1)
  replace fr2 := frz_later hb3 fr2 (lt_of_cell r2)
  replace r0 := cell_later hb3 r0
  replace r1 := cell_later hb3 r1
  replace r2 := cell_later hb3 r2
  have HH3 := Lib.hid (HH.out.below hb3)
  have HB3 := Lib.hid hb3
  clear hb3
  go_wp2_with fail
  refine hK.out _ _ ?_ (fun hHeld4 => ?_)
  · (first | assumption | (refine heldK_4 (by assumption) ?_ (by assumption) (by assumption) (by assumption) (by assumption) ; assumption) | (refine heldK_4 (Kept.of (below_ad _ _)) ?_ (by assumption) (by assumption) (by assumption) (by assumption) ; assumption) | (refine heldK_4 (Kept.of (below_a _ _)) ?_ (by assumption) (by assumption) (by assumption) (by assumption) ; assumption))
  clear hK K
  try simp only [Act.put, List.setIfInBounds_toArray, List.set_cons_zero, List.set_cons_succ]
  refine wpAnyH_ready (rs := [9]) (by kernel_rfl) (by simp) ?_
  refine consH rfl (fun K hK => ?_) (AllReadyH.nil)
  go_simp
  refine (Raise_at v w3 HH3.out HV.out).mono ?_
  rintro e w9 ⟨rfl, hA9⟩
  obtain ⟨F9, h9, s9⟩ := hA9
  have hk9 : Kept ((bx + 1 + 1) :: F) w3 w9 := s9.kept.mono (fun b hb => by simp [hb])
  replace fr0 := s9.kept.frz fr0 (lt_of_cell r0) nr
  replace fr1 := s9.kept.frz fr1 (lt_of_cell r1) nr
  replace fr2 := s9.kept.frz fr2 (lt_of_cell r2) nr
  replace r0 := s9.cell nr r0
  replace r1 := s9.cell nr r1
  replace r2 := s9.cell nr r2
  have HS9 := Lib.hid ((Step.of (F := F) HB3.out).trans s9)
  have HH9 := Lib.hid h9
  clear s9 h9
  go_wp2_with fail
  refine hK.out _ _ ?_ (fun hHeld9 => ?_)
  · (first | assumption | (refine heldK_4 (by assumption) ?_ (by assumption) (by assumption) (by assumption) (by assumption) ; assumption) | (refine heldK_4 (Kept.of (below_ad _ _)) ?_ (by assumption) (by assumption) (by assumption) (by assumption) ; assumption) | (refine heldK_4 (Kept.of (below_a _ _)) ?_ (by assumption) (by assumption) (by assumption) (by assumption) ; assumption))
  clear hK K
  try simp only [Act.put, List.setIfInBounds_toArray, List.set_cons_zero, List.set_cons_succ]
  refine takeH (i := 10) (v := ?v10_19) rfl (by kernel_rfl) (fun _ _ _ h => h) (by rfl) ?hy10_19 (by assumption) ?rest10_19
  case hy10_19 => (intro w hSw; (try dsimp only at hSw); go_simp; try with_reducible rfl)
  try simp only [Act.put, List.setIfInBounds_toArray, List.set_cons_zero, List.set_cons_succ]
  refine wpAnyH_ready (rs := [11]) (by kernel_rfl) (by simp) ?_
  refine consH rfl (fun K hK => ?_) (AllReadyH.nil)
  go_simp
  have hk9b : Kept ((bx + 1 + 1) :: F) w9 (((w9.setCell ⟨bx + 1 + 1, 0, none⟩ (.int .i64 n)).setCell ⟨bx + 1 + 1, 1, none⟩ (.slice a L cap)).setCell ⟨bx + 1 + 1, 2, none⟩ (.int .u64 f3)) := ((((Kept.refl _ _).setCell (Or.inl (by simp)) _).setCell (Or.inl (by simp)) _).setCell (Or.inl (by simp)) _)
  have KF : Kept [bx + 1 + 1] w9 (((w9.setCell ⟨bx + 1 + 1, 0, none⟩ (.int .i64 n)).setCell ⟨bx + 1 + 1, 1, none⟩ (.slice a L cap)).setCell ⟨bx + 1 + 1, 2, none⟩ (.int .u64 f3)) := ((((Kept.refl _ _).setCell (Or.inl (by simp)) _).setCell (Or.inl (by simp)) _).setCell (Or.inl (by simp)) _)
  replace r0 : (((w9.setCell ⟨bx + 1 + 1, 0, none⟩ (.int .i64 n)).setCell ⟨bx + 1 + 1, 1, none⟩ (.slice a L cap)).setCell ⟨bx + 1 + 1, 2, none⟩ (.int .u64 f3)).cell? ⟨bx + 1 + 1, 0, none⟩ = some (.int .i64 n) := (cell_set_ne (cell_set_ne (cell_set_eq r0) (Or.inr (by decide))) (Or.inr (by decide)))
  replace r1 : (((w9.setCell ⟨bx + 1 + 1, 0, none⟩ (.int .i64 n)).setCell ⟨bx + 1 + 1, 1, none⟩ (.slice a L cap)).setCell ⟨bx + 1 + 1, 2, none⟩ (.int .u64 f3)).cell? ⟨bx + 1 + 1, 1, none⟩ = some (.slice a L cap) := (cell_set_ne (cell_set_eq (cell_set_ne r1 (Or.inr (by decide)))) (Or.inr (by decide)))
  replace r2 : (((w9.setCell ⟨bx + 1 + 1, 0, none⟩ (.int .i64 n)).setCell ⟨bx + 1 + 1, 1, none⟩ (.slice a L cap)).setCell ⟨bx + 1 + 1, 2, none⟩ (.int .u64 f3)).cell? ⟨bx + 1 + 1, 2, none⟩ = some (.int .u64 f3) := (cell_set_eq (cell_set_ne (cell_set_ne r2 (Or.inr (by decide))) (Or.inr (by decide))))
  obtain ⟨wq, hwq⟩ : ∃ wq, wq = (((w9.setCell ⟨bx + 1 + 1, 0, none⟩ (.int .i64 n)).setCell ⟨bx + 1 + 1, 1, none⟩ (.slice a L cap)).setCell ⟨bx + 1 + 1, 2, none⟩ (.int .u64 f3)) := ⟨_, rfl⟩
  rw [← hwq] at hk9b KF r0 r1 r2 ⊢
  clear hwq
  refine hK.out _ _ ?_ (fun hHeld11 => ?_)
  · (first | assumption | (refine heldK_4 (by assumption) ?_ (by assumption) (by assumption) (by assumption) (by assumption) ; assumption) | (refine heldK_4 (Kept.of (below_ad _ _)) ?_ (by assumption) (by assumption) (by assumption) (by assumption) ; assumption) | (refine heldK_4 (Kept.of (below_a _ _)) ?_ (by assumption) (by assumption) (by assumption) (by assumption) ; assumption))
  clear hK K
  try simp only [Act.put, List.setIfInBounds_toArray, List.set_cons_zero, List.set_cons_succ]
  refine takeH (i := 12) (v := ?v12_20) rfl (by kernel_rfl) (fun _ _ _ h => h) (by rfl) ?hy12_20 (by assumption) ?rest12_20
  case hy12_20 => (intro w hSw; (try dsimp only at hSw); go_simp; try with_reducible rfl)
  try simp only [Act.put, List.setIfInBounds_toArray, List.set_cons_zero, List.set_cons_succ]
  refine wpAnyH_done (by kernel_rfl) ?_ _
  go_wp2_with fail
  refine bodyPost_ret (v := .tuple #[rqV n a L cap f3, .bool true]) (by simp [results, Try.results30, go_sem, rqV, *]) rfl ?_
  have HR9 := HRR.out
  rw [HL.out] at HR9 ⊢
  exact qact_done HB0.out HF.out (by have := HBX.out; omega) (by have := HSZ.out; omega) ((Step.of (Below.refl W0.heap.size W0).drew).trans HS9.out) (by rw [HF3.out]; exact HH9.out) HR9 KF
end Go.Proofs.Ytekjakmeopolhaa
namespace Go.Proofs.Ytekjakmeopolhaa
open Go.RowKit Go.Maps Go.IntWalk Go.Lib
set_option linter.unusedVariables false
set_option linter.unusedSimpArgs false
set_option maxRecDepth 100000 in
set_option maxHeartbeats 2000000 in
theorem members_same (va vb : Value) (A : Mems) (w : World) (ha : RecsAt encMs w va A) (hb : RecsAt encMs w vb A) (h1 : A.length ≤ 1000000) :
    Calls Try.prog 32 #[va, vb] w fun e w' => e = .returned (.bool true) ∧ ∃ q, w' = w.drewN q := by
  obtain ⟨a, ca, rfl, -⟩ := id ha
  obtain ⟨b, cb, rfl, -⟩ := id hb
  obtain ⟨m, hm⟩ : ∃ m, m = A.length := ⟨_, rfl⟩
  rw [← hm] at ha hb h1 ⊢
  have HA := Lib.hid ha
  have HB := Lib.hid hb
  have hz : ((m : Int) != (m : Int)) = false := by simp
  clear ha hb hm
  go_enter Try.func32, Try.ntmps32
  go_wp2_with fail
  go_loopw [13] (fun i wr => ∃ k q : Nat, k ≤ m ∧ i = .int .i64 k ∧ wr = w.drewN q) (fun i _ => m - (intOf i).toNat)
  case atStart => exact ⟨0, 0, Nat.zero_le _, rfl, rfl⟩
  case round =>
    obtain ⟨k, q, hk, rfl, rfl⟩ := hrel
    by_cases hlt : k < m
    · obtain ⟨-, b1, o1, rfl, i0, i1, i2, i3⟩ := HA.out.mem hlt
      obtain ⟨-, b2, o2, rfl, j0, j1, j2, j3⟩ := HB.out.mem hlt
      generalize A[k]! = x at *
      have hk0 : (0 : Int) ≤ (k : Int) := by omega
      have hkn : (k : Int) < (m : Int) := by omega
      have z1 : (x.1 != x.1) = false := by simp
      have z2 := eq3_self x.2.1 x.2.2.1 x.2.2.2
      go_wp2_with fail
      go_quiet (fail)
      go_wp2_with fail
      go_roundw
      case rel => exact ⟨k + 1, _, by omega, by go_num, rfl⟩
      case measure => simp [intOf]; omega
    · have l1 : decide ((k : Int) < (m : Int)) = false := decide_eq_false (by omega)
      have l2 : decide (k < m) = false := decide_eq_false hlt
      have l3 : (k < m) = False := eq_false hlt
      clear hk hlt
      go_wp2_with fail
      go_ret
      exact ⟨rfl, q, rfl⟩
/-- the members' numbers from some place on, in an own row: they may be written -/
def RowIds (w : World) (g : Nat) (M : Mems) (k : Nat) : Prop := ∀ j, k ≤ j → j < M.length → w.cell? ⟨g, j * 4, none⟩ = some (.int .i64 M[j]!.1) ∧ w.frozen? ⟨g, j * 4, none⟩ = false
theorem RowIds.own {w : World} {base : Nat} {e : TypeId} {g cap : Nat} {M : Mems} (h : w.ownsRow base e 4 (.slice (some ⟨g, 0, none⟩) M.length cap) M.length (flatR encMs M)) : RowIds w g M 0 := fun j _ hj => by
  refine ⟨?_, h.frozenAt _⟩
  have hm := (own_recs encMs_ok h).mem hj
  obtain ⟨-, b, off, e, i0, -⟩ := hm
  cases e
  rw [Nat.zero_add] at i0
  exact i0
theorem RowIds.later {w w' : World} {g k : Nat} {M : Mems} (h : RowIds w g M k) (hb : Below w.heap.size w w') : RowIds w' g M k := fun j h1 h2 => ⟨cell_later hb (h j h1 h2).1, frz_later hb (h j h1 h2).2 (lt_of_cell (h j h1 h2).1)⟩
theorem RowIds.set {w : World} {g k : Nat} {M : Mems} (h : RowIds w g M k) (u : Value) : RowIds (w.setCell ⟨g, k * 4, none⟩ u) g M (k + 1) := fun j h1 h2 => ⟨cell_set_ne (h j (by omega) h2).1 (Or.inr (by omega)), by rw [World.frozen?_setCell]; exact (h j (by omega) h2).2⟩
set_option maxRecDepth 100000 in
set_option maxHeartbeats 4000000 in
theorem act_look {q : Nat} {F : List Nat} {n : Int} {M : Mems} {fl : Int} (a : Option Addr) (cap : Nat) (kd id v r g nn : Int) (w : World) (h : QIn w q F n M fl) (hr : HeldR encMs F w (.slice a M.length cap) M) (hk : kd % 8 = 7) (hkd : 0 ≤ kd) (hid : (Lit.int .i64 id).wf = true) (hx : Ch.Fits v r g) (hnn : -9223372036854775808 ≤ nn ∧ nn ≤ 9223372036854775807) :
    Calls Try.prog 30 #[.pointer (some ⟨q, 0, none⟩), .agg #[.int .i64 n, .slice a M.length cap, .int .u64 fl], .agg #[.int .u8 kd, .int .i64 id, .int .u64 v, .int .u32 r, .int .u32 g, .int .i64 nn]] w (QActP w q F n) := by
  have z0 : (kd % 8 == 0) = false := by rw [hk]; rfl
  have z1 : (kd % 8 == 1) = false := by rw [hk]; rfl
  have z2 : (kd % 8 == 2) = false := by rw [hk]; rfl
  have z3 : (kd % 8 == 3) = false := by rw [hk]; rfl
  have z4 : (kd % 8 == 4) = false := by rw [hk]; rfl
  have z5 : (kd % 8 == 5) = false := by rw [hk]; rfl
  have z6 : (kd % 8 == 6) = false := by rw [hk]; rfl
  clear hk
  have HI := Lib.hid h
  have HR := Lib.hid hr
  have HF := Lib.hid h.lt
  have hfl := h.ids.2.2.2.2.2
  have AE := Lib.hid (show M.length ≤ 1000000 by have := h.ids.2; omega)
  have HRM := Lib.hid h.refM
  clear h hr hid hx hnn
  obtain ⟨L, hL⟩ : ∃ L, L = M.length := ⟨_, rfl⟩
  have HL := Lib.hid hL
  rw [← hL] at HR AE ⊢
  clear hL
  obtain ⟨W0, hW0⟩ : ∃ W0, W0 = (((w.alloc (.cells #[.int .i64 n, .slice a L cap, .int .u64 fl] 68)).alloc (.cells #[.int .u8 kd, .int .i64 id, .int .u64 v, .int .u32 r, .int .u32 g, .int .i64 nn] 60)).alloc (.cells #[.int .i64 0, .slice none 0 0, .int .u64 0] 68)) := ⟨_, rfl⟩
  have HB0 := Lib.hid (show Below w.heap.size w W0 by rw [hW0]; exact (Below.allocS (Below.allocS (Below.allocS (Below.refl _ _) _) _) _))
  have c0 : W0.cell? ⟨w.heap.size, 0, none⟩ = some (.int .i64 n) := by rw [hW0]; exact cell_al _ (cell_al _ (cell_nwE (by simp) _ _ 0 _ rfl))
  have fc0 : W0.frozen? ⟨w.heap.size, 0, none⟩ = false := by rw [hW0]; exact frz_later (below_a _ _) (frz_later (below_a _ _) (frz_nwE (by simp) _ _ 0) (by first | (simp; done) | (simp; omega))) (by first | (simp; done) | (simp; omega))
  have c1 : W0.cell? ⟨w.heap.size, 1, none⟩ = some (.slice a L cap) := by rw [hW0]; exact cell_al _ (cell_al _ (cell_nwE (by simp) _ _ 1 _ rfl))
  have fc1 : W0.frozen? ⟨w.heap.size, 1, none⟩ = false := by rw [hW0]; exact frz_later (below_a _ _) (frz_later (below_a _ _) (frz_nwE (by simp) _ _ 1) (by first | (simp; done) | (simp; omega))) (by first | (simp; done) | (simp; omega))
  have c2 : W0.cell? ⟨w.heap.size, 2, none⟩ = some (.int .u64 fl) := by rw [hW0]; exact cell_al _ (cell_al _ (cell_nwE (by simp) _ _ 2 _ rfl))
  have fc2 : W0.frozen? ⟨w.heap.size, 2, none⟩ = false := by rw [hW0]; exact frz_later (below_a _ _) (frz_later (below_a _ _) (frz_nwE (by simp) _ _ 2) (by first | (simp; done) | (simp; omega))) (by first | (simp; done) | (simp; omega))
  have x0 : W0.cell? ⟨w.heap.size + 1, 0, none⟩ = some (.int .u8 kd) := by rw [hW0]; exact cell_al _ (cell_nwE (by simp) _ _ 0 _ rfl)
  have fx0 : W0.frozen? ⟨w.heap.size + 1, 0, none⟩ = false := by rw [hW0]; exact frz_later (below_a _ _) (frz_nwE (by simp) _ _ 0) (by first | (simp; done) | (simp; omega))
  have x1 : W0.cell? ⟨w.heap.size + 1, 1, none⟩ = some (.int .i64 id) := by rw [hW0]; exact cell_al _ (cell_nwE (by simp) _ _ 1 _ rfl)
  have fx1 : W0.frozen? ⟨w.heap.size + 1, 1, none⟩ = false := by rw [hW0]; exact frz_later (below_a _ _) (frz_nwE (by simp) _ _ 1) (by first | (simp; done) | (simp; omega))
  have x2 : W0.cell? ⟨w.heap.size + 1, 2, none⟩ = some (.int .u64 v) := by rw [hW0]; exact cell_al _ (cell_nwE (by simp) _ _ 2 _ rfl)
  have fx2 : W0.frozen? ⟨w.heap.size + 1, 2, none⟩ = false := by rw [hW0]; exact frz_later (below_a _ _) (frz_nwE (by simp) _ _ 2) (by first | (simp; done) | (simp; omega))
  have x3 : W0.cell? ⟨w.heap.size + 1, 3, none⟩ = some (.int .u32 r) := by rw [hW0]; exact cell_al _ (cell_nwE (by simp) _ _ 3 _ rfl)
  have fx3 : W0.frozen? ⟨w.heap.size + 1, 3, none⟩ = false := by rw [hW0]; exact frz_later (below_a _ _) (frz_nwE (by simp) _ _ 3) (by first | (simp; done) | (simp; omega))
  have x4 : W0.cell? ⟨w.heap.size + 1, 4, none⟩ = some (.int .u32 g) := by rw [hW0]; exact cell_al _ (cell_nwE (by simp) _ _ 4 _ rfl)
  have fx4 : W0.frozen? ⟨w.heap.size + 1, 4, none⟩ = false := by rw [hW0]; exact frz_later (below_a _ _) (frz_nwE (by simp) _ _ 4) (by first | (simp; done) | (simp; omega))
  have x5 : W0.cell? ⟨w.heap.size + 1, 5, none⟩ = some (.int .i64 nn) := by rw [hW0]; exact cell_al _ (cell_nwE (by simp) _ _ 5 _ rfl)
  have fx5 : W0.frozen? ⟨w.heap.size + 1, 5, none⟩ = false := by rw [hW0]; exact frz_later (below_a _ _) (frz_nwE (by simp) _ _ 5) (by first | (simp; done) | (simp; omega))
  have r0 : W0.cell? ⟨w.heap.size + 1 + 1, 0, none⟩ = some (.int .i64 0) := by rw [hW0]; exact cell_nwE (by simp) _ _ 0 _ rfl
  have fr0 : W0.frozen? ⟨w.heap.size + 1 + 1, 0, none⟩ = false := by rw [hW0]; exact frz_nwE (by simp) _ _ 0
  have r1 : W0.cell? ⟨w.heap.size + 1 + 1, 1, none⟩ = some (.slice none 0 0) := by rw [hW0]; exact cell_nwE (by simp) _ _ 1 _ rfl
  have fr1 : W0.frozen? ⟨w.heap.size + 1 + 1, 1, none⟩ = false := by rw [hW0]; exact frz_nwE (by simp) _ _ 1
  have r2 : W0.cell? ⟨w.heap.size + 1 + 1, 2, none⟩ = some (.int .u64 0) := by rw [hW0]; exact cell_nwE (by simp) _ _ 2 _ rfl
  have fr2 : W0.frozen? ⟨w.heap.size + 1 + 1, 2, none⟩ = false := by rw [hW0]; exact frz_nwE (by simp) _ _ 2
  have HSZ := Lib.hid (show W0.heap.size = w.heap.size + 1 + 1 + 1 by rw [hW0]; simp)
  have HW0 := Lib.hid hW0
  clear hW0
  have nc : w.heap.size ∉ F := fun m => by have := HF.out _ m; omega
  have nx : w.heap.size + 1 ∉ F := fun m => by have := HF.out _ m; omega
  have nr : w.heap.size + 1 + 1 ∉ F := fun m => by have := HF.out _ m; omega
  go_enter Try.func30, Try.ntmps30
  go_wp2_with fail
  rw [← HW0.out]
  generalize hbx : w.heap.size = bx at c0 c1 c2 x0 x1 x2 x3 x4 x5 r0 r1 r2 fc0 fc1 fc2 fx0 fx1 fx2 fx3 fx4 fx5 fr0 fr1 fr2 HSZ nc nx nr ⊢
  have HBX := Lib.hid hbx
  clear hbx HW0
  have HCC := Lib.hid (And.intro c0 (And.intro c1 (And.intro c2 (And.intro r0 (And.intro r1 (And.intro r2 (And.intro fr0 (And.intro fr1 fr2))))))))
  have hL9 := AE.out
  refine (QAll_at W0 (HI.out.below HB0.out)).mono ?_
  rintro e w3 ⟨v3, rfl, hr3, hb3⟩
  replace fc0 := frz_later hb3 fc0 (lt_of_cell c0)
  replace fc1 := frz_later hb3 fc1 (lt_of_cell c1)
  replace fc2 := frz_later hb3 fc2 (lt_of_cell c2)
  replace fx0 := frz_later hb3 fx0 (lt_of_cell x0)
  replace fx1 := frz_later hb3 fx1 (lt_of_cell x1)
  replace fx2 := frz_later hb3 fx2 (lt_of_cell x2)
  replace fx3 := frz_later hb3 fx3 (lt_of_cell x3)
  replace fx4 := frz_later hb3 fx4 (lt_of_cell x4)
  replace fx5 := frz_later hb3 fx5 (lt_of_cell x5)
  replace fr0 := frz_later hb3 fr0 (lt_of_cell r0)
  replace fr1 := frz_later hb3 fr1 (lt_of_cell r1)
  replace fr2 := frz_later hb3 fr2 (lt_of_cell r2)
  replace c0 := cell_later hb3 c0
  replace c1 := cell_later hb3 c1
  replace c2 := cell_later hb3 c2
  replace x0 := cell_later hb3 x0
  replace x1 := cell_later hb3 x1
  replace x2 := cell_later hb3 x2
  replace x3 := cell_later hb3 x3
  replace x4 := cell_later hb3 x4
  replace x5 := cell_later hb3 x5
  replace r0 := cell_later hb3 r0
  replace r1 := cell_later hb3 r1
  replace r2 := cell_later hb3 r2
  have HB3 := Lib.hid (Below.step HB0.out hb3)
  have H03 := Lib.hid hb3
  have V3 := Lib.hid (own_recs encMs_ok hr3)
  have HO3 := Lib.hid hr3
  obtain ⟨av, cv, hv⟩ := own_shapeM hr3
  subst hv
  clear hb3 hr3
  rw [← HL.out] at V3 HO3 ⊢
  go_wp2_with fail
  refine (members_same _ _ M w3 V3.out (HR.out.later HB3.out).recs (by have := AE.out; have := HL.out; omega)).mono ?_
  rintro e w4 ⟨rfl, hq4⟩
  have hb4 : Below w3.heap.size w3 w4 := by obtain ⟨_, rfl⟩ := hq4; exact below_drewN (Below.refl _ _) _
  replace fc0 := frz_later hb4 fc0 (lt_of_cell c0)
  replace fc1 := frz_later hb4 fc1 (lt_of_cell c1)
  replace fc2 := frz_later hb4 fc2 (lt_of_cell c2)
  replace fx0 := frz_later hb4 fx0 (lt_of_cell x0)
  replace fx1 := frz_later hb4 fx1 (lt_of_cell x1)
  replace fx2 := frz_later hb4 fx2 (lt_of_cell x2)
  replace fx3 := frz_later hb4 fx3 (lt_of_cell x3)
  replace fx4 := frz_later hb4 fx4 (lt_of_cell x4)
  replace fx5 := frz_later hb4 fx5 (lt_of_cell x5)
  replace fr0 := frz_later hb4 fr0 (lt_of_cell r0)
  replace fr1 := frz_later hb4 fr1 (lt_of_cell r1)
  replace fr2 := frz_later hb4 fr2 (lt_of_cell r2)
  replace c0 := cell_later hb4 c0
  replace c1 := cell_later hb4 c1
  replace c2 := cell_later hb4 c2
  replace x0 := cell_later hb4 x0
  replace x1 := cell_later hb4 x1
  replace x2 := cell_later hb4 x2
  replace x3 := cell_later hb4 x3
  replace x4 := cell_later hb4 x4
  replace x5 := cell_later hb4 x5
  replace r0 := cell_later hb4 r0
  replace r1 := cell_later hb4 r1
  replace r2 := cell_later hb4 r2
  have HB4 := Lib.hid (Below.step HB3.out hb4)
  have H04 := Lib.hid (Below.step H03.out hb4)
  have HX4 := Lib.hid hb4
  clear hq4 hb4
  go_wp2_with fail
  go_loopw [134] (fun i wr => ∃ k : Nat, k ≤ L ∧ i = .int .i64 k ∧ Below W0.heap.size W0 wr ∧ (∀ g, av = some ⟨g, 0, none⟩ → RowIds wr g M k)) (fun i _ => L - (intOf i).toNat)
  case atStart => exact ⟨0, Nat.zero_le _, rfl, H04.out, fun g hg => by subst hg; have := HO3.out; rw [HL.out] at this; exact (RowIds.own this).later HX4.out⟩
  case round =>
    obtain ⟨k, hk, rfl, hB, hrow⟩ := hrel
    have HB := Lib.hid hB
    clear hB
    by_cases hlt : k < L
    · have hkM : k < M.length := by rw [← HL.out]; exact hlt
      rcases HO3.out.2 with ⟨_, h0⟩ | ⟨g, cap3, cur, hv, hg, _⟩
      · omega
      · injection hv with e1 e2 e3
        subst e1
        subst e3
        obtain ⟨i0, f0⟩ := hrow g rfl k (Nat.le_refl _) hkM
        have HRW := Lib.hid (hrow g rfl)
        have HG := Lib.hid hg
        generalize M[k]!.1 = x at i0
        have hk0 : (0 : Int) ≤ (k : Int) := by omega
        have hkm : (k : Int) < (L : Int) := by omega
        clear hrow hkM e2 hg
        go_wp2_with fail
        go_roundw
        case rel => exact ⟨k + 1, by omega, by go_num, Below.setCell HB.out HG.out _, fun g2 h2 => by cases h2; exact HRW.out.set _⟩
        case measure => simp [intOf]; omega
    · obtain rfl : k = L := by omega
      have l1 : decide ((k : Int) < (k : Int)) = false := by simp
      obtain ⟨d0, d1, d2, s0, s1, s2, g0, g1, g2⟩ := HCC.out
      clear c0 c1 c2 r0 r1 r2 fr0 fr1 fr2 fc0 fc1 fc2 x0 x1 x2 x3 x4 x5 fx0 fx1 fx2 fx3 fx4 fx5
      replace g0 := frz_later HB.out g0 (lt_of_cell s0)
      replace g1 := frz_later HB.out g1 (lt_of_cell s1)
      replace g2 := frz_later HB.out g2 (lt_of_cell s2)
      replace s0 := cell_later HB.out s0
      replace s1 := cell_later HB.out s1
      replace s2 := cell_later HB.out s2
      replace d0 := cell_later HB.out d0
      replace d1 := cell_later HB.out d1
      replace d2 := cell_later HB.out d2
      have HBW := Lib.hid (Below.step HB0.out HB.out)
      clear hrow hlt hk
      go_wp2_with fail
      refine bodyPost_ret (v := .tuple #[rqV n a k cap fl, .bool true]) (by simp [results, Try.results30, go_sem, rqV, *]) rfl ?_
      have KF : Kept [bx + 1 + 1] wr (((wr.setCell ⟨bx + 1 + 1, 0, none⟩ (.int .i64 n)).setCell ⟨bx + 1 + 1, 1, none⟩ (.slice a k cap)).setCell ⟨bx + 1 + 1, 2, none⟩ (.int .u64 fl)) := (((Kept.refl _ _).setCell (Or.inl (by simp)) _).setCell (Or.inl (by simp)) _).setCell (Or.inl (by simp)) _
      have HBF := Kept.stepB HBW.out (Nat.le_refl _) KF (fun b hb => by have := HBX.out; simp at hb; omega)
      have HRL := HR.out.later HBF
      rw [HL.out] at HRL HBF ⊢
      exact ⟨a, cap, M, fl, F, rfl, HI.out.below HBF, HRL, Step.of HBF⟩
theorem mod_eight {k : Int} (h : 0 ≤ k) : k % 8 = 0 ∨ k % 8 = 1 ∨ k % 8 = 2 ∨ k % 8 = 3 ∨ k % 8 = 4 ∨ k % 8 = 5 ∨ k % 8 = 6 ∨ k % 8 = 7 := by omega
set_option maxRecDepth 100000 in
set_option maxHeartbeats 4000000 in
theorem qact_any {q : Nat} {F : List Nat} {n : Int} {M : Mems} {fl : Int} (a : Option Addr) (cap : Nat) (kd id v r g nn : Int) (w : World) (h : QIn w q F n M fl) (hr : HeldR encMs F w (.slice a M.length cap) M) (hk : True) (hkd : 0 ≤ kd) (hid : (Lit.int .i64 id).wf = true) (hx : Ch.Fits v r g) (hnn : -9223372036854775808 ≤ nn ∧ nn ≤ 9223372036854775807) :
    Calls Try.prog 30 #[.pointer (some ⟨q, 0, none⟩), .agg #[.int .i64 n, .slice a M.length cap, .int .u64 fl], .agg #[.int .u8 kd, .int .i64 id, .int .u64 v, .int .u32 r, .int .u32 g, .int .i64 nn]] w (QActP w q F n) := by
  rcases mod_eight hkd with e | e | e | e | e | e | e | e
  · exact act_enter0 a cap kd id v r g nn w h hr e hkd hid hx hnn
  · exact act_enter1 a cap kd id v r g nn w h hr e hkd hid hx hnn
  · exact act_leave a cap kd id v r g nn w h hr e hkd hid hx hnn
  · exact act_charge3 a cap kd id v r g nn w h hr e hkd hid hx hnn
  · exact act_charge4 a cap kd id v r g nn w h hr e hkd hid hx hnn
  · exact act_weigh a cap kd id v r g nn w h hr e hkd hid hx hnn
  · exact act_raise a cap kd id v r g nn w h hr e hkd hid hx hnn
  · exact act_look a cap kd id v r g nn w h hr e hkd hid hx hnn
end Go.Proofs.Ytekjakmeopolhaa
namespace Go.Proofs.Ytekjakmeopolhaa
open Go.RowKit Go.Maps Go.IntWalk Go.Lib
set_option linter.unusedVariables false
set_option linter.unusedSimpArgs false
theorem getE_some' {M : Mems} {id : Int} {x : Ent} (h : entM M id = some x) : getE M id = x ∧ (entM M id).isSome = true := by unfold getE; rw [h]; exact ⟨rfl, rfl⟩
theorem getE_none' {M : Mems} {id : Int} (h : entM M id = none) : getE M id = (0, 0, 0) ∧ (entM M id).isSome = false := by unfold getE; rw [h]; exact ⟨rfl, rfl⟩
theorem first_of' {M : Mems} (h0 : 0 < M.length) : firstI M = M[0]!.1 ∧ (!M.isEmpty) = true := by
  cases M with
  | nil => simp at h0
  | cons x r => exact ⟨rfl, rfl⟩
set_option maxRecDepth 100000 in
set_option maxHeartbeats 4000000 in
theorem qsame_any {q : Nat} {F : List Nat} {n : Int} {M : Mems} {fl : Int} (a : Option Addr) (cap : Nat) (id : Int) (w : World) (h : QIn w q F n M fl) (hr : HeldR encMs F w (.slice a M.length cap) M) (hid : (Lit.int .i64 id).wf = true) :
    Calls Try.prog 31 #[.pointer (some ⟨q, 0, none⟩), .agg #[.int .i64 n, .slice a M.length cap, .int .u64 fl], .int .i64 id] w fun e w' => e = .returned (.bool true) ∧ Below w.heap.size w w' := by
  have HI := Lib.hid h
  have HR := Lib.hid hr
  have HF := Lib.hid h.lt
  have HID := Lib.hid hid
  have hids := h.ids
  have HK := Lib.hid hids
  have AF := Lib.hid fun (W : World) (q : RecsAt encMs W (.slice a M.length cap) M) => rFind_any a cap n fl id M W q
  have ALo := Lib.hid fun (W : World) (q : RecsAt encMs W (.slice a M.length cap) M) => rLoad_any a cap n fl M W q hids.1.ok (by omega)
  clear hids
  have HRR := Lib.hid hr.recs
  clear h hr hid
  obtain ⟨L, hL⟩ : ∃ L, L = M.length := ⟨_, rfl⟩
  have HL := Lib.hid hL
  rw [← hL] at HRR HR AF ALo ⊢
  clear hL
  rcases findM_cases M id with ⟨k, hk, hf, hkid, hfst⟩ | ⟨hf, hkn⟩
  · have HGE := Lib.hid (getE_some' ((ent_some HK.out.1.nod).2 (show (id, M[k]!.2) ∈ M by rw [← hkid, getElem!_pos M k hk]; exact List.getElem_mem _)))
    have HFM := Lib.hid hf
    have hkL : k < L := by rw [HL.out]; exact hk
    obtain ⟨-, b, off, rfl, i0, i1, i2, i3⟩ := HRR.out.mem hkL
    obtain ⟨-, b', off', hbb, j0, -, -, -⟩ := HRR.out.mem (i := 0) (by omega)
    cases hbb
    rw [Nat.zero_mul, Nat.add_zero] at j0
    have HFI := Lib.hid (first_of' (M := M) (by omega))
    obtain ⟨m, hm⟩ : ∃ m, m = M[k]! := ⟨_, rfl⟩
    obtain ⟨x, hx⟩ : ∃ x, x = M[0]! := ⟨_, rfl⟩
    rw [← hm] at i1 i2 i3 HGE
    rw [← hx] at j0 HFI
    have hk0 : (0 : Int) ≤ (k : Int) := by omega
    have hkm : (k : Int) < (L : Int) := by omega
    have z1 : decide ((k : Int) ≥ 0) = true := decide_eq_true hk0
    have z2 : decide ((L : Int) > 0) = true := decide_eq_true (by omega)
    have z3 : decide (0 < L) = true := decide_eq_true (by omega)
    have z4 : (x.1 == x.1) = true := by simp
    have z5 : (0 : Int) < (L : Int) := by omega
    have zq := eq3_self m.2.1 m.2.2.1 m.2.2.2
    clear hk hf hkid hfst hkL i0 hm hx
    obtain ⟨W0, hW0⟩ : ∃ W0, W0 = (w.alloc (.cells #[.int .i64 n, .slice (some ⟨b, off, none⟩) L cap, .int .u64 fl] 68)) := ⟨_, rfl⟩
    have HB0 := Lib.hid (show Below w.heap.size w W0 by rw [hW0]; exact (Below.allocS (Below.refl _ _) _))
    have c0 : W0.cell? ⟨w.heap.size, 0, none⟩ = some (.int .i64 n) := by rw [hW0]; exact cell_nwE (by simp) _ _ 0 _ rfl
    have fc0 : W0.frozen? ⟨w.heap.size, 0, none⟩ = false := by rw [hW0]; exact frz_nwE (by simp) _ _ 0
    have c1 : W0.cell? ⟨w.heap.size, 1, none⟩ = some (.slice (some ⟨b, off, none⟩) L cap) := by rw [hW0]; exact cell_nwE (by simp) _ _ 1 _ rfl
    have fc1 : W0.frozen? ⟨w.heap.size, 1, none⟩ = false := by rw [hW0]; exact frz_nwE (by simp) _ _ 1
    have c2 : W0.cell? ⟨w.heap.size, 2, none⟩ = some (.int .u64 fl) := by rw [hW0]; exact cell_nwE (by simp) _ _ 2 _ rfl
    have fc2 : W0.frozen? ⟨w.heap.size, 2, none⟩ = false := by rw [hW0]; exact frz_nwE (by simp) _ _ 2
    have HSZ := Lib.hid (show W0.heap.size = w.heap.size + 1 by rw [hW0]; simp)
    have HW0 := Lib.hid hW0
    clear hW0
    replace i1 := cell_later HB0.out i1
    replace i2 := cell_later HB0.out i2
    replace i3 := cell_later HB0.out i3
    replace j0 := cell_later HB0.out j0
    go_enter Try.func31, Try.ntmps31
    go_wp2_with fail
    rw [← HW0.out]
    generalize hbx : w.heap.size = bx at c0 c1 c2 fc0 fc1 fc2 HSZ  ⊢
    have HBX := Lib.hid hbx
    clear hbx HW0
    refine (Get_at id W0 (HI.out.below HB0.out) HID.out).mono ?_
    rintro e w2 ⟨rfl, hb2⟩
    rw [HGE.out.1, HGE.out.2]
    replace fc0 := frz_later hb2 fc0 (lt_of_cell c0)
    replace fc1 := frz_later hb2 fc1 (lt_of_cell c1)
    replace fc2 := frz_later hb2 fc2 (lt_of_cell c2)
    replace c0 := cell_later hb2 c0
    replace c1 := cell_later hb2 c1
    replace c2 := cell_later hb2 c2
    replace i1 := cell_later hb2 i1
    replace i2 := cell_later hb2 i2
    replace i3 := cell_later hb2 i3
    replace j0 := cell_later hb2 j0
    have HB2 := Lib.hid (Below.step HB0.out hb2)
    clear hb2
    have y0 : (w2.alloc (.cells #[.int .u64 m.2.1, .int .u32 m.2.2.1, .int .u32 m.2.2.2] 32)).cell? ⟨w2.heap.size, 0, none⟩ = some (.int .u64 m.2.1) := cell_nw w2 _ _ 0 _ rfl
    have y1 : (w2.alloc (.cells #[.int .u64 m.2.1, .int .u32 m.2.2.1, .int .u32 m.2.2.2] 32)).cell? ⟨w2.heap.size, 1, none⟩ = some (.int .u32 m.2.2.1) := cell_nw w2 _ _ 1 _ rfl
    have y2 : (w2.alloc (.cells #[.int .u64 m.2.1, .int .u32 m.2.2.1, .int .u32 m.2.2.2] 32)).cell? ⟨w2.heap.size, 2, none⟩ = some (.int .u32 m.2.2.2) := cell_nw w2 _ _ 2 _ rfl
    have hb3 := below_a w2 (.cells #[.int .u64 m.2.1, .int .u32 m.2.2.1, .int .u32 m.2.2.2] 32)
    replace fc0 := frz_later hb3 fc0 (lt_of_cell c0)
    replace fc1 := frz_later hb3 fc1 (lt_of_cell c1)
    replace fc2 := frz_later hb3 fc2 (lt_of_cell c2)
    replace c0 := cell_later hb3 c0
    replace c1 := cell_later hb3 c1
    replace c2 := cell_later hb3 c2
    replace i1 := cell_later hb3 i1
    replace i2 := cell_later hb3 i2
    replace i3 := cell_later hb3 i3
    replace j0 := cell_later hb3 j0
    have HB3a := Lib.hid (Below.step HB2.out hb3)
    clear hb3
    go_wp2_with fail
    generalize w2.alloc (.cells #[.int .u64 m.2.1, .int .u32 m.2.2.1, .int .u32 m.2.2.2] 32) = w2a at *
    generalize w2.heap.size = b7 at *
    refine (AF.out w2a (HRR.out.later HB3a.out)).mono ?_
    rintro e w3 ⟨rfl, hg3⟩
    have hb3 := hg3.below
    rw [HFM.out]
    replace fc0 := frz_later hb3 fc0 (lt_of_cell c0)
    replace fc1 := frz_later hb3 fc1 (lt_of_cell c1)
    replace fc2 := frz_later hb3 fc2 (lt_of_cell c2)
    replace c0 := cell_later hb3 c0
    replace c1 := cell_later hb3 c1
    replace c2 := cell_later hb3 c2
    replace i1 := cell_later hb3 i1
    replace i2 := cell_later hb3 i2
    replace i3 := cell_later hb3 i3
    replace j0 := cell_later hb3 j0
    replace y0 := cell_later hb3 y0
    replace y1 := cell_later hb3 y1
    replace y2 := cell_later hb3 y2
    have HB3 := Lib.hid (Below.step HB3a.out hb3)
    clear hb3 hg3
    have HH := Lib.hid (show QIn w3.drew q F n M fl from (HI.out.below HB3.out).below (Below.refl _ _).drew)
    have RR := Lib.hid (show RecsAt encMs w3.drew (.slice (some ⟨b, off, none⟩) L cap) M from HRR.out.later (Below.step HB3.out (Below.refl _ _).drew))
    go_wp2_with fail
    have hS0 : Below w3.heap.size w3 w3.drew ∧ w3.drew.cell? ⟨bx, 0, none⟩ = some (.int .i64 n) ∧ w3.drew.cell? ⟨bx, 1, none⟩ = some (.slice (some ⟨b, off, none⟩) L cap) ∧ w3.drew.cell? ⟨bx, 2, none⟩ = some (.int .u64 fl) ∧ w3.drew.cell? ⟨b7, 0, none⟩ = some (.int .u64 m.2.1) ∧ w3.drew.cell? ⟨b7, 1, none⟩ = some (.int .u32 m.2.2.1) ∧ w3.drew.cell? ⟨b7, 2, none⟩ = some (.int .u32 m.2.2.2) ∧ w3.drew.cell? ⟨b, off + k * 4 + 1, none⟩ = some (.int .u64 m.2.1) ∧ w3.drew.cell? ⟨b, off + k * 4 + 2, none⟩ = some (.int .u32 m.2.2.1) ∧ w3.drew.cell? ⟨b, off + k * 4 + 3, none⟩ = some (.int .u32 m.2.2.2) := ⟨Below.drew (Below.refl _ _), cell_dr c0, cell_dr c1, cell_dr c2, cell_dr y0, cell_dr y1, cell_dr y2, cell_dr i1, cell_dr i2, cell_dr i3⟩
    refine wp_region_held_drew (S := fun w' => Below w3.heap.size w3 w' ∧ w'.cell? ⟨bx, 0, none⟩ = some (.int .i64 n) ∧ w'.cell? ⟨bx, 1, none⟩ = some (.slice (some ⟨b, off, none⟩) L cap) ∧ w'.cell? ⟨bx, 2, none⟩ = some (.int .u64 fl) ∧ w'.cell? ⟨b7, 0, none⟩ = some (.int .u64 m.2.1) ∧ w'.cell? ⟨b7, 1, none⟩ = some (.int .u32 m.2.2.1) ∧ w'.cell? ⟨b7, 2, none⟩ = some (.int .u32 m.2.2.2) ∧ w'.cell? ⟨b, off + k * 4 + 1, none⟩ = some (.int .u64 m.2.1) ∧ w'.cell? ⟨b, off + k * 4 + 2, none⟩ = some (.int .u32 m.2.2.1) ∧ w'.cell? ⟨b, off + k * 4 + 3, none⟩ = some (.int .u32 m.2.2.2)) (by kernel_rfl) hS0 (fun hHeld => ?_)
    refine takeH (i := 0) (v := ?v0_1) rfl (by kernel_rfl) (fun _ _ _ h => h) (by rfl) ?hy0_1 (by assumption) ?rest0_1
    case hy0_1 => (intro w hSw; (try dsimp only at hSw); go_simp; try with_reducible rfl)
    try simp only [Act.put, List.setIfInBounds_toArray, List.set_cons_zero, List.set_cons_succ]
    refine takeH (i := 1) (v := ?v1_2) rfl (by kernel_rfl) (fun _ _ _ h => h) (by rfl) ?hy1_2 (by assumption) ?rest1_2
    case hy1_2 => (intro w hSw; (try dsimp only at hSw); go_simp; try with_reducible rfl)
    try simp only [Act.put, List.setIfInBounds_toArray, List.set_cons_zero, List.set_cons_succ]
    refine takeH (i := 2) (v := ?v2_3) rfl (by kernel_rfl) (fun _ _ _ h => h) (by rfl) ?hy2_3 (by assumption) ?rest2_3
    case hy2_3 => (intro w hSw; (try dsimp only at hSw); go_simp; try with_reducible rfl)
    try simp only [Act.put, List.setIfInBounds_toArray, List.set_cons_zero, List.set_cons_succ]
    refine takeH (i := 3) (v := ?v3_4) rfl (by kernel_rfl) (fun _ _ _ h => h) (by rfl) ?hy3_4 (by assumption) ?rest3_4
    case hy3_4 => (intro w hSw; (try dsimp only at hSw); go_simp; try with_reducible rfl)
    try simp only [Act.put, List.setIfInBounds_toArray, List.set_cons_zero, List.set_cons_succ]
    refine takeH (i := 4) (v := ?v4_5) rfl (by kernel_rfl) (fun _ _ _ h => h) (by rfl) ?hy4_5 (by assumption) ?rest4_5
    case hy4_5 => (intro w hSw; (try dsimp only at hSw); go_simp; try with_reducible rfl)
    try simp only [Act.put, List.setIfInBounds_toArray, List.set_cons_zero, List.set_cons_succ]
    refine takeH (i := 5) (v := ?v5_6) rfl (by kernel_rfl) (fun _ _ _ h => h) (by rfl) ?hy5_6 (by assumption) ?rest5_6
    case hy5_6 => (intro w hSw; (try dsimp only at hSw); go_simp; try with_reducible rfl)
    try simp only [Act.put, List.setIfInBounds_toArray, List.set_cons_zero, List.set_cons_succ]
    refine takeH (i := 6) (v := ?v6_7) rfl (by kernel_rfl) (fun _ _ _ h => h) (by rfl) ?hy6_7 (by assumption) ?rest6_7
    case hy6_7 => (intro w hSw; (try dsimp only at hSw); go_simp; try with_reducible rfl)
    try simp only [Act.put, List.setIfInBounds_toArray, List.set_cons_zero, List.set_cons_succ]
    refine takeH (i := 7) (v := ?v7_8) rfl (by kernel_rfl) (fun _ _ _ h => h) (by rfl) ?hy7_8 (by assumption) ?rest7_8
    case hy7_8 => (intro w hSw; (try dsimp only at hSw); go_simp; try with_reducible rfl)
    try simp only [Act.put, List.setIfInBounds_toArray, List.set_cons_zero, List.set_cons_succ]
    refine takeH (i := 8) (v := ?v8_9) rfl (by kernel_rfl) (fun _ _ _ h => h) (by rfl) ?hy8_9 (by assumption) ?rest8_9
    case hy8_9 => (intro w hSw; (try dsimp only at hSw); go_simp; try with_reducible rfl)
    try simp only [Act.put, List.setIfInBounds_toArray, List.set_cons_zero, List.set_cons_succ]
    refine takeH (i := 9) (v := ?v9_10) rfl (by kernel_rfl) (fun _ _ _ h => h) (by rfl) ?hy9_10 (by assumption) ?rest9_10
    case hy9_10 => (intro w hSw; (try dsimp only at hSw); go_simp; try with_reducible rfl)
    try simp only [Act.put, List.setIfInBounds_toArray, List.set_cons_zero, List.set_cons_succ]
    refine takeH (i := 10) (v := ?v10_11) rfl (by kernel_rfl) (fun _ _ _ h => h) (by rfl) ?hy10_11 (by assumption) ?rest10_11
    case hy10_11 => (intro w hSw; (try dsimp only at hSw); go_simp; try with_reducible rfl)
    try simp only [Act.put, List.setIfInBounds_toArray, List.set_cons_zero, List.set_cons_succ]
    refine takeH (i := 11) (v := ?v11_12) rfl (by kernel_rfl) (fun _ _ _ h => h) (by rfl) ?hy11_12 (by assumption) ?rest11_12
    case hy11_12 => (intro w hSw; (try dsimp only at hSw); go_simp; try with_reducible rfl)
    try simp only [Act.put, List.setIfInBounds_toArray, List.set_cons_zero, List.set_cons_succ]
    refine takeH (i := 12) (v := ?v12_13) rfl (by kernel_rfl) (fun _ _ _ h => h) (by rfl) ?hy12_13 (by assumption) ?rest12_13
    case hy12_13 => (intro w hSw; (try dsimp only at hSw); go_simp; try with_reducible rfl)
    try simp only [Act.put, List.setIfInBounds_toArray, List.set_cons_zero, List.set_cons_succ]
    refine takeH (i := 13) (v := ?v13_14) rfl (by kernel_rfl) (fun _ _ _ h => h) (by rfl) ?hy13_14 (by assumption) ?rest13_14
    case hy13_14 => (intro w hSw; (try dsimp only at hSw); go_simp; try with_reducible rfl)
    try simp only [Act.put, List.setIfInBounds_toArray, List.set_cons_zero, List.set_cons_succ]
    refine takeH (i := 14) (v := ?v14_15) rfl (by kernel_rfl) (fun _ _ _ h => h) (by rfl) ?hy14_15 (by assumption) ?rest14_15
    case hy14_15 => (intro w hSw; (try dsimp only at hSw); go_simp; try with_reducible rfl)
    try simp only [Act.put, List.setIfInBounds_toArray, List.set_cons_zero, List.set_cons_succ]
    refine takeH (i := 15) (v := ?v15_16) rfl (by kernel_rfl) (fun _ _ _ h => h) (by rfl) ?hy15_16 (by assumption) ?rest15_16
    case hy15_16 => (intro w hSw; (try dsimp only at hSw); go_simp; try with_reducible rfl)
    try simp only [Act.put, List.setIfInBounds_toArray, List.set_cons_zero, List.set_cons_succ]
    refine takeH (i := 16) (v := ?v16_17) rfl (by kernel_rfl) (fun _ _ _ h => h) (by rfl) ?hy16_17 (by assumption) ?rest16_17
    case hy16_17 => (intro w hSw; (try dsimp only at hSw); go_simp; try with_reducible rfl)
    try simp only [Act.put, List.setIfInBounds_toArray, List.set_cons_zero, List.set_cons_succ]
    refine takeH (i := 17) (v := ?v17_18) rfl (by kernel_rfl) (fun _ _ _ h => h) (by rfl) ?hy17_18 (by assumption) ?rest17_18
    case hy17_18 => (intro w hSw; (try dsimp only at hSw); go_simp; try with_reducible rfl)
    try simp only [Act.put, List.setIfInBounds_toArray, List.set_cons_zero, List.set_cons_succ]
    refine takeH (i := 18) (v := ?v18_19) rfl (by kernel_rfl) (fun _ _ _ h => h) (by rfl) ?hy18_19 (by assumption) ?rest18_19
    case hy18_19 => (intro w hSw; (try dsimp only at hSw); go_simp; try with_reducible rfl)
    try simp only [Act.put, List.setIfInBounds_toArray, List.set_cons_zero, List.set_cons_succ]
    refine takeH (i := 19) (v := ?v19_20) rfl (by kernel_rfl) (fun _ _ _ h => h) (by rfl) ?hy19_20 (by assumption) ?rest19_20
    case hy19_20 => (intro w hSw; (try dsimp only at hSw); go_simp; try with_reducible rfl)
    try simp only [Act.put, List.setIfInBounds_toArray, List.set_cons_zero, List.set_cons_succ]
    refine takeH (i := 20) (v := ?v20_21) rfl (by kernel_rfl) (fun _ _ _ h => h) (by rfl) ?hy20_21 (by assumption) ?rest20_21
    case hy20_21 => (intro w hSw; (try dsimp only at hSw); go_simp; try with_reducible rfl)
    try simp only [Act.put, List.setIfInBounds_toArray, List.set_cons_zero, List.set_cons_succ]
    refine skipH (i := 21) rfl (by kernel_rfl) (fun _ _ _ h => h) (by kernel_rfl) (by assumption) ?_
    try simp only [Act.put, List.setIfInBounds_toArray, List.set_cons_zero, List.set_cons_succ]
    refine skipH (i := 22) rfl (by kernel_rfl) (fun _ _ _ h => h) (by kernel_rfl) (by assumption) ?_
    try simp only [Act.put, List.setIfInBounds_toArray, List.set_cons_zero, List.set_cons_succ]
    refine skipH (i := 23) rfl (by kernel_rfl) (fun _ _ _ h => h) (by kernel_rfl) (by assumption) ?_
    try simp only [Act.put, List.setIfInBounds_toArray, List.set_cons_zero, List.set_cons_succ]
    refine takeH (i := 24) (v := ?v24_22) rfl (by kernel_rfl) (fun _ _ _ h => h) (by rfl) ?hy24_22 (by assumption) ?rest24_22
    case hy24_22 => (intro w hSw; (try dsimp only at hSw); go_simp; try with_reducible rfl)
    try simp only [Act.put, List.setIfInBounds_toArray, List.set_cons_zero, List.set_cons_succ]
    refine takeH (i := 25) (v := ?v25_23) rfl (by kernel_rfl) (fun _ _ _ h => h) (by rfl) ?hy25_23 (by assumption) ?rest25_23
    case hy25_23 => (intro w hSw; (try dsimp only at hSw); go_simp; try with_reducible rfl)
    try simp only [Act.put, List.setIfInBounds_toArray, List.set_cons_zero, List.set_cons_succ]
    refine takeH (i := 26) (v := ?v26_24) rfl (by kernel_rfl) (fun _ _ _ h => h) (by rfl) ?hy26_24 (by assumption) ?rest26_24
    case hy26_24 => (intro w hSw; (try dsimp only at hSw); go_simp; try with_reducible rfl)
    try simp only [Act.put, List.setIfInBounds_toArray, List.set_cons_zero, List.set_cons_succ]
    refine takeH (i := 27) (v := ?v27_25) rfl (by kernel_rfl) (fun _ _ _ h => h) (by rfl) ?hy27_25 (by assumption) ?rest27_25
    case hy27_25 => (intro w hSw; (try dsimp only at hSw); go_simp; try with_reducible rfl)
    try simp only [Act.put, List.setIfInBounds_toArray, List.set_cons_zero, List.set_cons_succ]
    refine takeH (i := 29) (v := ?v29_26) rfl (by kernel_rfl) (fun _ _ _ h => h) (by rfl) ?hy29_26 (by assumption) ?rest29_26
    case hy29_26 => (intro w hSw; (try dsimp only at hSw); go_simp; try with_reducible rfl)
    try simp only [Act.put, List.setIfInBounds_toArray, List.set_cons_zero, List.set_cons_succ]
    refine takeH (i := 30) (v := ?v30_27) rfl (by kernel_rfl) (fun _ _ _ h => h) (by rfl) ?hy30_27 (by assumption) ?rest30_27
    case hy30_27 => (intro w hSw; (try dsimp only at hSw); go_simp; try with_reducible rfl)
    try simp only [Act.put, List.setIfInBounds_toArray, List.set_cons_zero, List.set_cons_succ]
    refine takeH (i := 31) (v := ?v31_28) rfl (by kernel_rfl) (fun _ _ _ h => h) (by rfl) ?hy31_28 (by assumption) ?rest31_28
    case hy31_28 => (intro w hSw; (try dsimp only at hSw); go_simp; try with_reducible rfl)
    try simp only [Act.put, List.setIfInBounds_toArray, List.set_cons_zero, List.set_cons_succ]
    refine wpAnyH_ready (rs := [28]) (by kernel_rfl) (by simp) ?_
    refine consH rfl (fun K hK => ?_) (AllReadyH.nil)
    go_simp
    refine (Len_at' _ HH.out).mono ?_
    rintro e w4 ⟨rfl, rfl⟩
    rw [← HL.out]
    go_wp2_with fail
    refine hK.out _ _ ?_ (fun hHeld28 => ?_)
    · (first | assumption | (refine held_9 (by assumption) ?_; assumption) | (refine held_9 (below_ad _ _) ?_; assumption) | (refine held_9 (below_a _ _) ?_; assumption))
    clear hK K
    try simp only [Act.put, List.setIfInBounds_toArray, List.set_cons_zero, List.set_cons_succ]
    refine takeH (i := 32) (v := ?v32_29) rfl (by kernel_rfl) (fun _ _ _ h => h) (by rfl) ?hy32_29 (by assumption) ?rest32_29
    case hy32_29 => (intro w hSw; (try dsimp only at hSw); go_simp; try with_reducible rfl)
    try simp only [Act.put, List.setIfInBounds_toArray, List.set_cons_zero, List.set_cons_succ]
    refine takeH (i := 33) (v := ?v33_30) rfl (by kernel_rfl) (fun _ _ _ h => h) (by rfl) ?hy33_30 (by assumption) ?rest33_30
    case hy33_30 => (intro w hSw; (try dsimp only at hSw); go_simp; try with_reducible rfl)
    try simp only [Act.put, List.setIfInBounds_toArray, List.set_cons_zero, List.set_cons_succ]
    refine takeH (i := 34) (v := ?v34_31) rfl (by kernel_rfl) (fun _ _ _ h => h) (by rfl) ?hy34_31 (by assumption) ?rest34_31
    case hy34_31 => (intro w hSw; (try dsimp only at hSw); go_simp; try with_reducible rfl)
    try simp only [Act.put, List.setIfInBounds_toArray, List.set_cons_zero, List.set_cons_succ]
    refine takeH (i := 35) (v := ?v35_32) rfl (by kernel_rfl) (fun _ _ _ h => h) (by rfl) ?hy35_32 (by assumption) ?rest35_32
    case hy35_32 => (intro w hSw; (try dsimp only at hSw); go_simp; try with_reducible rfl)
    try simp only [Act.put, List.setIfInBounds_toArray, List.set_cons_zero, List.set_cons_succ]
    refine takeH (i := 37) (v := ?v37_33) rfl (by kernel_rfl) (fun _ _ _ h => h) (by rfl) ?hy37_33 (by assumption) ?rest37_33
    case hy37_33 => (intro w hSw; (try dsimp only at hSw); go_simp; try with_reducible rfl)
    try simp only [Act.put, List.setIfInBounds_toArray, List.set_cons_zero, List.set_cons_succ]
    refine takeH (i := 38) (v := ?v38_34) rfl (by kernel_rfl) (fun _ _ _ h => h) (by rfl) ?hy38_34 (by assumption) ?rest38_34
    case hy38_34 => (intro w hSw; (try dsimp only at hSw); go_simp; try with_reducible rfl)
    try simp only [Act.put, List.setIfInBounds_toArray, List.set_cons_zero, List.set_cons_succ]
    refine wpAnyH_ready (rs := [36]) (by kernel_rfl) (by simp) ?_
    refine consH rfl (fun K hK => ?_) (AllReadyH.nil)
    go_simp
    refine (Floor_at _ HH.out).mono ?_
    rintro e w4 ⟨rfl, rfl⟩
    go_wp2_with fail
    refine hK.out _ _ ?_ (fun hHeld36 => ?_)
    · (first | assumption | (refine held_9 (by assumption) ?_; assumption) | (refine held_9 (below_ad _ _) ?_; assumption) | (refine held_9 (below_a _ _) ?_; assumption))
    clear hK K
    try simp only [Act.put, List.setIfInBounds_toArray, List.set_cons_zero, List.set_cons_succ]
    refine takeH (i := 39) (v := ?v39_35) rfl (by kernel_rfl) (fun _ _ _ h => h) (by rfl) ?hy39_35 (by assumption) ?rest39_35
    case hy39_35 => (intro w hSw; (try dsimp only at hSw); go_simp; try with_reducible rfl)
    try simp only [Act.put, List.setIfInBounds_toArray, List.set_cons_zero, List.set_cons_succ]
    refine takeH (i := 40) (v := ?v40_36) rfl (by kernel_rfl) (fun _ _ _ h => h) (by rfl) ?hy40_36 (by assumption) ?rest40_36
    case hy40_36 => (intro w hSw; (try dsimp only at hSw); go_simp; try with_reducible rfl)
    try simp only [Act.put, List.setIfInBounds_toArray, List.set_cons_zero, List.set_cons_succ]
    refine takeH (i := 41) (v := ?v41_37) rfl (by kernel_rfl) (fun _ _ _ h => h) (by rfl) ?hy41_37 (by assumption) ?rest41_37
    case hy41_37 => (intro w hSw; (try dsimp only at hSw); go_simp; try with_reducible rfl)
    try simp only [Act.put, List.setIfInBounds_toArray, List.set_cons_zero, List.set_cons_succ]
    refine takeH (i := 42) (v := ?v42_38) rfl (by kernel_rfl) (fun _ _ _ h => h) (by rfl) ?hy42_38 (by assumption) ?rest42_38
    case hy42_38 => (intro w hSw; (try dsimp only at hSw); go_simp; try with_reducible rfl)
    try simp only [Act.put, List.setIfInBounds_toArray, List.set_cons_zero, List.set_cons_succ]
    refine takeH (i := 44) (v := ?v44_39) rfl (by kernel_rfl) (fun _ _ _ h => h) (by rfl) ?hy44_39 (by assumption) ?rest44_39
    case hy44_39 => (intro w hSw; (try dsimp only at hSw); go_simp; try with_reducible rfl)
    try simp only [Act.put, List.setIfInBounds_toArray, List.set_cons_zero, List.set_cons_succ]
    refine wpAnyH_ready (rs := [43]) (by kernel_rfl) (by simp) ?_
    refine consH rfl (fun K hK => ?_) (AllReadyH.nil)
    go_simp
    refine (Load_at _ (by first | exact HH.out | exact HH5.out)).mono ?_
    rintro e w4 ⟨rfl, rfl⟩
    go_wp2_with fail
    refine hK.out _ _ ?_ (fun hHeld43 => ?_)
    · (first | assumption | (refine held_9 (by assumption) ?_; assumption) | (refine held_9 (below_ad _ _) ?_; assumption) | (refine held_9 (below_a _ _) ?_; assumption))
    clear hK K
    try simp only [Act.put, List.setIfInBounds_toArray, List.set_cons_zero, List.set_cons_succ]
    refine wpAnyH_ready (rs := [45]) (by kernel_rfl) (by simp) ?_
    refine consH rfl (fun K hK => ?_) (AllReadyH.nil)
    go_simp
    refine (ALo.out _ RR.out).mono ?_
    rintro e w5 ⟨rfl, hg5⟩
    have hb5 := hg5.below
    have HH5 := Lib.hid (HH.out.below hb5)
    go_wp2_with fail
    refine hK.out _ _ ?_ (fun hHeld45 => ?_)
    · (first | assumption | (refine held_9 (by assumption) ?_; assumption) | (refine held_9 (below_ad _ _) ?_; assumption) | (refine held_9 (below_a _ _) ?_; assumption))
    clear hK K
    try simp only [Act.put, List.setIfInBounds_toArray, List.set_cons_zero, List.set_cons_succ]
    refine takeH (i := 46) (v := ?v46_40) rfl (by kernel_rfl) (fun _ _ _ h => h) (by rfl) ?hy46_40 (by assumption) ?rest46_40
    case hy46_40 => (intro w hSw; (try dsimp only at hSw); go_simp; try with_reducible rfl)
    try simp only [Act.put, List.setIfInBounds_toArray, List.set_cons_zero, List.set_cons_succ]
    refine takeH (i := 47) (v := ?v47_41) rfl (by kernel_rfl) (fun _ _ _ h => h) (by rfl) ?hy47_41 (by assumption) ?rest47_41
    case hy47_41 => (intro w hSw; (try dsimp only at hSw); go_simp; try with_reducible rfl)
    try simp only [Act.put, List.setIfInBounds_toArray, List.set_cons_zero, List.set_cons_succ]
    refine wpAnyH_done (by kernel_rfl) ?_ _
    have HB5 := Lib.hid (Below.step (Below.step HB3.out (Below.refl _ _).drew) hb5)
    replace c1 := cell_later hb5 (cell_dr c1)
    replace j0 := cell_later hb5 (cell_dr j0)
    go_wp2_with fail
    refine (First_at w5 HH5.out).mono ?_
    rintro e w6 ⟨rfl, hb6⟩
    rw [HFI.out.1, HFI.out.2]
    replace c1 := cell_later hb6 c1
    replace j0 := cell_later hb6 j0
    have HB6 := Lib.hid (Below.step HB5.out hb6)
    clear hb6
    go_wp2_with fail
    go_ret
    exact ⟨rfl, HB6.out⟩
  · have HGE := Lib.hid (getE_none' hkn)
    have HFM := Lib.hid hf
    have z1 : decide ((-1 : Int) ≥ 0) = false := by decide
    have zq := eq3_self 0 0 0
    by_cases h0 : L = 0
    · have hM0 : M = [] := List.length_eq_zero_iff.1 (by rw [← HL.out]; exact h0)
      have HFI := Lib.hid (show firstI M = 0 ∧ (!M.isEmpty) = false by rw [hM0]; exact ⟨rfl, rfl⟩)
      have z2 : decide ((L : Int) > 0) = false := decide_eq_false (by omega)
      have z3 : decide (0 < L) = false := decide_eq_false (by omega)
      have z4 : (0 < L) = False := eq_false (by omega)
      clear hf hkn hM0 h0
      obtain ⟨W0, hW0⟩ : ∃ W0, W0 = (w.alloc (.cells #[.int .i64 n, .slice a L cap, .int .u64 fl] 68)) := ⟨_, rfl⟩
      have HB0 := Lib.hid (show Below w.heap.size w W0 by rw [hW0]; exact (Below.allocS (Below.refl _ _) _))
      have c0 : W0.cell? ⟨w.heap.size, 0, none⟩ = some (.int .i64 n) := by rw [hW0]; exact cell_nwE (by simp) _ _ 0 _ rfl
      have fc0 : W0.frozen? ⟨w.heap.size, 0, none⟩ = false := by rw [hW0]; exact frz_nwE (by simp) _ _ 0
      have c1 : W0.cell? ⟨w.heap.size, 1, none⟩ = some (.slice a L cap) := by rw [hW0]; exact cell_nwE (by simp) _ _ 1 _ rfl
      have fc1 : W0.frozen? ⟨w.heap.size, 1, none⟩ = false := by rw [hW0]; exact frz_nwE (by simp) _ _ 1
      have c2 : W0.cell? ⟨w.heap.size, 2, none⟩ = some (.int .u64 fl) := by rw [hW0]; exact cell_nwE (by simp) _ _ 2 _ rfl
      have fc2 : W0.frozen? ⟨w.heap.size, 2, none⟩ = false := by rw [hW0]; exact frz_nwE (by simp) _ _ 2
      have HSZ := Lib.hid (show W0.heap.size = w.heap.size + 1 by rw [hW0]; simp)
      have HW0 := Lib.hid hW0
      clear hW0
      go_enter Try.func31, Try.ntmps31
      go_wp2_with fail
      rw [← HW0.out]
      generalize hbx : w.heap.size = bx at c0 c1 c2 fc0 fc1 fc2 HSZ  ⊢
      have HBX := Lib.hid hbx
      clear hbx HW0
      refine (Get_at id W0 (HI.out.below HB0.out) HID.out).mono ?_
      rintro e w2 ⟨rfl, hb2⟩
      rw [HGE.out.1, HGE.out.2]
      replace fc0 := frz_later hb2 fc0 (lt_of_cell c0)
      replace fc1 := frz_later hb2 fc1 (lt_of_cell c1)
      replace fc2 := frz_later hb2 fc2 (lt_of_cell c2)
      replace c0 := cell_later hb2 c0
      replace c1 := cell_later hb2 c1
      replace c2 := cell_later hb2 c2
      have HB2 := Lib.hid (Below.step HB0.out hb2)
      clear hb2
      have y0 : (w2.alloc (.cells #[.int .u64 0, .int .u32 0, .int .u32 0] 32)).cell? ⟨w2.heap.size, 0, none⟩ = some (.int .u64 0) := cell_nw w2 _ _ 0 _ rfl
      have y1 : (w2.alloc (.cells #[.int .u64 0, .int .u32 0, .int .u32 0] 32)).cell? ⟨w2.heap.size, 1, none⟩ = some (.int .u32 0) := cell_nw w2 _ _ 1 _ rfl
      have y2 : (w2.alloc (.cells #[.int .u64 0, .int .u32 0, .int .u32 0] 32)).cell? ⟨w2.heap.size, 2, none⟩ = some (.int .u32 0) := cell_nw w2 _ _ 2 _ rfl
      have hb3 := below_a w2 (.cells #[.int .u64 0, .int .u32 0, .int .u32 0] 32)
      replace fc0 := frz_later hb3 fc0 (lt_of_cell c0)
      replace fc1 := frz_later hb3 fc1 (lt_of_cell c1)
      replace fc2 := frz_later hb3 fc2 (lt_of_cell c2)
      replace c0 := cell_later hb3 c0
      replace c1 := cell_later hb3 c1
      replace c2 := cell_later hb3 c2
      have HB3a := Lib.hid (Below.step HB2.out hb3)
      clear hb3
      go_wp2_with fail
      generalize w2.alloc (.cells #[.int .u64 0, .int .u32 0, .int .u32 0] 32) = w2a at *
      generalize w2.heap.size = b7 at *
      refine (AF.out w2a (HRR.out.later HB3a.out)).mono ?_
      rintro e w3 ⟨rfl, hg3⟩
      have hb3 := hg3.below
      rw [HFM.out]
      replace fc0 := frz_later hb3 fc0 (lt_of_cell c0)
      replace fc1 := frz_later hb3 fc1 (lt_of_cell c1)
      replace fc2 := frz_later hb3 fc2 (lt_of_cell c2)
      replace c0 := cell_later hb3 c0
      replace c1 := cell_later hb3 c1
      replace c2 := cell_later hb3 c2
      replace y0 := cell_later hb3 y0
      replace y1 := cell_later hb3 y1
      replace y2 := cell_later hb3 y2
      have HB3 := Lib.hid (Below.step HB3a.out hb3)
      clear hb3 hg3
      have HH := Lib.hid (show QIn w3.drew q F n M fl from (HI.out.below HB3.out).below (Below.refl _ _).drew)
      have RR := Lib.hid (show RecsAt encMs w3.drew (.slice a L cap) M from HRR.out.later (Below.step HB3.out (Below.refl _ _).drew))
      go_wp2_with fail
      have hS0 : Below w3.heap.size w3 w3.drew ∧ w3.drew.cell? ⟨bx, 0, none⟩ = some (.int .i64 n) ∧ w3.drew.cell? ⟨bx, 1, none⟩ = some (.slice a L cap) ∧ w3.drew.cell? ⟨bx, 2, none⟩ = some (.int .u64 fl) ∧ w3.drew.cell? ⟨b7, 0, none⟩ = some (.int .u64 0) ∧ w3.drew.cell? ⟨b7, 1, none⟩ = some (.int .u32 0) ∧ w3.drew.cell? ⟨b7, 2, none⟩ = some (.int .u32 0) := ⟨Below.drew (Below.refl _ _), cell_dr c0, cell_dr c1, cell_dr c2, cell_dr y0, cell_dr y1, cell_dr y2⟩
      refine wp_region_held_drew (S := fun w' => Below w3.heap.size w3 w' ∧ w'.cell? ⟨bx, 0, none⟩ = some (.int .i64 n) ∧ w'.cell? ⟨bx, 1, none⟩ = some (.slice a L cap) ∧ w'.cell? ⟨bx, 2, none⟩ = some (.int .u64 fl) ∧ w'.cell? ⟨b7, 0, none⟩ = some (.int .u64 0) ∧ w'.cell? ⟨b7, 1, none⟩ = some (.int .u32 0) ∧ w'.cell? ⟨b7, 2, none⟩ = some (.int .u32 0)) (by kernel_rfl) hS0 (fun hHeld => ?_)
      refine takeH (i := 0) (v := ?v0_42) rfl (by kernel_rfl) (fun _ _ _ h => h) (by rfl) ?hy0_42 (by assumption) ?rest0_42
      case hy0_42 => (intro w hSw; (try dsimp only at hSw); go_simp; try with_reducible rfl)
      try simp only [Act.put, List.setIfInBounds_toArray, List.set_cons_zero, List.set_cons_succ]
      refine takeH (i := 1) (v := ?v1_43) rfl (by kernel_rfl) (fun _ _ _ h => h) (by rfl) ?hy1_43 (by assumption) ?rest1_43
      case hy1_43 => (intro w hSw; (try dsimp only at hSw); go_simp; try with_reducible rfl)
      try simp only [Act.put, List.setIfInBounds_toArray, List.set_cons_zero, List.set_cons_succ]
      refine takeH (i := 2) (v := ?v2_44) rfl (by kernel_rfl) (fun _ _ _ h => h) (by rfl) ?hy2_44 (by assumption) ?rest2_44
      case hy2_44 => (intro w hSw; (try dsimp only at hSw); go_simp; try with_reducible rfl)
      try simp only [Act.put, List.setIfInBounds_toArray, List.set_cons_zero, List.set_cons_succ]
      refine takeH (i := 3) (v := ?v3_45) rfl (by kernel_rfl) (fun _ _ _ h => h) (by rfl) ?hy3_45 (by assumption) ?rest3_45
      case hy3_45 => (intro w hSw; (try dsimp only at hSw); go_simp; try with_reducible rfl)
      try simp only [Act.put, List.setIfInBounds_toArray, List.set_cons_zero, List.set_cons_succ]
      refine takeH (i := 4) (v := ?v4_46) rfl (by kernel_rfl) (fun _ _ _ h => h) (by rfl) ?hy4_46 (by assumption) ?rest4_46
      case hy4_46 => (intro w hSw; (try dsimp only at hSw); go_simp; try with_reducible rfl)
      try simp only [Act.put, List.setIfInBounds_toArray, List.set_cons_zero, List.set_cons_succ]
      refine takeH (i := 5) (v := ?v5_47) rfl (by kernel_rfl) (fun _ _ _ h => h) (by rfl) ?hy5_47 (by assumption) ?rest5_47
      case hy5_47 => (intro w hSw; (try dsimp only at hSw); go_simp; try with_reducible rfl)
      try simp only [Act.put, List.setIfInBounds_toArray, List.set_cons_zero, List.set_cons_succ]
      refine takeH (i := 6) (v := ?v6_48) rfl (by kernel_rfl) (fun _ _ _ h => h) (by rfl) ?hy6_48 (by assumption) ?rest6_48
      case hy6_48 => (intro w hSw; (try dsimp only at hSw); go_simp; try with_reducible rfl)
      try simp only [Act.put, List.setIfInBounds_toArray, List.set_cons_zero, List.set_cons_succ]
      refine skipH (i := 7) rfl (by kernel_rfl) (fun _ _ _ h => h) (by kernel_rfl) (by assumption) ?_
      try simp only [Act.put, List.setIfInBounds_toArray, List.set_cons_zero, List.set_cons_succ]
      refine skipH (i := 8) rfl (by kernel_rfl) (fun _ _ _ h => h) (by kernel_rfl) (by assumption) ?_
      try simp only [Act.put, List.setIfInBounds_toArray, List.set_cons_zero, List.set_cons_succ]
      refine skipH (i := 9) rfl (by kernel_rfl) (fun _ _ _ h => h) (by kernel_rfl) (by assumption) ?_
      try simp only [Act.put, List.setIfInBounds_toArray, List.set_cons_zero, List.set_cons_succ]
      refine skipH (i := 10) rfl (by kernel_rfl) (fun _ _ _ h => h) (by kernel_rfl) (by assumption) ?_
      try simp only [Act.put, List.setIfInBounds_toArray, List.set_cons_zero, List.set_cons_succ]
      refine skipH (i := 11) rfl (by kernel_rfl) (fun _ _ _ h => h) (by kernel_rfl) (by assumption) ?_
      try simp only [Act.put, List.setIfInBounds_toArray, List.set_cons_zero, List.set_cons_succ]
      refine skipH (i := 12) rfl (by kernel_rfl) (fun _ _ _ h => h) (by kernel_rfl) (by assumption) ?_
      try simp only [Act.put, List.setIfInBounds_toArray, List.set_cons_zero, List.set_cons_succ]
      refine skipH (i := 13) rfl (by kernel_rfl) (fun _ _ _ h => h) (by kernel_rfl) (by assumption) ?_
      try simp only [Act.put, List.setIfInBounds_toArray, List.set_cons_zero, List.set_cons_succ]
      refine skipH (i := 14) rfl (by kernel_rfl) (fun _ _ _ h => h) (by kernel_rfl) (by assumption) ?_
      try simp only [Act.put, List.setIfInBounds_toArray, List.set_cons_zero, List.set_cons_succ]
      refine takeH (i := 15) (v := ?v15_49) rfl (by kernel_rfl) (fun _ _ _ h => h) (by rfl) ?hy15_49 (by assumption) ?rest15_49
      case hy15_49 => (intro w hSw; (try dsimp only at hSw); go_simp; try with_reducible rfl)
      try simp only [Act.put, List.setIfInBounds_toArray, List.set_cons_zero, List.set_cons_succ]
      refine takeH (i := 16) (v := ?v16_50) rfl (by kernel_rfl) (fun _ _ _ h => h) (by rfl) ?hy16_50 (by assumption) ?rest16_50
      case hy16_50 => (intro w hSw; (try dsimp only at hSw); go_simp; try with_reducible rfl)
      try simp only [Act.put, List.setIfInBounds_toArray, List.set_cons_zero, List.set_cons_succ]
      refine takeH (i := 17) (v := ?v17_51) rfl (by kernel_rfl) (fun _ _ _ h => h) (by rfl) ?hy17_51 (by assumption) ?rest17_51
      case hy17_51 => (intro w hSw; (try dsimp only at hSw); go_simp; try with_reducible rfl)
      try simp only [Act.put, List.setIfInBounds_toArray, List.set_cons_zero, List.set_cons_succ]
      refine takeH (i := 18) (v := ?v18_52) rfl (by kernel_rfl) (fun _ _ _ h => h) (by rfl) ?hy18_52 (by assumption) ?rest18_52
      case hy18_52 => (intro w hSw; (try dsimp only at hSw); go_simp; try with_reducible rfl)
      try simp only [Act.put, List.setIfInBounds_toArray, List.set_cons_zero, List.set_cons_succ]
      refine takeH (i := 19) (v := ?v19_53) rfl (by kernel_rfl) (fun _ _ _ h => h) (by rfl) ?hy19_53 (by assumption) ?rest19_53
      case hy19_53 => (intro w hSw; (try dsimp only at hSw); go_simp; try with_reducible rfl)
      try simp only [Act.put, List.setIfInBounds_toArray, List.set_cons_zero, List.set_cons_succ]
      refine takeH (i := 20) (v := ?v20_54) rfl (by kernel_rfl) (fun _ _ _ h => h) (by rfl) ?hy20_54 (by assumption) ?rest20_54
      case hy20_54 => (intro w hSw; (try dsimp only at hSw); go_simp; try with_reducible rfl)
      try simp only [Act.put, List.setIfInBounds_toArray, List.set_cons_zero, List.set_cons_succ]
      refine takeH (i := 21) (v := ?v21_55) rfl (by kernel_rfl) (fun _ _ _ h => h) (by rfl) ?hy21_55 (by assumption) ?rest21_55
      case hy21_55 => (intro w hSw; (try dsimp only at hSw); go_simp; try with_reducible rfl)
      try simp only [Act.put, List.setIfInBounds_toArray, List.set_cons_zero, List.set_cons_succ]
      refine takeH (i := 22) (v := ?v22_56) rfl (by kernel_rfl) (fun _ _ _ h => h) (by rfl) ?hy22_56 (by assumption) ?rest22_56
      case hy22_56 => (intro w hSw; (try dsimp only at hSw); go_simp; try with_reducible rfl)
      try simp only [Act.put, List.setIfInBounds_toArray, List.set_cons_zero, List.set_cons_succ]
      refine takeH (i := 23) (v := ?v23_57) rfl (by kernel_rfl) (fun _ _ _ h => h) (by rfl) ?hy23_57 (by assumption) ?rest23_57
      case hy23_57 => (intro w hSw; (try dsimp only at hSw); go_simp; try with_reducible rfl)
      try simp only [Act.put, List.setIfInBounds_toArray, List.set_cons_zero, List.set_cons_succ]
      refine takeH (i := 24) (v := ?v24_58) rfl (by kernel_rfl) (fun _ _ _ h => h) (by rfl) ?hy24_58 (by assumption) ?rest24_58
      case hy24_58 => (intro w hSw; (try dsimp only at hSw); go_simp; try with_reducible rfl)
      try simp only [Act.put, List.setIfInBounds_toArray, List.set_cons_zero, List.set_cons_succ]
      refine takeH (i := 25) (v := ?v25_59) rfl (by kernel_rfl) (fun _ _ _ h => h) (by rfl) ?hy25_59 (by assumption) ?rest25_59
      case hy25_59 => (intro w hSw; (try dsimp only at hSw); go_simp; try with_reducible rfl)
      try simp only [Act.put, List.setIfInBounds_toArray, List.set_cons_zero, List.set_cons_succ]
      refine takeH (i := 26) (v := ?v26_60) rfl (by kernel_rfl) (fun _ _ _ h => h) (by rfl) ?hy26_60 (by assumption) ?rest26_60
      case hy26_60 => (intro w hSw; (try dsimp only at hSw); go_simp; try with_reducible rfl)
      try simp only [Act.put, List.setIfInBounds_toArray, List.set_cons_zero, List.set_cons_succ]
      refine takeH (i := 27) (v := ?v27_61) rfl (by kernel_rfl) (fun _ _ _ h => h) (by rfl) ?hy27_61 (by assumption) ?rest27_61
      case hy27_61 => (intro w hSw; (try dsimp only at hSw); go_simp; try with_reducible rfl)
      try simp only [Act.put, List.setIfInBounds_toArray, List.set_cons_zero, List.set_cons_succ]
      refine takeH (i := 29) (v := ?v29_62) rfl (by kernel_rfl) (fun _ _ _ h => h) (by rfl) ?hy29_62 (by assumption) ?rest29_62
      case hy29_62 => (intro w hSw; (try dsimp only at hSw); go_simp; try with_reducible rfl)
      try simp only [Act.put, List.setIfInBounds_toArray, List.set_cons_zero, List.set_cons_succ]
      refine takeH (i := 30) (v := ?v30_63) rfl (by kernel_rfl) (fun _ _ _ h => h) (by rfl) ?hy30_63 (by assumption) ?rest30_63
      case hy30_63 => (intro w hSw; (try dsimp only at hSw); go_simp; try with_reducible rfl)
      try simp only [Act.put, List.setIfInBounds_toArray, List.set_cons_zero, List.set_cons_succ]
      refine takeH (i := 31) (v := ?v31_64) rfl (by kernel_rfl) (fun _ _ _ h => h) (by rfl) ?hy31_64 (by assumption) ?rest31_64
      case hy31_64 => (intro w hSw; (try dsimp only at hSw); go_simp; try with_reducible rfl)
      try simp only [Act.put, List.setIfInBounds_toArray, List.set_cons_zero, List.set_cons_succ]
      refine wpAnyH_ready (rs := [28]) (by kernel_rfl) (by simp) ?_
      refine consH rfl (fun K hK => ?_) (AllReadyH.nil)
      go_simp
      refine (Len_at' _ HH.out).mono ?_
      rintro e w4 ⟨rfl, rfl⟩
      rw [← HL.out]
      go_wp2_with fail
      refine hK.out _ _ ?_ (fun hHeld28 => ?_)
      · (first | assumption | (refine held_6 (by assumption) ?_; assumption) | (refine held_6 (below_ad _ _) ?_; assumption) | (refine held_6 (below_a _ _) ?_; assumption))
      clear hK K
      try simp only [Act.put, List.setIfInBounds_toArray, List.set_cons_zero, List.set_cons_succ]
      refine takeH (i := 32) (v := ?v32_65) rfl (by kernel_rfl) (fun _ _ _ h => h) (by rfl) ?hy32_65 (by assumption) ?rest32_65
      case hy32_65 => (intro w hSw; (try dsimp only at hSw); go_simp; try with_reducible rfl)
      try simp only [Act.put, List.setIfInBounds_toArray, List.set_cons_zero, List.set_cons_succ]
      refine takeH (i := 33) (v := ?v33_66) rfl (by kernel_rfl) (fun _ _ _ h => h) (by rfl) ?hy33_66 (by assumption) ?rest33_66
      case hy33_66 => (intro w hSw; (try dsimp only at hSw); go_simp; try with_reducible rfl)
      try simp only [Act.put, List.setIfInBounds_toArray, List.set_cons_zero, List.set_cons_succ]
      refine takeH (i := 34) (v := ?v34_67) rfl (by kernel_rfl) (fun _ _ _ h => h) (by rfl) ?hy34_67 (by assumption) ?rest34_67
      case hy34_67 => (intro w hSw; (try dsimp only at hSw); go_simp; try with_reducible rfl)
      try simp only [Act.put, List.setIfInBounds_toArray, List.set_cons_zero, List.set_cons_succ]
      refine takeH (i := 35) (v := ?v35_68) rfl (by kernel_rfl) (fun _ _ _ h => h) (by rfl) ?hy35_68 (by assumption) ?rest35_68
      case hy35_68 => (intro w hSw; (try dsimp only at hSw); go_simp; try with_reducible rfl)
      try simp only [Act.put, List.setIfInBounds_toArray, List.set_cons_zero, List.set_cons_succ]
      refine takeH (i := 37) (v := ?v37_69) rfl (by kernel_rfl) (fun _ _ _ h => h) (by rfl) ?hy37_69 (by assumption) ?rest37_69
      case hy37_69 => (intro w hSw; (try dsimp only at hSw); go_simp; try with_reducible rfl)
      try simp only [Act.put, List.setIfInBounds_toArray, List.set_cons_zero, List.set_cons_succ]
      refine takeH (i := 38) (v := ?v38_70) rfl (by kernel_rfl) (fun _ _ _ h => h) (by rfl) ?hy38_70 (by assumption) ?rest38_70
      case hy38_70 => (intro w hSw; (try dsimp only at hSw); go_simp; try with_reducible rfl)
      try simp only [Act.put, List.setIfInBounds_toArray, List.set_cons_zero, List.set_cons_succ]
      refine wpAnyH_ready (rs := [36]) (by kernel_rfl) (by simp) ?_
      refine consH rfl (fun K hK => ?_) (AllReadyH.nil)
      go_simp
      refine (Floor_at _ HH.out).mono ?_
      rintro e w4 ⟨rfl, rfl⟩
      go_wp2_with fail
      refine hK.out _ _ ?_ (fun hHeld36 => ?_)
      · (first | assumption | (refine held_6 (by assumption) ?_; assumption) | (refine held_6 (below_ad _ _) ?_; assumption) | (refine held_6 (below_a _ _) ?_; assumption))
      clear hK K
      try simp only [Act.put, List.setIfInBounds_toArray, List.set_cons_zero, List.set_cons_succ]
      refine takeH (i := 39) (v := ?v39_71) rfl (by kernel_rfl) (fun _ _ _ h => h) (by rfl) ?hy39_71 (by assumption) ?rest39_71
      case hy39_71 => (intro w hSw; (try dsimp only at hSw); go_simp; try with_reducible rfl)
      try simp only [Act.put, List.setIfInBounds_toArray, List.set_cons_zero, List.set_cons_succ]
      refine takeH (i := 40) (v := ?v40_72) rfl (by kernel_rfl) (fun _ _ _ h => h) (by rfl) ?hy40_72 (by assumption) ?rest40_72
      case hy40_72 => (intro w hSw; (try dsimp only at hSw); go_simp; try with_reducible rfl)
      try simp only [Act.put, List.setIfInBounds_toArray, List.set_cons_zero, List.set_cons_succ]
      refine takeH (i := 41) (v := ?v41_73) rfl (by kernel_rfl) (fun _ _ _ h => h) (by rfl) ?hy41_73 (by assumption) ?rest41_73
      case hy41_73 => (intro w hSw; (try dsimp only at hSw); go_simp; try with_reducible rfl)
      try simp only [Act.put, List.setIfInBounds_toArray, List.set_cons_zero, List.set_cons_succ]
      refine takeH (i := 42) (v := ?v42_74) rfl (by kernel_rfl) (fun _ _ _ h => h) (by rfl) ?hy42_74 (by assumption) ?rest42_74
      case hy42_74 => (intro w hSw; (try dsimp only at hSw); go_simp; try with_reducible rfl)
      try simp only [Act.put, List.setIfInBounds_toArray, List.set_cons_zero, List.set_cons_succ]
      refine takeH (i := 44) (v := ?v44_75) rfl (by kernel_rfl) (fun _ _ _ h => h) (by rfl) ?hy44_75 (by assumption) ?rest44_75
      case hy44_75 => (intro w hSw; (try dsimp only at hSw); go_simp; try with_reducible rfl)
      try simp only [Act.put, List.setIfInBounds_toArray, List.set_cons_zero, List.set_cons_succ]
      refine wpAnyH_ready (rs := [43]) (by kernel_rfl) (by simp) ?_
      refine consH rfl (fun K hK => ?_) (AllReadyH.nil)
      go_simp
      refine (Load_at _ (by first | exact HH.out | exact HH5.out)).mono ?_
      rintro e w4 ⟨rfl, rfl⟩
      go_wp2_with fail
      refine hK.out _ _ ?_ (fun hHeld43 => ?_)
      · (first | assumption | (refine held_6 (by assumption) ?_; assumption) | (refine held_6 (below_ad _ _) ?_; assumption) | (refine held_6 (below_a _ _) ?_; assumption))
      clear hK K
      try simp only [Act.put, List.setIfInBounds_toArray, List.set_cons_zero, List.set_cons_succ]
      refine wpAnyH_ready (rs := [45]) (by kernel_rfl) (by simp) ?_
      refine consH rfl (fun K hK => ?_) (AllReadyH.nil)
      go_simp
      refine (ALo.out _ RR.out).mono ?_
      rintro e w5 ⟨rfl, hg5⟩
      have hb5 := hg5.below
      have HH5 := Lib.hid (HH.out.below hb5)
      go_wp2_with fail
      refine hK.out _ _ ?_ (fun hHeld45 => ?_)
      · (first | assumption | (refine held_6 (by assumption) ?_; assumption) | (refine held_6 (below_ad _ _) ?_; assumption) | (refine held_6 (below_a _ _) ?_; assumption))
      clear hK K
      try simp only [Act.put, List.setIfInBounds_toArray, List.set_cons_zero, List.set_cons_succ]
      refine takeH (i := 46) (v := ?v46_76) rfl (by kernel_rfl) (fun _ _ _ h => h) (by rfl) ?hy46_76 (by assumption) ?rest46_76
      case hy46_76 => (intro w hSw; (try dsimp only at hSw); go_simp; try with_reducible rfl)
      try simp only [Act.put, List.setIfInBounds_toArray, List.set_cons_zero, List.set_cons_succ]
      refine takeH (i := 47) (v := ?v47_77) rfl (by kernel_rfl) (fun _ _ _ h => h) (by rfl) ?hy47_77 (by assumption) ?rest47_77
      case hy47_77 => (intro w hSw; (try dsimp only at hSw); go_simp; try with_reducible rfl)
      try simp only [Act.put, List.setIfInBounds_toArray, List.set_cons_zero, List.set_cons_succ]
      refine wpAnyH_done (by kernel_rfl) ?_ _
      have HB5 := Lib.hid (Below.step (Below.step HB3.out (Below.refl _ _).drew) hb5)
      replace c1 := cell_later hb5 (cell_dr c1)
      go_wp2_with fail
      refine (First_at w5 HH5.out).mono ?_
      rintro e w6 ⟨rfl, hb6⟩
      rw [HFI.out.1, HFI.out.2]
      replace c1 := cell_later hb6 c1
      have HB6 := Lib.hid (Below.step HB5.out hb6)
      clear hb6
      go_wp2_with fail
      go_ret
      exact ⟨rfl, HB6.out⟩
    · obtain ⟨-, b, off, rfl, j0, -, -, -⟩ := HRR.out.mem (i := 0) (by omega)
      rw [Nat.zero_mul, Nat.add_zero] at j0
      have HFI := Lib.hid (first_of' (M := M) (by have := HL.out; omega))
      obtain ⟨x, hx⟩ : ∃ x, x = M[0]! := ⟨_, rfl⟩
      rw [← hx] at j0 HFI
      have z2 : decide ((L : Int) > 0) = true := decide_eq_true (by omega)
      have z3 : decide (0 < L) = true := decide_eq_true (by omega)
      have z4 : (x.1 == x.1) = true := by simp
      have z5 : (0 : Int) < (L : Int) := by omega
      clear hf hkn hx h0
      obtain ⟨W0, hW0⟩ : ∃ W0, W0 = (w.alloc (.cells #[.int .i64 n, .slice (some ⟨b, off, none⟩) L cap, .int .u64 fl] 68)) := ⟨_, rfl⟩
      have HB0 := Lib.hid (show Below w.heap.size w W0 by rw [hW0]; exact (Below.allocS (Below.refl _ _) _))
      have c0 : W0.cell? ⟨w.heap.size, 0, none⟩ = some (.int .i64 n) := by rw [hW0]; exact cell_nwE (by simp) _ _ 0 _ rfl
      have fc0 : W0.frozen? ⟨w.heap.size, 0, none⟩ = false := by rw [hW0]; exact frz_nwE (by simp) _ _ 0
      have c1 : W0.cell? ⟨w.heap.size, 1, none⟩ = some (.slice (some ⟨b, off, none⟩) L cap) := by rw [hW0]; exact cell_nwE (by simp) _ _ 1 _ rfl
      have fc1 : W0.frozen? ⟨w.heap.size, 1, none⟩ = false := by rw [hW0]; exact frz_nwE (by simp) _ _ 1
      have c2 : W0.cell? ⟨w.heap.size, 2, none⟩ = some (.int .u64 fl) := by rw [hW0]; exact cell_nwE (by simp) _ _ 2 _ rfl
      have fc2 : W0.frozen? ⟨w.heap.size, 2, none⟩ = false := by rw [hW0]; exact frz_nwE (by simp) _ _ 2
      have HSZ := Lib.hid (show W0.heap.size = w.heap.size + 1 by rw [hW0]; simp)
      have HW0 := Lib.hid hW0
      clear hW0
      replace j0 := cell_later HB0.out j0
      go_enter Try.func31, Try.ntmps31
      go_wp2_with fail
      rw [← HW0.out]
      generalize hbx : w.heap.size = bx at c0 c1 c2 fc0 fc1 fc2 HSZ  ⊢
      have HBX := Lib.hid hbx
      clear hbx HW0
      refine (Get_at id W0 (HI.out.below HB0.out) HID.out).mono ?_
      rintro e w2 ⟨rfl, hb2⟩
      rw [HGE.out.1, HGE.out.2]
      replace fc0 := frz_later hb2 fc0 (lt_of_cell c0)
      replace fc1 := frz_later hb2 fc1 (lt_of_cell c1)
      replace fc2 := frz_later hb2 fc2 (lt_of_cell c2)
      replace c0 := cell_later hb2 c0
      replace c1 := cell_later hb2 c1
      replace c2 := cell_later hb2 c2
      replace j0 := cell_later hb2 j0
      have HB2 := Lib.hid (Below.step HB0.out hb2)
      clear hb2
      have y0 : (w2.alloc (.cells #[.int .u64 0, .int .u32 0, .int .u32 0] 32)).cell? ⟨w2.heap.size, 0, none⟩ = some (.int .u64 0) := cell_nw w2 _ _ 0 _ rfl
      have y1 : (w2.alloc (.cells #[.int .u64 0, .int .u32 0, .int .u32 0] 32)).cell? ⟨w2.heap.size, 1, none⟩ = some (.int .u32 0) := cell_nw w2 _ _ 1 _ rfl
      have y2 : (w2.alloc (.cells #[.int .u64 0, .int .u32 0, .int .u32 0] 32)).cell? ⟨w2.heap.size, 2, none⟩ = some (.int .u32 0) := cell_nw w2 _ _ 2 _ rfl
      have hb3 := below_a w2 (.cells #[.int .u64 0, .int .u32 0, .int .u32 0] 32)
      replace fc0 := frz_later hb3 fc0 (lt_of_cell c0)
      replace fc1 := frz_later hb3 fc1 (lt_of_cell c1)
      replace fc2 := frz_later hb3 fc2 (lt_of_cell c2)
      replace c0 := cell_later hb3 c0
      replace c1 := cell_later hb3 c1
      replace c2 := cell_later hb3 c2
      replace j0 := cell_later hb3 j0
      have HB3a := Lib.hid (Below.step HB2.out hb3)
      clear hb3
      go_wp2_with fail
      generalize w2.alloc (.cells #[.int .u64 0, .int .u32 0, .int .u32 0] 32) = w2a at *
      generalize w2.heap.size = b7 at *
      refine (AF.out w2a (HRR.out.later HB3a.out)).mono ?_
      rintro e w3 ⟨rfl, hg3⟩
      have hb3 := hg3.below
      rw [HFM.out]
      replace fc0 := frz_later hb3 fc0 (lt_of_cell c0)
      replace fc1 := frz_later hb3 fc1 (lt_of_cell c1)
      replace fc2 := frz_later hb3 fc2 (lt_of_cell c2)
      replace c0 := cell_later hb3 c0
      replace c1 := cell_later hb3 c1
      replace c2 := cell_later hb3 c2
      replace j0 := cell_later hb3 j0
      replace y0 := cell_later hb3 y0
      replace y1 := cell_later hb3 y1
      replace y2 := cell_later hb3 y2
      have HB3 := Lib.hid (Below.step HB3a.out hb3)
      clear hb3 hg3
      have HH := Lib.hid (show QIn w3.drew q F n M fl from (HI.out.below HB3.out).below (Below.refl _ _).drew)
      have RR := Lib.hid (show RecsAt encMs w3.drew (.slice (some ⟨b, off, none⟩) L cap) M from HRR.out.later (Below.step HB3.out (Below.refl _ _).drew))
      go_wp2_with fail
      have hS0 : Below w3.heap.size w3 w3.drew ∧ w3.drew.cell? ⟨bx, 0, none⟩ = some (.int .i64 n) ∧ w3.drew.cell? ⟨bx, 1, none⟩ = some (.slice (some ⟨b, off, none⟩) L cap) ∧ w3.drew.cell? ⟨bx, 2, none⟩ = some (.int .u64 fl) ∧ w3.drew.cell? ⟨b7, 0, none⟩ = some (.int .u64 0) ∧ w3.drew.cell? ⟨b7, 1, none⟩ = some (.int .u32 0) ∧ w3.drew.cell? ⟨b7, 2, none⟩ = some (.int .u32 0) := ⟨Below.drew (Below.refl _ _), cell_dr c0, cell_dr c1, cell_dr c2, cell_dr y0, cell_dr y1, cell_dr y2⟩
      refine wp_region_held_drew (S := fun w' => Below w3.heap.size w3 w' ∧ w'.cell? ⟨bx, 0, none⟩ = some (.int .i64 n) ∧ w'.cell? ⟨bx, 1, none⟩ = some (.slice (some ⟨b, off, none⟩) L cap) ∧ w'.cell? ⟨bx, 2, none⟩ = some (.int .u64 fl) ∧ w'.cell? ⟨b7, 0, none⟩ = some (.int .u64 0) ∧ w'.cell? ⟨b7, 1, none⟩ = some (.int .u32 0) ∧ w'.cell? ⟨b7, 2, none⟩ = some (.int .u32 0)) (by kernel_rfl) hS0 (fun hHeld => ?_)
      refine takeH (i := 0) (v := ?v0_78) rfl (by kernel_rfl) (fun _ _ _ h => h) (by rfl) ?hy0_78 (by assumption) ?rest0_78
      case hy0_78 => (intro w hSw; (try dsimp only at hSw); go_simp; try with_reducible rfl)
      try simp only [Act.put, List.setIfInBounds_toArray, List.set_cons_zero, List.set_cons_succ]
      refine takeH (i := 1) (v := ?v1_79) rfl (by kernel_rfl) (fun _ _ _ h => h) (by rfl) ?hy1_79 (by assumption) ?rest1_79
      case hy1_79 => (intro w hSw; (try dsimp only at hSw); go_simp; try with_reducible rfl)
      try simp only [Act.put, List.setIfInBounds_toArray, List.set_cons_zero, List.set_cons_succ]
      refine takeH (i := 2) (v := ?v2_80) rfl (by kernel_rfl) (fun _ _ _ h => h) (by rfl) ?hy2_80 (by assumption) ?rest2_80
      case hy2_80 => (intro w hSw; (try dsimp only at hSw); go_simp; try with_reducible rfl)
      try simp only [Act.put, List.setIfInBounds_toArray, List.set_cons_zero, List.set_cons_succ]
      refine takeH (i := 3) (v := ?v3_81) rfl (by kernel_rfl) (fun _ _ _ h => h) (by rfl) ?hy3_81 (by assumption) ?rest3_81
      case hy3_81 => (intro w hSw; (try dsimp only at hSw); go_simp; try with_reducible rfl)
      try simp only [Act.put, List.setIfInBounds_toArray, List.set_cons_zero, List.set_cons_succ]
      refine takeH (i := 4) (v := ?v4_82) rfl (by kernel_rfl) (fun _ _ _ h => h) (by rfl) ?hy4_82 (by assumption) ?rest4_82
      case hy4_82 => (intro w hSw; (try dsimp only at hSw); go_simp; try with_reducible rfl)
      try simp only [Act.put, List.setIfInBounds_toArray, List.set_cons_zero, List.set_cons_succ]
      refine takeH (i := 5) (v := ?v5_83) rfl (by kernel_rfl) (fun _ _ _ h => h) (by rfl) ?hy5_83 (by assumption) ?rest5_83
      case hy5_83 => (intro w hSw; (try dsimp only at hSw); go_simp; try with_reducible rfl)
      try simp only [Act.put, List.setIfInBounds_toArray, List.set_cons_zero, List.set_cons_succ]
      refine takeH (i := 6) (v := ?v6_84) rfl (by kernel_rfl) (fun _ _ _ h => h) (by rfl) ?hy6_84 (by assumption) ?rest6_84
      case hy6_84 => (intro w hSw; (try dsimp only at hSw); go_simp; try with_reducible rfl)
      try simp only [Act.put, List.setIfInBounds_toArray, List.set_cons_zero, List.set_cons_succ]
      refine skipH (i := 7) rfl (by kernel_rfl) (fun _ _ _ h => h) (by kernel_rfl) (by assumption) ?_
      try simp only [Act.put, List.setIfInBounds_toArray, List.set_cons_zero, List.set_cons_succ]
      refine skipH (i := 8) rfl (by kernel_rfl) (fun _ _ _ h => h) (by kernel_rfl) (by assumption) ?_
      try simp only [Act.put, List.setIfInBounds_toArray, List.set_cons_zero, List.set_cons_succ]
      refine skipH (i := 9) rfl (by kernel_rfl) (fun _ _ _ h => h) (by kernel_rfl) (by assumption) ?_
      try simp only [Act.put, List.setIfInBounds_toArray, List.set_cons_zero, List.set_cons_succ]
      refine skipH (i := 10) rfl (by kernel_rfl) (fun _ _ _ h => h) (by kernel_rfl) (by assumption) ?_
      try simp only [Act.put, List.setIfInBounds_toArray, List.set_cons_zero, List.set_cons_succ]
      refine skipH (i := 11) rfl (by kernel_rfl) (fun _ _ _ h => h) (by kernel_rfl) (by assumption) ?_
      try simp only [Act.put, List.setIfInBounds_toArray, List.set_cons_zero, List.set_cons_succ]
      refine skipH (i := 12) rfl (by kernel_rfl) (fun _ _ _ h => h) (by kernel_rfl) (by assumption) ?_
      try simp only [Act.put, List.setIfInBounds_toArray, List.set_cons_zero, List.set_cons_succ]
      refine skipH (i := 13) rfl (by kernel_rfl) (fun _ _ _ h => h) (by kernel_rfl) (by assumption) ?_
      try simp only [Act.put, List.setIfInBounds_toArray, List.set_cons_zero, List.set_cons_succ]
      refine skipH (i := 14) rfl (by kernel_rfl) (fun _ _ _ h => h) (by kernel_rfl) (by assumption) ?_
      try simp only [Act.put, List.setIfInBounds_toArray, List.set_cons_zero, List.set_cons_succ]
      refine takeH (i := 15) (v := ?v15_85) rfl (by kernel_rfl) (fun _ _ _ h => h) (by rfl) ?hy15_85 (by assumption) ?rest15_85
      case hy15_85 => (intro w hSw; (try dsimp only at hSw); go_simp; try with_reducible rfl)
      try simp only [Act.put, List.setIfInBounds_toArray, List.set_cons_zero, List.set_cons_succ]
      refine takeH (i := 16) (v := ?v16_86) rfl (by kernel_rfl) (fun _ _ _ h => h) (by rfl) ?hy16_86 (by assumption) ?rest16_86
      case hy16_86 => (intro w hSw; (try dsimp only at hSw); go_simp; try with_reducible rfl)
      try simp only [Act.put, List.setIfInBounds_toArray, List.set_cons_zero, List.set_cons_succ]
      refine takeH (i := 17) (v := ?v17_87) rfl (by kernel_rfl) (fun _ _ _ h => h) (by rfl) ?hy17_87 (by assumption) ?rest17_87
      case hy17_87 => (intro w hSw; (try dsimp only at hSw); go_simp; try with_reducible rfl)
      try simp only [Act.put, List.setIfInBounds_toArray, List.set_cons_zero, List.set_cons_succ]
      refine takeH (i := 18) (v := ?v18_88) rfl (by kernel_rfl) (fun _ _ _ h => h) (by rfl) ?hy18_88 (by assumption) ?rest18_88
      case hy18_88 => (intro w hSw; (try dsimp only at hSw); go_simp; try with_reducible rfl)
      try simp only [Act.put, List.setIfInBounds_toArray, List.set_cons_zero, List.set_cons_succ]
      refine takeH (i := 19) (v := ?v19_89) rfl (by kernel_rfl) (fun _ _ _ h => h) (by rfl) ?hy19_89 (by assumption) ?rest19_89
      case hy19_89 => (intro w hSw; (try dsimp only at hSw); go_simp; try with_reducible rfl)
      try simp only [Act.put, List.setIfInBounds_toArray, List.set_cons_zero, List.set_cons_succ]
      refine takeH (i := 20) (v := ?v20_90) rfl (by kernel_rfl) (fun _ _ _ h => h) (by rfl) ?hy20_90 (by assumption) ?rest20_90
      case hy20_90 => (intro w hSw; (try dsimp only at hSw); go_simp; try with_reducible rfl)
      try simp only [Act.put, List.setIfInBounds_toArray, List.set_cons_zero, List.set_cons_succ]
      refine takeH (i := 21) (v := ?v21_91) rfl (by kernel_rfl) (fun _ _ _ h => h) (by rfl) ?hy21_91 (by assumption) ?rest21_91
      case hy21_91 => (intro w hSw; (try dsimp only at hSw); go_simp; try with_reducible rfl)
      try simp only [Act.put, List.setIfInBounds_toArray, List.set_cons_zero, List.set_cons_succ]
      refine takeH (i := 22) (v := ?v22_92) rfl (by kernel_rfl) (fun _ _ _ h => h) (by rfl) ?hy22_92 (by assumption) ?rest22_92
      case hy22_92 => (intro w hSw; (try dsimp only at hSw); go_simp; try with_reducible rfl)
      try simp only [Act.put, List.setIfInBounds_toArray, List.set_cons_zero, List.set_cons_succ]
      refine takeH (i := 23) (v := ?v23_93) rfl (by kernel_rfl) (fun _ _ _ h => h) (by rfl) ?hy23_93 (by assumption) ?rest23_93
      case hy23_93 => (intro w hSw; (try dsimp only at hSw); go_simp; try with_reducible rfl)
      try simp only [Act.put, List.setIfInBounds_toArray, List.set_cons_zero, List.set_cons_succ]
      refine takeH (i := 24) (v := ?v24_94) rfl (by kernel_rfl) (fun _ _ _ h => h) (by rfl) ?hy24_94 (by assumption) ?rest24_94
      case hy24_94 => (intro w hSw; (try dsimp only at hSw); go_simp; try with_reducible rfl)
      try simp only [Act.put, List.setIfInBounds_toArray, List.set_cons_zero, List.set_cons_succ]
      refine takeH (i := 25) (v := ?v25_95) rfl (by kernel_rfl) (fun _ _ _ h => h) (by rfl) ?hy25_95 (by assumption) ?rest25_95
      case hy25_95 => (intro w hSw; (try dsimp only at hSw); go_simp; try with_reducible rfl)
      try simp only [Act.put, List.setIfInBounds_toArray, List.set_cons_zero, List.set_cons_succ]
      refine takeH (i := 26) (v := ?v26_96) rfl (by kernel_rfl) (fun _ _ _ h => h) (by rfl) ?hy26_96 (by assumption) ?rest26_96
      case hy26_96 => (intro w hSw; (try dsimp only at hSw); go_simp; try with_reducible rfl)
      try simp only [Act.put, List.setIfInBounds_toArray, List.set_cons_zero, List.set_cons_succ]
      refine takeH (i := 27) (v := ?v27_97) rfl (by kernel_rfl) (fun _ _ _ h => h) (by rfl) ?hy27_97 (by assumption) ?rest27_97
      case hy27_97 => (intro w hSw; (try dsimp only at hSw); go_simp; try with_reducible rfl)
      try simp only [Act.put, List.setIfInBounds_toArray, List.set_cons_zero, List.set_cons_succ]
      refine takeH (i := 29) (v := ?v29_98) rfl (by kernel_rfl) (fun _ _ _ h => h) (by rfl) ?hy29_98 (by assumption) ?rest29_98
      case hy29_98 => (intro w hSw; (try dsimp only at hSw); go_simp; try with_reducible rfl)
      try simp only [Act.put, List.setIfInBounds_toArray, List.set_cons_zero, List.set_cons_succ]
      refine takeH (i := 30) (v := ?v30_99) rfl (by kernel_rfl) (fun _ _ _ h => h) (by rfl) ?hy30_99 (by assumption) ?rest30_99
      case hy30_99 => (intro w hSw; (try dsimp only at hSw); go_simp; try with_reducible rfl)
      try simp only [Act.put, List.setIfInBounds_toArray, List.set_cons_zero, List.set_cons_succ]
      refine takeH (i := 31) (v := ?v31_100) rfl (by kernel_rfl) (fun _ _ _ h => h) (by rfl) ?hy31_100 (by assumption) ?rest31_100
      case hy31_100 => (intro w hSw; (try dsimp only at hSw); go_simp; try with_reducible rfl)
      try simp only [Act.put, List.setIfInBounds_toArray, List.set_cons_zero, List.set_cons_succ]
      refine wpAnyH_ready (rs := [28]) (by kernel_rfl) (by simp) ?_
      refine consH rfl (fun K hK => ?_) (AllReadyH.nil)
      go_simp
      refine (Len_at' _ HH.out).mono ?_
      rintro e w4 ⟨rfl, rfl⟩
      rw [← HL.out]
      go_wp2_with fail
      refine hK.out _ _ ?_ (fun hHeld28 => ?_)
      · (first | assumption | (refine held_6 (by assumption) ?_; assumption) | (refine held_6 (below_ad _ _) ?_; assumption) | (refine held_6 (below_a _ _) ?_; assumption))
      clear hK K
      try simp only [Act.put, List.setIfInBounds_toArray, List.set_cons_zero, List.set_cons_succ]
      refine takeH (i := 32) (v := ?v32_101) rfl (by kernel_rfl) (fun _ _ _ h => h) (by rfl) ?hy32_101 (by assumption) ?rest32_101
      case hy32_101 => (intro w hSw; (try dsimp only at hSw); go_simp; try with_reducible rfl)
      try simp only [Act.put, List.setIfInBounds_toArray, List.set_cons_zero, List.set_cons_succ]
      refine takeH (i := 33) (v := ?v33_102) rfl (by kernel_rfl) (fun _ _ _ h => h) (by rfl) ?hy33_102 (by assumption) ?rest33_102
      case hy33_102 => (intro w hSw; (try dsimp only at hSw); go_simp; try with_reducible rfl)
      try simp only [Act.put, List.setIfInBounds_toArray, List.set_cons_zero, List.set_cons_succ]
      refine takeH (i := 34) (v := ?v34_103) rfl (by kernel_rfl) (fun _ _ _ h => h) (by rfl) ?hy34_103 (by assumption) ?rest34_103
      case hy34_103 => (intro w hSw; (try dsimp only at hSw); go_simp; try with_reducible rfl)
      try simp only [Act.put, List.setIfInBounds_toArray, List.set_cons_zero, List.set_cons_succ]
      refine takeH (i := 35) (v := ?v35_104) rfl (by kernel_rfl) (fun _ _ _ h => h) (by rfl) ?hy35_104 (by assumption) ?rest35_104
      case hy35_104 => (intro w hSw; (try dsimp only at hSw); go_simp; try with_reducible rfl)
      try simp only [Act.put, List.setIfInBounds_toArray, List.set_cons_zero, List.set_cons_succ]
      refine takeH (i := 37) (v := ?v37_105) rfl (by kernel_rfl) (fun _ _ _ h => h) (by rfl) ?hy37_105 (by assumption) ?rest37_105
      case hy37_105 => (intro w hSw; (try dsimp only at hSw); go_simp; try with_reducible rfl)
      try simp only [Act.put, List.setIfInBounds_toArray, List.set_cons_zero, List.set_cons_succ]
      refine takeH (i := 38) (v := ?v38_106) rfl (by kernel_rfl) (fun _ _ _ h => h) (by rfl) ?hy38_106 (by assumption) ?rest38_106
      case hy38_106 => (intro w hSw; (try dsimp only at hSw); go_simp; try with_reducible rfl)
      try simp only [Act.put, List.setIfInBounds_toArray, List.set_cons_zero, List.set_cons_succ]
      refine wpAnyH_ready (rs := [36]) (by kernel_rfl) (by simp) ?_
      refine consH rfl (fun K hK => ?_) (AllReadyH.nil)
      go_simp
      refine (Floor_at _ HH.out).mono ?_
      rintro e w4 ⟨rfl, rfl⟩
      go_wp2_with fail
      refine hK.out _ _ ?_ (fun hHeld36 => ?_)
      · (first | assumption | (refine held_6 (by assumption) ?_; assumption) | (refine held_6 (below_ad _ _) ?_; assumption) | (refine held_6 (below_a _ _) ?_; assumption))
      clear hK K
      try simp only [Act.put, List.setIfInBounds_toArray, List.set_cons_zero, List.set_cons_succ]
      refine takeH (i := 39) (v := ?v39_107) rfl (by kernel_rfl) (fun _ _ _ h => h) (by rfl) ?hy39_107 (by assumption) ?rest39_107
      case hy39_107 => (intro w hSw; (try dsimp only at hSw); go_simp; try with_reducible rfl)
      try simp only [Act.put, List.setIfInBounds_toArray, List.set_cons_zero, List.set_cons_succ]
      refine takeH (i := 40) (v := ?v40_108) rfl (by kernel_rfl) (fun _ _ _ h => h) (by rfl) ?hy40_108 (by assumption) ?rest40_108
      case hy40_108 => (intro w hSw; (try dsimp only at hSw); go_simp; try with_reducible rfl)
      try simp only [Act.put, List.setIfInBounds_toArray, List.set_cons_zero, List.set_cons_succ]
      refine takeH (i := 41) (v := ?v41_109) rfl (by kernel_rfl) (fun _ _ _ h => h) (by rfl) ?hy41_109 (by assumption) ?rest41_109
      case hy41_109 => (intro w hSw; (try dsimp only at hSw); go_simp; try with_reducible rfl)
      try simp only [Act.put, List.setIfInBounds_toArray, List.set_cons_zero, List.set_cons_succ]
      refine takeH (i := 42) (v := ?v42_110) rfl (by kernel_rfl) (fun _ _ _ h => h) (by rfl) ?hy42_110 (by assumption) ?rest42_110
      case hy42_110 => (intro w hSw; (try dsimp only at hSw); go_simp; try with_reducible rfl)
      try simp only [Act.put, List.setIfInBounds_toArray, List.set_cons_zero, List.set_cons_succ]
      refine takeH (i := 44) (v := ?v44_111) rfl (by kernel_rfl) (fun _ _ _ h => h) (by rfl) ?hy44_111 (by assumption) ?rest44_111
      case hy44_111 => (intro w hSw; (try dsimp only at hSw); go_simp; try with_reducible rfl)
      try simp only [Act.put, List.setIfInBounds_toArray, List.set_cons_zero, List.set_cons_succ]
      refine wpAnyH_ready (rs := [43]) (by kernel_rfl) (by simp) ?_
      refine consH rfl (fun K hK => ?_) (AllReadyH.nil)
      go_simp
      refine (Load_at _ (by first | exact HH.out | exact HH5.out)).mono ?_
      rintro e w4 ⟨rfl, rfl⟩
      go_wp2_with fail
      refine hK.out _ _ ?_ (fun hHeld43 => ?_)
      · (first | assumption | (refine held_6 (by assumption) ?_; assumption) | (refine held_6 (below_ad _ _) ?_; assumption) | (refine held_6 (below_a _ _) ?_; assumption))
      clear hK K
      try simp only [Act.put, List.setIfInBounds_toArray, List.set_cons_zero, List.set_cons_succ]
      refine wpAnyH_ready (rs := [45]) (by kernel_rfl) (by simp) ?_
      refine consH rfl (fun K hK => ?_) (AllReadyH.nil)
      go_simp
      refine (ALo.out _ RR.out).mono ?_
      rintro e w5 ⟨rfl, hg5⟩
      have hb5 := hg5.below
      have HH5 := Lib.hid (HH.out.below hb5)
      go_wp2_with fail
      refine hK.out _ _ ?_ (fun hHeld45 => ?_)
      · (first | assumption | (refine held_6 (by assumption) ?_; assumption) | (refine held_6 (below_ad _ _) ?_; assumption) | (refine held_6 (below_a _ _) ?_; assumption))
      clear hK K
      try simp only [Act.put, List.setIfInBounds_toArray, List.set_cons_zero, List.set_cons_succ]
      refine takeH (i := 46) (v := ?v46_112) rfl (by kernel_rfl) (fun _ _ _ h => h) (by rfl) ?hy46_112 (by assumption) ?rest46_112
      case hy46_112 => (intro w hSw; (try dsimp only at hSw); go_simp; try with_reducible rfl)
      try simp only [Act.put, List.setIfInBounds_toArray, List.set_cons_zero, List.set_cons_succ]
      refine takeH (i := 47) (v := ?v47_113) rfl (by kernel_rfl) (fun _ _ _ h => h) (by rfl) ?hy47_113 (by assumption) ?rest47_113
      case hy47_113 => (intro w hSw; (try dsimp only at hSw); go_simp; try with_reducible rfl)
      try simp only [Act.put, List.setIfInBounds_toArray, List.set_cons_zero, List.set_cons_succ]
      refine wpAnyH_done (by kernel_rfl) ?_ _
      have HB5 := Lib.hid (Below.step (Below.step HB3.out (Below.refl _ _).drew) hb5)
      replace c1 := cell_later hb5 (cell_dr c1)
      replace j0 := cell_later hb5 (cell_dr j0)
      go_wp2_with fail
      refine (First_at w5 HH5.out).mono ?_
      rintro e w6 ⟨rfl, hb6⟩
      rw [HFI.out.1, HFI.out.2]
      replace c1 := cell_later hb6 c1
      replace j0 := cell_later hb6 j0
      have HB6 := Lib.hid (Below.step HB5.out hb6)
      clear hb6
      go_wp2_with fail
      go_ret
      exact ⟨rfl, HB6.out⟩
end Go.Proofs.Ytekjakmeopolhaa
namespace Go.Proofs.Ytekjakmeopolhaa
open Go.RowKit Go.Maps Go.IntWalk Go.Lib
set_option linter.unusedVariables false
/-- a variable that holds the reference's queue -/
structure RBox (w : World) (b : Nat) (n : Int) (a : Option Addr) (m cap : Nat) (fl : Int) : Prop where
  c0 : w.cell? ⟨b, 0, none⟩ = some (.int .i64 n)
  c1 : w.cell? ⟨b, 1, none⟩ = some (.slice a m cap)
  c2 : w.cell? ⟨b, 2, none⟩ = some (.int .u64 fl)
  f0 : w.frozen? ⟨b, 0, none⟩ = false
  f1 : w.frozen? ⟨b, 1, none⟩ = false
  f2 : w.frozen? ⟨b, 2, none⟩ = false
  no : ∀ j, 3 ≤ j → w.cell? ⟨b, j, none⟩ = none
theorem RBox.kept {w w' : World} {b m cap : Nat} {n fl : Int} {a : Option Addr} {G : List Nat} (h : RBox w b n a m cap fl) (hk : Kept G w w') (hn : b ∉ G) : RBox w' b n a m cap fl :=
  ⟨hk.cellAt h.c0 hn, hk.cellAt h.c1 hn, hk.cellAt h.c2 hn, hk.frz h.f0 (lt_of_cell h.c0) hn, hk.frz h.f1 (lt_of_cell h.c0) hn, hk.frz h.f2 (lt_of_cell h.c0) hn, fun j hj => (hk.cell (lt_of_cell h.c0) hn).trans (h.no j hj)⟩
theorem RBox.later {w w' : World} {b m cap : Nat} {n fl : Int} {a : Option Addr} (h : RBox w b n a m cap fl) (hb : Below w.heap.size w w') : RBox w' b n a m cap fl := h.kept (G := []) (Kept.of hb) (by simp)
theorem RBox.set {w : World} {b m cap m' cap' : Nat} {n fl fl' : Int} {a a' : Option Addr} (h : RBox w b n a m cap fl) : RBox (((w.setCell ⟨b, 0, none⟩ (.int .i64 n)).setCell ⟨b, 1, none⟩ (.slice a' m' cap')).setCell ⟨b, 2, none⟩ (.int .u64 fl')) b n a' m' cap' fl' :=
  ⟨cell_set_ne (cell_set_ne (cell_set_eq h.c0) (by simp)) (by simp), cell_set_ne (cell_set_eq (cell_set_ne h.c1 (by simp))) (by simp), cell_set_eq (cell_set_ne (cell_set_ne h.c2 (by simp)) (by simp)), by rw [World.frozen?_setCell, World.frozen?_setCell, World.frozen?_setCell]; exact h.f0, by rw [World.frozen?_setCell, World.frozen?_setCell, World.frozen?_setCell]; exact h.f1, by rw [World.frozen?_setCell, World.frozen?_setCell, World.frozen?_setCell]; exact h.f2, fun j hj => by
    rw [World.cell?_setCell_other, World.cell?_setCell_other, World.cell?_setCell_other]
    · exact h.no j hj
    · intro e; cases e; omega
    · intro e; cases e; omega
    · intro e; cases e; omega⟩
theorem RBox.new (w : World) (n fl : Int) (t : TypeId) (a : Option Addr) (m cap : Nat) : RBox (w.alloc (.cells #[.int .i64 n, .slice a m cap, .int .u64 fl] t)) w.heap.size n a m cap fl :=
  ⟨cell_nw _ _ _ 0 _ rfl, cell_nw _ _ _ 1 _ rfl, cell_nw _ _ _ 2 _ rfl, frz_nw _ _ _ 0, frz_nw _ _ _ 1, frz_nw _ _ _ 2, fun j hj => by rw [World.cell?_alloc_new]; simp; omega⟩
/-- records do not lie in such a variable -/
theorem HeldR.offBox {F : List Nat} {w : World} {v : Value} {S : Mems} {b m cap : Nat} {n fl : Int} {a : Option Addr} (h : HeldR encMs F w v S) (hb : RBox w b n a m cap fl) : HeldR encMs (b :: F) w v S := by
  obtain ⟨a', cap', e, h1, h2, h3, h⟩ := h
  refine ⟨a', cap', e, h1, h2, h3, ?_⟩
  cases S with
  | nil => exact Or.inl rfl
  | cons x r =>
    obtain ⟨g, off, e', ⟨q1, q2⟩, hc⟩ := h.resolve_left (by simp)
    refine Or.inr ⟨g, off, e', ⟨fun m => ?_, q2⟩, hc⟩
    rcases List.mem_cons.1 m with rfl | m
    · have i0 := hc 0 _ rfl
      have i1 := hc 1 _ rfl
      match off, i0, i1 with
      | 0, i0, i1 => rw [Nat.zero_add, hb.c1] at i1; cases i1
      | 1, i0, i1 => rw [Nat.add_zero, hb.c1] at i0; cases i0
      | 2, i0, i1 => rw [Nat.add_zero, hb.c2] at i0; cases i0
      | o + 3, i0, i1 => rw [Nat.add_zero, hb.no _ (by omega)] at i0; cases i0
    · exact q1 m
/-- both queues, from round to round -/
structure Both (w : World) (q : Nat) (b : Nat) (n : Int) (wr : World) (a : Option Addr) (cap : Nat) (S : Mems) (fl : Int) (F : List Nat) : Prop where
  inn : QIn wr q F n S fl
  box : RBox wr b n a S.length cap fl
  off : b ∉ F
  recs : HeldR encMs (b :: F) wr (.slice a S.length cap) S
  own : ∀ x ∈ F, w.heap.size ≤ x
  new : w.heap.size ≤ b
  bel : Below w.heap.size w wr
theorem Both.later {w wr w' : World} {q b cap : Nat} {n fl : Int} {a : Option Addr} {S : Mems} {F : List Nat} (h : Both w q b n wr a cap S fl F) (hb : Below wr.heap.size wr w') : Both w q b n w' a cap S fl F :=
  ⟨h.inn.below hb, h.box.later hb, h.off, h.recs.later hb, h.own, h.new, Below.step h.bel hb⟩
theorem HeldR.tail {F : List Nat} {b : Nat} {w : World} {v : Value} {S : Mems} (h : HeldR encMs (b :: F) w v S) : HeldR encMs F w v S := h.subM fun x hx => by simp [hx]
/-- behind act, and what it returns stored -/
theorem Both.acted {w wr w1 w2 : World} {q b cap cap' : Nat} {n fl fl' : Int} {a a' : Option Addr} {S S' : Mems} {F F' : List Nat} (h : Both w q b n wr a cap S fl F) (hH : QIn w1 q F' n S' fl') (hR : HeldR encMs F' w1 (.slice a' S'.length cap') S') (hS : Step F wr F' w1) (hb : Below w1.heap.size w1 w2) :
    RBox w2 b n a S.length cap fl ∧ Both w q b n (((w2.setCell ⟨b, 0, none⟩ (.int .i64 n)).setCell ⟨b, 1, none⟩ (.slice a' S'.length cap')).setCell ⟨b, 2, none⟩ (.int .u64 fl')) a' cap' S' fl' F' := by
  have hlb : b < wr.heap.size := lt_of_cell h.box.c0
  have hn : b ∉ F' := hS.off h.off hlb
  have hx := (h.box.kept hS.kept h.off).later hb
  have KF : Kept [b] w2 (((w2.setCell ⟨b, 0, none⟩ (.int .i64 n)).setCell ⟨b, 1, none⟩ (.slice a' S'.length cap')).setCell ⟨b, 2, none⟩ (.int .u64 fl')) := (((Kept.refl _ _).setCell (Or.inl (by simp)) _).setCell (Or.inl (by simp)) _).setCell (Or.inl (by simp)) _
  have hs := hS.below h.own h.bel.size
  refine ⟨hx, ⟨(hH.below hb).kept KF (fun x hxF m => ?_), hx.set, hn, ((hR.later hb).offBox hx).kept (KF.mono (fun x hx => by simp at hx; simp [hx])), hs.2, h.new, ?_⟩⟩
  · simp at m; subst m; exact hn hxF
  · exact Kept.stepB (Below.step (h.bel.trans hs.1) hb) (Nat.le_refl _) KF (fun x hx => by simp at hx; subst hx; exact h.new)
end Go.Proofs.Ytekjakmeopolhaa
