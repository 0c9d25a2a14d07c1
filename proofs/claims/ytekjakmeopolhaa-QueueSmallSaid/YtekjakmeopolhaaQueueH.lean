/-
  Layer 24 (queue): a queue that a law has made, from call to call; the examples of the chapter.
-/
import Derived.Test.YtekjakmeopolhaaQueueG
import Derived.Test.YtekjakmeopolhaaQueueK
import Derived.Test.YtekjakmeopolhaaQueueL
namespace Go.Proofs.Ytekjakmeopolhaa
open Go.RowKit Go.Maps Go.IntWalk Go.Lib
set_option linter.unusedVariables false
set_option linter.unusedSimpArgs false
/-- a queue whose blocks are the call's own -/
structure QW (w : World) (q : Nat) (n : Int) (M : Mems) (fl : Int) (wr : World) (F : List Nat) : Prop where
  inn : QIn wr q F n M fl
  own : ∀ b ∈ F, w.heap.size ≤ b
  bel : Below w.heap.size w wr
theorem QW.step {w wr w' : World} {q : Nat} {n : Int} {M M' : Mems} {fl fl' : Int} {F : List Nat} (h : QW w q n M fl wr F) (ha : QAfter wr q F n M' fl' w') : ∃ F', QW w q n M' fl' w' F' ∧ Step F wr F' w' := by
  obtain ⟨F', h1, h2⟩ := ha
  obtain ⟨h3, h4⟩ := h2.below h.own h.bel.size
  exact ⟨F', ⟨h1, h4, h.bel.trans h3⟩, h2⟩
theorem QW.later {w wr w' : World} {q : Nat} {n : Int} {M : Mems} {fl : Int} {F : List Nat} (h : QW w q n M fl wr F) (hk : Below wr.heap.size wr w') : QW w q n M fl w' F := ⟨h.inn.below hk, h.own, Below.step h.bel hk⟩
set_option maxRecDepth 100000 in
set_option maxHeartbeats 4000000 in
theorem awake_any (w : World) : Calls Try.prog 17 #[] w fun e w' => e = .returned (.bool true) ∧ Below w.heap.size w w' := by
  go_enter Try.func17, Try.ntmps17
  go_wp2_with fail
  refine (New_at 3 w (by decide) (by decide)).mono ?_
  rintro e w1 ⟨q, F1, rfl, hq, ho, hb⟩
  have H1 := Lib.hid (show QW w q 3 ([] : Mems) 0 w1 F1 from ⟨hq, ho, hb⟩)
  clear hq ho hb
  go_wp2_with fail
  refine (Enter_at (M := ([] : Mems)) (fl := 0) 1 (10, 0, 2) _ H1.out.inn (by decide) (by unfold Ch.Fits; decide)).mono ?_
  rintro e w2 ⟨rfl, hA⟩
  rw [show enterC 3 ([] : Mems) 1 (10, 0, 2) = 0 by decide]
  rw [show enterM 3 ([] : Mems) 1 (10, 0, 2) = ([(1, 10, 0, 2)] : Mems) by decide, show enterF 3 ([] : Mems) 1 (10, 0, 2) 0 = 10 by decide] at hA
  obtain ⟨F2, h2, t2⟩ := H1.out.step hA
  clear hA
  replace h2 : QW w q 3 ([(1, 10, 0, 2)] : Mems) 10 w2 F2 := h2
  have H2 := Lib.hid h2
  clear h2 t2
  go_wp2_with fail
  refine (Enter_at (M := ([(1, 10, 0, 2)] : Mems)) (fl := 10) 0 (10, 0, 1) _ H2.out.inn (by decide) (by unfold Ch.Fits; decide)).mono ?_
  rintro e w3 ⟨rfl, hA⟩
  rw [show enterC 3 ([(1, 10, 0, 2)] : Mems) 0 (10, 0, 1) = 0 by decide]
  rw [show enterM 3 ([(1, 10, 0, 2)] : Mems) 0 (10, 0, 1) = ([(0, 10, 0, 1), (1, 10, 0, 2)] : Mems) by decide, show enterF 3 ([(1, 10, 0, 2)] : Mems) 0 (10, 0, 1) 10 = 10 by decide] at hA
  obtain ⟨F3, h3, t3⟩ := H2.out.step hA
  clear hA
  replace h3 : QW w q 3 ([(0, 10, 0, 1), (1, 10, 0, 2)] : Mems) 10 w3 F3 := h3
  have H3 := Lib.hid h3
  clear h3 t3
  go_wp2_with fail
  refine (First_at (M := ([(0, 10, 0, 1), (1, 10, 0, 2)] : Mems)) (fl := 10) _ H3.out.inn).mono ?_
  rintro e w4 ⟨rfl, hb4⟩
  rw [show firstI ([(0, 10, 0, 1), (1, 10, 0, 2)] : Mems) = 0 by decide, show (!List.isEmpty ([(0, 10, 0, 1), (1, 10, 0, 2)] : Mems)) = true by decide]
  have t4 : Step F3 w3 F3 w4 := Step.of hb4
  have h4 := H3.out.later hb4
  clear hb4
  obtain ⟨F4, hF4⟩ : ∃ x, x = F3 := ⟨_, rfl⟩
  replace h4 : QW w q 3 ([(0, 10, 0, 1), (1, 10, 0, 2)] : Mems) 10 w4 F4 := by rw [hF4]; exact h4
  replace t4 : Step F3 w3 F4 w4 := by rw [hF4]; exact t4
  clear hF4
  have H4 := Lib.hid h4
  clear h4 t4
  go_wp2_with fail
  refine (Floor_at (M := ([(0, 10, 0, 1), (1, 10, 0, 2)] : Mems)) (fl := 10) _ H4.out.inn).mono ?_
  rintro e w5 ⟨rfl, rfl⟩
  go_wp2_with fail
  refine (Load_at (M := ([(0, 10, 0, 1), (1, 10, 0, 2)] : Mems)) (fl := 10) _ H4.out.inn).mono ?_
  rintro e w5 ⟨rfl, rfl⟩
  rw [show loadM ([(0, 10, 0, 1), (1, 10, 0, 2)] : Mems) = 3 by decide]
  go_wp2_with fail
  refine (Charge_at (M := ([(0, 10, 0, 1), (1, 10, 0, 2)] : Mems)) (fl := 10) 0 1 _ H4.out.inn (by decide)).mono ?_
  rintro e w5 ⟨rfl, hA⟩
  rw [show chC (decide (tkOk 1)) 3 ([(0, 10, 0, 1), (1, 10, 0, 2)] : Mems) 0 = 0 by decide]
  rw [show chS (decide (tkOk 1)) 3 ([(0, 10, 0, 1), (1, 10, 0, 2)] : Mems) 0 (chgX 1) = ([(1, 10, 0, 2), (0, 1048586, 0, 1)] : Mems) by decide, show chF (decide (tkOk 1)) 3 ([(0, 10, 0, 1), (1, 10, 0, 2)] : Mems) 0 (chgX 1) 10 = 10 by decide] at hA
  obtain ⟨F5, h5, t5⟩ := H4.out.step hA
  clear hA
  replace h5 : QW w q 3 ([(1, 10, 0, 2), (0, 1048586, 0, 1)] : Mems) 10 w5 F5 := h5
  have H5 := Lib.hid h5
  clear h5 t5
  go_wp2_with fail
  refine (Get_at (M := ([(1, 10, 0, 2), (0, 1048586, 0, 1)] : Mems)) (fl := 10) 0 _ H5.out.inn (by decide)).mono ?_
  rintro e w6 ⟨rfl, hb6⟩
  rw [show getE ([(1, 10, 0, 2), (0, 1048586, 0, 1)] : Mems) 0 = ((1048586, 0, 1) : Ent) by decide, show (entM ([(1, 10, 0, 2), (0, 1048586, 0, 1)] : Mems) 0).isSome = true by decide]
  have t6 : Step F5 w5 F5 w6 := Step.of hb6
  have h6 := H5.out.later hb6
  clear hb6
  obtain ⟨F6, hF6⟩ : ∃ x, x = F5 := ⟨_, rfl⟩
  replace h6 : QW w q 3 ([(1, 10, 0, 2), (0, 1048586, 0, 1)] : Mems) 10 w6 F6 := by rw [hF6]; exact h6
  replace t6 : Step F5 w5 F6 w6 := by rw [hF6]; exact t6
  clear hF6
  have hlt := h6.inn.lt
  have hb6 : Below w6.heap.size w6 (w6.alloc (.cells #[.int .u64 1048586, .int .u32 0, .int .u32 1] 32)) := below_a _ _
  replace t6 := t6.trans (Step.of hb6)
  replace h6 := h6.later hb6
  have a0 : (w6.alloc (.cells #[.int .u64 1048586, .int .u32 0, .int .u32 1] 32)).cell? ⟨w6.heap.size, 0, none⟩ = some (.int .u64 1048586) := cell_nw _ _ _ 0 _ rfl
  have a1 : (w6.alloc (.cells #[.int .u64 1048586, .int .u32 0, .int .u32 1] 32)).cell? ⟨w6.heap.size, 1, none⟩ = some (.int .u32 0) := cell_nw _ _ _ 1 _ rfl
  have a2 : (w6.alloc (.cells #[.int .u64 1048586, .int .u32 0, .int .u32 1] 32)).cell? ⟨w6.heap.size, 2, none⟩ = some (.int .u32 1) := cell_nw _ _ _ 2 _ rfl
  have oa : w6.heap.size ∉ F6 := fun m => by have := hlt _ m; omega
  have la := lt_of_cell a0
  clear hb6 hlt
  have H6 := Lib.hid h6
  clear h6 t6
  go_wp2_with fail
  generalize (w6.alloc (.cells #[.int .u64 1048586, .int .u32 0, .int .u32 1] 32)) = W6 at *
  generalize w6.heap.size = ba at *
  go_wp2_with fail
  refine (First_at (M := ([(1, 10, 0, 2), (0, 1048586, 0, 1)] : Mems)) (fl := 10) _ H6.out.inn).mono ?_
  rintro e w7 ⟨rfl, hb7⟩
  rw [show firstI ([(1, 10, 0, 2), (0, 1048586, 0, 1)] : Mems) = 1 by decide, show (!List.isEmpty ([(1, 10, 0, 2), (0, 1048586, 0, 1)] : Mems)) = true by decide]
  have t7 : Step F6 W6 F6 w7 := Step.of hb7
  have h7 := H6.out.later hb7
  clear hb7
  obtain ⟨F7, hF7⟩ : ∃ x, x = F6 := ⟨_, rfl⟩
  replace h7 : QW w q 3 ([(1, 10, 0, 2), (0, 1048586, 0, 1)] : Mems) 10 w7 F7 := by rw [hF7]; exact h7
  replace t7 : Step F6 W6 F7 w7 := by rw [hF7]; exact t7
  clear hF7
  replace a0 := t7.cell oa a0
  replace a1 := t7.cell oa a1
  replace a2 := t7.cell oa a2
  replace oa := t7.off oa la
  replace la := lt_of_cell a0
  have H7 := Lib.hid h7
  clear h7 t7
  go_wp2_with fail
  refine (Charge_at (M := ([(1, 10, 0, 2), (0, 1048586, 0, 1)] : Mems)) (fl := 10) 1 1 _ H7.out.inn (by decide)).mono ?_
  rintro e w8 ⟨rfl, hA⟩
  rw [show chC (decide (tkOk 1)) 3 ([(1, 10, 0, 2), (0, 1048586, 0, 1)] : Mems) 1 = 0 by decide]
  rw [show chS (decide (tkOk 1)) 3 ([(1, 10, 0, 2), (0, 1048586, 0, 1)] : Mems) 1 (chgX 1) = ([(1, 524298, 0, 2), (0, 1048586, 0, 1)] : Mems) by decide, show chF (decide (tkOk 1)) 3 ([(1, 10, 0, 2), (0, 1048586, 0, 1)] : Mems) 1 (chgX 1) 10 = 524298 by decide] at hA
  obtain ⟨F8, h8, t8⟩ := H7.out.step hA
  clear hA
  replace h8 : QW w q 3 ([(1, 524298, 0, 2), (0, 1048586, 0, 1)] : Mems) 524298 w8 F8 := h8
  replace a0 := t8.cell oa a0
  replace a1 := t8.cell oa a1
  replace a2 := t8.cell oa a2
  replace oa := t8.off oa la
  replace la := lt_of_cell a0
  have H8 := Lib.hid h8
  clear h8 t8
  go_wp2_with fail
  refine (Get_at (M := ([(1, 524298, 0, 2), (0, 1048586, 0, 1)] : Mems)) (fl := 524298) 1 _ H8.out.inn (by decide)).mono ?_
  rintro e w9 ⟨rfl, hb9⟩
  rw [show getE ([(1, 524298, 0, 2), (0, 1048586, 0, 1)] : Mems) 1 = ((524298, 0, 2) : Ent) by decide, show (entM ([(1, 524298, 0, 2), (0, 1048586, 0, 1)] : Mems) 1).isSome = true by decide]
  have t9 : Step F8 w8 F8 w9 := Step.of hb9
  have h9 := H8.out.later hb9
  clear hb9
  obtain ⟨F9, hF9⟩ : ∃ x, x = F8 := ⟨_, rfl⟩
  replace h9 : QW w q 3 ([(1, 524298, 0, 2), (0, 1048586, 0, 1)] : Mems) 524298 w9 F9 := by rw [hF9]; exact h9
  replace t9 : Step F8 w8 F9 w9 := by rw [hF9]; exact t9
  clear hF9
  have hlt := h9.inn.lt
  have hb9 : Below w9.heap.size w9 (w9.alloc (.cells #[.int .u64 524298, .int .u32 0, .int .u32 2] 32)) := below_a _ _
  replace t9 := t9.trans (Step.of hb9)
  replace h9 := h9.later hb9
  replace a0 := t9.cell oa a0
  replace a1 := t9.cell oa a1
  replace a2 := t9.cell oa a2
  replace oa := t9.off oa la
  replace la := lt_of_cell a0
  have b0 : (w9.alloc (.cells #[.int .u64 524298, .int .u32 0, .int .u32 2] 32)).cell? ⟨w9.heap.size, 0, none⟩ = some (.int .u64 524298) := cell_nw _ _ _ 0 _ rfl
  have b1 : (w9.alloc (.cells #[.int .u64 524298, .int .u32 0, .int .u32 2] 32)).cell? ⟨w9.heap.size, 1, none⟩ = some (.int .u32 0) := cell_nw _ _ _ 1 _ rfl
  have b2 : (w9.alloc (.cells #[.int .u64 524298, .int .u32 0, .int .u32 2] 32)).cell? ⟨w9.heap.size, 2, none⟩ = some (.int .u32 2) := cell_nw _ _ _ 2 _ rfl
  have ob : w9.heap.size ∉ F9 := fun m => by have := hlt _ m; omega
  have lb := lt_of_cell b0
  clear hb9 hlt
  have H9 := Lib.hid h9
  clear h9 t9
  go_wp2_with fail
  generalize (w9.alloc (.cells #[.int .u64 524298, .int .u32 0, .int .u32 2] 32)) = W9 at *
  generalize w9.heap.size = bb at *
  go_wp2_with fail
  refine (First_at (M := ([(1, 524298, 0, 2), (0, 1048586, 0, 1)] : Mems)) (fl := 524298) _ H9.out.inn).mono ?_
  rintro e w10 ⟨rfl, hb10⟩
  rw [show firstI ([(1, 524298, 0, 2), (0, 1048586, 0, 1)] : Mems) = 1 by decide, show (!List.isEmpty ([(1, 524298, 0, 2), (0, 1048586, 0, 1)] : Mems)) = true by decide]
  have t10 : Step F9 W9 F9 w10 := Step.of hb10
  have h10 := H9.out.later hb10
  clear hb10
  obtain ⟨F10, hF10⟩ : ∃ x, x = F9 := ⟨_, rfl⟩
  replace h10 : QW w q 3 ([(1, 524298, 0, 2), (0, 1048586, 0, 1)] : Mems) 524298 w10 F10 := by rw [hF10]; exact h10
  replace t10 : Step F9 W9 F10 w10 := by rw [hF10]; exact t10
  clear hF10
  replace a0 := t10.cell oa a0
  replace a1 := t10.cell oa a1
  replace a2 := t10.cell oa a2
  replace oa := t10.off oa la
  replace la := lt_of_cell a0
  replace b0 := t10.cell ob b0
  replace b1 := t10.cell ob b1
  replace b2 := t10.cell ob b2
  replace ob := t10.off ob lb
  replace lb := lt_of_cell b0
  have H10 := Lib.hid h10
  clear h10 t10
  go_wp2_with fail
  refine (Floor_at (M := ([(1, 524298, 0, 2), (0, 1048586, 0, 1)] : Mems)) (fl := 524298) _ H10.out.inn).mono ?_
  rintro e w11 ⟨rfl, rfl⟩
  go_wp2_with fail
  refine (Enter_at (M := ([(1, 524298, 0, 2), (0, 1048586, 0, 1)] : Mems)) (fl := 524298) 2 (5, 0, 1) _ H10.out.inn (by decide) (by unfold Ch.Fits; decide)).mono ?_
  rintro e w11 ⟨rfl, hA⟩
  rw [show enterC 3 ([(1, 524298, 0, 2), (0, 1048586, 0, 1)] : Mems) 2 (5, 0, 1) = 0 by decide]
  rw [show enterM 3 ([(1, 524298, 0, 2), (0, 1048586, 0, 1)] : Mems) 2 (5, 0, 1) = ([(2, 5, 0, 1), (1, 524298, 0, 2), (0, 1048586, 0, 1)] : Mems) by decide, show enterF 3 ([(1, 524298, 0, 2), (0, 1048586, 0, 1)] : Mems) 2 (5, 0, 1) 524298 = 524298 by decide] at hA
  obtain ⟨F11, h11, t11⟩ := H10.out.step hA
  clear hA
  replace h11 : QW w q 3 ([(2, 5, 0, 1), (1, 524298, 0, 2), (0, 1048586, 0, 1)] : Mems) 524298 w11 F11 := h11
  replace a0 := t11.cell oa a0
  replace a1 := t11.cell oa a1
  replace a2 := t11.cell oa a2
  replace oa := t11.off oa la
  replace la := lt_of_cell a0
  replace b0 := t11.cell ob b0
  replace b1 := t11.cell ob b1
  replace b2 := t11.cell ob b2
  replace ob := t11.off ob lb
  replace lb := lt_of_cell b0
  have H11 := Lib.hid h11
  clear h11 t11
  go_wp2_with fail
  refine (First_at (M := ([(2, 5, 0, 1), (1, 524298, 0, 2), (0, 1048586, 0, 1)] : Mems)) (fl := 524298) _ H11.out.inn).mono ?_
  rintro e w12 ⟨rfl, hb12⟩
  rw [show firstI ([(2, 5, 0, 1), (1, 524298, 0, 2), (0, 1048586, 0, 1)] : Mems) = 2 by decide, show (!List.isEmpty ([(2, 5, 0, 1), (1, 524298, 0, 2), (0, 1048586, 0, 1)] : Mems)) = true by decide]
  have t12 : Step F11 w11 F11 w12 := Step.of hb12
  have h12 := H11.out.later hb12
  clear hb12
  obtain ⟨F12, hF12⟩ : ∃ x, x = F11 := ⟨_, rfl⟩
  replace h12 : QW w q 3 ([(2, 5, 0, 1), (1, 524298, 0, 2), (0, 1048586, 0, 1)] : Mems) 524298 w12 F12 := by rw [hF12]; exact h12
  replace t12 : Step F11 w11 F12 w12 := by rw [hF12]; exact t12
  clear hF12
  replace a0 := t12.cell oa a0
  replace a1 := t12.cell oa a1
  replace a2 := t12.cell oa a2
  replace oa := t12.off oa la
  replace la := lt_of_cell a0
  replace b0 := t12.cell ob b0
  replace b1 := t12.cell ob b1
  replace b2 := t12.cell ob b2
  replace ob := t12.off ob lb
  replace lb := lt_of_cell b0
  have H12 := Lib.hid h12
  clear h12 t12
  go_wp2_with fail
  refine (Leave_at (M := ([(2, 5, 0, 1), (1, 524298, 0, 2), (0, 1048586, 0, 1)] : Mems)) (fl := 524298) 2 _ H12.out.inn (by decide)).mono ?_
  rintro e w13 ⟨rfl, hA⟩
  rw [show leaveC 3 ([(2, 5, 0, 1), (1, 524298, 0, 2), (0, 1048586, 0, 1)] : Mems) 2 = 0 by decide, show leaveE 3 ([(2, 5, 0, 1), (1, 524298, 0, 2), (0, 1048586, 0, 1)] : Mems) 2 = ((5, 0, 1) : Ent) by decide]
  rw [show leaveM 3 ([(2, 5, 0, 1), (1, 524298, 0, 2), (0, 1048586, 0, 1)] : Mems) 2 = ([(1, 524298, 0, 2), (0, 1048586, 0, 1)] : Mems) by decide, show leaveF 3 ([(2, 5, 0, 1), (1, 524298, 0, 2), (0, 1048586, 0, 1)] : Mems) 2 524298 = 524298 by decide] at hA
  obtain ⟨F13, h13, t13⟩ := H12.out.step hA
  clear hA
  replace h13 : QW w q 3 ([(1, 524298, 0, 2), (0, 1048586, 0, 1)] : Mems) 524298 w13 F13 := h13
  have hlt := h13.inn.lt
  have hb13 : Below w13.heap.size w13 (w13.alloc (.cells #[.int .u64 5, .int .u32 0, .int .u32 1] 32)) := below_a _ _
  replace t13 := t13.trans (Step.of hb13)
  replace h13 := h13.later hb13
  replace a0 := t13.cell oa a0
  replace a1 := t13.cell oa a1
  replace a2 := t13.cell oa a2
  replace oa := t13.off oa la
  replace la := lt_of_cell a0
  replace b0 := t13.cell ob b0
  replace b1 := t13.cell ob b1
  replace b2 := t13.cell ob b2
  replace ob := t13.off ob lb
  replace lb := lt_of_cell b0
  have c0 : (w13.alloc (.cells #[.int .u64 5, .int .u32 0, .int .u32 1] 32)).cell? ⟨w13.heap.size, 0, none⟩ = some (.int .u64 5) := cell_nw _ _ _ 0 _ rfl
  have c1 : (w13.alloc (.cells #[.int .u64 5, .int .u32 0, .int .u32 1] 32)).cell? ⟨w13.heap.size, 1, none⟩ = some (.int .u32 0) := cell_nw _ _ _ 1 _ rfl
  have c2 : (w13.alloc (.cells #[.int .u64 5, .int .u32 0, .int .u32 1] 32)).cell? ⟨w13.heap.size, 2, none⟩ = some (.int .u32 1) := cell_nw _ _ _ 2 _ rfl
  have oc : w13.heap.size ∉ F13 := fun m => by have := hlt _ m; omega
  have lc := lt_of_cell c0
  clear hb13 hlt
  have H13 := Lib.hid h13
  clear h13 t13
  go_wp2_with fail
  generalize (w13.alloc (.cells #[.int .u64 5, .int .u32 0, .int .u32 1] 32)) = W13 at *
  generalize w13.heap.size = bc at *
  go_wp2_with fail
  refine (Floor_at (M := ([(1, 524298, 0, 2), (0, 1048586, 0, 1)] : Mems)) (fl := 524298) _ H13.out.inn).mono ?_
  rintro e w14 ⟨rfl, rfl⟩
  go_wp2_with fail
  go_ret
  exact ⟨rfl, H13.out.bel⟩
end Go.Proofs.Ytekjakmeopolhaa
