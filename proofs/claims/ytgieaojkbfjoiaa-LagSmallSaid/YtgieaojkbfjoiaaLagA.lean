/-
  The walk of layer 39 (lag): awake.
-/
import Derived.Test.YtgieaojkbfjoiaaLagM3
namespace Go.Proofs.Ytgieaojkbfjoiaa
open Go.RowKit Go.Maps Go.IntWalk Go.Lib Go.Sort
set_option linter.unusedVariables false
theorem awake_lists : newC [(1, 1), (2, 2), (3, 3)] = 0 ∧ runC (ran0 [(1, 1), (2, 2), (3, 3)]) 3 4 = 0 ∧ runL (ran0 [(1, 1), (2, 2), (3, 3)]) 3 4 = [(1, 1, 0), (2, 2, 0), (3, 3, 4)] ∧
    runC [(1, 1, 0), (2, 2, 0), (3, 3, 4)] 1 1 = 0 ∧ runL [(1, 1, 0), (2, 2, 0), (3, 3, 4)] 1 1 = [(1, 1, 1), (2, 2, 0), (3, 3, 4)] := by decide
theorem awake_order : IdsOrder (lagR [(1, 1, 0), (2, 2, 0), (3, 3, 4)]) (idsL [(1, 1, 0), (2, 2, 0), (3, 3, 4)]) [2, 1, 3] := ⟨by decide, by decide⟩
theorem awake_spread : mostV [(1, 1, 0), (2, 2, 0), (3, 3, 4)] (lagV [(1, 1, 0), (2, 2, 0), (3, 3, 4)] (1, 1, 0)) ([(1, 1, 0), (2, 2, 0), (3, 3, 4)] : List (Int × Int × Int)).length = 8 ∧ leastV [(1, 1, 0), (2, 2, 0), (3, 3, 4)] (lagV [(1, 1, 0), (2, 2, 0), (3, 3, 4)] (1, 1, 0)) ([(1, 1, 0), (2, 2, 0), (3, 3, 4)] : List (Int × Int × Int)).length = -12 := by decide
theorem awake_next : (minV [(1, 1, 0), (2, 2, 0), (3, 3, 4)] (1, 1, 0) ([(1, 1, 0), (2, 2, 0), (3, 3, 4)] : List (Int × Int × Int)).length).1 = 1 := by decide +kernel
theorem awake_lags : lagR [(1, 1, 1), (2, 2, 0), (3, 3, 4)] 1 = -1 ∧ hasId [(1, 1, 1), (2, 2, 0), (3, 3, 4)] 1 = true ∧ lagR [(1, 1, 1), (2, 2, 0), (3, 3, 4)] 2 = 10 ∧ hasId [(1, 1, 1), (2, 2, 0), (3, 3, 4)] 2 = true ∧ lagR [(1, 1, 1), (2, 2, 0), (3, 3, 4)] 3 = -9 ∧ hasId [(1, 1, 1), (2, 2, 0), (3, 3, 4)] 3 = true ∧ untilR [(1, 1, 1), (2, 2, 0), (3, 3, 4)] 2 = 3 ∧ hasId [(1, 1, 1), (2, 2, 0), (3, 3, 4)] 2 = true := by decide
theorem RowAt.kept {K : IntKind} {w w' : World} {a : Option Addr} {n : Nat} {xs : List Int} {S : List Nat} (h : RowAt K w a n xs) (hk : Kept S w w') (hS : ∀ b off, a = some ⟨b, off, none⟩ → b ∉ S) : RowAt K w' a n xs := by
  refine ⟨h.1, fun h0 => ?_⟩
  obtain ⟨b, off, e, hc⟩ := h.2 h0
  exact ⟨b, off, e, fun i x hx => hk.cellAt (hc i x hx) (hS b off e)⟩
set_option maxRecDepth 100000 in
set_option maxHeartbeats 2000000 in
theorem awake_true (w : World) : Calls Try.prog 16 #[] w fun e w' => e = .returned (.bool true) ∧ Below w.heap.size w w' := by
  go_enter Try.func16, Try.ntmps16
  go_wp2_with fail
  have hp : PairsIn (w.alloc (.cells #[.int .i64 1, .int .i64 1, .int .i64 2, .int .i64 2, .int .i64 3, .int .i64 3] 28)) (.slice (some ⟨w.heap.size, 0, none⟩) 3 3) [(1, 1), (2, 2), (3, 3)] := by
    refine ⟨_, 3, rfl, Or.inr ⟨w.heap.size, 0, rfl, fun k x hx => ?_⟩⟩
    match k, hx with
    | 0, hx => cases hx; exact ⟨cell_nw _ _ _ 0 _ rfl, cell_nw _ _ _ 1 _ rfl⟩
    | 1, hx => cases hx; exact ⟨cell_nw _ _ _ 2 _ rfl, cell_nw _ _ _ 3 _ rfl⟩
    | 2, hx => cases hx; exact ⟨cell_nw _ _ _ 4 _ rfl, cell_nw _ _ _ 5 _ rfl⟩
    | k + 3, hx => simp at hx
  have hb0 := below_a w (.cells #[.int .i64 1, .int .i64 1, .int .i64 2, .int .i64 2, .int .i64 3, .int .i64 3] 28)
  generalize w.alloc (.cells #[.int .i64 1, .int .i64 1, .int .i64 2, .int .i64 2, .int .i64 3, .int .i64 3] 28) = w0 at *
  refine (New_any _ [(1, 1), (2, 2), (3, 3)] w0 hp (by decide)).mono ?_
  rintro e w1 ⟨hb1, ⟨h, _⟩ | ⟨_, p, g, bm, cap, rfl, hM, hp1, hg1, hm1⟩⟩
  · exact absurd awake_lists.1 h
  clear hp
  have hbw1 := Below.step hb0 hb1
  have HM1 := Lib.hid hM
  clear hM
  go_wp2_with fail
  refine (Run_any p g bm cap _ 3 3 4 w1 HM1.out (by decide) (by decide)).mono ?_
  rintro e w2 ⟨he, hM2, hk2⟩
  rw [awake_lists.2.1] at he
  rw [awake_lists.2.2.1] at hM2
  subst he
  have hpg : ∀ k ∈ [p, g], w.heap.size ≤ k := fun k hk => by
    have := hb0.size
    simp only [List.mem_cons, List.not_mem_nil, or_false] at hk
    omega
  have HPG := Lib.hid hpg
  have hbw2 := Kept.stepB hbw1 (Nat.le_refl _) hk2 hpg
  have HM2 := Lib.hid hM2
  clear hM2 hk2 hpg
  go_wp2_with fail
  refine (Spread_any p g bm cap _ 3 w2 HM2.out).mono ?_
  rintro e w3 ⟨hb3, x, hx, rfl⟩
  cases hx
  rw [awake_spread.1, awake_spread.2]
  have hM3 := HM2.out.below hb3
  have hbw3 := Below.step hbw2 hb3
  have HM3 := Lib.hid hM3
  clear hM3
  go_wp2_with fail
  refine (Order_fn p g bm cap _ 3 w3 HM3.out).mono ?_
  rintro e w4 ⟨bo, out, rfl, ho, hio, hb4⟩
  obtain rfl := ids_unique hio awake_order
  have hr4 := own_row ho
  have hM4 := HM3.out.below hb4
  have hbw4 := Below.step hbw3 hb4
  have HM4 := Lib.hid hM4
  have hbo : w3.heap.size ≤ bo := (ho.lt bo rfl).1
  clear hM4 hio ho
  go_wp2_with fail
  refine (Next_any p g bm cap _ 3 w4 HM4.out).mono ?_
  rintro e w5 ⟨hb5, x, hx, rfl⟩
  cases hx
  rw [awake_next]
  have hM5 := HM4.out.below hb5
  have hbw5 := Below.step hbw4 hb5
  have hr5 := hr4.later hb5
  have HM5 := Lib.hid hM5
  clear hM5
  go_wp2_with fail
  refine (Run_any p g bm cap _ 3 1 1 w5 HM5.out (by decide) (by decide)).mono ?_
  rintro e w6 ⟨he, hM6, hk6⟩
  rw [awake_lists.2.2.2.1] at he
  rw [awake_lists.2.2.2.2] at hM6
  subst he
  have hbw6 := Kept.stepB hbw5 (Nat.le_refl _) hk6 HPG.out
  have hr6 := hr5.kept hk6 (fun b off hb => by
    have := HM3.out.lts
    cases hb
    simp only [List.mem_cons, List.not_mem_nil, or_false]
    omega)
  have HM6 := Lib.hid hM6
  clear hM6 hk6
  go_wp2_with fail
  refine (Lag_fn p g bm cap _ 3 1 w6 HM6.out (by decide)).mono ?_
  rintro e w7 ⟨rfl, hb7⟩
  rw [awake_lags.1, awake_lags.2.1]
  have HM7 := Lib.hid (HM6.out.below hb7)
  go_wp2_with fail
  refine (Lag_fn p g bm cap _ 3 2 w7 HM7.out (by decide)).mono ?_
  rintro e w8 ⟨rfl, hb8⟩
  rw [awake_lags.2.2.1, awake_lags.2.2.2.1]
  have HM8 := Lib.hid (HM7.out.below hb8)
  go_wp2_with fail
  refine (Lag_fn p g bm cap _ 3 3 w8 HM8.out (by decide)).mono ?_
  rintro e w9 ⟨rfl, hb9⟩
  rw [awake_lags.2.2.2.2.1, awake_lags.2.2.2.2.2.1]
  have HM9 := Lib.hid (HM8.out.below hb9)
  go_wp2_with fail
  refine (Until_fn p g bm cap _ 3 2 w9 HM9.out (by decide)).mono ?_
  rintro e w10 ⟨rfl, hb10⟩
  rw [awake_lags.2.2.2.2.2.2.1, if_pos awake_lags.2.2.2.2.2.2.2]
  have HM10 := Lib.hid (HM9.out.below hb10)
  have hbw10 := Below.step (Below.step (Below.step (Below.step hbw6 hb7) hb8) hb9) hb10
  have hr10 := (((hr6.later hb7).later hb8).later hb9).later hb10
  clear hr4 hr5 hr6 hb7 hb8 hb9 hb10 hbw6
  go_wp2_with fail
  have hrn : RowAt .i64 (w10.alloc (.cells #[.int .i64 2, .int .i64 1, .int .i64 3] 3)) (some ⟨w10.heap.size, 0, none⟩) 3 [2, 1, 3] := by
    refine ⟨rfl, fun _ => ⟨w10.heap.size, 0, rfl, fun i x hx => ?_⟩⟩
    match i, hx with
    | 0, hx => cases hx; exact cell_nw _ _ _ 0 _ rfl
    | 1, hx => cases hx; exact cell_nw _ _ _ 1 _ rfl
    | 2, hx => cases hx; exact cell_nw _ _ _ 2 _ rfl
    | i + 3, hx => simp at hx
  have hro := hr10.later (below_a w10 (.cells #[.int .i64 2, .int .i64 1, .int .i64 3] 3))
  have hbn := below_a w10 (.cells #[.int .i64 2, .int .i64 1, .int .i64 3] 3)
  generalize w10.alloc (.cells #[.int .i64 2, .int .i64 1, .int .i64 3] 3) = w11 at *
  have HM11 := Lib.hid (HM10.out.below hbn)
  refine (SameInts_any _ _ 3 3 3 3 [2, 1, 3] [2, 1, 3] w11 hro hrn (by decide) (by decide)).mono ?_
  rintro e w12 ⟨rfl, hg12⟩
  rw [show decide (([2, 1, 3] : List Int) = [2, 1, 3]) = true by decide]
  have hb12 := hg12.below
  have HM12 := Lib.hid (HM11.out.below hb12)
  have hbw12 := Below.step (Below.step hbw10 hbn) hb12
  clear hro hrn hr10 hg12
  go_wp2_with fail
  refine (Total_any p g bm cap _ 3 w12 HM12.out).mono ?_
  rintro e w13 ⟨rfl, rfl⟩
  rw [show sumR [(1, 1, 1), (2, 2, 0), (3, 3, 4)] = 5 by decide]
  go_wp2_with fail
  refine (Weight_any p g bm cap _ 3 w12 HM12.out).mono ?_
  rintro e w13 ⟨rfl, rfl⟩
  rw [show sumW [(1, 1, 1), (2, 2, 0), (3, 3, 4)] = 6 by decide]
  go_wp2_with fail
  go_ret
  exact ⟨rfl, hbw12⟩
end Go.Proofs.Ytgieaojkbfjoiaa
