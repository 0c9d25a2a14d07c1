/-
  The walks of layer 18 (heap): what compares; the small methods.
-/
import Derived.Test.YtfgmglghlapbcaaHeapLay
import Derived.Test.YtfgmglghlapbcaaKitG
import Derived.RegionTactic
import Derived.Deep.RegionHeld3
import Derived.Outline
namespace Go.Proofs.Ytfgmglghlapbcaa
open Go.RowKit Go.IntWalk Go.Lib Go.Sort
set_option linter.unusedVariables false
def orV (a b : Int) : Int := if a = 0 then b else a
set_option maxRecDepth 100000 in
set_option maxHeartbeats 400000 in
theorem Or_any (B : Nat) (x y : Int) (w : World) (h0 : w.cell? ⟨B, 0, none⟩ = some (.int .i64 x)) (h1 : w.cell? ⟨B, 1, none⟩ = some (.int .i64 y)) :
    Calls Try.prog 81 #[.slice (some ⟨B, 0, none⟩) 2 2] w fun e w' => e = .returned (.int .i64 (orV x y)) ∧ w = w' := by
  by_cases hx : x = 0
  · subst hx
    by_cases hy : y = 0
    · subst hy
      go_enter Try.func81, Try.ntmps81
      go_wp2_with fail
      refine wp_loop_rounds 3 ?_
      rw [rounds_succ]
      go_wp2_with fail
      rw [rounds_succ]
      go_wp2_with fail
      rw [rounds_succ]
      go_wp2_with fail
      go_ret
      exact ⟨rfl, rfl⟩
    · have hz : (y == 0) = false := by simpa using hy
      have hz' : (y != 0) = true := by simpa using hy
      have ho : orV 0 y = y := rfl
      rw [ho]
      clear ho
      go_enter Try.func81, Try.ntmps81
      go_wp2_with fail
      refine wp_loop_rounds 2 ?_
      rw [rounds_succ]
      go_wp2_with fail
      rw [rounds_succ]
      go_wp2_with fail
      go_ret
      exact ⟨rfl, rfl⟩
  · have hz : (x == 0) = false := by simpa using hx
    have hz' : (x != 0) = true := by simpa using hx
    rw [show orV x y = x from if_neg hx]
    go_enter Try.func81, Try.ntmps81
    go_wp2_with fail
    refine wp_loop_rounds 1 ?_
    rw [rounds_succ]
    go_wp2_with fail
    go_ret
    exact ⟨rfl, rfl⟩
theorem Compare_any (x y : Int) (w : World) : Calls Try.prog 83 #[.int .i64 x, .int .i64 y] w fun e w' => e = .returned (.int .i64 (Lib.compareInt x y)) ∧ w = w' := by
  have h := AnyG.cmp_Compare_int Ytfgmglghlapbcaa.cmpInt x y w
  change Calls Try.prog 83 _ _ _ at h
  exact h.mono fun _ _ ⟨a, b⟩ => ⟨a, b.symm⟩
set_option maxHeartbeats 400000 in
theorem isNaNU_any (x : Int) (w : World) : Calls Try.prog 84 #[.int .u64 x] w fun e w' => e = .returned (.bool false) ∧ w = w' := by
  have hx : (x != x) = false := by simp
  go_enter Try.func84, Try.ntmps84
  go_wp2_with fail
  go_ret
  exact ⟨rfl, rfl⟩
set_option maxHeartbeats 400000 in
theorem CompareU_any (x y : Int) (w : World) : Calls Try.prog 82 #[.int .u64 x, .int .u64 y] w fun e w' => e = .returned (.int .i64 (Lib.compareInt x y)) ∧ w = w' := by
  have A1 := Lib.hid fun x => isNaNU_any x w
  unfold Lib.compareInt
  by_cases h1 : x < y
  · rw [if_pos h1]
    go_enter Try.func82, Try.ntmps82
    go_wp2_with (go_at_call 84; refine (A1.out _).mono ?_; rintro e w' ⟨rfl, rfl⟩)
    go_ret
    exact ⟨rfl, rfl⟩
  · by_cases h2 : y < x
    · rw [if_neg h1, if_pos h2]
      go_enter Try.func82, Try.ntmps82
      go_wp2_with (go_at_call 84; refine (A1.out _).mono ?_; rintro e w' ⟨rfl, rfl⟩)
      go_ret
      exact ⟨rfl, rfl⟩
    · rw [if_neg h1, if_neg h2]
      go_enter Try.func82, Try.ntmps82
      go_wp2_with (go_at_call 84; refine (A1.out _).mono ?_; rintro e w' ⟨rfl, rfl⟩)
      go_ret
      exact ⟨rfl, rfl⟩
/-- what stands first: keys, then IDs -/
def ordV (x y : Int × Int) : Int := orV (Lib.compareInt x.2 y.2) (Lib.compareInt x.1 y.1)
set_option maxRecDepth 100000 in
set_option maxHeartbeats 1000000 in
theorem order_any (x1 x2 y1 y2 : Int) (w : World) :
    Calls Try.prog 78 #[.agg #[.int .i64 x1, .int .u64 x2], .agg #[.int .i64 y1, .int .u64 y2]] w fun e w' => e = .returned (.int .i64 (ordV (x1, x2) (y1, y2))) ∧ Grows w w' := by
  have A1 := Lib.hid fun x y W => Compare_any x y W
  have A1' := Lib.hid fun x y W => CompareU_any x y W
  have A2 := Lib.hid fun B x y W => Or_any B x y W
  have HG : Grows w ((w.alloc (.cells #[.int .i64 x1, .int .u64 x2] 122)).alloc (.cells #[.int .i64 y1, .int .u64 y2] 122)) := ((Grows.refl _).alloc _).alloc _
  have a0 := cell_al (.cells #[.int .i64 y1, .int .u64 y2] 122) (cell_nw w #[.int .i64 x1, .int .u64 x2] 122 0 _ rfl)
  have a1 := cell_al (.cells #[.int .i64 y1, .int .u64 y2] 122) (cell_nw w #[.int .i64 x1, .int .u64 x2] 122 1 _ rfl)
  have b0 := cell_nw (w.alloc (.cells #[.int .i64 x1, .int .u64 x2] 122)) #[.int .i64 y1, .int .u64 y2] 122 0 _ rfl
  have b1 := cell_nw (w.alloc (.cells #[.int .i64 x1, .int .u64 x2] 122)) #[.int .i64 y1, .int .u64 y2] 122 1 _ rfl
  simp only [World.size_alloc] at b0 b1
  go_enter Try.func78, Try.ntmps78
  go_wp2_with fail
  generalize (w.alloc (.cells #[.int .i64 x1, .int .u64 x2] 122)).alloc (.cells #[.int .i64 y1, .int .u64 y2] 122) = wo at *
  have a0_1 := fun o1 => cell_al o1 (a0)
  have a0_2 := fun o1 o2 => cell_al o2 (cell_al o1 (a0))
  have a1_1 := fun o1 => cell_al o1 (a1)
  have a1_2 := fun o1 o2 => cell_al o2 (cell_al o1 (a1))
  have b0_1 := fun o1 => cell_al o1 (b0)
  have b0_2 := fun o1 o2 => cell_al o2 (cell_al o1 (b0))
  have b1_1 := fun o1 => cell_al o1 (b1)
  have b1_2 := fun o1 o2 => cell_al o2 (cell_al o1 (b1))
  clear a0_1 a0_2 a1_1 a1_2 b0_1 b0_2 b1_1 b1_2
  have hS0 : Grows wo wo.drew ∧ wo.drew.cell? ⟨w.heap.size, 0, none⟩ = some (.int .i64 x1) ∧ wo.drew.cell? ⟨w.heap.size, 1, none⟩ = some (.int .u64 x2) ∧ wo.drew.cell? ⟨w.heap.size + 1, 0, none⟩ = some (.int .i64 y1) ∧ wo.drew.cell? ⟨w.heap.size + 1, 1, none⟩ = some (.int .u64 y2) := ⟨(Grows.drew (Grows.refl _)), cell_dr a0, cell_dr a1, cell_dr b0, cell_dr b1⟩
  go_region_held3 (fun w' => Grows wo w' ∧ w'.cell? ⟨w.heap.size, 0, none⟩ = some (.int .i64 x1) ∧ w'.cell? ⟨w.heap.size, 1, none⟩ = some (.int .u64 x2) ∧ w'.cell? ⟨w.heap.size + 1, 0, none⟩ = some (.int .i64 y1) ∧ w'.cell? ⟨w.heap.size + 1, 1, none⟩ = some (.int .u64 y2)) (first | assumption | (refine heldG_4 (by assumption) ?_; assumption) | (refine heldG_4 (grows_ad _ _) ?_; assumption) | (refine heldG_4 (grows_a _ _) ?_; assumption)) (first | (go_at_call 82; refine (A1'.out _ _ _).mono ?_; rintro e w5 ⟨rfl, rfl⟩) | (go_at_call 83; refine (A1.out _ _ _).mono ?_; rintro e w5 ⟨rfl, rfl⟩) | (go_at_call 81; refine (A2.out _ _ _ _ (by exact cell_nw _ _ _ 0 _ rfl) (by exact cell_nw _ _ _ 1 _ rfl)).mono ?_; rintro e w5 ⟨rfl, rfl⟩))
  clear hS0
  all_goals
    rename_i hH
    have HG2 := HG.trans hH.1
    go_wp2_with fail
    go_ret
    exact ⟨rfl, HG2⟩
end Go.Proofs.Ytfgmglghlapbcaa
