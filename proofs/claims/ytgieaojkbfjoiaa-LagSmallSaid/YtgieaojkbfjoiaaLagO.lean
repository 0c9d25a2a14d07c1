/-
  The walks of layer 39 (lag): Or, Compare, what Order compares, what Next compares.
-/
import Derived.Test.YtgieaojkbfjoiaaLagS
import Derived.Test.YtgieaojkbfjoiaaKitG
namespace Go.Proofs.Ytgieaojkbfjoiaa
open Go.RowKit Go.Maps Go.IntWalk Go.Lib Go.Sort
set_option linter.unusedVariables false
def orV (a b : Int) : Int := if a = 0 then b else a
set_option maxRecDepth 100000 in
set_option maxHeartbeats 400000 in
theorem Or_any (B : Nat) (x y : Int) (w : World) (h0 : w.cell? ⟨B, 0, none⟩ = some (.int .i64 x)) (h1 : w.cell? ⟨B, 1, none⟩ = some (.int .i64 y)) :
    Calls Try.prog 32 #[.slice (some ⟨B, 0, none⟩) 2 2] w fun e w' => e = .returned (.int .i64 (orV x y)) ∧ w = w' := by
  by_cases hx : x = 0
  · subst hx
    by_cases hy : y = 0
    · subst hy
      go_enter Try.func32, Try.ntmps32
      go_wp2_with fail
      refine wp_loop_rounds 3 ?_
      rw [rounds_succ]
      go_wp2_with fail
      rw [rounds_succ]
      go_wp2_with fail
      rw [rounds_succ]
      go_wp2_with fail
      go_ret
      exact ⟨rfl, rfl⟩
    · have hz : (y == 0) = false := by simpa using hy
      have hz' : (y != 0) = true := by simpa using hy
      have ho : orV 0 y = y := rfl
      rw [ho]
      clear ho
      go_enter Try.func32, Try.ntmps32
      go_wp2_with fail
      refine wp_loop_rounds 2 ?_
      rw [rounds_succ]
      go_wp2_with fail
      rw [rounds_succ]
      go_wp2_with fail
      go_ret
      exact ⟨rfl, rfl⟩
  · have hz : (x == 0) = false := by simpa using hx
    have hz' : (x != 0) = true := by simpa using hx
    rw [show orV x y = x from if_neg hx]
    go_enter Try.func32, Try.ntmps32
    go_wp2_with fail
    refine wp_loop_rounds 1 ?_
    rw [rounds_succ]
    go_wp2_with fail
    go_ret
    exact ⟨rfl, rfl⟩
theorem Compare_any (x y : Int) (w : World) : Calls Try.prog 33 #[.int .i64 x, .int .i64 y] w fun e w' => e = .returned (.int .i64 (Lib.compareInt x y)) ∧ w = w' := by
  have h := AnyG.cmp_Compare_int Ytgieaojkbfjoiaa.cmpInt x y w
  change Calls Try.prog 33 _ _ _ at h
  exact h.mono fun _ _ ⟨a, b⟩ => ⟨a, b.symm⟩
/-- a task's three cells -/
def encR (x : Int × Int × Int) : List Value := [.int .i64 x.1, .int .i64 x.2.1, .int .i64 x.2.2]
def lagW (tot wt : Int) (x : Int × Int × Int) : Int := wrap64 (wrap64 (tot * x.2.1) - wrap64 (x.2.2 * wt))
set_option maxHeartbeats 400000 in
theorem lag_all (p : Nat) (tot wt a b c : Int) (w : World) (c2 : w.cell? ⟨p, 2, none⟩ = some (.int .i64 tot)) (c3 : w.cell? ⟨p, 3, none⟩ = some (.int .i64 wt)) :
    Calls Try.prog 28 #[.pointer (some ⟨p, 0, none⟩), .agg #[.int .i64 a, .int .i64 b, .int .i64 c]] w fun e w' => e = .returned (.int .i64 (lagW tot wt (a, b, c))) ∧ Grows w w' := by
  have c2_1 := fun o1 => cell_al o1 c2
  have c3_1 := fun o1 => cell_al o1 c3
  have d0 := cell_nw w #[.int .i64 a, .int .i64 b, .int .i64 c] 64 0 _ rfl
  have d1 := cell_nw w #[.int .i64 a, .int .i64 b, .int .i64 c] 64 1 _ rfl
  have d2 := cell_nw w #[.int .i64 a, .int .i64 b, .int .i64 c] 64 2 _ rfl
  go_enter Try.func28, Try.ntmps28
  go_wp2
  go_quiet (fail)
  go_wp2
  go_ret
  exact ⟨rfl, ((Grows.refl _).alloc _).drewN _⟩
/-- what Next compares -/
def leastV' (x y : Int × Int × Int) : Int := orV (Lib.compareInt (IntKind.i64.wrap (x.2.2 * y.2.1)) (IntKind.i64.wrap (y.2.2 * x.2.1))) (Lib.compareInt x.1 y.1)
set_option maxRecDepth 100000 in
set_option maxHeartbeats 1000000 in
theorem least_any (x1 x2 x3 y1 y2 y3 : Int) (w : World) :
    Calls Try.prog 35 #[.agg #[.int .i64 x1, .int .i64 x2, .int .i64 x3], .agg #[.int .i64 y1, .int .i64 y2, .int .i64 y3]] w fun e w' => e = .returned (.int .i64 (leastV' (x1, x2, x3) (y1, y2, y3))) ∧ Grows w w' := by
  have A1 := Lib.hid fun x y W => Compare_any x y W
  have A2 := Lib.hid fun B x y W => Or_any B x y W
  have HG : Grows w ((w.alloc (.cells #[.int .i64 x1, .int .i64 x2, .int .i64 x3] 64)).alloc (.cells #[.int .i64 y1, .int .i64 y2, .int .i64 y3] 64)) := ((Grows.refl _).alloc _).alloc _
  have a0 := cell_al (.cells #[.int .i64 y1, .int .i64 y2, .int .i64 y3] 64) (cell_nw w #[.int .i64 x1, .int .i64 x2, .int .i64 x3] 64 0 _ rfl)
  have a1 := cell_al (.cells #[.int .i64 y1, .int .i64 y2, .int .i64 y3] 64) (cell_nw w #[.int .i64 x1, .int .i64 x2, .int .i64 x3] 64 1 _ rfl)
  have a2 := cell_al (.cells #[.int .i64 y1, .int .i64 y2, .int .i64 y3] 64) (cell_nw w #[.int .i64 x1, .int .i64 x2, .int .i64 x3] 64 2 _ rfl)
  have b0 := cell_nw (w.alloc (.cells #[.int .i64 x1, .int .i64 x2, .int .i64 x3] 64)) #[.int .i64 y1, .int .i64 y2, .int .i64 y3] 64 0 _ rfl
  have b1 := cell_nw (w.alloc (.cells #[.int .i64 x1, .int .i64 x2, .int .i64 x3] 64)) #[.int .i64 y1, .int .i64 y2, .int .i64 y3] 64 1 _ rfl
  have b2 := cell_nw (w.alloc (.cells #[.int .i64 x1, .int .i64 x2, .int .i64 x3] 64)) #[.int .i64 y1, .int .i64 y2, .int .i64 y3] 64 2 _ rfl
  simp only [World.size_alloc] at b0 b1 b2
  go_enter Try.func35, Try.ntmps35
  go_wp2_with fail
  generalize (w.alloc (.cells #[.int .i64 x1, .int .i64 x2, .int .i64 x3] 64)).alloc (.cells #[.int .i64 y1, .int .i64 y2, .int .i64 y3] 64) = wo at *
  have a0_1 := fun o1 => cell_al o1 (a0)
  have a0_2 := fun o1 o2 => cell_al o2 (cell_al o1 (a0))
  have a1_1 := fun o1 => cell_al o1 (a1)
  have a1_2 := fun o1 o2 => cell_al o2 (cell_al o1 (a1))
  have a2_1 := fun o1 => cell_al o1 (a2)
  have a2_2 := fun o1 o2 => cell_al o2 (cell_al o1 (a2))
  have b0_1 := fun o1 => cell_al o1 (b0)
  have b0_2 := fun o1 o2 => cell_al o2 (cell_al o1 (b0))
  have b1_1 := fun o1 => cell_al o1 (b1)
  have b1_2 := fun o1 o2 => cell_al o2 (cell_al o1 (b1))
  have b2_1 := fun o1 => cell_al o1 (b2)
  have b2_2 := fun o1 o2 => cell_al o2 (cell_al o1 (b2))
  clear a0_1 a0_2 a1_1 a1_2 a2_1 a2_2 b0_1 b0_2 b1_1 b1_2 b2_1 b2_2
  have hS0 : Grows wo wo.drew ∧ wo.drew.cell? ⟨w.heap.size, 0, none⟩ = some (.int .i64 x1) ∧ wo.drew.cell? ⟨w.heap.size, 1, none⟩ = some (.int .i64 x2) ∧ wo.drew.cell? ⟨w.heap.size, 2, none⟩ = some (.int .i64 x3) ∧ wo.drew.cell? ⟨w.heap.size + 1, 0, none⟩ = some (.int .i64 y1) ∧ wo.drew.cell? ⟨w.heap.size + 1, 1, none⟩ = some (.int .i64 y2) ∧ wo.drew.cell? ⟨w.heap.size + 1, 2, none⟩ = some (.int .i64 y3) := ⟨(Grows.drew (Grows.refl _)), cell_dr a0, cell_dr a1, cell_dr a2, cell_dr b0, cell_dr b1, cell_dr b2⟩
  go_region_held3 (fun w' => Grows wo w' ∧ w'.cell? ⟨w.heap.size, 0, none⟩ = some (.int .i64 x1) ∧ w'.cell? ⟨w.heap.size, 1, none⟩ = some (.int .i64 x2) ∧ w'.cell? ⟨w.heap.size, 2, none⟩ = some (.int .i64 x3) ∧ w'.cell? ⟨w.heap.size + 1, 0, none⟩ = some (.int .i64 y1) ∧ w'.cell? ⟨w.heap.size + 1, 1, none⟩ = some (.int .i64 y2) ∧ w'.cell? ⟨w.heap.size + 1, 2, none⟩ = some (.int .i64 y3)) (first | assumption | (refine heldG_6 (by assumption) ?_; assumption) | (refine heldG_6 (grows_ad _ _) ?_; assumption) | (refine heldG_6 (grows_a _ _) ?_; assumption)) (first | (go_at_call 33; refine (A1.out _ _ _).mono ?_; rintro e w5 ⟨rfl, rfl⟩) | (go_at_call 32; refine (A2.out _ _ _ _ (by exact cell_nw _ _ _ 0 _ rfl) (by exact cell_nw _ _ _ 1 _ rfl)).mono ?_; rintro e w5 ⟨rfl, rfl⟩))
  clear hS0
  rename_i hH
  have HG2 := HG.trans hH.1
  go_wp2_with fail
  go_ret
  exact ⟨rfl, HG2⟩
/-- what Order compares: the closure has captured the meter's variable, a cell that holds the pointer -/
def orderC (tot wt : Int) (x y : Int × Int × Int) : Int := orV (Lib.compareInt (lagW tot wt y) (lagW tot wt x)) (Lib.compareInt x.1 y.1)
set_option maxRecDepth 100000 in
set_option maxHeartbeats 1000000 in
theorem OrderF_any (p Bm : Nat) (tot wt : Int) (x1 x2 x3 y1 y2 y3 : Int) (w : World) (cm : w.cell? ⟨Bm, 0, none⟩ = some (.pointer (some ⟨p, 0, none⟩))) (c2 : w.cell? ⟨p, 2, none⟩ = some (.int .i64 tot)) (c3 : w.cell? ⟨p, 3, none⟩ = some (.int .i64 wt)) :
    Calls Try.prog 31 #[.agg #[.int .i64 x1, .int .i64 x2, .int .i64 x3], .agg #[.int .i64 y1, .int .i64 y2, .int .i64 y3], .pointer (some ⟨Bm, 0, none⟩)] w fun e w' => e = .returned (.int .i64 (orderC tot wt (x1, x2, x3) (y1, y2, y3))) ∧ Grows w w' := by
  have A1 := Lib.hid fun x y W => Compare_any x y W
  have A2 := Lib.hid fun B x y W => Or_any B x y W
  have A3 := Lib.hid fun a b c W => lag_all p tot wt a b c W
  have HG : Grows w ((w.alloc (.cells #[.int .i64 x1, .int .i64 x2, .int .i64 x3] 64)).alloc (.cells #[.int .i64 y1, .int .i64 y2, .int .i64 y3] 64)) := ((Grows.refl _).alloc _).alloc _
  have cm := grows_cell HG cm
  have c2 := grows_cell HG c2
  have c3 := grows_cell HG c3
  have a0 := cell_al (.cells #[.int .i64 y1, .int .i64 y2, .int .i64 y3] 64) (cell_nw w #[.int .i64 x1, .int .i64 x2, .int .i64 x3] 64 0 _ rfl)
  have a1 := cell_al (.cells #[.int .i64 y1, .int .i64 y2, .int .i64 y3] 64) (cell_nw w #[.int .i64 x1, .int .i64 x2, .int .i64 x3] 64 1 _ rfl)
  have a2 := cell_al (.cells #[.int .i64 y1, .int .i64 y2, .int .i64 y3] 64) (cell_nw w #[.int .i64 x1, .int .i64 x2, .int .i64 x3] 64 2 _ rfl)
  have b0 := cell_nw (w.alloc (.cells #[.int .i64 x1, .int .i64 x2, .int .i64 x3] 64)) #[.int .i64 y1, .int .i64 y2, .int .i64 y3] 64 0 _ rfl
  have b1 := cell_nw (w.alloc (.cells #[.int .i64 x1, .int .i64 x2, .int .i64 x3] 64)) #[.int .i64 y1, .int .i64 y2, .int .i64 y3] 64 1 _ rfl
  have b2 := cell_nw (w.alloc (.cells #[.int .i64 x1, .int .i64 x2, .int .i64 x3] 64)) #[.int .i64 y1, .int .i64 y2, .int .i64 y3] 64 2 _ rfl
  simp only [World.size_alloc] at b0 b1 b2
  go_enter Try.func31, Try.ntmps31
  go_wp2_with fail
  generalize (w.alloc (.cells #[.int .i64 x1, .int .i64 x2, .int .i64 x3] 64)).alloc (.cells #[.int .i64 y1, .int .i64 y2, .int .i64 y3] 64) = wo at *
  have cm_1 := fun o1 => cell_al o1 (cm)
  have cm_2 := fun o1 o2 => cell_al o2 (cell_al o1 (cm))
  have c2_1 := fun o1 => cell_al o1 (c2)
  have c2_2 := fun o1 o2 => cell_al o2 (cell_al o1 (c2))
  have c3_1 := fun o1 => cell_al o1 (c3)
  have c3_2 := fun o1 o2 => cell_al o2 (cell_al o1 (c3))
  have a0_1 := fun o1 => cell_al o1 (a0)
  have a0_2 := fun o1 o2 => cell_al o2 (cell_al o1 (a0))
  have a1_1 := fun o1 => cell_al o1 (a1)
  have a1_2 := fun o1 o2 => cell_al o2 (cell_al o1 (a1))
  have a2_1 := fun o1 => cell_al o1 (a2)
  have a2_2 := fun o1 o2 => cell_al o2 (cell_al o1 (a2))
  have b0_1 := fun o1 => cell_al o1 (b0)
  have b0_2 := fun o1 o2 => cell_al o2 (cell_al o1 (b0))
  have b1_1 := fun o1 => cell_al o1 (b1)
  have b1_2 := fun o1 o2 => cell_al o2 (cell_al o1 (b1))
  have b2_1 := fun o1 => cell_al o1 (b2)
  have b2_2 := fun o1 o2 => cell_al o2 (cell_al o1 (b2))
  clear cm_1 cm_2 c2_1 c2_2 c3_1 c3_2 a0_1 a0_2 a1_1 a1_2 a2_1 a2_2 b0_1 b0_2 b1_1 b1_2 b2_1 b2_2
  have hS0 : Grows wo wo.drew ∧ wo.drew.cell? ⟨Bm, 0, none⟩ = some (.pointer (some ⟨p, 0, none⟩)) ∧ wo.drew.cell? ⟨p, 2, none⟩ = some (.int .i64 tot) ∧ wo.drew.cell? ⟨p, 3, none⟩ = some (.int .i64 wt) ∧ wo.drew.cell? ⟨w.heap.size, 0, none⟩ = some (.int .i64 x1) ∧ wo.drew.cell? ⟨w.heap.size, 1, none⟩ = some (.int .i64 x2) ∧ wo.drew.cell? ⟨w.heap.size, 2, none⟩ = some (.int .i64 x3) ∧ wo.drew.cell? ⟨w.heap.size + 1, 0, none⟩ = some (.int .i64 y1) ∧ wo.drew.cell? ⟨w.heap.size + 1, 1, none⟩ = some (.int .i64 y2) ∧ wo.drew.cell? ⟨w.heap.size + 1, 2, none⟩ = some (.int .i64 y3) := ⟨(Grows.drew (Grows.refl _)), cell_dr cm, cell_dr c2, cell_dr c3, cell_dr a0, cell_dr a1, cell_dr a2, cell_dr b0, cell_dr b1, cell_dr b2⟩
  go_region_held3 (fun w' => Grows wo w' ∧ w'.cell? ⟨Bm, 0, none⟩ = some (.pointer (some ⟨p, 0, none⟩)) ∧ w'.cell? ⟨p, 2, none⟩ = some (.int .i64 tot) ∧ w'.cell? ⟨p, 3, none⟩ = some (.int .i64 wt) ∧ w'.cell? ⟨w.heap.size, 0, none⟩ = some (.int .i64 x1) ∧ w'.cell? ⟨w.heap.size, 1, none⟩ = some (.int .i64 x2) ∧ w'.cell? ⟨w.heap.size, 2, none⟩ = some (.int .i64 x3) ∧ w'.cell? ⟨w.heap.size + 1, 0, none⟩ = some (.int .i64 y1) ∧ w'.cell? ⟨w.heap.size + 1, 1, none⟩ = some (.int .i64 y2) ∧ w'.cell? ⟨w.heap.size + 1, 2, none⟩ = some (.int .i64 y3)) (first | assumption | (refine heldG_9 (by assumption) ?_; assumption) | (refine heldG_9 (grows_ad _ _) ?_; assumption) | (refine heldG_9 (grows_a _ _) ?_; assumption)) (first | (go_at_call 28; refine (A3.out _ _ _ _ (by first | assumption | (go_split_ands; assumption)) (by first | assumption | (go_split_ands; assumption))).mono ?_; rintro e w5 ⟨rfl, hb5⟩) | (go_at_call 33; refine (A1.out _ _ _).mono ?_; rintro e w5 ⟨rfl, rfl⟩) | (go_at_call 32; refine (A2.out _ _ _ _ (by exact cell_nw _ _ _ 0 _ rfl) (by exact cell_nw _ _ _ 1 _ rfl)).mono ?_; rintro e w5 ⟨rfl, rfl⟩))
  clear hS0
  all_goals
    rename_i hH
    have HG2 := HG.trans hH.1
    go_wp2_with fail
    go_ret
    exact ⟨rfl, HG2⟩
end Go.Proofs.Ytgieaojkbfjoiaa
