/-
  Layer 18 (heap): before; those that are before an item are the beginning of all.
-/
import Derived.Test.YtpbaegdmjmickaaHeapK
namespace Go.Proofs.Ytpbaegdmjmickaa
open Go.RowKit Go.Maps Go.IntWalk Go.Lib
set_option linter.unusedVariables false
def befB (x y : Int × Int) : Bool := decide (ltI x y)
theorem bef_key {x y : Int × Int} (h : x.2 < y.2) : befB x y = true := decide_eq_true (Or.inl h)
theorem bef_id {x y : Int × Int} (h : x.2 = y.2) (k : x.1 < y.1) : befB x y = true := decide_eq_true (Or.inr ⟨h, k⟩)
theorem bef_no {x y : Int × Int} (h : ¬ ltI x y) : befB x y = false := decide_eq_false h
set_option maxRecDepth 100000 in
set_option maxHeartbeats 1000000 in
theorem before_any (x y : Int × Int) (w : World) : Calls Try.prog 13 #[.agg #[.int .i64 x.1, .int .u64 x.2], .agg #[.int .i64 y.1, .int .u64 y.2]] w fun e w' => e = .returned (.bool (befB x y)) ∧ Grows w w' := by
  by_cases h1 : x.2 < y.2
  · rw [bef_key h1]
    have z : decide (x.2 < y.2) = true := decide_eq_true h1
    go_enter Try.func13, Try.ntmps13
    go_wp2_with fail
    go_ret
    exact ⟨rfl, ((Grows.refl w).alloc _).alloc _⟩
  · have z : decide (x.2 < y.2) = false := decide_eq_false h1
    by_cases h2 : x.2 = y.2
    · have z2 : (x.2 == y.2) = true := by simpa using h2
      by_cases h3 : x.1 < y.1
      · rw [bef_id h2 h3]
        have z3 : decide (x.1 < y.1) = true := decide_eq_true h3
        clear h1 h2 h3
        go_enter Try.func13, Try.ntmps13
        go_wp2_with fail
        go_ret
        exact ⟨rfl, ((Grows.refl w).alloc _).alloc _⟩
      · rw [bef_no (by unfold ltI; omega)]
        have z3 : decide (x.1 < y.1) = false := decide_eq_false h3
        clear h1 h2 h3
        go_enter Try.func13, Try.ntmps13
        go_wp2_with fail
        go_ret
        exact ⟨rfl, ((Grows.refl w).alloc _).alloc _⟩
    · rw [bef_no (by unfold ltI; omega)]
      have z2 : (x.2 == y.2) = false := by simpa using h2
      clear h1 h2
      go_enter Try.func13, Try.ntmps13
      go_wp2_with fail
      go_ret
      exact ⟨rfl, ((Grows.refl w).alloc _).alloc _⟩
/-- what is before an item is a beginning -/
theorem below_take {S : Items} (h : InOrder S) (x : Int × Int) : belowL S x = S.take (belowL S x).length ∧ ∀ i, i < S.length → (befB S[i]! x = decide (i < (belowL S x).length)) := by
  induction S with
  | nil => exact ⟨rfl, fun i hi => by simp at hi⟩
  | cons y r ih =>
    obtain ⟨h1, h2⟩ := List.pairwise_cons.1 h
    obtain ⟨q1, q2⟩ := ih h2
    by_cases hy : ltI y x
    · have e : belowL (y :: r) x = y :: belowL r x := by unfold belowL; simp [hy]
      rw [e]
      refine ⟨by rw [List.length_cons, List.take_succ_cons, ← q1], fun i hi => ?_⟩
      cases i with
      | zero =>
        have : befB y x = true := decide_eq_true hy
        simpa using this
      | succ i =>
        have := q2 i (by simpa using hi)
        have e2 : (y :: r)[i + 1]! = r[i]! := by simp
        rw [e2, this]
        simp
    · have hall : ∀ z ∈ r, ¬ ltI z x := fun z hz q => hy (ltI_trans (h1 z hz) q)
      have e : belowL (y :: r) x = [] := by
        unfold belowL
        rw [List.filter_eq_nil_iff]
        intro z hz
        rcases List.mem_cons.1 hz with rfl | hz
        · simpa using hy
        · simpa using hall z hz
      rw [e]
      refine ⟨rfl, fun i hi => ?_⟩
      cases i with
      | zero =>
        have : befB y x = false := bef_no hy
        simpa using this
      | succ i =>
        have hz : r[i]! ∈ r := at_mem (by simpa using hi)
        have e2 : (y :: r)[i + 1]! = r[i]! := by simp
        rw [e2, bef_no (hall _ hz)]
        simp
theorem below_at {S : Items} (h : InOrder S) (x : Int × Int) {i : Nat} (hi : i < (belowL S x).length) : (belowL S x)[i]! = S[i]! := by
  obtain ⟨q1, _⟩ := below_take h x
  have hS : i < S.length := Nat.lt_of_lt_of_le hi (List.length_filter_le _ _)
  rw [List.getElem!_eq_getElem?_getD, List.getElem!_eq_getElem?_getD]
  conv => lhs; rw [q1]
  rw [List.getElem?_take_of_lt hi]
theorem fill_order (xs : List Int) (k : Nat) : InOrder (fillK xs k) := by
  induction k with
  | zero => exact List.Pairwise.nil
  | succ k ih =>
    refine putL_order ih fun q => ?_
    have := keyL_none.1 (fillK_new xs k) _ q
    exact this rfl
end Go.Proofs.Ytpbaegdmjmickaa
