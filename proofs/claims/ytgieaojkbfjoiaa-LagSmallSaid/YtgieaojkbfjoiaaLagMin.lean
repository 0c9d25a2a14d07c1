/-
  Layer 39 (lag): the task that has run least for its weight; running it keeps all lags near.
-/
import Derived.Test.YtgieaojkbfjoiaaLagNear
namespace Go.Proofs.Ytgieaojkbfjoiaa
open Go.RowKit Go.IntWalk
set_option linter.unusedVariables false
/-- x has run less for its weight than m -/
def less (x m : Int × Int × Int) : Prop := x.2.2 * m.2.1 < m.2.2 * x.2.1 ∨ x.2.2 * m.2.1 = m.2.2 * x.2.1 ∧ x.1 < m.1
structure Fine (x : Int × Int × Int) : Prop where
  w0 : 1 ≤ x.2.1
  w1 : x.2.1 ≤ 65536
  r0 : 0 ≤ x.2.2
  r1 : x.2.2 ≤ 68719476736
theorem Good.fine {l : List (Int × Int × Int)} (h : Good l) : ∀ x ∈ l, Fine x := fun x hx => by
  obtain ⟨k, hk⟩ := List.getElem?_of_mem hx
  have b := h.bounds hk
  exact ⟨b.w1, b.w2, b.r1, Int.le_trans b.r2 b.r3⟩
theorem least_lt {x m : Int × Int × Int} (hx : Fine x) (hm : Fine m) : leastV' x m < 0 ↔ less x m := by
  have a := mul_bounds hx.r0 hx.r1 (by have := hm.w0; omega) hm.w1
  have b := mul_bounds hm.r0 hm.r1 (by have := hx.w0; omega) hx.w1
  unfold leastV' less
  rw [orV_lt, (cmpI_lt _ _).1, (cmpI_lt _ _).2, (cmpI_lt _ _).1, i64_in _ (by omega), i64_in _ (by omega)]
theorem ratio_trans {x m y : Int × Int × Int} (hx : Fine x) (hm : Fine m) (hy : Fine y) (h1 : x.2.2 * m.2.1 ≤ m.2.2 * x.2.1) (h2 : m.2.2 * y.2.1 ≤ y.2.2 * m.2.1) : x.2.2 * y.2.1 ≤ y.2.2 * x.2.1 := by
  have a := Int.mul_le_mul_of_nonneg_right h1 (by have := hy.w0; omega : 0 ≤ y.2.1)
  have b := Int.mul_le_mul_of_nonneg_right h2 (by have := hx.w0; omega : 0 ≤ x.2.1)
  have e1 : m.2.2 * x.2.1 * y.2.1 = m.2.2 * y.2.1 * x.2.1 := Int.mul_right_comm _ _ _
  have e2 : x.2.2 * m.2.1 * y.2.1 = x.2.2 * y.2.1 * m.2.1 := Int.mul_right_comm _ _ _
  have e3 : y.2.2 * m.2.1 * x.2.1 = y.2.2 * x.2.1 * m.2.1 := Int.mul_right_comm _ _ _
  exact Int.le_of_mul_le_mul_right (by omega : x.2.2 * y.2.1 * m.2.1 ≤ y.2.2 * x.2.1 * m.2.1) (by have := hm.w0; omega)
theorem minV_spec {l : List (Int × Int × Int)} (hf : ∀ x ∈ l, Fine x) {x0 : Int × Int × Int} (h0 : l[0]? = some x0) : ∀ k, 0 < k → k ≤ l.length → minV l x0 k ∈ l ∧ ∀ y ∈ l.take k, (minV l x0 k).2.2 * y.2.1 ≤ y.2.2 * (minV l x0 k).2.1 := by
  intro k
  induction k with
  | zero => intro h; omega
  | succ k ih =>
    intro _ hk
    by_cases hz : k = 0
    · subst hz
      rw [minV_one h0, List.take_add_one, h0]
      refine ⟨List.mem_of_getElem? h0, fun y hy => ?_⟩
      simp at hy
      subst hy
      exact Int.le_refl _
    · obtain ⟨i1, i2⟩ := ih (by omega) (by omega)
      have hx : l[k]? = some l[k] := List.getElem?_eq_getElem (by omega)
      have hxm : l[k] ∈ l := List.getElem_mem _
      rw [minV_succ hx, List.take_add_one, hx]
      generalize minV l x0 k = m at *
      generalize l[k] = x at *
      have hl := least_lt (hf x hxm) (hf m i1)
      unfold minStep
      by_cases hc : leastV' x m < 0
      · rw [if_pos hc]
        refine ⟨hxm, fun y hy => ?_⟩
        rcases List.mem_append.1 hy with hy | hy
        · have hle : x.2.2 * m.2.1 ≤ m.2.2 * x.2.1 := by rcases hl.1 hc with h | h <;> omega
          exact ratio_trans (hf x hxm) (hf m i1) (hf y (List.mem_of_mem_take hy)) hle (i2 y hy)
        · simp at hy; subst hy; exact Int.le_refl _
      · rw [if_neg hc]
        refine ⟨i1, fun y hy => ?_⟩
        rcases List.mem_append.1 hy with hy | hy
        · exact i2 y hy
        · have hy : y = x := by simpa using hy
          rw [hy]
          have : ¬ less x m := fun h => hc (hl.2 h)
          unfold less at this
          omega
/-- no two tasks are farther apart than q ticks of the least weight -/
def Close (L : List (Int × Int × Int)) (least q : Int) : Prop := ∀ x ∈ L, ∀ y ∈ L, (x.2.2 * y.2.1 - y.2.2 * x.2.1) * least ≤ q * x.2.1 * y.2.1
theorem close_sum {least q : Int} (x : Int × Int × Int) : ∀ (L : List (Int × Int × Int)), (∀ y ∈ L, (x.2.2 * y.2.1 - y.2.2 * x.2.1) * least ≤ q * x.2.1 * y.2.1 ∧ (y.2.2 * x.2.1 - x.2.2 * y.2.1) * least ≤ q * y.2.1 * x.2.1) →
    (x.2.2 * sumW L - sumR L * x.2.1) * least ≤ q * x.2.1 * sumW L ∧ (sumR L * x.2.1 - x.2.2 * sumW L) * least ≤ q * x.2.1 * sumW L
  | [], _ => by simp [sumW, sumR]
  | y :: r, h => by
    obtain ⟨a, b⟩ := close_sum x r fun z hz => h z (List.mem_cons_of_mem _ hz)
    obtain ⟨c, d⟩ := h y List.mem_cons_self
    simp only [sumW, sumR]
    have e1 : (x.2.2 * (y.2.1 + sumW r) - (y.2.2 + sumR r) * x.2.1) * least = (x.2.2 * y.2.1 - y.2.2 * x.2.1) * least + (x.2.2 * sumW r - sumR r * x.2.1) * least := by
      simp only [Int.mul_add, Int.add_mul, Int.sub_mul]; omega
    have e2 : ((y.2.2 + sumR r) * x.2.1 - x.2.2 * (y.2.1 + sumW r)) * least = (y.2.2 * x.2.1 - x.2.2 * y.2.1) * least + (sumR r * x.2.1 - x.2.2 * sumW r) * least := by
      simp only [Int.mul_add, Int.add_mul, Int.sub_mul]; omega
    have e3 : q * x.2.1 * (y.2.1 + sumW r) = q * x.2.1 * y.2.1 + q * x.2.1 * sumW r := Int.mul_add _ _ _
    have e4 : q * y.2.1 * x.2.1 = q * x.2.1 * y.2.1 := Int.mul_right_comm _ _ _
    omega
theorem close_near {L : List (Int × Int × Int)} {least q : Int} (hg : Good L) (h : Close L least q) (hl : 1 ≤ least ∧ least ≤ 65536) (hq : 0 ≤ q ∧ q ≤ 4096) (hs : sumR L ≤ 1048576) (hw : sumW L ≤ 1048576) : Near L least q := by
  refine ⟨hl.1, hl.2, hq.1, hq.2, fun x hx => ?_⟩
  obtain ⟨a, b⟩ := close_sum (least := least) (q := q) x L fun y hy => ⟨h x hx y hy, h y hy x hx⟩
  obtain ⟨k, hk⟩ := List.getElem?_of_mem hx
  have hb := hg.bounds hk
  have c1 := mul_bounds (a := sumR L) (b := x.2.1) (A := 1048576) (B := 65536) (by have := hb.r1; have := hb.r2; omega) hs (by have := hb.w1; omega) hb.w2
  have c2 := mul_bounds (a := x.2.2) (b := sumW L) (A := 1048576) (B := 1048576) hb.r1 (by have := hb.r2; omega) (by have := hb.w1; have := hb.w3; omega) hw
  have e : -lagV L x * least = (x.2.2 * sumW L - sumR L * x.2.1) * least := by unfold lagV; congr 1; omega
  refine ⟨by unfold lagV; omega, by unfold lagV; omega, b, by rw [e]; exact a⟩
theorem close_mono {L : List (Int × Int × Int)} {least q q' : Int} (hg : ∀ x ∈ L, Fine x) (h : Close L least q) (hq : q ≤ q') : Close L least q' := fun x hx y hy => by
  refine Int.le_trans (h x hx y hy) ?_
  exact Int.mul_le_mul_of_nonneg_right (Int.mul_le_mul_of_nonneg_right hq (by have := (hg x hx).w0; omega)) (by have := (hg y hy).w0; omega)
/-- the least one runs -/
theorem close_run {L : List (Int × Int × Int)} {least q d : Int} (hf : ∀ x ∈ L, Fine x) (hids : L.Pairwise fun x y => x.1 < y.1) (h : Close L least q) (hd : 0 ≤ d) (hdq : d ≤ q) (hl0 : 0 ≤ least) (hl : ∀ x ∈ L, least ≤ x.2.1) {m : Int × Int × Int} (hm : m ∈ L)
    (hmin : ∀ y ∈ L, m.2.2 * y.2.1 ≤ y.2.2 * m.2.1) : Close (bump L m.1 d) least q := by
  have huniq : ∀ y ∈ L, y.1 = m.1 → y = m := fun y hy e => by
    obtain ⟨i, hi⟩ := List.getElem?_of_mem hy
    obtain ⟨j, hj⟩ := List.getElem?_of_mem hm
    obtain ⟨li, ei⟩ := List.getElem?_eq_some_iff.1 hi
    obtain ⟨lj, ej⟩ := List.getElem?_eq_some_iff.1 hj
    have hp := List.pairwise_iff_getElem.1 hids
    rcases Nat.lt_trichotomy i j with q | q | q
    · have := hp i j li lj q; rw [ei, ej] at this; omega
    · subst q; rw [ei] at ej; exact ej
    · have := hp j i lj li q; rw [ei, ej] at this; omega
  have key : ∀ x' ∈ bump L m.1 d, (∃ x ∈ L, x.1 ≠ m.1 ∧ x' = x) ∨ x' = (m.1, m.2.1, m.2.2 + d) := fun x' hx' => by
    simp only [bump, List.mem_map] at hx'
    obtain ⟨x, hx, rfl⟩ := hx'
    by_cases e : x.1 = m.1
    · rw [if_pos e, huniq x hx e]; exact Or.inr rfl
    · rw [if_neg e]; exact Or.inl ⟨x, hx, e, rfl⟩
  intro x' hx' y' hy'
  have fm := hf m hm
  rcases key x' hx' with ⟨x, hx, ex, rfl⟩ | rfl
  · rcases key y' hy' with ⟨y, hy, ey, rfl⟩ | rfl
    · exact h x' hx y' hy
    · refine Int.le_trans (Int.mul_le_mul_of_nonneg_right ?_ hl0) (h x' hx m hm)
      simp only
      rw [Int.add_mul]
      have := Int.mul_nonneg hd (by have := (hf x' hx).w0; omega : 0 ≤ x'.2.1)
      omega
  · rcases key y' hy' with ⟨y, hy, ey, rfl⟩ | rfl
    · simp only
      have fy := hf y' hy
      have h1 := hmin y' hy
      have e1 : ((m.2.2 + d) * y'.2.1 - y'.2.2 * m.2.1) * least = (m.2.2 * y'.2.1 - y'.2.2 * m.2.1) * least + d * y'.2.1 * least := by
        simp only [Int.add_mul, Int.sub_mul]; omega
      have h2 : (m.2.2 * y'.2.1 - y'.2.2 * m.2.1) * least ≤ 0 := Int.mul_nonpos_of_nonpos_of_nonneg (by omega) hl0
      have h3 : d * y'.2.1 * least ≤ q * m.2.1 * y'.2.1 := by
        have a1 := Int.mul_le_mul hdq (hl m hm) hl0 (by omega : 0 ≤ q)
        have a2 := Int.mul_le_mul_of_nonneg_right a1 (by have := fy.w0; omega : 0 ≤ y'.2.1)
        rw [Int.mul_right_comm d]
        exact a2
      omega
    · simp only
      have e0 : (m.2.2 + d) * m.2.1 - (m.2.2 + d) * m.2.1 = 0 := by omega
      rw [e0, Int.zero_mul]
      exact Int.mul_nonneg (Int.mul_nonneg (by omega) (by have := fm.w0; omega)) (by have := fm.w0; omega)
theorem leastK_le {l : List (Int × Int)} (m : Int) : ∀ k, (∀ x ∈ l.take k, leastK l m k ≤ x.2) ∧ leastK l m k ≤ m ∧ (leastK l m k = m ∨ ∃ x ∈ l, leastK l m k = x.2) := by
  intro k
  induction k with
  | zero => exact ⟨fun x hx => by simp at hx, Int.le_refl _, Or.inl rfl⟩
  | succ k ih =>
    obtain ⟨a, b, c⟩ := ih
    cases hx : l[k]? with
    | none =>
      have : l.length ≤ k := List.getElem?_eq_none_iff.1 hx
      have e1 : l.take (k + 1) = l.take k := by rw [List.take_of_length_le (by omega), List.take_of_length_le this]
      have e2 : leastK l m (k + 1) = leastK l m k := by unfold leastK; rw [e1]
      rw [e1, e2]; exact ⟨a, b, c⟩
    | some x =>
      rw [leastK_succ hx, List.take_add_one, hx]
      refine ⟨fun y hy => ?_, by omega, ?_⟩
      · rcases List.mem_append.1 hy with hy | hy
        · have := a y hy; omega
        · simp at hy; subst hy; omega
      · rcases Int.le_total (leastK l m k) x.2 with h | h
        · rw [Int.min_eq_left h]; exact c
        · rw [Int.min_eq_right h]; exact Or.inr ⟨x, List.mem_of_getElem? hx, rfl⟩
theorem leastW_spec {l : List (Int × Int)} (h0 : l ≠ []) : (∀ x ∈ l, leastW l ≤ x.2) ∧ ∃ x ∈ l, leastW l = x.2 := by
  obtain ⟨y, hy⟩ : ∃ y, l[0]? = some y := ⟨_, List.getElem?_eq_getElem (List.length_pos_iff.2 h0)⟩
  unfold leastW
  rw [hy]
  obtain ⟨a, b, c⟩ := leastK_le (l := l) y.2 l.length
  rw [List.take_length] at a
  refine ⟨a, ?_⟩
  rcases c with c | c
  · exact ⟨y, List.mem_of_getElem? hy, c⟩
  · exact c
end Go.Proofs.Ytgieaojkbfjoiaa
