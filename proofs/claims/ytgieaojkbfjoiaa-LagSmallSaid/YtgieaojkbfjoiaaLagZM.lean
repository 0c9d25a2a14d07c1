/-
  Layer 39 (lag): all lags together are 0; the spread.
-/
import Derived.Test.YtgieaojkbfjoiaaLagOrdM
namespace Go.Proofs.Ytgieaojkbfjoiaa
open Go.RowKit Go.IntWalk
set_option linter.unusedVariables false
/-- the sum of the lags of the first k tasks -/
def lagSum (L : List (Int × Int × Int)) (k : Nat) : Int := sumR L * sumW (L.take k) - sumR (L.take k) * sumW L
theorem sumW_take {L : List (Int × Int × Int)} {k : Nat} {x : Int × Int × Int} (h : L[k]? = some x) : sumW (L.take (k + 1)) = sumW (L.take k) + x.2.1 ∧ sumR (L.take (k + 1)) = sumR (L.take k) + x.2.2 := by
  rw [List.take_add_one, h, Option.toList_some, sumW_append, sumR_append]
  simp [sumW, sumR]
theorem lagSum_succ {L : List (Int × Int × Int)} {k : Nat} {x : Int × Int × Int} (h : L[k]? = some x) : lagSum L (k + 1) = lagSum L k + lagV L x := by
  unfold lagSum lagV
  rw [(sumW_take h).1, (sumW_take h).2, Int.mul_add, Int.add_mul]; omega
theorem lagSum_end (L : List (Int × Int × Int)) : lagSum L L.length = 0 := by unfold lagSum; rw [List.take_length]; omega
theorem take_bounds {L : List (Int × Int × Int)} (he : Each L) (k : Nat) : 0 ≤ sumW (L.take k) ∧ sumW (L.take k) ≤ sumW L ∧ 0 ≤ sumR (L.take k) ∧ sumR (L.take k) ≤ sumR L := by
  have e := sumR_append (L.take k) (L.drop k)
  have f := sumW_append (L.take k) (L.drop k)
  rw [List.take_append_drop] at e f
  have hd : Each (L.drop k) := fun x hx => he x (List.mem_of_mem_drop hx)
  have ht : Each (L.take k) := fun x hx => he x (List.mem_of_mem_take hx)
  have h1 := sumR_nn hd
  have h2 := sumR_nn ht
  have h3 := (sumW_nn hd).1
  have h4 := (sumW_nn ht).1
  omega
theorem lagSum_bounds {L : List (Int × Int × Int)} (hg : Good L) (hr : sumR L ≤ 3932100) (k : Nat) : -1125899906842624 ≤ lagSum L k ∧ lagSum L k ≤ 1125899906842624 := by
  have hb := take_bounds hg.ea k
  obtain ⟨x, hx⟩ : ∃ x, L[0]? = some x := ⟨_, List.getElem?_eq_getElem hg.pos⟩
  have hw := (hg.bounds hx).w4
  have a := mul_bounds (a := sumR L) (b := sumW (L.take k)) (A := 3932100) (B := 67108864) (by omega) hr hb.1 (by omega)
  have b := mul_bounds (a := sumR (L.take k)) (b := sumW L) (A := 3932100) (B := 67108864) hb.2.2.1 (by omega) (by omega) hw
  unfold lagSum
  omega
/-- the greatest and the least of the lags -/
theorem mostV_spec (L : List (Int × Int × Int)) (m : Int) : ∀ k, (∀ x ∈ L.take k, lagV L x ≤ mostV L m k) ∧ m ≤ mostV L m k ∧ (mostV L m k = m ∨ ∃ x ∈ L, mostV L m k = lagV L x) := by
  intro k
  induction k with
  | zero => exact ⟨fun x hx => by simp at hx, by simp [mostV], Or.inl (by simp [mostV])⟩
  | succ k ih =>
    obtain ⟨a, b, c⟩ := ih
    cases hx : L[k]? with
    | none =>
      have : L.length ≤ k := List.getElem?_eq_none_iff.1 hx
      have e1 : L.take (k + 1) = L.take k := by rw [List.take_of_length_le (by omega), List.take_of_length_le this]
      have e2 : mostV L m (k + 1) = mostV L m k := by unfold mostV; rw [e1]
      rw [e1, e2]; exact ⟨a, b, c⟩
    | some x =>
      rw [mostV_succ hx, List.take_add_one, hx]
      refine ⟨fun y hy => ?_, by omega, ?_⟩
      · rcases List.mem_append.1 hy with hy | hy
        · have := a y hy; omega
        · have hy : y = x := by simpa using hy
          rw [hy]; omega
      · rcases Int.le_total (lagV L x) (mostV L m k) with h | h
        · rw [Int.max_eq_left h]; exact c
        · rw [Int.max_eq_right h]; exact Or.inr ⟨x, List.mem_of_getElem? hx, rfl⟩
theorem leastV_spec (L : List (Int × Int × Int)) (m : Int) : ∀ k, (∀ x ∈ L.take k, leastV L m k ≤ lagV L x) ∧ leastV L m k ≤ m ∧ (leastV L m k = m ∨ ∃ x ∈ L, leastV L m k = lagV L x) := by
  intro k
  induction k with
  | zero => exact ⟨fun x hx => by simp at hx, by simp [leastV], Or.inl (by simp [leastV])⟩
  | succ k ih =>
    obtain ⟨a, b, c⟩ := ih
    cases hx : L[k]? with
    | none =>
      have : L.length ≤ k := List.getElem?_eq_none_iff.1 hx
      have e1 : L.take (k + 1) = L.take k := by rw [List.take_of_length_le (by omega), List.take_of_length_le this]
      have e2 : leastV L m (k + 1) = leastV L m k := by unfold leastV; rw [e1]
      rw [e1, e2]; exact ⟨a, b, c⟩
    | some x =>
      rw [leastV_succ hx, List.take_add_one, hx]
      refine ⟨fun y hy => ?_, by omega, ?_⟩
      · rcases List.mem_append.1 hy with hy | hy
        · have := a y hy; omega
        · have hy : y = x := by simpa using hy
          rw [hy]; omega
      · rcases Int.le_total (leastV L m k) (lagV L x) with h | h
        · rw [Int.min_eq_left h]; exact c
        · rw [Int.min_eq_right h]; exact Or.inr ⟨x, List.mem_of_getElem? hx, rfl⟩
theorem lagR_mem {L : List (Int × Int × Int)} (hg : Good L) {x : Int × Int × Int} (hx : x ∈ L) : lagR L x.1 = lagV L x := by
  obtain ⟨k, hk⟩ := List.getElem?_of_mem hx
  unfold lagR; rw [tsk_at hg hk]
/-- all lags of one sign: then all are 0 -/
theorem lagSum_pos {L : List (Int × Int × Int)} {c : Int} (h : ∀ x ∈ L, c ≤ lagV L x) (k : Nat) (hk : k ≤ L.length) : c * k ≤ lagSum L k := by
  induction k with
  | zero => simp [lagSum, sumW, sumR]
  | succ k ih =>
    have hx : L[k]? = some L[k] := List.getElem?_eq_getElem (by omega)
    rw [lagSum_succ hx]
    have := h L[k] (List.getElem_mem _)
    have := ih (by omega)
    rw [show ((k + 1 : Nat) : Int) = (k : Int) + 1 from rfl, Int.mul_add]
    omega
theorem lagSum_neg {L : List (Int × Int × Int)} {c : Int} (h : ∀ x ∈ L, lagV L x ≤ c) (k : Nat) (hk : k ≤ L.length) : lagSum L k ≤ c * k := by
  induction k with
  | zero => simp [lagSum, sumW, sumR]
  | succ k ih =>
    have hx : L[k]? = some L[k] := List.getElem?_eq_getElem (by omega)
    rw [lagSum_succ hx]
    have := h L[k] (List.getElem_mem _)
    have := ih (by omega)
    rw [show ((k + 1 : Nat) : Int) = (k : Int) + 1 from rfl, Int.mul_add]
    omega
/-- the first one and the last one of the order have the greatest and the least lag -/
theorem spread_order {L : List (Int × Int × Int)} (hg : Good L) {out : List Int} (ho : IdsOrder (lagR L) (idsL L) out) {x0 : Int × Int × Int} (h0 : L[0]? = some x0) :
    out.length = L.length ∧ (∀ a, out[0]? = some a → mostV L (lagV L x0) L.length = lagR L a) ∧ (∀ b, out[L.length - 1]? = some b → leastV L (lagV L x0) L.length = lagR L b) ∧ 0 ≤ mostV L (lagV L x0) L.length ∧ leastV L (lagV L x0) L.length ≤ 0 := by
  have hlen : out.length = L.length := by rw [ho.1.length_eq]; simp [idsL]
  obtain ⟨a1, a2, a3⟩ := mostV_spec L (lagV L x0) L.length
  obtain ⟨b1, b2, b3⟩ := leastV_spec L (lagV L x0) L.length
  rw [List.take_length] at a1 b1
  have hx0 := List.mem_of_getElem? h0
  have am : ∃ x ∈ L, mostV L (lagV L x0) L.length = lagV L x := a3.elim (fun h => ⟨x0, hx0, h⟩) id
  have bm : ∃ x ∈ L, leastV L (lagV L x0) L.length = lagV L x := b3.elim (fun h => ⟨x0, hx0, h⟩) id
  have hmem : ∀ i, i ∈ out → ∃ x ∈ L, x.1 = i := fun i hi => ids_mem.2 (ho.1.mem_iff.1 hi)
  have hin : ∀ x ∈ L, x.1 ∈ out := fun x hx => ho.1.mem_iff.2 (ids_mem.1 ⟨x, hx, rfl⟩)
  have hp := List.pairwise_iff_getElem.1 ho.2
  have hz := lagSum_end L
  have hpos : 0 < L.length := hg.pos
  refine ⟨hlen, fun a ha => ?_, fun b hb => ?_, ?_, ?_⟩
  · obtain ⟨x, hx, e⟩ := am
    obtain ⟨y, hy, rfl⟩ := hmem a (List.mem_of_getElem? ha)
    rw [lagR_mem hg hy]
    have h1 := a1 y hy
    obtain ⟨i, hi⟩ := List.getElem?_of_mem (hin x hx)
    obtain ⟨li, ei⟩ := List.getElem?_eq_some_iff.1 hi
    obtain ⟨l0, e0⟩ := List.getElem?_eq_some_iff.1 ha
    rcases Nat.eq_zero_or_pos i with hi0 | hi0
    · subst hi0
      rw [ei] at e0
      have : lagR L x.1 = lagR L y.1 := by rw [e0]
      rw [lagR_mem hg hx, lagR_mem hg hy] at this
      omega
    · have := hp 0 i l0 li hi0
      rw [ei, e0, lagR_mem hg hx, lagR_mem hg hy] at this
      omega
  · obtain ⟨x, hx, e⟩ := bm
    obtain ⟨y, hy, rfl⟩ := hmem b (List.mem_of_getElem? hb)
    rw [lagR_mem hg hy]
    have h1 := b1 y hy
    obtain ⟨i, hi⟩ := List.getElem?_of_mem (hin x hx)
    obtain ⟨li, ei⟩ := List.getElem?_eq_some_iff.1 hi
    obtain ⟨l0, e0⟩ := List.getElem?_eq_some_iff.1 hb
    by_cases hi0 : i = L.length - 1
    · subst hi0
      rw [ei] at e0
      have : lagR L x.1 = lagR L y.1 := by rw [e0]
      rw [lagR_mem hg hx, lagR_mem hg hy] at this
      omega
    · have := hp i (L.length - 1) li l0 (by omega)
      rw [ei, e0, lagR_mem hg hx, lagR_mem hg hy] at this
      omega
  · rcases Int.lt_or_le (mostV L (lagV L x0) L.length) 0 with h | h
    · have := lagSum_neg (c := -1) (fun x hx => by have := a1 x hx; omega) L.length (Nat.le_refl _)
      omega
    · exact h
  · rcases Int.lt_or_le 0 (leastV L (lagV L x0) L.length) with h | h
    · have := lagSum_pos (c := 1) (fun x hx => by have := b1 x hx; omega) L.length (Nat.le_refl _)
      omega
    · exact h
end Go.Proofs.Ytgieaojkbfjoiaa
