/-
  Slices of numbers that came in.
-/
import Derived.Test.YtfgmglghlapbcaaKitG
import Derived.Test.YtfgmglghlapbcaaKitO
import Derived.IntWalk
import Derived.Laws.OwnMore
namespace Go.Proofs.Ytfgmglghlapbcaa
open Go.RowKit Go.IntWalk
set_option linter.unusedVariables false
set_option linter.unusedSimpArgs false
/-- a slice of integers of a kind -/
structure NumsIn (K : IntKind) (w : World) (a : Option Addr) (n cap : Nat) (xs : List Int) : Prop where
  len : xs.length = n
  row : 0 < n → ∃ b off, a = some ⟨b, off, none⟩ ∧ ∀ i, i < n → w.cell? ⟨b, off + i, none⟩ = some (.int K xs[i]!)
  le : n ≤ cap
  max : cap ≤ 9223372036854775807
  none : a = none → cap = 0
  fit : ∀ i, i < n → (Lit.int K xs[i]!).wf = true
theorem NumsIn.later {K : IntKind} {w w' : World} {a : Option Addr} {n cap : Nat} {xs : List Int} (h : NumsIn K w a n cap xs) (hb : Below w.heap.size w w') : NumsIn K w' a n cap xs := by
  refine ⟨h.len, fun h0 => ?_, h.le, h.max, h.none, h.fit⟩
  obtain ⟨b, off, e, hc⟩ := h.row h0
  exact ⟨b, off, e, fun i hi => cell_later hb (hc i hi)⟩
theorem nums_of {K : IntKind} {w : World} {s : Option Addr} {l c : Nat} {F : Nat → Nat → Value} (h : PlainRow [some K] w s l c F) : ∃ xs, NumsIn K w s l c xs := by
  rcases h with ⟨rfl, rfl, rfl⟩ | ⟨rfl, hc, x, rfl⟩ | ⟨h0, hl, hm, b, off, rfl, hc⟩
  · exact ⟨[], rfl, fun h => absurd h (by omega), Nat.le_refl _, by omega, fun _ => rfl, fun i hi => by omega⟩
  · exact ⟨[], rfl, fun h => absurd h (by omega), Nat.zero_le _, by unfold maxLen at hc; omega, (fun h => by cases h), fun i hi => by omega⟩
  · have e : ∀ i, i < l → ((List.range l).map fun i => intOf (F i 0))[i]! = intOf (F i 0) := fun i hi => by
      rw [getElem!_pos _ i (by simpa using hi)]
      simp
    refine ⟨(List.range l).map fun i => intOf (F i 0), by simp, fun _ => ⟨b, off, rfl, fun i hi => ?_⟩, hl, by unfold maxLen at hm; omega, (fun h => by cases h), fun i hi => ?_⟩
    · obtain ⟨h1, a, ha, hw⟩ := hc i hi 0 (some K) rfl
      rw [e i hi]
      rw [ha] at h1 ⊢
      have e2 : off + i * ([some K] : List (Option IntKind)).length + 0 = off + i := by simp
      rw [e2] at h1
      exact h1
    · obtain ⟨h1, a, ha, hw⟩ := hc i hi 0 (some K) rfl
      rw [e i hi, ha]
      exact hw
theorem wf_u64 {x : Int} (h : (Lit.int .u64 x).wf = true) : 0 ≤ x ∧ x ≤ 18446744073709551615 := by
  simp only [Lit.wf, Bool.and_eq_true, decide_eq_true_eq, IntKind.min, IntKind.max, IntKind.bits, IntKind.signed] at h
  simp at h
  omega
theorem wf_i64 {x : Int} (h : (Lit.int .i64 x).wf = true) : -9223372036854775808 ≤ x ∧ x ≤ 9223372036854775807 := by
  simp only [Lit.wf, Bool.and_eq_true, decide_eq_true_eq, IntKind.min, IntKind.max, IntKind.bits, IntKind.signed] at h
  simp at h
  omega
theorem wf_u8 {x : Int} (h : (Lit.int .u8 x).wf = true) : 0 ≤ x ∧ x ≤ 255 := by
  simp only [Lit.wf, Bool.and_eq_true, decide_eq_true_eq, IntKind.min, IntKind.max, IntKind.bits, IntKind.signed] at h
  simp at h
  omega
end Go.Proofs.Ytfgmglghlapbcaa
