/-
  Layer 39 (lag): slices of words as arguments; running on changes a lag.
-/
import Derived.Test.YtgieaojkbfjoiaaLagMd
import Derived.Test.YtgieaojkbfjoiaaKitO
namespace Go.Proofs.Ytgieaojkbfjoiaa
open Go.RowKit Go.Maps Go.IntWalk Go.Lib Go.Sort
set_option linter.unusedVariables false
theorem u16_of {a : Int} (h : (Lit.int .u16 a).wf = true) : 0 ≤ a ∧ a ≤ 65535 := bounds_u16 h
theorem u8_of {a : Int} (h : (Lit.int .u8 a).wf = true) : 0 ≤ a ∧ a ≤ 255 := bounds_u8 h
theorem i64_of {a : Int} (h : (Lit.int .i64 a).wf = true) : -9223372036854775808 ≤ a ∧ a ≤ 9223372036854775807 := bounds_i64 h
theorem words_of {w : World} {s : Option Addr} {l c : Nat} {F : Nat → Nat → Value} (h : PlainRow [some .u16] w s l c F) : ∃ ws, WordsIn w s l c ws := by
  rcases h with ⟨rfl, rfl, rfl⟩ | ⟨rfl, hc, x, rfl⟩ | ⟨h0, hl, hm, b, off, rfl, hc⟩
  · exact ⟨[], ⟨rfl, fun h => absurd h (by omega)⟩, Nat.le_refl _, by omega, fun _ => rfl, fun x hx => by cases hx⟩
  · exact ⟨[], ⟨rfl, fun h => absurd h (by omega)⟩, Nat.zero_le _, hc, (fun h => by cases h), fun x hx => by cases hx⟩
  · refine ⟨(List.range l).map fun i => intOf (F i 0), ⟨by simp, fun _ => ⟨b, off, rfl, fun i x hx => ?_⟩⟩, hl, hm, (fun h => by cases h), fun x hx => ?_⟩
    · simp only [List.getElem?_map, Option.map_eq_some_iff] at hx
      obtain ⟨j, hj, rfl⟩ := hx
      obtain ⟨hj1, hj2⟩ := List.getElem?_eq_some_iff.1 hj
      simp only [List.length_range] at hj1
      simp only [List.getElem_range] at hj2
      subst hj2
      obtain ⟨h1, a, ha, hw⟩ := hc i hj1 0 (some .u16) rfl
      rw [ha] at h1 ⊢
      have e : off + i * ([some IntKind.u16] : List (Option IntKind)).length + 0 = off + i := by simp
      rw [e] at h1
      exact h1
    · simp only [List.mem_map, List.mem_range] at hx
      obtain ⟨i, hi, rfl⟩ := hx
      obtain ⟨h1, a, ha, hw⟩ := hc i hi 0 (some .u16) rfl
      rw [ha]
      exact u16_of hw
/-- a task that runs on -/
theorem bump_tsk {l : List (Int × Int × Int)} {id t : Int} {x : Int × Int × Int} (h : tsk l id = some x) : tsk (bump l id t) id = some (x.1, x.2.1, x.2.2 + t) := by
  unfold tsk at h ⊢
  induction l with
  | nil => cases h
  | cons y r ih =>
    by_cases hy : y.1 = id
    · rw [List.find?_cons_of_pos (by simpa using hy)] at h
      cases h
      simp only [bump, List.map_cons, if_pos hy]
      rw [List.find?_cons_of_pos (by simpa using hy)]
    · rw [List.find?_cons_of_neg (by simpa using hy)] at h
      simp only [bump, List.map_cons, if_neg hy]
      rw [List.find?_cons_of_neg (by simpa using hy)]
      exact ih h
theorem tsk_of {l : List (Int × Int × Int)} {id : Int} (h : ∃ x ∈ l, x.1 = id) : ∃ x, tsk l id = some x := by
  cases e : tsk l id with
  | some x => exact ⟨x, rfl⟩
  | none =>
    obtain ⟨x, hx, rfl⟩ := h
    unfold tsk at e
    rw [List.find?_eq_none] at e
    exact absurd (by simp) (e x hx)
theorem bump_lag {l : List (Int × Int × Int)} {id t : Int} {x : Int × Int × Int} (hg : Good l) (h : tsk l id = some x) : lagR (bump l id t) id = lagR l id - t * (sumW l - x.2.1) := by
  have hi : ∃ y ∈ l, y.1 = id := ⟨x, (tsk_some h).1, (tsk_some h).2⟩
  unfold lagR
  rw [bump_tsk h, h]
  simp only [lagV]
  rw [bump_R l id t hg.ids hi, bump_W]
  simp only [Int.add_mul, Int.mul_sub]
  omega
theorem until_law {L R n : Int} (hL : 0 < L) (hR : 0 < R) (hn : n = (L + R - 1) / R) : 0 < n ∧ 0 < L - (n - 1) * R ∧ L - n * R ≤ 0 := by
  have h1 := Int.mul_ediv_add_emod (L + R - 1) R
  have h2 := Int.emod_nonneg (L + R - 1) (by omega : R ≠ 0)
  have h3 := Int.emod_lt_of_pos (L + R - 1) hR
  rw [← hn] at h1
  have h4 : (n - 1) * R = R * n - R := by rw [Int.sub_mul, Int.one_mul, Int.mul_comm]
  have h5 : n * R = R * n := Int.mul_comm _ _
  refine ⟨?_, by omega, by omega⟩
  rcases Int.lt_or_le 0 n with h | h
  · exact h
  · have : R * n ≤ 0 := Int.mul_nonpos_of_nonneg_of_nonpos (by omega) h
    omega
end Go.Proofs.Ytgieaojkbfjoiaa
