/-
  Layer 24 (queue): acts that came in.
-/
import Derived.Test.YtekjakmeopolhaaQueueD
namespace Go.Proofs.Ytekjakmeopolhaa
open Go.RowKit Go.Maps Go.IntWalk Go.Lib
set_option linter.unusedVariables false
set_option linter.unusedSimpArgs false
theorem wf_u32' {x : Int} (h : (Lit.int .u32 x).wf = true) : 0 ≤ x ∧ x ≤ 4294967295 := by
  simp only [Lit.wf, Bool.and_eq_true, decide_eq_true_eq, IntKind.min, IntKind.max, IntKind.bits, IntKind.signed] at h
  simp at h
  omega
theorem wf_u16' {x : Int} (h : (Lit.int .u16 x).wf = true) : 0 ≤ x ∧ x ≤ 65535 := by
  simp only [Lit.wf, Bool.and_eq_true, decide_eq_true_eq, IntKind.min, IntKind.max, IntKind.bits, IntKind.signed] at h
  simp at h
  omega
theorem row_le {T : List (Option IntKind)} {w : World} {s : Option Addr} {l c : Nat} {F : Nat → Nat → Value} (h : PlainRow T w s l c F) : l ≤ c ∧ c ≤ 9223372036854775807 ∧ (s = none → c = 0) := by
  rcases h with ⟨rfl, rfl, rfl⟩ | ⟨rfl, hc, x, rfl⟩ | ⟨h0, hl, hm, b, off, rfl, hc⟩
  · exact ⟨by omega, by omega, fun _ => rfl⟩
  · exact ⟨by omega, by unfold maxLen at hc; omega, fun h => by cases h⟩
  · exact ⟨hl, by unfold maxLen at hm; omega, fun h => by cases h⟩
theorem qact_cells {w : World} {s : Option Addr} {l c : Nat} {F : Nat → Nat → Value} (h : PlainRow [some .u8, some .i64, some .u64, some .u32, some .u32, some .i64] w s l c F) {k : Nat} (hk : k < l) :
    ∃ b off kd id v r g n, s = some ⟨b, off, none⟩ ∧ w.cell? ⟨b, off + k * 6, none⟩ = some (.int .u8 kd) ∧ w.cell? ⟨b, off + k * 6 + 1, none⟩ = some (.int .i64 id) ∧ w.cell? ⟨b, off + k * 6 + 2, none⟩ = some (.int .u64 v) ∧ w.cell? ⟨b, off + k * 6 + 3, none⟩ = some (.int .u32 r) ∧ w.cell? ⟨b, off + k * 6 + 4, none⟩ = some (.int .u32 g) ∧ w.cell? ⟨b, off + k * 6 + 5, none⟩ = some (.int .i64 n) ∧ (0 ≤ kd ∧ kd ≤ 255) ∧ ((Lit.int .i64 id).wf = true ∧ -9223372036854775808 ≤ id ∧ id ≤ 9223372036854775807) ∧ (0 ≤ v ∧ v ≤ 18446744073709551615) ∧ (0 ≤ r ∧ r ≤ 4294967295) ∧ (0 ≤ g ∧ g ≤ 4294967295) ∧ ((Lit.int .i64 n).wf = true ∧ -9223372036854775808 ≤ n ∧ n ≤ 9223372036854775807) := by
  rcases h with ⟨rfl, rfl, rfl⟩ | ⟨rfl, hc, x, rfl⟩ | ⟨h0, hl, hm, b, off, rfl, hc⟩
  · omega
  · omega
  · obtain ⟨e0, kd, q0, w0⟩ := hc k hk 0 (some .u8) rfl
    obtain ⟨e1, id, q1, w1⟩ := hc k hk 1 (some .i64) rfl
    obtain ⟨e2, v, q2, w2⟩ := hc k hk 2 (some .u64) rfl
    obtain ⟨e3, r, q3, w3⟩ := hc k hk 3 (some .u32) rfl
    obtain ⟨e4, g, q4, w4⟩ := hc k hk 4 (some .u32) rfl
    obtain ⟨e5, n, q5, w5⟩ := hc k hk 5 (some .i64) rfl
    rw [q0] at e0
    rw [q1] at e1
    rw [q2] at e2
    rw [q3] at e3
    rw [q4] at e4
    rw [q5] at e5
    exact ⟨b, off, kd, id, v, r, g, n, rfl, e0, e1, e2, e3, e4, e5, wf_u8 w0, ⟨w1, wf_i64 w1⟩, wf_u64 w2, wf_u32' w3, wf_u32' w4, w5, wf_i64 w5⟩
/-- a number below m, and not below 0 -/
def modI (x m : Int) : Int := (x.tmod m + m).tmod m
theorem modI_in {x m : Int} (hm : 0 < m) : 0 ≤ modI x m ∧ modI x m < m ∧ -m < x.tmod m ∧ x.tmod m < m := by
  have a : -m < x.tmod m ∧ x.tmod m < m := by
    by_cases h : 0 ≤ x
    · rw [Int.tmod_eq_emod_of_nonneg h]
      have := Int.emod_nonneg x (show m ≠ 0 by omega)
      have := Int.emod_lt_of_pos x hm
      omega
    · have e : x.tmod m = -((-x) % m) := by
        rw [← Int.tmod_eq_emod_of_nonneg (show 0 ≤ -x by omega), Int.neg_tmod]
        omega
      have := Int.emod_nonneg (-x) (show m ≠ 0 by omega)
      have := Int.emod_lt_of_pos (-x) hm
      omega
  unfold modI
  rw [Int.tmod_eq_emod_of_nonneg (by omega)]
  have := Int.emod_nonneg (x.tmod m + m) (show m ≠ 0 by omega)
  have := Int.emod_lt_of_pos (x.tmod m + m) hm
  omega
end Go.Proofs.Ytekjakmeopolhaa
