/-
  Slices of records that lie outside some blocks.
-/
import Derived.Test.YtfgmglghlapbcaaKitT
namespace Go.Proofs.Ytfgmglghlapbcaa
open Go.RowKit
set_option linter.unusedVariables false
section
variable {α : Type} {enc : α → List Value} {k : Nat}
/-- records in memory, in none of the blocks of F -/
def HeldR (enc : α → List Value) (F : List Nat) (w : World) (v : Value) (L : List α) : Prop := ∃ a cap, v = .slice a L.length cap ∧ L.length ≤ cap ∧ cap ≤ 9223372036854775807 ∧ (a = none → cap = 0) ∧ (L = [] ∨ ∃ b off, a = some ⟨b, off, none⟩ ∧ (b ∉ F ∧ b < w.heap.size) ∧ ∀ j u, (flatR enc L)[j]? = some u → w.cell? ⟨b, off + j, none⟩ = some u)
theorem HeldR.recs {F : List Nat} {w : World} {v : Value} {L : List α} (h : HeldR enc F w v L) : RecsAt enc w v L := by
  obtain ⟨a, cap, e, h1, h2, h3, h⟩ := h
  exact ⟨a, cap, e, h1, h2, h3, h.imp id fun ⟨b, off, e, _, hc⟩ => ⟨b, off, e, hc⟩⟩
theorem HeldR.step {F F' : List Nat} {w w' : World} {v : Value} {L : List α} (h : HeldR enc F w v L) (hk : Kept F w w') (hn : ∀ b ∈ F', b ∈ F ∨ w.heap.size ≤ b) : HeldR enc F' w' v L := by
  obtain ⟨a, cap, e, h1, h2, h3, h⟩ := h
  refine ⟨a, cap, e, h1, h2, h3, h.imp id fun ⟨b, off, e, ⟨q1, q2⟩, hc⟩ => ⟨b, off, e, ⟨fun m => ?_, Nat.lt_of_lt_of_le q2 hk.size⟩, fun j u hu => hk.cellAt (hc j u hu) q1⟩⟩
  rcases hn b m with q | q
  · exact q1 q
  · omega
theorem HeldR.kept {F : List Nat} {w w' : World} {v : Value} {L : List α} (h : HeldR enc F w v L) (hk : Kept F w w') : HeldR enc F w' v L := h.step hk fun b hb => Or.inl hb
theorem HeldR.later {F : List Nat} {w w' : World} {v : Value} {L : List α} (h : HeldR enc F w v L) (hb : Below w.heap.size w w') : HeldR enc F w' v L := h.kept (Kept.of hb)
theorem own_heldR (he : Enc enc k) {w : World} {base n e : Nat} {v : Value} {L : List α} {xs : List Value} (h : w.ownsRow base e k v n xs) (hn : n = L.length) (hx : xs = flatR enc L) {F : List Nat} (hF : ∀ b ∈ F, b < base) : HeldR enc F w v L := by
  subst hn; subst hx
  rcases h.2 with ⟨rfl, h0⟩ | ⟨g, cap, cur, rfl, hb, _, h5, h6, _⟩
  · have : L = [] := List.eq_nil_of_length_eq_zero h0
    subst this
    exact ⟨none, 0, rfl, Nat.le_refl _, by omega, fun _ => rfl, Or.inl rfl⟩
  · have hl := (h.lt g rfl).2
    refine ⟨some ⟨g, 0, none⟩, cap, rfl, h5, by unfold maxLen at h6; omega, (fun q => by cases q), Or.inr ⟨g, 0, rfl, ⟨fun m => by have := hF g m; omega, hl⟩, fun j u hu => ?_⟩⟩
    have hj : j < L.length * k := by rw [← flatR_len he]; exact (List.getElem?_eq_some_iff.1 hu).1
    rw [Nat.zero_add, h.cellAt j hj]
    exact hu
theorem RecsAt.heldR {F : List Nat} (he : Enc enc k) {w : World} {v : Value} {L : List α} (h : RecsAt enc w v L) (hF : ∀ b ∈ F, w.heap.size ≤ b) : HeldR enc F w v L := by
  obtain ⟨a, cap, e, h1, h2, h3, h⟩ := h
  refine ⟨a, cap, e, h1, h2, h3, ?_⟩
  by_cases h0 : L = []
  · exact Or.inl h0
  · rcases h with h | ⟨b, off, e', hc⟩
    · exact Or.inl h
    · have hp : 0 < (flatR enc L).length := by rw [flatR_len he]; exact Nat.mul_pos (by cases L with | nil => exact absurd rfl h0 | cons _ _ => simp) he.pos
      have hl := lt_of_cell (hc 0 _ (List.getElem?_eq_getElem hp))
      exact Or.inr ⟨b, off, e', ⟨fun m => by have := hF b m; omega, hl⟩, hc⟩
end
end Go.Proofs.Ytfgmglghlapbcaa
