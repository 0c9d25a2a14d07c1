/-
  Layer 18 (heap): a heap that a law has made, from call to call.
-/
import Derived.Test.YtpbaegdmjmickaaHeapBl
import Derived.Test.YtpbaegdmjmickaaKitH
namespace Go.Proofs.Ytpbaegdmjmickaa
open Go.RowKit Go.Maps Go.IntWalk Go.Lib
set_option linter.unusedVariables false
/-- a heap whose blocks are the call's own -/
structure WI (w : World) (p : Nat) (n : Int) (S : Items) (wr : World) (F : List Nat) : Prop where
  inn : HeapIn wr p F n S
  own : ∀ b ∈ F, w.heap.size ≤ b
  bel : Below w.heap.size w wr
theorem WI.step {w wr w' : World} {p : Nat} {n : Int} {S T : Items} {F : List Nat} (h : WI w p n S wr F) (ha : After wr p F n T w') : ∃ F', WI w p n T w' F' ∧ Step F wr F' w' := by
  obtain ⟨F', h1, h2⟩ := ha.split
  obtain ⟨h3, h4⟩ := h2.below h.own h.bel.size
  exact ⟨F', ⟨h1, h4, h.bel.trans h3⟩, h2⟩
theorem WI.below {w wr w' : World} {p : Nat} {n : Int} {S : Items} {F : List Nat} (h : WI w p n S wr F) (hb : Below wr.heap.size wr w') : WI w p n S w' F := ⟨h.inn.below hb, h.own, Below.step h.bel hb⟩
theorem fillK_some (xs : List Int) (m k : Nat) : (keyL (fillK xs m) (k : Int)).isSome = decide (k < m) := by
  by_cases h : k < m
  · rw [decide_eq_true h, keyL_isSome, (fillK_ids xs m).mem_iff]
    exact List.mem_map.2 ⟨k, List.mem_range.2 h, rfl⟩
  · rw [decide_eq_false h]
    cases e : (keyL (fillK xs m) (k : Int)).isSome with
    | false => rfl
    | true =>
      rw [keyL_isSome, (fillK_ids xs m).mem_iff] at e
      obtain ⟨j, hj, q⟩ := List.mem_map.1 e
      have := List.mem_range.1 hj
      omega
theorem bad_out {n : Int} {S : Items} {id : Int} (h : hasV n id = false) : outRes n S id = 2 ∧ outKey n S id = 0 ∧ outS n S id = S ∧ setRes n S id = 2 ∧ (∀ key, setS n S id key = S) ∧ putRes n S id = 2 ∧ (∀ key, putS n S id key = S) ∧ keyV n S id = .tuple #[.int .u64 0, .bool false] := by
  have e1 : outRes n S id = 2 := by unfold outRes; rw [h]; rfl
  have e2 : setRes n S id = 2 := by unfold setRes; rw [h]; rfl
  have e3 : putRes n S id = 2 := by unfold putRes; rw [h]; rfl
  refine ⟨e1, by unfold outKey; rw [e1]; rfl, by unfold outS; rw [e1]; rfl, e2, fun key => by unfold setS; rw [e2]; rfl, e3, fun key => by unfold putS; rw [e3]; rfl, by unfold keyV; rw [h]; rfl⟩
theorem has_true {n id : Int} (h0 : 0 ≤ id) (h1 : id < n) : hasV n id = true := decide_eq_true ⟨h0, h1⟩
theorem there_out {n : Int} {S : Items} {id k : Int} (h : hasV n id = true) (hk : keyL S id = some k) : outRes n S id = 0 ∧ outKey n S id = k ∧ outS n S id = outL S id ∧ setRes n S id = 0 ∧ (∀ key, setS n S id key = putL (outL S id) (id, key)) ∧ putRes n S id = 180 ∧ (∀ key, putS n S id key = S) ∧ keyV n S id = .tuple #[.int .u64 k, .bool true] := by
  have e1 : outRes n S id = 0 := by unfold outRes; rw [h, hk]; rfl
  have e2 : setRes n S id = 0 := by unfold setRes; rw [h, hk]; rfl
  have e3 : putRes n S id = 180 := by unfold putRes; rw [h, hk]; rfl
  refine ⟨e1, by unfold outKey; rw [e1, hk]; rfl, by unfold outS; rw [e1]; rfl, e2, fun key => by unfold setS; rw [e2]; rfl, e3, fun key => by unfold putS; rw [e3]; rfl, by unfold keyV; rw [h, hk]; rfl⟩
theorem none_out {n : Int} {S : Items} {id : Int} (h : hasV n id = true) (hk : keyL S id = none) : outRes n S id = 6 ∧ outKey n S id = 0 ∧ outS n S id = S ∧ setRes n S id = 6 ∧ (∀ key, setS n S id key = S) ∧ putRes n S id = 0 ∧ (∀ key, putS n S id key = putL S (id, key)) ∧ keyV n S id = .tuple #[.int .u64 0, .bool false] := by
  have e1 : outRes n S id = 6 := by unfold outRes; rw [h, hk]; rfl
  have e2 : setRes n S id = 6 := by unfold setRes; rw [h, hk]; rfl
  have e3 : putRes n S id = 0 := by unfold putRes; rw [h, hk]; rfl
  refine ⟨e1, by unfold outKey; rw [e1]; rfl, by unfold outS; rw [e1]; rfl, e2, fun key => by unfold setS; rw [e2]; rfl, e3, fun key => by unfold putS; rw [e3]; rfl, by unfold keyV; rw [h, hk]; rfl⟩
/-- one item's cells -/
theorem ItemsAt.cells {w : World} {a : Option Addr} {n c : Nat} {S : Items} (h : ItemsAt w (.slice a n c) S) {k : Nat} (hk : k < S.length) : n = S.length ∧ ∃ b off, a = some ⟨b, off, none⟩ ∧ w.cell? ⟨b, off + k * 2, none⟩ = some (.int .i64 S[k]!.1) ∧ w.cell? ⟨b, off + k * 2 + 1, none⟩ = some (.int .u64 S[k]!.2) := by
  obtain ⟨a', c', e, h⟩ := h
  cases e
  rcases h with h | ⟨b, off, rfl, hc⟩
  · subst h; simp at hk
  · exact ⟨rfl, b, off, rfl, (hc k hk).1, (hc k hk).2⟩
end Go.Proofs.Ytpbaegdmjmickaa
