/-
  Layer 25 (pick): a tree that is a law's own; what is refused.
-/
import Derived.Test.YtfgmglghlapbcaaGreatPickTa
import Derived.Test.YtfgmglghlapbcaaGreatPkY
namespace Go.Proofs.YtfgmglghlapbcaaGreat
open Go.RowKit Go.Maps Go.IntWalk Go.Lib Go.Sort Go.Shelf
set_option linter.unusedVariables false
set_option linter.unusedSimpArgs false
structure TW (w : World) (t : Nat) (s : TSt) (wr : World) (F : List Nat) : Prop where
  inn : TreeIn wr t F s
  own : ∀ b ∈ F, w.heap.size ≤ b
  bel : Below w.heap.size w wr
section
variable {w wr w' : World} {t : Nat} {s s' : TSt} {F : List Nat}
theorem TW.step (h : TW w t s wr F) (ha : TAfter wr t F s' w') : ∃ F', TW w t s' w' F' ∧ Step F wr F' w' := by
  obtain ⟨F', hi, hs⟩ := ha
  obtain ⟨h1, h2⟩ := hs.below (B := w.heap.size) h.own h.bel.size
  exact ⟨F', ⟨hi, h2, h.bel.trans h1⟩, hs⟩
theorem TW.later (h : TW w t s wr F) (hb : Below wr.heap.size wr w') : TW w t s w' F := ⟨h.inn.below hb, h.own, Below.step h.bel hb⟩
end
/-! ### what is refused changes nothing -/
theorem enS_no {s : TSt} {id g ac : Int} {x : Ent} (h : enC s id g ac ≠ 0) : enX s id g ac x = (0, 0, 0) ∧ enS s id g ac x = s := by
  unfold enX enS
  rw [if_neg h, if_neg h]
  exact ⟨rfl, rfl⟩
theorem spawn_no {s : TSt} {id g k c : Int} (h : spawnC s id g k = c) (hc : c ≠ 0) : spawnX s id g k = (0, 0, 0) ∧ spawnS s id g k = s := enS_no (by rw [show enC s id g (newC k) = c from h]; exact hc)
theorem wake_no {s : TSt} {id g c : Int} {x : Ent} (h : wakeC s id g x = c) (hc : c ≠ 0) : wakeX s id g x = (0, 0, 0) ∧ wakeS s id g x = s := enS_no (by rw [show enC s id g (wokenC x) = c from h]; exact hc)
theorem come_no {s : TSt} {id g c : Int} {x : Ent} (h : comC s id g x = c) (hc : c ≠ 0) : comS s id g x = s := (enS_no (x := comeX x) (by rw [show enC s id g (comeC x) = c from h]; exact hc)).2
theorem leave_no' {s : TSt} {id c : Int} (h : findC s id = c) (hc : c ≠ 0) : plvX s id = (0, 0, 0) ∧ plvS s id = s := by
  unfold plvX plvS
  rw [if_neg (by rw [h]; exact hc), if_neg (by rw [h]; exact hc)]
  exact ⟨rfl, rfl⟩
theorem charge_no {s : TSt} {id k c : Int} (h : pchgC s id k = c) (hc : c ≠ 0) : pchgS s id k = s := by
  unfold pchgS
  rw [if_neg (by rw [h]; exact hc)]
theorem weigh_no {s : TSt} {id k : Int} (h : wgOk k → findC s id ≠ 0) : pweiS s id k = s ∧ (wgOk k → pweiC s id k = findC s id) ∧ (¬ wgOk k → pweiC s id k = 2) := by
  unfold pweiS pweiC
  by_cases q : wgOk k
  · rw [if_pos q, if_pos q, if_neg (h q), if_neg (h q)]
    exact ⟨rfl, fun _ => rfl, fun x => absurd q x⟩
  · rw [if_neg q, if_neg q]
    exact ⟨rfl, fun x => absurd x q, fun _ => rfl⟩
theorem regroup_no {s : TSt} {g k : Int} (h : ¬ (hasV (s.n : Int) g = true ∧ g ≠ 0)) : pregC s g k = 2 ∧ pregS s g k = s := by
  have e : pregC s g k = 2 := by unfold pregC; rw [if_neg h]
  refine ⟨e, ?_⟩
  unfold pregS
  rw [if_neg (by rw [e]; decide)]
/-- numbers that no task can have -/
theorem find_bad {s : TSt} {id : Int} (h : nameV id = false) : findC s id = 2 := by unfold findC; rw [h]; rfl
theorem en_bad {s : TSt} {id g ac : Int} (h : nameV id = false ∨ hasV (s.n : Int) g = false ∨ ac ≠ 0) : enC s id g ac = 2 := by
  unfold enC
  rcases h with h | h | h
  · rw [h]; rfl
  · rw [h, Bool.and_false]; rfl
  · by_cases q : (nameV id && hasV (s.n : Int) g) = true
    · rw [if_pos q, if_neg h]
    · rw [if_neg q]
theorem en_there {s : TSt} {id g ac : Int} (h : findC s id = 0) (hg : hasV (s.n : Int) g = true) (ha : ac = 0) : enC s id g ac = 250 := by
  unfold findC at h
  unfold enC
  cases hn : nameV id with
  | false => rw [hn] at h; simp at h
  | true =>
    rw [hn] at h
    rw [hg, if_pos (show (true && true) = true from rfl), if_pos ha]
    cases e : (s.T id).isSome with
    | true => rfl
    | false => rw [e] at h; simp at h
end Go.Proofs.YtfgmglghlapbcaaGreat
