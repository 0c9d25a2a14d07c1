/-
  Layer 18 (heap): what a list of items says of each number; turning round.
-/
import Derived.Test.YtpbaegdmjmickaaHeapN
namespace Go.Proofs.Ytpbaegdmjmickaa
set_option linter.unusedVariables false
theorem keyL_cons (x : Int × Int) (S : Items) (id : Int) : keyL (x :: S) id = if x.1 = id then some x.2 else keyL S id := by
  unfold keyL
  rw [List.find?_cons]
  by_cases h : x.1 = id
  · simp [h]
  · have : (x.1 == id) = false := by simpa using h
    simp [h, this]
theorem keyL_putL {S : Items} {x : Int × Int} (h : keyL S x.1 = none) (hn : (S.map Prod.fst).Nodup) (id : Int) : keyL (putL S x) id = if x.1 = id then some x.2 else keyL S id := by
  have hc : ((x :: S).map Prod.fst).Nodup := by
    rw [List.map_cons, List.nodup_cons]
    refine ⟨fun q => ?_, hn⟩
    obtain ⟨y, hy, e⟩ := List.mem_map.1 q
    exact keyL_none.1 h y hy e
  rw [← keyL_perm (putL_perm S x).symm hc id, keyL_cons]
theorem keyL_outL (S : Items) (i id : Int) : keyL (outL S i) id = if i = id then none else keyL S id := by
  induction S with
  | nil => simp [keyL, outL]
  | cons x r ih =>
    by_cases h : x.1 = i
    · have e : outL (x :: r) i = outL r i := by unfold outL; simp [h]
      rw [e, ih, keyL_cons]
      by_cases h2 : i = id
      · simp [h2]
      · simp [h2, h]
    · have e : outL (x :: r) i = x :: outL r i := by unfold outL; simp [h]
      rw [e, keyL_cons, ih, keyL_cons]
      by_cases h2 : i = id
      · subst h2; simp [h]
      · simp [h2]
theorem keyL_at {S : Items} (hn : (S.map Prod.fst).Nodup) {k : Nat} (hk : k < S.length) : keyL S S[k]!.1 = some S[k]!.2 := (keyL_some hn).2 (at_mem hk)
theorem outL_nodup {S : Items} (hn : (S.map Prod.fst).Nodup) (i : Int) : ((outL S i).map Prod.fst).Nodup := (List.filter_sublist.map _).nodup hn
theorem putL_nodup {S : Items} {x : Int × Int} (h : keyL S x.1 = none) (hn : (S.map Prod.fst).Nodup) : ((putL S x).map Prod.fst).Nodup := by
  rw [((putL_perm S x).map Prod.fst).nodup_iff, List.map_cons, List.nodup_cons]
  refine ⟨fun q => ?_, hn⟩
  obtain ⟨y, hy, e⟩ := List.mem_map.1 q
  exact keyL_none.1 h y hy e
theorem nodup_of_ids {S : Items} (h : (S.map Prod.fst).Nodup) : S.Nodup := (List.pairwise_map.1 h).imp fun q e => q (by rw [e])
theorem items_ext {A B : Items} (hA : InOrder A) (hB : InOrder B) (nA : (A.map Prod.fst).Nodup) (nB : (B.map Prod.fst).Nodup) (h : ∀ id, keyL A id = keyL B id) : A = B := by
  refine order_unique hA hB ((List.perm_ext_iff_of_nodup (nodup_of_ids nA) (nodup_of_ids nB)).2 fun x => ?_)
  obtain ⟨i, k⟩ := x
  rw [← keyL_some nA, ← keyL_some nB, h]
/-- turned round -/
def rot (b m k : Nat) : Nat := (k + b) % m
theorem rot_lt {b m k : Nat} (hm : 0 < m) : rot b m k < m := Nat.mod_lt _ hm
theorem rot_ne {b m i j : Nat} (hij : i < j) (hj : j < m) : rot b m i ≠ rot b m j := fun h => by
  unfold rot at h
  have h1 := Nat.sub_mod_eq_zero_of_mod_eq h.symm
  rw [show j + b - (i + b) = j - i by omega, Nat.mod_eq_of_lt (by omega)] at h1
  omega
theorem rot_inj {b m i j : Nat} (hi : i < m) (hj : j < m) (h : rot b m i = rot b m j) : i = j := by
  rcases Nat.lt_trichotomy i j with q | q | q
  · exact absurd h (rot_ne q hj)
  · exact q
  · exact absurd h.symm (rot_ne q hi)
theorem rot_onto {b m t : Nat} (ht : t < m) : ∃ j, j < m ∧ rot b m j = t := by
  have hm : 0 < m := by omega
  refine ⟨(t + (m - b % m)) % m, Nat.mod_lt _ hm, ?_⟩
  unfold rot
  rw [Nat.mod_add_mod]
  have h1 := Nat.div_add_mod b m
  have h2 := Nat.mod_lt b hm
  obtain ⟨q, hq⟩ : ∃ q, q = m * (b / m) := ⟨_, rfl⟩
  rw [← hq] at h1
  have e : t + (m - b % m) + b = t + m + q := by omega
  rw [e, hq, Nat.add_mul_mod_self_left, Nat.add_mod_right, Nat.mod_eq_of_lt ht]
end Go.Proofs.Ytpbaegdmjmickaa
