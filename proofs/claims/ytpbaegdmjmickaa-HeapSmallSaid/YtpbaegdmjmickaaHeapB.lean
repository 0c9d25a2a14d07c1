/-
  Layer 18 (heap): what a search from the root finds; no program.
-/
import Derived.Test.YtpbaegdmjmickaaHeapN
namespace Go.Proofs.Ytpbaegdmjmickaa
set_option linter.unusedVariables false
/-- below a place, or the place itself -/
inductive Desc (i : Nat) : Nat → Prop where
  | refl : Desc i i
  | child {j : Nat} (h0 : 0 < j) (h : Desc i (par j)) : Desc i j
theorem par_lt {j : Nat} (h : 0 < j) : par j < j := by unfold par; omega
theorem Desc.le {i j : Nat} (h : Desc i j) : i ≤ j := by
  induction h with
  | refl => exact Nat.le_refl _
  | child h0 _ ih => have := par_lt h0; omega
theorem Desc.inv {i j : Nat} (h : Desc i j) : j = i ∨ 0 < j ∧ Desc i (par j) := by
  cases h with
  | refl => exact Or.inl rfl
  | child h0 h => exact Or.inr ⟨h0, h⟩
theorem Desc.root : ∀ j, Desc 0 j := by
  intro j
  induction j using Nat.strongRecOn with
  | ind j ih =>
    rcases Nat.eq_zero_or_pos j with e | e
    · rw [e]; exact Desc.refl
    · exact Desc.child e (ih _ (par_lt e))
theorem Desc.trans {a b c : Nat} (h : Desc a b) (k : Desc b c) : Desc a c := by
  induction k with
  | refl => exact h
  | child h0 _ ih => exact Desc.child h0 ih
theorem Desc.comparable {a b j : Nat} (h : Desc a j) (k : Desc b j) : Desc a b ∨ Desc b a := by
  induction h with
  | refl => exact Or.inr k
  | child h0 h ih =>
    cases k with
    | refl => exact Or.inl (Desc.child h0 h)
    | child _ k => exact ih k
theorem Desc.kids (i : Nat) : Desc i (2 * i + 1) ∧ Desc i (2 * i + 2) := by
  have h1 : par (2 * i + 1) = i := by unfold par; omega
  have h2 : par (2 * i + 2) = i := by unfold par; omega
  refine ⟨Desc.child (by omega) ?_, Desc.child (by omega) ?_⟩
  · rw [h1]; exact Desc.refl
  · rw [h2]; exact Desc.refl
theorem Desc.split {i j : Nat} (h : Desc i j) : j = i ∨ Desc (2 * i + 1) j ∨ Desc (2 * i + 2) j := by
  induction h with
  | refl => exact Or.inl rfl
  | @child j h0 h ih =>
    rcases ih with e | e | e
    · have : j = 2 * i + 1 ∨ j = 2 * i + 2 := by unfold par at e; omega
      rcases this with rfl | rfl
      · exact Or.inr (Or.inl Desc.refl)
      · exact Or.inr (Or.inr Desc.refl)
    · exact Or.inr (Or.inl (Desc.child h0 e))
    · exact Or.inr (Or.inr (Desc.child h0 e))
theorem Desc.apart {i j : Nat} (h : Desc (2 * i + 1) j) (k : Desc (2 * i + 2) j) : False := by
  rcases h.comparable k with h | h
  · rcases h.inv with e | ⟨_, h⟩
    · omega
    · have := h.le; unfold par at this; omega
  · have := h.le; omega
def gatherI (V : Items) (x : Int × Int) : Nat → Nat → List Nat
  | 0, _ => []
  | k + 1, i => if i < V.length ∧ ltI V[i]! x then i :: (gatherI V x k (2 * i + 1) ++ gatherI V x k (2 * i + 2)) else []
theorem gatherI_mem {V : Items} {x : Int × Int} (hv : Heaped V) : ∀ k i j, V.length ≤ i + k → (j ∈ gatherI V x k i ↔ Desc i j ∧ j < V.length ∧ ltI V[j]! x) := by
  have up : ∀ i j, Desc i j → j < V.length → ltI V[j]! x → ltI V[i]! x := by
    intro i j h
    induction h with
    | refl => intro _ h; exact h
    | @child j h0 h ih =>
      intro jl hj
      exact ih (by have := par_lt h0; omega) (ltI_trans (hv j h0 jl) hj)
  intro k
  induction k with
  | zero =>
    intro i j hk
    simp only [gatherI, List.not_mem_nil, false_iff]
    rintro ⟨h, hj, _⟩
    have := h.le
    omega
  | succ k ih =>
    intro i j hk
    unfold gatherI
    by_cases hc : i < V.length ∧ ltI V[i]! x
    · rw [if_pos hc, List.mem_cons, List.mem_append, ih _ _ (by omega), ih _ _ (by omega)]
      constructor
      · rintro (rfl | ⟨h, r⟩ | ⟨h, r⟩)
        · exact ⟨Desc.refl, hc⟩
        · exact ⟨(Desc.kids i).1.trans h, r⟩
        · exact ⟨(Desc.kids i).2.trans h, r⟩
      · rintro ⟨h, r⟩
        rcases h.split with e | e | e
        · exact Or.inl e
        · exact Or.inr (Or.inl ⟨e, r⟩)
        · exact Or.inr (Or.inr ⟨e, r⟩)
    · rw [if_neg hc]
      simp only [List.not_mem_nil, false_iff]
      rintro ⟨h, jl, hj⟩
      exact hc ⟨Nat.lt_of_le_of_lt h.le jl, up i j h jl hj⟩
theorem gatherI_nodup {V : Items} {x : Int × Int} (hv : Heaped V) : ∀ k i, V.length ≤ i + k → (gatherI V x k i).Nodup := by
  intro k
  induction k with
  | zero => intro i _; simp [gatherI]
  | succ k ih =>
    intro i hk
    unfold gatherI
    split
    · refine List.nodup_cons.2 ⟨fun h => ?_, List.nodup_append.2 ⟨ih _ (by omega), ih _ (by omega), fun a ha b hb e => ?_⟩⟩
      · rcases List.mem_append.1 h with h | h
        · have := ((gatherI_mem hv k _ _ (by omega)).1 h).1.le; omega
        · have := ((gatherI_mem hv k _ _ (by omega)).1 h).1.le; omega
      · subst e
        exact ((gatherI_mem hv k _ _ (by omega)).1 ha).1.apart ((gatherI_mem hv k _ _ (by omega)).1 hb).1
    · exact List.nodup_nil
def gatherL (V : Items) (x : Int × Int) : Nat → Nat → Items
  | 0, _ => []
  | k + 1, i => if i < V.length ∧ ltI V[i]! x then V[i]! :: (gatherL V x k (2 * i + 1) ++ gatherL V x k (2 * i + 2)) else []
theorem gather_map (V : Items) (x : Int × Int) : ∀ k i, gatherL V x k i = (gatherI V x k i).map (V[·]!) := by
  intro k
  induction k with
  | zero => intro i; rfl
  | succ k ih =>
    intro i
    unfold gatherL gatherI
    split
    · rw [ih, ih, List.map_cons, List.map_append]
    · rfl
theorem list_range (V : Items) : V = (List.range V.length).map (V[·]!) := by
  refine ext_at (by simp) fun i hi => ?_
  rw [getElem!_pos ((List.range V.length).map (V[·]!)) i (by simpa using hi)]
  simp
def belowL (S : Items) (x : Int × Int) : Items := S.filter fun y => decide (ltI y x)
theorem gather_perm {V : Items} (hv : Heaped V) (x : Int × Int) : (gatherL V x V.length 0).Perm (belowL V x) := by
  have e : belowL V x = ((List.range V.length).filter fun j => decide (ltI V[j]! x)).map (V[·]!) := by
    unfold belowL
    conv => lhs; rw [list_range V]
    rw [List.filter_map]
    rfl
  rw [e, gather_map]
  refine List.Perm.map _ ?_
  rw [List.perm_ext_iff_of_nodup (gatherI_nodup hv _ _ (by omega)) (List.nodup_range.filter _)]
  intro j
  rw [gatherI_mem hv _ _ _ (by omega), List.mem_filter, List.mem_range]
  simp [Desc.root]
theorem below_order {S : Items} (h : InOrder S) (x : Int × Int) : InOrder (belowL S x) := h.filter _
theorem below_perm {A B : Items} (p : A.Perm B) (x : Int × Int) : (belowL A x).Perm (belowL B x) := p.filter _
end Go.Proofs.Ytpbaegdmjmickaa
