/-
  Layer 18 (heap): plain facts on heaps in lists; no program.
-/
import Derived.Test.YtfgmglghlapbcaaKit
namespace Go.Proofs.Ytfgmglghlapbcaa
set_option linter.unusedVariables false
/-- an item is before another one -/
def ltI (a b : Int × Int) : Prop := a.2 < b.2 ∨ a.2 = b.2 ∧ a.1 < b.1
instance (a b : Int × Int) : Decidable (ltI a b) := by unfold ltI; infer_instance
theorem ltI_trans {a b c : Int × Int} (h : ltI a b) (k : ltI b c) : ltI a c := by unfold ltI at *; omega
theorem ltI_irrefl (a : Int × Int) : ¬ ltI a a := by unfold ltI; omega
theorem ltI_asymm {a b : Int × Int} (h : ltI a b) : ¬ ltI b a := by unfold ltI at *; omega
theorem ltI_total {a b : Int × Int} (h : a.1 ≠ b.1) (k : ¬ ltI a b) : ltI b a := by unfold ltI at *; omega
theorem ltI_total' {a b : Int × Int} (h : a ≠ b) (k : ¬ ltI a b) : ltI b a := by
  unfold ltI at *
  by_cases h1 : a.2 = b.2
  · by_cases h2 : a.1 = b.1
    · exact absurd (Prod.ext h2 h1) h
    · omega
  · omega
abbrev Items := List (Int × Int)
theorem set_at {L : Items} {i j : Nat} {x : Int × Int} (hi : i < L.length) : (L.set i x)[j]! = if i = j then x else L[j]! := by
  rw [List.getElem!_eq_getElem?_getD, List.getElem!_eq_getElem?_getD, List.getElem?_set]
  by_cases h : i = j
  · subst h; simp [hi]
  · simp [h]
theorem at_get {L : Items} {i : Nat} (hi : i < L.length) : L[i]? = some L[i]! := by
  rw [List.getElem?_eq_getElem hi, getElem!_pos L i hi]
theorem at_some {L : Items} {i : Nat} {x : Int × Int} (h : L[i]? = some x) : i < L.length ∧ L[i]! = x := by
  obtain ⟨h1, h2⟩ := List.getElem?_eq_some_iff.1 h
  exact ⟨h1, by rw [getElem!_pos L i h1]; exact h2⟩
theorem at_mem {L : Items} {i : Nat} (hi : i < L.length) : L[i]! ∈ L := List.mem_of_getElem? (at_get hi)
theorem mem_at {L : Items} {x : Int × Int} (h : x ∈ L) : ∃ i, i < L.length ∧ L[i]! = x := by
  obtain ⟨i, hi, e⟩ := List.getElem_of_mem h
  exact ⟨i, hi, by rw [getElem!_pos L i hi]; exact e⟩
theorem ext_at {L M : Items} (h : L.length = M.length) (k : ∀ i, i < L.length → L[i]! = M[i]!) : L = M := by
  apply List.ext_getElem? 
  intro i
  by_cases hi : i < L.length
  · rw [at_get hi, at_get (h ▸ hi), k i hi]
  · rw [List.getElem?_eq_none (by omega), List.getElem?_eq_none (by omega)]
/-- no number stands twice -/
def Apart (L : Items) : Prop := ∀ i j, i < L.length → j < L.length → L[i]!.1 = L[j]!.1 → i = j
/-- the parent's place -/
def par (i : Nat) : Nat := (i - 1) / 2
/-- in order but for one place -/
structure Hole (L : Items) (a : Nat) : Prop where
  rest : ∀ i, 0 < i → i < L.length → i ≠ a → par i ≠ a → ltI L[par i]! L[i]!
  kids : ∀ i, 0 < a → 0 < i → i < L.length → par i = a → ltI L[par a]! L[i]!
/-- in order -/
def Heaped (L : Items) : Prop := ∀ i, 0 < i → i < L.length → ltI L[par i]! L[i]!
/-- two places change -/
def swapL (L : Items) (i j : Nat) : Items := (L.set i L[j]!).set j L[i]!
theorem swap_len (L : Items) (i j : Nat) : (swapL L i j).length = L.length := by simp [swapL]
theorem swap_at {L : Items} {i j k : Nat} (hi : i < L.length) (hj : j < L.length) : (swapL L i j)[k]! = if j = k then L[i]! else if i = k then L[j]! else L[k]! := by
  unfold swapL
  rw [set_at (by simpa using hj), set_at hi]
theorem swap_perm {L : Items} {i j : Nat} (hi : i < L.length) (hj : j < L.length) : (swapL L i j).Perm L := by
  unfold swapL
  rw [getElem!_pos L i hi, getElem!_pos L j hj]
  have := List.set_set_perm (as := L) hi hj
  simpa using this
theorem hole_up {L : Items} {a : Nat} (ha : a < L.length) (h0 : 0 < a) (h : Hole L a) : Hole (swapL L a (par a)) (par a) := by
  have hp : par a < a := by unfold par; omega
  have hpl : par a < L.length := by omega
  refine ⟨fun i i0 il i1 i2 => ?_, fun i p0 i0 il hi => ?_⟩
  · rw [swap_len] at il
    rw [swap_at ha hpl, swap_at ha hpl, if_neg (Ne.symm i2), if_neg (Ne.symm i1)]
    by_cases e : a = i
    · subst e; exact absurd rfl i2
    · rw [if_neg e]
      by_cases e2 : a = par i
      · rw [if_pos e2]
        exact h.kids i h0 i0 il e2.symm
      · rw [if_neg e2]
        exact h.rest i i0 il (Ne.symm e) (Ne.symm e2)
  · rw [swap_len] at il
    have hpp : par (par a) < par a := by unfold par at *; omega
    have hii : par i < i := by unfold par; omega
    have g := h.rest (par a) p0 hpl (by omega) (by omega)
    rw [swap_at ha hpl, swap_at ha hpl, if_neg (by omega), if_neg (by omega), if_neg (by omega)]
    by_cases e : a = i
    · rw [if_pos e]; exact g
    · rw [if_neg e]
      have k := h.rest i i0 il (Ne.symm e) (by omega)
      rw [hi] at k
      exact ltI_trans g k
theorem hole_down {L : Items} {a c : Nat} (hc : c < L.length) (c0 : 0 < c) (hpc : par c = a) (h : Hole L a) (hs : ∀ i, 0 < i → i < L.length → par i = a → i ≠ c → ltI L[c]! L[i]!) : Hole (swapL L a c) c := by
  have hac : a < c := by rw [← hpc]; unfold par; omega
  have ha : a < L.length := by omega
  refine ⟨fun i i0 il i1 i2 => ?_, fun i _ i0 il hi => ?_⟩
  · rw [swap_len] at il
    rw [swap_at ha hc, swap_at ha hc, if_neg (Ne.symm i2), if_neg (Ne.symm i1)]
    by_cases e : a = i
    · subst e
      have hpa : par a < a := by unfold par; omega
      rw [if_neg (by omega), if_pos rfl]
      exact h.kids c i0 c0 hc hpc
    · rw [if_neg e]
      by_cases e2 : a = par i
      · rw [if_pos e2]
        exact hs i i0 il e2.symm i1
      · rw [if_neg e2]
        exact h.rest i i0 il (Ne.symm e) (Ne.symm e2)
  · rw [swap_len] at il
    have hii : par i < i := by unfold par; omega
    rw [swap_at ha hc, swap_at ha hc, hpc, if_neg (by omega), if_pos rfl, if_neg (by omega), if_neg (by omega)]
    have k := h.rest i i0 il (by omega) (by omega)
    rw [hi] at k
    exact k
theorem hole_done {L : Items} {a : Nat} (h : Hole L a) (hp : 0 < a → a < L.length → ltI L[par a]! L[a]!) (hk : ∀ i, 0 < i → i < L.length → par i = a → ltI L[a]! L[i]!) : Heaped L := by
  intro i i0 il
  by_cases e : i = a
  · subst e; exact hp i0 il
  · by_cases e2 : par i = a
    · rw [e2]; exact hk i i0 il e2
    · exact h.rest i i0 il e e2
/-- any item may stand where one stood -/
theorem hole_set {L : Items} {a : Nat} (x : Int × Int) (ha : a < L.length) (h : Heaped L) : Hole (L.set a x) a := by
  refine ⟨fun i i0 il i1 i2 => ?_, fun i a0 i0 il hi => ?_⟩
  · rw [set_at ha, set_at ha, if_neg (Ne.symm i2), if_neg (Ne.symm i1)]
    exact h i i0 (by simpa using il)
  · have hii : par i < i := by unfold par; omega
    have hpa : par a < a := by unfold par; omega
    rw [set_at ha, set_at ha, if_neg (by omega), if_neg (by omega)]
    have g := h a a0 ha
    have k := h i i0 (by simpa using il)
    rw [hi] at k
    exact ltI_trans g k
theorem app_at {L M : Items} {i : Nat} (h : i < L.length) : (L ++ M)[i]! = L[i]! := by
  rw [List.getElem!_eq_getElem?_getD, List.getElem!_eq_getElem?_getD, List.getElem?_append_left h]
theorem app_last {L : Items} {x : Int × Int} : (L ++ [x])[L.length]! = x := by
  rw [getElem!_pos (L ++ [x]) L.length (by simp)]; simp
theorem hole_app {L : Items} (x : Int × Int) (h : Heaped L) : Hole (L ++ [x]) L.length := by
  refine ⟨fun i i0 il i1 i2 => ?_, fun i a0 i0 il hi => ?_⟩
  · simp only [List.length_append, List.length_singleton] at il
    have hii : par i < i := by unfold par; omega
    rw [app_at (by omega), app_at (by omega)]
    exact h i i0 (by omega)
  · have hii : par i < i := by unfold par; omega
    simp only [List.length_append, List.length_singleton] at il
    omega
theorem heaped_take {L : Items} {n : Nat} (h : Heaped L) : Heaped (L.take n) := by
  intro i i0 il
  have hii : par i < i := by unfold par; omega
  simp only [List.length_take] at il
  have e : ∀ j, j < n → (L.take n)[j]! = L[j]! := fun j hj => by
    rw [List.getElem!_eq_getElem?_getD, List.getElem!_eq_getElem?_getD, List.getElem?_take_of_lt hj]
  rw [e _ (by omega), e _ (by omega)]
  exact h i i0 (by omega)
/-- the first one is before all others -/
theorem heaped_first {L : Items} (h : Heaped L) : ∀ i, 0 < i → i < L.length → ltI L[0]! L[i]! := by
  intro i
  induction i using Nat.strongRecOn with
  | ind i ih =>
    intro i0 il
    have hii : par i < i := by unfold par; omega
    have g := h i i0 il
    rcases Nat.eq_zero_or_pos (par i) with e | e
    · rw [e] at g; exact g
    · exact ltI_trans (ih _ hii e (by omega)) g
theorem apart_nodup {L : Items} (h : Apart L) : (L.map Prod.fst).Nodup := by
  rw [List.nodup_iff_pairwise_ne, List.pairwise_iff_getElem]
  intro i j hi hj hij e
  simp only [List.length_map] at hi hj
  simp only [List.getElem_map] at e
  have := h i j hi hj (by rw [getElem!_pos L i hi, getElem!_pos L j hj]; exact e)
  omega
theorem nodup_apart {L : Items} (h : (L.map Prod.fst).Nodup) : Apart L := by
  rw [List.nodup_iff_pairwise_ne, List.pairwise_iff_getElem] at h
  intro i j hi hj e
  rw [getElem!_pos L i hi, getElem!_pos L j hj] at e
  rcases Nat.lt_trichotomy i j with q | q | q
  · exact absurd (by rw [List.getElem_map, List.getElem_map]; exact e) (h i j (by simpa using hi) (by simpa using hj) q)
  · exact q
  · exact absurd (by rw [List.getElem_map, List.getElem_map]; exact e.symm) (h j i (by simpa using hj) (by simpa using hi) q)
theorem apart_perm {L M : Items} (p : L.Perm M) (h : Apart L) : Apart M := nodup_apart ((p.map Prod.fst).nodup_iff.1 (apart_nodup h))
theorem swap_apart {L : Items} {i j : Nat} (hi : i < L.length) (hj : j < L.length) (h : Apart L) : Apart (swapL L i j) := apart_perm (swap_perm hi hj).symm h
/-- as many numbers as there are places, at most -/
theorem holes_le : ∀ (n : Nat) (l : List Int), l.Nodup → (∀ x ∈ l, 0 ≤ x ∧ x < n) → l.length ≤ n := by
  intro n
  induction n with
  | zero => intro l _ h; cases l with
    | nil => simp
    | cons a r => have := h a (by simp); omega
  | succ n ih =>
    intro l hn h
    have e := ih (l.erase (n : Int)) (hn.erase _) (fun x hx => by
      have h1 := h x (List.mem_of_mem_erase hx)
      have h2 := (hn.mem_erase_iff.1 hx).1
      omega)
    have := List.le_length_erase (l := l) (a := (n : Int))
    omega
end Go.Proofs.Ytfgmglghlapbcaa
