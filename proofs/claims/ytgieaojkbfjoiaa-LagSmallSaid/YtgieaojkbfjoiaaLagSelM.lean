/-
  Layer 39 (lag): the order by selection, again and again the first one that is left.
-/
import Derived.Test.YtgieaojkbfjoiaaLagRef3
namespace Go.Proofs.Ytgieaojkbfjoiaa
open Go.RowKit Go.IntWalk
set_option linter.unusedVariables false
theorem nodup_le {a b : List Int} (ha : a.Nodup) (h : ∀ x ∈ a, x ∈ b) : a.length ≤ b.length := by
  induction a generalizing b with
  | nil => simp
  | cons x r ih =>
    rw [List.nodup_cons] at ha
    have hx := h x (by simp)
    have := ih (b := b.erase x) ha.2 fun y hy => (List.mem_erase_of_ne (fun e : y = x => ha.1 (by rw [← e]; exact hy))).2 (h y (by simp [hy]))
    rw [List.length_erase_of_mem hx] at this
    have := List.length_pos_of_mem hx
    simp only [List.length_cons]
    omega
theorem nodup_perm {a b : List Int} (ha : a.Nodup) (h : ∀ x ∈ a, x ∈ b) (hl : a.length = b.length) : a.Perm b := by
  induction a generalizing b with
  | nil => cases b with
    | nil => exact List.Perm.refl _
    | cons y r => simp at hl
  | cons x r ih =>
    rw [List.nodup_cons] at ha
    have hx := h x (by simp)
    have hpos := List.length_pos_of_mem hx
    have := ih (b := b.erase x) ha.2 (fun y hy => (List.mem_erase_of_ne (fun e : y = x => ha.1 (by rw [← e]; exact hy))).2 (h y (by simp [hy]))) (by rw [List.length_erase_of_mem hx]; simp only [List.length_cons] at hl; omega)
    exact (List.Perm.cons x this).trans (List.perm_cons_erase hx).symm
def bef (l : List (Int × Int × Int)) (x y : Int × Int × Int) : Prop := lagV l y < lagV l x ∨ lagV l x = lagV l y ∧ x.1 < y.1
/-- those that have been taken -/
structure SelI (l : List (Int × Int × Int)) (os : List Int) : Prop where
  sorted : os.Pairwise fun i j => lagR l j < lagR l i ∨ lagR l i = lagR l j ∧ i < j
  mem : ∀ i ∈ os, i ∈ idsL l
  rest : ∀ x ∈ l, ∀ y ∈ l, x.1 ∈ os → y.1 ∉ os → bef l x y
/-- the best of the first k that are left -/
def BestP (l : List (Int × Int × Int)) (os : List Int) (k : Nat) (b : Int) : Prop :=
  (b = -1 ∧ ∀ x ∈ l.take k, x.1 ∈ os) ∨ (∃ (j : Nat) (x : Int × Int × Int), b = j ∧ j < k ∧ l[j]? = some x ∧ x.1 ∉ os ∧ ∀ y ∈ l.take k, y.1 ∉ os → y = x ∨ bef l x y)
theorem best_start (l : List (Int × Int × Int)) (os : List Int) : BestP l os 0 (-1) := Or.inl ⟨rfl, fun x hx => by simp at hx⟩
theorem take_mem {l : List (Int × Int × Int)} {k : Nat} {x : Int × Int × Int} (hx : l[k]? = some x) {y : Int × Int × Int} (hy : y ∈ l.take (k + 1)) : y ∈ l.take k ∨ y = x := by
  rw [List.take_add_one, hx] at hy
  rcases List.mem_append.1 hy with hy | hy
  · exact Or.inl hy
  · exact Or.inr (by simpa using hy)
theorem best_taken {l : List (Int × Int × Int)} {os : List Int} {k : Nat} {b : Int} {x : Int × Int × Int} (h : BestP l os k b) (hx : l[k]? = some x) (ht : x.1 ∈ os) : BestP l os (k + 1) b := by
  rcases h with ⟨rfl, h⟩ | ⟨j, y, rfl, hj, hy, hn, h⟩
  · exact Or.inl ⟨rfl, fun y hy => (take_mem hx hy).elim (h y) fun e => e ▸ ht⟩
  · exact Or.inr ⟨j, y, rfl, by omega, hy, hn, fun z hz hzn => (take_mem hx hz).elim (fun q => h z q hzn) fun e => absurd (e ▸ ht) hzn⟩
theorem best_first {l : List (Int × Int × Int)} {os : List Int} {k : Nat} {b : Int} {x : Int × Int × Int} (h : BestP l os k b) (hb : b < 0) (hx : l[k]? = some x) (ht : x.1 ∉ os) : BestP l os (k + 1) k := by
  rcases h with ⟨rfl, h⟩ | ⟨j, y, rfl, _⟩
  · exact Or.inr ⟨k, x, rfl, by omega, hx, ht, fun z hz hzn => (take_mem hx hz).elim (fun q => absurd (h z q) hzn) Or.inl⟩
  · omega
theorem best_keep {l : List (Int × Int × Int)} {os : List Int} {k j : Nat} {x y : Int × Int × Int} (hg : Good l) (h : BestP l os k j) (hy : l[j]? = some y) (hx : l[k]? = some x) (hl : ¬ lagV l y < lagV l x) : BestP l os (k + 1) j := by
  rcases h with ⟨e, h⟩ | ⟨j', y', e, hj, hy', hn, h⟩
  · omega
  · obtain rfl : j = j' := by omega
    obtain rfl : y = y' := by rw [hy] at hy'; exact Option.some.inj hy'
    refine Or.inr ⟨j, y, rfl, by omega, hy, hn, fun z hz hzn => (take_mem hx hz).elim (fun q => h z q hzn) fun e => Or.inr ?_⟩
    subst e
    obtain ⟨lj, ej⟩ := List.getElem?_eq_some_iff.1 hy
    obtain ⟨lk, ek⟩ := List.getElem?_eq_some_iff.1 hx
    have := List.pairwise_iff_getElem.1 hg.ids j k lj lk hj
    rw [ej, ek] at this
    unfold bef
    omega
theorem best_new {l : List (Int × Int × Int)} {os : List Int} {k j : Nat} {x y : Int × Int × Int} (hg : Good l) (h : BestP l os k j) (hy : l[j]? = some y) (hx : l[k]? = some x) (ht : x.1 ∉ os) (hl : lagV l y < lagV l x) : BestP l os (k + 1) k := by
  rcases h with ⟨e, h⟩ | ⟨j', y', e, hj, hy', hn, h⟩
  · omega
  · obtain rfl : j = j' := by omega
    obtain rfl : y = y' := by rw [hy] at hy'; exact Option.some.inj hy'
    refine Or.inr ⟨k, x, rfl, by omega, hx, ht, fun z hz hzn => (take_mem hx hz).elim (fun q => Or.inr ?_) Or.inl⟩
    rcases h z q hzn with e | e
    · subst e; exact Or.inl hl
    · rcases e with e | e
      · exact Or.inl (by omega)
      · exact Or.inl (by omega)
theorem ids_nodup {l : List (Int × Int × Int)} (hg : Good l) : (idsL l).Nodup := by
  unfold List.Nodup idsL
  rw [List.pairwise_map]
  exact hg.ids.imp fun h => by omega
theorem sel_nodup {l : List (Int × Int × Int)} {os : List Int} (h : SelI l os) : os.Nodup := h.sorted.imp fun {a b} h e => by subst e; omega
theorem good_uniq {l : List (Int × Int × Int)} (hg : Good l) {x y : Int × Int × Int} (hx : x ∈ l) (hy : y ∈ l) (e : x.1 = y.1) : x = y := by
  obtain ⟨i, hi⟩ := List.getElem?_of_mem hx
  obtain ⟨j, hj⟩ := List.getElem?_of_mem hy
  have a := tsk_at hg hi
  have b := tsk_at hg hj
  rw [e, b] at a
  exact (Option.some.inj a).symm
theorem sel_start (l : List (Int × Int × Int)) : SelI l [] := ⟨List.Pairwise.nil, (fun i hi => by cases hi), (fun x _ y _ h => by cases h)⟩
/-- there is one left -/
theorem sel_best {l : List (Int × Int × Int)} {os : List Int} (hg : Good l) (hs : SelI l os) (hl : os.length < l.length) {b : Int} (h : BestP l os l.length b) : ∃ (j : Nat) (x : Int × Int × Int), b = j ∧ l[j]? = some x ∧ SelI l (os ++ [x.1]) ∧ x.1 ∉ os := by
  rcases h with ⟨_, h⟩ | ⟨j, x, rfl, hj, hx, hn, h⟩
  · exfalso
    have := nodup_le (ids_nodup hg) (b := os) fun i hi => by
      obtain ⟨x, hx, rfl⟩ := ids_mem.2 hi
      exact h x (by rw [List.take_length]; exact hx)
    simp only [idsL, List.length_map] at this
    omega
  · rw [List.take_length] at h
    have hxm := List.mem_of_getElem? hx
    refine ⟨j, x, rfl, hx, ⟨?_, ?_, ?_⟩, hn⟩
    · rw [List.pairwise_append]
      refine ⟨hs.sorted, by simp, fun i hi j' hj' => ?_⟩
      simp only [List.mem_singleton] at hj'
      subst hj'
      obtain ⟨y, hy, rfl⟩ := ids_mem.2 (hs.mem i hi)
      rw [lagR_mem hg hy, lagR_mem hg hxm]
      exact hs.rest y hy x hxm hi hn
    · intro i hi
      rcases List.mem_append.1 hi with hi | hi
      · exact hs.mem i hi
      · simp only [List.mem_singleton] at hi; subst hi; exact ids_mem.1 ⟨x, hxm, rfl⟩
    · intro a ha y hy hao hyo
      have hy1 : y.1 ∉ os := fun q => hyo (by simp [q])
      have hy2 : y.1 ≠ x.1 := fun q => hyo (by simp [q])
      rcases List.mem_append.1 hao with q | q
      · exact hs.rest a ha y hy q hy1
      · simp only [List.mem_singleton] at q
        obtain rfl := good_uniq hg ha hxm q
        rcases h y hy hy1 with e | e
        · exact absurd (by rw [e]) hy2
        · exact e
theorem sel_end {l : List (Int × Int × Int)} {os : List Int} (hg : Good l) (hs : SelI l os) (hl : os.length = l.length) : IdsOrder (lagR l) (idsL l) os :=
  ⟨nodup_perm (sel_nodup hs) hs.mem (by simpa [idsL] using hl), hs.sorted⟩
/-- the marks of those that have been taken -/
def tkV (l : List (Int × Int × Int)) (os : List Int) : List Value := l.map fun x => .bool (decide (x.1 ∈ os))
theorem tkV_len (l : List (Int × Int × Int)) (os : List Int) : (tkV l os).length = l.length := by simp [tkV]
theorem tkV_start (l : List (Int × Int × Int)) : tkV l [] = List.replicate l.length (.bool false) := by
  unfold tkV
  induction l with
  | nil => rfl
  | cons x r ih => simp only [List.map_cons, List.length_cons, List.replicate_succ, ih]; simp
theorem tkV_at {l : List (Int × Int × Int)} {os : List Int} {k : Nat} {x : Int × Int × Int} (hx : l[k]? = some x) : (tkV l os)[k]? = some (.bool (decide (x.1 ∈ os))) := by simp [tkV, hx]
theorem tkV_set {l : List (Int × Int × Int)} (hg : Good l) {os : List Int} {k : Nat} {x : Int × Int × Int} (hx : l[k]? = some x) : (tkV l os).set k (.bool true) = tkV l (os ++ [x.1]) := by
  apply List.ext_getElem?
  intro j
  rw [List.getElem?_set]
  have hk : k < l.length := (List.getElem?_eq_some_iff.1 hx).1
  by_cases hj : k = j
  · subst hj
    rw [if_pos rfl, if_pos (by rw [tkV_len]; exact hk), tkV_at hx]
    simp
  · rw [if_neg hj]
    cases hy : l[j]? with
    | none =>
      have : l.length ≤ j := List.getElem?_eq_none_iff.1 hy
      rw [List.getElem?_eq_none (by rw [tkV_len]; exact this), List.getElem?_eq_none (by rw [tkV_len]; exact this)]
    | some y =>
      rw [tkV_at hy, tkV_at hy]
      have hne : y.1 ≠ x.1 := fun e => by
        have := good_uniq hg (List.mem_of_getElem? hy) (List.mem_of_getElem? hx) e
        subst this
        obtain ⟨lj, ej⟩ := List.getElem?_eq_some_iff.1 hy
        obtain ⟨lk, ek⟩ := List.getElem?_eq_some_iff.1 hx
        have hp := List.pairwise_iff_getElem.1 hg.ids
        rcases Nat.lt_or_gt_of_ne hj with q | q
        · have := hp k j lk lj q; rw [ej, ek] at this; omega
        · have := hp j k lj lk q; rw [ej, ek] at this; omega
      congr 2
      simp [hne]
end Go.Proofs.Ytgieaojkbfjoiaa
