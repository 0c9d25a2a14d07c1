/-
  Layer 18 (heap): the items in their order, and what the calls make of them; no program.
-/
import Derived.Test.YtfgmglghlapbcaaHeapM
namespace Go.Proofs.Ytfgmglghlapbcaa
set_option linter.unusedVariables false
/-- in order -/
def InOrder (S : Items) : Prop := S.Pairwise ltI
def putL (S : Items) (x : Int × Int) : Items := match S with
  | [] => [x]
  | y :: r => if ltI y x then y :: putL r x else x :: y :: r
def outL (S : Items) (id : Int) : Items := S.filter fun y => y.1 != id
def keyL (S : Items) (id : Int) : Option Int := (S.find? fun y => y.1 == id).map (·.2)
theorem putL_perm (S : Items) (x : Int × Int) : (putL S x).Perm (x :: S) := by
  induction S with
  | nil => exact List.Perm.refl _
  | cons y r ih =>
    unfold putL
    split
    · exact (ih.cons y).trans (List.Perm.swap x y r)
    · exact List.Perm.refl _
theorem putL_mem {S : Items} {x y : Int × Int} : y ∈ putL S x ↔ y = x ∨ y ∈ S := by rw [(putL_perm S x).mem_iff]; simp
theorem putL_order {S : Items} {x : Int × Int} (h : InOrder S) (hx : x ∉ S) : InOrder (putL S x) := by
  induction S with
  | nil => exact List.pairwise_singleton _ _
  | cons y r ih =>
    unfold putL
    obtain ⟨h1, h2⟩ := List.pairwise_cons.1 h
    split
    · rename_i hl
      refine List.pairwise_cons.2 ⟨fun z hz => ?_, ih h2 (fun q => hx (by simp [q]))⟩
      rcases putL_mem.1 hz with rfl | q
      · exact hl
      · exact h1 z q
    · rename_i hl
      have hxy : ltI x y := ltI_total' (fun e => hx (by simp [e])) hl
      refine List.pairwise_cons.2 ⟨fun z hz => ?_, h⟩
      rcases List.mem_cons.1 hz with rfl | q
      · exact hxy
      · exact ltI_trans hxy (h1 z q)
theorem order_unique : ∀ {A B : Items}, InOrder A → InOrder B → A.Perm B → A = B := by
  intro A
  induction A with
  | nil => intro B _ _ p; exact (List.nil_perm.1 p).symm
  | cons a r ih =>
    intro B hA hB p
    cases B with
    | nil => exact absurd p (by simp)
    | cons b s =>
      obtain ⟨a1, a2⟩ := List.pairwise_cons.1 hA
      obtain ⟨b1, b2⟩ := List.pairwise_cons.1 hB
      have e : a = b := by
        rcases List.mem_cons.1 ((p.mem_iff (a := a)).1 (by simp)) with e | e
        · exact e
        · rcases List.mem_cons.1 ((p.mem_iff (a := b)).2 (by simp)) with q | q
          · exact q.symm
          · exact absurd (ltI_trans (a1 b q) (b1 a e)) (ltI_irrefl a)
      subst e
      rw [ih a2 b2 (List.Perm.cons_inv p)]
theorem outL_order {S : Items} (h : InOrder S) (id : Int) : InOrder (outL S id) := h.filter _
theorem order_apart {S : Items} (h : InOrder S) : S.Nodup := h.imp fun h e => by subst e; exact ltI_irrefl _ h
theorem ids_nodup_perm {A B : Items} (p : A.Perm B) (h : (A.map Prod.fst).Nodup) : (B.map Prod.fst).Nodup := (p.map Prod.fst).nodup_iff.1 h
theorem keyL_none {S : Items} {id : Int} : keyL S id = none ↔ ∀ y ∈ S, y.1 ≠ id := by
  unfold keyL
  simp
theorem keyL_some {S : Items} {id k : Int} (hn : (S.map Prod.fst).Nodup) : keyL S id = some k ↔ (id, k) ∈ S := by
  induction S with
  | nil => simp [keyL]
  | cons y r ih =>
    simp only [List.map_cons, List.nodup_cons] at hn
    by_cases e : y.1 = id
    · subst e
      have h1 : keyL (y :: r) y.1 = some y.2 := by simp [keyL]
      rw [h1]
      constructor
      · intro q; cases q; simp
      · intro q
        rcases List.mem_cons.1 q with q | q
        · rw [← q]
        · exact absurd (List.mem_map.2 ⟨_, q, rfl⟩) hn.1
    · have h1 : keyL (y :: r) id = keyL r id := by simp [keyL, e]
      rw [h1, ih hn.2]
      constructor
      · intro q; simp [q]
      · intro q
        rcases List.mem_cons.1 q with q | q
        · exact absurd (by rw [← q]) e
        · exact q
theorem keyL_isSome {S : Items} {id : Int} : (keyL S id).isSome = true ↔ id ∈ S.map Prod.fst := by
  unfold keyL
  simp
theorem keyL_perm {A B : Items} (p : A.Perm B) (h : (A.map Prod.fst).Nodup) (id : Int) : keyL A id = keyL B id := by
  have h' := ids_nodup_perm p h
  cases e : keyL A id with
  | none =>
    rw [keyL_none] at e
    exact (keyL_none.2 fun y hy => e y (p.mem_iff.2 hy)).symm
  | some k => exact ((keyL_some h').2 (p.mem_iff.1 ((keyL_some h).1 e))).symm
theorem outL_perm {A B : Items} (p : A.Perm B) (id : Int) : (outL A id).Perm (outL B id) := p.filter _
theorem outL_none {S : Items} {id : Int} (h : ∀ y ∈ S, y.1 ≠ id) : outL S id = S := by
  unfold outL
  rw [List.filter_eq_self]
  intro y hy
  simpa using h y hy
theorem outL_cons_same {S : Items} {x : Int × Int} : outL (x :: S) x.1 = outL S x.1 := by unfold outL; simp
/-- one item taken out of a list -/
theorem outL_erase {V : Items} {k : Nat} (hk : k < V.length) (hn : (V.map Prod.fst).Nodup) : V.Perm (V[k]! :: outL V V[k]!.1) := by
  have e : V = V.take k ++ V[k]! :: V.drop (k + 1) := by
    rw [getElem!_pos V k hk]
    rw [← List.drop_eq_getElem_cons hk, List.take_append_drop]
  obtain ⟨x, hx⟩ : ∃ x, x = V[k]! := ⟨_, rfl⟩
  rw [← hx] at e ⊢
  have hA : ∀ y ∈ V.take k ++ V.drop (k + 1), y.1 ≠ x.1 := by
    rw [e] at hn
    simp only [List.map_append, List.map_cons, List.nodup_append, List.nodup_cons] at hn
    intro y hy q
    rcases List.mem_append.1 hy with hy | hy
    · exact hn.2.2 _ (List.mem_map.2 ⟨y, hy, rfl⟩) x.1 (by simp) q
    · exact hn.2.1.1 (List.mem_map.2 ⟨y, hy, q⟩)
  have ho : outL V x.1 = V.take k ++ V.drop (k + 1) := by
    rw [e]
    unfold outL
    rw [List.filter_append, List.filter_cons]
    simp only [bne_self_eq_false, Bool.false_eq_true, if_false]
    have := outL_none hA
    unfold outL at this
    rw [List.filter_append] at this
    rw [← e]
    exact this
  rw [ho]
  have p := List.perm_middle (a := x) (l₁ := V.take k) (l₂ := V.drop (k + 1))
  rw [← e] at p
  exact p
/-- the item at k gives way to the last one, which goes -/
theorem last_moved {V : Items} {k : Nat} (hk : k < V.length) (hl : k ≠ V.length - 1) : ((V.take (V.length - 1)).set k V[V.length - 1]!).Perm (V.eraseIdx k) := by
  have hn : V.length - 1 < V.length := by omega
  have e : V = V.take (V.length - 1) ++ [V[V.length - 1]!] := by
    rw [getElem!_pos V _ hn]
    have := List.take_append_drop (V.length - 1) V
    rw [List.drop_eq_getElem_cons hn, show V.length - 1 + 1 = V.length by omega, List.drop_length] at this
    exact this.symm
  obtain ⟨x, hx⟩ : ∃ x, x = V[V.length - 1]! := ⟨_, rfl⟩
  obtain ⟨T, hT⟩ : ∃ T, T = V.take (V.length - 1) := ⟨_, rfl⟩
  rw [← hx, ← hT] at e ⊢
  have hkT : k < T.length := by rw [hT, List.length_take]; omega
  rw [e, List.eraseIdx_append_of_lt_length hkT]
  have p1 := List.set_eq_take_append_cons_drop (l := T) (i := k) (a := x)
  rw [if_pos hkT] at p1
  rw [p1, List.eraseIdx_eq_take_drop_succ]
  have := List.perm_middle (a := x) (l₁ := T.take k) (l₂ := T.drop (k + 1))
  exact this.trans (List.perm_append_singleton x _).symm
theorem erase_outL {V : Items} {k : Nat} (hk : k < V.length) (hn : (V.map Prod.fst).Nodup) : V.eraseIdx k = outL V V[k]!.1 := by
  have e : V = V.take k ++ V[k]! :: V.drop (k + 1) := by
    rw [getElem!_pos V k hk]
    rw [← List.drop_eq_getElem_cons hk, List.take_append_drop]
  obtain ⟨x, hx⟩ : ∃ x, x = V[k]! := ⟨_, rfl⟩
  rw [← hx] at e ⊢
  have hA : ∀ y ∈ V.take k ++ V.drop (k + 1), y.1 ≠ x.1 := by
    rw [e] at hn
    simp only [List.map_append, List.map_cons, List.nodup_append, List.nodup_cons] at hn
    intro y hy q
    rcases List.mem_append.1 hy with hy | hy
    · exact hn.2.2 _ (List.mem_map.2 ⟨y, hy, rfl⟩) x.1 (by simp) q
    · exact hn.2.1.1 (List.mem_map.2 ⟨y, hy, q⟩)
  have ho : outL V x.1 = V.take k ++ V.drop (k + 1) := by
    rw [e]
    unfold outL
    rw [List.filter_append, List.filter_cons]
    simp only [bne_self_eq_false, Bool.false_eq_true, if_false]
    have := outL_none hA
    unfold outL at this
    rw [List.filter_append] at this
    rw [← e]
    exact this
  rw [ho, List.eraseIdx_eq_take_drop_succ]
theorem erase_perm {L : Items} {k : Nat} (hk : k < L.length) : L.Perm (L[k]! :: L.eraseIdx k) := by
  have e : L = L.take k ++ L[k]! :: L.drop (k + 1) := by
    rw [getElem!_pos L k hk]
    rw [← List.drop_eq_getElem_cons hk, List.take_append_drop]
  rw [List.eraseIdx_eq_take_drop_succ]
  have p := List.perm_middle (a := L[k]!) (l₁ := L.take k) (l₂ := L.drop (k + 1))
  rw [← e] at p
  exact p
theorem len_putL (S : Items) (x : Int × Int) : (putL S x).length = S.length + 1 := by rw [(putL_perm S x).length_eq]; simp
end Go.Proofs.Ytfgmglghlapbcaa
