/-
  Layer 24 (queue): plain facts on members in lists; no program.
-/
import Derived.Test.YtfgmglghlapbcaaHeapN
import Derived.Test.YtfgmglghlapbcaaChargeM
namespace Go.Proofs.Ytfgmglghlapbcaa
set_option linter.unusedVariables false
abbrev Ent := Int × Int × Int
abbrev Mems := List (Int × Ent)
/-- a member's key -/
def kM (m : Int × Ent) : Int × Int := (m.1, m.2.1)
def putM (M : Mems) (m : Int × Ent) : Mems := match M with
  | [] => [m]
  | y :: r => if ltI (kM y) (kM m) then y :: putM r m else m :: y :: r
def outM (M : Mems) (id : Int) : Mems := M.filter fun y => y.1 != id
def entM (M : Mems) (id : Int) : Option Ent := (M.find? fun y => y.1 == id).map (·.2)
def loadM (M : Mems) : Int := (M.map fun m => m.2.2.2).sum
def itemsM (M : Mems) : Items := M.map kM
theorem items_len (M : Mems) : (itemsM M).length = M.length := by simp [itemsM]
theorem items_ids (M : Mems) : (itemsM M).map Prod.fst = M.map Prod.fst := by
  unfold itemsM; rw [List.map_map]; rfl
theorem items_put (M : Mems) (m : Int × Ent) : itemsM (putM M m) = putL (itemsM M) (kM m) := by
  induction M with
  | nil => rfl
  | cons y r ih =>
    unfold putM itemsM putL
    by_cases h : ltI (kM y) (kM m)
    · rw [if_pos h]
      simp only [List.map_cons]
      rw [if_pos h]
      exact congrArg (kM y :: ·) ih
    · rw [if_neg h]
      simp only [List.map_cons]
      rw [if_neg h]
theorem items_out (M : Mems) (id : Int) : itemsM (outM M id) = outL (itemsM M) id := by
  unfold itemsM outM outL
  rw [List.filter_map]
  rfl
theorem key_ent (M : Mems) (id : Int) : keyL (itemsM M) id = (entM M id).map (·.1) := by
  unfold keyL itemsM entM
  rw [List.find?_map]
  cases h : M.find? ((fun y => y.1 == id) ∘ kM) with
  | none =>
    have : M.find? (fun y => y.1 == id) = none := h
    rw [this]; rfl
  | some x =>
    have : M.find? (fun y => y.1 == id) = some x := h
    rw [this]; rfl
theorem ent_none {M : Mems} {id : Int} : entM M id = none ↔ ∀ y ∈ M, y.1 ≠ id := by
  unfold entM
  simp
theorem ent_some {M : Mems} (hn : (M.map Prod.fst).Nodup) {id : Int} {x : Ent} : entM M id = some x ↔ (id, x) ∈ M := by
  unfold entM
  induction M with
  | nil => simp
  | cons y r ih =>
    simp only [List.map_cons, List.nodup_cons] at hn
    rw [List.find?_cons]
    by_cases h : y.1 = id
    · have e : (y.1 == id) = true := by simpa using h
      rw [e]
      simp only [Option.map_some, Option.some.injEq, List.mem_cons]
      constructor
      · intro q; left; rw [← q, ← h]
      · rintro (q | q)
        · rw [← q]
        · exact absurd (List.mem_map.2 ⟨_, q, rfl⟩) (by rw [← h]; exact hn.1)
    · have e : (y.1 == id) = false := by simpa using h
      rw [e]
      simp only [List.mem_cons]
      rw [ih hn.2]
      constructor
      · exact Or.inr
      · rintro (q | q)
        · exact absurd (by rw [← q]) h
        · exact q
theorem put_mem {M : Mems} {m x : Int × Ent} : x ∈ putM M m ↔ x = m ∨ x ∈ M := by
  induction M with
  | nil => simp [putM]
  | cons y r ih =>
    unfold putM
    split
    · simp only [List.mem_cons, ih]
      constructor
      · rintro (q | q | q)
        · exact Or.inr (Or.inl q)
        · exact Or.inl q
        · exact Or.inr (Or.inr q)
      · rintro (q | q | q)
        · exact Or.inr (Or.inl q)
        · exact Or.inl q
        · exact Or.inr (Or.inr q)
    · simp
theorem put_perm (M : Mems) (m : Int × Ent) : (putM M m).Perm (m :: M) := by
  induction M with
  | nil => exact List.Perm.refl _
  | cons y r ih =>
    unfold putM
    split
    · exact ((ih.cons y).trans (List.Perm.swap m y r))
    · exact List.Perm.refl _
theorem put_len (M : Mems) (m : Int × Ent) : (putM M m).length = M.length + 1 := by rw [(put_perm M m).length_eq]; rfl
theorem put_nodup {M : Mems} {m : Int × Ent} (hn : (M.map Prod.fst).Nodup) (h : entM M m.1 = none) : ((putM M m).map Prod.fst).Nodup := by
  refine ((put_perm M m).map Prod.fst).nodup_iff.2 ?_
  simp only [List.map_cons, List.nodup_cons]
  refine ⟨fun q => ?_, hn⟩
  obtain ⟨y, hy, e⟩ := List.mem_map.1 q
  exact (ent_none.1 h y hy) e
theorem out_nodup {M : Mems} (hn : (M.map Prod.fst).Nodup) (id : Int) : ((outM M id).map Prod.fst).Nodup := hn.sublist (List.Sublist.map _ List.filter_sublist)
theorem ent_put {M : Mems} {m : Int × Ent} (hn : (M.map Prod.fst).Nodup) (h : entM M m.1 = none) (id : Int) : entM (putM M m) id = if id = m.1 then some m.2 else entM M id := by
  by_cases e : id = m.1
  · rw [if_pos e, e]
    exact (ent_some (put_nodup hn h)).2 (put_mem.2 (Or.inl rfl))
  · rw [if_neg e]
    cases q : entM M id with
    | none =>
      refine ent_none.2 fun y hy => ?_
      rcases put_mem.1 hy with rfl | hy
      · exact fun z => e z.symm
      · exact ent_none.1 q y hy
    | some x => exact (ent_some (put_nodup hn h)).2 (put_mem.2 (Or.inr ((ent_some hn).1 q)))
theorem out_mem {M : Mems} {id : Int} {x : Int × Ent} : x ∈ outM M id ↔ x ∈ M ∧ x.1 ≠ id := by unfold outM; simp
theorem ent_out {M : Mems} (hn : (M.map Prod.fst).Nodup) (id j : Int) : entM (outM M id) j = if j = id then none else entM M j := by
  by_cases e : j = id
  · rw [if_pos e]
    exact ent_none.2 fun y hy => by rw [e]; exact (out_mem.1 hy).2
  · rw [if_neg e]
    cases q : entM M j with
    | none => exact ent_none.2 fun y hy => ent_none.1 q y (out_mem.1 hy).1
    | some x => exact (ent_some (out_nodup hn id)).2 (out_mem.2 ⟨(ent_some hn).1 q, e⟩)
theorem sum_perm {a b : List Int} (h : a.Perm b) : a.sum = b.sum := by
  induction h with
  | nil => rfl
  | cons x _ ih => simp only [List.sum_cons, ih]
  | swap x y l => simp only [List.sum_cons]; omega
  | trans _ _ h1 h2 => exact h1.trans h2
theorem load_put (M : Mems) (m : Int × Ent) : loadM (putM M m) = loadM M + m.2.2.2 := by
  unfold loadM
  rw [sum_perm ((put_perm M m).map fun m : Int × Ent => m.2.2.2)]
  simp only [List.map_cons, List.sum_cons]
  omega
theorem outM_none {M : Mems} {id : Int} (h : entM M id = none) : outM M id = M := by
  unfold outM
  rw [List.filter_eq_self]
  intro y hy
  simpa using ent_none.1 h y hy
theorem out_perm {M : Mems} (hn : (M.map Prod.fst).Nodup) {id : Int} {x : Ent} (h : entM M id = some x) : M.Perm ((id, x) :: outM M id) := by
  induction M with
  | nil => cases h
  | cons y r ih =>
    simp only [List.map_cons, List.nodup_cons] at hn
    unfold entM at h
    rw [List.find?_cons] at h
    by_cases e : y.1 = id
    · have e' : (y.1 == id) = true := by simpa using e
      rw [e'] at h
      simp only [Option.map_some, Option.some.injEq] at h
      have hr : outM r id = r := outM_none (ent_none.2 fun z hz q => hn.1 (by rw [e, ← q]; exact List.mem_map.2 ⟨z, hz, rfl⟩))
      have hy : y = (id, x) := by rw [← e, ← h]
      have ho : outM (y :: r) id = outM r id := by unfold outM; rw [List.filter_cons_of_neg]; simp [e]
      rw [ho, hr, hy]
    · have e' : (y.1 == id) = false := by simpa using e
      rw [e'] at h
      have ho : outM (y :: r) id = y :: outM r id := by unfold outM; rw [List.filter_cons_of_pos]; simpa using e
      rw [ho]
      exact ((ih hn.2 h).cons y).trans (List.Perm.swap (id, x) y (outM r id))
theorem load_out {M : Mems} (hn : (M.map Prod.fst).Nodup) {id : Int} {x : Ent} (h : entM M id = some x) : loadM (outM M id) = loadM M - x.2.2 := by
  have := sum_perm ((out_perm hn h).map fun m : Int × Ent => m.2.2.2)
  unfold loadM
  rw [this]
  simp only [List.map_cons, List.sum_cons]
  omega
theorem out_len {M : Mems} (hn : (M.map Prod.fst).Nodup) {id : Int} {x : Ent} (h : entM M id = some x) : (outM M id).length + 1 = M.length := by rw [(out_perm hn h).length_eq]; rfl
/-- what members there can be -/
structure MemsOk (M : Mems) : Prop where
  nod : (M.map Prod.fst).Nodup
  ord : InOrder (itemsM M)
  ok : ∀ m ∈ M, Ch.Ok m.2.1 m.2.2.1 m.2.2.2
theorem load_le {M : Mems} (h : ∀ m ∈ M, Ch.Ok m.2.1 m.2.2.1 m.2.2.2) : 0 ≤ loadM M ∧ loadM M ≤ 65536 * M.length := by
  induction M with
  | nil => exact ⟨Int.le_refl _, Int.le_refl _⟩
  | cons y r ih =>
    have i := ih fun m hm => h m (by simp [hm])
    have hy := h y (by simp)
    unfold Ch.Ok at hy
    unfold loadM at i ⊢
    simp only [List.map_cons, List.sum_cons, List.length_cons]
    omega
theorem items_nil {M : Mems} : itemsM M = [] ↔ M = [] := by unfold itemsM; simp
end Go.Proofs.Ytfgmglghlapbcaa
