/-
  Layer 25 (pick), plain: who leads in a tree, and why.
-/
import Derived.Test.YtfgmglghlapbcaaGreatPickBr
namespace Go.Proofs.YtfgmglghlapbcaaGreat
open Go.RowKit Go.Maps Go.IntWalk Go.Lib Go.Sort Go.Shelf
set_option linter.unusedVariables false
set_option linter.unusedSimpArgs false
def firstV (M : Mems) : Int := match M with | [] => 0 | x :: _ => x.2.1
theorem tree_ord {w : World} {t : Nat} {F : List Nat} {s : TSt} (h : TreeIn w t F s) : ∀ k, k < s.n → InOrder (itemsM (s.M k)) := by
  obtain ⟨bg, bq, ba, bm, qp, Fq, hr, rfl⟩ := h
  exact fun k hk => (hr.q k hk).ids.1.ord
theorem tree_keys {w : World} {t : Nat} {F : List Nat} {s : TSt} (h : TreeIn w t F s) : ∃ L : List Int, L.Nodup ∧ L.length = s.c ∧ ∀ id, id ∈ L ↔ s.T id ≠ none := by
  obtain ⟨bg, bq, ba, bm, qp, Fq, hr, rfl⟩ := h
  exact hr.keys
/-- the first member is before all others -/
theorem head_le {M : Mems} (h : InOrder (itemsM M)) {id : Int} {y : Ent} (hm : (id, y) ∈ M) : firstV M < y.1 ∨ firstV M = y.1 ∧ firstI M ≤ id := by
  cases M with
  | nil => cases hm
  | cons a r =>
    rcases List.mem_cons.1 hm with e | hr
    · right
      rw [← e]
      exact ⟨rfl, Int.le_refl _⟩
    · have h2 : InOrder (kM a :: itemsM r) := h
      have := (List.pairwise_cons.1 h2).1 (kM (id, y)) (List.mem_map.2 ⟨_, hr, rfl⟩)
      unfold ltI kM at this
      unfold firstV firstI
      simp only at this ⊢
      omega
theorem first_ent {M : Mems} (hn : (M.map Prod.fst).Nodup) (hne : M.isEmpty = false) : ∃ y, entM M (firstI M) = some y ∧ y.1 = firstV M := by
  cases M with
  | nil => simp at hne
  | cons a r => exact ⟨a.2, (ent_some hn).2 (by unfold firstI; exact List.mem_cons_self), rfl⟩
structure LeadOk (s : TSt) (g : Nat) (L : List Nat) (id : Int) : Prop where
  pos : 0 < L.length
  head : L[0]! = g
  grp : ∀ i, i < L.length → L[i]! < s.n ∧ (s.M L[i]!).isEmpty = false
  next : ∀ i, i + 1 < L.length → firstI (s.M L[i]!) = 65536 + ((L[i + 1]! : Nat) : Int) ∧ 0 < L[i + 1]! ∧ parG s.Gs L[i + 1]! = L[i]!
  last : ∀ i, i + 1 = L.length → firstI (s.M L[i]!) = id ∧ 1 ≤ id ∧ id ≤ 65535 ∧ s.T id = some ((L[i]! : Nat) : Int)
theorem first_in {M : Mems} (hne : M.isEmpty = false) : inM M (firstI M) = true := by
  cases M with
  | nil => simp at hne
  | cons a r => unfold inM entM firstI; rw [List.find?_cons_of_pos (by simp)]; rfl
theorem lead_from {s : TSt} (h : TOk s) : ∀ (f g : Nat) (ch : List Int), g < s.n → s.n - g ≤ f → (s.M g).isEmpty = false → ∃ L id, leadF s f g ch = (id, ch ++ L.map fun k : Nat => (k : Int)) ∧ LeadOk s g L id := by
  intro f
  induction f with
  | zero => intro g ch hg hf; omega
  | succ f ih =>
    intro g ch hg hf hne
    have hin := first_in hne
    have hne' : ¬ (s.M g).isEmpty = true := by rw [hne]; simp
    rcases h.core.ids g _ hin with ⟨q, q1, q2⟩ | ⟨c, c0, cn, ce, cp⟩
    · refine ⟨[g], firstI (s.M g), ?_, ⟨by simp, rfl, fun i hi => ?_, fun i hi => ?_, fun i hi => ?_⟩⟩
      · unfold leadF
        rw [if_neg hne', if_pos (by omega)]
        rfl
      · obtain rfl : i = 0 := by simp at hi; omega
        exact ⟨hg, hne⟩
      · simp at hi
      · obtain rfl : i = 0 := by simp at hi; omega
        exact ⟨rfl, q1, q2, q⟩
    · have pl := parG_lt h.core.right c0 cn
      have hs := h.seat c c0 cn
      unfold Seated at hs
      rw [cp, ← ce, hin] at hs
      have hcne : (s.M c).isEmpty = false := by simpa using hs.symm
      obtain ⟨L, id, e, hL⟩ := ih c (ch ++ [(g : Int)]) cn (by omega) hcne
      refine ⟨g :: L, id, ?_, ⟨by simp, rfl, fun i hi => ?_, fun i hi => ?_, fun i hi => ?_⟩⟩
      · unfold leadF
        rw [if_neg hne', if_neg (by omega), show (firstI (s.M g) - 65536).toNat = c by omega, e]
        simp
      · cases i with
        | zero => exact ⟨hg, hne⟩
        | succ i => exact hL.grp i (by simp at hi; omega)
      · cases i with
        | zero =>
          show firstI (s.M g) = 65536 + ((L[0]! : Nat) : Int) ∧ 0 < L[0]! ∧ parG s.Gs L[0]! = g
          rw [hL.head]
          exact ⟨ce, c0, cp⟩
        | succ i => exact hL.next i (by simp at hi; omega)
      · cases i with
        | zero => have := hL.pos; simp at hi; rw [hi] at this; simp at this
        | succ i => exact hL.last i (by simp at hi; omega)
theorem lead_ok {s : TSt} (h : TOk s) (h0 : (s.M 0).isEmpty = false) : ∃ L id, leadT s = (id, L.map fun k : Nat => (k : Int)) ∧ LeadOk s 0 L id := by
  obtain ⟨L, id, e, hL⟩ := lead_from h s.n 0 [] h.core.right.pos (by omega) h0
  exact ⟨L, id, e.trans (by simp), hL⟩
theorem lead_len {s : TSt} (h : TOk s) {L : List Nat} {id : Int} (hL : LeadOk s 0 L id) : ∀ i, i < L.length → i ≤ L[i]! := by
  intro i
  induction i with
  | zero => intro _; exact Nat.zero_le _
  | succ i ih =>
    intro hi
    have h1 := ih (by omega)
    obtain ⟨_, h2, h3⟩ := hL.next i hi
    have h4 := parG_lt h.core.right h2 (hL.grp (i + 1) hi).1
    omega
theorem lead_empty {s : TSt} (h0 : (s.M 0).isEmpty = true) (hn : 0 < s.n) : leadT s = (0, []) := by
  unfold leadT
  obtain ⟨k, e⟩ : ∃ k, s.n = k + 1 := ⟨s.n - 1, by omega⟩
  rw [e]
  unfold leadF
  rw [if_pos h0]
/-- a group that has members leads up to the root -/
theorem root_full {s : TSt} (h : TOk s) : ∀ g, g < s.n → (s.M g).isEmpty = false → (s.M 0).isEmpty = false := by
  intro g
  induction g using Nat.strongRecOn with
  | ind g ih =>
    intro hg hne
    by_cases g0 : 0 < g
    · have pl := parG_lt h.core.right g0 hg
      have hs := h.seat g g0 hg
      unfold Seated at hs
      rw [hne] at hs
      exact ih (parG s.Gs g) pl (by omega) (inM_ne hs)
    · have : g = 0 := by omega
      rw [this] at hne
      exact hne
theorem some_iff {s : TSt} (h : TOk s) (hk : ∃ L : List Int, L.Nodup ∧ L.length = s.c ∧ ∀ id, id ∈ L ↔ s.T id ≠ none) : (s.M 0).isEmpty = decide (s.c = 0) := by
  obtain ⟨K, k1, k2, k3⟩ := hk
  cases e : (s.M 0).isEmpty with
  | true =>
    symm
    refine decide_eq_true ?_
    cases K with
    | nil => exact k2.symm
    | cons a r =>
      exfalso
      have ha := (k3 a).1 List.mem_cons_self
      cases eT : s.T a with
      | none => exact ha eT
      | some g =>
        obtain ⟨k, _, t2, t3⟩ := h.core.task a g eT
        have := root_full h k t2 (inM_ne t3)
        rw [e] at this
        cases this
  | false =>
    symm
    refine decide_eq_false fun hc => ?_
    obtain ⟨L, id, _, hL⟩ := lead_ok h e
    obtain ⟨i, hi⟩ : ∃ i, i + 1 = L.length := ⟨L.length - 1, by have := hL.pos; omega⟩
    obtain ⟨_, _, _, q⟩ := hL.last i hi
    have := (k3 id).2 (by rw [q]; simp)
    rw [List.length_eq_zero_iff.1 (k2.trans hc)] at this
    cases this
/-- what is said of the tasks of a group on the way -/
theorem tasksM_mem {M : Mems} {id : Int} : id ∈ tasksM M ↔ inM M id = true ∧ id < 65536 := by
  unfold tasksM
  rw [List.mem_filter, List.mem_map]
  constructor
  · rintro ⟨⟨m, hm, e⟩, hl⟩
    refine ⟨?_, by simpa using hl⟩
    unfold inM entM
    rw [Option.isSome_map, List.find?_isSome]
    exact ⟨m, hm, by simp [e]⟩
  · rintro ⟨hi, hl⟩
    obtain ⟨x, hx⟩ := inM_some hi
    unfold entM at hx
    cases e : M.find? (fun y => y.1 == id) with
    | none => rw [e] at hx; cases hx
    | some y => exact ⟨⟨y, List.mem_of_find?_eq_some e, by have := List.find?_some e; simpa using this⟩, by simpa using hl⟩
theorem tasksM_head {M : Mems} (hne : M.isEmpty = false) (h : firstI M < 65536) : ∃ r, tasksM M = firstI M :: r := by
  cases M with
  | nil => simp at hne
  | cons a r => exact ⟨tasksM r, by unfold tasksM firstI at *; rw [List.map_cons, List.filter_cons_of_pos (by simpa using h)]⟩
/-- a task of a group, and what it has -/
theorem task_get {s : TSt} (h : TOk s) {g : Nat} {id : Int} (hi : id ∈ tasksM (s.M g)) : findC s id = 0 ∧ findG s id = (g : Int) ∧ ∃ y, entM (s.M g) id = some y ∧ pgetX s id = y ∧ (id, y) ∈ s.M g := by
  obtain ⟨h1, h2⟩ := tasksM_mem.1 hi
  rcases h.core.ids g id h1 with ⟨q, q1, q2⟩ | ⟨c, c0, cn, ce, cp⟩
  · have hnv : nameV id = true := decide_eq_true ⟨q1, q2⟩
    have e1 : findC s id = 0 := by unfold findC; rw [hnv, q]; rfl
    have e2 : findG s id = (g : Int) := by unfold findG; rw [hnv, q]; rfl
    obtain ⟨y, hy⟩ := inM_some h1
    refine ⟨e1, e2, y, hy, ?_, (ent_some (h.core.mok g).nod).1 hy⟩
    unfold pgetX
    rw [if_pos e1, e2, Int.toNat_natCast]
    exact getE_yes hy
  · omega
/-- a group below that has members, and what its spot has -/
theorem spot_get {s : TSt} (h : TOk s) {c : Nat} (c0 : 0 < c) (cn : c < s.n) (hne : nonE s c = true) : ∃ y, entM (s.M (parG s.Gs c)) (65536 + (c : Int)) = some y ∧ (pSpotV s (c : Int)).1 = y.1 ∧ (65536 + (c : Int), y) ∈ s.M (parG s.Gs c) := by
  have hs := h.seat c c0 cn
  unfold Seated at hs
  unfold nonE at hne
  rw [hne] at hs
  obtain ⟨y, hy⟩ := inM_some hs
  refine ⟨y, hy, ?_, (ent_some (h.core.mok _).nod).1 hy⟩
  unfold pSpotV spotX
  rw [if_pos (show hasV (s.n : Int) (c : Int) = true from decide_eq_true (by omega)), Int.toNat_natCast, if_pos ⟨by rw [hy]; rfl, c0⟩, getE_yes hy]
/-- the spot that leads on has the least V of its queue -/
theorem spot_first {s : TSt} (h : TOk s) {g c k : Nat} {pv pr pf : Int} (h1 : firstI (s.M g) = 65536 + (c : Int)) (h2 : 0 < c) (h3 : c < s.n) (h4 : parG s.Gs c = g) (h5 : (s.M k).isEmpty = false) (hk : c = k) (hp : (pv, pr, pf) = pSpotV s (c : Int)) : pv = firstV (s.M g) := by
  subst hk
  obtain ⟨y, y1, y2, _⟩ := spot_get h h2 h3 (by unfold nonE; rw [h5]; rfl)
  rw [← hp] at y2
  rw [h4, ← h1] at y1
  obtain ⟨z, z1, z2⟩ := first_ent (h.core.mok g).nod (inM_ne (id := firstI (s.M g)) (by unfold inM; rw [y1]; rfl))
  rw [y1] at z1
  cases z1
  exact y2.trans z2
theorem calls_world {P : Program} {f : Nat} {args : Array Value} {W : World} {R : Ending → World → Prop} (h : ∀ W', W' = W → Calls P f args W' R) : Calls P f args W R := h W rfl
theorem map_cast {L : List Nat} {j : Nat} (hl : j < L.length) : (L.map fun k : Nat => (k : Int))[j]! = ((L[j]! : Nat) : Int) := by
  rw [getElem!_pos _ _ (by simpa using hl), List.getElem_map, getElem!_pos L j hl]
structure IntC (w : World) (F : List Nat) (b n : Nat) (f : Nat → Int) : Prop where
  off : b ∉ F
  lt : b < w.heap.size
  cell : ∀ j, j < n → w.cell? ⟨b, j, none⟩ = some (.int .i64 (f j))
theorem IntC.step {w w' : World} {F F' : List Nat} {b n : Nat} {f : Nat → Int} (h : IntC w F b n f) (hk : Kept F w w') (hn : ∀ b ∈ F', b ∈ F ∨ w.heap.size ≤ b) : IntC w' F' b n f :=
  ⟨fun m => by rcases hn b m with q | q; exact h.off q; have := h.lt; omega, Nat.lt_of_lt_of_le h.lt hk.size, fun j hj => hk.cellAt (h.cell j hj) h.off⟩
theorem IntC.later {w w' : World} {F : List Nat} {b n : Nat} {f : Nat → Int} (h : IntC w F b n f) (hb : Below w.heap.size w w') : IntC w' F b n f := h.step (Kept.of hb) fun b hb => Or.inl hb
theorem own_int {w w' : World} {F : List Nat} {g n c : Nat} {L : List Int} (h : w'.ownsRow w.heap.size 3 1 (.slice (some ⟨g, 0, none⟩) n c) n (intsV L)) (hF : ∀ b ∈ F, b < w.heap.size) : IntC w' F g n (fun j => L[j]!) :=
  ⟨fun m => by have := hF g m; have := (h.lt g rfl).1; omega, (h.lt g rfl).2, fun j hj => by
    have h1 := h.cellAt j (by omega)
    have hl : L.length = n := by have := h.1; unfold intsV at this; simp at this; exact this
    rw [h1]
    unfold intsV
    rw [List.getElem?_map, List.getElem?_eq_getElem (by omega), getElem!_pos L j (by omega)]
    rfl⟩
/-- the groups' parents in memory -/
def ParC (w : World) (F : List Nat) (b n : Nat) (P : Nat → Nat) : Prop := b ∉ F ∧ b < w.heap.size ∧ ∀ k, k < n → w.cell? ⟨b, k * 2, none⟩ = some (.int .i64 (P k : Nat))
theorem ParC.step {w w' : World} {F F' : List Nat} {b n : Nat} {P : Nat → Nat} (h : ParC w F b n P) (hk : Kept F w w') (hn : ∀ b ∈ F', b ∈ F ∨ w.heap.size ≤ b) : ParC w' F' b n P :=
  ⟨fun m => by rcases hn b m with q | q; exact h.1 q; have := h.2.1; omega, Nat.lt_of_lt_of_le h.2.1 hk.size, fun j hj => hk.cellAt (h.2.2 j hj) h.1⟩
theorem ParC.later {w w' : World} {F : List Nat} {b n : Nat} {P : Nat → Nat} (h : ParC w F b n P) (hb : Below w.heap.size w w') : ParC w' F b n P := h.step (Kept.of hb) fun b hb => Or.inl hb
theorem ParC.of {w : World} {F : List Nat} {b c : Nat} {Gs : Grps} {P : Nat → Nat} (hr : RightG Gs) (hP : P = parG Gs) (h : HeldR encG F w (.slice (some ⟨b, 0, none⟩) Gs.length c) Gs) : ParC w F b Gs.length P := by
  have hpos := hr.pos
  have hV := h.recs
  have cell : ∀ k, k < Gs.length → w.cell? ⟨b, k * 2, none⟩ = some (.int .i64 (P k : Nat)) := fun k hkl => by
    obtain ⟨_, b', off, e, hc⟩ := hV.at encG_ok (i := k) (x := Gs[k]!) (by rw [List.getElem?_eq_getElem hkl, getElem!_pos Gs k hkl])
    cases e
    have := hc 0 _ rfl
    rw [hP, (hr.par hkl).1]
    simpa using this
  refine ⟨?_, lt_of_cell (cell 0 hpos), cell⟩
  obtain ⟨a, c', e, _, _, _, hh⟩ := h
  rcases hh with rfl | ⟨b', off, e2, q, _⟩
  · simp at hpos
  · cases e
    cases e2
    exact q.1
theorem find_one {s : TSt} {o : Int} (h : findC s o = 0) : 1 ≤ o ∧ o ≤ 65535 := by
  unfold findC at h
  cases hn : nameV o with
  | false => rw [hn] at h; simp at h
  | true => exact of_decide_eq_true hn
theorem tasksT_most {w : World} {t : Nat} {F : List Nat} {s : TSt} (h : TreeIn w t F s) (g : Int) : (tasksT s g).length ≤ 131072 := by
  obtain ⟨bg, bq, ba, bm, qp, Fq, hr, rfl⟩ := h
  unfold tasksT
  by_cases q : hasV (s.n : Int) g = true
  · rw [if_pos q]
    have hv : 0 ≤ g ∧ g < (s.n : Int) := of_decide_eq_true q
    have := (hr.q g.toNat (by omega)).ids
    have := tasksM_len (s.M g.toNat)
    omega
  · rw [if_neg q]; simp
/-- a row of tasks, which may be empty -/
def TaskC (w : World) (F : List Nat) (a : Option Addr) (n : Nat) (L : List Int) : Prop := ∀ j, j < n → ∃ b, a = some ⟨b, 0, none⟩ ∧ IntC w F b n (fun j => L[j]!)
theorem TaskC.step {w w' : World} {F F' : List Nat} {a : Option Addr} {n : Nat} {L : List Int} (h : TaskC w F a n L) (hk : Kept F w w') (hn : ∀ b ∈ F', b ∈ F ∨ w.heap.size ≤ b) : TaskC w' F' a n L := fun j hj => by
  obtain ⟨b, e, hc⟩ := h j hj
  exact ⟨b, e, hc.step hk hn⟩
theorem own_tasks {w w' : World} {F : List Nat} {a : Option Addr} {n c : Nat} {L : List Int} (h : w'.ownsRow w.heap.size 3 1 (.slice a n c) n (intsV L)) (hF : ∀ b ∈ F, b < w.heap.size) : TaskC w' F a n L := fun j hj => by
  obtain ⟨g, c', e⟩ := own_pos h (by omega)
  simp only [Value.slice.injEq] at e
  obtain ⟨rfl, -, rfl⟩ := e
  exact ⟨g, rfl, own_int h hF⟩
theorem list_at {L : List Int} {k : Nat} (h : k < L.length) : L[k]! ∈ L := by rw [getElem!_pos L k h]; exact List.getElem_mem h
end Go.Proofs.YtfgmglghlapbcaaGreat
