/-
  Layer 25 (pick), plain: floors never fall, and are not below the first member of their queue; what a new task has.
-/
import Derived.Test.YtfgmglghlapbcaaGreatPickFs
namespace Go.Proofs.YtfgmglghlapbcaaGreat
open Go.RowKit Go.Maps Go.IntWalk Go.Lib Go.Sort Go.Shelf
set_option linter.unusedVariables false
set_option linter.unusedSimpArgs false
/-- the floor of a queue with members is not below what its first one has -/
def LeQ (M : Mems) (f : Int) : Prop := M.isEmpty = false → firstV M ≤ f
theorem rise_le (M : Mems) (f : Int) : LeQ M (riseF (itemsM M) f) := fun h => by
  cases M with
  | nil => simp at h
  | cons a r => exact Int.le_max_right f a.2.1
theorem le_enter {M : Mems} {f : Int} (h : LeQ M f) (id : Int) (x : Ent) : LeQ (enterM qN M id x) (enterF qN M id x f) := by
  unfold enterM enterF
  split
  · exact rise_le _ _
  · exact h
theorem le_leave {M : Mems} {f : Int} (h : LeQ M f) (id : Int) : LeQ (leaveM qN M id) (leaveF qN M id f) := by
  unfold leaveM leaveF
  split
  · exact rise_le _ _
  · exact h
theorem le_ch {b : Bool} {M : Mems} {f : Int} (h : LeQ M f) (id : Int) (X : Ent → Ent) : LeQ (chS b qN M id X) (chF b qN M id X f) := by
  unfold chS chF
  split
  · exact rise_le _ _
  · exact h
theorem chF_ge (b : Bool) (M : Mems) (id : Int) (X : Ent → Ent) (f : Int) : f ≤ chF b qN M id X f := by
  unfold chF
  split
  · exact rise_ge _ _
  · exact Int.le_refl _
/-- one step of a tree: floors do not fall, and stay above the first members -/
structure FlS (s s' : TSt) : Prop where
  ge : ∀ k, s.fl k ≤ s'.fl k
  le : (∀ k, LeQ (s.M k) (s.fl k)) → ∀ k, LeQ (s'.M k) (s'.fl k)
theorem FlS.refl (s : TSt) : FlS s s := ⟨fun k => Int.le_refl _, fun h => h⟩
theorem FlS.trans {a b c : TSt} (h : FlS a b) (k : FlS b c) : FlS a c := ⟨fun j => Int.le_trans (h.ge j) (k.ge j), fun q => k.le (h.le q)⟩
theorem FlS.one {s s' : TSt} {g : Nat} {M : Mems} {f : Int} (hM : s'.M = upd s.M g M) (hf : s'.fl = upd s.fl g f) (h1 : s.fl g ≤ f) (h2 : LeQ (s.M g) (s.fl g) → LeQ M f) : FlS s s' := by
  refine ⟨fun k => ?_, fun h k => ?_⟩
  · rw [hf]
    by_cases q : k = g
    · rw [q, upd_same]; exact h1
    · rw [upd_other _ _ q]; exact Int.le_refl _
  · rw [hM, hf]
    by_cases q : k = g
    · rw [q, upd_same, upd_same]; exact h2 (h g)
    · rw [upd_other _ _ q, upd_other _ _ q]; exact h k
theorem fls_same {s s' : TSt} (hM : s'.M = s.M) (hf : s'.fl = s.fl) : FlS s s' := ⟨fun k => by rw [hf]; exact Int.le_refl _, fun h k => by rw [hM, hf]; exact h k⟩
theorem fls_en (s : TSt) (g : Nat) (id : Int) (x : Ent) : FlS s (enQ s g id x) := FlS.one rfl rfl (enterF_ge _ _ _ _) fun h => le_enter h id x
theorem fls_lv (s : TSt) (g : Nat) (id : Int) : FlS s (lvQ s g id) := FlS.one rfl rfl (leaveF_ge _ _ _) fun h => le_leave h id
theorem fls_lvA (s : TSt) (o p : Nat) : FlS s (lvA s o p) := FlS.one (g := p) rfl rfl (leaveF_ge _ _ _) fun h => le_leave h _
theorem fls_chg (tk : Int) (s : TSt) (g : Nat) (id : Int) : FlS s (chgQ tk s g id) := FlS.one rfl rfl (chF_ge _ _ _ _ _) fun h => le_ch h id _
theorem fls_wg (k : Int) (s : TSt) (g : Nat) (id : Int) : FlS s (wgQ k s g id) := FlS.one rfl rfl (chF_ge _ _ _ _ _) fun h => le_ch h id _
theorem fls_enUp (P : Nat → Nat) : ∀ (l : List Nat) (q : TSt × Bool), FlS q.1 (l.foldl (enStep P) q).1
  | [], q => FlS.refl _
  | o :: r, q => by
    refine FlS.trans ?_ (fls_enUp P r (enStep P q o))
    unfold enStep
    split
    · exact fls_en _ _ _ _
    · exact FlS.refl _
theorem fls_lvUp (P : Nat → Nat) : ∀ (l : List Nat) (q : TSt × Bool), FlS q.1 (l.foldl (lvStep P) q).1
  | [], q => FlS.refl _
  | o :: r, q => by
    refine FlS.trans ?_ (fls_lvUp P r (lvStep P q o))
    unfold lvStep
    split
    · exact FlS.refl _
    · split
      · exact fls_lvA _ _ _
      · exact FlS.refl _
theorem fls_chgUp (tk : Int) (P : Nat → Nat) : ∀ (l : List Nat) (s : TSt), FlS s (chgUp tk P s l)
  | [], s => FlS.refl _
  | o :: r, s => (fls_chg tk s (P o) _).trans (fls_chgUp tk P r _)
theorem fls_enS (s : TSt) (id g ac : Int) (x : Ent) : FlS s (enS s id g ac x) := by
  unfold enS
  split
  · exact (fls_en s g.toNat id x).trans (FlS.trans (fls_same (s' := enT (enQ s g.toNat id x) g.toNat id) rfl rfl) (fls_enUp (parG s.Gs) (pathT (parG s.Gs) g.toNat) (enT (enQ s g.toNat id x) g.toNat id, (s.M g.toNat).isEmpty)))
  · exact FlS.refl _
theorem fls_do (s : TSt) (x : Sml) : FlS s (doS s x) := by
  unfold doS
  split
  · exact fls_enS _ _ _ _ _
  split
  · exact fls_enS _ _ _ _ _
  split
  · exact fls_enS _ _ _ _ _
  split
  · unfold plvS
    split
    · exact (fls_lv s _ _).trans (FlS.trans (fls_same (s' := lvT (lvQ s (findG s x.id).toNat x.id) x.id) rfl rfl) (fls_lvUp (parG s.Gs) _ (lvT (lvQ s (findG s x.id).toNat x.id) x.id, false)))
    · exact FlS.refl _
  split
  · unfold pweiS
    split
    · split
      · exact fls_wg _ _ _ _
      · exact FlS.refl _
    · exact FlS.refl _
  split
  · unfold pregS
    split
    · exact FlS.trans (b := { s with Gs := setW s.Gs (x.at s.n).toNat (1 + x.q % 65536), A := upd s.A (x.at s.n).toNat (wghX (1 + x.q % 65536) (s.A (x.at s.n).toNat)) }) (fls_same rfl rfl) (fls_wg _ _ _ _)
    · exact FlS.refl _
  · unfold pchgS
    split
    · exact (fls_chg _ s _ _).trans (fls_chgUp _ _ _ _)
    · exact FlS.refl _
theorem fls_new (Gs : Grps) (cr : Int) : ∀ k, LeQ ((newT Gs cr).M k) ((newT Gs cr).fl k) := fun k h => by simp [newT] at h
/-- what a task has that has come in -/
theorem en_got {s : TSt} (h : TOk s) {id g ac : Int} {x : Ent} (hx : ac = 0 → EntOk x) (h1 : findC s id ≠ 0) (h2 : findC (enS s id g ac x) id = 0) : pgetX (enS s id g ac x) id = x ∧ 0 ≤ g ∧ g < (s.n : Int) ∧ ac = 0 := by
  by_cases hC : enC s id g ac = 0
  · have hC' := hC
    unfold enC at hC'
    by_cases hv : (nameV id && hasV (s.n : Int) g) = true
    · rw [if_pos hv] at hC'
      simp only [Bool.and_eq_true] at hv
      have i1 : 1 ≤ id ∧ id ≤ 65535 := of_decide_eq_true hv.1
      have i2 : 0 ≤ g ∧ g < (s.n : Int) := of_decide_eq_true hv.2
      by_cases ha : ac = 0
      · rw [if_pos ha] at hC'
        have hT : s.T id = none := by
          cases e : s.T id with
          | none => rfl
          | some g' => rw [e] at hC'; simp at hC'
        obtain ⟨k, rfl⟩ := Int.eq_ofNat_of_zero_le i2.1
        have hc := h.core
        have hnone : entM (s.M k) id = none := by
          cases e : entM (s.M k) id with
          | none => rfl
          | some y =>
            rcases hc.ids k id (by unfold inM; rw [e]; rfl) with ⟨q, _⟩ | ⟨c, _, _, q, _⟩
            · rw [hT] at q; cases q
            · omega
        obtain ⟨e1, e2⟩ := enter_in (id := id) (hc.mok k) (by omega) (hx ha) hnone
        obtain ⟨a, haa⟩ : ∃ a, a = enT (enQ s k id x) k id := ⟨_, rfl⟩
        have hS : enS s id (k : Int) ac x = (enUp (parG s.Gs) a (s.M k).isEmpty (pathT (parG s.Gs) k)).1 := by
          unfold enS
          rw [if_pos hC, Int.toNat_natCast, haa]
        obtain ⟨f1, f2, f3, f4, f5⟩ := enUp_fr (parG s.Gs) (pathT (parG s.Gs) k) (a, (s.M k).isEmpty)
        have hTn : (enS s id (k : Int) ac x).T = setF s.T id (some (k : Int)) := by rw [hS]; refine Eq.trans f3 ?_; rw [haa]; rfl
        have hMk : (enS s id (k : Int) ac x).M k = enterM qN (s.M k) id x := by
          rw [hS]
          refine (en_above _ _ fun o ho => path_above (Nat.le_refl _) ho).trans ?_
          rw [haa]
          exact upd_same _ _ _
        have hG : findG (enS s id (k : Int) ac x) id = (k : Int) := by
          unfold findG
          rw [hv.1, hTn, setF_same]
          rfl
        refine ⟨?_, i2.1, i2.2, ha⟩
        unfold pgetX
        rw [if_pos h2, hG, Int.toNat_natCast, hMk]
        exact getE_yes (by rw [e2, if_pos rfl])
      · rw [if_neg ha] at hC'; exact absurd hC' (by decide)
    · rw [if_neg hv] at hC'; exact absurd hC' (by decide)
  · rw [(enS_no (x := x) hC).2] at h2
    exact absurd h2 h1
end Go.Proofs.YtfgmglghlapbcaaGreat
