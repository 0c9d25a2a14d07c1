/-
  Layer 25 (pick), plain: what PickFloors asks of a step.
-/
import Derived.Test.YtfgmglghlapbcaaGreatPickAl
namespace Go.Proofs.YtfgmglghlapbcaaGreat
open Go.RowKit Go.Maps Go.IntWalk Go.Lib Go.Sort Go.Shelf
set_option linter.unusedVariables false
set_option linter.unusedSimpArgs false
/-- the floors are not below the first members -/
def FlI (s : TSt) : Prop := ∀ k, LeQ (s.M k) (s.fl k)
theorem FlI.do {s : TSt} (h : FlI s) (x : Sml) : FlI (doS s x) := (fls_do s x).le h
/-- a new task begins at the floor of its group -/
theorem spawn_got {s : TSt} (h : TOk s) {x : Sml} (hk : x.k % 10 = 0 ∨ x.k % 10 = 1) (h1 : findC s x.id ≠ 0) (h2 : findC (doS s x) x.id = 0) : pgetX (doS s x) x.id = (s.fl (x.at s.n).toNat, 0, 1 + x.q % 65536) := by
  have e : doS s x = spawnS s x.id (x.at s.n) (1 + x.q % 65536) := by unfold doS; rw [if_pos hk]
  rw [e] at h2 ⊢
  unfold spawnS at h2 ⊢
  have hq : 1 ≤ 1 + x.q % 65536 ∧ 1 + x.q % 65536 ≤ 65536 := by omega
  have hf := h.core.fok (x.at s.n).toNat
  have hx : newX (s.fl (x.at s.n).toNat) (1 + x.q % 65536) = (s.fl (x.at s.n).toNat, 0, 1 + x.q % 65536) := by unfold newX; rw [if_pos hq]
  obtain ⟨g1, _⟩ := en_got h (fun _ => by
    rw [hx]
    unfold FlOk at hf
    show Ch.Ok _ _ _
    unfold Ch.Ok
    simp only [or_true, and_true]
    omega) h1 h2
  rw [g1, hx]
/-- one that wakes is not below it by more than the credit -/
theorem wake_got {s : TSt} (h : TOk s) {x : Sml} (hf : x.Fit) (hk : x.k % 10 = 2) (h1 : findC s x.id ≠ 0) (h2 : findC (doS s x) x.id = 0) : s.fl (x.at s.n).toNat - (pgetX (doS s x) x.id).1 ≤ s.cr ∧ x.v ≤ (pgetX (doS s x) x.id).1 := by
  have e : doS s x = wakeS s x.id (x.at s.n) x.ent := by unfold doS; rw [if_neg (by omega), if_pos hk]
  rw [e] at h2 ⊢
  unfold wakeS at h2 ⊢
  have hfl := h.core.fok (x.at s.n).toNat
  obtain ⟨g1, _⟩ := en_got h (fun _ => wokenX_ok hf.ok hfl h.core.cr) h1 h2
  rw [g1]
  have hc := h.core.cr
  have hv := hf.v
  unfold wokenX
  rw [if_pos hf.ok]
  have e1 : x.ent.1 = x.v := rfl
  unfold FlOk at hfl
  split
  · rename_i q
    rw [e1] at q
    simp only
    omega
  · rename_i q
    rw [e1] at q ⊢
    omega
/-- the first task of a group, and the floor -/
theorem floor_head {s : TSt} (h : TOk s) (hl : FlI s) {g : Nat} {y : Int} {r : List Int} (ht : tasksM (s.M g) = y :: r) : findC s y = 0 ∧ findG s y = (g : Int) ∧ (1 ≤ y ∧ y ≤ 65535) ∧ (s.fl g < (pgetX s y).1 → mkB s 0 g = true) := by
  have hm : y ∈ tasksM (s.M g) := by rw [ht]; exact List.mem_cons_self
  obtain ⟨h1, h2, z, h3, h4, h5⟩ := task_get h hm
  refine ⟨h1, h2, find_one h1, fun hlt => ?_⟩
  cases e : mkB s 0 g with
  | true => rfl
  | false =>
    exfalso
    have hne : (s.M g).isEmpty = false := inM_ne (tasksM_mem.1 hm).1
    obtain ⟨r', hr'⟩ := tasksM_head hne (alone_tasks h e hne)
    rw [ht] at hr'
    have hy : y = firstI (s.M g) := by injection hr'
    obtain ⟨z', z1, z2⟩ := first_ent (h.core.mok g).nod hne
    rw [← hy, h3] at z1
    cases z1
    have := hl g hne
    rw [h4] at hlt
    omega
end Go.Proofs.YtfgmglghlapbcaaGreat
