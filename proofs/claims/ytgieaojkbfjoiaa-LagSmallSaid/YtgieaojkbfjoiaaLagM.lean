/-
  Layer 39 (lag): plain laws on lists of tasks (ID, weight, what has run).
-/
import Derived.Test.YtgieaojkbfjoiaaRows
namespace Go.Proofs.Ytgieaojkbfjoiaa
set_option linter.unusedVariables false
/-- the sums of the weights, and of what has run -/
def sumW : List (Int × Int × Int) → Int
  | [] => 0
  | x :: r => x.2.1 + sumW r
def sumR : List (Int × Int × Int) → Int
  | [] => 0
  | x :: r => x.2.2 + sumR r
/-- tasks that a meter has -/
structure Good (l : List (Int × Int × Int)) : Prop where
  each : ∀ x ∈ l, 1 ≤ x.1 ∧ x.1 ≤ 65535 ∧ 1 ≤ x.2.1 ∧ x.2.1 ≤ 65536 ∧ 0 ≤ x.2.2
  ids : l.Pairwise fun x y => x.1 < y.1
  many : l.length ≤ 1024
  pos : 0 < l.length
  ran : sumR l ≤ 68719476736
def Each (l : List (Int × Int × Int)) : Prop := ∀ x ∈ l, 1 ≤ x.2.1 ∧ x.2.1 ≤ 65536 ∧ 0 ≤ x.2.2
theorem Good.ea {l : List (Int × Int × Int)} (h : Good l) : Each l := fun x hx => ⟨(h.each x hx).2.2.1, (h.each x hx).2.2.2.1, (h.each x hx).2.2.2.2⟩
theorem sumW_nn {l : List (Int × Int × Int)} (h : Each l) : (l.length : Int) ≤ sumW l ∧ sumW l ≤ 65536 * (l.length : Int) := by
  induction l with
  | nil => simp [sumW]
  | cons x r ih =>
    have a := h x List.mem_cons_self
    have b := ih fun y hy => h y (List.mem_cons_of_mem _ hy)
    simp only [sumW, List.length_cons]
    omega
theorem sumR_nn {l : List (Int × Int × Int)} (h : Each l) : 0 ≤ sumR l := by
  induction l with
  | nil => simp [sumR]
  | cons x r ih =>
    have a := h x List.mem_cons_self
    have b := ih fun y hy => h y (List.mem_cons_of_mem _ hy)
    simp only [sumR]
    omega
theorem sum_split {l : List (Int × Int × Int)} {k : Nat} {x : Int × Int × Int} (h : l[k]? = some x) : sumW l = x.2.1 + sumW (l.eraseIdx k) ∧ sumR l = x.2.2 + sumR (l.eraseIdx k) := by
  induction l generalizing k with
  | nil => simp at h
  | cons y r ih =>
    cases k with
    | zero => simp at h; subst h; simp [sumW, sumR]
    | succ k =>
      simp only [List.getElem?_cons_succ] at h
      have := ih h
      simp only [List.eraseIdx_cons_succ, sumW, sumR]
      omega
theorem Each.erase {l : List (Int × Int × Int)} (h : Each l) (k : Nat) : Each (l.eraseIdx k) := fun x hx => h x (List.mem_of_mem_eraseIdx hx)
/-- the lag of a task -/
def lagV (l : List (Int × Int × Int)) (x : Int × Int × Int) : Int := sumR l * x.2.1 - x.2.2 * sumW l
theorem mul_bounds {a b A B : Int} (h0 : 0 ≤ a) (h1 : a ≤ A) (h2 : 0 ≤ b) (h3 : b ≤ B) : 0 ≤ a * b ∧ a * b ≤ A * B :=
  ⟨Int.mul_nonneg h0 h2, Int.mul_le_mul h1 h3 h2 (Int.le_trans h0 h1)⟩
structure Bounds (l : List (Int × Int × Int)) (x : Int × Int × Int) : Prop where
  w1 : 1 ≤ x.2.1
  w2 : x.2.1 ≤ 65536
  w3 : x.2.1 ≤ sumW l
  w4 : sumW l ≤ 67108864
  r1 : 0 ≤ x.2.2
  r2 : x.2.2 ≤ sumR l
  r3 : sumR l ≤ 68719476736
  a1 : 0 ≤ sumR l * x.2.1
  a2 : sumR l * x.2.1 ≤ 4503599627370496
  b1 : 0 ≤ x.2.2 * sumW l
  b2 : x.2.2 * sumW l ≤ 4611686018427387904
  rest : 0 < lagV l x → 0 < sumW l - x.2.1
theorem Good.bounds {l : List (Int × Int × Int)} (h : Good l) {k : Nat} {x : Int × Int × Int} (hx : l[k]? = some x) : Bounds l x := by
  have he := h.ea
  have hm := he x (List.mem_of_getElem? hx)
  have hs := sum_split hx
  have e := he.erase k
  have e1 := sumW_nn e
  have e2 := sumR_nn e
  have e3 := sumW_nn he
  have e4 := h.many
  have e5 := h.ran
  have r0 := sumR_nn he
  have hw4 : sumW l ≤ 67108864 := by omega
  have p1 := mul_bounds (a := sumR l) (b := x.2.1) r0 e5 (by omega) hm.2.1
  have p2 := mul_bounds (a := x.2.2) (b := sumW l) (A := 68719476736) (B := 67108864) hm.2.2 (by omega) (by omega) hw4
  refine ⟨hm.1, hm.2.1, by omega, hw4, hm.2.2, by omega, e5, p1.1, by omega, p2.1, by omega, fun hl => ?_⟩
  rcases Nat.eq_zero_or_pos (l.eraseIdx k).length with z | z
  · have : l.eraseIdx k = [] := List.eq_nil_of_length_eq_zero z
    rw [this] at hs
    simp only [sumW, sumR, Int.add_zero] at hs
    unfold lagV at hl
    rw [hs.1, hs.2] at hl
    omega
  · omega
/-- for how long a task has to run alone -/
def untilV (l : List (Int × Int × Int)) (x : Int × Int × Int) : Int := if lagV l x ≤ 0 then 0 else (lagV l x + (sumW l - x.2.1) - 1) / (sumW l - x.2.1)
/-- one task runs on -/
def bump (l : List (Int × Int × Int)) (id t : Int) : List (Int × Int × Int) := l.map fun x => if x.1 = id then (x.1, x.2.1, x.2.2 + t) else x
def hasId (l : List (Int × Int × Int)) (id : Int) : Bool := l.any fun x => x.1 == id
theorem hasId_iff {l : List (Int × Int × Int)} {id : Int} : hasId l id = true ↔ ∃ x ∈ l, x.1 = id := by simp [hasId]
theorem bump_len (l : List (Int × Int × Int)) (id t : Int) : (bump l id t).length = l.length := by simp [bump]
theorem bump_W (l : List (Int × Int × Int)) (id t : Int) : sumW (bump l id t) = sumW l := by
  induction l with
  | nil => rfl
  | cons x r ih => simp only [bump, List.map_cons, sumW] at ih ⊢; rw [ih]; split <;> rfl
theorem bump_not (l : List (Int × Int × Int)) (id t : Int) (h : ∀ x ∈ l, x.1 ≠ id) : bump l id t = l := by
  unfold bump
  conv => rhs; rw [← List.map_id l]
  exact List.map_congr_left fun x hx => by simp [h x hx]
theorem bump_R (l : List (Int × Int × Int)) (id t : Int) (hp : l.Pairwise fun x y => x.1 < y.1) (h : ∃ x ∈ l, x.1 = id) : sumR (bump l id t) = sumR l + t := by
  induction l with
  | nil => obtain ⟨x, hx, _⟩ := h; cases hx
  | cons x r ih =>
    rw [List.pairwise_cons] at hp
    by_cases hx : x.1 = id
    · have hn : ∀ y ∈ r, y.1 ≠ id := fun y hy => by have := hp.1 y hy; omega
      have e := bump_not r id t hn
      simp only [bump] at e
      simp only [bump, List.map_cons, sumR, if_pos hx, e]
      omega
    · have : ∃ y ∈ r, y.1 = id := by
        obtain ⟨y, hy, he⟩ := h
        rcases List.mem_cons.1 hy with rfl | hy
        · exact absurd he hx
        · exact ⟨y, hy, he⟩
      have e := ih hp.2 this
      simp only [bump] at e
      simp only [bump, List.map_cons, sumR, if_neg hx, e]
      omega
theorem bump_get {l : List (Int × Int × Int)} {id t : Int} {k : Nat} {x : Int × Int × Int} (h : (bump l id t)[k]? = some x) : ∃ y, l[k]? = some y ∧ x = if y.1 = id then (y.1, y.2.1, y.2.2 + t) else y := by
  simp only [bump, List.getElem?_map, Option.map_eq_some_iff] at h
  obtain ⟨y, hy, e⟩ := h
  exact ⟨y, hy, e.symm⟩
theorem bump_ids (l : List (Int × Int × Int)) (id t : Int) : (bump l id t).map (·.1) = l.map (·.1) := by
  simp only [bump, List.map_map]
  exact List.map_congr_left fun x hx => by simp only [Function.comp]; split <;> rfl
theorem Good.bump {l : List (Int × Int × Int)} (h : Good l) {id t : Int} (hi : ∃ x ∈ l, x.1 = id) (h0 : 0 ≤ t) (h1 : sumR l + t ≤ 68719476736) : Good (bump l id t) := by
  refine ⟨fun x hx => ?_, ?_, by rw [bump_len]; exact h.many, by rw [bump_len]; exact h.pos, by rw [bump_R l id t h.ids hi]; exact h1⟩
  · obtain ⟨k, hk⟩ := List.getElem?_of_mem hx
    obtain ⟨y, hy, rfl⟩ := bump_get hk
    have := h.each y (List.mem_of_getElem? hy)
    split
    · simp only; omega
    · exact this
  · have : ∀ (a : List (Int × Int × Int)), (a.Pairwise fun x y => x.1 < y.1) ↔ (a.map (·.1)).Pairwise (· < ·) := fun a => by rw [List.pairwise_map]
    rw [this, bump_ids, ← this]
    exact h.ids
/-- the error of Run, and the tasks after it -/
def runC (l : List (Int × Int × Int)) (id t : Int) : Int := if t < 0 ∨ 68719476736 < t then 2 else if hasId l id = false then 6 else if 68719476736 < sumR l + t then 4 else 0
def runL (l : List (Int × Int × Int)) (id t : Int) : List (Int × Int × Int) := if runC l id t = 0 then bump l id t else l
def tsk (l : List (Int × Int × Int)) (id : Int) : Option (Int × Int × Int) := l.find? fun x => x.1 == id
def lagR (l : List (Int × Int × Int)) (id : Int) : Int := match tsk l id with | some x => lagV l x | none => 0
def ranR (l : List (Int × Int × Int)) (id : Int) : Int := match tsk l id with | some x => x.2.2 | none => 0
def untilR (l : List (Int × Int × Int)) (id : Int) : Int := match tsk l id with | some x => untilV l x | none => 0
theorem tsk_at {l : List (Int × Int × Int)} (h : Good l) {k : Nat} {x : Int × Int × Int} (hx : l[k]? = some x) : tsk l x.1 = some x := by
  have hp := h.ids
  clear h
  unfold tsk
  induction l generalizing k with
  | nil => simp at hx
  | cons y r ih =>
    rw [List.pairwise_cons] at hp
    cases k with
    | zero => simp at hx; subst hx; simp
    | succ k =>
      simp only [List.getElem?_cons_succ] at hx
      have := hp.1 x (List.mem_of_getElem? hx)
      rw [List.find?_cons_of_neg (by simp; omega)]
      exact ih hx hp.2
theorem tsk_none {l : List (Int × Int × Int)} {id : Int} (h : ∀ x ∈ l, x.1 ≠ id) : tsk l id = none := by
  unfold tsk; rw [List.find?_eq_none]; intro x hx; simpa using h x hx
theorem hasId_not {l : List (Int × Int × Int)} {id : Int} (h : ∀ x ∈ l, x.1 ≠ id) : hasId l id = false := by
  rw [Bool.eq_false_iff]; intro e; obtain ⟨x, hx, he⟩ := hasId_iff.1 e; exact h x hx he
theorem tsk_some {l : List (Int × Int × Int)} {id : Int} {x : Int × Int × Int} (h : tsk l id = some x) : x ∈ l ∧ x.1 = id := by
  unfold tsk at h
  exact ⟨List.mem_of_find?_eq_some h, by simpa using List.find?_some h⟩
end Go.Proofs.Ytgieaojkbfjoiaa
