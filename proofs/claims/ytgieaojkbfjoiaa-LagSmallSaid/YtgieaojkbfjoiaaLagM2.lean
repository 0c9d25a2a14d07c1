/-
  Layer 39 (lag): plain laws on what New takes.
-/
import Derived.Test.YtgieaojkbfjoiaaLagM
namespace Go.Proofs.Ytgieaojkbfjoiaa
set_option linter.unusedVariables false
/-- tasks that are right, behind an ID -/
def okOne (last : Int) (x : Int × Int) : Bool := decide (last < x.1) && decide (x.1 ≤ 65535) && decide (1 ≤ x.2) && decide (x.2 ≤ 65536)
def okFrom : Int → List (Int × Int) → Bool
  | _, [] => true
  | last, x :: r => okOne last x && okFrom x.1 r
def lastOf : Int → List (Int × Int) → Int
  | last, [] => last
  | _, x :: r => lastOf x.1 r
theorem lastOf_snoc (last : Int) (a : List (Int × Int)) (x : Int × Int) : lastOf last (a ++ [x]) = x.1 := by
  induction a generalizing last with
  | nil => rfl
  | cons y r ih => exact ih y.1
theorem okFrom_append (last : Int) (a b : List (Int × Int)) : okFrom last (a ++ b) = (okFrom last a && okFrom (lastOf last a) b) := by
  induction a generalizing last with
  | nil => simp [okFrom, lastOf]
  | cons x r ih => rw [List.cons_append, okFrom, okFrom, ih, lastOf, Bool.and_assoc]
theorem take_snoc {α : Type} {l : List α} {k : Nat} {x : α} (h : l[k]? = some x) : l.take (k + 1) = l.take k ++ [x] := by
  rw [List.take_add_one, h, Option.toList_some]
theorem okFrom_take {l : List (Int × Int)} {k : Nat} {x : Int × Int} (h : l[k]? = some x) : okFrom 0 (l.take (k + 1)) = (okFrom 0 (l.take k) && okOne (lastOf 0 (l.take k)) x) := by
  rw [take_snoc h, okFrom_append]; simp [okFrom]
theorem lastOf_take {l : List (Int × Int)} {k : Nat} {x : Int × Int} (h : l[k]? = some x) : lastOf 0 (l.take (k + 1)) = x.1 := by
  rw [take_snoc h, lastOf_snoc]
theorem okFrom_false {l : List (Int × Int)} {k : Nat} (h : okFrom 0 (l.take k) = false) : okFrom 0 l = false := by
  rw [← List.take_append_drop k l, okFrom_append, h, Bool.false_and]
theorem okFrom_mem {last : Int} {l : List (Int × Int)} (h : okFrom last l = true) : ∀ x ∈ l, last < x.1 ∧ x.1 ≤ 65535 ∧ 1 ≤ x.2 ∧ x.2 ≤ 65536 := by
  induction l generalizing last with
  | nil => intro x hx; cases hx
  | cons y r ih =>
    simp only [okFrom, okOne, Bool.and_eq_true, decide_eq_true_eq] at h
    intro x hx
    rcases List.mem_cons.1 hx with rfl | hx
    · omega
    · have := ih h.2 x hx; omega
theorem okFrom_pair {last : Int} {l : List (Int × Int)} (h : okFrom last l = true) : l.Pairwise fun x y => x.1 < y.1 := by
  induction l generalizing last with
  | nil => exact List.Pairwise.nil
  | cons y r ih =>
    simp only [okFrom, Bool.and_eq_true] at h
    exact List.Pairwise.cons (fun x hx => (okFrom_mem h.2 x hx).1) (ih h.2)
/-- tasks that have not run -/
def ran0 (l : List (Int × Int)) : List (Int × Int × Int) := l.map fun x => (x.1, x.2, 0)
theorem ran0_len (l : List (Int × Int)) : (ran0 l).length = l.length := by simp [ran0]
theorem ran0_R (l : List (Int × Int)) : sumR (ran0 l) = 0 := by
  induction l with
  | nil => rfl
  | cons x r ih => simp only [ran0, List.map_cons, sumR] at ih ⊢; rw [ih]; rfl
theorem sumW_append (a b : List (Int × Int × Int)) : sumW (a ++ b) = sumW a + sumW b := by
  induction a with
  | nil => simp [sumW]
  | cons x r ih => simp only [List.cons_append, sumW]; omega
theorem sumR_append (a b : List (Int × Int × Int)) : sumR (a ++ b) = sumR a + sumR b := by
  induction a with
  | nil => simp [sumR]
  | cons x r ih => simp only [List.cons_append, sumR]; omega
theorem ran0_take {l : List (Int × Int)} {k : Nat} {x : Int × Int} (h : l[k]? = some x) : ran0 (l.take (k + 1)) = ran0 (l.take k) ++ [(x.1, x.2, 0)] := by
  rw [take_snoc h]; simp [ran0]
theorem okFrom_good {l : List (Int × Int)} (h : okFrom 0 l = true) (h0 : l ≠ []) (h1 : l.length ≤ 1024) : Good (ran0 l) := by
  refine ⟨?_, ?_, by rw [ran0_len]; exact h1, by rw [ran0_len]; exact List.length_pos_iff.2 h0, by rw [ran0_R]; decide⟩
  · intro x hx
    simp only [ran0, List.mem_map] at hx
    obtain ⟨y, hy, rfl⟩ := hx
    have := okFrom_mem h y hy
    simp only
    omega
  · unfold ran0
    rw [List.pairwise_map]
    exact okFrom_pair h
/-- the error of New -/
def newC (l : List (Int × Int)) : Int := if l = [] then 2 else if okFrom 0 l = false then 2 else if 1024 < l.length then 5 else 0
theorem sumW_take_le {l : List (Int × Int)} (h : okFrom 0 l = true) : 0 ≤ sumW (ran0 l) ∧ sumW (ran0 l) ≤ 65536 * l.length := by
  have e : Each (ran0 l) := fun x hx => by
    simp only [ran0, List.mem_map] at hx
    obtain ⟨y, hy, rfl⟩ := hx
    have := okFrom_mem h y hy
    simp only
    omega
  have := sumW_nn e
  rw [ran0_len] at this
  omega
end Go.Proofs.Ytgieaojkbfjoiaa
