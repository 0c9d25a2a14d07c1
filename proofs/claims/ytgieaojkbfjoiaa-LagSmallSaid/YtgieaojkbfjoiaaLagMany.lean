/-
  Layer 39 (lag): 1024 tasks of the greatest weight; small lists of steps.
-/
import Derived.Test.YtgieaojkbfjoiaaLagNil
namespace Go.Proofs.Ytgieaojkbfjoiaa
open Go.RowKit Go.IntWalk
set_option linter.unusedVariables false
def manyV (k : Nat) : List (Int × Int) := (List.range k).map fun (i : Nat) => ((i : Int) + 1, (65536 : Int))
theorem manyV_succ (k : Nat) : manyV (k + 1) = manyV k ++ [((k : Int) + 1, 65536)] := by simp [manyV, List.range_succ]
theorem manyV_len (k : Nat) : (manyV k).length = k := by simp [manyV]
theorem manyV_ok : ∀ k, k ≤ 65535 → okFrom 0 (manyV k) = true ∧ lastOf 0 (manyV k) = k
  | 0, _ => ⟨rfl, rfl⟩
  | k + 1, h => by
    obtain ⟨a, b⟩ := manyV_ok k (by omega)
    rw [manyV_succ, okFrom_append, a, b, lastOf_snoc]
    refine ⟨?_, rfl⟩
    simp [okFrom, okOne]
    omega
theorem manyV_W : ∀ k, sumW (ran0 (manyV k)) = 65536 * (k : Int)
  | 0 => rfl
  | k + 1 => by
    have e : ran0 (manyV k ++ [((k : Int) + 1, 65536)]) = ran0 (manyV k) ++ [((k : Int) + 1, 65536, 0)] := by simp [ran0]
    rw [manyV_succ, e, sumW_append, manyV_W k]
    simp [sumW]
    omega
theorem manyV_new {k : Nat} (h0 : 0 < k) (h : k ≤ 2000) : newC (manyV k) = if 1024 < k then 5 else 0 := by
  have hl := manyV_len k
  unfold newC
  rw [if_neg (fun e => by rw [e] at hl; simp at hl; omega), if_neg (by rw [(manyV_ok k (by omega)).1]; decide), hl]
theorem manyV_take {k j : Nat} (h : j ≤ k) : (manyV k).take j = manyV j := by
  unfold manyV
  rw [← List.map_take, List.take_range, Nat.min_eq_left h]
theorem manyV_at {k j : Nat} (h : j < k) : (ran0 (manyV k))[j]? = some ((j : Int) + 1, 65536, 0) := by
  simp [ran0, manyV, h]
/-- the first one has run for all -/
def manyL : List (Int × Int × Int) := bump (ran0 (manyV 1024)) 1 68719476736
theorem many_good0 : Good (ran0 (manyV 1024)) := okFrom_good (manyV_ok 1024 (by omega)).1 (fun e => by have := manyV_len 1024; rw [e] at this; simp at this) (by rw [manyV_len]; exact Nat.le_refl _)
theorem manyV_mem {k : Nat} (h : 0 < k) : ∃ x ∈ ran0 (manyV k), x.1 = 1 := ⟨_, List.mem_of_getElem? (manyV_at h), rfl⟩
theorem many_mem : ∃ x ∈ ran0 (manyV 1024), x.1 = 1 := manyV_mem (by omega)
theorem manyV_run {k : Nat} (h : 0 < k) : runC (ran0 (manyV k)) 1 68719476736 = 0 := runC_zero (by decide) (by decide) (manyV_mem h) (by rw [ran0_R]; decide)
theorem many_run : runC (ran0 (manyV 1024)) 1 68719476736 = 0 := manyV_run (by omega)
theorem many_good : Good manyL := many_good0.bump many_mem (by decide) (by rw [ran0_R]; decide)
theorem manyV_tsk {k : Nat} (hg : Good (ran0 (manyV k))) (h : 0 < k) : tsk (ran0 (manyV k)) 1 = some (1, 65536, 0) := by
  have := tsk_at hg (manyV_at h)
  simpa using this
theorem many_lag : lagR manyL 1 = -4607182418800017408 := by
  have h := manyV_tsk many_good0 (by omega)
  unfold manyL
  rw [bump_lag many_good0 h]
  have e : lagR (ran0 (manyV 1024)) 1 = 0 := by
    unfold lagR; rw [h]
    simp only [lagV, ran0_R]
    omega
  rw [e, manyV_W]
  decide
theorem manyL_at {j : Nat} (h : j < 1024) : manyL[j]? = some ((j : Int) + 1, 65536, if j = 0 then 68719476736 else 0) := by
  unfold manyL bump
  rw [List.getElem?_map, manyV_at h]
  simp only [Option.map_some]
  by_cases hj : j = 0
  · subst hj; rfl
  · rw [if_neg (by omega), if_neg hj]
theorem manyL_len : manyL.length = 1024 := by unfold manyL; rw [bump_len, ran0_len, manyV_len]
theorem many_next {x : Int × Int × Int} (hx : manyL[0]? = some x) : (minV manyL x manyL.length).1 = 2 := by
  have h0 := manyL_at (j := 0) (by omega)
  rw [hx] at h0
  obtain rfl := Option.some.inj h0
  have key : ∀ k, k + 2 ≤ 1024 → minV manyL ((0 : Nat) + 1, 65536, if (0 : Nat) = 0 then 68719476736 else 0) (k + 2) = (2, 65536, 0) := by
    intro k
    induction k with
    | zero =>
      intro _
      rw [minStep_eq many_good hx (by omega) (manyL_at (j := 1) (by omega)), minV_one hx]
      decide
    | succ k ih =>
      intro hk
      rw [minStep_eq many_good hx (by omega) (manyL_at (j := k + 2) (by omega)), ih (by omega)]
      rw [if_neg (by simp)]
  rw [manyL_len]
  rw [key 1022 (by omega)]
/-- one of the five steps -/
def stepT : List (Int × Int) := [(1, 1), (1, 2), (2, 1), (2, 5), (3, 1)]
end Go.Proofs.Ytgieaojkbfjoiaa
