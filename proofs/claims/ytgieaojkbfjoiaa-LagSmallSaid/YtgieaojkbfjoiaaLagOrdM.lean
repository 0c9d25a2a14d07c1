/-
  Layer 39 (lag): runs in another order and in other portions; all run for their weights.
-/
import Derived.Test.YtgieaojkbfjoiaaLagMin
namespace Go.Proofs.Ytgieaojkbfjoiaa
open Go.RowKit Go.IntWalk
set_option linter.unusedVariables false
def sumTo (u : Nat → Int) : Nat → Int
  | 0 => 0
  | k + 1 => sumTo u k + u k
theorem sumTo_shift (u : Nat → Int) : ∀ k, sumTo (fun i => u (i + 1)) k = sumTo u k + u k - u 0
  | 0 => by simp [sumTo]
  | k + 1 => by rw [sumTo, sumTo_shift u k, sumTo]; omega
theorem sumTo_congr {u v : Nat → Int} : ∀ k, (∀ i, i < k → u i = v i) → sumTo u k = sumTo v k
  | 0, _ => rfl
  | k + 1, h => by rw [sumTo, sumTo, sumTo_congr k fun i hi => h i (by omega), h k (by omega)]
theorem sumTo_rot (h : Nat → Int) (m s : Nat) : sumTo (fun i => h ((i + s) % m)) m = sumTo h m := by
  induction s with
  | zero => exact sumTo_congr m fun i hi => by rw [Nat.add_zero, Nat.mod_eq_of_lt hi]
  | succ s ih =>
    rw [← ih]
    have e := sumTo_shift (fun i => h ((i + s) % m)) m
    have e1 : (fun i => h ((i + (s + 1)) % m)) = fun i => (fun i => h ((i + s) % m)) (i + 1) := by
      funext i; show h _ = h _; rw [show i + (s + 1) = i + 1 + s by omega]
    rw [e1, e]
    simp only [Nat.zero_add, Nat.add_mod_left]
    omega
/-- tasks that have run as f says -/
def ranTo (l : List (Int × Int)) (f : Int → Int) : List (Int × Int × Int) := l.map fun x => (x.1, x.2, f x.1)
theorem ranTo_bump (l : List (Int × Int)) (f : Int → Int) (id t : Int) : bump (ranTo l f) id t = ranTo l fun j => f j + if j = id then t else 0 := by
  simp only [bump, ranTo, List.map_map]
  refine List.map_congr_left fun x _ => ?_
  simp only [Function.comp]
  split <;> simp
theorem ranTo_zero (l : List (Int × Int)) : ran0 l = ranTo l fun _ => 0 := rfl
/-- what a task has run after k rounds, u(i) being the i-th round's task and ticks -/
def tot (u : Nat → Int × Int) (k : Nat) (j : Int) : Int := sumTo (fun i => if j = (u i).1 then (u i).2 else 0) k
theorem tot_succ (l : List (Int × Int)) (u : Nat → Int × Int) (k : Nat) : bump (ranTo l (tot u k)) (u k).1 (u k).2 = ranTo l (tot u (k + 1)) := by
  rw [ranTo_bump]; rfl
theorem tot_two (l : List (Int × Int)) (u : Nat → Int × Int) (k : Nat) (t : Int) : bump (bump (ranTo l (tot u k)) (u k).1 t) (u k).1 ((u k).2 - t) = ranTo l (tot u (k + 1)) := by
  rw [ranTo_bump, ranTo_bump, ← tot_succ, ranTo_bump]
  congr 1
  funext j
  split <;> omega
/-- the rounds -/
def turnU (l : List (Int × Int)) (rs : List Int) (i : Nat) : Int × Int := (turnId l i, rs[i]?.getD 0)
theorem made_tot {l : List (Int × Int)} {rs : List Int} (hl : newC l = 0) (hf : ∀ x ∈ rs, 0 ≤ x ∧ x ≤ 65535) : ∀ k, k ≤ rs.length → k ≤ 60 → madeK l rs k = ranTo l (tot (turnU l rs) k) ∧ MadeOk l rs k := by
  intro k
  induction k with
  | zero => intro _ _; exact ⟨rfl, made_start hl rs⟩
  | succ k ih =>
    intro h1 h2
    obtain ⟨i1, i2⟩ := ih (by omega) (by omega)
    have hx : rs[k]? = some rs[k] := List.getElem?_eq_getElem (by omega)
    obtain ⟨a, b, c⟩ := made_step hl hf hx (by omega) i2
    refine ⟨?_, c⟩
    rw [b, runL, if_pos a, i1, ← tot_succ]
    unfold turnU
    rw [hx]; rfl
/-- all have run for their weights, so many times -/
def upTo (L : List (Int × Int × Int)) (c : Int) (k : Nat) : List (Int × Int × Int) := (L.take k).map (fun x => (x.1, x.2.1, x.2.2 + x.2.1 * c)) ++ L.drop k
theorem upTo_zero (L : List (Int × Int × Int)) (c : Int) : upTo L c 0 = L := by simp [upTo]
theorem upTo_succ {L : List (Int × Int × Int)} (hids : L.Pairwise fun x y => x.1 < y.1) (c : Int) {k : Nat} {x : Int × Int × Int} (hx : L[k]? = some x) : bump (upTo L c k) x.1 (x.2.1 * c) = upTo L c (k + 1) := by
  obtain ⟨hk, rfl⟩ := List.getElem?_eq_some_iff.1 hx
  have hp := List.pairwise_iff_getElem.1 hids
  have e1 : ∀ y ∈ (L.take k).map (fun x => (x.1, x.2.1, x.2.2 + x.2.1 * c)), y.1 ≠ L[k].1 := fun y hy => by
    simp only [List.mem_map] at hy
    obtain ⟨z, hz, rfl⟩ := hy
    obtain ⟨i, hi, rfl⟩ := List.getElem_of_mem hz
    simp only [List.length_take] at hi
    have := hp i k (by omega) hk (by omega)
    simp only [List.getElem_take]
    omega
  have e2 : ∀ y ∈ L.drop (k + 1), y.1 ≠ L[k].1 := fun y hy => by
    obtain ⟨i, hi, rfl⟩ := List.getElem_of_mem hy
    simp only [List.length_drop] at hi
    have := hp k (k + 1 + i) hk (by omega) (by omega)
    simp only [List.getElem_drop]
    omega
  unfold upTo
  rw [List.drop_eq_getElem_cons hk, List.take_add_one, hx, Option.toList_some, List.map_append]
  unfold bump
  rw [List.map_append, List.map_cons, if_pos rfl]
  have f1 := bump_not _ L[k].1 (L[k].2.1 * c) e1
  have f2 := bump_not _ L[k].1 (L[k].2.1 * c) e2
  unfold bump at f1 f2
  rw [f1, f2]
  simp
theorem up_W (L : List (Int × Int × Int)) (c : Int) : sumW (L.map fun x => (x.1, x.2.1, x.2.2 + x.2.1 * c)) = sumW L := by
  induction L with
  | nil => rfl
  | cons x r ih => simp only [List.map_cons, sumW, ih]
theorem up_R (L : List (Int × Int × Int)) (c : Int) : sumR (L.map fun x => (x.1, x.2.1, x.2.2 + x.2.1 * c)) = sumR L + sumW L * c := by
  induction L with
  | nil => simp [sumR, sumW]
  | cons x r ih => simp only [List.map_cons, sumR, sumW, ih, Int.add_mul]; omega
theorem upTo_len {L : List (Int × Int × Int)} {c : Int} {n : Nat} (h : L.length = n) : upTo L c n = L.map fun x => (x.1, x.2.1, x.2.2 + x.2.1 * c) := by
  subst h; simp [upTo]
theorem up_tsk (L : List (Int × Int × Int)) (c id : Int) : tsk (L.map fun x => (x.1, x.2.1, x.2.2 + x.2.1 * c)) id = (tsk L id).map fun x => (x.1, x.2.1, x.2.2 + x.2.1 * c) := by
  unfold tsk
  rw [List.find?_map]
  rfl
/-- .. no lag changes -/
theorem up_lag (L : List (Int × Int × Int)) (c id : Int) : lagR (L.map fun x => (x.1, x.2.1, x.2.2 + x.2.1 * c)) id = lagR L id := by
  unfold lagR
  rw [up_tsk]
  cases tsk L id with
  | none => rfl
  | some x =>
    simp only [Option.map_some, lagV, up_W, up_R, Int.add_mul]
    have e1 : sumW L * c * x.2.1 = x.2.1 * c * sumW L := by rw [Int.mul_right_comm, Int.mul_comm (sumW L) x.2.1, Int.mul_right_comm]
    omega
theorem upTo_ids (L : List (Int × Int × Int)) (c : Int) (k : Nat) : idsL (upTo L c k) = idsL L := by
  have e : ∀ a : List (Int × Int × Int), (a.map fun x => (x.1, x.2.1, x.2.2 + x.2.1 * c)).map (·.1) = a.map (·.1) := fun a => by rw [List.map_map]; rfl
  unfold idsL upTo
  rw [List.map_append, e, ← List.map_append, List.take_append_drop]
theorem upTo_sum {L : List (Int × Int × Int)} (he : Each L) {c : Int} (h0 : 0 ≤ c) (k : Nat) : sumR (upTo L c k) ≤ sumR L + sumW L * c ∧ 0 ≤ sumR (upTo L c k) := by
  have e := sumR_append (L.take k) (L.drop k)
  have f := sumW_append (L.take k) (L.drop k)
  rw [List.take_append_drop] at e f
  unfold upTo
  rw [sumR_append, up_R, e, f, Int.add_mul]
  have hd : Each (L.drop k) := fun x hx => he x (List.mem_of_mem_drop hx)
  have ht : Each (L.take k) := fun x hx => he x (List.mem_of_mem_take hx)
  have h1 := sumR_nn hd
  have h2 := sumR_nn ht
  have h3 := Int.mul_nonneg (by have := (sumW_nn hd).1; omega : 0 ≤ sumW (L.drop k)) h0
  have h4 := Int.mul_nonneg (by have := (sumW_nn ht).1; omega : 0 ≤ sumW (L.take k)) h0
  omega
end Go.Proofs.Ytgieaojkbfjoiaa
