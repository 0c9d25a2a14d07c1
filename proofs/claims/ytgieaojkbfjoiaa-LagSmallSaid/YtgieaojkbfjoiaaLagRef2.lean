/-
  The walks of the reference of layer 39: Next, Spread.
-/
import Derived.Test.YtgieaojkbfjoiaaLagRef
namespace Go.Proofs.Ytgieaojkbfjoiaa
open Go.RowKit Go.Maps Go.IntWalk Go.Lib Go.Sort
set_option linter.unusedVariables false
/-- the first k tasks' least one, by its place -/
theorem minStep_eq {l : List (Int × Int × Int)} (hg : Good l) {x0 : Int × Int × Int} (h0 : l[0]? = some x0) {k : Nat} (hk : 0 < k) {x : Int × Int × Int} (hx : l[k]? = some x) :
    minV l x0 (k + 1) = if x.2.2 * (minV l x0 k).2.1 < (minV l x0 k).2.2 * x.2.1 then x else minV l x0 k := by
  have hkl : k < l.length := (List.getElem?_eq_some_iff.1 hx).1
  have hm : minV l x0 k ∈ l.take k := by
    clear hx
    induction k with
    | zero => omega
    | succ k ih =>
      by_cases hz : k = 0
      · subst hz; rw [minV_one h0, List.take_add_one, h0]; simp
      · have hx : l[k]? = some l[k] := List.getElem?_eq_getElem (by omega)
        have i := ih (by omega) (by omega)
        rw [minV_succ hx, List.take_add_one, hx]
        unfold minStep
        split
        · exact List.mem_append_right _ (by simp)
        · exact List.mem_append_left _ i
  obtain ⟨j, hj⟩ := List.getElem?_of_mem hm
  have hjk : j < k := by
    have := (List.getElem?_eq_some_iff.1 hj).1
    rw [List.length_take] at this; omega
  have hj2 : l[j]? = some (minV l x0 k) := by rw [← hj, List.getElem?_take, if_pos hjk]
  have hlt : (minV l x0 k).1 < x.1 := by
    obtain ⟨lj, ej⟩ := List.getElem?_eq_some_iff.1 hj2
    obtain ⟨lk, ek⟩ := List.getElem?_eq_some_iff.1 hx
    have := List.pairwise_iff_getElem.1 hg.ids j k lj lk hjk
    rw [ej, ek] at this; exact this
  rw [minV_succ hx]
  unfold minStep
  have hl := least_lt (hg.fine x (List.mem_of_getElem? hx)) (hg.fine _ (List.mem_of_getElem? hj2))
  by_cases hc : x.2.2 * (minV l x0 k).2.1 < (minV l x0 k).2.2 * x.2.1
  · rw [if_pos hc, if_pos (hl.2 (Or.inl hc))]
  · rw [if_neg hc, if_neg (fun h => by rcases hl.1 h with h | h; exact hc h; omega)]
theorem minV_at {l : List (Int × Int × Int)} {x0 : Int × Int × Int} (h0 : l[0]? = some x0) (hg : Good l) : ∀ k, 0 < k → k ≤ l.length → ∃ j, j < k ∧ l[j]? = some (minV l x0 k) := by
  intro k
  induction k with
  | zero => intro h; omega
  | succ k ih =>
    intro _ hk
    by_cases hz : k = 0
    · subst hz; exact ⟨0, by omega, by rw [minV_one h0]; exact h0⟩
    · obtain ⟨j, hj, e⟩ := ih (by omega) (by omega)
      have hx : l[k]? = some l[k] := List.getElem?_eq_getElem (by omega)
      rw [minStep_eq hg h0 (by omega) hx]
      split
      · exact ⟨k, by omega, hx⟩
      · exact ⟨j, by omega, e⟩
set_option maxRecDepth 100000 in
set_option maxHeartbeats 1000000 in
theorem rNext_any (g cap n : Nat) (l : List (Int × Int × Int)) (w : World) (h : RunsAt w g l) (hn : l.length = n) (hg : Good l) :
    Calls Try.prog 48 #[.slice (some ⟨g, 0, none⟩) n cap] w fun e w' => NextP l e ∧ ∃ q, w' = w.drewN q := by
  obtain ⟨x0, h0⟩ : ∃ x, l[0]? = some x := ⟨_, List.getElem?_eq_getElem hg.pos⟩
  have hpos : 0 < n := by rw [← hn]; exact hg.pos
  have hb : n ≤ 1024 := by rw [← hn]; exact hg.many
  have H := Lib.hid h
  have HN := Lib.hid hn
  have HG := Lib.hid hg
  have HZ := Lib.hid h0
  clear h hn hg h0
  go_enter Try.func48, Try.ntmps48
  go_wp2_with fail
  go_loopw [3, 4] (fun b i wr => ∃ k j q : Nat, 1 ≤ k ∧ k ≤ n ∧ i = .int .i64 k ∧ b = .int .i64 j ∧ j < n ∧ l[j]? = some (minV l x0 k) ∧ wr = w.drewN q) (fun _ i _ => n - (intOf i).toNat)
  case atStart => exact ⟨1, 0, 0, by omega, by omega, rfl, rfl, hpos, by rw [minV_one HZ.out]; exact HZ.out, rfl⟩
  case round =>
    obtain ⟨k, j, q, hk1, hk, rfl, rfl, hj, hm, rfl⟩ := hrel
    by_cases hlt : k < n
    · obtain ⟨x, hx⟩ : ∃ x, l[k]? = some x := ⟨_, List.getElem?_eq_getElem (by rw [HN.out]; exact hlt)⟩
      have hst := minStep_eq HG.out HZ.out (by omega) hx
      obtain ⟨m0, m1, m2⟩ := H.out j _ hm
      obtain ⟨r0, r1, r2⟩ := H.out k _ hx
      have fm := HG.out.fine _ (List.mem_of_getElem? hm)
      have fx := HG.out.fine _ (List.mem_of_getElem? hx)
      have HM := Lib.hid hm
      have HX := Lib.hid hx
      have HST := Lib.hid hst
      clear hst hm hx
      generalize minV l x0 k = m at *
      have p1 := mul_bounds fx.r0 fx.r1 (by have := fm.w0; omega) fm.w1
      have p2 := mul_bounds fm.r0 fm.r1 (by have := fx.w0; omega) fx.w1
      have E1 : IntKind.i64.wrap (x.2.2 * m.2.1) = x.2.2 * m.2.1 := i64_in _ (by omega)
      have E2 : IntKind.i64.wrap (m.2.2 * x.2.1) = m.2.2 * x.2.1 := i64_in _ (by omega)
      have hk0 : (0 : Int) ≤ (k : Int) := by omega
      have hkn : (k : Int) < (n : Int) := by omega
      have hj0 : (0 : Int) ≤ (j : Int) := by omega
      have hjn : (j : Int) < (n : Int) := by omega
      clear p1 p2 fm fx
      by_cases hc : x.2.2 * m.2.1 < m.2.2 * x.2.1
      · rw [if_pos hc] at HST
        have ht : decide (x.2.2 * m.2.1 < m.2.2 * x.2.1) = true := decide_eq_true hc
        go_wp2_with fail
        go_quiet (fail)
        go_wp2_with fail
        go_roundw
        case rel => exact ⟨k + 1, k, _, by omega, by omega, by go_num, rfl, hlt, by rw [HST.out]; exact HX.out, rfl⟩
        case measure => simp [intOf]; omega
      · rw [if_neg hc] at HST
        have ht : decide (x.2.2 * m.2.1 < m.2.2 * x.2.1) = false := decide_eq_false hc
        go_wp2_with fail
        go_quiet (fail)
        go_wp2_with fail
        go_roundw
        case rel => exact ⟨k + 1, j, _, by omega, by omega, by go_num, rfl, hj, by rw [HST.out]; exact HM.out, rfl⟩
        case measure => simp [intOf]; omega
    · obtain rfl : k = n := by omega
      have m0 := (H.out j _ hm).1
      have hj0 : (0 : Int) ≤ (j : Int) := by omega
      have hjn : (j : Int) < (k : Int) := by omega
      have HP := Lib.hid (show NextP l (.returned (.int .i64 (minV l x0 k).1)) from ⟨x0, HZ.out, by rw [HN.out]⟩)
      clear hm
      go_wp2_with fail
      go_ret
      exact ⟨HP.out, _, rfl⟩
theorem most_zero {L : List (Int × Int × Int)} (hg : Good L) {x0 : Int × Int × Int} (h0 : L[0]? = some x0) : mostV L 0 L.length = mostV L (lagV L x0) L.length ∧ leastV L 0 L.length = leastV L (lagV L x0) L.length := by
  obtain ⟨a1, a2, a3⟩ := mostV_spec L (lagV L x0) L.length
  obtain ⟨b1, b2, b3⟩ := leastV_spec L (lagV L x0) L.length
  obtain ⟨c1, c2, c3⟩ := mostV_spec L 0 L.length
  obtain ⟨d1, d2, d3⟩ := leastV_spec L 0 L.length
  rw [List.take_length] at a1 b1 c1 d1
  have hx0 := List.mem_of_getElem? h0
  have am : ∃ x ∈ L, mostV L (lagV L x0) L.length = lagV L x := a3.elim (fun h => ⟨x0, hx0, h⟩) id
  have bm : ∃ x ∈ L, leastV L (lagV L x0) L.length = lagV L x := b3.elim (fun h => ⟨x0, hx0, h⟩) id
  have hz := lagSum_end L
  have hpos : 0 < L.length := hg.pos
  have e1 : 0 ≤ mostV L (lagV L x0) L.length := by
    rcases Int.lt_or_le (mostV L (lagV L x0) L.length) 0 with h | h
    · have := lagSum_neg (c := -1) (fun x hx => by have := a1 x hx; omega) L.length (Nat.le_refl _)
      omega
    · exact h
  have e2 : leastV L (lagV L x0) L.length ≤ 0 := by
    rcases Int.lt_or_le 0 (leastV L (lagV L x0) L.length) with h | h
    · have := lagSum_pos (c := 1) (fun x hx => by have := b1 x hx; omega) L.length (Nat.le_refl _)
      omega
    · exact h
  obtain ⟨x, hx, ex⟩ := am
  obtain ⟨y, hy, ey⟩ := bm
  have f1 := c1 x hx
  have f2 := d1 y hy
  constructor
  · rcases c3 with c3 | ⟨z, hz, c3⟩
    · omega
    · have := a1 z hz; omega
  · rcases d3 with d3 | ⟨z, hz, d3⟩
    · omega
    · have := b1 z hz; omega
set_option maxRecDepth 100000 in
set_option maxHeartbeats 1000000 in
theorem rSpread_any (g cap n : Nat) (l : List (Int × Int × Int)) (w : World) (h : RunsAt w g l) (hn : l.length = n) (hg : Good l) :
    Calls Try.prog 46 #[.slice (some ⟨g, 0, none⟩) n cap] w fun e w' => SpreadP l e ∧ ∃ q, w' = w.drewN q := by
  obtain ⟨x0, h0⟩ : ∃ x, l[0]? = some x := ⟨_, List.getElem?_eq_getElem hg.pos⟩
  have hb : n ≤ 1024 := by rw [← hn]; exact hg.many
  have hp := most_zero hg h0
  have HP := Lib.hid (show SpreadP l (.returned (.tuple #[.int .i64 (mostV l 0 n), .int .i64 (leastV l 0 n)])) from ⟨x0, h0, by rw [← hn, hp.1, hp.2]⟩)
  have H := Lib.hid h
  have HN := Lib.hid hn
  have HG := Lib.hid hg
  clear h hn hg h0 hp
  go_enter Try.func46, Try.ntmps46
  go_wp2_with fail
  go_loopw [4, 5, 6] (fun a b i wr => ∃ k q : Nat, k ≤ n ∧ i = .int .i64 k ∧ a = .int .i64 (mostV l 0 k) ∧ b = .int .i64 (leastV l 0 k) ∧ wr = w.drewN q) (fun _ _ i _ => n - (intOf i).toNat)
  case atStart => exact ⟨0, 0, by omega, rfl, rfl, rfl, rfl⟩
  case round =>
    obtain ⟨k, q, hk, rfl, rfl, rfl, rfl⟩ := hrel
    by_cases hlt : k < n
    · obtain ⟨x, hx⟩ : ∃ x, l[k]? = some x := ⟨_, List.getElem?_eq_getElem (by rw [HN.out]; exact hlt)⟩
      have A1 := Lib.hid fun nq => rLag_any g cap n l k x (w.drewN nq) (H.out.drewN nq) HN.out HG.out hx
      have hm1 := mostV_succ (m := 0) hx
      have hm2 := leastV_succ (m := 0) hx
      have HM1 := Lib.hid hm1
      have HM2 := Lib.hid hm2
      have hk0 : (0 : Int) ≤ (k : Int) := by omega
      have hkn : (k : Int) < (n : Int) := by omega
      clear hx hm1 hm2
      generalize lagV l x = v at *
      generalize mostV l 0 k = mo at *
      generalize leastV l 0 k = le at *
      go_wp2_with fail
      refine (A1.out q).mono ?_
      rintro e w1 ⟨rfl, q1, rfl⟩
      by_cases h1 : mo < v
      all_goals
        by_cases h2 : v < le
        all_goals
          go_wp2_with (go_at_call 44; refine (A1.out _).mono ?_; rintro e w1 ⟨rfl, q1, rfl⟩)
          go_roundw
          case rel => exact ⟨k + 1, _, by omega, by go_num, by rw [HM1.out]; congr 1; omega, by rw [HM2.out]; congr 1; omega, rfl⟩
          case measure => simp [intOf]; omega
    · obtain rfl : k = n := by omega
      go_wp2_with fail
      go_ret2
      exact ⟨HP.out, _, rfl⟩
end Go.Proofs.Ytgieaojkbfjoiaa
