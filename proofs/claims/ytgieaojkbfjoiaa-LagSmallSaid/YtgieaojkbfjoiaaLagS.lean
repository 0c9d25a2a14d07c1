/-
  The walks of layer 39 (lag): Spread.
-/
import Derived.Test.YtgieaojkbfjoiaaLagU2
import Derived.Outline
namespace Go.Proofs.Ytgieaojkbfjoiaa
open Go.RowKit Go.Maps Go.IntWalk
set_option linter.unusedVariables false
/-- the greatest and the least lag of the first k tasks, and of the first one -/
def mostV (l : List (Int × Int × Int)) (m : Int) (k : Nat) : Int := (l.take k).foldl (fun a x => max a (lagV l x)) m
def leastV (l : List (Int × Int × Int)) (m : Int) (k : Nat) : Int := (l.take k).foldl (fun a x => min a (lagV l x)) m
theorem mostV_succ {l : List (Int × Int × Int)} {m : Int} {k : Nat} {x : Int × Int × Int} (h : l[k]? = some x) : mostV l m (k + 1) = max (mostV l m k) (lagV l x) := by
  unfold mostV
  rw [List.take_add_one, h, Option.toList_some, List.foldl_append]; rfl
theorem leastV_succ {l : List (Int × Int × Int)} {m : Int} {k : Nat} {x : Int × Int × Int} (h : l[k]? = some x) : leastV l m (k + 1) = min (leastV l m k) (lagV l x) := by
  unfold leastV
  rw [List.take_add_one, h, Option.toList_some, List.foldl_append]; rfl
def SpreadP (l : List (Int × Int × Int)) (e : Ending) : Prop := ∃ x, l[0]? = some x ∧ e = .returned (.tuple #[.int .i64 (mostV l (lagV l x) l.length), .int .i64 (leastV l (lagV l x) l.length)])
set_option maxRecDepth 100000 in
set_option maxHeartbeats 1000000 in
theorem Spread_any (p g bm cap : Nat) (l : List (Int × Int × Int)) (n : Nat) (w : World) (h : MeterAt w p g bm cap l n) :
    Calls Try.prog 24 #[.pointer (some ⟨p, 0, none⟩)] w fun e w' => Below w.heap.size w w' ∧ SpreadP l e := by
  have A0 := Lib.hid fun W => some_any p g bm cap l n W
  have c0 := h.c0
  have c2 := h.c2
  have c3 := h.c3
  have hpos := h.pos
  have hn : n ≤ 1024 := by rw [← h.len]; exact h.good.many
  have h0 : 0 < l.length := h.good.pos
  obtain ⟨⟨x1, x2, x3⟩, hx⟩ : ∃ x, l[0]? = some x := ⟨_, List.getElem?_eq_getElem h0⟩
  obtain ⟨r0, r1, r2⟩ := h.runs 0 _ hx
  simp only at r0 r1 r2
  have HX := Lib.hid hx
  have H := Lib.hid h
  have c2' := c2
  have c3' := c3
  have C2 := Lib.hid c2'
  have C3 := Lib.hid c3'
  clear c2' c3'
  have A2 := Lib.hid fun W => lag_any p l x1 x2 x3 W (H.out.good.bounds hx)
  clear h hx h0
  go_enter Try.func24, Try.ntmps24
  go_wp2_with fail
  refine (A0.out _ H.out).mono ?_; rintro e w1 ⟨rfl, rfl⟩
  go_wp2_with fail
  have c0_1 := fun o1 => cell_al o1 (c0)
  have c0_2 := fun o1 o2 => cell_al o2 (cell_al o1 (c0))
  have c2_1 := fun o1 => cell_al o1 (c2)
  have c2_2 := fun o1 o2 => cell_al o2 (cell_al o1 (c2))
  have c3_1 := fun o1 => cell_al o1 (c3)
  have c3_2 := fun o1 o2 => cell_al o2 (cell_al o1 (c3))
  have r0_1 := fun o1 => cell_al o1 (r0)
  have r0_2 := fun o1 o2 => cell_al o2 (cell_al o1 (r0))
  have r1_1 := fun o1 => cell_al o1 (r1)
  have r1_2 := fun o1 o2 => cell_al o2 (cell_al o1 (r1))
  have r2_1 := fun o1 => cell_al o1 (r2)
  have r2_2 := fun o1 o2 => cell_al o2 (cell_al o1 (r2))
  clear c0_1 c0_2 c2_1 c2_2 c3_1 c3_2 r0_1 r0_2 r1_1 r1_2 r2_1 r2_2
  have hS0 : Below w.heap.size w w.drew ∧ w.drew.cell? ⟨p, 0, none⟩ = some (.slice (some ⟨g, 0, none⟩) n cap) ∧ w.drew.cell? ⟨p, 2, none⟩ = some (.int .i64 (sumR l)) ∧ w.drew.cell? ⟨p, 3, none⟩ = some (.int .i64 (sumW l)) ∧ w.drew.cell? ⟨g, 0, none⟩ = some (.int .i64 x1) ∧ w.drew.cell? ⟨g, 1, none⟩ = some (.int .i64 x2) ∧ w.drew.cell? ⟨g, 2, none⟩ = some (.int .i64 x3) := ⟨(Below.drew (Below.refl _ _)), cell_dr c0, cell_dr c2, cell_dr c3, cell_dr r0, cell_dr r1, cell_dr r2⟩
  go_region_held3 (fun w' => Below w.heap.size w w' ∧ w'.cell? ⟨p, 0, none⟩ = some (.slice (some ⟨g, 0, none⟩) n cap) ∧ w'.cell? ⟨p, 2, none⟩ = some (.int .i64 (sumR l)) ∧ w'.cell? ⟨p, 3, none⟩ = some (.int .i64 (sumW l)) ∧ w'.cell? ⟨g, 0, none⟩ = some (.int .i64 x1) ∧ w'.cell? ⟨g, 1, none⟩ = some (.int .i64 x2) ∧ w'.cell? ⟨g, 2, none⟩ = some (.int .i64 x3)) (first | assumption | (refine held_6 (by assumption) ?_; assumption) | (refine held_6 (below_ad _ _) ?_; assumption) | (refine held_6 (below_a _ _) ?_; assumption)) (first | (go_at_call 28; refine (A2.out _ (by first | assumption | (go_split_ands; assumption)) (by first | assumption | (go_split_ands; assumption))).mono ?_; rintro e w5 ⟨rfl, hb5⟩))
  clear hS0
  rename_i hH
  obtain ⟨hbq, c0, c2, c3, r0, r1, r2⟩ := hH
  go_wp2_with fail
  go_loopw [4, 5, 32] (fun a b i wr => ∃ k : Nat, k ≤ n ∧ i = .int .i64 k ∧ a = .int .i64 (mostV l (lagV l (x1, x2, x3)) k) ∧ b = .int .i64 (leastV l (lagV l (x1, x2, x3)) k) ∧ Below w.heap.size w wr) (fun _ _ i _ => n - (intOf i).toNat)
  case atStart => exact ⟨0, Nat.zero_le _, rfl, rfl, rfl, hbq⟩
  case round =>
    rename_i wr _ _
    obtain ⟨k, hk, rfl, rfl, rfl, hb⟩ := hrel
    by_cases hlt : k < n
    · obtain ⟨⟨y1, y2, y3⟩, hy⟩ : ∃ x, l[k]? = some x := ⟨_, List.getElem?_eq_getElem (by rw [H.out.len]; exact hlt)⟩
      obtain ⟨q0, q1, q2⟩ := H.out.runs k _ hy
      simp only at q0 q1 q2
      replace c2 := cell_later hb C2.out
      replace c3 := cell_later hb C3.out
      replace q0 := cell_later hb q0
      replace q1 := cell_later hb q1
      replace q2 := cell_later hb q2
      have HA := Lib.hid (mostV_succ (m := lagV l (x1, x2, x3)) hy)
      have HB := Lib.hid (leastV_succ (m := lagV l (x1, x2, x3)) hy)
      have A3 := Lib.hid fun W => lag_any p l y1 y2 y3 W (H.out.good.bounds hy)
      have hk0 : (0 : Int) ≤ (k : Int) := by omega
      have hkn : (k : Int) < (n : Int) := by omega
      clear hy
      go_wp2_with fail
      have hbo : Below w.heap.size w (wr.alloc (.cells #[.int .i64 y1, .int .i64 y2, .int .i64 y3] 64)) := Below.allocS hb _
      replace c2 := cell_al (.cells #[.int .i64 y1, .int .i64 y2, .int .i64 y3] 64) c2
      replace c3 := cell_al (.cells #[.int .i64 y1, .int .i64 y2, .int .i64 y3] 64) c3
      have z0 := cell_nw wr #[.int .i64 y1, .int .i64 y2, .int .i64 y3] 64 0 _ rfl
      have z1 := cell_nw wr #[.int .i64 y1, .int .i64 y2, .int .i64 y3] 64 1 _ rfl
      have z2 := cell_nw wr #[.int .i64 y1, .int .i64 y2, .int .i64 y3] 64 2 _ rfl
      generalize (wr.alloc (.cells #[.int .i64 y1, .int .i64 y2, .int .i64 y3] 64)) = wo at *
      have c2_1 := fun o1 => cell_al o1 (c2)
      have c2_2 := fun o1 o2 => cell_al o2 (cell_al o1 (c2))
      have c3_1 := fun o1 => cell_al o1 (c3)
      have c3_2 := fun o1 o2 => cell_al o2 (cell_al o1 (c3))
      have z0_1 := fun o1 => cell_al o1 (z0)
      have z0_2 := fun o1 o2 => cell_al o2 (cell_al o1 (z0))
      have z1_1 := fun o1 => cell_al o1 (z1)
      have z1_2 := fun o1 o2 => cell_al o2 (cell_al o1 (z1))
      have z2_1 := fun o1 => cell_al o1 (z2)
      have z2_2 := fun o1 o2 => cell_al o2 (cell_al o1 (z2))
      clear c2_1 c2_2 c3_1 c3_2 z0_1 z0_2 z1_1 z1_2 z2_1 z2_2
      have hS0 : Below wo.heap.size wo wo.drew ∧ wo.drew.cell? ⟨p, 2, none⟩ = some (.int .i64 (sumR l)) ∧ wo.drew.cell? ⟨p, 3, none⟩ = some (.int .i64 (sumW l)) ∧ wo.drew.cell? ⟨wr.heap.size, 0, none⟩ = some (.int .i64 y1) ∧ wo.drew.cell? ⟨wr.heap.size, 1, none⟩ = some (.int .i64 y2) ∧ wo.drew.cell? ⟨wr.heap.size, 2, none⟩ = some (.int .i64 y3) := ⟨(Below.drew (Below.refl _ _)), cell_dr c2, cell_dr c3, cell_dr z0, cell_dr z1, cell_dr z2⟩
      go_region_held3 (fun w' => Below wo.heap.size wo w' ∧ w'.cell? ⟨p, 2, none⟩ = some (.int .i64 (sumR l)) ∧ w'.cell? ⟨p, 3, none⟩ = some (.int .i64 (sumW l)) ∧ w'.cell? ⟨wr.heap.size, 0, none⟩ = some (.int .i64 y1) ∧ w'.cell? ⟨wr.heap.size, 1, none⟩ = some (.int .i64 y2) ∧ w'.cell? ⟨wr.heap.size, 2, none⟩ = some (.int .i64 y3)) (first | assumption | (refine held_5 (by assumption) ?_; assumption) | (refine held_5 (below_ad _ _) ?_; assumption) | (refine held_5 (below_a _ _) ?_; assumption)) (first | (go_at_call 28; refine (A3.out _ (by first | assumption | (go_split_ands; assumption)) (by first | assumption | (go_split_ands; assumption))).mono ?_; rintro e w5 ⟨rfl, hb5⟩))
      clear hS0
      all_goals
        rename_i hH
        obtain ⟨hbq, _⟩ := hH
        have hbw : Below w.heap.size w w5 := Below.step hbo (hbq.mono (Nat.le_refl _))
        go_wp2_with fail
        go_roundw
        case rel => exact ⟨k + 1, by omega, by go_num, by rw [HA.out], by rw [HB.out], hbw⟩
        case measure => simp [intOf]; omega
    · obtain rfl : k = n := by omega
      go_wp2_with fail
      go_ret2
      refine ⟨hb, _, HX.out, ?_⟩
      rw [H.out.len]; rfl
end Go.Proofs.Ytgieaojkbfjoiaa
