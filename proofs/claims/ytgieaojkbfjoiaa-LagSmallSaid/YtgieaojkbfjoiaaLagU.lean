/-
  The walks of layer 39 (lag): Until and Run.
-/
import Derived.Test.YtgieaojkbfjoiaaLagW
import Derived.RegionTactic
import Derived.Deep.RegionHeld3
import Derived.Deep.DeepCutAuto
namespace Go.Proofs.Ytgieaojkbfjoiaa
open Go.RowKit Go.Maps Go.IntWalk
set_option linter.unusedVariables false
def UntilP (l : List (Int × Int × Int)) (id : Int) (e : Ending) : Prop :=
  (∃ k x, At l id k x ∧ e = .returned (.tuple #[.int .i64 (untilV l x), .int .i64 0])) ∨ (NotIn l id ∧ e = .returned (.tuple #[.int .i64 0, .int .i64 6]))
set_option maxRecDepth 100000 in
set_option maxHeartbeats 1000000 in
theorem Until_any (p g bm cap : Nat) (l : List (Int × Int × Int)) (n : Nat) (id : Int) (w : World) (h : MeterAt w p g bm cap l n) (hid : (Lit.int .i64 id).wf = true) :
    Calls Try.prog 17 #[.pointer (some ⟨p, 0, none⟩), .int .i64 id] w fun e w' => Below w.heap.size w w' ∧ UntilP l id e := by
  have A0 := Lib.hid fun W => some_any p g bm cap l n W
  have A1 := Lib.hid fun W => fun h => find_any p g bm cap l n id W h hid
  have c2 := h.c2
  have c3 := h.c3
  have H := Lib.hid h
  clear h
  go_enter Try.func17, Try.ntmps17
  go_wp2_with fail
  refine (A0.out _ H.out).mono ?_; rintro e w1 ⟨rfl, rfl⟩
  go_wp2_with fail
  refine (A1.out _ H.out).mono ?_; rintro e w1 ⟨rfl, ⟨k, ⟨x1, x2, x3⟩, hx, hxe, rfl⟩ | ⟨hno, rfl⟩⟩
  · obtain ⟨r0, r1, r2⟩ := H.out.runs k _ hx
    simp only at r0 r1 r2
    have HX := Lib.hid hx
    have HE := Lib.hid hxe
    have HB := Lib.hid (H.out.good.bounds hx)
    have A2 := Lib.hid fun W => lag_any p l x1 x2 x3 W (H.out.good.bounds hx)
    have hw : wrap64 (sumW l - x2) = sumW l - x2 := by
      obtain ⟨b1, b2, b3, b4, _⟩ := HB.out
      simp only at b1 b2 b3 b4
      exact wrap64_in _ (by omega)
    clear hx hxe
    go_wp2_with fail
    have c2_1 := fun o1 => cell_al o1 (c2)
    have c2_2 := fun o1 o2 => cell_al o2 (cell_al o1 (c2))
    have c3_1 := fun o1 => cell_al o1 (c3)
    have c3_2 := fun o1 o2 => cell_al o2 (cell_al o1 (c3))
    have r0_1 := fun o1 => cell_al o1 (r0)
    have r0_2 := fun o1 o2 => cell_al o2 (cell_al o1 (r0))
    have r1_1 := fun o1 => cell_al o1 (r1)
    have r1_2 := fun o1 o2 => cell_al o2 (cell_al o1 (r1))
    have r2_1 := fun o1 => cell_al o1 (r2)
    have r2_2 := fun o1 o2 => cell_al o2 (cell_al o1 (r2))
    clear c2_1 c2_2 c3_1 c3_2 r0_1 r0_2 r1_1 r1_2 r2_1 r2_2
    have hS0 : Below w.heap.size w w.drew ∧ w.drew.cell? ⟨p, 2, none⟩ = some (.int .i64 (sumR l)) ∧ w.drew.cell? ⟨p, 3, none⟩ = some (.int .i64 (sumW l)) ∧ w.drew.cell? ⟨g, k * 3, none⟩ = some (.int .i64 x1) ∧ w.drew.cell? ⟨g, k * 3 + 1, none⟩ = some (.int .i64 x2) ∧ w.drew.cell? ⟨g, k * 3 + 2, none⟩ = some (.int .i64 x3) := ⟨(Below.drew (Below.refl _ _)), cell_dr c2, cell_dr c3, cell_dr r0, cell_dr r1, cell_dr r2⟩
    go_region_held3 (fun w' => Below w.heap.size w w' ∧ w'.cell? ⟨p, 2, none⟩ = some (.int .i64 (sumR l)) ∧ w'.cell? ⟨p, 3, none⟩ = some (.int .i64 (sumW l)) ∧ w'.cell? ⟨g, k * 3, none⟩ = some (.int .i64 x1) ∧ w'.cell? ⟨g, k * 3 + 1, none⟩ = some (.int .i64 x2) ∧ w'.cell? ⟨g, k * 3 + 2, none⟩ = some (.int .i64 x3)) (first | assumption | (refine held_5 (by assumption) ?_; assumption) | (refine held_5 (below_ad _ _) ?_; assumption) | (refine held_5 (below_a _ _) ?_; assumption)) (first | (go_at_call 28; refine (A2.out _ (by assumption) (by assumption)).mono ?_; rintro e w5 ⟨rfl, hb5⟩))
    clear hS0
    rename_i hH
    obtain ⟨hbq, c2, c3, r0, r1, r2⟩ := hH
    by_cases hL : lagV l (x1, x2, x3) ≤ 0
    · go_wp2_with fail
      go_ret2
      refine ⟨hbq, Or.inl ⟨k, (x1, x2, x3), ⟨HX.out, HE.out⟩, ?_⟩⟩
      rw [show untilV l (x1, x2, x3) = 0 from if_pos hL]
      rfl
    · obtain ⟨b1, b2, b3, b4, b5, b6, b7, b8, b9, b10, b11, b12⟩ := HB.out
      simp only at b1 b2 b3 b4 b5 b6 b7 b8 b9 b10 b11 b12
      have h1 := b12 (by omega)
      have hm : lagV l (x1, x2, x3) ≤ 4503599627370496 := by unfold lagV; simp only; omega
      have q1 : wrap64 (lagV l (x1, x2, x3) + (sumW l - x2)) = lagV l (x1, x2, x3) + (sumW l - x2) := wrap64_in _ (by omega)
      have q2 : wrap64 (lagV l (x1, x2, x3) + (sumW l - x2) - 1) = lagV l (x1, x2, x3) + (sumW l - x2) - 1 := wrap64_in _ (by omega)
      have hz : ¬ (sumW l - x2 = 0) := by omega
      go_wp2_with fail
      go_ret2
      refine ⟨hbq, Or.inl ⟨k, (x1, x2, x3), ⟨HX.out, HE.out⟩, ?_⟩⟩
      rw [show untilV l (x1, x2, x3) = (lagV l (x1, x2, x3) + (sumW l - x2) - 1) / (sumW l - x2) from if_neg (by omega)]
      rfl
  · have HN := Lib.hid hno
    clear hno
    go_wp2
    go_ret2
    exact ⟨Below.refl _ _, Or.inr ⟨HN.out, rfl⟩⟩
end Go.Proofs.Ytgieaojkbfjoiaa
