/-
  ChargeExact: the walk of the law, by the contracts of the package.
-/
import Derived.Test.YtbddiagnijcmhaaChargeAw
import Derived.OpenShut
import Derived.Deep.RegionHeld3
namespace Go.Proofs.Ytbddiagnijcmhaa
open Go.RowKit Go.Shelf
set_option linter.unusedVariables false
def Held3 (W : World) (B : Nat) (x y z : Value) (a : World) : Prop := Below W.heap.size W a ∧ B < a.heap.size ∧ a.cell? ⟨B, 0, none⟩ = some x ∧ a.cell? ⟨B, 1, none⟩ = some y ∧ a.cell? ⟨B, 2, none⟩ = some z
theorem held3 {W a w5 : World} {B : Nat} {x y z : Value} (hb : Below a.heap.size a w5) (h : Held3 W B x y z a) : Held3 W B x y z w5 :=
  ⟨Below.step h.1 hb, Nat.lt_of_lt_of_le h.2.1 hb.size, below_nat hb h.2.1 h.2.2.1, below_nat hb h.2.1 h.2.2.2.1, below_nat hb h.2.1 h.2.2.2.2⟩
set_option maxHeartbeats 1000000 in
theorem ChargeExact_true (v r n t : Int) (g0 : (Lit.int .u64 v).wf = true) (g1 : (Lit.int .u32 r).wf = true) (g2 : (Lit.int .u32 n).wf = true) (g3 : (Lit.int .u16 t).wf = true) (w : World) :
    Calls Try.prog 4 #[.int .u64 v, .int .u32 r, .int .u32 n, .int .u16 t] w fun e w' => e = .returned (.bool true) ∧ Below w.heap.size w w' := by
  have b0 := bounds_u64 g0
  have b1 := bounds_u32 g1
  have b2 := bounds_u32 g2
  have b3 := bounds_u16 g3
  clear g0 g1 g2 g3
  have hv : 0 ≤ v % 70368744177664 ∧ v % 70368744177664 ≤ 70368744177663 := by omega
  obtain ⟨rr, c, hx, -, hcn, M⟩ := Made_ex (v % 70368744177664) r n ⟨hv.1, by omega⟩ b1 b2
  have M2 : ∀ w, Calls Try.prog 12 #[.int .u64 18446744073709551615, .int .u32 0, .int .u32 n] w fun e w' => e = .returned (.agg #[.int .u64 18446744073709551615, .int .u32 0, .int .u32 c]) ∧ Below w.heap.size w w' := by
    have := fun w => Made_any 18446744073709551615 0 n w ⟨by omega, by omega⟩ ⟨by omega, by omega⟩ b2
    rw [show Ch.madeR 18446744073709551615 0 n = 0 from rfl, ← hcn] at this
    exact this
  obtain ⟨pv, pr, e1, e2⟩ : ∃ x y, Ch.addV (v % 70368744177664) rr c t = x ∧ Ch.addR (v % 70368744177664) rr c t = y := ⟨_, _, rfl, rfl⟩
  have op : Ch.Ok pv pr c := by rw [← e1, ← e2]; exact Ch.add_ok hx b3.1
  have hq := Ch.add_exact hx (show v % 70368744177664 ≤ 70368744177664 by omega) b3.1 b3.2
  have hge := Ch.addV_ge (t := t) hx b3.1
  rw [e1, e2] at hq
  rw [e1] at hge
  obtain ⟨q1, q2, q3, q4⟩ := hq
  have q5 : 0 ≤ pv * c := Int.mul_nonneg op.1 (by have := op.2.2.2.2.1; omega)
  have A0 := Lib.hid M
  have A1 := Lib.hid fun W => Add_eq _ rr c t pv pr W hx ⟨b3.1, by omega⟩ e1 e2
  have A2 := Lib.hid fun W => right_yes pv pr c W op
  have he : Ch.Ok 18446744073709551615 0 c := by obtain ⟨_, _, _, _, h5, h6, _⟩ := hx; unfold Ch.Ok; omega
  have A4 := Lib.hid fun W => Add_eq 18446744073709551615 0 c t 18446744073709551615 0 W he ⟨b3.1, by omega⟩ (by unfold Ch.addV; rw [if_pos (by rw [Ch.atEnd_iff he.2.2.2.2.1]; omega)]) (by unfold Ch.addR; rw [if_pos (by rw [Ch.atEnd_iff he.2.2.2.2.1]; omega)])
  have A3 := Lib.hid M2
  have A9 := Lib.hid awake_any
  obtain ⟨o1, o2, o3, o4, o5, o6, _⟩ := hx
  obtain ⟨p1, p2, p3, p4, _⟩ := op
  have Q := Lib.hid q1
  clear M M2 e1 e2 hcn he q1
  go_enter Try.func4, Try.ntmps4
  go_wp2_with fail
  refine (A0.out _).mono ?_; rintro e w0 ⟨rfl, hb0⟩
  obtain ⟨hc0, hf0⟩ := bcell hb0
  go_wp2_with fail
  refine (A1.out _).mono ?_; rintro e w1 ⟨rfl, hb1⟩
  obtain ⟨hc1, hf1⟩ := bcell hb1
  have hz0_1 : w0.heap.size < w1.heap.size := by have h9 := hb1.size; (try simp at h9); omega
  go_wp2_with fail
  refine (A2.out _).mono ?_; rintro e w2 ⟨rfl, hb2⟩
  obtain ⟨hc2, hf2⟩ := bcell hb2
  have hz0_2 : w0.heap.size < w2.heap.size := by have h9 := hb2.size; (try simp at h9); omega
  have hz1_2 : w1.heap.size < w2.heap.size := by have h9 := hb2.size; (try simp at h9); omega
  go_wp2_with fail
  go_quiet (fail)
  go_wp2_with fail
  refine (A3.out _).mono ?_; rintro e w3 ⟨rfl, hb3⟩
  obtain ⟨hc3, hf3⟩ := bcell hb3
  have hz0_3 : w0.heap.size < w3.heap.size := by have h9 := hb3.size; (try simp at h9); omega
  have hz1_3 : w1.heap.size < w3.heap.size := by have h9 := hb3.size; (try simp at h9); omega
  go_wp2_with fail
  refine (A4.out _).mono ?_; rintro e w4 ⟨rfl, hb4⟩
  obtain ⟨hc4, hf4⟩ := bcell hb4
  have hz0_4 : w0.heap.size < w4.heap.size := by have h9 := hb4.size; (try simp at h9); omega
  have hz1_4 : w1.heap.size < w4.heap.size := by have h9 := hb4.size; (try simp at h9); omega
  have u0 : IntKind.u64.wrap t = t := IntWalk.u64_in _ (by omega)
  have u1 : IntKind.u64.wrap (t * 1048576) = t * 1048576 := IntWalk.u64_in _ (by omega)
  have u2 : IntKind.u64.wrap (v % 70368744177664 * c + rr + t * 1048576) = v % 70368744177664 * c + rr + t * 1048576 := IntWalk.u64_in _ (by omega)
  have qq : (pv * c + pr == v % 70368744177664 * c + rr + t * 1048576) = true := by rw [Q.out]; simp
  go_wp2_with fail
  have hS0 : Below w4.heap.size w4 (w4.alloc (.cells #[.int .u64 18446744073709551615, .int .u32 0, .int .u32 c] 25)).drew ∧ w4.heap.size < (w4.alloc (.cells #[.int .u64 18446744073709551615, .int .u32 0, .int .u32 c] 25)).drew.heap.size ∧ (w4.alloc (.cells #[.int .u64 18446744073709551615, .int .u32 0, .int .u32 c] 25)).drew.cell? ⟨w4.heap.size, 0, none⟩ = some (.int .u64 18446744073709551615) ∧ (w4.alloc (.cells #[.int .u64 18446744073709551615, .int .u32 0, .int .u32 c] 25)).drew.cell? ⟨w4.heap.size, 1, none⟩ = some (.int .u32 0) ∧ (w4.alloc (.cells #[.int .u64 18446744073709551615, .int .u32 0, .int .u32 c] 25)).drew.cell? ⟨w4.heap.size, 2, none⟩ = some (.int .u32 c) := ⟨((Below.refl _ _).alloc (Nat.le_refl _) _).drew, by simp, by simp, by simp, by simp⟩
  go_region_held3 (fun w' => Below w4.heap.size w4 w' ∧ w4.heap.size < w'.heap.size ∧ w'.cell? ⟨w4.heap.size, 0, none⟩ = some (.int .u64 18446744073709551615) ∧ w'.cell? ⟨w4.heap.size, 1, none⟩ = some (.int .u32 0) ∧ w'.cell? ⟨w4.heap.size, 2, none⟩ = some (.int .u32 c)) (first | assumption | (refine held3 (by assumption) ?_; assumption)) (first | (go_at_call 12; refine (A3.out _).mono ?_; rintro e w5 ⟨rfl, hb5⟩) | (go_at_call 15; refine (A9.out _).mono ?_; rintro e w6 ⟨rfl, hb6⟩))
  clear u0 u1 u2
  all_goals go_wp2
  all_goals go_ret
  all_goals
    rename_i hH
    replace hH := hH.1
    refine ⟨rfl, ?_⟩
    repeat (first | exact Below.refl _ _ | refine Below.step ?_ (by assumption) | refine Below.setCell ?_ (by first | (simp; done) | (simp; omega) | omega) _ | refine Below.allocS ?_ _ | refine Below.drew ?_ | refine below_drewN ?_ _)
end Go.Proofs.Ytbddiagnijcmhaa
