/-
  QueueBack: what enters and leaves leaves no trace; what leaves and enters again is where it was.
-/
import Derived.Test.YtekjakmeopolhaaQueueD
import Derived.Test.YtekjakmeopolhaaKitU
namespace Go.Proofs.Ytekjakmeopolhaa
open Go.RowKit Go.Maps Go.IntWalk Go.Lib
set_option linter.unusedVariables false
set_option linter.unusedSimpArgs false
theorem wf_u32 {x : Int} (h : (Lit.int .u32 x).wf = true) : 0 ≤ x ∧ x ≤ 4294967295 := by
  simp only [Lit.wf, Bool.and_eq_true, decide_eq_true_eq, IntKind.min, IntKind.max, IntKind.bits, IntKind.signed] at h
  simp at h
  omega
set_option maxRecDepth 100000 in
set_option maxHeartbeats 4000000 in
theorem QueueBack_true (s0 : Option Addr) (l0 c0 : Nat) (F0 : Nat → Nat → Value) (v r x which : Int) (w : World) (r0 : PlainRow [some .u16, some .u16, some .u16] w s0 l0 c0 F0) (g1 : (Lit.int .u64 v).wf = true) (g2 : (Lit.int .u32 r).wf = true) (g3 : (Lit.int .u32 x).wf = true) (g4 : (Lit.int .u8 which).wf = true) :
    Calls Try.prog 3 #[.slice s0 l0 c0, .int .u64 v, .int .u32 r, .int .u32 x, .int .u8 which] w fun e w' => e = .returned (.bool true) ∧ Below w.heap.size w w' := by
  obtain ⟨xs, hx⟩ := small_of r0
  obtain ⟨m, hm⟩ : ∃ m, m = min l0 29 := ⟨_, rfl⟩
  have hle := hx.le
  have hmax := hx.max
  have e0 : min (l0 : Int) 29 = (m : Int) := by omega
  have hml : m ≤ l0 := by omega
  have hm29 : m ≤ 29 := by omega
  have hmc : (m : Int) ≤ (c0 : Int) := by omega
  have hmc2 : m ≤ c0 := by omega
  have A1 := filled_any s0 m c0 (xs.take m) w (hx.take hml)
  rw [show min m 30 = m by omega] at A1
  have b1 := wf_u64 g1
  have b2 := wf_u32 g2
  have b3 := wf_u32 g3
  have b4 := wf_u8 g4
  obtain ⟨wi, rfl⟩ : ∃ k : Nat, which = (k : Int) := ⟨which.toNat, by omega⟩
  have hwi0 : (0 : Int) ≤ (wi : Int) := by omega
  have hwi1 : (wi : Int) ≤ 255 := b4.2
  have HO := Lib.hid (show Ch.Ok v (Ch.madeR v r x) (1 + x % 65536) from Ch.made_ok b1 b2.1 b3.1)
  have AM := Lib.hid fun W => Made_any v r x W b1 b2 b3
  obtain ⟨M, hM⟩ : ∃ M, M = fillM (xs.take m) m := ⟨_, rfl⟩
  unfold QFilledP at A1
  rw [← hM] at A1
  have HL := Lib.hid (show M.length = m by rw [hM]; exact fillM_len _ _)
  have HE := Lib.hid (show ∀ j : Nat, j < m → ∃ y, entM M (j : Int) = some y by intro j hj; rw [hM]; exact ⟨_, fillM_ent _ _ _ hj⟩)
  have HN := Lib.hid (show entM M 29 = none by rw [hM]; exact fillM_ge _ _ _ (Or.inr (by omega)))
  have HA1 := Lib.hid A1
  have AW := Lib.hid fun W => awake_any W
  generalize Ch.madeR v r x = rr at *
  generalize 1 + x % 65536 = cc at *
  clear A1 hx r0 hm hle hmax hM b1 b2 b3 b4 g1 g2 g3 g4
  go_enter Try.func3, Try.ntmps3
  go_wp2_with fail
  refine HA1.out.mono ?_
  rintro e w1 ⟨q, F1, fl1, rfl, h1⟩
  have H1 := Lib.hid h1
  have HK := Lib.hid h1.inn.ids
  clear h1
  go_wp2_with fail
  refine (QAll_at w1 H1.out.inn).mono ?_
  rintro e w11 ⟨v11, rfl, hr11, hb⟩
  have VA := Lib.hid (held_own hr11 hb H1.out.inn.lt)
  obtain ⟨a11, c11, rfl, -⟩ := id VA.out
  clear hr11
  have t12 : Step F1 w1 F1 w11 := Step.of hb
  have H12 := Lib.hid (H1.out.later hb)
  clear t12
  clear hb
  go_wp2_with fail
  refine (Load_at w11 H12.out.inn).mono ?_
  rintro e w_ ⟨rfl, rfl⟩
  go_wp2_with fail
  refine (AM.out w11).mono ?_
  rintro e w13 ⟨rfl, hb⟩
  have t14 : Step F1 w11 F1 w13 := Step.of hb
  have H14 := Lib.hid (H12.out.later hb)
  replace VA := Lib.hid (VA.out.step t14.kept t14.new)
  clear t14
  clear hb
  have hlt := H14.out.inn.lt
  have hb : Below w13.heap.size w13 (w13.alloc (.cells #[.int .u64 v, .int .u32 rr, .int .u32 cc] 32)) := below_a _ _
  have t16 : Step F1 w13 F1 (w13.alloc (.cells #[.int .u64 v, .int .u32 rr, .int .u32 cc] 32)) := Step.of hb
  have H16 := Lib.hid (H14.out.later hb)
  replace VA := Lib.hid (VA.out.step t16.kept t16.new)
  clear t16
  have x0 : (w13.alloc (.cells #[.int .u64 v, .int .u32 rr, .int .u32 cc] 32)).cell? ⟨w13.heap.size, 0, none⟩ = some (.int .u64 v) := cell_nw _ _ _ 0 _ rfl
  have x1 : (w13.alloc (.cells #[.int .u64 v, .int .u32 rr, .int .u32 cc] 32)).cell? ⟨w13.heap.size, 1, none⟩ = some (.int .u32 rr) := cell_nw _ _ _ 1 _ rfl
  have x2 : (w13.alloc (.cells #[.int .u64 v, .int .u32 rr, .int .u32 cc] 32)).cell? ⟨w13.heap.size, 2, none⟩ = some (.int .u32 cc) := cell_nw _ _ _ 2 _ rfl
  have ox : w13.heap.size ∉ F1 := fun m => by have := hlt _ m; omega
  have lx := lt_of_cell x0
  clear hb hlt
  go_wp2_with fail
  generalize (w13.alloc (.cells #[.int .u64 v, .int .u32 rr, .int .u32 cc] 32)) = W15 at *
  generalize w13.heap.size = b_x at *
  obtain ⟨n1, n2⟩ := enter_new (n := 30) (M := M) (x := (v, rr, cc)) (has_true (id := 29) (by decide) (by decide)) HO.out HN.out
  have n3 : entM (putM M (29, v, rr, cc)) 29 = some (v, rr, cc) := by rw [ent_put HK.out.1.nod HN.out]; rfl
  obtain ⟨p1, p2, p3⟩ := leave_there (n := 30) (has_true (id := 29) (by decide) (by decide)) n3
  have HP := Lib.hid (And.intro p1 (And.intro p2 p3))
  clear p1 p2 p3 n3
  go_wp2_with fail
  refine (Enter_at 29 (v, rr, cc) W15 H16.out.inn (by decide) HO.out.fits).mono ?_
  rintro e w17 ⟨rfl, hA⟩
  rw [n1]
  rw [n2] at hA
  clear n1 n2
  obtain ⟨F18, h18, t18⟩ := H16.out.step hA
  have H18 := Lib.hid (show QW w q 30 (putM M (29, v, rr, cc)) _ w17 F18 from h18)
  replace x0 := t18.cell ox x0
  replace x1 := t18.cell ox x1
  replace x2 := t18.cell ox x2
  replace ox := t18.off ox lx
  replace lx := lt_of_cell x0
  replace VA := Lib.hid (VA.out.step t18.kept t18.new)
  clear t18 h18 hA
  go_wp2_with fail
  refine (Leave_at 29 w17 H18.out.inn (by decide)).mono ?_
  rintro e w19 ⟨rfl, hA⟩
  rw [HP.out.1, HP.out.2.1]
  rw [HP.out.2.2] at hA
  obtain ⟨_, hq_, -⟩ := id hA
  have hok := hq_.ids.1
  rw [mems_eq hok HK.out.1 (out_put HK.out.1.nod HN.out)] at hA
  clear hok hq_
  obtain ⟨F20, h20, t20⟩ := H18.out.step hA
  have H20 := Lib.hid (show QW w q 30 M _ w19 F20 from h20)
  replace x0 := t20.cell ox x0
  replace x1 := t20.cell ox x1
  replace x2 := t20.cell ox x2
  replace ox := t20.off ox lx
  replace lx := lt_of_cell x0
  replace VA := Lib.hid (VA.out.step t20.kept t20.new)
  clear t20 h20 hA
  have z0 : eq3 v rr cc v rr cc = true := by simp [eq3]
  have hlt := H20.out.inn.lt
  have hb : Below w19.heap.size w19 (w19.alloc (.cells #[.int .u64 v, .int .u32 rr, .int .u32 cc] 32)) := below_a _ _
  have t22 : Step F20 w19 F20 (w19.alloc (.cells #[.int .u64 v, .int .u32 rr, .int .u32 cc] 32)) := Step.of hb
  have H22 := Lib.hid (H20.out.later hb)
  replace x0 := t22.cell ox x0
  replace x1 := t22.cell ox x1
  replace x2 := t22.cell ox x2
  replace ox := t22.off ox lx
  replace lx := lt_of_cell x0
  replace VA := Lib.hid (VA.out.step t22.kept t22.new)
  clear t22
  have y0 : (w19.alloc (.cells #[.int .u64 v, .int .u32 rr, .int .u32 cc] 32)).cell? ⟨w19.heap.size, 0, none⟩ = some (.int .u64 v) := cell_nw _ _ _ 0 _ rfl
  have y1 : (w19.alloc (.cells #[.int .u64 v, .int .u32 rr, .int .u32 cc] 32)).cell? ⟨w19.heap.size, 1, none⟩ = some (.int .u32 rr) := cell_nw _ _ _ 1 _ rfl
  have y2 : (w19.alloc (.cells #[.int .u64 v, .int .u32 rr, .int .u32 cc] 32)).cell? ⟨w19.heap.size, 2, none⟩ = some (.int .u32 cc) := cell_nw _ _ _ 2 _ rfl
  have oy : w19.heap.size ∉ F20 := fun m => by have := hlt _ m; omega
  have ly := lt_of_cell y0
  clear hb hlt
  go_wp2_with fail
  generalize (w19.alloc (.cells #[.int .u64 v, .int .u32 rr, .int .u32 cc] 32)) = W21 at *
  generalize w19.heap.size = b_y at *
  have hl1 : M.length ≤ 1000000 := by rw [HL.out]; omega
  go_wp2_with fail
  refine (Load_at W21 H22.out.inn).mono ?_
  rintro e w_ ⟨rfl, rfl⟩
  go_wp2_with fail
  refine (QAll_at W21 H22.out.inn).mono ?_
  rintro e w23 ⟨v23, rfl, hr23, hb⟩
  have VB := Lib.hid (held_own hr23 hb H22.out.inn.lt)
  obtain ⟨a23, c23, rfl, -⟩ := id VB.out
  clear hr23
  have t24 : Step F20 W21 F20 w23 := Step.of hb
  have H24 := Lib.hid (H22.out.later hb)
  replace x0 := t24.cell ox x0
  replace x1 := t24.cell ox x1
  replace x2 := t24.cell ox x2
  replace ox := t24.off ox lx
  replace lx := lt_of_cell x0
  replace y0 := t24.cell oy y0
  replace y1 := t24.cell oy y1
  replace y2 := t24.cell oy y2
  replace oy := t24.off oy ly
  replace ly := lt_of_cell y0
  replace VA := Lib.hid (VA.out.step t24.kept t24.new)
  clear t24
  clear hb
  go_wp2_with fail
  refine (alike_any _ _ M M w23 VB.out.recs VA.out.recs (by omega) (by omega)).mono ?_
  rintro e w25 ⟨rfl, hq_⟩
  have hb : Below w23.heap.size w23 w25 := by obtain ⟨_, rfl⟩ := hq_; exact below_drewN (Below.refl _ _) _
  clear hq_
  rw [sameM_true rfl]
  have t26 : Step F20 w23 F20 w25 := Step.of hb
  have H26 := Lib.hid (H24.out.later hb)
  replace x0 := t26.cell ox x0
  replace x1 := t26.cell ox x1
  replace x2 := t26.cell ox x2
  replace ox := t26.off ox lx
  replace lx := lt_of_cell x0
  replace y0 := t26.cell oy y0
  replace y1 := t26.cell oy y1
  replace y2 := t26.cell oy y2
  replace oy := t26.off oy ly
  replace ly := lt_of_cell y0
  replace VA := Lib.hid (VA.out.step t26.kept t26.new)
  replace VB := Lib.hid (VB.out.step t26.kept t26.new)
  clear t26
  clear hb
  by_cases hm0 : m = 0
  · have zz : ((m : Int) == 0) = true := by simp [hm0]
    go_wp2_with fail
    refine (AW.out w25).mono ?_
    rintro e w9 ⟨rfl, hb9⟩
    have HB9 := Lib.hid (Below.step H26.out.bel hb9)
    clear hb9
    go_wp2_with fail
    go_ret
    exact ⟨rfl, HB9.out⟩
  · have zz : ((m : Int) == 0) = false := by simp; omega
    have hj := Nat.mod_lt wi (show 0 < m by omega)
    have hje : (wi : Int) % (m : Int) = ((wi % m : Nat) : Int) := (Int.natCast_emod _ _).symm
    generalize wi % m = j at *
    obtain ⟨⟨z1, z2, z3⟩, hz⟩ := HE.out j hj
    have hwf : (Lit.int .i64 (j : Int)).wf = true := WalkArith.wf_i64 (n := (j : Int)) (by omega)
    have hoz := HK.out.1.ok _ ((ent_some HK.out.1.nod).1 hz)
    obtain ⟨p1, p2, p3⟩ := leave_there (n := 30) (has_true (id := (j : Int)) (by omega) (by omega)) hz
    have HOZ := Lib.hid hoz
    have HZ := Lib.hid hz
    have HWF := Lib.hid hwf
    have HP2 := Lib.hid (And.intro p1 (And.intro p2 p3))
    have HJ := Lib.hid hj
    have hmm : (m : Int) ≠ 0 := by omega
    have hmp : (0 : Int) < (m : Int) := by omega
    have HLO := Lib.hid (load_out HK.out.1.nod hz)
    clear p1 p2 p3 hz hoz hwf hj
    go_wp2_with fail
    refine (Leave_at (j : Int) w25 H26.out.inn HWF.out).mono ?_
    rintro e w27 ⟨rfl, hA⟩
    rw [HP2.out.1, HP2.out.2.1]
    rw [HP2.out.2.2] at hA
    obtain ⟨F28, h28, t28⟩ := H26.out.step hA
    have H28 := Lib.hid (show QW w q 30 (outM M (j : Int)) _ w27 F28 from h28)
    replace x0 := t28.cell ox x0
    replace x1 := t28.cell ox x1
    replace x2 := t28.cell ox x2
    replace ox := t28.off ox lx
    replace lx := lt_of_cell x0
    replace y0 := t28.cell oy y0
    replace y1 := t28.cell oy y1
    replace y2 := t28.cell oy y2
    replace oy := t28.off oy ly
    replace ly := lt_of_cell y0
    replace VA := Lib.hid (VA.out.step t28.kept t28.new)
    replace VB := Lib.hid (VB.out.step t28.kept t28.new)
    clear t28 h28 hA
    have hlt := H28.out.inn.lt
    have hb : Below w27.heap.size w27 (w27.alloc (.cells #[.int .u64 z1, .int .u32 z2, .int .u32 z3] 32)) := below_a _ _
    have t30 : Step F28 w27 F28 (w27.alloc (.cells #[.int .u64 z1, .int .u32 z2, .int .u32 z3] 32)) := Step.of hb
    have H30 := Lib.hid (H28.out.later hb)
    replace x0 := t30.cell ox x0
    replace x1 := t30.cell ox x1
    replace x2 := t30.cell ox x2
    replace ox := t30.off ox lx
    replace lx := lt_of_cell x0
    replace y0 := t30.cell oy y0
    replace y1 := t30.cell oy y1
    replace y2 := t30.cell oy y2
    replace oy := t30.off oy ly
    replace ly := lt_of_cell y0
    replace VA := Lib.hid (VA.out.step t30.kept t30.new)
    replace VB := Lib.hid (VB.out.step t30.kept t30.new)
    clear t30
    have u0 : (w27.alloc (.cells #[.int .u64 z1, .int .u32 z2, .int .u32 z3] 32)).cell? ⟨w27.heap.size, 0, none⟩ = some (.int .u64 z1) := cell_nw _ _ _ 0 _ rfl
    have u1 : (w27.alloc (.cells #[.int .u64 z1, .int .u32 z2, .int .u32 z3] 32)).cell? ⟨w27.heap.size, 1, none⟩ = some (.int .u32 z2) := cell_nw _ _ _ 1 _ rfl
    have u2 : (w27.alloc (.cells #[.int .u64 z1, .int .u32 z2, .int .u32 z3] 32)).cell? ⟨w27.heap.size, 2, none⟩ = some (.int .u32 z3) := cell_nw _ _ _ 2 _ rfl
    have ou : w27.heap.size ∉ F28 := fun m => by have := hlt _ m; omega
    have lu := lt_of_cell u0
    clear hb hlt
    go_wp2_with fail
    generalize (w27.alloc (.cells #[.int .u64 z1, .int .u32 z2, .int .u32 z3] 32)) = W29 at *
    generalize w27.heap.size = b_u at *
    go_wp2_with fail
    refine (Load_at W29 H30.out.inn).mono ?_
    rintro e w_ ⟨rfl, rfl⟩
    rw [show loadM (outM M (j : Int)) = loadM M - z3 from HLO.out]
    obtain ⟨p1, p2⟩ := enter_new (n := 30) (M := outM M (j : Int)) (x := (z1, z2, z3)) (has_true (id := (j : Int)) (by omega) (by have := HJ.out; omega)) HOZ.out (by rw [ent_out HK.out.1.nod]; simp)
    have hzo := HOZ.out
    unfold Ch.Ok at hzo
    have hz30 : 0 ≤ z3 := by omega
    have hz31 : z3 ≤ 4294967295 := by omega
    have hlo := load_le HK.out.1.ok
    rw [HL.out] at hlo
    have hwr : IntKind.i64.wrap (loadM M - z3) = loadM M - z3 := IntWalk.i64_in _ (by omega)
    clear hlo hzo
    go_wp2_with fail
    refine (Enter_at (j : Int) (z1, z2, z3) W29 H30.out.inn HWF.out HOZ.out.fits).mono ?_
    rintro e w31 ⟨rfl, hA⟩
    rw [p1]
    rw [p2] at hA
    clear p1 p2
    obtain ⟨_, hq_, -⟩ := id hA
    have hok := hq_.ids.1
    rw [mems_eq hok HK.out.1 (put_out HK.out.1.nod HZ.out)] at hA
    clear hok hq_
    obtain ⟨F32, h32, t32⟩ := H30.out.step hA
    have H32 := Lib.hid (show QW w q 30 M _ w31 F32 from h32)
    replace x0 := t32.cell ox x0
    replace x1 := t32.cell ox x1
    replace x2 := t32.cell ox x2
    replace ox := t32.off ox lx
    replace lx := lt_of_cell x0
    replace y0 := t32.cell oy y0
    replace y1 := t32.cell oy y1
    replace y2 := t32.cell oy y2
    replace oy := t32.off oy ly
    replace ly := lt_of_cell y0
    replace u0 := t32.cell ou u0
    replace u1 := t32.cell ou u1
    replace u2 := t32.cell ou u2
    replace ou := t32.off ou lu
    replace lu := lt_of_cell u0
    replace VA := Lib.hid (VA.out.step t32.kept t32.new)
    replace VB := Lib.hid (VB.out.step t32.kept t32.new)
    clear t32 h32 hA
    go_wp2_with fail
    refine (Load_at w31 H32.out.inn).mono ?_
    rintro e w_ ⟨rfl, rfl⟩
    go_wp2_with fail
    refine (QAll_at w31 H32.out.inn).mono ?_
    rintro e w33 ⟨v33, rfl, hr33, hb⟩
    have VC := Lib.hid (held_own hr33 hb H32.out.inn.lt)
    obtain ⟨a33, c33, rfl, -⟩ := id VC.out
    clear hr33
    have t34 : Step F32 w31 F32 w33 := Step.of hb
    have H34 := Lib.hid (H32.out.later hb)
    replace x0 := t34.cell ox x0
    replace x1 := t34.cell ox x1
    replace x2 := t34.cell ox x2
    replace ox := t34.off ox lx
    replace lx := lt_of_cell x0
    replace y0 := t34.cell oy y0
    replace y1 := t34.cell oy y1
    replace y2 := t34.cell oy y2
    replace oy := t34.off oy ly
    replace ly := lt_of_cell y0
    replace u0 := t34.cell ou u0
    replace u1 := t34.cell ou u1
    replace u2 := t34.cell ou u2
    replace ou := t34.off ou lu
    replace lu := lt_of_cell u0
    replace VA := Lib.hid (VA.out.step t34.kept t34.new)
    replace VB := Lib.hid (VB.out.step t34.kept t34.new)
    clear t34
    clear hb
    go_wp2_with fail
    refine (alike_any _ _ M M w33 VC.out.recs VA.out.recs (by omega) (by omega)).mono ?_
    rintro e w35 ⟨rfl, hq_⟩
    have hb : Below w33.heap.size w33 w35 := by obtain ⟨_, rfl⟩ := hq_; exact below_drewN (Below.refl _ _) _
    clear hq_
    rw [sameM_true rfl]
    have t36 : Step F32 w33 F32 w35 := Step.of hb
    have H36 := Lib.hid (H34.out.later hb)
    replace x0 := t36.cell ox x0
    replace x1 := t36.cell ox x1
    replace x2 := t36.cell ox x2
    replace ox := t36.off ox lx
    replace lx := lt_of_cell x0
    replace y0 := t36.cell oy y0
    replace y1 := t36.cell oy y1
    replace y2 := t36.cell oy y2
    replace oy := t36.off oy ly
    replace ly := lt_of_cell y0
    replace u0 := t36.cell ou u0
    replace u1 := t36.cell ou u1
    replace u2 := t36.cell ou u2
    replace ou := t36.off ou lu
    replace lu := lt_of_cell u0
    replace VA := Lib.hid (VA.out.step t36.kept t36.new)
    replace VB := Lib.hid (VB.out.step t36.kept t36.new)
    replace VC := Lib.hid (VC.out.step t36.kept t36.new)
    clear t36
    clear hb
    go_wp2_with fail
    refine (AW.out w35).mono ?_
    rintro e w9 ⟨rfl, hb9⟩
    have HB9 := Lib.hid (Below.step H36.out.bel hb9)
    clear hb9
    go_wp2_with fail
    go_ret
    exact ⟨rfl, HB9.out⟩
end Go.Proofs.Ytekjakmeopolhaa
