/-
  TopFair: for every input the law returns true and its arguments read afterwards as before. No condition beyond the given row's own.
-/
import Derived.Test.YtapnaocdehahdaaGreatTfC
import Derived.Test.YtapnaocdehahdaaGreatKtA
import Derived.Test.YtapnaocdehahdaaGreatTopFairJ
namespace Go.Proofs.YtapnaocdehahdaaGreat.topFair
open Go.ChangeShapes Go.WideShapes Go.ChangeAt Go.RowKit
set_option linter.unusedVariables false
set_option linter.unusedSimpArgs false

theorem own : ownKnob Tryz.prog.godebug = none := by kernel_rfl
theorem laidOut : laidOutB Tryz.prog = true := by kernel_rfl

set_option maxRecDepth 100000 in
theorem lifted (os : Os) (started : os.Started) (H : Type) (enc : TypeId × Value → H) :
    ReturnsInHanded {} Tryz.checked os 10 .any (Rows.topFairSpec.pre6 enc Tryz.prog Tryz.f10 Rows.topFairRow.domain false) (Rows.topFairSpec.post enc Tryz.prog Tryz.f10 false true false false) := by
  refine returnsInHanded_of_change (C := Tryz.checked) own started (by kernel_rfl) Tryz.func10
    (ChangeSpec.witness6 (enc := enc) (C := Tryz.checked) false ⟨#[], #[.agg #[.int .u8 0, .int .u8 0, .int .u32 0, .int .u8 0, .int .u8 0, .int .u8 0, .int .u8 0, .int .u8 0, .int .u16 0, .int .u16 0, .int .u16 0, .int .u16 0, .int .u16 0], .slice none 0 0, .slice none 0 0], []⟩ 8 (by kernel_rfl) (by kernel_rfl) (by kernel_rfl) (by kernel_rfl)) ?_
  intro W base args ds gs before hval0 hW hcnd _
  have hval : ∀ (j : Nat) t v, Tryz.f10.params[j]? = some t → args[j]? = some v → Value.okWide Tryz.prog W .any base t v := hval0
  have hW' := hW
  obtain ⟨p, q, hA0, hV, rfl, hfz, hnd⟩ := hW
  have hA : DataW.TrodAll enc Tryz.prog W 0 (fun _ => true) true Tryz.f10.params.toList args.toList ds p := hA0
  rw [Tryz.params10] at hA hval
  obtain ⟨v0, vs0, d0, ds0, p0, q0, hargs, rfl, rfl, h0, r_0⟩ := trodAll_cons hA
  obtain ⟨v1, vs1, d1, ds1, p1, q1, rfl, rfl, rfl, h1, r_1⟩ := trodAll_cons r_0
  obtain ⟨v2, vs2, d2, ds2, p2, q2, rfl, rfl, rfl, h2, r_2⟩ := trodAll_cons r_1
  obtain ⟨rfl, rfl, rfl⟩ := trodAll_nil r_2
  obtain rfl : args = #[v0, v1, v2] := by cases args; simp_all
  obtain ⟨rfl, rfl⟩ := trodVars_none hV
  have t0 := h0
  have lt0 : ∀ x ∈ p0, x.block < W.heap.size := by obtain ⟨m, hm⟩ := t0; exact DataW.trod_lt m _ _ _ hm
  obtain ⟨cs0, rfl, hs0, hf0⟩ := open_plain (ks := [some .u8, some .u8, some .u32, some .u8, some .u8, some .u8, some .u8, some .u8, some .u16, some .u16, some .u16, some .u16, some .u16]) 8 (by kernel_rfl) (by kernel_rfl) (by kernel_rfl) (hval 0 27 v0 rfl rfl) h0
  obtain ⟨z0_0, z0_1, z0_2, z0_3, z0_4, z0_5, z0_6, z0_7, z0_8, z0_9, z0_10, z0_11, z0_12, rfl⟩ := cells_13 hs0
  obtain ⟨u0_0, e0_0, a0_0, rfl, g0_0⟩ := hf0 0 _ rfl
  simp only [List.getElem?_cons_zero, List.getElem?_cons_succ, Option.some.injEq] at e0_0
  subst e0_0
  obtain ⟨u0_1, e0_1, a0_1, rfl, g0_1⟩ := hf0 1 _ rfl
  simp only [List.getElem?_cons_zero, List.getElem?_cons_succ, Option.some.injEq] at e0_1
  subst e0_1
  obtain ⟨u0_2, e0_2, a0_2, rfl, g0_2⟩ := hf0 2 _ rfl
  simp only [List.getElem?_cons_zero, List.getElem?_cons_succ, Option.some.injEq] at e0_2
  subst e0_2
  obtain ⟨u0_3, e0_3, a0_3, rfl, g0_3⟩ := hf0 3 _ rfl
  simp only [List.getElem?_cons_zero, List.getElem?_cons_succ, Option.some.injEq] at e0_3
  subst e0_3
  obtain ⟨u0_4, e0_4, a0_4, rfl, g0_4⟩ := hf0 4 _ rfl
  simp only [List.getElem?_cons_zero, List.getElem?_cons_succ, Option.some.injEq] at e0_4
  subst e0_4
  obtain ⟨u0_5, e0_5, a0_5, rfl, g0_5⟩ := hf0 5 _ rfl
  simp only [List.getElem?_cons_zero, List.getElem?_cons_succ, Option.some.injEq] at e0_5
  subst e0_5
  obtain ⟨u0_6, e0_6, a0_6, rfl, g0_6⟩ := hf0 6 _ rfl
  simp only [List.getElem?_cons_zero, List.getElem?_cons_succ, Option.some.injEq] at e0_6
  subst e0_6
  obtain ⟨u0_7, e0_7, a0_7, rfl, g0_7⟩ := hf0 7 _ rfl
  simp only [List.getElem?_cons_zero, List.getElem?_cons_succ, Option.some.injEq] at e0_7
  subst e0_7
  obtain ⟨u0_8, e0_8, a0_8, rfl, g0_8⟩ := hf0 8 _ rfl
  simp only [List.getElem?_cons_zero, List.getElem?_cons_succ, Option.some.injEq] at e0_8
  subst e0_8
  obtain ⟨u0_9, e0_9, a0_9, rfl, g0_9⟩ := hf0 9 _ rfl
  simp only [List.getElem?_cons_zero, List.getElem?_cons_succ, Option.some.injEq] at e0_9
  subst e0_9
  obtain ⟨u0_10, e0_10, a0_10, rfl, g0_10⟩ := hf0 10 _ rfl
  simp only [List.getElem?_cons_zero, List.getElem?_cons_succ, Option.some.injEq] at e0_10
  subst e0_10
  obtain ⟨u0_11, e0_11, a0_11, rfl, g0_11⟩ := hf0 11 _ rfl
  simp only [List.getElem?_cons_zero, List.getElem?_cons_succ, Option.some.injEq] at e0_11
  subst e0_11
  obtain ⟨u0_12, e0_12, a0_12, rfl, g0_12⟩ := hf0 12 _ rfl
  simp only [List.getElem?_cons_zero, List.getElem?_cons_succ, Option.some.injEq] at e0_12
  subst e0_12
  have t1 := h1
  have lt1 : ∀ x ∈ p1, x.block < W.heap.size := by obtain ⟨m, hm⟩ := t1; exact DataW.trod_lt m _ _ _ hm
  obtain ⟨s1, l1, c1, rfl⟩ := okWide_slice Tryz.underlying28 (hval 1 28 v1 rfl rfl)
  obtain ⟨F1, r1⟩ := open_rows (ks := [some .u8, some .u8, some .u8, some .u8, some .u8, some .u16, some .u32, some .u8]) 8 Tryz.underlying28 (by kernel_rfl) (by kernel_rfl) (by decide) h1
  have t2 := h2
  have lt2 : ∀ x ∈ p2, x.block < W.heap.size := by obtain ⟨m, hm⟩ := t2; exact DataW.trod_lt m _ _ _ hm
  obtain ⟨s2, l2, c2, rfl⟩ := okWide_slice Tryz.underlying74 (hval 2 74 v2 rfl rfl)
  obtain ⟨F2, r2⟩ := open_rows (ks := [some .u16]) 8 Tryz.underlying74 (by kernel_rfl) (by kernel_rfl) (by decide) h2
  clear hA0 hval0
  refine (TopFair_true a0_0 a0_1 a0_2 a0_3 a0_4 a0_5 a0_6 a0_7 a0_8 a0_9 a0_10 a0_11 a0_12 s1 l1 c1 F1 s2 l2 c2 F2 W g0_0 g0_1 g0_2 g0_3 g0_4 g0_5 g0_6 g0_7 g0_8 g0_9 g0_10 g0_11 g0_12 r1 r2).mono fun e W' ⟨he, bel⟩ => ?_
  subst he
  exact ⟨_, rfl, _, _, _, [], _, [], hW', trodAll_mk1 (shut_bool Tryz.underlying4 _), (trodAll_cons_mk (Below.trod laidOut (by kernel_rfl) (of_decide_eq_true (by kernel_rfl)) t0 bel lt0) (trodAll_cons_mk (Below.trod laidOut (by kernel_rfl) (of_decide_eq_true (by kernel_rfl)) t1 bel lt1) (trodAll_cons_mk (Below.trod laidOut (by kernel_rfl) (of_decide_eq_true (by kernel_rfl)) t2 bel lt2) trodAll_mk0))), rfl, bel.frame _, fun h => by cases h⟩

theorem proved : Rows.TopFairSaid :=
  OpenClaim.holds_of_wide 10 Tryz.f10 rfl rfl rfl rfl rfl rfl rfl ⟨rfl, rfl, rfl, rfl, rfl⟩ rfl rfl rfl rfl rfl (by kernel_rfl) Tryz.func10 closed
    (of_decide_eq_true (by kernel_rfl)) (by unfold Func.isWrapper; first | (rw [if_pos (by decide +kernel)]; kernel_rfl) | (rw [if_neg (by decide +kernel)]; exact ⟨rfl, rfl⟩))
    (fun os started H enc _ => lifted os started H enc)
#print axioms proved
end Go.Proofs.YtapnaocdehahdaaGreat.topFair
