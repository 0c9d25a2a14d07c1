/-
  The walks of the reference of layer 22 (Until, Less), and 'tells': the program and the reference agree on every input.
-/
import Derived.Test.YtbddiagnijcmhaaChargeR
namespace Go.Proofs.Ytbddiagnijcmhaa
open Go.RowKit Go.Shelf
set_option linter.unusedVariables false
/-! Until of the reference -/
theorem Ch.runtil {v r c to : Int} (h : Ch.Ok v r c) (hto : to ≤ 18446744073709551615) (hv : v < to) :
    (4503599627370496 < to - v ∧ Ch.untilT v r c to = 0 ∧ Ch.untilE v r c to = 6) ∨
    (to - v ≤ 4503599627370496 ∧ 18446744073709551615 / c < to - v ∧ Ch.untilT v r c to = 0 ∧ Ch.untilE v r c to = 6) ∨
    (to - v ≤ 4503599627370496 ∧ to - v ≤ 18446744073709551615 / c ∧ (to - v) * c ≤ 18446744073709551615 ∧ r ≤ (to - v) * c ∧
      ∃ q, ((0 < ((to - v) * c - r) % 1048576 ∧ q = ((to - v) * c - r) / 1048576 + 1) ∨ (((to - v) * c - r) % 1048576 ≤ 0 ∧ q = ((to - v) * c - r) / 1048576)) ∧
        ((4294967295 < q ∧ Ch.untilT v r c to = 0 ∧ Ch.untilE v r c to = 6) ∨ (q ≤ 4294967295 ∧ Ch.untilT v r c to = q ∧ Ch.untilE v r c to = 0))) := by
  obtain ⟨h1, h2, h3, h4, h5, h6, h7⟩ := h
  have hN : Ch.untilN v r c to = ((to - v) * c - r + 1048575) / 1048576 := by unfold Ch.untilN; rw [if_neg (by omega)]
  have none : 4294967295 < Ch.untilN v r c to → Ch.untilT v r c to = 0 ∧ Ch.untilE v r c to = 6 := fun k =>
    ⟨by unfold Ch.untilT; rw [if_neg (by omega)], by unfold Ch.untilE; rw [if_neg (by omega)]⟩
  have some : Ch.untilN v r c to ≤ 4294967295 → Ch.untilT v r c to = Ch.untilN v r c to ∧ Ch.untilE v r c to = 0 := fun k =>
    ⟨by unfold Ch.untilT; rw [if_pos k], by unfold Ch.untilE; rw [if_pos k]⟩
  have hm : c ≤ (to - v) * c := by
    have := Int.mul_le_mul_of_nonneg_right (show 1 ≤ to - v by omega) (show 0 ≤ c by omega)
    omega
  by_cases a : 4503599627370496 < to - v
  · refine Or.inl ⟨a, none ?_⟩
    rw [hN]
    have := Int.mul_le_mul_of_nonneg_right (show 4503599627370497 ≤ to - v by omega) (show 0 ≤ c by omega)
    omega
  · by_cases b : 18446744073709551615 / c < to - v
    · refine Or.inr (Or.inl ⟨by omega, b, none ?_⟩)
      rw [hN]
      have : 18446744073709551615 < (to - v) * c := (Int.ediv_lt_iff_lt_mul (by omega)).1 b
      omega
    · have e : (to - v) * c ≤ 18446744073709551615 := (Int.le_ediv_iff_mul_le (by omega)).1 (by omega)
      refine Or.inr (Or.inr ⟨by omega, by omega, e, by omega, ?_⟩)
      generalize (to - v) * c = m at *
      by_cases z : 0 < (m - r) % 1048576
      · refine ⟨(m - r) / 1048576 + 1, Or.inl ⟨z, rfl⟩, ?_⟩
        have q : Ch.untilN v r c to = (m - r) / 1048576 + 1 := by omega
        by_cases y : Ch.untilN v r c to ≤ 4294967295
        · exact Or.inr ⟨by omega, by rw [(some y).1, q], (some y).2⟩
        · exact Or.inl ⟨by omega, none (by omega)⟩
      · refine ⟨(m - r) / 1048576, Or.inr ⟨by omega, rfl⟩, ?_⟩
        have q : Ch.untilN v r c to = (m - r) / 1048576 := by omega
        by_cases y : Ch.untilN v r c to ≤ 4294967295
        · exact Or.inr ⟨by omega, by rw [(some y).1, q], (some y).2⟩
        · exact Or.inl ⟨by omega, none (by omega)⟩
set_option maxHeartbeats 2000000 in
theorem rUntil_ok (v r c to : Int) (w : World) (h : Ch.Ok v r c) (hto : 0 ≤ to ∧ to ≤ 18446744073709551615) :
    Calls Try.prog 30 #[.agg #[.int .u64 v, .int .u32 r, .int .u32 c], .int .u64 to] w fun e w' => e = .returned (.tuple #[.int .i64 (Ch.untilT v r c to), .int .i64 (Ch.untilE v r c to)]) ∧ Below w.heap.size w w' := by
  have k1 := Ch.okB_t h
  have hf := h.fits
  obtain ⟨t0, t1⟩ := hto
  by_cases hv : to ≤ v
  · rw [show Ch.untilT v r c to = 0 by unfold Ch.untilT Ch.untilN; rw [if_pos hv]; rfl, show Ch.untilE v r c to = 0 by unfold Ch.untilE Ch.untilN; rw [if_pos hv]; rfl]
    go_enter Try.func30, Try.ntmps30
    go_wp2_with fail
    refine (rRight_any _ _ _ _ hf).mono ?_; rintro e w1 ⟨rfl, hb1⟩; rw [k1]
    obtain ⟨hc1, hf1⟩ := bcell hb1
    go_wp2_with fail
    go_ret2
    refine ⟨rfl, ?_⟩
    repeat (first | exact Below.refl _ _ | refine Below.step ?_ (by assumption) | refine Below.setCell ?_ (by first | (simp; done) | (simp; omega) | omega) _ | refine Below.allocS ?_ _ | refine Below.drew ?_ | refine below_drewN ?_ _)
  · have hh := Ch.runtil h t1 (by omega)
    obtain ⟨o1, o2, o3, o4, o5, o6, _⟩ := h
    rcases hh with ⟨a, e1, e2⟩ | ⟨a, b, e1, e2⟩ | ⟨a, b, m1, m2, q, hq, hr⟩
    · rw [e1, e2]
      clear e1 e2
      go_enter Try.func30, Try.ntmps30
      go_wp2_with fail
      refine (rRight_any _ _ _ _ hf).mono ?_; rintro e w1 ⟨rfl, hb1⟩; rw [k1]
      obtain ⟨hc1, hf1⟩ := bcell hb1
      go_wp2_with fail
      go_ret2
      refine ⟨rfl, ?_⟩
      repeat (first | exact Below.refl _ _ | refine Below.step ?_ (by assumption) | refine Below.setCell ?_ (by first | (simp; done) | (simp; omega) | omega) _ | refine Below.allocS ?_ _ | refine Below.drew ?_ | refine below_drewN ?_ _)
    · rw [e1, e2]
      clear e1 e2
      obtain ⟨m, hm, m0, m1⟩ : ∃ m, IntKind.u64.wrap ((to - v) * c) = m ∧ 0 ≤ m ∧ m ≤ 18446744073709551615 := ⟨_, rfl, by rw [IntKind.wrap_u64]; omega, by rw [IntKind.wrap_u64]; omega⟩
      obtain ⟨nd, hn, n0, n1⟩ : ∃ nd, IntKind.u64.wrap (m - r) = nd ∧ 0 ≤ nd ∧ nd ≤ 18446744073709551615 := ⟨_, rfl, by rw [IntKind.wrap_u64]; omega, by rw [IntKind.wrap_u64]; omega⟩
      have g1 : 0 ≤ nd / 1048576 ∧ nd / 1048576 ≤ 17592186044415 := by omega
      have g2 : 0 ≤ 18446744073709551615 / c := Int.ediv_nonneg (by omega) (by omega)
      by_cases z : 0 < nd % 1048576
      all_goals
        go_enter Try.func30, Try.ntmps30
        go_wp2_with fail
        refine (rRight_any _ _ _ _ hf).mono ?_; rintro e w1 ⟨rfl, hb1⟩; rw [k1]
        obtain ⟨hc1, hf1⟩ := bcell hb1
        go_wp2_with fail
        go_ret2
        refine ⟨rfl, ?_⟩
        repeat (first | exact Below.refl _ _ | refine Below.step ?_ (by assumption) | refine Below.setCell ?_ (by first | (simp; done) | (simp; omega) | omega) _ | refine Below.allocS ?_ _ | refine Below.drew ?_ | refine below_drewN ?_ _)
    · have g2 : 0 ≤ 18446744073709551615 / c := Int.ediv_nonneg (by omega) (by omega)
      have m0 : 0 ≤ (to - v) * c := by omega
      have g1 : 0 ≤ ((to - v) * c - r) / 1048576 ∧ ((to - v) * c - r) / 1048576 ≤ 17592186044415 := by omega
      rcases hq with ⟨z, rfl⟩ | ⟨z, rfl⟩
      all_goals rcases hr with ⟨y, e1, e2⟩ | ⟨y, e1, e2⟩
      all_goals rw [e1, e2]
      all_goals clear e1 e2
      all_goals
        go_enter Try.func30, Try.ntmps30
        go_wp2_with fail
        refine (rRight_any _ _ _ _ hf).mono ?_; rintro e w1 ⟨rfl, hb1⟩; rw [k1]
        obtain ⟨hc1, hf1⟩ := bcell hb1
        go_wp2_with fail
        go_ret2
        refine ⟨rfl, ?_⟩
        repeat (first | exact Below.refl _ _ | refine Below.step ?_ (by assumption) | refine Below.setCell ?_ (by first | (simp; done) | (simp; omega) | omega) _ | refine Below.allocS ?_ _ | refine Below.drew ?_ | refine below_drewN ?_ _)
theorem rUntil_bad (v r c to : Int) (w : World) (hf : Ch.Fits v r c) (h : ¬ Ch.Ok v r c) :
    Calls Try.prog 30 #[.agg #[.int .u64 v, .int .u32 r, .int .u32 c], .int .u64 to] w fun e w' => e = .returned (.tuple #[.int .i64 0, .int .i64 2]) ∧ Below w.heap.size w w' := by
  have k1 := Ch.okB_f h
  go_enter Try.func30, Try.ntmps30
  go_wp2_with fail
  refine (rRight_any _ _ _ _ hf).mono ?_; rintro e w1 ⟨rfl, hb1⟩; rw [k1]
  obtain ⟨hc1, hf1⟩ := bcell hb1
  go_wp2_with fail
  go_ret2
  refine ⟨rfl, ?_⟩
  repeat (first | exact Below.refl _ _ | refine Below.step ?_ (by assumption) | refine Below.setCell ?_ (by first | (simp; done) | (simp; omega) | omega) _ | refine Below.allocS ?_ _ | refine Below.drew ?_ | refine below_drewN ?_ _)
def Ch.uN (v r c to : Int) : Int := if Ch.Ok v r c then Ch.untilT v r c to else 0
def Ch.uE (v r c to : Int) : Int := if Ch.Ok v r c then Ch.untilE v r c to else 2
theorem Until_any (v r c to : Int) (w : World) (hf : Ch.Fits v r c) (hto : 0 ≤ to ∧ to ≤ 18446744073709551615) :
    Calls Try.prog 17 #[.agg #[.int .u64 v, .int .u32 r, .int .u32 c], .int .u64 to] w fun e w' => e = .returned (.tuple #[.int .i64 (Ch.uN v r c to), .int .i64 (Ch.uE v r c to)]) ∧ Below w.heap.size w w' := by
  unfold Ch.uN Ch.uE
  by_cases h : Ch.Ok v r c
  · rw [if_pos h, if_pos h]; exact Until_ok v r c to w h hto
  · rw [if_neg h, if_neg h]; exact Until_bad v r c to w hf h
theorem rUntil_any (v r c to : Int) (w : World) (hf : Ch.Fits v r c) (hto : 0 ≤ to ∧ to ≤ 18446744073709551615) :
    Calls Try.prog 30 #[.agg #[.int .u64 v, .int .u32 r, .int .u32 c], .int .u64 to] w fun e w' => e = .returned (.tuple #[.int .i64 (Ch.uN v r c to), .int .i64 (Ch.uE v r c to)]) ∧ Below w.heap.size w w' := by
  unfold Ch.uN Ch.uE
  by_cases h : Ch.Ok v r c
  · rw [if_pos h, if_pos h]; exact rUntil_ok v r c to w h hto
  · rw [if_neg h, if_neg h]; exact rUntil_bad v r c to w hf h

/-! Less -/
def Ch.lB (v r c v2 r2 c2 : Int) : Bool := if Ch.Ok v r c ∧ Ch.Ok v2 r2 c2 then Ch.lessB v r c v2 r2 c2 else false
def Ch.lE (v r c v2 r2 c2 : Int) : Int := if Ch.Ok v r c ∧ Ch.Ok v2 r2 c2 then 0 else 2
theorem Less_any (v r c v2 r2 c2 : Int) (w : World) (hf : Ch.Fits v r c) (hf2 : Ch.Fits v2 r2 c2) :
    Calls Try.prog 19 #[.agg #[.int .u64 v, .int .u32 r, .int .u32 c], .agg #[.int .u64 v2, .int .u32 r2, .int .u32 c2]] w fun e w' => e = .returned (.tuple #[.bool (Ch.lB v r c v2 r2 c2), .int .i64 (Ch.lE v r c v2 r2 c2)]) ∧ Below w.heap.size w w' := by
  unfold Ch.lB Ch.lE
  by_cases h : Ch.Ok v r c ∧ Ch.Ok v2 r2 c2
  · rw [if_pos h, if_pos h]; exact Less_ok v r c v2 r2 c2 w h.1 h.2
  · rw [if_neg h, if_neg h]; exact Less_bad v r c v2 r2 c2 w hf hf2 h
set_option maxHeartbeats 2000000 in
theorem rLess_any (v r c v2 r2 c2 : Int) (w : World) (hx : Ch.Fits v r c) (hy : Ch.Fits v2 r2 c2) :
    Calls Try.prog 32 #[.agg #[.int .u64 v, .int .u32 r, .int .u32 c], .agg #[.int .u64 v2, .int .u32 r2, .int .u32 c2]] w fun e w' => e = .returned (.tuple #[.bool (Ch.lB v r c v2 r2 c2), .int .i64 (Ch.lE v r c v2 r2 c2)]) ∧ Below w.heap.size w w' := by
  unfold Ch.lB Ch.lE
  by_cases h : Ch.Ok v r c
  · have k1 := Ch.okB_t h
    by_cases h2 : Ch.Ok v2 r2 c2
    · rw [if_pos ⟨h, h2⟩, if_pos ⟨h, h2⟩]
      have k2 := Ch.okB_t h2
      have hm1 := Ch.mul_bd h.2.2.1 h.2.2.2.1 h.2.2.2.2.2.1 (show 0 ≤ c2 by have := h2.2.2.2.2.1; omega) h2.2.2.2.2.2.1
      have hm2 := Ch.mul_bd h2.2.2.1 h2.2.2.2.1 h2.2.2.2.2.2.1 (show 0 ≤ c by have := h.2.2.2.2.1; omega) h.2.2.2.2.2.1
      obtain ⟨_, _, hr0, hr1, hc0, hc1⟩ := id hx
      obtain ⟨_, _, hr2, hr3, hc2, hc3⟩ := id hy
      by_cases hv : v = v2
      · subst hv
        rw [show Ch.lessB v r c v r2 c2 = decide (r * c2 < r2 * c) by simp [Ch.lessB]]
        go_enter Try.func32, Try.ntmps32
        go_wp2_with fail
        refine (rRight_any _ _ _ _ hx).mono ?_; rintro e w1 ⟨rfl, hb1⟩; rw [k1]
        obtain ⟨hc1, hf1⟩ := bcell hb1
        have hz1 : w.heap.size + 1 < w1.heap.size := by have := hb1.size; simp at this; omega
        have hz1' : w.heap.size < w1.heap.size := by omega
        go_wp2_with fail
        refine (rRight_any _ _ _ _ hy).mono ?_; rintro e w2 ⟨rfl, hb2⟩; rw [k2]
        obtain ⟨hc2, hf2⟩ := bcell hb2
        go_wp2_with fail
        go_ret2
        refine ⟨rfl, ?_⟩
        repeat (first | exact Below.refl _ _ | refine Below.step ?_ (by assumption) | refine Below.setCell ?_ (by first | (simp; done) | (simp; omega) | omega) _ | refine Below.allocS ?_ _ | refine Below.drew ?_ | refine below_drewN ?_ _)
      · rw [show Ch.lessB v r c v2 r2 c2 = decide (v < v2) by simp [Ch.lessB, hv]]
        have hne : (v == v2) = false := by simpa using hv
        by_cases hl : v < v2
        · go_enter Try.func32, Try.ntmps32
          go_wp2_with fail
          refine (rRight_any _ _ _ _ hx).mono ?_; rintro e w1 ⟨rfl, hb1⟩; rw [k1]
          obtain ⟨hc1, hf1⟩ := bcell hb1
          have hz1 : w.heap.size + 1 < w1.heap.size := by have := hb1.size; simp at this; omega
          have hz1' : w.heap.size < w1.heap.size := by omega
          go_wp2_with fail
          refine (rRight_any _ _ _ _ hy).mono ?_; rintro e w2 ⟨rfl, hb2⟩; rw [k2]
          obtain ⟨hc2, hf2⟩ := bcell hb2
          go_wp2_with fail
          go_ret2
          refine ⟨ret_b2 (by simp [hl]), ?_⟩
          repeat (first | exact Below.refl _ _ | refine Below.step ?_ (by assumption) | refine Below.setCell ?_ (by first | (simp; done) | (simp; omega) | omega) _ | refine Below.allocS ?_ _ | refine Below.drew ?_ | refine below_drewN ?_ _)
        · go_enter Try.func32, Try.ntmps32
          go_wp2_with fail
          refine (rRight_any _ _ _ _ hx).mono ?_; rintro e w1 ⟨rfl, hb1⟩; rw [k1]
          obtain ⟨hc1, hf1⟩ := bcell hb1
          have hz1 : w.heap.size + 1 < w1.heap.size := by have := hb1.size; simp at this; omega
          have hz1' : w.heap.size < w1.heap.size := by omega
          go_wp2_with fail
          refine (rRight_any _ _ _ _ hy).mono ?_; rintro e w2 ⟨rfl, hb2⟩; rw [k2]
          obtain ⟨hc2, hf2⟩ := bcell hb2
          go_wp2_with fail
          go_ret2
          refine ⟨ret_b2 (by simp; omega), ?_⟩
          repeat (first | exact Below.refl _ _ | refine Below.step ?_ (by assumption) | refine Below.setCell ?_ (by first | (simp; done) | (simp; omega) | omega) _ | refine Below.allocS ?_ _ | refine Below.drew ?_ | refine below_drewN ?_ _)
    · rw [if_neg (fun k => h2 k.2), if_neg (fun k => h2 k.2)]
      have k2 := Ch.okB_f h2
      go_enter Try.func32, Try.ntmps32
      go_wp2_with fail
      refine (rRight_any _ _ _ _ hx).mono ?_; rintro e w1 ⟨rfl, hb1⟩; rw [k1]
      obtain ⟨hc1, hf1⟩ := bcell hb1
      have hz1 : w.heap.size + 1 < w1.heap.size := by have := hb1.size; simp at this; omega
      have hz1' : w.heap.size < w1.heap.size := by omega
      go_wp2_with fail
      refine (rRight_any _ _ _ _ hy).mono ?_; rintro e w2 ⟨rfl, hb2⟩; rw [k2]
      obtain ⟨hc2, hf2⟩ := bcell hb2
      go_wp2_with fail
      go_ret2
      refine ⟨rfl, ?_⟩
      repeat (first | exact Below.refl _ _ | refine Below.step ?_ (by assumption) | refine Below.setCell ?_ (by first | (simp; done) | (simp; omega) | omega) _ | refine Below.allocS ?_ _ | refine Below.drew ?_ | refine below_drewN ?_ _)
  · rw [if_neg (fun k => h k.1), if_neg (fun k => h k.1)]
    have k1 := Ch.okB_f h
    go_enter Try.func32, Try.ntmps32
    go_wp2_with fail
    refine (rRight_any _ _ _ _ hx).mono ?_; rintro e w1 ⟨rfl, hb1⟩; rw [k1]
    obtain ⟨hc1, hf1⟩ := bcell hb1
    have hz1 : w.heap.size + 1 < w1.heap.size := by have := hb1.size; simp at this; omega
    have hz1' : w.heap.size < w1.heap.size := by omega
    go_wp2_with fail
    go_ret2
    refine ⟨rfl, ?_⟩
    repeat (first | exact Below.refl _ _ | refine Below.step ?_ (by assumption) | refine Below.setCell ?_ (by first | (simp; done) | (simp; omega) | omega) _ | refine Below.allocS ?_ _ | refine Below.drew ?_ | refine below_drewN ?_ _)
end Go.Proofs.Ytbddiagnijcmhaa
