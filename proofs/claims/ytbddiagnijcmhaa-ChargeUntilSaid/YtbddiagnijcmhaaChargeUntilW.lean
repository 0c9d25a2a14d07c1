/-
  ChargeUntil: the walk of the law, by the contracts of the package.
-/
import Derived.Test.YtbddiagnijcmhaaChargeAw
import Derived.OpenShut
namespace Go.Proofs.Ytbddiagnijcmhaa
open Go.RowKit Go.Shelf
set_option linter.unusedVariables false
theorem Ch.until_cases {v r c to : Int} (h : Ch.Ok v r c) (hto : to ≤ 18446744073709551615) :
    (Ch.untilE v r c to = 6 ∧ Ch.untilT v r c to = 0 ∧ Ch.addV v r c 4294967295 < to) ∨ (Ch.untilE v r c to = 0 ∧ Ch.untilT v r c to = 0 ∧ to ≤ v) ∨
    ∃ k, 1 ≤ k ∧ k ≤ 4294967295 ∧ Ch.untilE v r c to = 0 ∧ Ch.untilT v r c to = k ∧ v < to ∧ to ≤ Ch.addV v r c k ∧ Ch.addV v r c (k - 1) < to := by
  have h0 := Ch.until_nonneg (to := to) h
  by_cases h1 : Ch.untilN v r c to ≤ 4294967295
  · have e : Ch.untilE v r c to = 0 := by unfold Ch.untilE; rw [if_pos h1]
    have e2 : Ch.untilT v r c to = Ch.untilN v r c to := by unfold Ch.untilT; rw [if_pos h1]
    have z := Ch.until_iff (t := 0) h hto (by omega)
    rw [Ch.add_zeroV h] at z
    by_cases h2 : Ch.untilN v r c to = 0
    · exact Or.inr (Or.inl ⟨e, by omega, z.2 (by omega)⟩)
    · refine Or.inr (Or.inr ⟨Ch.untilN v r c to, by omega, h1, e, e2, ?_, ?_, ?_⟩)
      · have : ¬ to ≤ v := fun k => h2 (by have := z.1 k; omega)
        omega
      · exact (Ch.until_iff h hto h0).2 (Int.le_refl _)
      · have := Ch.until_iff (t := Ch.untilN v r c to - 1) h hto (by omega)
        have h3 : ¬ to ≤ Ch.addV v r c (Ch.untilN v r c to - 1) := fun k => by have := this.1 k; omega
        omega
  · refine Or.inl ⟨by unfold Ch.untilE; rw [if_neg h1], by unfold Ch.untilT; rw [if_neg h1], ?_⟩
    have := Ch.until_iff (t := 4294967295) h hto (by omega)
    have h3 : ¬ to ≤ Ch.addV v r c 4294967295 := fun k => h1 (this.1 k)
    omega

set_option maxHeartbeats 1000000 in
theorem ChargeUntil_0 (v r n to : Int) (b0 : 0 ≤ v ∧ v ≤ 18446744073709551615) (b1 : 0 ≤ r ∧ r ≤ 4294967295) (b2 : 0 ≤ n ∧ n ≤ 4294967295) (b3 : 0 ≤ to ∧ to ≤ 18446744073709551615) (hn : True) (w : World) :
    Calls Try.prog 6 #[.int .u64 v, .int .u32 r, .int .u32 n, .int .u64 to, .bool false] w fun e w' => e = .returned (.bool true) ∧ Below w.heap.size w w' := by
  obtain ⟨rr, c, hx, -, -, M⟩ := Made_ex v r n b0 b1 b2
  have bT : 0 ≤ to ∧ to ≤ 18446744073709551615 := by omega
  have bm : 0 ≤ to % 1099511627776 := by omega
  have A0 := Lib.hid M
  have A9 := Lib.hid awake_any
  clear M
  rcases Ch.until_cases hx bT.2 with ⟨e1, e2, f1⟩ | ⟨e1, e2, f1⟩ | ⟨k, k0, k1, e1, e2, f0, f1, f2⟩
  · have A1 := Lib.hid fun W => Until_eq v rr c to _ _ W hx bT e2 e1
    obtain ⟨pv, pr, q1, q2⟩ : ∃ x y, Ch.addV v rr c 4294967295 = x ∧ Ch.addR v rr c 4294967295 = y := ⟨_, _, rfl, rfl⟩
    have A2 := Lib.hid fun W => Add_eq v rr c 4294967295 pv pr W hx ⟨by omega, by omega⟩ q1 q2
    rw [q1] at f1
    clear e1 e2 q1 q2
    go_enter Try.func6, Try.ntmps6
    go_wp2_with fail
    refine (A0.out _).mono ?_; rintro e w0 ⟨rfl, hb0⟩
    obtain ⟨hc0, hf0⟩ := bcell hb0
    go_wp2_with fail
    refine (A1.out _).mono ?_; rintro e w1 ⟨rfl, hb1⟩
    obtain ⟨hc1, hf1⟩ := bcell hb1
    have hz0_1 : w0.heap.size < w1.heap.size := by have h9 := hb1.size; (try simp at h9); omega
    go_wp2_with fail
    refine (A2.out _).mono ?_; rintro e w2 ⟨rfl, hb2⟩
    obtain ⟨hc2, hf2⟩ := bcell hb2
    have hz0_2 : w0.heap.size < w2.heap.size := by have h9 := hb2.size; (try simp at h9); omega
    go_wp2_with fail
    refine (A9.out _).mono ?_; rintro e w9 ⟨rfl, hb9⟩
    obtain ⟨hc9, hf9⟩ := bcell hb9
    go_wp2_with fail
    go_ret
    refine ⟨rfl, ?_⟩
    repeat (first | exact Below.refl _ _ | refine Below.step ?_ (by assumption) | refine Below.setCell ?_ (by first | (simp; done) | (simp; omega) | omega) _ | refine Below.allocS ?_ _ | refine Below.drew ?_ | refine below_drewN ?_ _)
  · have A1 := Lib.hid fun W => Until_eq v rr c to _ _ W hx bT e2 e1
    have A2 := Lib.hid fun W => Add_eq v rr c 0 v rr W hx ⟨by omega, by omega⟩ (Ch.add_zeroV hx) (Ch.add_zeroR hx)
    clear e1 e2
    go_enter Try.func6, Try.ntmps6
    go_wp2_with fail
    refine (A0.out _).mono ?_; rintro e w0 ⟨rfl, hb0⟩
    obtain ⟨hc0, hf0⟩ := bcell hb0
    go_wp2_with fail
    refine (A1.out _).mono ?_; rintro e w1 ⟨rfl, hb1⟩
    obtain ⟨hc1, hf1⟩ := bcell hb1
    have hz0_1 : w0.heap.size < w1.heap.size := by have h9 := hb1.size; (try simp at h9); omega
    go_wp2_with fail
    refine (A2.out _).mono ?_; rintro e w2 ⟨rfl, hb2⟩
    obtain ⟨hc2, hf2⟩ := bcell hb2
    have hz0_2 : w0.heap.size < w2.heap.size := by have h9 := hb2.size; (try simp at h9); omega
    go_wp2_with fail
    refine (A9.out _).mono ?_; rintro e w9 ⟨rfl, hb9⟩
    obtain ⟨hc9, hf9⟩ := bcell hb9
    go_wp2_with fail
    go_ret
    refine ⟨rfl, ?_⟩
    repeat (first | exact Below.refl _ _ | refine Below.step ?_ (by assumption) | refine Below.setCell ?_ (by first | (simp; done) | (simp; omega) | omega) _ | refine Below.allocS ?_ _ | refine Below.drew ?_ | refine below_drewN ?_ _)
  · have A1 := Lib.hid fun W => Until_eq v rr c to _ _ W hx bT e2 e1
    obtain ⟨pv, pr, q1, q2⟩ : ∃ x y, Ch.addV v rr c k = x ∧ Ch.addR v rr c k = y := ⟨_, _, rfl, rfl⟩
    obtain ⟨sv, sr, q3, q4⟩ : ∃ x y, Ch.addV v rr c (k - 1) = x ∧ Ch.addR v rr c (k - 1) = y := ⟨_, _, rfl, rfl⟩
    have A2 := Lib.hid fun W => Add_eq v rr c k pv pr W hx ⟨by omega, by omega⟩ q1 q2
    have A3 := Lib.hid fun W => Add_eq v rr c (k - 1) sv sr W hx ⟨by omega, by omega⟩ q3 q4
    rw [q1] at f1
    rw [q3] at f2
    have hk : (k == 0) = false := by simp; omega
    clear e1 e2 q1 q2 q3 q4
    go_enter Try.func6, Try.ntmps6
    go_wp2_with fail
    refine (A0.out _).mono ?_; rintro e w0 ⟨rfl, hb0⟩
    obtain ⟨hc0, hf0⟩ := bcell hb0
    go_wp2_with fail
    refine (A1.out _).mono ?_; rintro e w1 ⟨rfl, hb1⟩
    obtain ⟨hc1, hf1⟩ := bcell hb1
    have hz0_1 : w0.heap.size < w1.heap.size := by have h9 := hb1.size; (try simp at h9); omega
    go_wp2_with fail
    refine (A2.out _).mono ?_; rintro e w2 ⟨rfl, hb2⟩
    obtain ⟨hc2, hf2⟩ := bcell hb2
    have hz0_2 : w0.heap.size < w2.heap.size := by have h9 := hb2.size; (try simp at h9); omega
    go_wp2_with fail
    refine (A3.out _).mono ?_; rintro e w3 ⟨rfl, hb3⟩
    obtain ⟨hc3, hf3⟩ := bcell hb3
    have hz0_3 : w0.heap.size < w3.heap.size := by have h9 := hb3.size; (try simp at h9); omega
    have hz2_3 : w2.heap.size < w3.heap.size := by have h9 := hb3.size; (try simp at h9); omega
    go_wp2_with fail
    refine (A9.out _).mono ?_; rintro e w9 ⟨rfl, hb9⟩
    obtain ⟨hc9, hf9⟩ := bcell hb9
    go_wp2_with fail
    go_ret
    refine ⟨rfl, ?_⟩
    repeat (first | exact Below.refl _ _ | refine Below.step ?_ (by assumption) | refine Below.setCell ?_ (by first | (simp; done) | (simp; omega) | omega) _ | refine Below.allocS ?_ _ | refine Below.drew ?_ | refine below_drewN ?_ _)

set_option maxHeartbeats 1000000 in
theorem ChargeUntil_1 (v r n to : Int) (b0 : 0 ≤ v ∧ v ≤ 18446744073709551615) (b1 : 0 ≤ r ∧ r ≤ 4294967295) (b2 : 0 ≤ n ∧ n ≤ 4294967295) (b3 : 0 ≤ to ∧ to ≤ 18446744073709551615) (hn : to % 1099511627776 ≤ 18446744073709551615 - v) (w : World) :
    Calls Try.prog 6 #[.int .u64 v, .int .u32 r, .int .u32 n, .int .u64 to, .bool true] w fun e w' => e = .returned (.bool true) ∧ Below w.heap.size w w' := by
  obtain ⟨rr, c, hx, -, -, M⟩ := Made_ex v r n b0 b1 b2
  have bT : 0 ≤ (v + to % 1099511627776) ∧ (v + to % 1099511627776) ≤ 18446744073709551615 := by omega
  have bm : 0 ≤ to % 1099511627776 := by omega
  have A0 := Lib.hid M
  have A9 := Lib.hid awake_any
  clear M
  rcases Ch.until_cases hx bT.2 with ⟨e1, e2, f1⟩ | ⟨e1, e2, f1⟩ | ⟨k, k0, k1, e1, e2, f0, f1, f2⟩
  · have A1 := Lib.hid fun W => Until_eq v rr c (v + to % 1099511627776) _ _ W hx bT e2 e1
    obtain ⟨pv, pr, q1, q2⟩ : ∃ x y, Ch.addV v rr c 4294967295 = x ∧ Ch.addR v rr c 4294967295 = y := ⟨_, _, rfl, rfl⟩
    have A2 := Lib.hid fun W => Add_eq v rr c 4294967295 pv pr W hx ⟨by omega, by omega⟩ q1 q2
    rw [q1] at f1
    clear e1 e2 q1 q2
    go_enter Try.func6, Try.ntmps6
    go_wp2_with fail
    refine (A0.out _).mono ?_; rintro e w0 ⟨rfl, hb0⟩
    obtain ⟨hc0, hf0⟩ := bcell hb0
    go_wp2_with fail
    refine (A1.out _).mono ?_; rintro e w1 ⟨rfl, hb1⟩
    obtain ⟨hc1, hf1⟩ := bcell hb1
    have hz0_1 : w0.heap.size < w1.heap.size := by have h9 := hb1.size; (try simp at h9); omega
    go_wp2_with fail
    refine (A2.out _).mono ?_; rintro e w2 ⟨rfl, hb2⟩
    obtain ⟨hc2, hf2⟩ := bcell hb2
    have hz0_2 : w0.heap.size < w2.heap.size := by have h9 := hb2.size; (try simp at h9); omega
    go_wp2_with fail
    refine (A9.out _).mono ?_; rintro e w9 ⟨rfl, hb9⟩
    obtain ⟨hc9, hf9⟩ := bcell hb9
    go_wp2_with fail
    go_ret
    refine ⟨rfl, ?_⟩
    repeat (first | exact Below.refl _ _ | refine Below.step ?_ (by assumption) | refine Below.setCell ?_ (by first | (simp; done) | (simp; omega) | omega) _ | refine Below.allocS ?_ _ | refine Below.drew ?_ | refine below_drewN ?_ _)
  · have A1 := Lib.hid fun W => Until_eq v rr c (v + to % 1099511627776) _ _ W hx bT e2 e1
    have A2 := Lib.hid fun W => Add_eq v rr c 0 v rr W hx ⟨by omega, by omega⟩ (Ch.add_zeroV hx) (Ch.add_zeroR hx)
    clear e1 e2
    go_enter Try.func6, Try.ntmps6
    go_wp2_with fail
    refine (A0.out _).mono ?_; rintro e w0 ⟨rfl, hb0⟩
    obtain ⟨hc0, hf0⟩ := bcell hb0
    go_wp2_with fail
    refine (A1.out _).mono ?_; rintro e w1 ⟨rfl, hb1⟩
    obtain ⟨hc1, hf1⟩ := bcell hb1
    have hz0_1 : w0.heap.size < w1.heap.size := by have h9 := hb1.size; (try simp at h9); omega
    go_wp2_with fail
    refine (A2.out _).mono ?_; rintro e w2 ⟨rfl, hb2⟩
    obtain ⟨hc2, hf2⟩ := bcell hb2
    have hz0_2 : w0.heap.size < w2.heap.size := by have h9 := hb2.size; (try simp at h9); omega
    go_wp2_with fail
    refine (A9.out _).mono ?_; rintro e w9 ⟨rfl, hb9⟩
    obtain ⟨hc9, hf9⟩ := bcell hb9
    go_wp2_with fail
    go_ret
    refine ⟨rfl, ?_⟩
    repeat (first | exact Below.refl _ _ | refine Below.step ?_ (by assumption) | refine Below.setCell ?_ (by first | (simp; done) | (simp; omega) | omega) _ | refine Below.allocS ?_ _ | refine Below.drew ?_ | refine below_drewN ?_ _)
  · have A1 := Lib.hid fun W => Until_eq v rr c (v + to % 1099511627776) _ _ W hx bT e2 e1
    obtain ⟨pv, pr, q1, q2⟩ : ∃ x y, Ch.addV v rr c k = x ∧ Ch.addR v rr c k = y := ⟨_, _, rfl, rfl⟩
    obtain ⟨sv, sr, q3, q4⟩ : ∃ x y, Ch.addV v rr c (k - 1) = x ∧ Ch.addR v rr c (k - 1) = y := ⟨_, _, rfl, rfl⟩
    have A2 := Lib.hid fun W => Add_eq v rr c k pv pr W hx ⟨by omega, by omega⟩ q1 q2
    have A3 := Lib.hid fun W => Add_eq v rr c (k - 1) sv sr W hx ⟨by omega, by omega⟩ q3 q4
    rw [q1] at f1
    rw [q3] at f2
    have hk : (k == 0) = false := by simp; omega
    clear e1 e2 q1 q2 q3 q4
    go_enter Try.func6, Try.ntmps6
    go_wp2_with fail
    refine (A0.out _).mono ?_; rintro e w0 ⟨rfl, hb0⟩
    obtain ⟨hc0, hf0⟩ := bcell hb0
    go_wp2_with fail
    refine (A1.out _).mono ?_; rintro e w1 ⟨rfl, hb1⟩
    obtain ⟨hc1, hf1⟩ := bcell hb1
    have hz0_1 : w0.heap.size < w1.heap.size := by have h9 := hb1.size; (try simp at h9); omega
    go_wp2_with fail
    refine (A2.out _).mono ?_; rintro e w2 ⟨rfl, hb2⟩
    obtain ⟨hc2, hf2⟩ := bcell hb2
    have hz0_2 : w0.heap.size < w2.heap.size := by have h9 := hb2.size; (try simp at h9); omega
    go_wp2_with fail
    refine (A3.out _).mono ?_; rintro e w3 ⟨rfl, hb3⟩
    obtain ⟨hc3, hf3⟩ := bcell hb3
    have hz0_3 : w0.heap.size < w3.heap.size := by have h9 := hb3.size; (try simp at h9); omega
    have hz2_3 : w2.heap.size < w3.heap.size := by have h9 := hb3.size; (try simp at h9); omega
    go_wp2_with fail
    refine (A9.out _).mono ?_; rintro e w9 ⟨rfl, hb9⟩
    obtain ⟨hc9, hf9⟩ := bcell hb9
    go_wp2_with fail
    go_ret
    refine ⟨rfl, ?_⟩
    repeat (first | exact Below.refl _ _ | refine Below.step ?_ (by assumption) | refine Below.setCell ?_ (by first | (simp; done) | (simp; omega) | omega) _ | refine Below.allocS ?_ _ | refine Below.drew ?_ | refine below_drewN ?_ _)

set_option maxHeartbeats 1000000 in
theorem ChargeUntil_2 (v r n to : Int) (b0 : 0 ≤ v ∧ v ≤ 18446744073709551615) (b1 : 0 ≤ r ∧ r ≤ 4294967295) (b2 : 0 ≤ n ∧ n ≤ 4294967295) (b3 : 0 ≤ to ∧ to ≤ 18446744073709551615) (hn : 18446744073709551615 - v < to % 1099511627776) (w : World) :
    Calls Try.prog 6 #[.int .u64 v, .int .u32 r, .int .u32 n, .int .u64 to, .bool true] w fun e w' => e = .returned (.bool true) ∧ Below w.heap.size w w' := by
  obtain ⟨rr, c, hx, -, -, M⟩ := Made_ex v r n b0 b1 b2
  have bT : 0 ≤ (v + (18446744073709551615 - v)) ∧ (v + (18446744073709551615 - v)) ≤ 18446744073709551615 := by omega
  have bm : 0 ≤ to % 1099511627776 := by omega
  have A0 := Lib.hid M
  have A9 := Lib.hid awake_any
  clear M
  rcases Ch.until_cases hx bT.2 with ⟨e1, e2, f1⟩ | ⟨e1, e2, f1⟩ | ⟨k, k0, k1, e1, e2, f0, f1, f2⟩
  · have A1 := Lib.hid fun W => Until_eq v rr c (v + (18446744073709551615 - v)) _ _ W hx bT e2 e1
    obtain ⟨pv, pr, q1, q2⟩ : ∃ x y, Ch.addV v rr c 4294967295 = x ∧ Ch.addR v rr c 4294967295 = y := ⟨_, _, rfl, rfl⟩
    have A2 := Lib.hid fun W => Add_eq v rr c 4294967295 pv pr W hx ⟨by omega, by omega⟩ q1 q2
    rw [q1] at f1
    clear e1 e2 q1 q2
    go_enter Try.func6, Try.ntmps6
    go_wp2_with fail
    refine (A0.out _).mono ?_; rintro e w0 ⟨rfl, hb0⟩
    obtain ⟨hc0, hf0⟩ := bcell hb0
    go_wp2_with fail
    refine (A1.out _).mono ?_; rintro e w1 ⟨rfl, hb1⟩
    obtain ⟨hc1, hf1⟩ := bcell hb1
    have hz0_1 : w0.heap.size < w1.heap.size := by have h9 := hb1.size; (try simp at h9); omega
    go_wp2_with fail
    refine (A2.out _).mono ?_; rintro e w2 ⟨rfl, hb2⟩
    obtain ⟨hc2, hf2⟩ := bcell hb2
    have hz0_2 : w0.heap.size < w2.heap.size := by have h9 := hb2.size; (try simp at h9); omega
    go_wp2_with fail
    refine (A9.out _).mono ?_; rintro e w9 ⟨rfl, hb9⟩
    obtain ⟨hc9, hf9⟩ := bcell hb9
    go_wp2_with fail
    go_ret
    refine ⟨rfl, ?_⟩
    repeat (first | exact Below.refl _ _ | refine Below.step ?_ (by assumption) | refine Below.setCell ?_ (by first | (simp; done) | (simp; omega) | omega) _ | refine Below.allocS ?_ _ | refine Below.drew ?_ | refine below_drewN ?_ _)
  · have A1 := Lib.hid fun W => Until_eq v rr c (v + (18446744073709551615 - v)) _ _ W hx bT e2 e1
    have A2 := Lib.hid fun W => Add_eq v rr c 0 v rr W hx ⟨by omega, by omega⟩ (Ch.add_zeroV hx) (Ch.add_zeroR hx)
    clear e1 e2
    go_enter Try.func6, Try.ntmps6
    go_wp2_with fail
    refine (A0.out _).mono ?_; rintro e w0 ⟨rfl, hb0⟩
    obtain ⟨hc0, hf0⟩ := bcell hb0
    go_wp2_with fail
    refine (A1.out _).mono ?_; rintro e w1 ⟨rfl, hb1⟩
    obtain ⟨hc1, hf1⟩ := bcell hb1
    have hz0_1 : w0.heap.size < w1.heap.size := by have h9 := hb1.size; (try simp at h9); omega
    go_wp2_with fail
    refine (A2.out _).mono ?_; rintro e w2 ⟨rfl, hb2⟩
    obtain ⟨hc2, hf2⟩ := bcell hb2
    have hz0_2 : w0.heap.size < w2.heap.size := by have h9 := hb2.size; (try simp at h9); omega
    go_wp2_with fail
    refine (A9.out _).mono ?_; rintro e w9 ⟨rfl, hb9⟩
    obtain ⟨hc9, hf9⟩ := bcell hb9
    go_wp2_with fail
    go_ret
    refine ⟨rfl, ?_⟩
    repeat (first | exact Below.refl _ _ | refine Below.step ?_ (by assumption) | refine Below.setCell ?_ (by first | (simp; done) | (simp; omega) | omega) _ | refine Below.allocS ?_ _ | refine Below.drew ?_ | refine below_drewN ?_ _)
  · have A1 := Lib.hid fun W => Until_eq v rr c (v + (18446744073709551615 - v)) _ _ W hx bT e2 e1
    obtain ⟨pv, pr, q1, q2⟩ : ∃ x y, Ch.addV v rr c k = x ∧ Ch.addR v rr c k = y := ⟨_, _, rfl, rfl⟩
    obtain ⟨sv, sr, q3, q4⟩ : ∃ x y, Ch.addV v rr c (k - 1) = x ∧ Ch.addR v rr c (k - 1) = y := ⟨_, _, rfl, rfl⟩
    have A2 := Lib.hid fun W => Add_eq v rr c k pv pr W hx ⟨by omega, by omega⟩ q1 q2
    have A3 := Lib.hid fun W => Add_eq v rr c (k - 1) sv sr W hx ⟨by omega, by omega⟩ q3 q4
    rw [q1] at f1
    rw [q3] at f2
    have hk : (k == 0) = false := by simp; omega
    clear e1 e2 q1 q2 q3 q4
    go_enter Try.func6, Try.ntmps6
    go_wp2_with fail
    refine (A0.out _).mono ?_; rintro e w0 ⟨rfl, hb0⟩
    obtain ⟨hc0, hf0⟩ := bcell hb0
    go_wp2_with fail
    refine (A1.out _).mono ?_; rintro e w1 ⟨rfl, hb1⟩
    obtain ⟨hc1, hf1⟩ := bcell hb1
    have hz0_1 : w0.heap.size < w1.heap.size := by have h9 := hb1.size; (try simp at h9); omega
    go_wp2_with fail
    refine (A2.out _).mono ?_; rintro e w2 ⟨rfl, hb2⟩
    obtain ⟨hc2, hf2⟩ := bcell hb2
    have hz0_2 : w0.heap.size < w2.heap.size := by have h9 := hb2.size; (try simp at h9); omega
    go_wp2_with fail
    refine (A3.out _).mono ?_; rintro e w3 ⟨rfl, hb3⟩
    obtain ⟨hc3, hf3⟩ := bcell hb3
    have hz0_3 : w0.heap.size < w3.heap.size := by have h9 := hb3.size; (try simp at h9); omega
    have hz2_3 : w2.heap.size < w3.heap.size := by have h9 := hb3.size; (try simp at h9); omega
    go_wp2_with fail
    refine (A9.out _).mono ?_; rintro e w9 ⟨rfl, hb9⟩
    obtain ⟨hc9, hf9⟩ := bcell hb9
    go_wp2_with fail
    go_ret
    refine ⟨rfl, ?_⟩
    repeat (first | exact Below.refl _ _ | refine Below.step ?_ (by assumption) | refine Below.setCell ?_ (by first | (simp; done) | (simp; omega) | omega) _ | refine Below.allocS ?_ _ | refine Below.drew ?_ | refine below_drewN ?_ _)

theorem ChargeUntil_true (v r n to : Int) (near : Bool) (g0 : (Lit.int .u64 v).wf = true) (g1 : (Lit.int .u32 r).wf = true) (g2 : (Lit.int .u32 n).wf = true) (g3 : (Lit.int .u64 to).wf = true) (w : World) :
    Calls Try.prog 6 #[.int .u64 v, .int .u32 r, .int .u32 n, .int .u64 to, .bool near] w fun e w' => e = .returned (.bool true) ∧ Below w.heap.size w w' := by
  have b0 := bounds_u64 g0
  have b1 := bounds_u32 g1
  have b2 := bounds_u32 g2
  have b3 := bounds_u64 g3
  cases near
  · exact ChargeUntil_0 v r n to b0 b1 b2 b3 trivial w
  · by_cases h : to % 1099511627776 ≤ 18446744073709551615 - v
    · exact ChargeUntil_1 v r n to b0 b1 b2 b3 h w
    · exact ChargeUntil_2 v r n to b0 b1 b2 b3 (by omega) w
end Go.Proofs.Ytbddiagnijcmhaa
