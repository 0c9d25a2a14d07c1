/-
  ChargeAdds: the walk of the law, by the contracts of the package.
-/
import Derived.Test.YtbddiagnijcmhaaChargeAw
import Derived.OpenShut
namespace Go.Proofs.Ytbddiagnijcmhaa
open Go.RowKit Go.Shelf
set_option linter.unusedVariables false
set_option maxHeartbeats 1000000 in
theorem ChargeAdds_true (v r n a b : Int) (g0 : (Lit.int .u64 v).wf = true) (g1 : (Lit.int .u32 r).wf = true) (g2 : (Lit.int .u32 n).wf = true) (g3 : (Lit.int .u32 a).wf = true) (g4 : (Lit.int .u32 b).wf = true) (w : World) :
    Calls Try.prog 3 #[.int .u64 v, .int .u32 r, .int .u32 n, .int .u32 a, .int .u32 b] w fun e w' => e = .returned (.bool true) ∧ Below w.heap.size w w' := by
  have b0 := bounds_u64 g0
  have b1 := bounds_u32 g1
  have b2 := bounds_u32 g2
  have b3 := bounds_u32 g3
  have b4 := bounds_u32 g4
  clear g0 g1 g2 g3 g4
  obtain ⟨rr, c, hx, -, -, M⟩ := Made_ex v r n b0 b1 b2
  have hm : 0 ≤ a % 2147483648 ∧ a % 2147483648 ≤ 2147483647 := by omega
  have hn : 0 ≤ b % 2147483648 ∧ b % 2147483648 ≤ 2147483647 := by omega
  obtain ⟨pv, pr, e1, e2⟩ : ∃ x y, Ch.addV v rr c (a % 2147483648) = x ∧ Ch.addR v rr c (a % 2147483648) = y := ⟨_, _, rfl, rfl⟩
  obtain ⟨sv, sr, e3, e4⟩ : ∃ x y, Ch.addV v rr c (b % 2147483648) = x ∧ Ch.addR v rr c (b % 2147483648) = y := ⟨_, _, rfl, rfl⟩
  obtain ⟨av, ar, e5, e6⟩ : ∃ x y, Ch.addV v rr c (a % 2147483648 + b % 2147483648) = x ∧ Ch.addR v rr c (a % 2147483648 + b % 2147483648) = y := ⟨_, _, rfl, rfl⟩
  have op : Ch.Ok pv pr c := by rw [← e1, ← e2]; exact Ch.add_ok hx hm.1
  have os : Ch.Ok sv sr c := by rw [← e3, ← e4]; exact Ch.add_ok hx hn.1
  have oa : Ch.Ok av ar c := by rw [← e5, ← e6]; exact Ch.add_ok hx (by omega)
  have A1 := Lib.hid fun W => Add_eq v rr c _ pv pr W hx ⟨hm.1, by omega⟩ e1 e2
  have A2 := Lib.hid fun W => Add_eq pv pr c (b % 2147483648) av ar W op ⟨hn.1, by omega⟩ (by rw [← e1, ← e2, Ch.add_addV hx hm.1 hn.1, e5]) (by rw [← e1, ← e2, Ch.add_addR hx hm.1 hn.1, e6])
  have A3 := Lib.hid fun W => Add_eq v rr c _ sv sr W hx ⟨hn.1, by omega⟩ e3 e4
  have A4 := Lib.hid fun W => Add_eq sv sr c (a % 2147483648) av ar W os ⟨hm.1, by omega⟩ (by rw [← e3, ← e4, Ch.add_addV hx hn.1 hm.1, Int.add_comm, e5]) (by rw [← e3, ← e4, Ch.add_addR hx hn.1 hm.1, Int.add_comm, e6])
  have A5 := Lib.hid fun W => Add_eq v rr c _ av ar W hx ⟨by omega, by omega⟩ e5 e6
  have A6 := Lib.hid fun W => Add_eq v rr c 0 v rr W hx ⟨by omega, by omega⟩ (Ch.add_zeroV hx) (Ch.add_zeroR hx)
  have A7 := Lib.hid fun W => right_yes pv pr c W op
  have A8 := Lib.hid fun W => right_yes av ar c W oa
  have A9 := Lib.hid awake_any
  have A0 := Lib.hid M
  clear M e1 e2 e3 e4 e5 e6 hx op os oa
  go_enter Try.func3, Try.ntmps3
  go_wp2_with fail
  refine (A0.out _).mono ?_; rintro e w0 ⟨rfl, hb0⟩
  obtain ⟨hc0, hf0⟩ := bcell hb0
  go_wp2_with fail
  refine (A1.out _).mono ?_; rintro e w1 ⟨rfl, hb1⟩
  obtain ⟨hc1, hf1⟩ := bcell hb1
  have hz0_1 : w0.heap.size < w1.heap.size := by have h9 := hb1.size; (try simp at h9); omega
  go_wp2_with fail
  refine (A2.out _).mono ?_; rintro e w2 ⟨rfl, hb2⟩
  obtain ⟨hc2, hf2⟩ := bcell hb2
  have hz0_2 : w0.heap.size < w2.heap.size := by have h9 := hb2.size; (try simp at h9); omega
  have hz1_2 : w1.heap.size < w2.heap.size := by have h9 := hb2.size; (try simp at h9); omega
  go_wp2_with fail
  refine (A3.out _).mono ?_; rintro e w3 ⟨rfl, hb3⟩
  obtain ⟨hc3, hf3⟩ := bcell hb3
  have hz0_3 : w0.heap.size < w3.heap.size := by have h9 := hb3.size; (try simp at h9); omega
  have hz1_3 : w1.heap.size < w3.heap.size := by have h9 := hb3.size; (try simp at h9); omega
  have hz2_3 : w2.heap.size < w3.heap.size := by have h9 := hb3.size; (try simp at h9); omega
  go_wp2_with fail
  refine (A4.out _).mono ?_; rintro e w4 ⟨rfl, hb4⟩
  obtain ⟨hc4, hf4⟩ := bcell hb4
  have hz0_4 : w0.heap.size < w4.heap.size := by have h9 := hb4.size; (try simp at h9); omega
  have hz1_4 : w1.heap.size < w4.heap.size := by have h9 := hb4.size; (try simp at h9); omega
  have hz2_4 : w2.heap.size < w4.heap.size := by have h9 := hb4.size; (try simp at h9); omega
  have hz3_4 : w3.heap.size < w4.heap.size := by have h9 := hb4.size; (try simp at h9); omega
  go_wp2_with fail
  refine (A5.out _).mono ?_; rintro e w5 ⟨rfl, hb5⟩
  obtain ⟨hc5, hf5⟩ := bcell hb5
  have hz0_5 : w0.heap.size < w5.heap.size := by have h9 := hb5.size; (try simp at h9); omega
  have hz1_5 : w1.heap.size < w5.heap.size := by have h9 := hb5.size; (try simp at h9); omega
  have hz2_5 : w2.heap.size < w5.heap.size := by have h9 := hb5.size; (try simp at h9); omega
  have hz3_5 : w3.heap.size < w5.heap.size := by have h9 := hb5.size; (try simp at h9); omega
  have hz4_5 : w4.heap.size < w5.heap.size := by have h9 := hb5.size; (try simp at h9); omega
  go_wp2_with fail
  refine (A6.out _).mono ?_; rintro e w6 ⟨rfl, hb6⟩
  obtain ⟨hc6, hf6⟩ := bcell hb6
  have hz0_6 : w0.heap.size < w6.heap.size := by have h9 := hb6.size; (try simp at h9); omega
  have hz1_6 : w1.heap.size < w6.heap.size := by have h9 := hb6.size; (try simp at h9); omega
  have hz2_6 : w2.heap.size < w6.heap.size := by have h9 := hb6.size; (try simp at h9); omega
  have hz3_6 : w3.heap.size < w6.heap.size := by have h9 := hb6.size; (try simp at h9); omega
  have hz4_6 : w4.heap.size < w6.heap.size := by have h9 := hb6.size; (try simp at h9); omega
  have hz5_6 : w5.heap.size < w6.heap.size := by have h9 := hb6.size; (try simp at h9); omega
  go_wp2_with fail
  refine (A7.out _).mono ?_; rintro e w7 ⟨rfl, hb7⟩
  obtain ⟨hc7, hf7⟩ := bcell hb7
  have hz0_7 : w0.heap.size < w7.heap.size := by have h9 := hb7.size; (try simp at h9); omega
  have hz1_7 : w1.heap.size < w7.heap.size := by have h9 := hb7.size; (try simp at h9); omega
  have hz2_7 : w2.heap.size < w7.heap.size := by have h9 := hb7.size; (try simp at h9); omega
  have hz3_7 : w3.heap.size < w7.heap.size := by have h9 := hb7.size; (try simp at h9); omega
  have hz4_7 : w4.heap.size < w7.heap.size := by have h9 := hb7.size; (try simp at h9); omega
  have hz5_7 : w5.heap.size < w7.heap.size := by have h9 := hb7.size; (try simp at h9); omega
  have hz6_7 : w6.heap.size < w7.heap.size := by have h9 := hb7.size; (try simp at h9); omega
  go_wp2_with fail
  refine (A8.out _).mono ?_; rintro e w8 ⟨rfl, hb8⟩
  obtain ⟨hc8, hf8⟩ := bcell hb8
  have hz0_8 : w0.heap.size < w8.heap.size := by have h9 := hb8.size; (try simp at h9); omega
  have hz1_8 : w1.heap.size < w8.heap.size := by have h9 := hb8.size; (try simp at h9); omega
  have hz2_8 : w2.heap.size < w8.heap.size := by have h9 := hb8.size; (try simp at h9); omega
  have hz3_8 : w3.heap.size < w8.heap.size := by have h9 := hb8.size; (try simp at h9); omega
  have hz4_8 : w4.heap.size < w8.heap.size := by have h9 := hb8.size; (try simp at h9); omega
  have hz5_8 : w5.heap.size < w8.heap.size := by have h9 := hb8.size; (try simp at h9); omega
  have hz6_8 : w6.heap.size < w8.heap.size := by have h9 := hb8.size; (try simp at h9); omega
  go_wp2_with fail
  refine (A9.out _).mono ?_; rintro e w9 ⟨rfl, hb9⟩
  obtain ⟨hc9, hf9⟩ := bcell hb9
  have hz0_9 : w0.heap.size < w9.heap.size := by have h9 := hb9.size; (try simp at h9); omega
  have hz1_9 : w1.heap.size < w9.heap.size := by have h9 := hb9.size; (try simp at h9); omega
  have hz2_9 : w2.heap.size < w9.heap.size := by have h9 := hb9.size; (try simp at h9); omega
  have hz3_9 : w3.heap.size < w9.heap.size := by have h9 := hb9.size; (try simp at h9); omega
  have hz4_9 : w4.heap.size < w9.heap.size := by have h9 := hb9.size; (try simp at h9); omega
  have hz5_9 : w5.heap.size < w9.heap.size := by have h9 := hb9.size; (try simp at h9); omega
  have hz6_9 : w6.heap.size < w9.heap.size := by have h9 := hb9.size; (try simp at h9); omega
  go_wp2_with fail
  go_ret
  refine ⟨rfl, ?_⟩
  repeat (first | exact Below.refl _ _ | refine Below.step ?_ (by assumption) | refine Below.setCell ?_ (by first | (simp; done) | (simp; omega) | omega) _ | refine Below.allocS ?_ _ | refine Below.drew ?_ | refine below_drewN ?_ _)
end Go.Proofs.Ytbddiagnijcmhaa
