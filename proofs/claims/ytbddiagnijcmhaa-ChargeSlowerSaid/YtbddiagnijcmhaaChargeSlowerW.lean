/-
  ChargeSlower: the walk of the law, by the contracts of the package.
-/
import Derived.Test.YtbddiagnijcmhaaChargeAw
import Derived.OpenShut
namespace Go.Proofs.Ytbddiagnijcmhaa
open Go.RowKit Go.Shelf
set_option linter.unusedVariables false
namespace Ch
theorem far {v r c t : Int} (hv : 0 ≤ v ∧ v ≤ 1152921504606846975) (hr : 0 ≤ r ∧ r < c) (hc : 1 ≤ c ∧ c ≤ 65536) (ht : 0 ≤ t ∧ t ≤ 4294967295) : addV v r c t = v + (t * 1048576 + r) / c ∧ 0 ≤ (t * 1048576 + r) / c ∧ (t * 1048576 + r) / c ≤ 4503599627370496 := by
  have h1 := Int.ediv_nonneg (show 0 ≤ t * 1048576 + r by omega) (show 0 ≤ c by omega)
  have h2 : (t * 1048576 + r) / c ≤ t * 1048576 + r := Int.ediv_le_self _ (by omega)
  refine ⟨?_, h1, by omega⟩
  unfold addV
  rw [if_neg]
  unfold atEnd
  omega
theorem slower {m c d : Int} (hm : 0 ≤ m) (hc : 1 ≤ c) (hd : c ≤ d) : m / d ≤ m / c := by
  rw [Int.le_ediv_iff_mul_le (by omega)]
  have h1 := Int.mul_le_mul_of_nonneg_left hd (Int.ediv_nonneg hm (show 0 ≤ d by omega))
  have h2 := Int.ediv_mul_le m (show d ≠ 0 by omega)
  omega
end Ch
set_option maxHeartbeats 1000000 in
theorem ChargeSlower_true (v r n m t : Int) (g0 : (Lit.int .u64 v).wf = true) (g1 : (Lit.int .u32 r).wf = true) (g2 : (Lit.int .u32 n).wf = true) (g3 : (Lit.int .u32 m).wf = true) (g4 : (Lit.int .u32 t).wf = true) (w : World) :
    Calls Try.prog 5 #[.int .u64 v, .int .u32 r, .int .u32 n, .int .u32 m, .int .u32 t] w fun e w' => e = .returned (.bool true) ∧ Below w.heap.size w w' := by
  have b0 := bounds_u64 g0
  have b1 := bounds_u32 g1
  have b2 := bounds_u32 g2
  have b3 := bounds_u32 g3
  have b4 := bounds_u32 g4
  clear g0 g1 g2 g3 g4
  have hv : 0 ≤ v % 1152921504606846976 ∧ v % 1152921504606846976 ≤ 1152921504606846975 := by omega
  have hk : ∃ k : Int, 0 ≤ k ∧ k ≤ 65535 ∧ n % 65536 ≤ k ∧ ((n % 65536 + m % 65536 ≤ 65535 ∧ k = n % 65536 + m % 65536) ∨ (65535 < n % 65536 + m % 65536 ∧ k = 65535)) := by
    by_cases h : n % 65536 + m % 65536 ≤ 65535
    · exact ⟨n % 65536 + m % 65536, by omega, by omega, by omega, Or.inl ⟨h, rfl⟩⟩
    · exact ⟨65535, by omega, by omega, by omega, Or.inr ⟨by omega, rfl⟩⟩
  obtain ⟨k, k0, k1, k2, hk⟩ := hk
  obtain ⟨rr, c, hx, -, hcn, M⟩ := Made_ex (v % 1152921504606846976) r n ⟨hv.1, by omega⟩ b1 b2
  obtain ⟨r2, d, hy, -, hdn, M2⟩ := Made_ex (v % 1152921504606846976) r k ⟨hv.1, by omega⟩ b1 ⟨k0, by omega⟩
  have hcd : c ≤ d := by omega
  obtain ⟨x1, x2, x3, x4, x5, x6, x7⟩ := id hx
  obtain ⟨y1, y2, y3, y4, y5, y6, y7⟩ := id hy
  have oa : Ch.Ok (v % 1152921504606846976) 0 c := by unfold Ch.Ok; omega
  have ob : Ch.Ok (v % 1152921504606846976) 0 d := by unfold Ch.Ok; omega
  have od : Ch.Ok (v % 1152921504606846976) (c - 1) c := by unfold Ch.Ok; omega
  have fa := Ch.far (r := 0) (c := c) hv ⟨by omega, by omega⟩ ⟨x5, x6⟩ b4
  have fb := Ch.far (r := 0) (c := d) hv ⟨by omega, by omega⟩ ⟨y5, y6⟩ b4
  have fc := Ch.far (r := rr) (c := c) hv ⟨x3, x4⟩ ⟨x5, x6⟩ b4
  have fd := Ch.far (r := c - 1) (c := c) hv ⟨by omega, by omega⟩ ⟨x5, x6⟩ b4
  have fm := Ch.far (v := 0) (r := c - 1) (c := c) ⟨by omega, by omega⟩ ⟨by omega, by omega⟩ ⟨x5, x6⟩ b4
  have l1 := Ch.slower (m := t * 1048576 + 0) (by omega) x5 hcd
  have l2 : (t * 1048576 + rr) / c ≤ (t * 1048576 + (c - 1)) / c := Int.ediv_le_ediv (by omega) (by omega)
  rw [Int.zero_add] at fm
  generalize (t * 1048576 + 0) / c = qa at fa l1
  generalize (t * 1048576 + 0) / d = qb at fb l1
  generalize (t * 1048576 + rr) / c = qc at fc l2
  generalize (t * 1048576 + (c - 1)) / c = qm at fd fm l2
  obtain ⟨ra, ea⟩ : ∃ x, Ch.addR (v % 1152921504606846976) 0 c t = x := ⟨_, rfl⟩
  obtain ⟨rb, eb⟩ : ∃ x, Ch.addR (v % 1152921504606846976) 0 d t = x := ⟨_, rfl⟩
  obtain ⟨rc, ec⟩ : ∃ x, Ch.addR (v % 1152921504606846976) rr c t = x := ⟨_, rfl⟩
  obtain ⟨rd, ed⟩ : ∃ x, Ch.addR (v % 1152921504606846976) (c - 1) c t = x := ⟨_, rfl⟩
  have A0 := Lib.hid M
  have A1 := Lib.hid M2
  have A2 := Lib.hid fun W => Add_eq _ 0 c t _ ra W oa ⟨b4.1, by omega⟩ fa.1 ea
  have A3 := Lib.hid fun W => Add_eq _ 0 d t _ rb W ob ⟨b4.1, by omega⟩ fb.1 eb
  have A4 := Lib.hid fun W => Most_eq c t qm W ⟨x5, x6⟩ ⟨b4.1, by omega⟩ fm.1
  have A5 := A0
  have A6 := Lib.hid fun W => Add_eq _ rr c t _ rc W hx ⟨b4.1, by omega⟩ fc.1 ec
  have A7 := Lib.hid fun W => Add_eq _ (c - 1) c t _ rd W od ⟨b4.1, by omega⟩ fd.1 ed
  have A8 := Lib.hid awake_any
  replace fa := fa.2
  replace fb := fb.2
  replace fc := fc.2
  replace fd := fd.2
  clear M M2 hcn hdn ea eb ec ed fm x7 y7 hx hy oa ob od
  rcases hk with ⟨hk, rfl⟩ | ⟨hk, rfl⟩
  all_goals
    go_enter Try.func5, Try.ntmps5
    go_wp2_with fail
    refine (A0.out _).mono ?_; rintro e w0 ⟨rfl, hb0⟩
    obtain ⟨hc0, hf0⟩ := bcell hb0
    go_wp2_with fail
    refine (A1.out _).mono ?_; rintro e w1 ⟨rfl, hb1⟩
    obtain ⟨hc1, hf1⟩ := bcell hb1
    have hz0_1 : w0.heap.size < w1.heap.size := by have h9 := hb1.size; (try simp at h9); omega
    go_wp2_with fail
    refine (A2.out _).mono ?_; rintro e w2 ⟨rfl, hb2⟩
    obtain ⟨hc2, hf2⟩ := bcell hb2
    have hz0_2 : w0.heap.size < w2.heap.size := by have h9 := hb2.size; (try simp at h9); omega
    have hz1_2 : w1.heap.size < w2.heap.size := by have h9 := hb2.size; (try simp at h9); omega
    go_wp2_with fail
    refine (A3.out _).mono ?_; rintro e w3 ⟨rfl, hb3⟩
    obtain ⟨hc3, hf3⟩ := bcell hb3
    have hz0_3 : w0.heap.size < w3.heap.size := by have h9 := hb3.size; (try simp at h9); omega
    have hz1_3 : w1.heap.size < w3.heap.size := by have h9 := hb3.size; (try simp at h9); omega
    have hz2_3 : w2.heap.size < w3.heap.size := by have h9 := hb3.size; (try simp at h9); omega
    go_wp2_with fail
    refine (A4.out _).mono ?_; rintro e w4 ⟨rfl, hb4⟩
    obtain ⟨hc4, hf4⟩ := bcell hb4
    have hz0_4 : w0.heap.size < w4.heap.size := by have h9 := hb4.size; (try simp at h9); omega
    have hz1_4 : w1.heap.size < w4.heap.size := by have h9 := hb4.size; (try simp at h9); omega
    have hz2_4 : w2.heap.size < w4.heap.size := by have h9 := hb4.size; (try simp at h9); omega
    have hz3_4 : w3.heap.size < w4.heap.size := by have h9 := hb4.size; (try simp at h9); omega
    go_wp2_with fail
    refine (A5.out _).mono ?_; rintro e w5 ⟨rfl, hb5⟩
    obtain ⟨hc5, hf5⟩ := bcell hb5
    have hz0_5 : w0.heap.size < w5.heap.size := by have h9 := hb5.size; (try simp at h9); omega
    have hz1_5 : w1.heap.size < w5.heap.size := by have h9 := hb5.size; (try simp at h9); omega
    have hz2_5 : w2.heap.size < w5.heap.size := by have h9 := hb5.size; (try simp at h9); omega
    have hz3_5 : w3.heap.size < w5.heap.size := by have h9 := hb5.size; (try simp at h9); omega
    go_wp2_with fail
    refine (A6.out _).mono ?_; rintro e w6 ⟨rfl, hb6⟩
    obtain ⟨hc6, hf6⟩ := bcell hb6
    have hz0_6 : w0.heap.size < w6.heap.size := by have h9 := hb6.size; (try simp at h9); omega
    have hz1_6 : w1.heap.size < w6.heap.size := by have h9 := hb6.size; (try simp at h9); omega
    have hz2_6 : w2.heap.size < w6.heap.size := by have h9 := hb6.size; (try simp at h9); omega
    have hz3_6 : w3.heap.size < w6.heap.size := by have h9 := hb6.size; (try simp at h9); omega
    have hz5_6 : w5.heap.size < w6.heap.size := by have h9 := hb6.size; (try simp at h9); omega
    go_wp2_with fail
    refine (A7.out _).mono ?_; rintro e w7 ⟨rfl, hb7⟩
    obtain ⟨hc7, hf7⟩ := bcell hb7
    have hz0_7 : w0.heap.size < w7.heap.size := by have h9 := hb7.size; (try simp at h9); omega
    have hz1_7 : w1.heap.size < w7.heap.size := by have h9 := hb7.size; (try simp at h9); omega
    have hz2_7 : w2.heap.size < w7.heap.size := by have h9 := hb7.size; (try simp at h9); omega
    have hz3_7 : w3.heap.size < w7.heap.size := by have h9 := hb7.size; (try simp at h9); omega
    have hz5_7 : w5.heap.size < w7.heap.size := by have h9 := hb7.size; (try simp at h9); omega
    have hz6_7 : w6.heap.size < w7.heap.size := by have h9 := hb7.size; (try simp at h9); omega
    have hzf : w6.heap.size + 1 < w7.heap.size := by have h9 := hb7.size; (try simp at h9); omega
    have hy0 : w0.heap.size < w6.heap.size + 1 + 1 := by omega
    have hy1 : w1.heap.size < w6.heap.size + 1 + 1 := by omega
    have hy2 : w2.heap.size < w6.heap.size + 1 + 1 := by omega
    have hy3 : w3.heap.size < w6.heap.size + 1 + 1 := by omega
    have hy5 : w5.heap.size < w6.heap.size + 1 + 1 := by omega
    go_wp2_with fail
    refine (A8.out _).mono ?_; rintro e w8 ⟨rfl, hb8⟩
    obtain ⟨hc8, hf8⟩ := bcell hb8
    have hz0_8 : w0.heap.size < w8.heap.size := by have h9 := hb8.size; (try simp at h9); omega
    have hz1_8 : w1.heap.size < w8.heap.size := by have h9 := hb8.size; (try simp at h9); omega
    have hz2_8 : w2.heap.size < w8.heap.size := by have h9 := hb8.size; (try simp at h9); omega
    have hz3_8 : w3.heap.size < w8.heap.size := by have h9 := hb8.size; (try simp at h9); omega
    have hz5_8 : w5.heap.size < w8.heap.size := by have h9 := hb8.size; (try simp at h9); omega
    have hz6_8 : w6.heap.size < w8.heap.size := by have h9 := hb8.size; (try simp at h9); omega
    go_wp2_with fail
    go_ret
    refine ⟨rfl, ?_⟩
    have s0 := hb0.size
    repeat (first | exact Below.refl _ _ | refine Below.step ?_ (by assumption) | refine Below.setCell ?_ (by first | (simp; done) | (simp; omega) | omega) _ | refine Below.allocS ?_ _ | refine Below.drew ?_ | refine below_drewN ?_ _)
end Go.Proofs.Ytbddiagnijcmhaa
