/-
  Layer 22 (charge): the examples of the chapter hold (awake), and Made.
-/
import Derived.Test.YtbddiagnijcmhaaChargeU
namespace Go.Proofs.Ytbddiagnijcmhaa
open Go.RowKit Go.Shelf
set_option linter.unusedVariables false

theorem Add_eq (v r c t v2 r2 : Int) (w : World) (h : Ch.Ok v r c) (ht : 0 ≤ t ∧ t ≤ 4294967295) (e1 : Ch.addV v r c t = v2) (e2 : Ch.addR v r c t = r2) :
    Calls Try.prog 13 #[.agg #[.int .u64 v, .int .u32 r, .int .u32 c], .int .i64 t] w fun e w' => e = .returned (.tuple #[.agg #[.int .u64 v2, .int .u32 r2, .int .u32 c], .int .i64 0]) ∧ Below w.heap.size w w' := by
  subst e1 e2; exact Add_ok v r c t w h ht
theorem Until_eq (v r c to n e : Int) (w : World) (h : Ch.Ok v r c) (hto : 0 ≤ to ∧ to ≤ 18446744073709551615) (e1 : Ch.untilT v r c to = n) (e2 : Ch.untilE v r c to = e) :
    Calls Try.prog 17 #[.agg #[.int .u64 v, .int .u32 r, .int .u32 c], .int .u64 to] w fun e' w' => e' = .returned (.tuple #[.int .i64 n, .int .i64 e]) ∧ Below w.heap.size w w' := by
  subst e1 e2; exact Until_ok v r c to w h hto
theorem Less_eq (v r c v2 r2 c2 : Int) (b : Bool) (w : World) (h : Ch.Ok v r c) (h2 : Ch.Ok v2 r2 c2) (e1 : Ch.lessB v r c v2 r2 c2 = b) :
    Calls Try.prog 19 #[.agg #[.int .u64 v, .int .u32 r, .int .u32 c], .agg #[.int .u64 v2, .int .u32 r2, .int .u32 c2]] w fun e w' => e = .returned (.tuple #[.bool b, .int .i64 0]) ∧ Below w.heap.size w w' := by
  subst e1; exact Less_ok v r c v2 r2 c2 w h h2
theorem Most_eq (n t m : Int) (w : World) (hn : 1 ≤ n ∧ n ≤ 65536) (ht : 0 ≤ t ∧ t ≤ 4294967295) (e1 : Ch.addV 0 (n - 1) n t = m) :
    Calls Try.prog 16 #[.int .i64 n, .int .i64 t] w fun e w' => e = .returned (.tuple #[.int .u64 m, .int .i64 0]) ∧ Below w.heap.size w w' := by
  subst e1; exact Most_ok n t w hn ht

set_option maxHeartbeats 1000000 in
theorem awake_any (w : World) : Calls Try.prog 15 #[] w fun e w' => e = .returned (.bool true) ∧ Below w.heap.size w w' := by
  have a1 := fun W => Add_eq 0 0 1024 1 1024 0 W (by decide) (by decide) (by decide) (by decide)
  have a2 := fun W => Add_eq 0 0 3 1 349525 1 W (by decide) (by decide) (by decide) (by decide)
  have a3 := fun W => Add_eq 349525 1 3 2 1048576 0 W (by decide) (by decide) (by decide) (by decide)
  have a4 := fun W => Add_eq 18446744073709551610 0 1 1 18446744073709551615 0 W (by decide) (by decide) (by decide) (by decide)
  have a5 := fun W => Until_eq 0 0 3 349526 2 0 W (by decide) (by decide) (by decide) (by decide)
  have a6 := fun W => Less_eq 5 1 2 5 2 3 true W (by decide) (by decide) (by decide)
  have a7 := fun W => Most_eq 3 1 349526 W (by decide) (by decide) (by decide)
  have A1 := Lib.hid a1
  have A2 := Lib.hid a2
  have A3 := Lib.hid a3
  have A4 := Lib.hid a4
  have A5 := Lib.hid a5
  have A6 := Lib.hid a6
  have A7 := Lib.hid a7
  clear a1 a2 a3 a4 a5 a6 a7
  go_enter Try.func15, Try.ntmps15
  go_wp2_with fail
  refine (A1.out _).mono ?_; rintro e w1 ⟨rfl, hb1⟩
  obtain ⟨hc1, hf1⟩ := bcell hb1
  go_wp2_with fail
  refine (A2.out _).mono ?_; rintro e w2 ⟨rfl, hb2⟩
  obtain ⟨hc2, hf2⟩ := bcell hb2
  have hz1_2 : w1.heap.size < w2.heap.size := by have h9 := hb2.size; (try simp at h9); omega
  go_wp2_with fail
  refine (A3.out _).mono ?_; rintro e w3 ⟨rfl, hb3⟩
  obtain ⟨hc3, hf3⟩ := bcell hb3
  have hz1_3 : w1.heap.size < w3.heap.size := by have h9 := hb3.size; (try simp at h9); omega
  have hz2_3 : w2.heap.size < w3.heap.size := by have h9 := hb3.size; (try simp at h9); omega
  go_wp2_with fail
  refine (A4.out _).mono ?_; rintro e w4 ⟨rfl, hb4⟩
  obtain ⟨hc4, hf4⟩ := bcell hb4
  have hz1_4 : w1.heap.size < w4.heap.size := by have h9 := hb4.size; (try simp at h9); omega
  have hz2_4 : w2.heap.size < w4.heap.size := by have h9 := hb4.size; (try simp at h9); omega
  have hz3_4 : w3.heap.size < w4.heap.size := by have h9 := hb4.size; (try simp at h9); omega
  go_wp2_with fail
  refine (A5.out _).mono ?_; rintro e w5 ⟨rfl, hb5⟩
  obtain ⟨hc5, hf5⟩ := bcell hb5
  have hz1_5 : w1.heap.size < w5.heap.size := by have h9 := hb5.size; (try simp at h9); omega
  have hz2_5 : w2.heap.size < w5.heap.size := by have h9 := hb5.size; (try simp at h9); omega
  have hz3_5 : w3.heap.size < w5.heap.size := by have h9 := hb5.size; (try simp at h9); omega
  have hz4_5 : w4.heap.size < w5.heap.size := by have h9 := hb5.size; (try simp at h9); omega
  go_wp2_with fail
  refine (A6.out _).mono ?_; rintro e w6 ⟨rfl, hb6⟩
  obtain ⟨hc6, hf6⟩ := bcell hb6
  have hz1_6 : w1.heap.size < w6.heap.size := by have h9 := hb6.size; (try simp at h9); omega
  have hz2_6 : w2.heap.size < w6.heap.size := by have h9 := hb6.size; (try simp at h9); omega
  have hz3_6 : w3.heap.size < w6.heap.size := by have h9 := hb6.size; (try simp at h9); omega
  have hz4_6 : w4.heap.size < w6.heap.size := by have h9 := hb6.size; (try simp at h9); omega
  go_wp2_with fail
  refine (A7.out _).mono ?_; rintro e w7 ⟨rfl, hb7⟩
  obtain ⟨hc7, hf7⟩ := bcell hb7
  have hz1_7 : w1.heap.size < w7.heap.size := by have h9 := hb7.size; (try simp at h9); omega
  have hz2_7 : w2.heap.size < w7.heap.size := by have h9 := hb7.size; (try simp at h9); omega
  have hz3_7 : w3.heap.size < w7.heap.size := by have h9 := hb7.size; (try simp at h9); omega
  have hz4_7 : w4.heap.size < w7.heap.size := by have h9 := hb7.size; (try simp at h9); omega
  go_wp2_with fail
  go_ret
  refine ⟨rfl, ?_⟩
  repeat (first | exact Below.refl _ _ | refine Below.step ?_ (by assumption) | refine Below.setCell ?_ (by first | (simp; done) | (simp; omega) | omega) _ | refine Below.allocS ?_ _ | refine Below.drew ?_ | refine below_drewN ?_ _)

/-! Made -/
def Ch.madeR (v r n : Int) : Int := if v = 18446744073709551615 then 0 else r % (1 + n % 65536)
theorem Ch.made_ok {v r n : Int} (hv : 0 ≤ v ∧ v ≤ 18446744073709551615) (hr : 0 ≤ r) (hn : 0 ≤ n) : Ch.Ok v (Ch.madeR v r n) (1 + n % 65536) := by
  have h1 := Int.emod_nonneg r (show 1 + n % 65536 ≠ 0 by omega)
  have h2 := Int.emod_lt_of_pos r (show 0 < 1 + n % 65536 by omega)
  unfold Ch.Ok Ch.madeR
  split <;> omega
set_option maxHeartbeats 1000000 in
theorem Made_any (v r n : Int) (w : World) (hv : 0 ≤ v ∧ v ≤ 18446744073709551615) (hr : 0 ≤ r ∧ r ≤ 4294967295) (hn : 0 ≤ n ∧ n ≤ 4294967295) :
    Calls Try.prog 12 #[.int .u64 v, .int .u32 r, .int .u32 n] w fun e w' => e = .returned (.agg #[.int .u64 v, .int .u32 (Ch.madeR v r n), .int .u32 (1 + n % 65536)]) ∧ Below w.heap.size w w' := by
  obtain ⟨hv0, hv1⟩ := hv
  obtain ⟨hr0, hr1⟩ := hr
  obtain ⟨hn0, hn1⟩ := hn
  have hc : 0 ≤ n % 65536 ∧ n % 65536 ≤ 65535 := by omega
  have h1 := Int.emod_nonneg r (show 1 + n % 65536 ≠ 0 by omega)
  have h2 := Int.emod_lt_of_pos r (show 0 < 1 + n % 65536 by omega)
  by_cases he : v = 18446744073709551615
  · rw [show Ch.madeR v r n = 0 by simp [Ch.madeR, he]]
    have hE : (v == 18446744073709551615) = true := by simpa using he
    clear he
    go_enter Try.func12, Try.ntmps12
    go_wp2
    refine bodyPost_ret (v := .agg #[.int .u64 v, .int .u32 0, .int .u32 (1 + n % 65536)]) (by simp [results, Try.results12, go_sem]) rfl ⟨rfl, ?_⟩
    repeat (first | exact Below.refl _ _ | refine Below.step ?_ (by assumption) | refine Below.setCell ?_ (by first | (simp; done) | (simp; omega) | omega) _ | refine Below.allocS ?_ _ | refine Below.drew ?_ | refine below_drewN ?_ _)
  · rw [show Ch.madeR v r n = r % (1 + n % 65536) by simp [Ch.madeR, he]]
    have hE : (v == 18446744073709551615) = false := by simpa using he
    clear he
    go_enter Try.func12, Try.ntmps12
    go_wp2
    refine bodyPost_ret (v := .agg #[.int .u64 v, .int .u32 (r % (1 + n % 65536)), .int .u32 (1 + n % 65536)]) (by simp [results, Try.results12, go_sem]) rfl ⟨rfl, ?_⟩
    repeat (first | exact Below.refl _ _ | refine Below.step ?_ (by assumption) | refine Below.setCell ?_ (by first | (simp; done) | (simp; omega) | omega) _ | refine Below.allocS ?_ _ | refine Below.drew ?_ | refine below_drewN ?_ _)
theorem Made_ex (v r n : Int) (hv : 0 ≤ v ∧ v ≤ 18446744073709551615) (hr : 0 ≤ r ∧ r ≤ 4294967295) (hn : 0 ≤ n ∧ n ≤ 4294967295) :
    ∃ rr c : Int, Ch.Ok v rr c ∧ rr = Ch.madeR v r n ∧ c = 1 + n % 65536 ∧ ∀ w, Calls Try.prog 12 #[.int .u64 v, .int .u32 r, .int .u32 n] w fun e w' => e = .returned (.agg #[.int .u64 v, .int .u32 rr, .int .u32 c]) ∧ Below w.heap.size w w' :=
  ⟨_, _, Ch.made_ok hv hr.1 hn.1, rfl, rfl, fun w => Made_any v r n w hv hr hn⟩
theorem right_yes (v r c : Int) (w : World) (h : Ch.Ok v r c) :
    Calls Try.prog 14 #[.agg #[.int .u64 v, .int .u32 r, .int .u32 c]] w fun e w' => e = .returned (.bool true) ∧ Below w.heap.size w w' := by
  have := right_any v r c w h.fits
  rwa [Ch.okB_t h] at this
theorem right_no (v r c : Int) (w : World) (hf : Ch.Fits v r c) (h : ¬ Ch.Ok v r c) :
    Calls Try.prog 14 #[.agg #[.int .u64 v, .int .u32 r, .int .u32 c]] w fun e w' => e = .returned (.bool false) ∧ Below w.heap.size w w' := by
  have := right_any v r c w hf
  rwa [Ch.okB_f h] at this
end Go.Proofs.Ytbddiagnijcmhaa
