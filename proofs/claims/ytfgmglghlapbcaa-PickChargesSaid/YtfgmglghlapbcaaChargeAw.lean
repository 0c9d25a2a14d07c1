/-
  Layer 22 (charge): the examples of the chapter hold (awake), and Made.
-/
import Derived.Test.YtfgmglghlapbcaaChargeW
namespace Go.Proofs.Ytfgmglghlapbcaa
open Go.RowKit
set_option linter.unusedVariables false

theorem Add_eq (v r c t v2 r2 : Int) (w : World) (h : Ch.Ok v r c) (ht : 0 ≤ t ∧ t ≤ 4294967295) (e1 : Ch.addV v r c t = v2) (e2 : Ch.addR v r c t = r2) :
    Calls Try.prog 16 #[.agg #[.int .u64 v, .int .u32 r, .int .u32 c], .int .i64 t] w fun e w' => e = .returned (.tuple #[.agg #[.int .u64 v2, .int .u32 r2, .int .u32 c], .int .i64 0]) ∧ Below w.heap.size w w' := by
  subst e1 e2; exact Add_ok v r c t w h ht
/-! Made -/
def Ch.madeR (v r n : Int) : Int := if v = 18446744073709551615 then 0 else r % (1 + n % 65536)
theorem Ch.made_ok {v r n : Int} (hv : 0 ≤ v ∧ v ≤ 18446744073709551615) (hr : 0 ≤ r) (hn : 0 ≤ n) : Ch.Ok v (Ch.madeR v r n) (1 + n % 65536) := by
  have h1 := Int.emod_nonneg r (show 1 + n % 65536 ≠ 0 by omega)
  have h2 := Int.emod_lt_of_pos r (show 0 < 1 + n % 65536 by omega)
  unfold Ch.Ok Ch.madeR
  split <;> omega
set_option maxHeartbeats 1000000 in
theorem Made_any (v r n : Int) (w : World) (hv : 0 ≤ v ∧ v ≤ 18446744073709551615) (hr : 0 ≤ r ∧ r ≤ 4294967295) (hn : 0 ≤ n ∧ n ≤ 4294967295) :
    Calls Try.prog 7 #[.int .u64 v, .int .u32 r, .int .u32 n] w fun e w' => e = .returned (.agg #[.int .u64 v, .int .u32 (Ch.madeR v r n), .int .u32 (1 + n % 65536)]) ∧ Below w.heap.size w w' := by
  obtain ⟨hv0, hv1⟩ := hv
  obtain ⟨hr0, hr1⟩ := hr
  obtain ⟨hn0, hn1⟩ := hn
  have hc : 0 ≤ n % 65536 ∧ n % 65536 ≤ 65535 := by omega
  have h1 := Int.emod_nonneg r (show 1 + n % 65536 ≠ 0 by omega)
  have h2 := Int.emod_lt_of_pos r (show 0 < 1 + n % 65536 by omega)
  by_cases he : v = 18446744073709551615
  · rw [show Ch.madeR v r n = 0 by simp [Ch.madeR, he]]
    have hE : (v == 18446744073709551615) = true := by simpa using he
    clear he
    go_enter Try.func7, Try.ntmps7
    go_wp2
    refine bodyPost_ret (v := .agg #[.int .u64 v, .int .u32 0, .int .u32 (1 + n % 65536)]) (by simp [results, Try.results7, go_sem]) rfl ⟨rfl, ?_⟩
    repeat (first | exact Below.refl _ _ | refine Below.step ?_ (by assumption) | refine Below.setCell ?_ (by first | (simp; done) | (simp; omega) | omega) _ | refine Below.allocS ?_ _ | refine Below.drew ?_ | refine below_drewN ?_ _)
  · rw [show Ch.madeR v r n = r % (1 + n % 65536) by simp [Ch.madeR, he]]
    have hE : (v == 18446744073709551615) = false := by simpa using he
    clear he
    go_enter Try.func7, Try.ntmps7
    go_wp2
    refine bodyPost_ret (v := .agg #[.int .u64 v, .int .u32 (r % (1 + n % 65536)), .int .u32 (1 + n % 65536)]) (by simp [results, Try.results7, go_sem]) rfl ⟨rfl, ?_⟩
    repeat (first | exact Below.refl _ _ | refine Below.step ?_ (by assumption) | refine Below.setCell ?_ (by first | (simp; done) | (simp; omega) | omega) _ | refine Below.allocS ?_ _ | refine Below.drew ?_ | refine below_drewN ?_ _)
theorem Made_ex (v r n : Int) (hv : 0 ≤ v ∧ v ≤ 18446744073709551615) (hr : 0 ≤ r ∧ r ≤ 4294967295) (hn : 0 ≤ n ∧ n ≤ 4294967295) :
    ∃ rr c : Int, Ch.Ok v rr c ∧ rr = Ch.madeR v r n ∧ c = 1 + n % 65536 ∧ ∀ w, Calls Try.prog 7 #[.int .u64 v, .int .u32 r, .int .u32 n] w fun e w' => e = .returned (.agg #[.int .u64 v, .int .u32 rr, .int .u32 c]) ∧ Below w.heap.size w w' :=
  ⟨_, _, Ch.made_ok hv hr.1 hn.1, rfl, rfl, fun w => Made_any v r n w hv hr hn⟩
theorem right_yes (v r c : Int) (w : World) (h : Ch.Ok v r c) :
    Calls Try.prog 21 #[.agg #[.int .u64 v, .int .u32 r, .int .u32 c]] w fun e w' => e = .returned (.bool true) ∧ Below w.heap.size w w' := by
  have := right_any v r c w h.fits
  rwa [Ch.okB_t h] at this
theorem right_no (v r c : Int) (w : World) (hf : Ch.Fits v r c) (h : ¬ Ch.Ok v r c) :
    Calls Try.prog 21 #[.agg #[.int .u64 v, .int .u32 r, .int .u32 c]] w fun e w' => e = .returned (.bool false) ∧ Below w.heap.size w w' := by
  have := right_any v r c w hf
  rwa [Ch.okB_f h] at this
end Go.Proofs.Ytfgmglghlapbcaa
