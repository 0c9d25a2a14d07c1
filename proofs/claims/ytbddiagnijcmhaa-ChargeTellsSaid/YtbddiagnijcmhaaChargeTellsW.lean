/-
  ChargeTells: the walk of the law, by 'tells'.
-/
import Derived.Test.YtbddiagnijcmhaaChargeTl
import Derived.OpenShut
namespace Go.Proofs.Ytbddiagnijcmhaa
open Go.RowKit Go.Shelf
set_option linter.unusedVariables false
theorem fits_of {v r c : Int} (g0 : (Lit.int .u64 v).wf = true) (g1 : (Lit.int .u32 r).wf = true) (g2 : (Lit.int .u32 c).wf = true) : Ch.Fits v r c := by
  have := bounds_u64 g0
  have := bounds_u32 g1
  have := bounds_u32 g2
  unfold Ch.Fits
  omega
set_option maxHeartbeats 1000000 in
theorem ChargeTells_true (v r c v2 r2 c2 t n q : Int) (g0 : (Lit.int .u64 v).wf = true) (g1 : (Lit.int .u32 r).wf = true) (g2 : (Lit.int .u32 c).wf = true) (g3 : (Lit.int .u64 v2).wf = true) (g4 : (Lit.int .u32 r2).wf = true) (g5 : (Lit.int .u32 c2).wf = true) (g6 : (Lit.int .i64 t).wf = true) (g7 : (Lit.int .i64 n).wf = true) (g8 : (Lit.int .u64 q).wf = true) (w : World) :
    Calls Try.prog 8 #[.agg #[.int .u64 v, .int .u32 r, .int .u32 c], .agg #[.int .u64 v2, .int .u32 r2, .int .u32 c2], .int .i64 t, .int .i64 n, .int .u64 q] w fun e w' => e = .returned (.bool true) ∧ Below w.heap.size w w' := by
  have A1 := Lib.hid fun W => tells_any v r c v2 r2 c2 t n q W (fits_of g0 g1 g2) (fits_of g3 g4 g5) (bounds_i64 g6) (bounds_i64 g7) (bounds_u64 g8)
  clear g0 g1 g2 g3 g4 g5 g6 g7 g8
  go_enter Try.func8, Try.ntmps8
  go_wp2_with fail
  refine (A1.out _).mono ?_; rintro e w1 ⟨rfl, hb1⟩
  go_wp2_with fail
  refine (awake_any _).mono ?_; rintro e w2 ⟨rfl, hb2⟩
  go_wp2_with fail
  go_ret
  refine ⟨rfl, ?_⟩
  repeat (first | exact Below.refl _ _ | refine Below.step ?_ (by assumption) | refine Below.setCell ?_ (by first | (simp; done) | (simp; omega) | omega) _ | refine Below.allocS ?_ _ | refine Below.drew ?_ | refine below_drewN ?_ _)
end Go.Proofs.Ytbddiagnijcmhaa
