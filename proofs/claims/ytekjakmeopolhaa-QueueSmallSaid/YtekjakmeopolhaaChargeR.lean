/-
  The walks of the reference of layer 22: each function returns what the plain functions of chargeM say.
-/
import Derived.Test.YtekjakmeopolhaaChargeAw
import Derived.RegionTactic
namespace Go.Proofs.Ytekjakmeopolhaa
open Go.RowKit
set_option linter.unusedVariables false

set_option maxHeartbeats 400000 in
theorem rWeight_any (a : Int) (w : World) :
    Calls Try.prog 65 #[.int .i64 a] w fun e w' => e = .returned (.bool (Ch.wB a)) ∧ w = w' := by
  by_cases h1 : 1 ≤ a
  all_goals by_cases h2 : a ≤ 65536
  all_goals
    go_enter Try.func65, Try.ntmps65
    go_wp2
    go_ret
    exact ⟨ret_bool (by simp [Ch.wB]; omega), rfl⟩
set_option maxHeartbeats 400000 in
theorem rTicks_any (a : Int) (w : World) :
    Calls Try.prog 62 #[.int .i64 a] w fun e w' => e = .returned (.bool (Ch.tB a)) ∧ w = w' := by
  by_cases h1 : 0 ≤ a
  all_goals by_cases h2 : a ≤ 4294967295
  all_goals
    go_enter Try.func62, Try.ntmps62
    go_wp2
    go_ret
    exact ⟨ret_bool (by simp [Ch.tB]; omega), rfl⟩

set_option maxHeartbeats 400000 in
theorem rRight_any (v r c : Int) (w : World) (hf : Ch.Fits v r c) :
    Calls Try.prog 58 #[.agg #[.int .u64 v, .int .u32 r, .int .u32 c]] w fun e w' => e = .returned (.bool (Ch.okB v r c)) ∧ Below w.heap.size w w' := by
  obtain ⟨hv0, hv1, hr0, hr1, hc0, hc1⟩ := hf
  by_cases h1 : 1 ≤ c
  · by_cases h2 : c ≤ 65536
    · by_cases h3 : r < c
      · by_cases h4 : v = 18446744073709551615
        · have hv : (v == 18446744073709551615) = true := by simpa using h4
          by_cases h5 : 0 < r
          · rw [Ch.okB_f (by unfold Ch.Ok; omega)]
            clear h4
            go_enter Try.func58, Try.ntmps58
            go_wp2
            go_ret
            exact ⟨ret_bool (by simp), (Below.refl _ _).alloc (Nat.le_refl _) _⟩
          · rw [Ch.okB_t (by unfold Ch.Ok; omega)]
            clear h4
            go_enter Try.func58, Try.ntmps58
            go_wp2
            go_ret
            exact ⟨ret_bool (by simp), (Below.refl _ _).alloc (Nat.le_refl _) _⟩
        · have hv : (v == 18446744073709551615) = false := by simpa using h4
          rw [Ch.okB_t (by unfold Ch.Ok; omega)]
          clear h4
          go_enter Try.func58, Try.ntmps58
          go_wp2
          go_ret
          exact ⟨ret_bool (by simp), (Below.refl _ _).alloc (Nat.le_refl _) _⟩
      · rw [Ch.okB_f (by unfold Ch.Ok; omega)]
        go_enter Try.func58, Try.ntmps58
        go_wp2
        go_ret
        exact ⟨ret_bool (by first | rfl | simp | (simp; omega)), (Below.refl _ _).alloc (Nat.le_refl _) _⟩
    · rw [Ch.okB_f (by unfold Ch.Ok; omega)]
      go_enter Try.func58, Try.ntmps58
      go_wp2
      go_ret
      exact ⟨ret_bool (by first | rfl | simp | (simp; omega)), (Below.refl _ _).alloc (Nat.le_refl _) _⟩
  · rw [Ch.okB_f (by unfold Ch.Ok; omega)]
    go_enter Try.func58, Try.ntmps58
    go_wp2
    go_ret
    exact ⟨ret_bool (by first | rfl | simp | (simp; omega)), (Below.refl _ _).alloc (Nat.le_refl _) _⟩

set_option maxHeartbeats 1000000 in
theorem rcharged_any (v r c t : Int) (w : World) (h : Ch.Ok v r c) (ht : 0 ≤ t ∧ t ≤ 4294967295) :
    Calls Try.prog 73 #[.agg #[.int .u64 v, .int .u32 r, .int .u32 c], .int .i64 t] w fun e w' => e = .returned (.agg #[.int .u64 (Ch.addV v r c t), .int .u32 (Ch.addR v r c t), .int .u32 c]) ∧ Below w.heap.size w w' := by
  obtain ⟨hv0, hv1, hr0, hr1, hc0, hc1, _⟩ := h
  obtain ⟨ht0, ht1⟩ := ht
  have hn : 0 ≤ t * 1048576 + r ∧ t * 1048576 + r ≤ 4503599627370496 := by omega
  have hq := IntWalk.tdiv_le (t * 1048576 + r) c hn.1 hc0
  have hm0 := Int.emod_nonneg (t * 1048576 + r) (show c ≠ 0 by omega)
  have hm1 := Int.emod_lt_of_pos (t * 1048576 + r) (show 0 < c by omega)
  by_cases he : Ch.atEnd v r c t
  · rw [show Ch.addV v r c t = 18446744073709551615 by simp [Ch.addV, he], show Ch.addR v r c t = 0 by simp [Ch.addR, he]]
    unfold Ch.atEnd at he
    by_cases h2 : v + (t * 1048576 + r) / c ≤ 18446744073709551615
    · have h3 : (v + (t * 1048576 + r) / c == 18446744073709551615) = true := by simp; omega
      go_enter Try.func73, Try.ntmps73
      go_wp2
      refine bodyPost_ret (v := .agg #[.int .u64 (18446744073709551615), .int .u32 (0), .int .u32 c]) (by simp [results, Try.results73, go_sem]) rfl ⟨rfl, ?_⟩
      repeat (first | exact Below.refl _ _ | refine Below.step ?_ (by assumption) | refine Below.setCell ?_ (by first | (simp; done) | (simp; omega) | omega) _ | refine Below.allocS ?_ _ | refine Below.drew ?_ | refine below_drewN ?_ _)
    · obtain ⟨u, hu, hlt⟩ : ∃ u : Int, IntKind.u64.wrap (v + (t * 1048576 + r) / c) = u ∧ u < v := by
        refine ⟨v + (t * 1048576 + r) / c - 18446744073709551616, ?_, by omega⟩
        rw [IntKind.wrap_u64]; omega
      go_enter Try.func73, Try.ntmps73
      go_wp2
      refine bodyPost_ret (v := .agg #[.int .u64 (18446744073709551615), .int .u32 (0), .int .u32 c]) (by simp [results, Try.results73, go_sem]) rfl ⟨rfl, ?_⟩
      repeat (first | exact Below.refl _ _ | refine Below.step ?_ (by assumption) | refine Below.setCell ?_ (by first | (simp; done) | (simp; omega) | omega) _ | refine Below.allocS ?_ _ | refine Below.drew ?_ | refine below_drewN ?_ _)
  · rw [show Ch.addV v r c t = v + (t * 1048576 + r) / c by simp [Ch.addV, he], show Ch.addR v r c t = (t * 1048576 + r) % c by simp [Ch.addR, he]]
    unfold Ch.atEnd at he
    have he2 : v + (t * 1048576 + r) / c < 18446744073709551615 := by omega
    have he3 : (v + (t * 1048576 + r) / c == 18446744073709551615) = false := by simp; omega
    go_enter Try.func73, Try.ntmps73
    go_wp2
    go_region
    all_goals go_wp2
    refine bodyPost_ret (v := .agg #[.int .u64 (v + (t * 1048576 + r) / c), .int .u32 ((t * 1048576 + r) % c), .int .u32 c]) (by simp [results, Try.results73, go_sem]) rfl ⟨rfl, ?_⟩
    repeat (first | exact Below.refl _ _ | refine Below.step ?_ (by assumption) | refine Below.setCell ?_ (by first | (simp; done) | (simp; omega) | omega) _ | refine Below.allocS ?_ _ | refine Below.drew ?_ | refine below_drewN ?_ _)

/-- what Add returns -/
def Ch.aE (v r c t : Int) : Int := if Ch.Ok v r c ∧ 0 ≤ t ∧ t ≤ 4294967295 then 0 else 2
def Ch.aV (v r c t : Int) : Int := if Ch.Ok v r c ∧ 0 ≤ t ∧ t ≤ 4294967295 then Ch.addV v r c t else 0
def Ch.aR (v r c t : Int) : Int := if Ch.Ok v r c ∧ 0 ≤ t ∧ t ≤ 4294967295 then Ch.addR v r c t else 0
def Ch.aW (v r c t : Int) : Int := if Ch.Ok v r c ∧ 0 ≤ t ∧ t ≤ 4294967295 then c else 0
theorem Add_any (v r c t : Int) (w : World) (hf : Ch.Fits v r c) :
    Calls Try.prog 24 #[.agg #[.int .u64 v, .int .u32 r, .int .u32 c], .int .i64 t] w fun e w' => e = .returned (.tuple #[.agg #[.int .u64 (Ch.aV v r c t), .int .u32 (Ch.aR v r c t), .int .u32 (Ch.aW v r c t)], .int .i64 (Ch.aE v r c t)]) ∧ Below w.heap.size w w' := by
  unfold Ch.aV Ch.aR Ch.aW Ch.aE
  by_cases h : Ch.Ok v r c ∧ 0 ≤ t ∧ t ≤ 4294967295
  · rw [if_pos h, if_pos h, if_pos h, if_pos h]; exact Add_ok v r c t w h.1 h.2
  · rw [if_neg h, if_neg h, if_neg h, if_neg h]; exact Add_bad v r c t w hf h
set_option maxHeartbeats 1000000 in
theorem rAdd_ok (v r c t : Int) (w : World) (h : Ch.Ok v r c) (ht : 0 ≤ t ∧ t ≤ 4294967295) :
    Calls Try.prog 63 #[.agg #[.int .u64 v, .int .u32 r, .int .u32 c], .int .i64 t] w fun e w' => e = .returned (.tuple #[.agg #[.int .u64 (Ch.addV v r c t), .int .u32 (Ch.addR v r c t), .int .u32 c], .int .i64 0]) ∧ Below w.heap.size w w' := by
  have k1 := Ch.okB_t h
  have k2 := Ch.tB_t ht.1 ht.2
  have hf := h.fits
  go_enter Try.func63, Try.ntmps63
  go_wp2_with fail
  refine (rRight_any _ _ _ _ hf).mono ?_; rintro e w1 ⟨rfl, hb1⟩; rw [k1]
  obtain ⟨hc1, hf1⟩ := bcell hb1
  have hz1 : w.heap.size + 1 < w1.heap.size := by have := hb1.size; simp at this; omega
  go_wp2_with fail
  refine (rTicks_any _ _).mono ?_; rintro e w2 ⟨rfl, rfl⟩; rw [k2]
  go_wp2_with fail
  refine (rcharged_any _ _ _ _ _ h ht).mono ?_; rintro e w3 ⟨rfl, hb3⟩
  obtain ⟨hc3, hf3⟩ := bcell hb3
  have hz3 : w.heap.size + 1 < w3.heap.size := by have := hb3.size; omega
  go_wp2_with fail
  refine bodyPost_ret (v := .tuple #[.agg #[.int .u64 (Ch.addV v r c t), .int .u32 (Ch.addR v r c t), .int .u32 (c)], .int .i64 0]) (by simp [results, Try.results63, go_sem, *]) rfl ⟨rfl, ?_⟩
  repeat (first | exact Below.refl _ _ | refine Below.step ?_ (by assumption) | refine Below.setCell ?_ (by first | (simp; done) | (simp; omega) | omega) _ | refine Below.allocS ?_ _ | refine Below.drew ?_ | refine below_drewN ?_ _)
set_option maxHeartbeats 1000000 in
theorem rAdd_bad (v r c t : Int) (w : World) (hf : Ch.Fits v r c) (h : ¬ (Ch.Ok v r c ∧ 0 ≤ t ∧ t ≤ 4294967295)) :
    Calls Try.prog 63 #[.agg #[.int .u64 v, .int .u32 r, .int .u32 c], .int .i64 t] w fun e w' => e = .returned (.tuple #[.agg #[.int .u64 0, .int .u32 0, .int .u32 0], .int .i64 2]) ∧ Below w.heap.size w w' := by
  by_cases h1 : Ch.Ok v r c
  · have k1 := Ch.okB_t h1
    have k2 := Ch.tB_f (fun k => h ⟨h1, k⟩)
    clear h
    go_enter Try.func63, Try.ntmps63
    go_wp2_with fail
    refine (rRight_any _ _ _ _ hf).mono ?_; rintro e w1 ⟨rfl, hb1⟩; rw [k1]
    obtain ⟨hc1, hf1⟩ := bcell hb1
    have hz1 : w.heap.size + 1 < w1.heap.size := by have := hb1.size; simp at this; omega
    go_wp2_with fail
    refine (rTicks_any _ _).mono ?_; rintro e w2 ⟨rfl, rfl⟩; rw [k2]
    go_wp2_with fail
    refine bodyPost_ret (v := .tuple #[.agg #[.int .u64 (0), .int .u32 (0), .int .u32 (0)], .int .i64 2]) (by simp [results, Try.results63, go_sem, *]) rfl ⟨rfl, ?_⟩
    repeat (first | exact Below.refl _ _ | refine Below.step ?_ (by assumption) | refine Below.setCell ?_ (by first | (simp; done) | (simp; omega) | omega) _ | refine Below.allocS ?_ _ | refine Below.drew ?_ | refine below_drewN ?_ _)
  · have k1 := Ch.okB_f h1
    clear h
    go_enter Try.func63, Try.ntmps63
    go_wp2_with fail
    refine (rRight_any _ _ _ _ hf).mono ?_; rintro e w1 ⟨rfl, hb1⟩; rw [k1]
    obtain ⟨hc1, hf1⟩ := bcell hb1
    have hz1 : w.heap.size + 1 < w1.heap.size := by have := hb1.size; simp at this; omega
    go_wp2_with fail
    refine bodyPost_ret (v := .tuple #[.agg #[.int .u64 (0), .int .u32 (0), .int .u32 (0)], .int .i64 2]) (by simp [results, Try.results63, go_sem, *]) rfl ⟨rfl, ?_⟩
    repeat (first | exact Below.refl _ _ | refine Below.step ?_ (by assumption) | refine Below.setCell ?_ (by first | (simp; done) | (simp; omega) | omega) _ | refine Below.allocS ?_ _ | refine Below.drew ?_ | refine below_drewN ?_ _)
theorem rAdd_any (v r c t : Int) (w : World) (hf : Ch.Fits v r c) :
    Calls Try.prog 63 #[.agg #[.int .u64 v, .int .u32 r, .int .u32 c], .int .i64 t] w fun e w' => e = .returned (.tuple #[.agg #[.int .u64 (Ch.aV v r c t), .int .u32 (Ch.aR v r c t), .int .u32 (Ch.aW v r c t)], .int .i64 (Ch.aE v r c t)]) ∧ Below w.heap.size w w' := by
  unfold Ch.aV Ch.aR Ch.aW Ch.aE
  by_cases h : Ch.Ok v r c ∧ 0 ≤ t ∧ t ≤ 4294967295
  · rw [if_pos h, if_pos h, if_pos h, if_pos h]; exact rAdd_ok v r c t w h.1 h.2
  · rw [if_neg h, if_neg h, if_neg h, if_neg h]; exact rAdd_bad v r c t w hf h

/-! Most -/
def Ch.mV (n t : Int) : Int := if 1 ≤ n ∧ n ≤ 65536 ∧ 0 ≤ t ∧ t ≤ 4294967295 then Ch.addV 0 (n - 1) n t else 0
def Ch.mE (n t : Int) : Int := if 1 ≤ n ∧ n ≤ 65536 ∧ 0 ≤ t ∧ t ≤ 4294967295 then 0 else 2
theorem Most_any (n t : Int) (w : World) :
    Calls Try.prog 20 #[.int .i64 n, .int .i64 t] w fun e w' => e = .returned (.tuple #[.int .u64 (Ch.mV n t), .int .i64 (Ch.mE n t)]) ∧ Below w.heap.size w w' := by
  unfold Ch.mV Ch.mE
  by_cases h : 1 ≤ n ∧ n ≤ 65536 ∧ 0 ≤ t ∧ t ≤ 4294967295
  · rw [if_pos h, if_pos h]; exact Most_ok n t w ⟨h.1, h.2.1⟩ h.2.2
  · rw [if_neg h, if_neg h]; exact Most_bad n t w h
theorem Ch.most_far {n t : Int} (hn : 1 ≤ n ∧ n ≤ 65536) (ht : 0 ≤ t ∧ t ≤ 4294967295) : Ch.addV 0 (n - 1) n t = (t * 1048576 + n - 1) / n ∧ 0 ≤ (t * 1048576 + n - 1) / n ∧ (t * 1048576 + n - 1) / n ≤ 4503599627370496 := by
  rw [show t * 1048576 + n - 1 = t * 1048576 + (n - 1) by omega]
  have h1 := Int.ediv_nonneg (show 0 ≤ t * 1048576 + (n - 1) by omega) (show 0 ≤ n by omega)
  have h2 : (t * 1048576 + (n - 1)) / n ≤ t * 1048576 := by
    rw [← Int.lt_add_one_iff]
    refine Int.ediv_lt_of_lt_mul (by omega) ?_
    have := Int.mul_le_mul_of_nonneg_left hn.1 (show 0 ≤ t * 1048576 + 1 by omega)
    by_cases hz : t = 0
    · subst hz; omega
    · have h3 : (t * 1048576 + 1) * n = t * 1048576 * (n - 1) + t * 1048576 + n := by rw [Int.add_mul, Int.mul_sub]; omega
      have h4 := Int.mul_nonneg (show 0 ≤ t * 1048576 by omega) (show 0 ≤ n - 1 by omega)
      omega
  refine ⟨?_, h1, by omega⟩
  unfold Ch.addV
  rw [if_neg]
  · omega
  · unfold Ch.atEnd; omega
end Go.Proofs.Ytekjakmeopolhaa
