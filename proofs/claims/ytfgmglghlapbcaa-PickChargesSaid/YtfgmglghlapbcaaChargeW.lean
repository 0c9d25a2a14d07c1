/-
  The walks of layer 22 (charge): what each function of the package returns; each makes only new memory ('Below').
-/
import Derived.Test.YtfgmglghlapbcaaRows
import Derived.Test.YtfgmglghlapbcaaChargeM
import Derived.Test.YtfgmglghlapbcaaKit
namespace Go.Proofs.Ytfgmglghlapbcaa
open Go.RowKit
set_option linter.unusedVariables false

@[go_sem] theorem run_field_ent0 (a : Value) (b c : Value) (w : World) : Sem.run Try.prog (Instr.field 39 (.agg #[a, b, c]) 0) w = .ok a w := by kernel_rfl

set_option maxHeartbeats 400000 in
theorem weighs_any (a : Int) (w : World) :
    Calls Try.prog 47 #[.int .i64 a] w fun e w' => e = .returned (.bool (Ch.wB a)) ∧ w = w' := by
  by_cases h1 : 1 ≤ a
  all_goals by_cases h2 : a ≤ 65536
  all_goals
    go_enter Try.func47, Try.ntmps47
    go_wp2
    go_ret
    exact ⟨ret_bool (by simp [Ch.wB]; omega), rfl⟩

set_option maxHeartbeats 400000 in
theorem ticked_any (a : Int) (w : World) :
    Calls Try.prog 43 #[.int .i64 a] w fun e w' => e = .returned (.bool (Ch.tB a)) ∧ w = w' := by
  by_cases h1 : 0 ≤ a
  all_goals by_cases h2 : a ≤ 4294967295
  all_goals
    go_enter Try.func43, Try.ntmps43
    go_wp2
    go_ret
    exact ⟨ret_bool (by simp [Ch.tB]; omega), rfl⟩

set_option maxHeartbeats 400000 in
theorem right_any (v r c : Int) (w : World) (hf : Ch.Fits v r c) :
    Calls Try.prog 21 #[.agg #[.int .u64 v, .int .u32 r, .int .u32 c]] w fun e w' => e = .returned (.bool (Ch.okB v r c)) ∧ Below w.heap.size w w' := by
  obtain ⟨hv0, hv1, hr0, hr1, hc0, hc1⟩ := hf
  by_cases h1 : 1 ≤ c ∧ c ≤ 65536
  · obtain ⟨h1, h2⟩ := h1
    by_cases h3 : r < c
    · by_cases h4 : v < 18446744073709551615
      · rw [Ch.okB_t (by unfold Ch.Ok; omega)]
        go_enter Try.func21, Try.ntmps21
        go_wp2_with (go_at_call 47; refine (weighs_any _ _).mono ?_; rintro e w' ⟨rfl, rfl⟩; rw [Ch.wB_t h1 h2])
        go_ret
        exact ⟨rfl, (Below.refl _ _).alloc (Nat.le_refl _) _⟩
      · by_cases h5 : r = 0
        · rw [Ch.okB_t (by unfold Ch.Ok; omega)]
          go_enter Try.func21, Try.ntmps21
          go_wp2_with (go_at_call 47; refine (weighs_any _ _).mono ?_; rintro e w' ⟨rfl, rfl⟩; rw [Ch.wB_t h1 h2])
          go_ret
          exact ⟨rfl, (Below.refl _ _).alloc (Nat.le_refl _) _⟩
        · rw [Ch.okB_f (by unfold Ch.Ok; omega)]
          have h5 : (r == 0) = false := by simpa using h5
          go_enter Try.func21, Try.ntmps21
          go_wp2_with (go_at_call 47; refine (weighs_any _ _).mono ?_; rintro e w' ⟨rfl, rfl⟩; rw [Ch.wB_t h1 h2])
          go_ret
          exact ⟨ret_bool (by simp; omega), (Below.refl _ _).alloc (Nat.le_refl _) _⟩
    · rw [Ch.okB_f (by unfold Ch.Ok; omega)]
      go_enter Try.func21, Try.ntmps21
      go_wp2_with (go_at_call 47; refine (weighs_any _ _).mono ?_; rintro e w' ⟨rfl, rfl⟩; rw [Ch.wB_t h1 h2])
      go_ret
      exact ⟨rfl, (Below.refl _ _).alloc (Nat.le_refl _) _⟩
  · rw [Ch.okB_f (by unfold Ch.Ok; omega)]
    go_enter Try.func21, Try.ntmps21
    go_wp2_with (go_at_call 47; refine (weighs_any _ _).mono ?_; rintro e w' ⟨rfl, rfl⟩; rw [Ch.wB_f h1])
    go_ret
    exact ⟨rfl, (Below.refl _ _).alloc (Nat.le_refl _) _⟩

set_option maxHeartbeats 400000 in
theorem add_any (v r c t : Int) (w : World) (h : Ch.Ok v r c) (ht : 0 ≤ t ∧ t ≤ 4294967295) :
    Calls Try.prog 44 #[.agg #[.int .u64 v, .int .u32 r, .int .u32 c], .int .i64 t] w fun e w' => e = .returned (.agg #[.int .u64 (Ch.addV v r c t), .int .u32 (Ch.addR v r c t), .int .u32 c]) ∧ Below w.heap.size w w' := by
  obtain ⟨hv0, hv1, hr0, hr1, hc0, hc1, _⟩ := h
  obtain ⟨ht0, ht1⟩ := ht
  have hn : 0 ≤ t * 1048576 + r ∧ t * 1048576 + r ≤ 4503599627370496 := by omega
  have hq := IntWalk.tdiv_le (t * 1048576 + r) c hn.1 hc0
  have hm0 := Int.emod_nonneg (t * 1048576 + r) (show c ≠ 0 by omega)
  have hm1 := Int.emod_lt_of_pos (t * 1048576 + r) (show 0 < c by omega)
  by_cases he : Ch.atEnd v r c t
  · rw [show Ch.addV v r c t = 18446744073709551615 by simp [Ch.addV, he], show Ch.addR v r c t = 0 by simp [Ch.addR, he]]
    unfold Ch.atEnd at he
    go_enter Try.func44, Try.ntmps44
    go_wp2
    go_quiet (fail)
    go_wp2
    refine bodyPost_ret (v := .agg #[.int .u64 (18446744073709551615), .int .u32 (0), .int .u32 c]) (by simp [results, Try.results44, go_sem]) rfl ⟨rfl, ?_⟩
    repeat (first | exact Below.refl _ _ | refine Below.step ?_ (by assumption) | refine Below.setCell ?_ (by first | (simp; done) | (simp; omega) | omega) _ | refine Below.allocS ?_ _ | refine Below.drew ?_ | refine below_drewN ?_ _)
  · rw [show Ch.addV v r c t = v + (t * 1048576 + r) / c by simp [Ch.addV, he], show Ch.addR v r c t = (t * 1048576 + r) % c by simp [Ch.addR, he]]
    unfold Ch.atEnd at he
    have he2 : v + (t * 1048576 + r) / c ≤ 18446744073709551615 := by omega
    go_enter Try.func44, Try.ntmps44
    go_wp2
    go_quiet (fail)
    go_wp2
    refine bodyPost_ret (v := .agg #[.int .u64 (v + (t * 1048576 + r) / c), .int .u32 ((t * 1048576 + r) % c), .int .u32 c]) (by simp [results, Try.results44, go_sem]) rfl ⟨rfl, ?_⟩
    repeat (first | exact Below.refl _ _ | refine Below.step ?_ (by assumption) | refine Below.setCell ?_ (by first | (simp; done) | (simp; omega) | omega) _ | refine Below.allocS ?_ _ | refine Below.drew ?_ | refine below_drewN ?_ _)

set_option maxHeartbeats 400000 in
theorem Add_ok (v r c t : Int) (w : World) (h : Ch.Ok v r c) (ht : 0 ≤ t ∧ t ≤ 4294967295) :
    Calls Try.prog 16 #[.agg #[.int .u64 v, .int .u32 r, .int .u32 c], .int .i64 t] w fun e w' => e = .returned (.tuple #[.agg #[.int .u64 (Ch.addV v r c t), .int .u32 (Ch.addR v r c t), .int .u32 c], .int .i64 0]) ∧ Below w.heap.size w w' := by
  have k1 := Ch.okB_t h
  have k2 := Ch.tB_t ht.1 ht.2
  have hf := h.fits
  go_enter Try.func16, Try.ntmps16
  go_wp2_with fail
  refine (right_any _ _ _ _ hf).mono ?_; rintro e w1 ⟨rfl, hb1⟩; rw [k1]
  obtain ⟨hc1, hf1⟩ := bcell hb1
  have hz1 : w.heap.size + 1 < w1.heap.size := by have := hb1.size; simp at this; omega
  go_wp2_with fail
  refine (ticked_any _ _).mono ?_; rintro e w2 ⟨rfl, rfl⟩; rw [k2]
  go_wp2_with fail
  refine (add_any _ _ _ _ _ h ht).mono ?_; rintro e w3 ⟨rfl, hb3⟩
  obtain ⟨hc3, hf3⟩ := bcell hb3
  have hz3 : w.heap.size + 1 < w3.heap.size := by have := hb3.size; omega
  go_wp2_with fail
  refine bodyPost_ret (v := .tuple #[.agg #[.int .u64 (Ch.addV v r c t), .int .u32 (Ch.addR v r c t), .int .u32 c], .int .i64 0]) (by simp [results, Try.results16, go_sem, hc1, hc3, hz1]) rfl ⟨rfl, ?_⟩
  repeat (first | exact Below.refl _ _ | refine Below.step ?_ (by assumption) | refine Below.setCell ?_ (by first | (simp; done) | (simp; omega) | omega) _ | refine Below.allocS ?_ _ | refine Below.drew ?_ | refine below_drewN ?_ _)

set_option maxHeartbeats 400000 in
theorem Add_bad (v r c t : Int) (w : World) (hf : Ch.Fits v r c) (h : ¬ (Ch.Ok v r c ∧ 0 ≤ t ∧ t ≤ 4294967295)) :
    Calls Try.prog 16 #[.agg #[.int .u64 v, .int .u32 r, .int .u32 c], .int .i64 t] w fun e w' => e = .returned (.tuple #[.agg #[.int .u64 0, .int .u32 0, .int .u32 0], .int .i64 2]) ∧ Below w.heap.size w w' := by
  by_cases h1 : Ch.Ok v r c
  · have k1 := Ch.okB_t h1
    have k2 := Ch.tB_f (fun k => h ⟨h1, k⟩)
    clear h
    go_enter Try.func16, Try.ntmps16
    go_wp2_with fail
    refine (right_any _ _ _ _ hf).mono ?_; rintro e w1 ⟨rfl, hb1⟩; rw [k1]
    obtain ⟨hc1, hf1⟩ := bcell hb1
    have hz1 : w.heap.size + 1 < w1.heap.size := by have := hb1.size; simp at this; omega
    go_wp2_with fail
    refine (ticked_any _ _).mono ?_; rintro e w2 ⟨rfl, rfl⟩; rw [k2]
    go_wp2_with fail
    refine bodyPost_ret (v := .tuple #[.agg #[.int .u64 0, .int .u32 0, .int .u32 0], .int .i64 2]) (by simp [results, Try.results16, go_sem, hc1]) rfl ⟨rfl, ?_⟩
    repeat (first | exact Below.refl _ _ | refine Below.step ?_ (by assumption) | refine Below.setCell ?_ (by first | (simp; done) | (simp; omega) | omega) _ | refine Below.allocS ?_ _ | refine Below.drew ?_ | refine below_drewN ?_ _)
  · have k1 := Ch.okB_f h1
    clear h
    go_enter Try.func16, Try.ntmps16
    go_wp2_with fail
    refine (right_any _ _ _ _ hf).mono ?_; rintro e w1 ⟨rfl, hb1⟩; rw [k1]
    obtain ⟨hc1, hf1⟩ := bcell hb1
    have hz1 : w.heap.size + 1 < w1.heap.size := by have := hb1.size; simp at this; omega
    go_wp2_with fail
    refine bodyPost_ret (v := .tuple #[.agg #[.int .u64 0, .int .u32 0, .int .u32 0], .int .i64 2]) (by simp [results, Try.results16, go_sem, hc1]) rfl ⟨rfl, ?_⟩
    repeat (first | exact Below.refl _ _ | refine Below.step ?_ (by assumption) | refine Below.setCell ?_ (by first | (simp; done) | (simp; omega) | omega) _ | refine Below.allocS ?_ _ | refine Below.drew ?_ | refine below_drewN ?_ _)

set_option maxHeartbeats 400000 in
theorem Weigh_ok (v r c n : Int) (w : World) (h : Ch.Ok v r c) (hn : 1 ≤ n ∧ n ≤ 65536) :
    Calls Try.prog 72 #[.agg #[.int .u64 v, .int .u32 r, .int .u32 c], .int .i64 n] w fun e w' => e = .returned (.tuple #[.agg #[.int .u64 v, .int .u32 0, .int .u32 n], .int .i64 0]) ∧ Below w.heap.size w w' := by
  have k1 := Ch.okB_t h
  have k2 := Ch.wB_t hn.1 hn.2
  have hf := h.fits
  go_enter Try.func72, Try.ntmps72
  go_wp2_with fail
  refine (right_any _ _ _ _ hf).mono ?_; rintro e w1 ⟨rfl, hb1⟩; rw [k1]
  obtain ⟨hc1, hf1⟩ := bcell hb1
  have hz1 : w.heap.size + 1 < w1.heap.size := by have := hb1.size; simp at this; omega
  go_wp2_with fail
  refine (weighs_any _ _).mono ?_; rintro e w2 ⟨rfl, rfl⟩; rw [k2]
  go_wp2_with fail
  refine bodyPost_ret (v := .tuple #[.agg #[.int .u64 v, .int .u32 0, .int .u32 n], .int .i64 0]) (by simp [results, Try.results72, go_sem, hc1]) rfl ⟨rfl, ?_⟩
  repeat (first | exact Below.refl _ _ | refine Below.step ?_ (by assumption) | refine Below.setCell ?_ (by first | (simp; done) | (simp; omega) | omega) _ | refine Below.allocS ?_ _ | refine Below.drew ?_ | refine below_drewN ?_ _)
set_option maxHeartbeats 400000 in
theorem Weigh_bad (v r c n : Int) (w : World) (hf : Ch.Fits v r c) (h : ¬ (Ch.Ok v r c ∧ 1 ≤ n ∧ n ≤ 65536)) :
    Calls Try.prog 72 #[.agg #[.int .u64 v, .int .u32 r, .int .u32 c], .int .i64 n] w fun e w' => e = .returned (.tuple #[.agg #[.int .u64 0, .int .u32 0, .int .u32 0], .int .i64 2]) ∧ Below w.heap.size w w' := by
  by_cases h1 : Ch.Ok v r c
  · have k1 := Ch.okB_t h1
    have k2 := Ch.wB_f (fun k => h ⟨h1, k⟩)
    clear h
    go_enter Try.func72, Try.ntmps72
    go_wp2_with fail
    refine (right_any _ _ _ _ hf).mono ?_; rintro e w1 ⟨rfl, hb1⟩; rw [k1]
    obtain ⟨hc1, hf1⟩ := bcell hb1
    have hz1 : w.heap.size + 1 < w1.heap.size := by have := hb1.size; simp at this; omega
    go_wp2_with fail
    refine (weighs_any _ _).mono ?_; rintro e w2 ⟨rfl, rfl⟩; rw [k2]
    go_wp2_with fail
    refine bodyPost_ret (v := .tuple #[.agg #[.int .u64 0, .int .u32 0, .int .u32 0], .int .i64 2]) (by simp [results, Try.results72, go_sem, hc1]) rfl ⟨rfl, ?_⟩
    repeat (first | exact Below.refl _ _ | refine Below.step ?_ (by assumption) | refine Below.setCell ?_ (by first | (simp; done) | (simp; omega) | omega) _ | refine Below.allocS ?_ _ | refine Below.drew ?_ | refine below_drewN ?_ _)
  · have k1 := Ch.okB_f h1
    clear h
    go_enter Try.func72, Try.ntmps72
    go_wp2_with fail
    refine (right_any _ _ _ _ hf).mono ?_; rintro e w1 ⟨rfl, hb1⟩; rw [k1]
    obtain ⟨hc1, hf1⟩ := bcell hb1
    have hz1 : w.heap.size + 1 < w1.heap.size := by have := hb1.size; simp at this; omega
    go_wp2_with fail
    refine bodyPost_ret (v := .tuple #[.agg #[.int .u64 0, .int .u32 0, .int .u32 0], .int .i64 2]) (by simp [results, Try.results72, go_sem, hc1]) rfl ⟨rfl, ?_⟩
    repeat (first | exact Below.refl _ _ | refine Below.step ?_ (by assumption) | refine Below.setCell ?_ (by first | (simp; done) | (simp; omega) | omega) _ | refine Below.allocS ?_ _ | refine Below.drew ?_ | refine below_drewN ?_ _)

/-! Less -/
end Go.Proofs.Ytfgmglghlapbcaa
