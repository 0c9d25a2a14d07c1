/-
  Layer 24 (queue): queues that are none.
-/
import Derived.Test.YtekjakmeopolhaaQueueAct
namespace Go.Proofs.Ytekjakmeopolhaa
open Go.RowKit Go.Maps Go.IntWalk Go.Lib
set_option linter.unusedVariables false
set_option linter.unusedSimpArgs false
/-- a queue that is none: nil, or the zero queue -/
def NoQueue (w : World) (q : Option Addr) : Prop := q = none ∨ ∃ p, q = some ⟨p, 0, none⟩ ∧ w.cell? ⟨p, 1, none⟩ = some (.int .i64 0)
theorem NoQueue.later {w w' : World} {q : Option Addr} (h : NoQueue w q) (hb : Below w.heap.size w w') : NoQueue w' q := h.imp id fun ⟨p, e, h0⟩ => ⟨p, e, cell_later hb h0⟩
theorem qsome_none {q : Option Addr} (w : World) (h : NoQueue w q) : Calls Try.prog 33 #[.pointer q] w fun e w' => e = .returned (.bool false) ∧ w = w' := by
  rcases h with rfl | ⟨p, rfl, c1⟩
  · go_enter Try.func33, Try.ntmps33
    go_wp2_with fail
    go_ret
    exact ⟨rfl, rfl⟩
  · go_enter Try.func33, Try.ntmps33
    go_wp2_with fail
    go_ret
    exact ⟨rfl, rfl⟩
set_option maxHeartbeats 400000 in
theorem qfind_none {q : Option Addr} (id : Int) (w : World) (h : NoQueue w q) : Calls Try.prog 35 #[.pointer q, .int .i64 id] w fun e w' => e = .returned (.tuple #[.agg #[.int .u64 0, .int .u32 0, .int .u32 0], .int .i64 1]) ∧ Below w.heap.size w w' := by
  have A1 := Lib.hid fun (W : World) (q' : NoQueue W q) => qsome_none W q'
  have HN := Lib.hid h
  clear h
  go_enter Try.func35, Try.ntmps35
  go_wp2_with fail
  refine (A1.out _ (HN.out.later (by first | exact Below.refl _ _ | exact below_a _ _))).mono ?_; rintro e w5 ⟨rfl, rfl⟩
  go_wp2_with fail
  refine bodyPost_ret (v := .tuple #[.agg #[.int .u64 0, .int .u32 0, .int .u32 0], .int .i64 1]) (by simp [results, Try.results35, go_sem]) rfl ⟨rfl, ?_⟩
  repeat (first | exact Below.refl _ _ | refine Below.step ?_ (by assumption) | refine Below.setCell ?_ (by first | (simp; done) | (simp; omega) | omega) _ | refine Below.allocS ?_ _ | refine Below.drew ?_ | refine below_drewN ?_ _)
set_option maxHeartbeats 400000 in
theorem Enter_none {q : Option Addr} (id : Int) (x : Ent) (w : World) (h : NoQueue w q) : Calls Try.prog 14 #[.pointer q, .int .i64 id, .agg #[.int .u64 x.1, .int .u32 x.2.1, .int .u32 x.2.2]] w fun e w' => e = .returned (.int .i64 1) ∧ Below w.heap.size w w' := by
  have A1 := Lib.hid fun (W : World) (q' : NoQueue W q) => qfind_none id W q'
  have HN := Lib.hid h
  clear h
  go_enter Try.func14, Try.ntmps14
  go_wp2_with fail
  refine (A1.out _ (HN.out.later (by first | exact Below.refl _ _ | exact below_a _ _))).mono ?_; rintro e w5 ⟨rfl, hb5⟩
  have HB5 := Lib.hid hb5
  clear hb5
  go_wp2_with fail
  go_ret
  refine ⟨rfl, ?_⟩
  have hb9 := HB5.out
  repeat (first | exact Below.refl _ _ | exact hb9 | refine Below.step ?_ hb9 | refine Below.allocS ?_ _)
set_option maxHeartbeats 400000 in
theorem Leave_none {q : Option Addr} (id : Int) (w : World) (h : NoQueue w q) : Calls Try.prog 15 #[.pointer q, .int .i64 id] w fun e w' => e = .returned (.tuple #[.agg #[.int .u64 0, .int .u32 0, .int .u32 0], .int .i64 1]) ∧ Below w.heap.size w w' := by
  obtain ⟨W0, hW0⟩ : ∃ W0, W0 = w.alloc (.cells #[.int .u64 0, .int .u32 0, .int .u32 0] 32) := ⟨_, rfl⟩
  have HB0 := Lib.hid (show Below w.heap.size w W0 by rw [hW0]; exact below_a _ _)
  have z0 : W0.cell? ⟨w.heap.size, 0, none⟩ = some (.int .u64 0) := by rw [hW0]; exact cell_nw _ _ _ 0 _ rfl
  have g0 : W0.frozen? ⟨w.heap.size, 0, none⟩ = false := by rw [hW0]; exact frz_nw _ _ _ 0
  have z1 : W0.cell? ⟨w.heap.size, 1, none⟩ = some (.int .u32 0) := by rw [hW0]; exact cell_nw _ _ _ 1 _ rfl
  have g1 : W0.frozen? ⟨w.heap.size, 1, none⟩ = false := by rw [hW0]; exact frz_nw _ _ _ 1
  have z2 : W0.cell? ⟨w.heap.size, 2, none⟩ = some (.int .u32 0) := by rw [hW0]; exact cell_nw _ _ _ 2 _ rfl
  have g2 : W0.frozen? ⟨w.heap.size, 2, none⟩ = false := by rw [hW0]; exact frz_nw _ _ _ 2
  have HW0 := Lib.hid hW0
  have A1 := Lib.hid (qfind_none id W0 (h.later HB0.out))
  clear hW0 h
  go_enter Try.func15, Try.ntmps15
  go_wp2_with fail
  rw [← HW0.out]
  refine A1.out.mono ?_; rintro e w5 ⟨rfl, hb5⟩
  replace g0 := frz_later (Below.step hb5 (below_a w5 (.cells #[.int .u64 0, .int .u32 0, .int .u32 0] 32))) g0 (lt_of_cell z0)
  replace z0 := cell_al (.cells #[.int .u64 0, .int .u32 0, .int .u32 0] 32) (cell_later hb5 z0)
  replace g1 := frz_later (Below.step hb5 (below_a w5 (.cells #[.int .u64 0, .int .u32 0, .int .u32 0] 32))) g1 (lt_of_cell z1)
  replace z1 := cell_al (.cells #[.int .u64 0, .int .u32 0, .int .u32 0] 32) (cell_later hb5 z1)
  replace g2 := frz_later (Below.step hb5 (below_a w5 (.cells #[.int .u64 0, .int .u32 0, .int .u32 0] 32))) g2 (lt_of_cell z2)
  replace z2 := cell_al (.cells #[.int .u64 0, .int .u32 0, .int .u32 0] 32) (cell_later hb5 z2)
  have HB5 := Lib.hid (Below.step (Below.step HB0.out hb5) (below_a w5 (.cells #[.int .u64 0, .int .u32 0, .int .u32 0] 32)))
  clear hb5
  go_wp2_with fail
  refine bodyPost_ret (v := .tuple #[.agg #[.int .u64 0, .int .u32 0, .int .u32 0], .int .i64 1]) (by simp [results, Try.results15, go_sem, *]) rfl ⟨rfl, ?_⟩
  exact (((HB5.out.setCell (Nat.le_refl _) _).setCell (Nat.le_refl _) _).setCell (Nat.le_refl _) _)
set_option maxHeartbeats 400000 in
theorem Get_none {q : Option Addr} (id : Int) (w : World) (h : NoQueue w q) : Calls Try.prog 19 #[.pointer q, .int .i64 id] w fun e w' => e = .returned (.tuple #[.agg #[.int .u64 0, .int .u32 0, .int .u32 0], .bool false]) ∧ Below w.heap.size w w' := by
  obtain ⟨W0, hW0⟩ : ∃ W0, W0 = w.alloc (.cells #[.int .u64 0, .int .u32 0, .int .u32 0] 32) := ⟨_, rfl⟩
  have HB0 := Lib.hid (show Below w.heap.size w W0 by rw [hW0]; exact below_a _ _)
  have z0 : W0.cell? ⟨w.heap.size, 0, none⟩ = some (.int .u64 0) := by rw [hW0]; exact cell_nw _ _ _ 0 _ rfl
  have g0 : W0.frozen? ⟨w.heap.size, 0, none⟩ = false := by rw [hW0]; exact frz_nw _ _ _ 0
  have z1 : W0.cell? ⟨w.heap.size, 1, none⟩ = some (.int .u32 0) := by rw [hW0]; exact cell_nw _ _ _ 1 _ rfl
  have g1 : W0.frozen? ⟨w.heap.size, 1, none⟩ = false := by rw [hW0]; exact frz_nw _ _ _ 1
  have z2 : W0.cell? ⟨w.heap.size, 2, none⟩ = some (.int .u32 0) := by rw [hW0]; exact cell_nw _ _ _ 2 _ rfl
  have g2 : W0.frozen? ⟨w.heap.size, 2, none⟩ = false := by rw [hW0]; exact frz_nw _ _ _ 2
  have HW0 := Lib.hid hW0
  have A1 := Lib.hid (qfind_none id W0 (h.later HB0.out))
  clear hW0 h
  go_enter Try.func19, Try.ntmps19
  go_wp2_with fail
  rw [← HW0.out]
  refine A1.out.mono ?_; rintro e w5 ⟨rfl, hb5⟩
  replace g0 := frz_later (Below.step hb5 (below_a w5 (.cells #[.int .u64 0, .int .u32 0, .int .u32 0] 32))) g0 (lt_of_cell z0)
  replace z0 := cell_al (.cells #[.int .u64 0, .int .u32 0, .int .u32 0] 32) (cell_later hb5 z0)
  replace g1 := frz_later (Below.step hb5 (below_a w5 (.cells #[.int .u64 0, .int .u32 0, .int .u32 0] 32))) g1 (lt_of_cell z1)
  replace z1 := cell_al (.cells #[.int .u64 0, .int .u32 0, .int .u32 0] 32) (cell_later hb5 z1)
  replace g2 := frz_later (Below.step hb5 (below_a w5 (.cells #[.int .u64 0, .int .u32 0, .int .u32 0] 32))) g2 (lt_of_cell z2)
  replace z2 := cell_al (.cells #[.int .u64 0, .int .u32 0, .int .u32 0] 32) (cell_later hb5 z2)
  have HB5 := Lib.hid (Below.step (Below.step HB0.out hb5) (below_a w5 (.cells #[.int .u64 0, .int .u32 0, .int .u32 0] 32)))
  clear hb5
  go_wp2_with fail
  refine bodyPost_ret (v := .tuple #[.agg #[.int .u64 0, .int .u32 0, .int .u32 0], .bool false]) (by simp [results, Try.results19, go_sem, *]) rfl ⟨rfl, ?_⟩
  exact (((HB5.out.setCell (Nat.le_refl _) _).setCell (Nat.le_refl _) _).setCell (Nat.le_refl _) _)
theorem change_none (q : Option Addr) (id c : Int) (x : Ent) (w : World) (hc : c ≠ 0) :
    Calls Try.prog 44 #[.pointer q, .int .i64 id, .agg #[.int .u64 x.1, .int .u32 x.2.1, .int .u32 x.2.2], .int .i64 c] w fun e w' => e = .returned (.int .i64 c) ∧ Below w.heap.size w w' := by
  have hz : (c != 0) = true := by simpa using hc
  clear hc
  go_enter Try.func44, Try.ntmps44
  go_wp2_with fail
  go_ret
  exact ⟨rfl, below_a _ _⟩
set_option maxHeartbeats 400000 in
theorem Charge_none {q : Option Addr} (id t : Int) (w : World) (h : NoQueue w q) : Calls Try.prog 21 #[.pointer q, .int .i64 id, .int .i64 t] w fun e w' => e = .returned (.int .i64 1) ∧ Below w.heap.size w w' := by
  have A1 := Lib.hid fun (W : World) (q' : NoQueue W q) => qfind_none id W q'
  have A2 := Lib.hid fun W => Add_bad 0 0 0 t W (by unfold Ch.Fits; omega) (by unfold Ch.Ok; omega)
  have HN := Lib.hid h
  clear h
  go_enter Try.func21, Try.ntmps21
  go_wp2_with fail
  refine (A1.out _ (HN.out.later (by first | exact Below.refl _ _ | exact below_a _ _))).mono ?_; rintro e w5 ⟨rfl, hb5⟩
  have HB5 := Lib.hid hb5
  clear hb5
  go_wp2_with fail
  refine (A2.out _).mono ?_; rintro e w7 ⟨rfl, hb7⟩
  have HB7 := Lib.hid (Below.step (Below.step HB5.out (below_a w5 _)) hb7)
  clear hb7
  go_wp2_with fail
  refine (change_none q id 1 (_, _, _) _ (by decide)).mono ?_; rintro e w8 ⟨rfl, hb8⟩
  have HB8 := Lib.hid (Below.step (Below.step HB7.out (below_a w7 _)) hb8)
  clear hb8
  go_wp2_with fail
  go_ret
  exact ⟨rfl, HB8.out⟩
set_option maxHeartbeats 400000 in
theorem Weigh_none {q : Option Addr} (id t : Int) (w : World) (h : NoQueue w q) : Calls Try.prog 23 #[.pointer q, .int .i64 id, .int .i64 t] w fun e w' => e = .returned (.int .i64 1) ∧ Below w.heap.size w w' := by
  have A1 := Lib.hid fun (W : World) (q' : NoQueue W q) => qfind_none id W q'
  have A2 := Lib.hid fun W => Weigh_bad 0 0 0 t W (by unfold Ch.Fits; omega) (by unfold Ch.Ok; omega)
  have HN := Lib.hid h
  clear h
  go_enter Try.func23, Try.ntmps23
  go_wp2_with fail
  refine (A1.out _ (HN.out.later (by first | exact Below.refl _ _ | exact below_a _ _))).mono ?_; rintro e w5 ⟨rfl, hb5⟩
  have HB5 := Lib.hid hb5
  clear hb5
  go_wp2_with fail
  refine (A2.out _).mono ?_; rintro e w7 ⟨rfl, hb7⟩
  have HB7 := Lib.hid (Below.step (Below.step HB5.out (below_a w5 _)) hb7)
  clear hb7
  go_wp2_with fail
  refine (change_none q id 1 (_, _, _) _ (by decide)).mono ?_; rintro e w8 ⟨rfl, hb8⟩
  have HB8 := Lib.hid (Below.step (Below.step HB7.out (below_a w7 _)) hb8)
  clear hb8
  go_wp2_with fail
  go_ret
  exact ⟨rfl, HB8.out⟩
set_option maxHeartbeats 400000 in
theorem First_none {q : Option Addr} (w : World) (h : NoQueue w q) : Calls Try.prog 18 #[.pointer q] w fun e w' => e = .returned (.tuple #[.int .i64 0, .bool false]) ∧ Below w.heap.size w w' := by
  have A1 := Lib.hid (qsome_none w h)
  clear h
  go_enter Try.func18, Try.ntmps18
  go_wp2_with fail
  refine A1.out.mono ?_; rintro e w5 ⟨rfl, rfl⟩
  go_wp2_with fail
  refine bodyPost_ret (v := (.tuple #[.int .i64 0, .bool false])) (by simp [results, Try.results18, go_sem]) rfl ⟨rfl, ?_⟩
  repeat (first | exact Below.refl _ _ | refine Below.step ?_ (by assumption) | refine Below.setCell ?_ (by first | (simp; done) | (simp; omega) | omega) _ | refine Below.allocS ?_ _ | refine Below.drew ?_ | refine below_drewN ?_ _)
set_option maxHeartbeats 400000 in
theorem Floor_none {q : Option Addr} (w : World) (h : NoQueue w q) : Calls Try.prog 22 #[.pointer q] w fun e w' => e = .returned (.int .u64 0) ∧ Below w.heap.size w w' := by
  have A1 := Lib.hid (qsome_none w h)
  clear h
  go_enter Try.func22, Try.ntmps22
  go_wp2_with fail
  refine A1.out.mono ?_; rintro e w5 ⟨rfl, rfl⟩
  go_wp2_with fail
  refine bodyPost_ret (v := (.int .u64 0)) (by simp [results, Try.results22, go_sem]) rfl ⟨rfl, ?_⟩
  repeat (first | exact Below.refl _ _ | refine Below.step ?_ (by assumption) | refine Below.setCell ?_ (by first | (simp; done) | (simp; omega) | omega) _ | refine Below.allocS ?_ _ | refine Below.drew ?_ | refine below_drewN ?_ _)
set_option maxHeartbeats 400000 in
theorem Load_none {q : Option Addr} (w : World) (h : NoQueue w q) : Calls Try.prog 12 #[.pointer q] w fun e w' => e = .returned (.int .i64 0) ∧ Below w.heap.size w w' := by
  have A1 := Lib.hid (qsome_none w h)
  clear h
  go_enter Try.func12, Try.ntmps12
  go_wp2_with fail
  refine A1.out.mono ?_; rintro e w5 ⟨rfl, rfl⟩
  go_wp2_with fail
  refine bodyPost_ret (v := (.int .i64 0)) (by simp [results, Try.results12, go_sem]) rfl ⟨rfl, ?_⟩
  repeat (first | exact Below.refl _ _ | refine Below.step ?_ (by assumption) | refine Below.setCell ?_ (by first | (simp; done) | (simp; omega) | omega) _ | refine Below.allocS ?_ _ | refine Below.drew ?_ | refine below_drewN ?_ _)
set_option maxHeartbeats 400000 in
theorem Len_none {q : Option Addr} (w : World) (h : NoQueue w q) : Calls Try.prog 26 #[.pointer q] w fun e w' => e = .returned (.int .i64 0) ∧ Below w.heap.size w w' := by
  have A1 := Lib.hid (qsome_none w h)
  clear h
  go_enter Try.func26, Try.ntmps26
  go_wp2_with fail
  refine A1.out.mono ?_; rintro e w5 ⟨rfl, rfl⟩
  go_wp2_with fail
  refine bodyPost_ret (v := (.int .i64 0)) (by simp [results, Try.results26, go_sem]) rfl ⟨rfl, ?_⟩
  repeat (first | exact Below.refl _ _ | refine Below.step ?_ (by assumption) | refine Below.setCell ?_ (by first | (simp; done) | (simp; omega) | omega) _ | refine Below.allocS ?_ _ | refine Below.drew ?_ | refine below_drewN ?_ _)
set_option maxHeartbeats 400000 in
theorem QAll_none {q : Option Addr} (w : World) (h : NoQueue w q) : Calls Try.prog 11 #[.pointer q] w fun e w' => e = .returned (.slice none 0 0) ∧ Below w.heap.size w w' := by
  have A1 := Lib.hid (qsome_none w h)
  clear h
  go_enter Try.func11, Try.ntmps11
  go_wp2_with fail
  refine A1.out.mono ?_; rintro e w5 ⟨rfl, rfl⟩
  go_wp2_with fail
  refine bodyPost_ret (v := (.slice none 0 0)) (by simp [results, Try.results11, go_sem]) rfl ⟨rfl, ?_⟩
  repeat (first | exact Below.refl _ _ | refine Below.step ?_ (by assumption) | refine Below.setCell ?_ (by first | (simp; done) | (simp; omega) | omega) _ | refine Below.allocS ?_ _ | refine Below.drew ?_ | refine below_drewN ?_ _)
set_option maxHeartbeats 400000 in
theorem Raise_none {q : Option Addr} (x : Int) (w : World) (h : NoQueue w q) : Calls Try.prog 27 #[.pointer q, .int .u64 x] w fun e w' => e = .returned (.int .i64 1) ∧ Below w.heap.size w w' := by
  have A1 := Lib.hid (qsome_none w h)
  clear h
  go_enter Try.func27, Try.ntmps27
  go_wp2_with fail
  refine A1.out.mono ?_; rintro e w5 ⟨rfl, rfl⟩
  go_wp2_with fail
  refine bodyPost_ret (v := (.int .i64 1)) (by simp [results, Try.results27, go_sem]) rfl ⟨rfl, ?_⟩
  repeat (first | exact Below.refl _ _ | refine Below.step ?_ (by assumption) | refine Below.setCell ?_ (by first | (simp; done) | (simp; omega) | omega) _ | refine Below.allocS ?_ _ | refine Below.drew ?_ | refine below_drewN ?_ _)
end Go.Proofs.Ytekjakmeopolhaa
