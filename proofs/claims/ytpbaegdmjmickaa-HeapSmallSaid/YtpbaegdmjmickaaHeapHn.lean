/-
  Layer 18 (heap): heaps that are none.
-/
import Derived.Test.YtpbaegdmjmickaaHeapAg
namespace Go.Proofs.Ytpbaegdmjmickaa
open Go.RowKit Go.Maps Go.IntWalk Go.Lib
set_option linter.unusedVariables false
set_option linter.unusedSimpArgs false
/-- a heap that is none: nil, or the zero heap -/
def NoHeap (w : World) (q : Option Addr) : Prop := q = none ∨ ∃ p, q = some ⟨p, 0, none⟩ ∧ w.cell? ⟨p, 0, none⟩ = some (.slice none 0 0) ∧ w.cell? ⟨p, 1, none⟩ = some (.map none) ∧ w.cell? ⟨p, 2, none⟩ = some (.int .i64 0)
theorem NoHeap.later {w w' : World} {q : Option Addr} (h : NoHeap w q) (hb : Below w.heap.size w w') : NoHeap w' q := h.imp id fun ⟨p, e, h0, h1, h2⟩ => ⟨p, e, cell_later hb h0, cell_later hb h1, cell_later hb h2⟩
theorem some_none {q : Option Addr} (w : World) (h : NoHeap w q) : Calls Try.prog 35 #[.pointer q] w fun e w' => e = .returned (.bool false) ∧ w = w' := by
  rcases h with rfl | ⟨p, rfl, _, _, c2⟩
  · exact some_nil w
  · have := some_at p 0 w c2
    rwa [show decide ((0 : Int) < 0) = false from rfl] at this
set_option maxHeartbeats 400000 in
theorem find_none {q : Option Addr} (id : Int) (w : World) (h : NoHeap w q) : Calls Try.prog 33 #[.pointer q, .int .i64 id] w fun e w' => e = .returned (.tuple #[.int .i64 0, .int .i64 1]) ∧ w = w' := by
  have A1 := Lib.hid (some_none w h)
  clear h
  go_enter Try.func33, Try.ntmps33
  go_wp2_with fail
  refine A1.out.mono ?_; rintro e w5 ⟨rfl, rfl⟩
  go_wp2_with fail
  exact bodyPost_ret (v := .tuple #[.int .i64 0, .int .i64 1]) (by simp [results, Try.results33, go_sem]) rfl ⟨rfl, rfl⟩
set_option maxHeartbeats 400000 in
theorem Put_none {q : Option Addr} (id key : Int) (w : World) (h : NoHeap w q) : Calls Try.prog 17 #[.pointer q, .int .i64 id, .int .u64 key] w fun e w' => e = .returned (.int .i64 1) ∧ w = w' := by
  have A1 := Lib.hid (find_none id w h)
  clear h
  go_enter Try.func17, Try.ntmps17
  go_wp2_with fail
  refine A1.out.mono ?_; rintro e w5 ⟨rfl, rfl⟩
  go_wp2_with fail
  go_ret
  exact ⟨rfl, rfl⟩
set_option maxHeartbeats 400000 in
theorem Set_none {q : Option Addr} (id key : Int) (w : World) (h : NoHeap w q) : Calls Try.prog 18 #[.pointer q, .int .i64 id, .int .u64 key] w fun e w' => e = .returned (.int .i64 1) ∧ w = w' := by
  have A1 := Lib.hid (find_none id w h)
  clear h
  go_enter Try.func18, Try.ntmps18
  go_wp2_with fail
  refine A1.out.mono ?_; rintro e w5 ⟨rfl, rfl⟩
  go_wp2_with fail
  go_ret
  exact ⟨rfl, rfl⟩
set_option maxHeartbeats 400000 in
theorem Out_none {q : Option Addr} (id : Int) (w : World) (h : NoHeap w q) : Calls Try.prog 15 #[.pointer q, .int .i64 id] w fun e w' => e = .returned (.tuple #[.int .u64 0, .int .i64 1]) ∧ w = w' := by
  have A1 := Lib.hid (find_none id w h)
  clear h
  go_enter Try.func15, Try.ntmps15
  go_wp2_with fail
  refine A1.out.mono ?_; rintro e w5 ⟨rfl, rfl⟩
  go_wp2_with fail
  exact bodyPost_ret (v := .tuple #[.int .u64 0, .int .i64 1]) (by simp [results, Try.results15, go_sem]) rfl ⟨rfl, rfl⟩
set_option maxHeartbeats 400000 in
theorem Key_none {q : Option Addr} (id : Int) (w : World) (h : NoHeap w q) : Calls Try.prog 16 #[.pointer q, .int .i64 id] w fun e w' => e = .returned (.tuple #[.int .u64 0, .bool false]) ∧ w = w' := by
  have A1 := Lib.hid (find_none id w h)
  clear h
  go_enter Try.func16, Try.ntmps16
  go_wp2_with fail
  refine A1.out.mono ?_; rintro e w5 ⟨rfl, rfl⟩
  go_wp2_with fail
  exact bodyPost_ret (v := .tuple #[.int .u64 0, .bool false]) (by simp [results, Try.results16, go_sem]) rfl ⟨rfl, rfl⟩
set_option maxHeartbeats 400000 in
theorem Len_none {q : Option Addr} (w : World) (h : NoHeap w q) : Calls Try.prog 22 #[.pointer q] w fun e w' => e = .returned (.int .i64 0) ∧ w = w' := by
  rcases h with rfl | ⟨p, rfl, c0, _, _⟩
  · exact Len_nil w
  · exact Len_at p none 0 0 w c0
set_option maxHeartbeats 400000 in
theorem All_none {q : Option Addr} (w : World) (h : NoHeap w q) : Calls Try.prog 11 #[.pointer q] w fun e w' => e = .returned (.slice none 0 0) ∧ w = w' := by
  have A1 := Lib.hid (Len_none w h)
  clear h
  go_enter Try.func11, Try.ntmps11
  go_wp2_with fail
  refine A1.out.mono ?_; rintro e w5 ⟨rfl, rfl⟩
  go_wp2_with fail
  go_ret
  exact ⟨rfl, rfl⟩
set_option maxHeartbeats 400000 in
theorem Right_none {q : Option Addr} (w : World) (h : NoHeap w q) : Calls Try.prog 21 #[.pointer q] w fun e w' => e = .returned (.bool false) ∧ w = w' := by
  have A1 := Lib.hid (some_none w h)
  clear h
  go_enter Try.func21, Try.ntmps21
  go_wp2_with fail
  refine A1.out.mono ?_; rintro e w5 ⟨rfl, rfl⟩
  go_wp2_with fail
  go_ret
  exact ⟨rfl, rfl⟩
set_option maxHeartbeats 400000 in
theorem Pop_none {q : Option Addr} (w : World) (h : NoHeap w q) : Calls Try.prog 20 #[.pointer q] w fun e w' => e = .returned (.tuple #[.agg #[.int .i64 0, .int .u64 0], .int .i64 1]) ∧ Below w.heap.size w w' := by
  have A1 := Lib.hid fun (W : World) (q' : NoHeap W q) => some_none W q'
  have HN := Lib.hid h
  clear h
  go_enter Try.func20, Try.ntmps20
  go_wp2_with fail
  refine (A1.out _ (HN.out.later (below_a _ _))).mono ?_; rintro e w5 ⟨rfl, rfl⟩
  go_wp2_with fail
  refine bodyPost_ret (v := .tuple #[.agg #[.int .i64 0, .int .u64 0], .int .i64 1]) (by simp [results, Try.results20, go_sem]) rfl ⟨rfl, ?_⟩
  repeat (first | exact Below.refl _ _ | refine Below.step ?_ (by assumption) | refine Below.setCell ?_ (by first | (simp; done) | (simp; omega) | omega) _ | refine Below.allocS ?_ _ | refine Below.drew ?_ | refine below_drewN ?_ _)
set_option maxHeartbeats 400000 in
theorem Least_none {q : Option Addr} (w : World) (h : NoHeap w q) : Calls Try.prog 19 #[.pointer q] w fun e w' => e = .returned (.tuple #[.agg #[.int .i64 0, .int .u64 0], .bool false]) ∧ Below w.heap.size w w' := by
  rcases h with rfl | ⟨p, rfl, c0, _, _⟩
  · go_enter Try.func19, Try.ntmps19
    go_wp2_with fail
    refine bodyPost_ret (v := .tuple #[.agg #[.int .i64 0, .int .u64 0], .bool false]) (by simp [results, Try.results19, go_sem]) rfl ⟨rfl, ?_⟩
    repeat (first | exact Below.refl _ _ | refine Below.step ?_ (by assumption) | refine Below.setCell ?_ (by first | (simp; done) | (simp; omega) | omega) _ | refine Below.allocS ?_ _ | refine Below.drew ?_ | refine below_drewN ?_ _)
  · have c0' := cell_al (.cells #[.int .i64 0, .int .u64 0] 28) c0
    go_enter Try.func19, Try.ntmps19
    go_wp2_with fail
    refine bodyPost_ret (v := .tuple #[.agg #[.int .i64 0, .int .u64 0], .bool false]) (by simp [results, Try.results19, go_sem]) rfl ⟨rfl, ?_⟩
    repeat (first | exact Below.refl _ _ | refine Below.step ?_ (by assumption) | refine Below.setCell ?_ (by first | (simp; done) | (simp; omega) | omega) _ | refine Below.allocS ?_ _ | refine Below.drew ?_ | refine below_drewN ?_ _)
set_option maxRecDepth 100000 in
set_option maxHeartbeats 1000000 in
theorem gather_none {q : Option Addr} (B1 B2 B3 B4 : Addr) (w : World) (h : NoHeap w q) (c : w.cell? B1 = some (.pointer q)) :
    Calls Try.prog 31 #[.int .i64 0, .pointer (some B1), .pointer (some B2), .pointer (some B3), .pointer (some B4)] w fun e w' => e = .returned (.tuple #[]) ∧ Below w.heap.size w w' := by
  have A1 := Lib.hid fun (W : World) (q' : NoHeap W q) => Len_none W q'
  have HN := Lib.hid h
  obtain ⟨b1, o1, s1⟩ := B1
  have hs : s1 = none := by simpa using World.cell?_spot c
  subst hs
  clear h
  go_enter Try.func31, Try.ntmps31
  go_wp2_with fail
  have hS0 : Below w.heap.size w w.drew ∧ w.drew.cell? ⟨b1, o1, none⟩ = some (.pointer q) := ⟨Below.drew (Below.refl _ _), cell_dr c⟩
  refine wp_region_held_drew (S := fun w' => Below w.heap.size w w' ∧ w'.cell? ⟨b1, o1, none⟩ = some (.pointer q)) (by kernel_rfl) hS0 (fun hHeld => ?_)
  refine takeH (i := 0) (v := ?v0_1) rfl (by kernel_rfl) (fun _ _ _ h => h) (by rfl) ?hy0_1 (by assumption) ?rest0_1
  case hy0_1 => (intro w hSw; (try dsimp only at hSw); go_simp; try with_reducible rfl)
  try simp only [Act.put, List.setIfInBounds_toArray, List.set_cons_zero, List.set_cons_succ]
  refine takeH (i := 1) (v := ?v1_2) rfl (by kernel_rfl) (fun _ _ _ h => h) (by rfl) ?hy1_2 (by assumption) ?rest1_2
  case hy1_2 => (intro w hSw; (try dsimp only at hSw); go_simp; try with_reducible rfl)
  try simp only [Act.put, List.setIfInBounds_toArray, List.set_cons_zero, List.set_cons_succ]
  refine wpAnyH_ready (rs := [2]) (by kernel_rfl) (by simp) ?_
  refine consH rfl (fun K hK => ?_) (AllReadyH.nil)
  go_simp
  refine (A1.out _ (HN.out.later (Below.refl w.heap.size w).drew)).mono ?_
  rintro e w5 ⟨rfl, rfl⟩
  go_wp2_with fail
  refine hK.out _ _ ?_ (fun hHeld2 => ?_)
  · (first | assumption | (refine held_1 (by assumption) ?_; assumption) | (refine held_1 (below_ad _ _) ?_; assumption) | (refine held_1 (below_a _ _) ?_; assumption))
  clear hK K
  try simp only [Act.put, List.setIfInBounds_toArray, List.set_cons_zero, List.set_cons_succ]
  refine takeH (i := 3) (v := ?v3_3) rfl (by kernel_rfl) (fun _ _ _ h => h) (by rfl) ?hy3_3 (by assumption) ?rest3_3
  case hy3_3 => (intro w hSw; (try dsimp only at hSw); go_simp; try with_reducible rfl)
  try simp only [Act.put, List.setIfInBounds_toArray, List.set_cons_zero, List.set_cons_succ]
  refine takeH (i := 4) (v := ?v4_4) rfl (by kernel_rfl) (fun _ _ _ h => h) (by rfl) ?hy4_4 (by assumption) ?rest4_4
  case hy4_4 => (intro w hSw; (try dsimp only at hSw); go_simp; try with_reducible rfl)
  try simp only [Act.put, List.setIfInBounds_toArray, List.set_cons_zero, List.set_cons_succ]
  refine skipH (i := 5) rfl (by kernel_rfl) (fun _ _ _ h => h) (by kernel_rfl) (by assumption) ?_
  try simp only [Act.put, List.setIfInBounds_toArray, List.set_cons_zero, List.set_cons_succ]
  refine skipH (i := 6) rfl (by kernel_rfl) (fun _ _ _ h => h) (by kernel_rfl) (by assumption) ?_
  try simp only [Act.put, List.setIfInBounds_toArray, List.set_cons_zero, List.set_cons_succ]
  refine skipH (i := 7) rfl (by kernel_rfl) (fun _ _ _ h => h) (by kernel_rfl) (by assumption) ?_
  try simp only [Act.put, List.setIfInBounds_toArray, List.set_cons_zero, List.set_cons_succ]
  refine skipH (i := 8) rfl (by kernel_rfl) (fun _ _ _ h => h) (by kernel_rfl) (by assumption) ?_
  try simp only [Act.put, List.setIfInBounds_toArray, List.set_cons_zero, List.set_cons_succ]
  refine skipH (i := 9) rfl (by kernel_rfl) (fun _ _ _ h => h) (by kernel_rfl) (by assumption) ?_
  try simp only [Act.put, List.setIfInBounds_toArray, List.set_cons_zero, List.set_cons_succ]
  refine skipH (i := 10) rfl (by kernel_rfl) (fun _ _ _ h => h) (by kernel_rfl) (by assumption) ?_
  try simp only [Act.put, List.setIfInBounds_toArray, List.set_cons_zero, List.set_cons_succ]
  refine skipH (i := 11) rfl (by kernel_rfl) (fun _ _ _ h => h) (by kernel_rfl) (by assumption) ?_
  try simp only [Act.put, List.setIfInBounds_toArray, List.set_cons_zero, List.set_cons_succ]
  refine skipH (i := 12) rfl (by kernel_rfl) (fun _ _ _ h => h) (by kernel_rfl) (by assumption) ?_
  try simp only [Act.put, List.setIfInBounds_toArray, List.set_cons_zero, List.set_cons_succ]
  refine skipH (i := 13) rfl (by kernel_rfl) (fun _ _ _ h => h) (by kernel_rfl) (by assumption) ?_
  try simp only [Act.put, List.setIfInBounds_toArray, List.set_cons_zero, List.set_cons_succ]
  refine skipH (i := 14) rfl (by kernel_rfl) (fun _ _ _ h => h) (by kernel_rfl) (by assumption) ?_
  try simp only [Act.put, List.setIfInBounds_toArray, List.set_cons_zero, List.set_cons_succ]
  refine takeH (i := 15) (v := ?v15_5) rfl (by kernel_rfl) (fun _ _ _ h => h) (by rfl) ?hy15_5 (by assumption) ?rest15_5
  case hy15_5 => (intro w hSw; (try dsimp only at hSw); go_simp; try with_reducible rfl)
  try simp only [Act.put, List.setIfInBounds_toArray, List.set_cons_zero, List.set_cons_succ]
  refine wpAnyH_done (by kernel_rfl) ?_ _
  go_wp2_with fail
  exact bodyPost_ret (results_none rfl _ _ _) rfl ⟨rfl, (Below.refl w.heap.size w).drew⟩
set_option maxRecDepth 100000 in
set_option maxHeartbeats 1000000 in
theorem Below_none {q : Option Addr} (x y : Int) (w : World) (h : NoHeap w q) : Calls Try.prog 12 #[.pointer q, .agg #[.int .i64 x, .int .u64 y]] w fun e w' => e = .returned (.slice none 0 0) ∧ Below w.heap.size w w' := by
  have HN := Lib.hid h
  have A1 := Lib.hid fun (B1 B2 B3 B4 : Addr) (W : World) (q' : NoHeap W q) (c : W.cell? B1 = some (.pointer q)) => gather_none B1 B2 B3 B4 W q' c
  have A2 := Lib.hid fun W => SortFunc_nil W
  clear h
  have k0 : ∀ o1 o2 o3, (((( w.alloc (.cells #[.pointer q] 24)).alloc o1).alloc o2).alloc o3).cell? ⟨w.heap.size, 0, none⟩ = some (.pointer q) := fun o1 o2 o3 => cell_al _ (cell_al _ (cell_al _ (cell_nw w _ _ 0 _ rfl)))
  have HB := Lib.hid (show ∀ o0 o1 o2 o3, Below w.heap.size w ((((w.alloc o0).alloc o1).alloc o2).alloc o3) from fun o0 o1 o2 o3 => Below.allocS (Below.allocS (Below.allocS (Below.allocS (Below.refl _ _) _) _) _) _)
  have k2 : ∀ o0 o1 o3, ((((w.alloc o0).alloc o1).alloc (.cells #[.slice none 0 0] 29)).alloc o3).cell? ⟨w.heap.size + 1 + 1, 0, none⟩ = some (.slice none 0 0) := fun o0 o1 o3 => cell_al _ (cell_nwE (by simp) _ _ 0 _ rfl)
  have HK0 := Lib.hid k0
  have HK2 := Lib.hid k2
  clear k0 k2
  go_enter Try.func12, Try.ntmps12
  go_wp2_with fail
  refine (A1.out _ _ _ _ _ (HN.out.later (HB.out _ _ _ _)) (HK0.out _ _ _)).mono ?_
  rintro e w5 ⟨rfl, hb5⟩
  have c5 := cell_later hb5 (HK2.out _ _ _)
  have HB5 := Lib.hid (Below.step (HB.out _ _ _ _) hb5)
  clear hb5
  go_wp2_with fail
  refine (A2.out w5).mono ?_
  rintro e w6 ⟨rfl, hb6⟩
  replace c5 := cell_later hb6 c5
  have HB6 := Lib.hid (Below.step HB5.out hb6)
  clear hb6
  go_wp2_with fail
  go_ret
  exact ⟨rfl, HB6.out⟩
end Go.Proofs.Ytpbaegdmjmickaa
