/-
  Layer 18 (heap), law.go: act: look.
-/
import Derived.Test.YtpbaegdmjmickaaHeapAd
namespace Go.Proofs.Ytpbaegdmjmickaa
open Go.RowKit Go.Maps Go.IntWalk Go.Lib
set_option linter.unusedVariables false
set_option linter.unusedSimpArgs false
/-- the block of a slice -/
def blkOf : Value → List Nat
  | .slice (some p) _ _ => [p.block]
  | _ => []
/-- the keys from some place on, which may be written -/
def RowFrom (w : World) (v : Value) (S : Items) (k : Nat) : Prop := ∃ a cap, v = .slice a S.length cap ∧ (S = [] ∨ ∃ g off, a = some ⟨g, off, none⟩ ∧ ∀ j, k ≤ j → j < S.length → w.cell? ⟨g, off + j * 2 + 1, none⟩ = some (.int .u64 S[j]!.2) ∧ w.frozen? ⟨g, off + j * 2 + 1, none⟩ = false)
theorem RowI.from {w : World} {base : Nat} {v : Value} {S : Items} (h : RowI w base v S) : RowFrom w v S 0 := by
  obtain ⟨a, cap, e, h⟩ := h
  exact ⟨a, cap, e, h.imp id fun ⟨g, e1, _, hc⟩ => ⟨g, 0, e1, fun j _ hj => by rw [Nat.zero_add]; exact ⟨(hc j hj).1.2, (hc j hj).2.2⟩⟩⟩
theorem RowI.blk {w : World} {base n cap : Nat} {a : Option Addr} {S : Items} (h : RowI w base (.slice a n cap) S) (h0 : S ≠ []) : ∀ b ∈ blkOf (.slice a n cap), base ≤ b ∧ b < w.heap.size := by
  obtain ⟨a', cap', e, h⟩ := h
  cases e
  obtain ⟨g, rfl, hg, hc⟩ := h.resolve_left h0
  intro b hb
  simp [blkOf] at hb
  subst hb
  exact ⟨hg, lt_of_cell (hc 0 (by cases S with | nil => exact absurd rfl h0 | cons _ _ => simp)).1.1⟩
theorem RowFrom.kept {w w' : World} {v : Value} {S : Items} {k : Nat} {G : List Nat} (h : RowFrom w v S k) (hk : Kept G w w') (hG : S ≠ [] → ∀ b ∈ blkOf v, b ∉ G) : RowFrom w' v S k := by
  obtain ⟨a, cap, rfl, h⟩ := h
  refine ⟨a, cap, rfl, ?_⟩
  by_cases h0 : S = []
  · exact Or.inl h0
  · obtain ⟨g, off, rfl, hc⟩ := h.resolve_left h0
    have hn : g ∉ G := hG h0 g (by simp [blkOf])
    exact Or.inr ⟨g, off, rfl, fun j h1 h2 => ⟨hk.cellAt (hc j h1 h2).1 hn, hk.frz (hc j h1 h2).2 (lt_of_cell (hc j h1 h2).1) hn⟩⟩
/-- the blocks of a slice that holds something -/
def blkS (v : Value) (S : Items) : List Nat := if S = [] then [] else blkOf v
theorem RowI.blk' {w : World} {base : Nat} {v : Value} {S : Items} (h : RowI w base v S) : ∀ b ∈ blkS v S, base ≤ b ∧ b < w.heap.size := by
  intro b hb
  unfold blkS at hb
  split at hb
  · cases hb
  · rename_i h0
    obtain ⟨a, cap, rfl, _⟩ := id h
    exact h.blk h0 b hb
theorem bump_step {w0 wr : World} {g off m cap k : Nat} {S : Items} {u : Value} (hm : S.length = m) (hne : S ≠ []) (hk : Kept (blkS (.slice (some ⟨g, off, none⟩) m cap) S) w0 wr)
    (hc : ∀ j, k ≤ j → j < S.length → wr.cell? ⟨g, off + j * 2 + 1, none⟩ = some (.int .u64 S[j]!.2) ∧ wr.frozen? ⟨g, off + j * 2 + 1, none⟩ = false) :
    Kept (blkS (.slice (some ⟨g, off, none⟩) m cap) S) w0 (wr.setCell ⟨g, off + k * 2 + 1, none⟩ u) ∧ RowFrom (wr.setCell ⟨g, off + k * 2 + 1, none⟩ u) (.slice (some ⟨g, off, none⟩) m cap) S (k + 1) := by
  refine ⟨hk.setCell (Or.inl (by unfold blkS; rw [if_neg hne]; simp [blkOf])) _, _, _, by rw [hm], Or.inr ⟨g, off, rfl, fun j h1 h2 => ⟨?_, ?_⟩⟩⟩
  · exact cell_set_ne (hc j (by omega) h2).1 (by omega)
  · rw [World.frozen?_setCell]; exact (hc j (by omega) h2).2
set_option maxRecDepth 100000 in
set_option maxHeartbeats 4000000 in
theorem act_look {p : Nat} {F : List Nat} {n : Int} {S : Items} (a : Option Addr) (cap : Nat) (kind id key : Int) (w : World) (h : HeapIn w p F n S) (hr : HeldR encQ F w (.slice a S.length cap) S) (hk : kind.tmod 6 = 5) (hid : (Lit.int .i64 id).wf = true) (hkey : 0 ≤ key ∧ key ≤ 18446744073709551615) :
    Calls Try.prog 25 #[.pointer (some ⟨p, 0, none⟩), .agg #[.int .i64 n, .slice a S.length cap], .agg #[.int .u8 kind, .int .i64 id, .int .u64 key]] w (ActP w p F n) := by
  have hids := h.ids
  have HI := Lib.hid h
  have HR := Lib.hid hr
  have HF := Lib.hid h.lt
  have HRS := Lib.hid h.refS
  have HID := Lib.hid hid
  have HKEY := Lib.hid hkey
  have AP := Lib.hid fun (W : World) (q : RecsAt encQ W (.slice a S.length cap) S) => rPut_any a cap n id key S W q h.refS
  have AS := Lib.hid fun (W : World) (q : HeldR encQ [] W (.slice a S.length cap) S) => rSet_any a cap n id key S W q h.refS
  have AO := Lib.hid fun (i : Int) (W : World) (q : RecsAt encQ W (.slice a S.length cap) S) => rOut_any a cap n i S W q h.refS
  have hM4 : S.length ≤ 400000 := h.refS.len
  clear h hr hid hkey
  obtain ⟨M, hM⟩ : ∃ M, M = S.length := ⟨_, rfl⟩
  have HM := Lib.hid hM.symm
  rw [← hM] at HR AP AS AO hM4 ⊢
  clear hM
  obtain ⟨W0, hW0⟩ : ∃ W0, W0 = ((w.alloc (.cells #[.int .i64 n, .slice a M cap] 58)).alloc (.cells #[.int .u8 kind, .int .i64 id, .int .u64 key] 60)).alloc (.cells #[.int .i64 0, .slice none 0 0] 58) := ⟨_, rfl⟩
  have HB0 := Lib.hid (show Below w.heap.size w W0 by rw [hW0]; exact Below.allocS (Below.allocS (Below.allocS (Below.refl _ _) _) _) _)
  have r0 : W0.cell? ⟨w.heap.size, 0, none⟩ = some (.int .i64 n) := by rw [hW0]; exact cell_al _ (cell_al _ (cell_nw _ _ _ 0 _ rfl))
  have r1 : W0.cell? ⟨w.heap.size, 1, none⟩ = some (.slice a M cap) := by rw [hW0]; exact cell_al _ (cell_al _ (cell_nw _ _ _ 1 _ rfl))
  have x0 : W0.cell? ⟨w.heap.size + 1, 0, none⟩ = some (.int .u8 kind) := by rw [hW0]; refine cell_al _ ?_; simp
  have x1 : W0.cell? ⟨w.heap.size + 1, 1, none⟩ = some (.int .i64 id) := by rw [hW0]; refine cell_al _ ?_; simp
  have x2 : W0.cell? ⟨w.heap.size + 1, 2, none⟩ = some (.int .u64 key) := by rw [hW0]; refine cell_al _ ?_; simp
  have q0 : W0.cell? ⟨w.heap.size + 1 + 1, 0, none⟩ = some (.int .i64 0) := by rw [hW0]; exact cell_nwE (by simp) _ _ 0 _ rfl
  have q1 : W0.cell? ⟨w.heap.size + 1 + 1, 1, none⟩ = some (.slice none 0 0) := by rw [hW0]; exact cell_nwE (by simp) _ _ 1 _ rfl
  have g0 : W0.frozen? ⟨w.heap.size + 1 + 1, 0, none⟩ = false := by rw [hW0]; exact frz_nwE (by simp) _ _ 0
  have g1 : W0.frozen? ⟨w.heap.size + 1 + 1, 1, none⟩ = false := by rw [hW0]; exact frz_nwE (by simp) _ _ 1
  have n0 : w.heap.size ∉ F := fun m => by have := HF.out _ m; omega
  have n1 : w.heap.size + 1 ∉ F := fun m => by have := HF.out _ m; omega
  have n2 : w.heap.size + 1 + 1 ∉ F := fun m => by have := HF.out _ m; omega
  have HW0 := Lib.hid hW0
  clear hW0
  clear AP AS AO
  have AB := Lib.hid fun (W : World) (q : RecsAt encQ W (.slice a S.length cap) S) => rBelow_any a cap n (id, key) S W q (by rw [HM.out]; exact hM4)
  rw [HM.out] at AB
  have z0 : (kind.tmod 6 == 0) = false := by rw [hk]; rfl
  have z1 : (kind.tmod 6 == 1) = false := by rw [hk]; rfl
  have z2 : (kind.tmod 6 == 2) = false := by rw [hk]; rfl
  have z3 : (kind.tmod 6 == 3) = false := by rw [hk]; rfl
  have z4 : (kind.tmod 6 == 4) = false := by rw [hk]; rfl
  clear hk
  go_enter Try.func25, Try.ntmps25
  go_wp2_with fail
  rw [← HW0.out]
  have HLQ := Lib.hid (lt_of_cell q0)
  generalize hbx : w.heap.size = bx at r0 r1 x0 x1 x2 q0 q1 g0 g1 n0 n1 n2 HLQ ⊢
  have HBX := Lib.hid hbx
  clear hbx
  have HH := Lib.hid (show HeapIn W0.drew p F n S from (HI.out.below HB0.out).below (Below.refl _ _).drew)
  have hS0 : Below W0.heap.size W0 W0.drew ∧ W0.drew.cell? ⟨bx, 0, none⟩ = some (.int .i64 n) ∧ W0.drew.cell? ⟨bx, 1, none⟩ = some (.slice a M cap) ∧ W0.drew.cell? ⟨bx + 1, 1, none⟩ = some (.int .i64 id) ∧ W0.drew.cell? ⟨bx + 1, 2, none⟩ = some (.int .u64 key) ∧ W0.drew.cell? ⟨bx + 1 + 1, 0, none⟩ = some (.int .i64 0) ∧ W0.drew.cell? ⟨bx + 1 + 1, 1, none⟩ = some (.slice none 0 0) := ⟨Below.drew (Below.refl _ _), cell_dr r0, cell_dr r1, cell_dr x1, cell_dr x2, cell_dr q0, cell_dr q1⟩
  refine wp_region_held_drew (S := fun w' => Below W0.heap.size W0 w' ∧ w'.cell? ⟨bx, 0, none⟩ = some (.int .i64 n) ∧ w'.cell? ⟨bx, 1, none⟩ = some (.slice a M cap) ∧ w'.cell? ⟨bx + 1, 1, none⟩ = some (.int .i64 id) ∧ w'.cell? ⟨bx + 1, 2, none⟩ = some (.int .u64 key) ∧ w'.cell? ⟨bx + 1 + 1, 0, none⟩ = some (.int .i64 0) ∧ w'.cell? ⟨bx + 1 + 1, 1, none⟩ = some (.slice none 0 0)) (by kernel_rfl) hS0 (fun hHeld => ?_)
  refine takeH (i := 0) (v := ?v0_1) rfl (by kernel_rfl) (fun _ _ _ h => h) (by rfl) ?hy0_1 (by assumption) ?rest0_1
  case hy0_1 => (intro w hSw; (try dsimp only at hSw); go_simp; try with_reducible rfl)
  try simp only [Act.put, List.setIfInBounds_toArray, List.set_cons_zero, List.set_cons_succ]
  refine takeH (i := 2) (v := ?v2_2) rfl (by kernel_rfl) (fun _ _ _ h => h) (by rfl) ?hy2_2 (by assumption) ?rest2_2
  case hy2_2 => (intro w hSw; (try dsimp only at hSw); go_simp; try with_reducible rfl)
  try simp only [Act.put, List.setIfInBounds_toArray, List.set_cons_zero, List.set_cons_succ]
  refine takeH (i := 3) (v := ?v3_3) rfl (by kernel_rfl) (fun _ _ _ h => h) (by rfl) ?hy3_3 (by assumption) ?rest3_3
  case hy3_3 => (intro w hSw; (try dsimp only at hSw); go_simp; try with_reducible rfl)
  try simp only [Act.put, List.setIfInBounds_toArray, List.set_cons_zero, List.set_cons_succ]
  refine takeH (i := 4) (v := ?v4_4) rfl (by kernel_rfl) (fun _ _ _ h => h) (by rfl) ?hy4_4 (by assumption) ?rest4_4
  case hy4_4 => (intro w hSw; (try dsimp only at hSw); go_simp; try with_reducible rfl)
  try simp only [Act.put, List.setIfInBounds_toArray, List.set_cons_zero, List.set_cons_succ]
  refine takeH (i := 5) (v := ?v5_5) rfl (by kernel_rfl) (fun _ _ _ h => h) (by rfl) ?hy5_5 (by assumption) ?rest5_5
  case hy5_5 => (intro w hSw; (try dsimp only at hSw); go_simp; try with_reducible rfl)
  try simp only [Act.put, List.setIfInBounds_toArray, List.set_cons_zero, List.set_cons_succ]
  refine takeH (i := 6) (v := ?v6_6) rfl (by kernel_rfl) (fun _ _ _ h => h) (by rfl) ?hy6_6 (by assumption) ?rest6_6
  case hy6_6 => (intro w hSw; (try dsimp only at hSw); go_simp; try with_reducible rfl)
  try simp only [Act.put, List.setIfInBounds_toArray, List.set_cons_zero, List.set_cons_succ]
  refine takeH (i := 7) (v := ?v7_7) rfl (by kernel_rfl) (fun _ _ _ h => h) (by rfl) ?hy7_7 (by assumption) ?rest7_7
  case hy7_7 => (intro w hSw; (try dsimp only at hSw); go_simp; try with_reducible rfl)
  try simp only [Act.put, List.setIfInBounds_toArray, List.set_cons_zero, List.set_cons_succ]
  refine wpAnyH_ready (rs := [1]) (by kernel_rfl) (by simp) ?_
  refine consH rfl (fun K hK => ?_) (AllReadyH.nil)
  go_simp
  refine (All_at _ HH.out).mono ?_
  rintro e w2 ⟨v2, rfl, hr2, hb2⟩
  go_wp2_with fail
  refine hK.out _ _ ?_ (fun hHeld1 => ?_)
  · (first | assumption | (refine held_6 (by assumption) ?_; assumption) | (refine held_6 (below_ad _ _) ?_; assumption) | (refine held_6 (below_a _ _) ?_; assumption))
  clear hK K
  try simp only [Act.put, List.setIfInBounds_toArray, List.set_cons_zero, List.set_cons_succ]
  refine wpAnyH_ready (rs := [8]) (by kernel_rfl) (by simp) ?_
  refine consH rfl (fun K hK => ?_) (AllReadyH.nil)
  go_simp
  refine (Below_at (id, key) _ (HH.out.below hb2)).mono ?_
  rintro e w3 ⟨v3, rfl, hr3, hb3⟩
  go_wp2_with fail
  refine hK.out _ _ ?_ (fun hHeld8 => ?_)
  · (first | assumption | (refine held_6 (by assumption) ?_; assumption) | (refine held_6 (below_ad _ _) ?_; assumption) | (refine held_6 (below_a _ _) ?_; assumption))
  clear hK K
  try simp only [Act.put, List.setIfInBounds_toArray, List.set_cons_zero, List.set_cons_succ]
  refine takeH (i := 9) (v := ?v9_8) rfl (by kernel_rfl) (fun _ _ _ h => h) (by rfl) ?hy9_8 (by assumption) ?rest9_8
  case hy9_8 => (intro w hSw; (try dsimp only at hSw); go_simp; try with_reducible rfl)
  try simp only [Act.put, List.setIfInBounds_toArray, List.set_cons_zero, List.set_cons_succ]
  refine takeH (i := 10) (v := ?v10_9) rfl (by kernel_rfl) (fun _ _ _ h => h) (by rfl) ?hy10_9 (by assumption) ?rest10_9
  case hy10_9 => (intro w hSw; (try dsimp only at hSw); go_simp; try with_reducible rfl)
  try simp only [Act.put, List.setIfInBounds_toArray, List.set_cons_zero, List.set_cons_succ]
  refine wpAnyH_done (by kernel_rfl) ?_ _
  skip
  obtain ⟨hB3, r0, r1, x1, x2, q0, q1⟩ := hHeld8
  replace g0 := frz_later hB3 g0 (by have := HLQ.out; omega)
  replace g1 := frz_later hB3 g1 (by have := HLQ.out; omega)
  have HB3 := Lib.hid (Below.step HB0.out hB3)
  obtain ⟨BL, hBL⟩ : ∃ B, B = belowL S (id, key) := ⟨_, rfl⟩
  have HBL := Lib.hid hBL
  have hBLl : BL.length ≤ S.length := by rw [hBL]; exact List.length_filter_le _ _
  rw [HM.out] at hBLl
  rw [← hBL] at hr3 AB
  obtain ⟨m2, hm2⟩ : ∃ m, m = BL.length := ⟨_, rfl⟩
  have HM2 := Lib.hid hm2
  rw [← hm2] at hBLl
  have B2 := Lib.hid hr2.blk'
  have B3 := Lib.hid hr3.blk'
  have R2 := Lib.hid (hr2.from.kept (G := []) (Kept.of hb3) (fun _ _ _ => by simp))
  have R3 := Lib.hid hr3.from
  have A2 := Lib.hid (hr2.items.later hb3)
  have A3 := Lib.hid hr3.items
  have HSZ := Lib.hid (show W0.heap.size ≤ w2.heap.size from hHeld1.1.size)
  obtain ⟨a2, cap2, rfl, -⟩ := hr2
  obtain ⟨a3, cap3, rfl, -⟩ := hr3
  rw [HM.out] at A2 R2 B2 ⊢
  rw [← hm2] at A3 R3 B3 ⊢
  clear hBL hm2 hb2 hb3 hHeld1 hHeld hS0 hB3
  go_wp2_with fail
  refine (Same_any _ _ S S _ A2.out (recs_items (HR.out.later HB3.out).recs) (by rw [HM.out]; omega) (by rw [HM.out]; omega)).mono ?_
  rintro e w4 ⟨rfl, hg4⟩
  rw [sameB_true rfl]
  have hb4 := hg4.below
  replace g0 := frz_later hb4 g0 (lt_of_cell q0)
  replace g1 := frz_later hb4 g1 (lt_of_cell q1)
  replace r0 := cell_later hb4 r0
  replace r1 := cell_later hb4 r1
  replace x1 := cell_later hb4 x1
  replace x2 := cell_later hb4 x2
  replace q0 := cell_later hb4 q0
  replace q1 := cell_later hb4 q1
  have HB4 := Lib.hid (Below.step HB3.out hb4)
  have HX4 := Lib.hid hb4
  clear hg4 hb4
  go_wp2_with fail
  refine (AB.out _ (HR.out.later HB4.out).recs).mono ?_
  rintro e w5 ⟨a5, cap5, rfl, hr5, hb5⟩
  rw [← HM2.out] at hr5 ⊢
  replace g0 := frz_later hb5 g0 (lt_of_cell q0)
  replace g1 := frz_later hb5 g1 (lt_of_cell q1)
  replace r0 := cell_later hb5 r0
  replace r1 := cell_later hb5 r1
  replace x1 := cell_later hb5 x1
  replace x2 := cell_later hb5 x2
  replace q0 := cell_later hb5 q0
  replace q1 := cell_later hb5 q1
  have HB5 := Lib.hid (Below.step HB4.out hb5)
  have HX5 := Lib.hid (Below.step HX4.out hb5)
  have HR5 := Lib.hid (recs_items hr5)
  clear hr5 hb5
  go_wp2_with fail
  refine (Same_any _ _ BL BL _ (A3.out.later HX5.out) HR5.out (by rw [← HM2.out]; omega) (by rw [← HM2.out]; omega)).mono ?_
  rintro e w6 ⟨rfl, hg6⟩
  rw [sameB_true rfl]
  have hb6 := hg6.below
  replace g0 := frz_later hb6 g0 (lt_of_cell q0)
  replace g1 := frz_later hb6 g1 (lt_of_cell q1)
  replace r0 := cell_later hb6 r0
  replace r1 := cell_later hb6 r1
  replace x1 := cell_later hb6 x1
  replace x2 := cell_later hb6 x2
  replace q0 := cell_later hb6 q0
  replace q1 := cell_later hb6 q1
  have HB6 := Lib.hid (Below.step HB5.out hb6)
  have R2 := Lib.hid (R2.out.kept (G := []) (Kept.of (Below.step HX5.out hb6)) (fun _ _ _ => by simp))
  have R3 := Lib.hid (R3.out.kept (G := []) (Kept.of (Below.step HX5.out hb6)) (fun _ _ _ => by simp))
  clear hg6 hb6 x1 x2
  go_wp2_with fail
  have u0 : ∀ b, b < W0.heap.size → b ∉ blkS (.slice a2 M cap2) S := fun b hb m => by have := B2.out b m; have h1 : W0.drew.heap.size = W0.heap.size := rfl; omega
  have u3 : ∀ b, b < W0.heap.size → b ∉ blkS (.slice a3 m2 cap3) BL := fun b hb m => by have := B3.out b m; have := HSZ.out; omega
  have U0 := Lib.hid u0
  have U3 := Lib.hid u3
  clear u0 u3
  go_loopw [164] (fun i wr => ∃ k : Nat, k ≤ M ∧ i = .int .i64 k ∧ Kept (blkS (.slice a2 M cap2) S) w6 wr ∧ RowFrom wr (.slice a2 M cap2) S k) (fun i _ => M - (intOf i).toNat)
  case atStart => exact ⟨0, Nat.zero_le _, rfl, Kept.refl _ _, R2.out⟩
  case round =>
    obtain ⟨k, hk, rfl, hkr, hrow⟩ := hrel
    by_cases hlt : k < M
    · have hkS : k < List.length S := by have := HM.out; omega
      have hne : S ≠ [] := fun e => by rw [e] at hkS; simp at hkS
      obtain ⟨a', cap', e, hc0⟩ := hrow
      injection e with e1 e2 e3
      subst e1
      subst e3
      obtain ⟨g, off, rfl, hc⟩ := hc0.resolve_left hne
      obtain ⟨kc, kf⟩ := hc k (Nat.le_refl _) hkS
      have HC := Lib.hid hc
      have HKR := Lib.hid hkr
      have hk0 : (0 : Int) ≤ (k : Int) := by omega
      have hkm : (k : Int) < (M : Int) := by omega
      generalize (S)[k]!.2 = y at kc
      have HNE := Lib.hid hne
      clear hc hc0 hkr hne hkS e2
      go_wp2_with fail
      go_roundw
      case rel =>
        obtain ⟨q1, q2⟩ := bump_step (m := M) (cap := cap2) (u := _) (by first | exact HM.out | exact HM.out.symm) HNE.out HKR.out HC.out
        exact ⟨k + 1, by omega, by go_num, q1, q2⟩
      case measure => simp [intOf]; omega
    · obtain rfl : k = M := by omega
      have KR := Lib.hid hkr
      have l1 : decide ((k : Int) < (k : Int)) = false := by simp
      replace g0 := hkr.frz g0 (lt_of_cell q0) (U0.out _ (by have := HLQ.out; omega))
      replace g1 := hkr.frz g1 (lt_of_cell q1) (U0.out _ (by have := HLQ.out; omega))
      replace r0 := hkr.cellAt r0 (U0.out _ (by have := HLQ.out; omega))
      replace r1 := hkr.cellAt r1 (U0.out _ (by have := HLQ.out; omega))
      replace q0 := hkr.cellAt q0 (U0.out _ (by have := HLQ.out; omega))
      replace q1 := hkr.cellAt q1 (U0.out _ (by have := HLQ.out; omega))
      have HB7 := Lib.hid (Kept.stepB HB6.out (Nat.le_refl _) hkr (fun b hb => by have := B2.out b hb; have h1 : W0.drew.heap.size = W0.heap.size := rfl; have := HB0.out.size; omega))
      have R3 := Lib.hid (R3.out.kept hkr (fun h0 b hb m => by
        have h1 := B3.out b (by unfold blkS; rw [if_neg h0]; exact hb)
        have h2 := B2.out b m
        omega))
      clear hkr hrow hk hlt
      go_wp2_with fail
      go_loopw [178] (fun i wt => ∃ k : Nat, k ≤ m2 ∧ i = .int .i64 k ∧ Kept (blkS (.slice a3 m2 cap3) BL) wr wt ∧ RowFrom wt (.slice a3 m2 cap3) BL k) (fun i _ => m2 - (intOf i).toNat)
      case atStart => exact ⟨0, Nat.zero_le _, rfl, Kept.refl _ _, R3.out⟩
      case round =>
        obtain ⟨k', hk, rfl, hkr, hrow⟩ := hrel
        by_cases hlt : k' < m2
        · have hkS : k' < List.length BL := by have := HM2.out; omega
          have hne : BL ≠ [] := fun e => by rw [e] at hkS; simp at hkS
          obtain ⟨a', cap', e, hc0⟩ := hrow
          injection e with e1 e2 e3
          subst e1
          subst e3
          obtain ⟨g, off, rfl, hc⟩ := hc0.resolve_left hne
          obtain ⟨kc, kf⟩ := hc k' (Nat.le_refl _) hkS
          have HC := Lib.hid hc
          have HKR := Lib.hid hkr
          have hk0 : (0 : Int) ≤ (k' : Int) := by omega
          have hkm : (k' : Int) < (m2 : Int) := by omega
          generalize (BL)[k']!.2 = y at kc
          have HNE := Lib.hid hne
          clear hc hc0 hkr hne hkS e2
          go_wp2_with fail
          go_roundw
          case rel =>
            obtain ⟨q1, q2⟩ := bump_step (m := m2) (cap := cap3) (u := _) (by first | exact HM2.out | exact HM2.out.symm) HNE.out HKR.out HC.out
            exact ⟨k' + 1, by omega, by go_num, q1, q2⟩
          case measure => simp [intOf]; omega
        · obtain rfl : k' = m2 := by omega
          have l2 : decide ((k' : Int) < (k' : Int)) = false := by simp
          replace g0 := hkr.frz g0 (lt_of_cell q0) (U3.out _ (by have := HLQ.out; omega))
          replace g1 := hkr.frz g1 (lt_of_cell q1) (U3.out _ (by have := HLQ.out; omega))
          replace r0 := hkr.cellAt r0 (U3.out _ (by have := HLQ.out; omega))
          replace r1 := hkr.cellAt r1 (U3.out _ (by have := HLQ.out; omega))
          replace q0 := hkr.cellAt q0 (U3.out _ (by have := HLQ.out; omega))
          replace q1 := hkr.cellAt q1 (U3.out _ (by have := HLQ.out; omega))
          have HB8 := Lib.hid (Kept.stepB HB7.out (Nat.le_refl _) hkr (fun b hb => by have := B3.out b hb; have := HSZ.out; have := HB0.out.size; omega))
          clear hkr hrow hk hlt
          go_wp2_with fail
          refine bodyPost_ret (v := .tuple #[.agg #[.int .i64 n, .slice a k cap], .bool true]) (by simp [results, Try.results25, go_sem, *]) rfl ?_
          have KF : Kept [bx + 1 + 1] wr ((wr.setCell ⟨bx + 1 + 1, 0, none⟩ (.int .i64 n)).setCell ⟨bx + 1 + 1, 1, none⟩ (.slice a k cap)) := ((Kept.refl _ _).setCell (Or.inl (by simp)) _).setCell (Or.inl (by simp)) _
          have HBF := Kept.stepB HB8.out (Nat.le_refl _) KF (fun b hb => by have := HBX.out; simp at hb; omega)
          have HRL := HR.out.later HBF
          rw [← HM.out] at HRL HBF ⊢
          exact ⟨a, cap, S, F, rfl, HI.out.below HBF, HRL, Step.of HBF⟩
theorem mod_six {k : Int} (h : 0 ≤ k) : k.tmod 6 = 0 ∨ k.tmod 6 = 1 ∨ k.tmod 6 = 2 ∨ k.tmod 6 = 3 ∨ k.tmod 6 = 4 ∨ k.tmod 6 = 5 := by
  rw [Int.tmod_eq_emod_of_nonneg h]; omega
theorem act_any {p : Nat} {F : List Nat} {n : Int} {S : Items} (a : Option Addr) (cap : Nat) (kind id key : Int) (w : World) (h : HeapIn w p F n S) (hr : HeldR encQ F w (.slice a S.length cap) S) (hk : 0 ≤ kind) (hid : (Lit.int .i64 id).wf = true) (hkey : 0 ≤ key ∧ key ≤ 18446744073709551615) :
    Calls Try.prog 25 #[.pointer (some ⟨p, 0, none⟩), .agg #[.int .i64 n, .slice a S.length cap], .agg #[.int .u8 kind, .int .i64 id, .int .u64 key]] w (ActP w p F n) := by
  rcases mod_six hk with e | e | e | e | e | e
  · exact act_put a cap kind id key w h hr (Or.inl e) hid hkey
  · exact act_put a cap kind id key w h hr (Or.inr e) hid hkey
  · exact act_set a cap kind id key w h hr e hid hkey
  · exact act_out a cap kind id key w h hr e hid hkey
  · exact act_pop a cap kind id key w h hr e hid hkey
  · exact act_look a cap kind id key w h hr e hid hkey
end Go.Proofs.Ytpbaegdmjmickaa
