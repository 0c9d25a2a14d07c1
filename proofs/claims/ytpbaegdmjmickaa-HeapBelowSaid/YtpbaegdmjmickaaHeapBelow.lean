/-
  HeapBelow: what is before an item is the beginning of all.
-/
import Derived.Test.YtpbaegdmjmickaaHeapBl
import Derived.Test.YtpbaegdmjmickaaKitH
namespace Go.Proofs.Ytpbaegdmjmickaa
open Go.RowKit Go.Maps Go.IntWalk Go.Lib
set_option linter.unusedVariables false
set_option linter.unusedSimpArgs false
set_option maxRecDepth 100000 in
set_option maxHeartbeats 4000000 in
theorem HeapBelow_true (s0 : Option Addr) (l0 c0 : Nat) (F0 : Nat → Nat → Value) (a1 a2 a3 : Int) (w : World) (r0 : PlainRow [some .u64] w s0 l0 c0 F0) (g1 : (Lit.int .i64 a1).wf = true) (g2 : (Lit.int .u64 a2).wf = true) (g3 : (Lit.int .u8 a3).wf = true) :
    Calls Try.prog 3 #[.slice s0 l0 c0, .int .i64 a1, .int .u64 a2, .int .u8 a3] w fun e w' => e = .returned (.bool true) ∧ Below w.heap.size w w' := by
  obtain ⟨xs, hx⟩ := nums_of r0
  have A1 := Lib.hid (filled_any s0 l0 c0 xs w hx)
  obtain ⟨m, hm⟩ : ∃ m, m = fillN l0 := ⟨_, rfl⟩
  have hm40 : m ≤ 40 := by rw [hm]; unfold fillN; omega
  have AW := Lib.hid fun W => awake_any W
  have hz : (((fillK xs m).length : Int) != (m : Int)) = false := by rw [fillK_len]; simp
  have HM := Lib.hid (fillK_len xs m)
  have HMM := Lib.hid hm
  have b3 := wf_u8 g3
  clear g1 g2
  obtain ⟨x, rfl, rfl⟩ : ∃ x : Int × Int, a1 = x.1 ∧ a2 = x.2 := ⟨(a1, a2), rfl, rfl⟩
  clear hx r0
  go_enter Try.func3, Try.ntmps3
  go_wp2_with fail
  refine A1.out.mono ?_
  rintro e w1 ⟨p, F, rfl, h1, hF, hp, hb1⟩
  rw [← HMM.out] at h1 ⊢
  have H1 := Lib.hid h1
  have B1 := Lib.hid hb1
  clear h1 hb1 hF hm
  go_wp2_with fail
  have H2 := Lib.hid (H1.out.below (below_a w1 (.cells #[.int .i64 x.1, .int .u64 x.2] 28)))
  refine (All_at _ H2.out).mono ?_
  rintro e w2 ⟨v2, rfl, hr2, hb2⟩
  obtain ⟨aa, ca, rfl, hA⟩ := hr2.items
  have AI := Lib.hid (show ItemsAt w2 (.slice aa (fillK xs m).length ca) (fillK xs m) from ⟨aa, ca, rfl, hA⟩)
  have HH := Lib.hid (H2.out.below hb2)
  have BW := Lib.hid (show Below w.heap.size w w2 from Below.step (Below.step B1.out (below_a _ _)) hb2)
  have x0 := cell_later hb2 (cell_nw w1 #[.int .i64 x.1, .int .u64 x.2] 28 0 _ rfl)
  have x1 := cell_later hb2 (cell_nw w1 #[.int .i64 x.1, .int .u64 x.2] 28 1 _ rfl)
  have f0 := frz_later hb2 (frz_nw w1 #[.int .i64 x.1, .int .u64 x.2] 28 0) (by simp)
  have f1 := frz_later hb2 (frz_nw w1 #[.int .i64 x.1, .int .u64 x.2] 28 1) (by simp)
  have HR2 := Lib.hid (show RowI w2 (w1.heap.size + 1) (.slice aa (fillK xs m).length ca) (fillK xs m) from by simpa using hr2)
  have hF1 : ∀ b ∈ _, b ≠ w1.heap.size := fun b hb => Nat.ne_of_lt (H1.out.lt b hb)
  have HF1 := Lib.hid hF1
  have hlx : w.heap.size ≤ w1.heap.size := B1.out.size
  have HLX := Lib.hid hlx
  obtain ⟨bx, hbx⟩ : ∃ bx, bx = w1.heap.size := ⟨_, rfl⟩
  rw [← hbx] at x0 x1 f0 f1 HR2 HF1 HLX ⊢
  have HBX := Lib.hid hbx
  clear hr2 hb2 hA hbx hF1 hlx
  by_cases h0 : 0 < m
  · have z0 : decide ((0 : Int) < (m : Int)) = true := decide_eq_true (by omega)
    have z0' : decide (0 < m) = true := decide_eq_true h0
    by_cases hc : a3 % 2 = 1
    · have z1 : (a3 % 2 == 1) = true := by simp; omega
      obtain ⟨j, hj, hjm⟩ : ∃ j : Nat, a3 / 2 % (m : Int) = (j : Int) ∧ j < m := by
        have h1 := Int.emod_lt_of_pos (a3 / 2) (show (0 : Int) < m by omega)
        have h2 := Int.emod_nonneg (a3 / 2) (show (m : Int) ≠ 0 by omega)
        exact ⟨(a3 / 2 % (m : Int)).toNat, by omega, by omega⟩
      have hjS : j < (fillK xs m).length := by rw [HM.out]; exact hjm
      obtain ⟨a1, c1, ea, hA⟩ := AI.out
      have hne : fillK xs m ≠ [] := fun e => by rw [e] at hjS; simp at hjS
      obtain ⟨b1, o1, rfl, hcA⟩ := hA.resolve_left hne
      cases ea
      obtain ⟨i0, i1⟩ := hcA j hjS
      obtain ⟨q, hqq⟩ : ∃ q, q = (fillK xs m)[j]! := ⟨_, rfl⟩
      rw [← hqq] at i0 i1
      have hmp : (0 : Int) < (m : Int) := by omega
      have hmz : ((m : Int) == 0) = false := by simp; omega
      have hjm' : (j : Int) < ((fillK xs m).length : Int) := by omega
      have hj0 : (0 : Int) ≤ (j : Int) := by omega
      have hjt : ((j : Int)).toNat = j := by simp
      clear hqq hA hne hcA hc h0
      go_wp2_with fail
      have K2 : Kept [bx] w2 ((w2.setCell ⟨bx, 0, none⟩ (.int .i64 q.1)).setCell ⟨bx, 1, none⟩ (.int .u64 q.2)) := ((Kept.refl [bx] w2).setCell (Or.inl (by simp)) _).setCell (Or.inl (by simp)) _
      have x1 : ((w2.setCell ⟨bx, 0, none⟩ (.int .i64 q.1)).setCell ⟨bx, 1, none⟩ (.int .u64 q.2)).cell? ⟨bx, 1, none⟩ = some (.int .u64 q.2) := cell_set_eq (cell_set_ne x1 (by simp))
      have x0 : ((w2.setCell ⟨bx, 0, none⟩ (.int .i64 q.1)).setCell ⟨bx, 1, none⟩ (.int .u64 q.2)).cell? ⟨bx, 0, none⟩ = some (.int .i64 q.1) := cell_set_ne (cell_set_eq x0) (by simp)
      generalize (w2.setCell ⟨bx, 0, none⟩ (.int .i64 q.1)).setCell ⟨bx, 1, none⟩ (.int .u64 q.2) = w3 at *
      have HH := Lib.hid (HH.out.kept K2 (fun b hb => by simpa using HF1.out b hb))
      have AI := Lib.hid (((HR2.out.held (F := [bx]) (fun b hb => by simp at hb; omega)).step (F' := [bx]) ⟨K2, fun b hb => Or.inl hb⟩).items)
      have BW := Lib.hid (Kept.stepB BW.out (Nat.le_refl _) K2 (fun b hb => by have := HLX.out; simp at hb; omega))
      clear K2 i0 i1 f0 f1
      refine (Below_at q _ HH.out).mono ?_
      rintro e w6 ⟨v6, rfl, hr6, hb6⟩
      obtain ⟨ab, cb, rfl, hB⟩ := hr6.items
      have HBI := Lib.hid hB
      have IA := Lib.hid (AI.out.later hb6)
      have x0 := cell_later hb6 x0
      have x1 := cell_later hb6 x1
      have B6 := Lib.hid (Below.step BW.out hb6)
      have hbl : (belowL (fillK xs m) q).length ≤ (fillK xs m).length := List.length_filter_le _ _
      rw [HM.out] at hbl
      have HBL := Lib.hid hbl
      clear hr6 hb6 hB
      generalize hBB : belowL (fillK xs m) q = B at *
      have HBB := Lib.hid hBB
      clear hBB
      go_wp2_with fail
      go_loopw [54] (fun i wr => ∃ k : Nat, k ≤ m ∧ i = .int .i64 k ∧ Below w6.heap.size w6 wr) (fun i _ => m - (intOf i).toNat)
      case atStart => exact ⟨0, Nat.zero_le _, rfl, Below.refl _ _⟩
      case round =>
        obtain ⟨k, hk, rfl, hbr⟩ := hrel
        have HBR := Lib.hid hbr
        have x0 := cell_later hbr x0
        have x1 := cell_later hbr x1
        clear hbr
        by_cases hlt : k < m
        · have hkS : k < (fillK xs m).length := by rw [HM.out]; exact hlt
          obtain ⟨a1, c1, ea, hA⟩ := IA.out.later HBR.out
          have hne : fillK xs m ≠ [] := fun e => by rw [e] at hkS; simp at hkS
          obtain ⟨b1, o1, rfl, hcA⟩ := hA.resolve_left hne
          cases ea
          obtain ⟨i0, i1⟩ := hcA k hkS
          obtain ⟨y, hy⟩ : ∃ y, y = (fillK xs m)[k]! := ⟨_, rfl⟩
          rw [← hy] at i0 i1
          have hbe := (below_take (fill_order xs m) q).2 k hkS
          rw [HBB.out, ← hy] at hbe
          have hk0 : (0 : Int) ≤ (k : Int) := by omega
          have hkm : (k : Int) < (m : Int) := by omega
          have hkS' : (k : Int) < ((fillK xs m).length : Int) := by omega
          have hk40 : (k : Int) ≤ 40 := by omega
          have i0' := cell_al (.cells #[.int .i64 y.1, .int .u64 y.2] 28) i0
          have A9 := Lib.hid fun (W : World) => before_any y q W
          have bb : Below w6.heap.size w6 (wr.alloc (.cells #[.int .i64 y.1, .int .u64 y.2] 28)) := Below.step HBR.out (below_a _ _)
          have y0 := cell_nw wr #[.int .i64 y.1, .int .u64 y.2] 28 0 _ rfl
          have y1 := cell_nw wr #[.int .i64 y.1, .int .u64 y.2] 28 1 _ rfl
          have x0' := cell_al (.cells #[.int .i64 y.1, .int .u64 y.2] 28) x0
          have x1' := cell_al (.cells #[.int .i64 y.1, .int .u64 y.2] 28) x1
          have hbwr := HBR.out.size
          have HY := Lib.hid hy
          by_cases hkB : k < B.length
          · obtain ⟨ab', cb', eb, hBx⟩ := (show ItemsAt w6 (.slice ab B.length cb) B from ⟨ab, cb, rfl, HBI.out⟩).later bb
            have hneB : B ≠ [] := fun e => by rw [e] at hkB; simp at hkB
            obtain ⟨b2, o2, rfl, hcB⟩ := hBx.resolve_left hneB
            cases eb
            obtain ⟨j0, j1⟩ := hcB k hkB
            have hat := below_at (fill_order xs m) q (i := k) (by rw [HBB.out]; exact hkB)
            rw [HBB.out, ← hy] at hat
            rw [hat] at j0 j1
            have zb : befB y q = true := by rw [hbe]; exact decide_eq_true hkB
            have l2 : (k : Int) < (B.length : Int) := by omega
            have z1 : (y.1 == y.1) = true := by simp
            have z2 : (y.2 == y.2) = true := by simp
            clear hBx hneB hcB hat hbe hA hne hcA hy bb
            go_wp2_with fail
            have hbo : Below wr.heap.size wr (wr.alloc (.cells #[.int .i64 y.1, .int .u64 y.2] 28)) := below_a _ _
            generalize wr.alloc (.cells #[.int .i64 y.1, .int .u64 y.2] 28) = wo at *
            have hS0 : Grows wo wo.drew ∧ wo.drew.cell? ⟨wr.heap.size, 0, none⟩ = some (.int .i64 y.1) ∧ wo.drew.cell? ⟨wr.heap.size, 1, none⟩ = some (.int .u64 y.2) ∧ wo.drew.cell? ⟨bx, 0, none⟩ = some (.int .i64 q.1) ∧ wo.drew.cell? ⟨bx, 1, none⟩ = some (.int .u64 q.2) ∧ wo.drew.cell? ⟨b2, o2 + k * 2, none⟩ = some (.int .i64 y.1) ∧ wo.drew.cell? ⟨b2, o2 + k * 2 + 1, none⟩ = some (.int .u64 y.2) := ⟨Grows.drew (Grows.refl _), cell_dr y0, cell_dr y1, cell_dr x0', cell_dr x1', cell_dr j0, cell_dr j1⟩
            refine wp_region_held_drew (S := fun w' => Grows wo w' ∧ w'.cell? ⟨wr.heap.size, 0, none⟩ = some (.int .i64 y.1) ∧ w'.cell? ⟨wr.heap.size, 1, none⟩ = some (.int .u64 y.2) ∧ w'.cell? ⟨bx, 0, none⟩ = some (.int .i64 q.1) ∧ w'.cell? ⟨bx, 1, none⟩ = some (.int .u64 q.2) ∧ w'.cell? ⟨b2, o2 + k * 2, none⟩ = some (.int .i64 y.1) ∧ w'.cell? ⟨b2, o2 + k * 2 + 1, none⟩ = some (.int .u64 y.2)) (by kernel_rfl) hS0 (fun hHeld => ?_)
            refine takeH (i := 0) (v := ?v0_1) rfl (by kernel_rfl) (fun _ _ _ h => h) (by rfl) ?hy0_1 (by assumption) ?rest0_1
            case hy0_1 => (intro w hSw; (try dsimp only at hSw); go_simp; try with_reducible rfl)
            try simp only [Act.put, List.setIfInBounds_toArray, List.set_cons_zero, List.set_cons_succ]
            refine takeH (i := 1) (v := ?v1_2) rfl (by kernel_rfl) (fun _ _ _ h => h) (by rfl) ?hy1_2 (by assumption) ?rest1_2
            case hy1_2 => (intro w hSw; (try dsimp only at hSw); go_simp; try with_reducible rfl)
            try simp only [Act.put, List.setIfInBounds_toArray, List.set_cons_zero, List.set_cons_succ]
            refine takeH (i := 3) (v := ?v3_3) rfl (by kernel_rfl) (fun _ _ _ h => h) (by rfl) ?hy3_3 (by assumption) ?rest3_3
            case hy3_3 => (intro w hSw; (try dsimp only at hSw); go_simp; try with_reducible rfl)
            try simp only [Act.put, List.setIfInBounds_toArray, List.set_cons_zero, List.set_cons_succ]
            refine takeH (i := 4) (v := ?v4_4) rfl (by kernel_rfl) (fun _ _ _ h => h) (by rfl) ?hy4_4 (by assumption) ?rest4_4
            case hy4_4 => (intro w hSw; (try dsimp only at hSw); go_simp; try with_reducible rfl)
            try simp only [Act.put, List.setIfInBounds_toArray, List.set_cons_zero, List.set_cons_succ]
            refine takeH (i := 5) (v := ?v5_5) rfl (by kernel_rfl) (fun _ _ _ h => h) (by rfl) ?hy5_5 (by assumption) ?rest5_5
            case hy5_5 => (intro w hSw; (try dsimp only at hSw); go_simp; try with_reducible rfl)
            try simp only [Act.put, List.setIfInBounds_toArray, List.set_cons_zero, List.set_cons_succ]
            refine takeH (i := 6) (v := ?v6_6) rfl (by kernel_rfl) (fun _ _ _ h => h) (by rfl) ?hy6_6 (by assumption) ?rest6_6
            case hy6_6 => (intro w hSw; (try dsimp only at hSw); go_simp; try with_reducible rfl)
            try simp only [Act.put, List.setIfInBounds_toArray, List.set_cons_zero, List.set_cons_succ]
            refine wpAnyH_ready (rs := [2]) (by kernel_rfl) (by simp) ?_
            refine consH rfl (fun K hK => ?_) (AllReadyH.nil)
            go_simp
            refine (A9.out _).mono ?_
            rintro e w9 ⟨rfl, hg9⟩
            go_wp2_with fail
            refine hK.out _ _ ?_ (fun hHeld2 => ?_)
            · (first | assumption | (refine heldG_6 (by assumption) ?_; assumption) | (refine heldG_6 (grows_ad _ _) ?_; assumption) | (refine heldG_6 (grows_a _ _) ?_; assumption))
            clear hK K
            try simp only [Act.put, List.setIfInBounds_toArray, List.set_cons_zero, List.set_cons_succ]
            refine takeH (i := 7) (v := ?v7_7) rfl (by kernel_rfl) (fun _ _ _ h => h) (by rfl) ?hy7_7 (by assumption) ?rest7_7
            case hy7_7 => (intro w hSw; (try dsimp only at hSw); go_simp; try with_reducible rfl)
            try simp only [Act.put, List.setIfInBounds_toArray, List.set_cons_zero, List.set_cons_succ]
            refine takeH (i := 8) (v := ?v8_8) rfl (by kernel_rfl) (fun _ _ _ h => h) (by rfl) ?hy8_8 (by assumption) ?rest8_8
            case hy8_8 => (intro w hSw; (try dsimp only at hSw); go_simp; try with_reducible rfl)
            try simp only [Act.put, List.setIfInBounds_toArray, List.set_cons_zero, List.set_cons_succ]
            refine takeH (i := 9) (v := ?v9_9) rfl (by kernel_rfl) (fun _ _ _ h => h) (by rfl) ?hy9_9 (by assumption) ?rest9_9
            case hy9_9 => (intro w hSw; (try dsimp only at hSw); go_simp; try with_reducible rfl)
            try simp only [Act.put, List.setIfInBounds_toArray, List.set_cons_zero, List.set_cons_succ]
            refine takeH (i := 10) (v := ?v10_10) rfl (by kernel_rfl) (fun _ _ _ h => h) (by rfl) ?hy10_10 (by assumption) ?rest10_10
            case hy10_10 => (intro w hSw; (try dsimp only at hSw); go_simp; try with_reducible rfl)
            try simp only [Act.put, List.setIfInBounds_toArray, List.set_cons_zero, List.set_cons_succ]
            refine takeH (i := 11) (v := ?v11_11) rfl (by kernel_rfl) (fun _ _ _ h => h) (by rfl) ?hy11_11 (by assumption) ?rest11_11
            case hy11_11 => (intro w hSw; (try dsimp only at hSw); go_simp; try with_reducible rfl)
            try simp only [Act.put, List.setIfInBounds_toArray, List.set_cons_zero, List.set_cons_succ]
            refine takeH (i := 12) (v := ?v12_12) rfl (by kernel_rfl) (fun _ _ _ h => h) (by rfl) ?hy12_12 (by assumption) ?rest12_12
            case hy12_12 => (intro w hSw; (try dsimp only at hSw); go_simp; try with_reducible rfl)
            try simp only [Act.put, List.setIfInBounds_toArray, List.set_cons_zero, List.set_cons_succ]
            refine takeH (i := 13) (v := ?v13_13) rfl (by kernel_rfl) (fun _ _ _ h => h) (by rfl) ?hy13_13 (by assumption) ?rest13_13
            case hy13_13 => (intro w hSw; (try dsimp only at hSw); go_simp; try with_reducible rfl)
            try simp only [Act.put, List.setIfInBounds_toArray, List.set_cons_zero, List.set_cons_succ]
            refine takeH (i := 14) (v := ?v14_14) rfl (by kernel_rfl) (fun _ _ _ h => h) (by rfl) ?hy14_14 (by assumption) ?rest14_14
            case hy14_14 => (intro w hSw; (try dsimp only at hSw); go_simp; try with_reducible rfl)
            try simp only [Act.put, List.setIfInBounds_toArray, List.set_cons_zero, List.set_cons_succ]
            refine takeH (i := 15) (v := ?v15_15) rfl (by kernel_rfl) (fun _ _ _ h => h) (by rfl) ?hy15_15 (by assumption) ?rest15_15
            case hy15_15 => (intro w hSw; (try dsimp only at hSw); go_simp; try with_reducible rfl)
            try simp only [Act.put, List.setIfInBounds_toArray, List.set_cons_zero, List.set_cons_succ]
            refine takeH (i := 16) (v := ?v16_16) rfl (by kernel_rfl) (fun _ _ _ h => h) (by rfl) ?hy16_16 (by assumption) ?rest16_16
            case hy16_16 => (intro w hSw; (try dsimp only at hSw); go_simp; try with_reducible rfl)
            try simp only [Act.put, List.setIfInBounds_toArray, List.set_cons_zero, List.set_cons_succ]
            refine takeH (i := 17) (v := ?v17_17) rfl (by kernel_rfl) (fun _ _ _ h => h) (by rfl) ?hy17_17 (by assumption) ?rest17_17
            case hy17_17 => (intro w hSw; (try dsimp only at hSw); go_simp; try with_reducible rfl)
            try simp only [Act.put, List.setIfInBounds_toArray, List.set_cons_zero, List.set_cons_succ]
            refine takeH (i := 18) (v := ?v18_18) rfl (by kernel_rfl) (fun _ _ _ h => h) (by rfl) ?hy18_18 (by assumption) ?rest18_18
            case hy18_18 => (intro w hSw; (try dsimp only at hSw); go_simp; try with_reducible rfl)
            try simp only [Act.put, List.setIfInBounds_toArray, List.set_cons_zero, List.set_cons_succ]
            refine takeH (i := 19) (v := ?v19_19) rfl (by kernel_rfl) (fun _ _ _ h => h) (by rfl) ?hy19_19 (by assumption) ?rest19_19
            case hy19_19 => (intro w hSw; (try dsimp only at hSw); go_simp; try with_reducible rfl)
            try simp only [Act.put, List.setIfInBounds_toArray, List.set_cons_zero, List.set_cons_succ]
            refine takeH (i := 20) (v := ?v20_20) rfl (by kernel_rfl) (fun _ _ _ h => h) (by rfl) ?hy20_20 (by assumption) ?rest20_20
            case hy20_20 => (intro w hSw; (try dsimp only at hSw); go_simp; try with_reducible rfl)
            try simp only [Act.put, List.setIfInBounds_toArray, List.set_cons_zero, List.set_cons_succ]
            refine takeH (i := 21) (v := ?v21_21) rfl (by kernel_rfl) (fun _ _ _ h => h) (by rfl) ?hy21_21 (by assumption) ?rest21_21
            case hy21_21 => (intro w hSw; (try dsimp only at hSw); go_simp; try with_reducible rfl)
            try simp only [Act.put, List.setIfInBounds_toArray, List.set_cons_zero, List.set_cons_succ]
            refine wpAnyH_done (by kernel_rfl) ?_ _
            clear hS0
            have HB9 := Lib.hid (Below.step (Below.step HBR.out hbo) hHeld2.1.below)
            go_wp2_with fail
            go_roundw
            case rel => exact ⟨k + 1, by omega, by go_num, HB9.out⟩
            case measure => simp [intOf]; omega
          · have zb : befB y q = false := by rw [hbe]; exact decide_eq_false hkB
            have l2 : decide ((k : Int) < (B.length : Int)) = false := decide_eq_false (by omega)
            have l2' : decide (k < B.length) = false := decide_eq_false hkB
            have l5 : ((k : Int) < (B.length : Int)) = False := eq_false (by omega)
            have l5' : (k < B.length) = False := eq_false hkB
            have l6 : B.length ≤ k := by omega
            clear hbe hA hne hcA hy bb hkB
            go_wp2_with fail
            have hbo : Below wr.heap.size wr (wr.alloc (.cells #[.int .i64 y.1, .int .u64 y.2] 28)) := below_a _ _
            generalize wr.alloc (.cells #[.int .i64 y.1, .int .u64 y.2] 28) = wo at *
            have hS0 : Grows wo wo.drew ∧ wo.drew.cell? ⟨wr.heap.size, 0, none⟩ = some (.int .i64 y.1) ∧ wo.drew.cell? ⟨wr.heap.size, 1, none⟩ = some (.int .u64 y.2) ∧ wo.drew.cell? ⟨bx, 0, none⟩ = some (.int .i64 q.1) ∧ wo.drew.cell? ⟨bx, 1, none⟩ = some (.int .u64 q.2) := ⟨Grows.drew (Grows.refl _), cell_dr y0, cell_dr y1, cell_dr x0', cell_dr x1'⟩
            refine wp_region_held_drew (S := fun w' => Grows wo w' ∧ w'.cell? ⟨wr.heap.size, 0, none⟩ = some (.int .i64 y.1) ∧ w'.cell? ⟨wr.heap.size, 1, none⟩ = some (.int .u64 y.2) ∧ w'.cell? ⟨bx, 0, none⟩ = some (.int .i64 q.1) ∧ w'.cell? ⟨bx, 1, none⟩ = some (.int .u64 q.2)) (by kernel_rfl) hS0 (fun hHeld => ?_)
            refine takeH (i := 0) (v := ?v0_22) rfl (by kernel_rfl) (fun _ _ _ h => h) (by rfl) ?hy0_22 (by assumption) ?rest0_22
            case hy0_22 => (intro w hSw; (try dsimp only at hSw); go_simp; try with_reducible rfl)
            try simp only [Act.put, List.setIfInBounds_toArray, List.set_cons_zero, List.set_cons_succ]
            refine takeH (i := 1) (v := ?v1_23) rfl (by kernel_rfl) (fun _ _ _ h => h) (by rfl) ?hy1_23 (by assumption) ?rest1_23
            case hy1_23 => (intro w hSw; (try dsimp only at hSw); go_simp; try with_reducible rfl)
            try simp only [Act.put, List.setIfInBounds_toArray, List.set_cons_zero, List.set_cons_succ]
            refine takeH (i := 3) (v := ?v3_24) rfl (by kernel_rfl) (fun _ _ _ h => h) (by rfl) ?hy3_24 (by assumption) ?rest3_24
            case hy3_24 => (intro w hSw; (try dsimp only at hSw); go_simp; try with_reducible rfl)
            try simp only [Act.put, List.setIfInBounds_toArray, List.set_cons_zero, List.set_cons_succ]
            refine takeH (i := 4) (v := ?v4_25) rfl (by kernel_rfl) (fun _ _ _ h => h) (by rfl) ?hy4_25 (by assumption) ?rest4_25
            case hy4_25 => (intro w hSw; (try dsimp only at hSw); go_simp; try with_reducible rfl)
            try simp only [Act.put, List.setIfInBounds_toArray, List.set_cons_zero, List.set_cons_succ]
            refine takeH (i := 5) (v := ?v5_26) rfl (by kernel_rfl) (fun _ _ _ h => h) (by rfl) ?hy5_26 (by assumption) ?rest5_26
            case hy5_26 => (intro w hSw; (try dsimp only at hSw); go_simp; try with_reducible rfl)
            try simp only [Act.put, List.setIfInBounds_toArray, List.set_cons_zero, List.set_cons_succ]
            refine takeH (i := 6) (v := ?v6_27) rfl (by kernel_rfl) (fun _ _ _ h => h) (by rfl) ?hy6_27 (by assumption) ?rest6_27
            case hy6_27 => (intro w hSw; (try dsimp only at hSw); go_simp; try with_reducible rfl)
            try simp only [Act.put, List.setIfInBounds_toArray, List.set_cons_zero, List.set_cons_succ]
            refine wpAnyH_ready (rs := [2]) (by kernel_rfl) (by simp) ?_
            refine consH rfl (fun K hK => ?_) (AllReadyH.nil)
            go_simp
            refine (A9.out _).mono ?_
            rintro e w9 ⟨rfl, hg9⟩
            go_wp2_with fail
            refine hK.out _ _ ?_ (fun hHeld2 => ?_)
            · (first | assumption | (refine heldG_4 (by assumption) ?_; assumption) | (refine heldG_4 (grows_ad _ _) ?_; assumption) | (refine heldG_4 (grows_a _ _) ?_; assumption))
            clear hK K
            try simp only [Act.put, List.setIfInBounds_toArray, List.set_cons_zero, List.set_cons_succ]
            refine takeH (i := 7) (v := ?v7_28) rfl (by kernel_rfl) (fun _ _ _ h => h) (by rfl) ?hy7_28 (by assumption) ?rest7_28
            case hy7_28 => (intro w hSw; (try dsimp only at hSw); go_simp; try with_reducible rfl)
            try simp only [Act.put, List.setIfInBounds_toArray, List.set_cons_zero, List.set_cons_succ]
            refine takeH (i := 8) (v := ?v8_29) rfl (by kernel_rfl) (fun _ _ _ h => h) (by rfl) ?hy8_29 (by assumption) ?rest8_29
            case hy8_29 => (intro w hSw; (try dsimp only at hSw); go_simp; try with_reducible rfl)
            try simp only [Act.put, List.setIfInBounds_toArray, List.set_cons_zero, List.set_cons_succ]
            refine takeH (i := 9) (v := ?v9_30) rfl (by kernel_rfl) (fun _ _ _ h => h) (by rfl) ?hy9_30 (by assumption) ?rest9_30
            case hy9_30 => (intro w hSw; (try dsimp only at hSw); go_simp; try with_reducible rfl)
            try simp only [Act.put, List.setIfInBounds_toArray, List.set_cons_zero, List.set_cons_succ]
            refine takeH (i := 10) (v := ?v10_31) rfl (by kernel_rfl) (fun _ _ _ h => h) (by rfl) ?hy10_31 (by assumption) ?rest10_31
            case hy10_31 => (intro w hSw; (try dsimp only at hSw); go_simp; try with_reducible rfl)
            try simp only [Act.put, List.setIfInBounds_toArray, List.set_cons_zero, List.set_cons_succ]
            refine takeH (i := 11) (v := ?v11_32) rfl (by kernel_rfl) (fun _ _ _ h => h) (by rfl) ?hy11_32 (by assumption) ?rest11_32
            case hy11_32 => (intro w hSw; (try dsimp only at hSw); go_simp; try with_reducible rfl)
            try simp only [Act.put, List.setIfInBounds_toArray, List.set_cons_zero, List.set_cons_succ]
            refine takeH (i := 12) (v := ?v12_33) rfl (by kernel_rfl) (fun _ _ _ h => h) (by rfl) ?hy12_33 (by assumption) ?rest12_33
            case hy12_33 => (intro w hSw; (try dsimp only at hSw); go_simp; try with_reducible rfl)
            try simp only [Act.put, List.setIfInBounds_toArray, List.set_cons_zero, List.set_cons_succ]
            refine takeH (i := 13) (v := ?v13_34) rfl (by kernel_rfl) (fun _ _ _ h => h) (by rfl) ?hy13_34 (by assumption) ?rest13_34
            case hy13_34 => (intro w hSw; (try dsimp only at hSw); go_simp; try with_reducible rfl)
            try simp only [Act.put, List.setIfInBounds_toArray, List.set_cons_zero, List.set_cons_succ]
            refine skipH (i := 14) rfl (by kernel_rfl) (fun _ _ _ h => h) (by kernel_rfl) (by assumption) ?_
            try simp only [Act.put, List.setIfInBounds_toArray, List.set_cons_zero, List.set_cons_succ]
            refine skipH (i := 15) rfl (by kernel_rfl) (fun _ _ _ h => h) (by kernel_rfl) (by assumption) ?_
            try simp only [Act.put, List.setIfInBounds_toArray, List.set_cons_zero, List.set_cons_succ]
            refine skipH (i := 16) rfl (by kernel_rfl) (fun _ _ _ h => h) (by kernel_rfl) (by assumption) ?_
            try simp only [Act.put, List.setIfInBounds_toArray, List.set_cons_zero, List.set_cons_succ]
            refine skipH (i := 17) rfl (by kernel_rfl) (fun _ _ _ h => h) (by kernel_rfl) (by assumption) ?_
            try simp only [Act.put, List.setIfInBounds_toArray, List.set_cons_zero, List.set_cons_succ]
            refine skipH (i := 18) rfl (by kernel_rfl) (fun _ _ _ h => h) (by kernel_rfl) (by assumption) ?_
            try simp only [Act.put, List.setIfInBounds_toArray, List.set_cons_zero, List.set_cons_succ]
            refine skipH (i := 19) rfl (by kernel_rfl) (fun _ _ _ h => h) (by kernel_rfl) (by assumption) ?_
            try simp only [Act.put, List.setIfInBounds_toArray, List.set_cons_zero, List.set_cons_succ]
            refine takeH (i := 20) (v := ?v20_35) rfl (by kernel_rfl) (fun _ _ _ h => h) (by rfl) ?hy20_35 (by assumption) ?rest20_35
            case hy20_35 => (intro w hSw; (try dsimp only at hSw); go_simp; try with_reducible rfl)
            try simp only [Act.put, List.setIfInBounds_toArray, List.set_cons_zero, List.set_cons_succ]
            refine takeH (i := 21) (v := ?v21_36) rfl (by kernel_rfl) (fun _ _ _ h => h) (by rfl) ?hy21_36 (by assumption) ?rest21_36
            case hy21_36 => (intro w hSw; (try dsimp only at hSw); go_simp; try with_reducible rfl)
            try simp only [Act.put, List.setIfInBounds_toArray, List.set_cons_zero, List.set_cons_succ]
            refine wpAnyH_done (by kernel_rfl) ?_ _
            clear hS0
            have HB9 := Lib.hid (Below.step (Below.step HBR.out hbo) hHeld2.1.below)
            go_wp2_with fail
            go_roundw
            case rel => exact ⟨k + 1, by omega, by go_num, HB9.out⟩
            case measure => simp [intOf]; omega
        · obtain rfl : k = m := by omega
          have hnlt : decide ((k : Int) < ((fillK xs k).length : Int)) = false := decide_eq_false (by rw [HM.out]; omega)
          have hnlt' : decide (k < (fillK xs k).length) = false := decide_eq_false (by rw [HM.out]; omega)
          have l4 : (B.length : Int) ≤ (k : Int) := by have := HBL.out; omega
          have l4' : B.length ≤ k := HBL.out
          clear hk hlt
          go_wp2_with fail
          refine (AW.out _).mono ?_
          rintro e w9 ⟨rfl, hb9⟩
          have HB9 := Lib.hid (Below.step (Below.step B6.out HBR.out) hb9)
          clear hb9
          go_wp2_with fail
          go_ret
          exact ⟨rfl, HB9.out⟩
    · have z1 : (a3 % 2 == 1) = false := by simp; omega
      have z1' : (a3 % 2 = 1) = False := eq_false hc
      clear hc h0
      go_wp2_with fail
      refine (Below_at x _ HH.out).mono ?_
      rintro e w6 ⟨v6, rfl, hr6, hb6⟩
      obtain ⟨ab, cb, rfl, hB⟩ := hr6.items
      have HBI := Lib.hid hB
      have IA := Lib.hid (AI.out.later hb6)
      have x0 := cell_later hb6 x0
      have x1 := cell_later hb6 x1
      have B6 := Lib.hid (Below.step BW.out hb6)
      have hbl : (belowL (fillK xs m) x).length ≤ (fillK xs m).length := List.length_filter_le _ _
      rw [HM.out] at hbl
      have HBL := Lib.hid hbl
      clear hr6 hb6 hB
      generalize hBB : belowL (fillK xs m) x = B at *
      have HBB := Lib.hid hBB
      clear hBB
      go_wp2_with fail
      go_loopw [54] (fun i wr => ∃ k : Nat, k ≤ m ∧ i = .int .i64 k ∧ Below w6.heap.size w6 wr) (fun i _ => m - (intOf i).toNat)
      case atStart => exact ⟨0, Nat.zero_le _, rfl, Below.refl _ _⟩
      case round =>
        obtain ⟨k, hk, rfl, hbr⟩ := hrel
        have HBR := Lib.hid hbr
        have x0 := cell_later hbr x0
        have x1 := cell_later hbr x1
        clear hbr
        by_cases hlt : k < m
        · have hkS : k < (fillK xs m).length := by rw [HM.out]; exact hlt
          obtain ⟨a1, c1, ea, hA⟩ := IA.out.later HBR.out
          have hne : fillK xs m ≠ [] := fun e => by rw [e] at hkS; simp at hkS
          obtain ⟨b1, o1, rfl, hcA⟩ := hA.resolve_left hne
          cases ea
          obtain ⟨i0, i1⟩ := hcA k hkS
          obtain ⟨y, hy⟩ : ∃ y, y = (fillK xs m)[k]! := ⟨_, rfl⟩
          rw [← hy] at i0 i1
          have hbe := (below_take (fill_order xs m) x).2 k hkS
          rw [HBB.out, ← hy] at hbe
          have hk0 : (0 : Int) ≤ (k : Int) := by omega
          have hkm : (k : Int) < (m : Int) := by omega
          have hkS' : (k : Int) < ((fillK xs m).length : Int) := by omega
          have hk40 : (k : Int) ≤ 40 := by omega
          have i0' := cell_al (.cells #[.int .i64 y.1, .int .u64 y.2] 28) i0
          have A9 := Lib.hid fun (W : World) => before_any y x W
          have bb : Below w6.heap.size w6 (wr.alloc (.cells #[.int .i64 y.1, .int .u64 y.2] 28)) := Below.step HBR.out (below_a _ _)
          have y0 := cell_nw wr #[.int .i64 y.1, .int .u64 y.2] 28 0 _ rfl
          have y1 := cell_nw wr #[.int .i64 y.1, .int .u64 y.2] 28 1 _ rfl
          have x0' := cell_al (.cells #[.int .i64 y.1, .int .u64 y.2] 28) x0
          have x1' := cell_al (.cells #[.int .i64 y.1, .int .u64 y.2] 28) x1
          have hbwr := HBR.out.size
          have HY := Lib.hid hy
          by_cases hkB : k < B.length
          · obtain ⟨ab', cb', eb, hBx⟩ := (show ItemsAt w6 (.slice ab B.length cb) B from ⟨ab, cb, rfl, HBI.out⟩).later bb
            have hneB : B ≠ [] := fun e => by rw [e] at hkB; simp at hkB
            obtain ⟨b2, o2, rfl, hcB⟩ := hBx.resolve_left hneB
            cases eb
            obtain ⟨j0, j1⟩ := hcB k hkB
            have hat := below_at (fill_order xs m) x (i := k) (by rw [HBB.out]; exact hkB)
            rw [HBB.out, ← hy] at hat
            rw [hat] at j0 j1
            have zb : befB y x = true := by rw [hbe]; exact decide_eq_true hkB
            have l2 : (k : Int) < (B.length : Int) := by omega
            have z1 : (y.1 == y.1) = true := by simp
            have z2 : (y.2 == y.2) = true := by simp
            clear hBx hneB hcB hat hbe hA hne hcA hy bb
            go_wp2_with fail
            have hbo : Below wr.heap.size wr (wr.alloc (.cells #[.int .i64 y.1, .int .u64 y.2] 28)) := below_a _ _
            generalize wr.alloc (.cells #[.int .i64 y.1, .int .u64 y.2] 28) = wo at *
            have hS0 : Grows wo wo.drew ∧ wo.drew.cell? ⟨wr.heap.size, 0, none⟩ = some (.int .i64 y.1) ∧ wo.drew.cell? ⟨wr.heap.size, 1, none⟩ = some (.int .u64 y.2) ∧ wo.drew.cell? ⟨bx, 0, none⟩ = some (.int .i64 x.1) ∧ wo.drew.cell? ⟨bx, 1, none⟩ = some (.int .u64 x.2) ∧ wo.drew.cell? ⟨b2, o2 + k * 2, none⟩ = some (.int .i64 y.1) ∧ wo.drew.cell? ⟨b2, o2 + k * 2 + 1, none⟩ = some (.int .u64 y.2) := ⟨Grows.drew (Grows.refl _), cell_dr y0, cell_dr y1, cell_dr x0', cell_dr x1', cell_dr j0, cell_dr j1⟩
            refine wp_region_held_drew (S := fun w' => Grows wo w' ∧ w'.cell? ⟨wr.heap.size, 0, none⟩ = some (.int .i64 y.1) ∧ w'.cell? ⟨wr.heap.size, 1, none⟩ = some (.int .u64 y.2) ∧ w'.cell? ⟨bx, 0, none⟩ = some (.int .i64 x.1) ∧ w'.cell? ⟨bx, 1, none⟩ = some (.int .u64 x.2) ∧ w'.cell? ⟨b2, o2 + k * 2, none⟩ = some (.int .i64 y.1) ∧ w'.cell? ⟨b2, o2 + k * 2 + 1, none⟩ = some (.int .u64 y.2)) (by kernel_rfl) hS0 (fun hHeld => ?_)
            refine takeH (i := 0) (v := ?v0_37) rfl (by kernel_rfl) (fun _ _ _ h => h) (by rfl) ?hy0_37 (by assumption) ?rest0_37
            case hy0_37 => (intro w hSw; (try dsimp only at hSw); go_simp; try with_reducible rfl)
            try simp only [Act.put, List.setIfInBounds_toArray, List.set_cons_zero, List.set_cons_succ]
            refine takeH (i := 1) (v := ?v1_38) rfl (by kernel_rfl) (fun _ _ _ h => h) (by rfl) ?hy1_38 (by assumption) ?rest1_38
            case hy1_38 => (intro w hSw; (try dsimp only at hSw); go_simp; try with_reducible rfl)
            try simp only [Act.put, List.setIfInBounds_toArray, List.set_cons_zero, List.set_cons_succ]
            refine takeH (i := 3) (v := ?v3_39) rfl (by kernel_rfl) (fun _ _ _ h => h) (by rfl) ?hy3_39 (by assumption) ?rest3_39
            case hy3_39 => (intro w hSw; (try dsimp only at hSw); go_simp; try with_reducible rfl)
            try simp only [Act.put, List.setIfInBounds_toArray, List.set_cons_zero, List.set_cons_succ]
            refine takeH (i := 4) (v := ?v4_40) rfl (by kernel_rfl) (fun _ _ _ h => h) (by rfl) ?hy4_40 (by assumption) ?rest4_40
            case hy4_40 => (intro w hSw; (try dsimp only at hSw); go_simp; try with_reducible rfl)
            try simp only [Act.put, List.setIfInBounds_toArray, List.set_cons_zero, List.set_cons_succ]
            refine takeH (i := 5) (v := ?v5_41) rfl (by kernel_rfl) (fun _ _ _ h => h) (by rfl) ?hy5_41 (by assumption) ?rest5_41
            case hy5_41 => (intro w hSw; (try dsimp only at hSw); go_simp; try with_reducible rfl)
            try simp only [Act.put, List.setIfInBounds_toArray, List.set_cons_zero, List.set_cons_succ]
            refine takeH (i := 6) (v := ?v6_42) rfl (by kernel_rfl) (fun _ _ _ h => h) (by rfl) ?hy6_42 (by assumption) ?rest6_42
            case hy6_42 => (intro w hSw; (try dsimp only at hSw); go_simp; try with_reducible rfl)
            try simp only [Act.put, List.setIfInBounds_toArray, List.set_cons_zero, List.set_cons_succ]
            refine wpAnyH_ready (rs := [2]) (by kernel_rfl) (by simp) ?_
            refine consH rfl (fun K hK => ?_) (AllReadyH.nil)
            go_simp
            refine (A9.out _).mono ?_
            rintro e w9 ⟨rfl, hg9⟩
            go_wp2_with fail
            refine hK.out _ _ ?_ (fun hHeld2 => ?_)
            · (first | assumption | (refine heldG_6 (by assumption) ?_; assumption) | (refine heldG_6 (grows_ad _ _) ?_; assumption) | (refine heldG_6 (grows_a _ _) ?_; assumption))
            clear hK K
            try simp only [Act.put, List.setIfInBounds_toArray, List.set_cons_zero, List.set_cons_succ]
            refine takeH (i := 7) (v := ?v7_43) rfl (by kernel_rfl) (fun _ _ _ h => h) (by rfl) ?hy7_43 (by assumption) ?rest7_43
            case hy7_43 => (intro w hSw; (try dsimp only at hSw); go_simp; try with_reducible rfl)
            try simp only [Act.put, List.setIfInBounds_toArray, List.set_cons_zero, List.set_cons_succ]
            refine takeH (i := 8) (v := ?v8_44) rfl (by kernel_rfl) (fun _ _ _ h => h) (by rfl) ?hy8_44 (by assumption) ?rest8_44
            case hy8_44 => (intro w hSw; (try dsimp only at hSw); go_simp; try with_reducible rfl)
            try simp only [Act.put, List.setIfInBounds_toArray, List.set_cons_zero, List.set_cons_succ]
            refine takeH (i := 9) (v := ?v9_45) rfl (by kernel_rfl) (fun _ _ _ h => h) (by rfl) ?hy9_45 (by assumption) ?rest9_45
            case hy9_45 => (intro w hSw; (try dsimp only at hSw); go_simp; try with_reducible rfl)
            try simp only [Act.put, List.setIfInBounds_toArray, List.set_cons_zero, List.set_cons_succ]
            refine takeH (i := 10) (v := ?v10_46) rfl (by kernel_rfl) (fun _ _ _ h => h) (by rfl) ?hy10_46 (by assumption) ?rest10_46
            case hy10_46 => (intro w hSw; (try dsimp only at hSw); go_simp; try with_reducible rfl)
            try simp only [Act.put, List.setIfInBounds_toArray, List.set_cons_zero, List.set_cons_succ]
            refine takeH (i := 11) (v := ?v11_47) rfl (by kernel_rfl) (fun _ _ _ h => h) (by rfl) ?hy11_47 (by assumption) ?rest11_47
            case hy11_47 => (intro w hSw; (try dsimp only at hSw); go_simp; try with_reducible rfl)
            try simp only [Act.put, List.setIfInBounds_toArray, List.set_cons_zero, List.set_cons_succ]
            refine takeH (i := 12) (v := ?v12_48) rfl (by kernel_rfl) (fun _ _ _ h => h) (by rfl) ?hy12_48 (by assumption) ?rest12_48
            case hy12_48 => (intro w hSw; (try dsimp only at hSw); go_simp; try with_reducible rfl)
            try simp only [Act.put, List.setIfInBounds_toArray, List.set_cons_zero, List.set_cons_succ]
            refine takeH (i := 13) (v := ?v13_49) rfl (by kernel_rfl) (fun _ _ _ h => h) (by rfl) ?hy13_49 (by assumption) ?rest13_49
            case hy13_49 => (intro w hSw; (try dsimp only at hSw); go_simp; try with_reducible rfl)
            try simp only [Act.put, List.setIfInBounds_toArray, List.set_cons_zero, List.set_cons_succ]
            refine takeH (i := 14) (v := ?v14_50) rfl (by kernel_rfl) (fun _ _ _ h => h) (by rfl) ?hy14_50 (by assumption) ?rest14_50
            case hy14_50 => (intro w hSw; (try dsimp only at hSw); go_simp; try with_reducible rfl)
            try simp only [Act.put, List.setIfInBounds_toArray, List.set_cons_zero, List.set_cons_succ]
            refine takeH (i := 15) (v := ?v15_51) rfl (by kernel_rfl) (fun _ _ _ h => h) (by rfl) ?hy15_51 (by assumption) ?rest15_51
            case hy15_51 => (intro w hSw; (try dsimp only at hSw); go_simp; try with_reducible rfl)
            try simp only [Act.put, List.setIfInBounds_toArray, List.set_cons_zero, List.set_cons_succ]
            refine takeH (i := 16) (v := ?v16_52) rfl (by kernel_rfl) (fun _ _ _ h => h) (by rfl) ?hy16_52 (by assumption) ?rest16_52
            case hy16_52 => (intro w hSw; (try dsimp only at hSw); go_simp; try with_reducible rfl)
            try simp only [Act.put, List.setIfInBounds_toArray, List.set_cons_zero, List.set_cons_succ]
            refine takeH (i := 17) (v := ?v17_53) rfl (by kernel_rfl) (fun _ _ _ h => h) (by rfl) ?hy17_53 (by assumption) ?rest17_53
            case hy17_53 => (intro w hSw; (try dsimp only at hSw); go_simp; try with_reducible rfl)
            try simp only [Act.put, List.setIfInBounds_toArray, List.set_cons_zero, List.set_cons_succ]
            refine takeH (i := 18) (v := ?v18_54) rfl (by kernel_rfl) (fun _ _ _ h => h) (by rfl) ?hy18_54 (by assumption) ?rest18_54
            case hy18_54 => (intro w hSw; (try dsimp only at hSw); go_simp; try with_reducible rfl)
            try simp only [Act.put, List.setIfInBounds_toArray, List.set_cons_zero, List.set_cons_succ]
            refine takeH (i := 19) (v := ?v19_55) rfl (by kernel_rfl) (fun _ _ _ h => h) (by rfl) ?hy19_55 (by assumption) ?rest19_55
            case hy19_55 => (intro w hSw; (try dsimp only at hSw); go_simp; try with_reducible rfl)
            try simp only [Act.put, List.setIfInBounds_toArray, List.set_cons_zero, List.set_cons_succ]
            refine takeH (i := 20) (v := ?v20_56) rfl (by kernel_rfl) (fun _ _ _ h => h) (by rfl) ?hy20_56 (by assumption) ?rest20_56
            case hy20_56 => (intro w hSw; (try dsimp only at hSw); go_simp; try with_reducible rfl)
            try simp only [Act.put, List.setIfInBounds_toArray, List.set_cons_zero, List.set_cons_succ]
            refine takeH (i := 21) (v := ?v21_57) rfl (by kernel_rfl) (fun _ _ _ h => h) (by rfl) ?hy21_57 (by assumption) ?rest21_57
            case hy21_57 => (intro w hSw; (try dsimp only at hSw); go_simp; try with_reducible rfl)
            try simp only [Act.put, List.setIfInBounds_toArray, List.set_cons_zero, List.set_cons_succ]
            refine wpAnyH_done (by kernel_rfl) ?_ _
            clear hS0
            have HB9 := Lib.hid (Below.step (Below.step HBR.out hbo) hHeld2.1.below)
            go_wp2_with fail
            go_roundw
            case rel => exact ⟨k + 1, by omega, by go_num, HB9.out⟩
            case measure => simp [intOf]; omega
          · have zb : befB y x = false := by rw [hbe]; exact decide_eq_false hkB
            have l2 : decide ((k : Int) < (B.length : Int)) = false := decide_eq_false (by omega)
            have l2' : decide (k < B.length) = false := decide_eq_false hkB
            have l5 : ((k : Int) < (B.length : Int)) = False := eq_false (by omega)
            have l5' : (k < B.length) = False := eq_false hkB
            have l6 : B.length ≤ k := by omega
            clear hbe hA hne hcA hy bb hkB
            go_wp2_with fail
            have hbo : Below wr.heap.size wr (wr.alloc (.cells #[.int .i64 y.1, .int .u64 y.2] 28)) := below_a _ _
            generalize wr.alloc (.cells #[.int .i64 y.1, .int .u64 y.2] 28) = wo at *
            have hS0 : Grows wo wo.drew ∧ wo.drew.cell? ⟨wr.heap.size, 0, none⟩ = some (.int .i64 y.1) ∧ wo.drew.cell? ⟨wr.heap.size, 1, none⟩ = some (.int .u64 y.2) ∧ wo.drew.cell? ⟨bx, 0, none⟩ = some (.int .i64 x.1) ∧ wo.drew.cell? ⟨bx, 1, none⟩ = some (.int .u64 x.2) := ⟨Grows.drew (Grows.refl _), cell_dr y0, cell_dr y1, cell_dr x0', cell_dr x1'⟩
            refine wp_region_held_drew (S := fun w' => Grows wo w' ∧ w'.cell? ⟨wr.heap.size, 0, none⟩ = some (.int .i64 y.1) ∧ w'.cell? ⟨wr.heap.size, 1, none⟩ = some (.int .u64 y.2) ∧ w'.cell? ⟨bx, 0, none⟩ = some (.int .i64 x.1) ∧ w'.cell? ⟨bx, 1, none⟩ = some (.int .u64 x.2)) (by kernel_rfl) hS0 (fun hHeld => ?_)
            refine takeH (i := 0) (v := ?v0_58) rfl (by kernel_rfl) (fun _ _ _ h => h) (by rfl) ?hy0_58 (by assumption) ?rest0_58
            case hy0_58 => (intro w hSw; (try dsimp only at hSw); go_simp; try with_reducible rfl)
            try simp only [Act.put, List.setIfInBounds_toArray, List.set_cons_zero, List.set_cons_succ]
            refine takeH (i := 1) (v := ?v1_59) rfl (by kernel_rfl) (fun _ _ _ h => h) (by rfl) ?hy1_59 (by assumption) ?rest1_59
            case hy1_59 => (intro w hSw; (try dsimp only at hSw); go_simp; try with_reducible rfl)
            try simp only [Act.put, List.setIfInBounds_toArray, List.set_cons_zero, List.set_cons_succ]
            refine takeH (i := 3) (v := ?v3_60) rfl (by kernel_rfl) (fun _ _ _ h => h) (by rfl) ?hy3_60 (by assumption) ?rest3_60
            case hy3_60 => (intro w hSw; (try dsimp only at hSw); go_simp; try with_reducible rfl)
            try simp only [Act.put, List.setIfInBounds_toArray, List.set_cons_zero, List.set_cons_succ]
            refine takeH (i := 4) (v := ?v4_61) rfl (by kernel_rfl) (fun _ _ _ h => h) (by rfl) ?hy4_61 (by assumption) ?rest4_61
            case hy4_61 => (intro w hSw; (try dsimp only at hSw); go_simp; try with_reducible rfl)
            try simp only [Act.put, List.setIfInBounds_toArray, List.set_cons_zero, List.set_cons_succ]
            refine takeH (i := 5) (v := ?v5_62) rfl (by kernel_rfl) (fun _ _ _ h => h) (by rfl) ?hy5_62 (by assumption) ?rest5_62
            case hy5_62 => (intro w hSw; (try dsimp only at hSw); go_simp; try with_reducible rfl)
            try simp only [Act.put, List.setIfInBounds_toArray, List.set_cons_zero, List.set_cons_succ]
            refine takeH (i := 6) (v := ?v6_63) rfl (by kernel_rfl) (fun _ _ _ h => h) (by rfl) ?hy6_63 (by assumption) ?rest6_63
            case hy6_63 => (intro w hSw; (try dsimp only at hSw); go_simp; try with_reducible rfl)
            try simp only [Act.put, List.setIfInBounds_toArray, List.set_cons_zero, List.set_cons_succ]
            refine wpAnyH_ready (rs := [2]) (by kernel_rfl) (by simp) ?_
            refine consH rfl (fun K hK => ?_) (AllReadyH.nil)
            go_simp
            refine (A9.out _).mono ?_
            rintro e w9 ⟨rfl, hg9⟩
            go_wp2_with fail
            refine hK.out _ _ ?_ (fun hHeld2 => ?_)
            · (first | assumption | (refine heldG_4 (by assumption) ?_; assumption) | (refine heldG_4 (grows_ad _ _) ?_; assumption) | (refine heldG_4 (grows_a _ _) ?_; assumption))
            clear hK K
            try simp only [Act.put, List.setIfInBounds_toArray, List.set_cons_zero, List.set_cons_succ]
            refine takeH (i := 7) (v := ?v7_64) rfl (by kernel_rfl) (fun _ _ _ h => h) (by rfl) ?hy7_64 (by assumption) ?rest7_64
            case hy7_64 => (intro w hSw; (try dsimp only at hSw); go_simp; try with_reducible rfl)
            try simp only [Act.put, List.setIfInBounds_toArray, List.set_cons_zero, List.set_cons_succ]
            refine takeH (i := 8) (v := ?v8_65) rfl (by kernel_rfl) (fun _ _ _ h => h) (by rfl) ?hy8_65 (by assumption) ?rest8_65
            case hy8_65 => (intro w hSw; (try dsimp only at hSw); go_simp; try with_reducible rfl)
            try simp only [Act.put, List.setIfInBounds_toArray, List.set_cons_zero, List.set_cons_succ]
            refine takeH (i := 9) (v := ?v9_66) rfl (by kernel_rfl) (fun _ _ _ h => h) (by rfl) ?hy9_66 (by assumption) ?rest9_66
            case hy9_66 => (intro w hSw; (try dsimp only at hSw); go_simp; try with_reducible rfl)
            try simp only [Act.put, List.setIfInBounds_toArray, List.set_cons_zero, List.set_cons_succ]
            refine takeH (i := 10) (v := ?v10_67) rfl (by kernel_rfl) (fun _ _ _ h => h) (by rfl) ?hy10_67 (by assumption) ?rest10_67
            case hy10_67 => (intro w hSw; (try dsimp only at hSw); go_simp; try with_reducible rfl)
            try simp only [Act.put, List.setIfInBounds_toArray, List.set_cons_zero, List.set_cons_succ]
            refine takeH (i := 11) (v := ?v11_68) rfl (by kernel_rfl) (fun _ _ _ h => h) (by rfl) ?hy11_68 (by assumption) ?rest11_68
            case hy11_68 => (intro w hSw; (try dsimp only at hSw); go_simp; try with_reducible rfl)
            try simp only [Act.put, List.setIfInBounds_toArray, List.set_cons_zero, List.set_cons_succ]
            refine takeH (i := 12) (v := ?v12_69) rfl (by kernel_rfl) (fun _ _ _ h => h) (by rfl) ?hy12_69 (by assumption) ?rest12_69
            case hy12_69 => (intro w hSw; (try dsimp only at hSw); go_simp; try with_reducible rfl)
            try simp only [Act.put, List.setIfInBounds_toArray, List.set_cons_zero, List.set_cons_succ]
            refine takeH (i := 13) (v := ?v13_70) rfl (by kernel_rfl) (fun _ _ _ h => h) (by rfl) ?hy13_70 (by assumption) ?rest13_70
            case hy13_70 => (intro w hSw; (try dsimp only at hSw); go_simp; try with_reducible rfl)
            try simp only [Act.put, List.setIfInBounds_toArray, List.set_cons_zero, List.set_cons_succ]
            refine skipH (i := 14) rfl (by kernel_rfl) (fun _ _ _ h => h) (by kernel_rfl) (by assumption) ?_
            try simp only [Act.put, List.setIfInBounds_toArray, List.set_cons_zero, List.set_cons_succ]
            refine skipH (i := 15) rfl (by kernel_rfl) (fun _ _ _ h => h) (by kernel_rfl) (by assumption) ?_
            try simp only [Act.put, List.setIfInBounds_toArray, List.set_cons_zero, List.set_cons_succ]
            refine skipH (i := 16) rfl (by kernel_rfl) (fun _ _ _ h => h) (by kernel_rfl) (by assumption) ?_
            try simp only [Act.put, List.setIfInBounds_toArray, List.set_cons_zero, List.set_cons_succ]
            refine skipH (i := 17) rfl (by kernel_rfl) (fun _ _ _ h => h) (by kernel_rfl) (by assumption) ?_
            try simp only [Act.put, List.setIfInBounds_toArray, List.set_cons_zero, List.set_cons_succ]
            refine skipH (i := 18) rfl (by kernel_rfl) (fun _ _ _ h => h) (by kernel_rfl) (by assumption) ?_
            try simp only [Act.put, List.setIfInBounds_toArray, List.set_cons_zero, List.set_cons_succ]
            refine skipH (i := 19) rfl (by kernel_rfl) (fun _ _ _ h => h) (by kernel_rfl) (by assumption) ?_
            try simp only [Act.put, List.setIfInBounds_toArray, List.set_cons_zero, List.set_cons_succ]
            refine takeH (i := 20) (v := ?v20_71) rfl (by kernel_rfl) (fun _ _ _ h => h) (by rfl) ?hy20_71 (by assumption) ?rest20_71
            case hy20_71 => (intro w hSw; (try dsimp only at hSw); go_simp; try with_reducible rfl)
            try simp only [Act.put, List.setIfInBounds_toArray, List.set_cons_zero, List.set_cons_succ]
            refine takeH (i := 21) (v := ?v21_72) rfl (by kernel_rfl) (fun _ _ _ h => h) (by rfl) ?hy21_72 (by assumption) ?rest21_72
            case hy21_72 => (intro w hSw; (try dsimp only at hSw); go_simp; try with_reducible rfl)
            try simp only [Act.put, List.setIfInBounds_toArray, List.set_cons_zero, List.set_cons_succ]
            refine wpAnyH_done (by kernel_rfl) ?_ _
            clear hS0
            have HB9 := Lib.hid (Below.step (Below.step HBR.out hbo) hHeld2.1.below)
            go_wp2_with fail
            go_roundw
            case rel => exact ⟨k + 1, by omega, by go_num, HB9.out⟩
            case measure => simp [intOf]; omega
        · obtain rfl : k = m := by omega
          have hnlt : decide ((k : Int) < ((fillK xs k).length : Int)) = false := decide_eq_false (by rw [HM.out]; omega)
          have hnlt' : decide (k < (fillK xs k).length) = false := decide_eq_false (by rw [HM.out]; omega)
          have l4 : (B.length : Int) ≤ (k : Int) := by have := HBL.out; omega
          have l4' : B.length ≤ k := HBL.out
          clear hk hlt
          go_wp2_with fail
          refine (AW.out _).mono ?_
          rintro e w9 ⟨rfl, hb9⟩
          have HB9 := Lib.hid (Below.step (Below.step B6.out HBR.out) hb9)
          clear hb9
          go_wp2_with fail
          go_ret
          exact ⟨rfl, HB9.out⟩
  · have z0 : decide ((0 : Int) < (m : Int)) = false := decide_eq_false (by omega)
    have z0' : decide (0 < m) = false := decide_eq_false h0
    have z0q : (0 < m) = False := eq_false h0
    clear h0
    go_wp2_with fail
    refine (Below_at x _ HH.out).mono ?_
    rintro e w6 ⟨v6, rfl, hr6, hb6⟩
    obtain ⟨ab, cb, rfl, hB⟩ := hr6.items
    have HBI := Lib.hid hB
    have IA := Lib.hid (AI.out.later hb6)
    have x0 := cell_later hb6 x0
    have x1 := cell_later hb6 x1
    have B6 := Lib.hid (Below.step BW.out hb6)
    have hbl : (belowL (fillK xs m) x).length ≤ (fillK xs m).length := List.length_filter_le _ _
    rw [HM.out] at hbl
    have HBL := Lib.hid hbl
    clear hr6 hb6 hB
    generalize hBB : belowL (fillK xs m) x = B at *
    have HBB := Lib.hid hBB
    clear hBB
    go_wp2_with fail
    go_loopw [54] (fun i wr => ∃ k : Nat, k ≤ m ∧ i = .int .i64 k ∧ Below w6.heap.size w6 wr) (fun i _ => m - (intOf i).toNat)
    case atStart => exact ⟨0, Nat.zero_le _, rfl, Below.refl _ _⟩
    case round =>
      obtain ⟨k, hk, rfl, hbr⟩ := hrel
      have HBR := Lib.hid hbr
      have x0 := cell_later hbr x0
      have x1 := cell_later hbr x1
      clear hbr
      by_cases hlt : k < m
      · have hkS : k < (fillK xs m).length := by rw [HM.out]; exact hlt
        obtain ⟨a1, c1, ea, hA⟩ := IA.out.later HBR.out
        have hne : fillK xs m ≠ [] := fun e => by rw [e] at hkS; simp at hkS
        obtain ⟨b1, o1, rfl, hcA⟩ := hA.resolve_left hne
        cases ea
        obtain ⟨i0, i1⟩ := hcA k hkS
        obtain ⟨y, hy⟩ : ∃ y, y = (fillK xs m)[k]! := ⟨_, rfl⟩
        rw [← hy] at i0 i1
        have hbe := (below_take (fill_order xs m) x).2 k hkS
        rw [HBB.out, ← hy] at hbe
        have hk0 : (0 : Int) ≤ (k : Int) := by omega
        have hkm : (k : Int) < (m : Int) := by omega
        have hkS' : (k : Int) < ((fillK xs m).length : Int) := by omega
        have hk40 : (k : Int) ≤ 40 := by omega
        have i0' := cell_al (.cells #[.int .i64 y.1, .int .u64 y.2] 28) i0
        have A9 := Lib.hid fun (W : World) => before_any y x W
        have bb : Below w6.heap.size w6 (wr.alloc (.cells #[.int .i64 y.1, .int .u64 y.2] 28)) := Below.step HBR.out (below_a _ _)
        have y0 := cell_nw wr #[.int .i64 y.1, .int .u64 y.2] 28 0 _ rfl
        have y1 := cell_nw wr #[.int .i64 y.1, .int .u64 y.2] 28 1 _ rfl
        have x0' := cell_al (.cells #[.int .i64 y.1, .int .u64 y.2] 28) x0
        have x1' := cell_al (.cells #[.int .i64 y.1, .int .u64 y.2] 28) x1
        have hbwr := HBR.out.size
        have HY := Lib.hid hy
        by_cases hkB : k < B.length
        · obtain ⟨ab', cb', eb, hBx⟩ := (show ItemsAt w6 (.slice ab B.length cb) B from ⟨ab, cb, rfl, HBI.out⟩).later bb
          have hneB : B ≠ [] := fun e => by rw [e] at hkB; simp at hkB
          obtain ⟨b2, o2, rfl, hcB⟩ := hBx.resolve_left hneB
          cases eb
          obtain ⟨j0, j1⟩ := hcB k hkB
          have hat := below_at (fill_order xs m) x (i := k) (by rw [HBB.out]; exact hkB)
          rw [HBB.out, ← hy] at hat
          rw [hat] at j0 j1
          have zb : befB y x = true := by rw [hbe]; exact decide_eq_true hkB
          have l2 : (k : Int) < (B.length : Int) := by omega
          have z1 : (y.1 == y.1) = true := by simp
          have z2 : (y.2 == y.2) = true := by simp
          clear hBx hneB hcB hat hbe hA hne hcA hy bb
          go_wp2_with fail
          have hbo : Below wr.heap.size wr (wr.alloc (.cells #[.int .i64 y.1, .int .u64 y.2] 28)) := below_a _ _
          generalize wr.alloc (.cells #[.int .i64 y.1, .int .u64 y.2] 28) = wo at *
          have hS0 : Grows wo wo.drew ∧ wo.drew.cell? ⟨wr.heap.size, 0, none⟩ = some (.int .i64 y.1) ∧ wo.drew.cell? ⟨wr.heap.size, 1, none⟩ = some (.int .u64 y.2) ∧ wo.drew.cell? ⟨bx, 0, none⟩ = some (.int .i64 x.1) ∧ wo.drew.cell? ⟨bx, 1, none⟩ = some (.int .u64 x.2) ∧ wo.drew.cell? ⟨b2, o2 + k * 2, none⟩ = some (.int .i64 y.1) ∧ wo.drew.cell? ⟨b2, o2 + k * 2 + 1, none⟩ = some (.int .u64 y.2) := ⟨Grows.drew (Grows.refl _), cell_dr y0, cell_dr y1, cell_dr x0', cell_dr x1', cell_dr j0, cell_dr j1⟩
          refine wp_region_held_drew (S := fun w' => Grows wo w' ∧ w'.cell? ⟨wr.heap.size, 0, none⟩ = some (.int .i64 y.1) ∧ w'.cell? ⟨wr.heap.size, 1, none⟩ = some (.int .u64 y.2) ∧ w'.cell? ⟨bx, 0, none⟩ = some (.int .i64 x.1) ∧ w'.cell? ⟨bx, 1, none⟩ = some (.int .u64 x.2) ∧ w'.cell? ⟨b2, o2 + k * 2, none⟩ = some (.int .i64 y.1) ∧ w'.cell? ⟨b2, o2 + k * 2 + 1, none⟩ = some (.int .u64 y.2)) (by kernel_rfl) hS0 (fun hHeld => ?_)
          refine takeH (i := 0) (v := ?v0_73) rfl (by kernel_rfl) (fun _ _ _ h => h) (by rfl) ?hy0_73 (by assumption) ?rest0_73
          case hy0_73 => (intro w hSw; (try dsimp only at hSw); go_simp; try with_reducible rfl)
          try simp only [Act.put, List.setIfInBounds_toArray, List.set_cons_zero, List.set_cons_succ]
          refine takeH (i := 1) (v := ?v1_74) rfl (by kernel_rfl) (fun _ _ _ h => h) (by rfl) ?hy1_74 (by assumption) ?rest1_74
          case hy1_74 => (intro w hSw; (try dsimp only at hSw); go_simp; try with_reducible rfl)
          try simp only [Act.put, List.setIfInBounds_toArray, List.set_cons_zero, List.set_cons_succ]
          refine takeH (i := 3) (v := ?v3_75) rfl (by kernel_rfl) (fun _ _ _ h => h) (by rfl) ?hy3_75 (by assumption) ?rest3_75
          case hy3_75 => (intro w hSw; (try dsimp only at hSw); go_simp; try with_reducible rfl)
          try simp only [Act.put, List.setIfInBounds_toArray, List.set_cons_zero, List.set_cons_succ]
          refine takeH (i := 4) (v := ?v4_76) rfl (by kernel_rfl) (fun _ _ _ h => h) (by rfl) ?hy4_76 (by assumption) ?rest4_76
          case hy4_76 => (intro w hSw; (try dsimp only at hSw); go_simp; try with_reducible rfl)
          try simp only [Act.put, List.setIfInBounds_toArray, List.set_cons_zero, List.set_cons_succ]
          refine takeH (i := 5) (v := ?v5_77) rfl (by kernel_rfl) (fun _ _ _ h => h) (by rfl) ?hy5_77 (by assumption) ?rest5_77
          case hy5_77 => (intro w hSw; (try dsimp only at hSw); go_simp; try with_reducible rfl)
          try simp only [Act.put, List.setIfInBounds_toArray, List.set_cons_zero, List.set_cons_succ]
          refine takeH (i := 6) (v := ?v6_78) rfl (by kernel_rfl) (fun _ _ _ h => h) (by rfl) ?hy6_78 (by assumption) ?rest6_78
          case hy6_78 => (intro w hSw; (try dsimp only at hSw); go_simp; try with_reducible rfl)
          try simp only [Act.put, List.setIfInBounds_toArray, List.set_cons_zero, List.set_cons_succ]
          refine wpAnyH_ready (rs := [2]) (by kernel_rfl) (by simp) ?_
          refine consH rfl (fun K hK => ?_) (AllReadyH.nil)
          go_simp
          refine (A9.out _).mono ?_
          rintro e w9 ⟨rfl, hg9⟩
          go_wp2_with fail
          refine hK.out _ _ ?_ (fun hHeld2 => ?_)
          · (first | assumption | (refine heldG_6 (by assumption) ?_; assumption) | (refine heldG_6 (grows_ad _ _) ?_; assumption) | (refine heldG_6 (grows_a _ _) ?_; assumption))
          clear hK K
          try simp only [Act.put, List.setIfInBounds_toArray, List.set_cons_zero, List.set_cons_succ]
          refine takeH (i := 7) (v := ?v7_79) rfl (by kernel_rfl) (fun _ _ _ h => h) (by rfl) ?hy7_79 (by assumption) ?rest7_79
          case hy7_79 => (intro w hSw; (try dsimp only at hSw); go_simp; try with_reducible rfl)
          try simp only [Act.put, List.setIfInBounds_toArray, List.set_cons_zero, List.set_cons_succ]
          refine takeH (i := 8) (v := ?v8_80) rfl (by kernel_rfl) (fun _ _ _ h => h) (by rfl) ?hy8_80 (by assumption) ?rest8_80
          case hy8_80 => (intro w hSw; (try dsimp only at hSw); go_simp; try with_reducible rfl)
          try simp only [Act.put, List.setIfInBounds_toArray, List.set_cons_zero, List.set_cons_succ]
          refine takeH (i := 9) (v := ?v9_81) rfl (by kernel_rfl) (fun _ _ _ h => h) (by rfl) ?hy9_81 (by assumption) ?rest9_81
          case hy9_81 => (intro w hSw; (try dsimp only at hSw); go_simp; try with_reducible rfl)
          try simp only [Act.put, List.setIfInBounds_toArray, List.set_cons_zero, List.set_cons_succ]
          refine takeH (i := 10) (v := ?v10_82) rfl (by kernel_rfl) (fun _ _ _ h => h) (by rfl) ?hy10_82 (by assumption) ?rest10_82
          case hy10_82 => (intro w hSw; (try dsimp only at hSw); go_simp; try with_reducible rfl)
          try simp only [Act.put, List.setIfInBounds_toArray, List.set_cons_zero, List.set_cons_succ]
          refine takeH (i := 11) (v := ?v11_83) rfl (by kernel_rfl) (fun _ _ _ h => h) (by rfl) ?hy11_83 (by assumption) ?rest11_83
          case hy11_83 => (intro w hSw; (try dsimp only at hSw); go_simp; try with_reducible rfl)
          try simp only [Act.put, List.setIfInBounds_toArray, List.set_cons_zero, List.set_cons_succ]
          refine takeH (i := 12) (v := ?v12_84) rfl (by kernel_rfl) (fun _ _ _ h => h) (by rfl) ?hy12_84 (by assumption) ?rest12_84
          case hy12_84 => (intro w hSw; (try dsimp only at hSw); go_simp; try with_reducible rfl)
          try simp only [Act.put, List.setIfInBounds_toArray, List.set_cons_zero, List.set_cons_succ]
          refine takeH (i := 13) (v := ?v13_85) rfl (by kernel_rfl) (fun _ _ _ h => h) (by rfl) ?hy13_85 (by assumption) ?rest13_85
          case hy13_85 => (intro w hSw; (try dsimp only at hSw); go_simp; try with_reducible rfl)
          try simp only [Act.put, List.setIfInBounds_toArray, List.set_cons_zero, List.set_cons_succ]
          refine takeH (i := 14) (v := ?v14_86) rfl (by kernel_rfl) (fun _ _ _ h => h) (by rfl) ?hy14_86 (by assumption) ?rest14_86
          case hy14_86 => (intro w hSw; (try dsimp only at hSw); go_simp; try with_reducible rfl)
          try simp only [Act.put, List.setIfInBounds_toArray, List.set_cons_zero, List.set_cons_succ]
          refine takeH (i := 15) (v := ?v15_87) rfl (by kernel_rfl) (fun _ _ _ h => h) (by rfl) ?hy15_87 (by assumption) ?rest15_87
          case hy15_87 => (intro w hSw; (try dsimp only at hSw); go_simp; try with_reducible rfl)
          try simp only [Act.put, List.setIfInBounds_toArray, List.set_cons_zero, List.set_cons_succ]
          refine takeH (i := 16) (v := ?v16_88) rfl (by kernel_rfl) (fun _ _ _ h => h) (by rfl) ?hy16_88 (by assumption) ?rest16_88
          case hy16_88 => (intro w hSw; (try dsimp only at hSw); go_simp; try with_reducible rfl)
          try simp only [Act.put, List.setIfInBounds_toArray, List.set_cons_zero, List.set_cons_succ]
          refine takeH (i := 17) (v := ?v17_89) rfl (by kernel_rfl) (fun _ _ _ h => h) (by rfl) ?hy17_89 (by assumption) ?rest17_89
          case hy17_89 => (intro w hSw; (try dsimp only at hSw); go_simp; try with_reducible rfl)
          try simp only [Act.put, List.setIfInBounds_toArray, List.set_cons_zero, List.set_cons_succ]
          refine takeH (i := 18) (v := ?v18_90) rfl (by kernel_rfl) (fun _ _ _ h => h) (by rfl) ?hy18_90 (by assumption) ?rest18_90
          case hy18_90 => (intro w hSw; (try dsimp only at hSw); go_simp; try with_reducible rfl)
          try simp only [Act.put, List.setIfInBounds_toArray, List.set_cons_zero, List.set_cons_succ]
          refine takeH (i := 19) (v := ?v19_91) rfl (by kernel_rfl) (fun _ _ _ h => h) (by rfl) ?hy19_91 (by assumption) ?rest19_91
          case hy19_91 => (intro w hSw; (try dsimp only at hSw); go_simp; try with_reducible rfl)
          try simp only [Act.put, List.setIfInBounds_toArray, List.set_cons_zero, List.set_cons_succ]
          refine takeH (i := 20) (v := ?v20_92) rfl (by kernel_rfl) (fun _ _ _ h => h) (by rfl) ?hy20_92 (by assumption) ?rest20_92
          case hy20_92 => (intro w hSw; (try dsimp only at hSw); go_simp; try with_reducible rfl)
          try simp only [Act.put, List.setIfInBounds_toArray, List.set_cons_zero, List.set_cons_succ]
          refine takeH (i := 21) (v := ?v21_93) rfl (by kernel_rfl) (fun _ _ _ h => h) (by rfl) ?hy21_93 (by assumption) ?rest21_93
          case hy21_93 => (intro w hSw; (try dsimp only at hSw); go_simp; try with_reducible rfl)
          try simp only [Act.put, List.setIfInBounds_toArray, List.set_cons_zero, List.set_cons_succ]
          refine wpAnyH_done (by kernel_rfl) ?_ _
          clear hS0
          have HB9 := Lib.hid (Below.step (Below.step HBR.out hbo) hHeld2.1.below)
          go_wp2_with fail
          go_roundw
          case rel => exact ⟨k + 1, by omega, by go_num, HB9.out⟩
          case measure => simp [intOf]; omega
        · have zb : befB y x = false := by rw [hbe]; exact decide_eq_false hkB
          have l2 : decide ((k : Int) < (B.length : Int)) = false := decide_eq_false (by omega)
          have l2' : decide (k < B.length) = false := decide_eq_false hkB
          have l5 : ((k : Int) < (B.length : Int)) = False := eq_false (by omega)
          have l5' : (k < B.length) = False := eq_false hkB
          have l6 : B.length ≤ k := by omega
          clear hbe hA hne hcA hy bb hkB
          go_wp2_with fail
          have hbo : Below wr.heap.size wr (wr.alloc (.cells #[.int .i64 y.1, .int .u64 y.2] 28)) := below_a _ _
          generalize wr.alloc (.cells #[.int .i64 y.1, .int .u64 y.2] 28) = wo at *
          have hS0 : Grows wo wo.drew ∧ wo.drew.cell? ⟨wr.heap.size, 0, none⟩ = some (.int .i64 y.1) ∧ wo.drew.cell? ⟨wr.heap.size, 1, none⟩ = some (.int .u64 y.2) ∧ wo.drew.cell? ⟨bx, 0, none⟩ = some (.int .i64 x.1) ∧ wo.drew.cell? ⟨bx, 1, none⟩ = some (.int .u64 x.2) := ⟨Grows.drew (Grows.refl _), cell_dr y0, cell_dr y1, cell_dr x0', cell_dr x1'⟩
          refine wp_region_held_drew (S := fun w' => Grows wo w' ∧ w'.cell? ⟨wr.heap.size, 0, none⟩ = some (.int .i64 y.1) ∧ w'.cell? ⟨wr.heap.size, 1, none⟩ = some (.int .u64 y.2) ∧ w'.cell? ⟨bx, 0, none⟩ = some (.int .i64 x.1) ∧ w'.cell? ⟨bx, 1, none⟩ = some (.int .u64 x.2)) (by kernel_rfl) hS0 (fun hHeld => ?_)
          refine takeH (i := 0) (v := ?v0_94) rfl (by kernel_rfl) (fun _ _ _ h => h) (by rfl) ?hy0_94 (by assumption) ?rest0_94
          case hy0_94 => (intro w hSw; (try dsimp only at hSw); go_simp; try with_reducible rfl)
          try simp only [Act.put, List.setIfInBounds_toArray, List.set_cons_zero, List.set_cons_succ]
          refine takeH (i := 1) (v := ?v1_95) rfl (by kernel_rfl) (fun _ _ _ h => h) (by rfl) ?hy1_95 (by assumption) ?rest1_95
          case hy1_95 => (intro w hSw; (try dsimp only at hSw); go_simp; try with_reducible rfl)
          try simp only [Act.put, List.setIfInBounds_toArray, List.set_cons_zero, List.set_cons_succ]
          refine takeH (i := 3) (v := ?v3_96) rfl (by kernel_rfl) (fun _ _ _ h => h) (by rfl) ?hy3_96 (by assumption) ?rest3_96
          case hy3_96 => (intro w hSw; (try dsimp only at hSw); go_simp; try with_reducible rfl)
          try simp only [Act.put, List.setIfInBounds_toArray, List.set_cons_zero, List.set_cons_succ]
          refine takeH (i := 4) (v := ?v4_97) rfl (by kernel_rfl) (fun _ _ _ h => h) (by rfl) ?hy4_97 (by assumption) ?rest4_97
          case hy4_97 => (intro w hSw; (try dsimp only at hSw); go_simp; try with_reducible rfl)
          try simp only [Act.put, List.setIfInBounds_toArray, List.set_cons_zero, List.set_cons_succ]
          refine takeH (i := 5) (v := ?v5_98) rfl (by kernel_rfl) (fun _ _ _ h => h) (by rfl) ?hy5_98 (by assumption) ?rest5_98
          case hy5_98 => (intro w hSw; (try dsimp only at hSw); go_simp; try with_reducible rfl)
          try simp only [Act.put, List.setIfInBounds_toArray, List.set_cons_zero, List.set_cons_succ]
          refine takeH (i := 6) (v := ?v6_99) rfl (by kernel_rfl) (fun _ _ _ h => h) (by rfl) ?hy6_99 (by assumption) ?rest6_99
          case hy6_99 => (intro w hSw; (try dsimp only at hSw); go_simp; try with_reducible rfl)
          try simp only [Act.put, List.setIfInBounds_toArray, List.set_cons_zero, List.set_cons_succ]
          refine wpAnyH_ready (rs := [2]) (by kernel_rfl) (by simp) ?_
          refine consH rfl (fun K hK => ?_) (AllReadyH.nil)
          go_simp
          refine (A9.out _).mono ?_
          rintro e w9 ⟨rfl, hg9⟩
          go_wp2_with fail
          refine hK.out _ _ ?_ (fun hHeld2 => ?_)
          · (first | assumption | (refine heldG_4 (by assumption) ?_; assumption) | (refine heldG_4 (grows_ad _ _) ?_; assumption) | (refine heldG_4 (grows_a _ _) ?_; assumption))
          clear hK K
          try simp only [Act.put, List.setIfInBounds_toArray, List.set_cons_zero, List.set_cons_succ]
          refine takeH (i := 7) (v := ?v7_100) rfl (by kernel_rfl) (fun _ _ _ h => h) (by rfl) ?hy7_100 (by assumption) ?rest7_100
          case hy7_100 => (intro w hSw; (try dsimp only at hSw); go_simp; try with_reducible rfl)
          try simp only [Act.put, List.setIfInBounds_toArray, List.set_cons_zero, List.set_cons_succ]
          refine takeH (i := 8) (v := ?v8_101) rfl (by kernel_rfl) (fun _ _ _ h => h) (by rfl) ?hy8_101 (by assumption) ?rest8_101
          case hy8_101 => (intro w hSw; (try dsimp only at hSw); go_simp; try with_reducible rfl)
          try simp only [Act.put, List.setIfInBounds_toArray, List.set_cons_zero, List.set_cons_succ]
          refine takeH (i := 9) (v := ?v9_102) rfl (by kernel_rfl) (fun _ _ _ h => h) (by rfl) ?hy9_102 (by assumption) ?rest9_102
          case hy9_102 => (intro w hSw; (try dsimp only at hSw); go_simp; try with_reducible rfl)
          try simp only [Act.put, List.setIfInBounds_toArray, List.set_cons_zero, List.set_cons_succ]
          refine takeH (i := 10) (v := ?v10_103) rfl (by kernel_rfl) (fun _ _ _ h => h) (by rfl) ?hy10_103 (by assumption) ?rest10_103
          case hy10_103 => (intro w hSw; (try dsimp only at hSw); go_simp; try with_reducible rfl)
          try simp only [Act.put, List.setIfInBounds_toArray, List.set_cons_zero, List.set_cons_succ]
          refine takeH (i := 11) (v := ?v11_104) rfl (by kernel_rfl) (fun _ _ _ h => h) (by rfl) ?hy11_104 (by assumption) ?rest11_104
          case hy11_104 => (intro w hSw; (try dsimp only at hSw); go_simp; try with_reducible rfl)
          try simp only [Act.put, List.setIfInBounds_toArray, List.set_cons_zero, List.set_cons_succ]
          refine takeH (i := 12) (v := ?v12_105) rfl (by kernel_rfl) (fun _ _ _ h => h) (by rfl) ?hy12_105 (by assumption) ?rest12_105
          case hy12_105 => (intro w hSw; (try dsimp only at hSw); go_simp; try with_reducible rfl)
          try simp only [Act.put, List.setIfInBounds_toArray, List.set_cons_zero, List.set_cons_succ]
          refine takeH (i := 13) (v := ?v13_106) rfl (by kernel_rfl) (fun _ _ _ h => h) (by rfl) ?hy13_106 (by assumption) ?rest13_106
          case hy13_106 => (intro w hSw; (try dsimp only at hSw); go_simp; try with_reducible rfl)
          try simp only [Act.put, List.setIfInBounds_toArray, List.set_cons_zero, List.set_cons_succ]
          refine skipH (i := 14) rfl (by kernel_rfl) (fun _ _ _ h => h) (by kernel_rfl) (by assumption) ?_
          try simp only [Act.put, List.setIfInBounds_toArray, List.set_cons_zero, List.set_cons_succ]
          refine skipH (i := 15) rfl (by kernel_rfl) (fun _ _ _ h => h) (by kernel_rfl) (by assumption) ?_
          try simp only [Act.put, List.setIfInBounds_toArray, List.set_cons_zero, List.set_cons_succ]
          refine skipH (i := 16) rfl (by kernel_rfl) (fun _ _ _ h => h) (by kernel_rfl) (by assumption) ?_
          try simp only [Act.put, List.setIfInBounds_toArray, List.set_cons_zero, List.set_cons_succ]
          refine skipH (i := 17) rfl (by kernel_rfl) (fun _ _ _ h => h) (by kernel_rfl) (by assumption) ?_
          try simp only [Act.put, List.setIfInBounds_toArray, List.set_cons_zero, List.set_cons_succ]
          refine skipH (i := 18) rfl (by kernel_rfl) (fun _ _ _ h => h) (by kernel_rfl) (by assumption) ?_
          try simp only [Act.put, List.setIfInBounds_toArray, List.set_cons_zero, List.set_cons_succ]
          refine skipH (i := 19) rfl (by kernel_rfl) (fun _ _ _ h => h) (by kernel_rfl) (by assumption) ?_
          try simp only [Act.put, List.setIfInBounds_toArray, List.set_cons_zero, List.set_cons_succ]
          refine takeH (i := 20) (v := ?v20_107) rfl (by kernel_rfl) (fun _ _ _ h => h) (by rfl) ?hy20_107 (by assumption) ?rest20_107
          case hy20_107 => (intro w hSw; (try dsimp only at hSw); go_simp; try with_reducible rfl)
          try simp only [Act.put, List.setIfInBounds_toArray, List.set_cons_zero, List.set_cons_succ]
          refine takeH (i := 21) (v := ?v21_108) rfl (by kernel_rfl) (fun _ _ _ h => h) (by rfl) ?hy21_108 (by assumption) ?rest21_108
          case hy21_108 => (intro w hSw; (try dsimp only at hSw); go_simp; try with_reducible rfl)
          try simp only [Act.put, List.setIfInBounds_toArray, List.set_cons_zero, List.set_cons_succ]
          refine wpAnyH_done (by kernel_rfl) ?_ _
          clear hS0
          have HB9 := Lib.hid (Below.step (Below.step HBR.out hbo) hHeld2.1.below)
          go_wp2_with fail
          go_roundw
          case rel => exact ⟨k + 1, by omega, by go_num, HB9.out⟩
          case measure => simp [intOf]; omega
      · obtain rfl : k = m := by omega
        have hnlt : decide ((k : Int) < ((fillK xs k).length : Int)) = false := decide_eq_false (by rw [HM.out]; omega)
        have hnlt' : decide (k < (fillK xs k).length) = false := decide_eq_false (by rw [HM.out]; omega)
        have l4 : (B.length : Int) ≤ (k : Int) := by have := HBL.out; omega
        have l4' : B.length ≤ k := HBL.out
        clear hk hlt
        go_wp2_with fail
        refine (AW.out _).mono ?_
        rintro e w9 ⟨rfl, hb9⟩
        have HB9 := Lib.hid (Below.step (Below.step B6.out HBR.out) hb9)
        clear hb9
        go_wp2_with fail
        go_ret
        exact ⟨rfl, HB9.out⟩
end Go.Proofs.Ytpbaegdmjmickaa
