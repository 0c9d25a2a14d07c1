/-
  QueueTells: a queue answers all calls as specified, whatever is done with it, and results share no memory with it. No condition beyond the given row's own.
-/
import Derived.Test.YtekjakmeopolhaaQueueAct
namespace Go.Proofs.Ytekjakmeopolhaa
open Go.RowKit Go.Maps Go.IntWalk Go.Lib
set_option linter.unusedVariables false
set_option linter.unusedSimpArgs false
set_option maxRecDepth 100000 in
set_option maxHeartbeats 4000000 in
theorem QueueTells_true (n : Int) (s1 : Option Addr) (l1 c1 : Nat) (F1 : Nat → Nat → Value) (w : World) (g0 : (Lit.int .i64 n).wf = true) (r1 : PlainRow [some .u8, some .i64, some .u64, some .u32, some .u32, some .i64] w s1 l1 c1 F1) :
    Calls Try.prog 8 #[.int .i64 n, .slice s1 l1 c1] w fun e w' => e = .returned (.bool true) ∧ Below w.heap.size w w' := by
  have AW := Lib.hid fun W => awake_any W
  by_cases hn : 1 ≤ n ∧ n ≤ 131072
  · have A1 := Lib.hid (New_at n w hn.1 hn.2)
    obtain ⟨h1, h2⟩ := hn
    by_cases h60 : n > 60
    · have z1 : decide (n > 60) = true := decide_eq_true h60
      have z1' : decide (60 < n) = true := decide_eq_true h60
      clear r1 h60
      go_enter Try.func8, Try.ntmps8
      go_wp2_with fail
      refine A1.out.mono ?_
      rintro e w1 ⟨q, F1, rfl, hq1, ho1, hb1⟩
      have HB1 := Lib.hid hb1
      have HQ1 := Lib.hid hq1
      have HO1 := Lib.hid ho1
      have AR := Lib.hid (rRight24_any n w1)
      rw [decide_eq_true (show 1 ≤ n ∧ n ≤ 131072 from ⟨h1, h2⟩)] at AR
      clear hb1 hq1 ho1
      go_wp2_with fail
      refine AR.out.mono ?_
      rintro e w2 ⟨rfl, rfl⟩
      go_wp2_with fail
      refine (AW.out _).mono ?_
      rintro e w9 ⟨rfl, hb9⟩
      have HB9 := Lib.hid (Below.step (HB1.out) hb9)
      clear hb9
      go_wp2_with fail
      go_ret
      exact ⟨rfl, HB9.out⟩
    · by_cases h120 : l1 > 120
      · have z1 : decide (n > 60) = false := decide_eq_false h60
        have z1' : decide (60 < n) = false := decide_eq_false h60
        have z2 : decide ((l1 : Int) > 120) = true := decide_eq_true (by omega)
        have z2' : decide (120 < l1) = true := decide_eq_true (by omega)
        clear r1 h60 h120
        go_enter Try.func8, Try.ntmps8
        go_wp2_with fail
        refine A1.out.mono ?_
        rintro e w1 ⟨q, F1, rfl, hq1, ho1, hb1⟩
        have HB1 := Lib.hid hb1
        have HQ1 := Lib.hid hq1
        have HO1 := Lib.hid ho1
        have AR := Lib.hid (rRight24_any n w1)
        rw [decide_eq_true (show 1 ≤ n ∧ n ≤ 131072 from ⟨h1, h2⟩)] at AR
        clear hb1 hq1 ho1
        go_wp2_with fail
        refine AR.out.mono ?_
        rintro e w2 ⟨rfl, rfl⟩
        go_wp2_with fail
        refine (AW.out _).mono ?_
        rintro e w9 ⟨rfl, hb9⟩
        have HB9 := Lib.hid (Below.step (HB1.out) hb9)
        clear hb9
        go_wp2_with fail
        go_ret
        exact ⟨rfl, HB9.out⟩
      · have z1 : decide (n > 60) = false := decide_eq_false h60
        have z1' : decide (60 < n) = false := decide_eq_false h60
        have z1q : (60 < n) = False := eq_false h60
        have z2 : decide ((l1 : Int) > 120) = false := decide_eq_false (by omega)
        have z2' : decide (120 < l1) = false := decide_eq_false (by omega)
        have z2q : (120 < l1) = False := eq_false (by omega)
        have hl120 : l1 ≤ 120 := by omega
        have HPR := Lib.hid r1
        clear r1 h60 h120
        go_enter Try.func8, Try.ntmps8
        go_wp2_with fail
        refine A1.out.mono ?_
        rintro e w1 ⟨q, F1, rfl, hq1, ho1, hb1⟩
        have HB1 := Lib.hid hb1
        have HQ1 := Lib.hid hq1
        have HO1 := Lib.hid ho1
        have AR := Lib.hid (rRight24_any n w1)
        rw [decide_eq_true (show 1 ≤ n ∧ n ≤ 131072 from ⟨h1, h2⟩)] at AR
        clear hb1 hq1 ho1
        go_wp2_with fail
        refine AR.out.mono ?_
        rintro e w2 ⟨rfl, rfl⟩
        go_wp2_with fail
        obtain ⟨W1, hW1⟩ : ∃ W, W = w1.alloc (.cells #[.int .i64 n, .slice none 0 0, .int .u64 0] 68) := ⟨_, rfl⟩
        rw [← hW1]
        have hBoth : Both w q w1.heap.size n W1 none 0 [] 0 F1 := by
          rw [hW1]
          exact ⟨HQ1.out.below (below_a _ _), RBox.new _ _ _ _ _ _ _, fun m => by have := HQ1.out.lt _ m; omega, ⟨none, 0, rfl, Nat.le_refl _, by omega, fun _ => rfl, Or.inl rfl⟩, HO1.out, HB1.out.size, Below.step HB1.out (below_a _ _)⟩
        have HB0 := Lib.hid hBoth
        clear hBoth hW1
        generalize w1.heap.size = b7 at *
        go_loopw [52] (fun i wr => ∃ (k : Nat) (a : Option Addr) (cap : Nat) (S : Mems) (fl : Int) (F : List Nat), k ≤ l1 ∧ i = .int .i64 k ∧ Both w q b7 n wr a cap S fl F) (fun i _ => l1 - (intOf i).toNat)
        case atStart => exact ⟨0, _, _, _, _, _, Nat.zero_le _, rfl, HB0.out⟩
        case round =>
          obtain ⟨k, a, cap, S, fl, F, hk, rfl, hBo⟩ := hrel
          have HBO := Lib.hid hBo
          have c0 := hBo.box.c0
          have c1 := hBo.box.c1
          have c2 := hBo.box.c2
          clear hBo
          by_cases hlt : k < l1
          · obtain ⟨b, off, kd, ni, v, r, g, nn, rfl, u0, u1, u2, u3, u4, u5, hkd, hid, hv, hr, hg, hnn⟩ := qact_cells HPR.out hlt
            have hk0 : (0 : Int) ≤ (k : Int) := by omega
            have hkm : (k : Int) < (l1 : Int) := by omega
            replace u0 := cell_later HBO.out.bel u0
            replace u1 := cell_later HBO.out.bel u1
            replace u2 := cell_later HBO.out.bel u2
            replace u3 := cell_later HBO.out.bel u3
            replace u4 := cell_later HBO.out.bel u4
            replace u5 := cell_later HBO.out.bel u5
            have y0 : (wr.alloc (.cells #[.int .u8 kd, .int .i64 ni, .int .u64 v, .int .u32 r, .int .u32 g, .int .i64 nn] 60)).cell? ⟨wr.heap.size, 0, none⟩ = some (.int .u8 kd) := cell_nw wr _ _ 0 _ rfl
            have y1 : (wr.alloc (.cells #[.int .u8 kd, .int .i64 ni, .int .u64 v, .int .u32 r, .int .u32 g, .int .i64 nn] 60)).cell? ⟨wr.heap.size, 1, none⟩ = some (.int .i64 ni) := cell_nw wr _ _ 1 _ rfl
            have y2 : (wr.alloc (.cells #[.int .u8 kd, .int .i64 ni, .int .u64 v, .int .u32 r, .int .u32 g, .int .i64 nn] 60)).cell? ⟨wr.heap.size, 2, none⟩ = some (.int .u64 v) := cell_nw wr _ _ 2 _ rfl
            have y3 : (wr.alloc (.cells #[.int .u8 kd, .int .i64 ni, .int .u64 v, .int .u32 r, .int .u32 g, .int .i64 nn] 60)).cell? ⟨wr.heap.size, 3, none⟩ = some (.int .u32 r) := cell_nw wr _ _ 3 _ rfl
            have y4 : (wr.alloc (.cells #[.int .u8 kd, .int .i64 ni, .int .u64 v, .int .u32 r, .int .u32 g, .int .i64 nn] 60)).cell? ⟨wr.heap.size, 4, none⟩ = some (.int .u32 g) := cell_nw wr _ _ 4 _ rfl
            have y5 : (wr.alloc (.cells #[.int .u8 kd, .int .i64 ni, .int .u64 v, .int .u32 r, .int .u32 g, .int .i64 nn] 60)).cell? ⟨wr.heap.size, 5, none⟩ = some (.int .i64 nn) := cell_nw wr _ _ 5 _ rfl
            have c0a := cell_al (.cells #[.int .u8 kd, .int .i64 ni, .int .u64 v, .int .u32 r, .int .u32 g, .int .i64 nn] 60) c0
            have c1a := cell_al (.cells #[.int .u8 kd, .int .i64 ni, .int .u64 v, .int .u32 r, .int .u32 g, .int .i64 nn] 60) c1
            have c2a := cell_al (.cells #[.int .u8 kd, .int .i64 ni, .int .u64 v, .int .u32 r, .int .u32 g, .int .i64 nn] 60) c2
            have HB2 := Lib.hid (HBO.out.later (below_a wr (.cells #[.int .u8 kd, .int .i64 ni, .int .u64 v, .int .u32 r, .int .u32 g, .int .i64 nn] 60)))
            have HFX := Lib.hid (show Ch.Fits v r g by unfold Ch.Fits; omega)
            have HID := Lib.hid hid.1
            have HKD := Lib.hid hkd.1
            have HNN := Lib.hid hnn.2
            have HL9 := Lib.hid (show wr.heap.size ∉ F ∧ wr.heap.size ≠ b7 from ⟨fun m => by have := HBO.out.inn.lt _ m; omega, fun e => by have := lt_of_cell c0; omega⟩)
            clear hid hv hr hg hnn
            go_wp2_with fail
            generalize wr.alloc (.cells #[.int .u8 kd, .int .i64 ni, .int .u64 v, .int .u32 r, .int .u32 g, .int .i64 nn] 60) = wa at *
            generalize wr.heap.size = b9 at *
            refine (qact_any a cap kd ni v r g nn wa HB2.out.inn HB2.out.recs.tail trivial HKD.out HID.out HFX.out HNN.out).mono ?_
            rintro e w3 ⟨a3, cap3, S3, fl3, F3, rfl, hH3, hR3, hS3⟩
            unfold rqV
            obtain ⟨hx3, hB3⟩ := HB2.out.acted hH3 hR3 hS3 (below_a w3 (.cells #[.int .i64 n, .slice a3 S3.length cap3, .int .u64 fl3] 68))
            have d0 := hx3.c0
            have d1 := hx3.c1
            have d2 := hx3.c2
            have f0 := hx3.f0
            have f1 := hx3.f1
            have f2 := hx3.f2
            have v0 := cell_nw w3 #[.int .i64 n, .slice a3 S3.length cap3, .int .u64 fl3] 68 0 _ rfl
            have v1 := cell_nw w3 #[.int .i64 n, .slice a3 S3.length cap3, .int .u64 fl3] 68 1 _ rfl
            have v2 := cell_nw w3 #[.int .i64 n, .slice a3 S3.length cap3, .int .u64 fl3] 68 2 _ rfl
            have e0 := hB3.box.c0
            have e1 := hB3.box.c1
            have e2 := hB3.box.c2
            have y1 : ((((w3.alloc (.cells #[.int .i64 n, .slice a3 S3.length cap3, .int .u64 fl3] 68)).setCell ⟨b7, 0, none⟩ (.int .i64 n)).setCell ⟨b7, 1, none⟩ (.slice a3 S3.length cap3)).setCell ⟨b7, 2, none⟩ (.int .u64 fl3)).cell? ⟨b9, 1, none⟩ = some (.int .i64 ni) :=
              cell_set_ne (cell_set_ne (cell_set_ne (cell_al _ (hS3.cell HL9.out.1 y1)) (Or.inl HL9.out.2)) (Or.inl HL9.out.2)) (Or.inl HL9.out.2)
            have HB3 := Lib.hid hB3
            clear hx3 hB3 hH3 hR3 hS3 y0 y2 y3 y4 y5 c0a c1a c2a u0 u1 u2 u3 u4 u5 c0 c1 c2
            generalize hM3 : S3.length = M3 at *
            have HM3 := Lib.hid hM3
            clear hM3
            go_wp2_with fail
            have A5 := qsame_any a3 cap3 ni _ HB3.out.inn HB3.out.recs.tail HID.out
            rw [HM3.out] at A5
            refine A5.mono ?_
            rintro e w5 ⟨rfl, hb5⟩
            have HB5 := Lib.hid (HB3.out.later hb5)
            clear A5 hb5
            go_wp2_with fail
            go_roundw
            case rel => exact ⟨k + 1, a3, cap3, S3, fl3, F3, by omega, by go_num, HB5.out⟩
            case measure => simp [intOf]; omega
          · have l1' : decide ((k : Int) < (l1 : Int)) = false := decide_eq_false (by omega)
            have l2' : decide (k < l1) = false := decide_eq_false hlt
            have l3' : (k < l1) = False := eq_false hlt
            have HML := Lib.hid (show S.length ≤ 1000000 by have := HBO.out.inn.ids; omega)
            generalize hM3 : S.length = M3 at *
            have HM3 := Lib.hid hM3
            clear hk hlt hM3
            go_wp2_with fail
            have HD := Lib.hid (HBO.out.later (Below.refl _ _).drew)
            have hS0 : Below wr.heap.size wr wr.drew ∧ wr.drew.cell? ⟨b7, 1, none⟩ = some (.slice a M3 cap) := ⟨Below.drew (Below.refl _ _), cell_dr c1⟩
            refine wp_region_held_drew (S := fun w' => Below wr.heap.size wr w' ∧ w'.cell? ⟨b7, 1, none⟩ = some (.slice a M3 cap)) (by kernel_rfl) hS0 (fun hHeld => ?_)
            refine takeH (i := 0) (v := ?v0_1) rfl (by kernel_rfl) (fun _ _ _ h => h) (by rfl) ?hy0_1 (by assumption) ?rest0_1
            case hy0_1 => (intro w hSw; (try dsimp only at hSw); go_simp; try with_reducible rfl)
            try simp only [Act.put, List.setIfInBounds_toArray, List.set_cons_zero, List.set_cons_succ]
            refine takeH (i := 2) (v := ?v2_2) rfl (by kernel_rfl) (fun _ _ _ h => h) (by rfl) ?hy2_2 (by assumption) ?rest2_2
            case hy2_2 => (intro w hSw; (try dsimp only at hSw); go_simp; try with_reducible rfl)
            try simp only [Act.put, List.setIfInBounds_toArray, List.set_cons_zero, List.set_cons_succ]
            refine takeH (i := 3) (v := ?v3_3) rfl (by kernel_rfl) (fun _ _ _ h => h) (by rfl) ?hy3_3 (by assumption) ?rest3_3
            case hy3_3 => (intro w hSw; (try dsimp only at hSw); go_simp; try with_reducible rfl)
            try simp only [Act.put, List.setIfInBounds_toArray, List.set_cons_zero, List.set_cons_succ]
            refine wpAnyH_ready (rs := [1]) (by kernel_rfl) (by simp) ?_
            refine consH rfl (fun K hK => ?_) (AllReadyH.nil)
            go_simp
            refine (QAll_at _ HD.out.inn).mono ?_
            rintro e w2 ⟨v2, rfl, hr2, hb2⟩
            have HR2 := Lib.hid (own_recs encMs_ok hr2)
            have HD2 := Lib.hid (HD.out.later hb2)
            clear hr2
            go_wp2_with fail
            refine hK.out _ _ ?_ (fun hHeld1 => ?_)
            · (first | assumption | (refine held_1 (by assumption) ?_; assumption) | (refine held_1 (below_ad _ _) ?_; assumption) | (refine held_1 (below_a _ _) ?_; assumption))
            clear hK K
            try simp only [Act.put, List.setIfInBounds_toArray, List.set_cons_zero, List.set_cons_succ]
            refine wpAnyH_ready (rs := [4]) (by kernel_rfl) (by simp) ?_
            refine consH rfl (fun K hK => ?_) (AllReadyH.nil)
            go_simp
            have A5 := members_same v2 (.slice a M3 cap) S w2 HR2.out (by rw [← HM3.out]; exact HD2.out.recs.recs) (by rw [HM3.out]; exact HML.out)
            refine A5.mono ?_
            rintro e w3 ⟨rfl, hq3⟩
            have hb3 : Below w2.heap.size w2 w3 := by obtain ⟨_, rfl⟩ := hq3; exact below_drewN (Below.refl _ _) _
            have HD3 := Lib.hid (HD2.out.later hb3)
            clear A5 hq3
            go_wp2_with fail
            refine hK.out _ _ ?_ (fun hHeld4 => ?_)
            · (first | assumption | (refine held_1 (by assumption) ?_; assumption) | (refine held_1 (below_ad _ _) ?_; assumption) | (refine held_1 (below_a _ _) ?_; assumption))
            clear hK K
            try simp only [Act.put, List.setIfInBounds_toArray, List.set_cons_zero, List.set_cons_succ]
            refine takeH (i := 5) (v := ?v5_4) rfl (by kernel_rfl) (fun _ _ _ h => h) (by rfl) ?hy5_4 (by assumption) ?rest5_4
            case hy5_4 => (intro w hSw; (try dsimp only at hSw); go_simp; try with_reducible rfl)
            try simp only [Act.put, List.setIfInBounds_toArray, List.set_cons_zero, List.set_cons_succ]
            refine wpAnyH_ready (rs := [6]) (by kernel_rfl) (by simp) ?_
            refine consH rfl (fun K hK => ?_) (AllReadyH.nil)
            go_simp
            refine (AW.out _).mono ?_
            rintro e w4 ⟨rfl, hb4⟩
            have HD4 := Lib.hid (HD3.out.later hb4)
            go_wp2_with fail
            refine hK.out _ _ ?_ (fun hHeld6 => ?_)
            · (first | assumption | (refine held_1 (by assumption) ?_; assumption) | (refine held_1 (below_ad _ _) ?_; assumption) | (refine held_1 (below_a _ _) ?_; assumption))
            clear hK K
            try simp only [Act.put, List.setIfInBounds_toArray, List.set_cons_zero, List.set_cons_succ]
            refine takeH (i := 7) (v := ?v7_5) rfl (by kernel_rfl) (fun _ _ _ h => h) (by rfl) ?hy7_5 (by assumption) ?rest7_5
            case hy7_5 => (intro w hSw; (try dsimp only at hSw); go_simp; try with_reducible rfl)
            try simp only [Act.put, List.setIfInBounds_toArray, List.set_cons_zero, List.set_cons_succ]
            refine takeH (i := 8) (v := ?v8_6) rfl (by kernel_rfl) (fun _ _ _ h => h) (by rfl) ?hy8_6 (by assumption) ?rest8_6
            case hy8_6 => (intro w hSw; (try dsimp only at hSw); go_simp; try with_reducible rfl)
            try simp only [Act.put, List.setIfInBounds_toArray, List.set_cons_zero, List.set_cons_succ]
            refine wpAnyH_done (by kernel_rfl) ?_ _
            go_wp2_with fail
            go_ret
            exact ⟨rfl, HD4.out.bel⟩
  · have A1 := Lib.hid (New_bad' n w hn)
    have AR := Lib.hid (rRight24_any n w)
    rw [decide_eq_false hn] at AR
    clear r1
    go_enter Try.func8, Try.ntmps8
    go_wp2_with fail
    refine A1.out.mono ?_
    rintro e w1 ⟨rfl, rfl⟩
    go_wp2_with fail
    refine AR.out.mono ?_
    rintro e w2 ⟨rfl, rfl⟩
    go_wp2_with fail
    refine (AW.out _).mono ?_
    rintro e w9 ⟨rfl, hb9⟩
    have HB9 := Lib.hid (Below.step (Below.refl _ _) hb9)
    clear hb9
    go_wp2_with fail
    go_ret
    exact ⟨rfl, HB9.out⟩
end Go.Proofs.Ytekjakmeopolhaa
