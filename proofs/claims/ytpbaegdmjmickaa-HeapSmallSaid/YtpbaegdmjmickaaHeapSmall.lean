/-
  HeapSmall: all lists of five acts of eight; numbers at their limits; heaps that are none. A closed statement.
-/
import Derived.Test.YtpbaegdmjmickaaHeapHn
namespace Go.Proofs.Ytpbaegdmjmickaa
open Go.RowKit Go.Maps Go.IntWalk Go.Lib
set_option linter.unusedVariables false
set_option linter.unusedSimpArgs false
def actsV : Array Value := #[.int .u8 0, .int .i64 0, .int .u64 2, .int .u8 0, .int .i64 1, .int .u64 1, .int .u8 0, .int .i64 2, .int .u64 2, .int .u8 2, .int .i64 1, .int .u64 3, .int .u8 2, .int .i64 0, .int .u64 1, .int .u8 3, .int .i64 2, .int .u64 0, .int .u8 4, .int .i64 0, .int .u64 0, .int .u8 0, .int .i64 3, .int .u64 0]
theorem acts_at {w : World} {b : Nat} (h : ∀ j v, actsV[j]? = some v → w.cell? ⟨b, j, none⟩ = some v) {r : Nat} (hr : r < 8) :
    ∃ kd id ky, w.cell? ⟨b, r * 3, none⟩ = some (.int .u8 kd) ∧ w.cell? ⟨b, r * 3 + 1, none⟩ = some (.int .i64 id) ∧ w.cell? ⟨b, r * 3 + 2, none⟩ = some (.int .u64 ky) ∧ 0 ≤ kd ∧ (Lit.int .i64 id).wf = true ∧ 0 ≤ ky ∧ ky ≤ 18446744073709551615 := by
  match r, hr with
  | 0, _ => exact ⟨0, 0, 2, h 0 _ rfl, h 1 _ rfl, h 2 _ rfl, by decide, by decide, by decide, by decide⟩
  | 1, _ => exact ⟨0, 1, 1, h 3 _ rfl, h 4 _ rfl, h 5 _ rfl, by decide, by decide, by decide, by decide⟩
  | 2, _ => exact ⟨0, 2, 2, h 6 _ rfl, h 7 _ rfl, h 8 _ rfl, by decide, by decide, by decide, by decide⟩
  | 3, _ => exact ⟨2, 1, 3, h 9 _ rfl, h 10 _ rfl, h 11 _ rfl, by decide, by decide, by decide, by decide⟩
  | 4, _ => exact ⟨2, 0, 1, h 12 _ rfl, h 13 _ rfl, h 14 _ rfl, by decide, by decide, by decide, by decide⟩
  | 5, _ => exact ⟨3, 2, 0, h 15 _ rfl, h 16 _ rfl, h 17 _ rfl, by decide, by decide, by decide, by decide⟩
  | 6, _ => exact ⟨4, 0, 0, h 18 _ rfl, h 19 _ rfl, h 20 _ rfl, by decide, by decide, by decide, by decide⟩
  | 7, _ => exact ⟨0, 3, 0, h 21 _ rfl, h 22 _ rfl, h 23 _ rfl, by decide, by decide, by decide, by decide⟩
theorem nat_tmod (m k : Nat) : ((m : Int)).tmod k = ((m % k : Nat) : Int) := by rw [Int.tmod_eq_emod_of_nonneg (by omega)]; rfl
theorem nat_tdiv (m k : Nat) : ((m : Int)).tdiv k = ((m / k : Nat) : Int) := by rw [Int.tdiv_eq_ediv_of_nonneg (by omega)]; rfl
theorem small_wf {m : Nat} (h : m < 1000) : (Lit.int .i64 (m : Int)).wf = true := by
  simp only [Lit.wf, IntKind.min, IntKind.max, IntKind.bits, IntKind.signed]
  simp
  omega
/-- behind act, what it returns laid into a new variable, and stored -/
theorem Both.acted2 {w wr w1 : World} {p b bz cap cap' : Nat} {n : Int} {a a' : Option Addr} {S S' : Items} {F F' : List Nat} (h : Both w p b n wr a cap S F) (hH : HeapIn w1 p F' n S') (hR : HeldR encQ F' w1 (.slice a' S'.length cap') S') (hS : Step F wr F' w1)
    (hz : RBox w1 bz 0 none 0 0) (hzF : bz ∉ F') (hzw : wr.heap.size ≤ bz) :
    Both w p b n ((((w1.setCell ⟨bz, 0, none⟩ (.int .i64 n)).setCell ⟨bz, 1, none⟩ (.slice a' S'.length cap')).setCell ⟨b, 0, none⟩ (.int .i64 n)).setCell ⟨b, 1, none⟩ (.slice a' S'.length cap')) a' cap' S' F' := by
  have hlb : b < wr.heap.size := lt_of_cell h.box.c0
  have hn : b ∉ F' := hS.off h.off hlb
  have hx := h.box.kept hS.kept h.off
  have KF : Kept [bz, b] w1 ((((w1.setCell ⟨bz, 0, none⟩ (.int .i64 n)).setCell ⟨bz, 1, none⟩ (.slice a' S'.length cap')).setCell ⟨b, 0, none⟩ (.int .i64 n)).setCell ⟨b, 1, none⟩ (.slice a' S'.length cap')) := ((((Kept.refl _ _).setCell (Or.inl (by simp)) _).setCell (Or.inl (by simp)) _).setCell (Or.inl (by simp)) _).setCell (Or.inl (by simp)) _
  have KZ : Kept [bz] w1 ((w1.setCell ⟨bz, 0, none⟩ (.int .i64 n)).setCell ⟨bz, 1, none⟩ (.slice a' S'.length cap')) := ((Kept.refl _ _).setCell (Or.inl (by simp)) _).setCell (Or.inl (by simp)) _
  have hs := hS.below h.own h.bel.size
  refine ⟨hH.kept KF (fun x hxF m => ?_), (hx.kept KZ (by simp; omega)).set, hn, (((hR.offBox hz).offBox hx).kept (KF.mono (fun x hx => by simp at hx ⊢; rcases hx with rfl | rfl <;> simp))).sub (fun x hx => by simp at hx ⊢; rcases hx with rfl | hx <;> simp [*]), hs.2, h.new, ?_⟩
  · simp at m
    rcases m with rfl | rfl
    · exact hzF hxF
    · exact hn hxF
  · exact Kept.stepB (h.bel.trans hs.1) (Nat.le_refl _) KF (fun x hx => by simp at hx; have := h.new; have := h.bel.size; omega)
def limsV : Array Value := #[.int .i64 (-1), .int .i64 0, .int .i64 1, .int .i64 131072, .int .i64 131073, .int .i64 4611686018427387904]
theorem lims_at {w : World} {b : Nat} (h : ∀ j v, limsV[j]? = some v → w.cell? ⟨b, j, none⟩ = some v) {r : Nat} (hr : r < 6) : ∃ n, w.cell? ⟨b, r, none⟩ = some (.int .i64 n) ∧ (Lit.int .i64 n).wf = true := by
  match r, hr with
  | 0, _ => exact ⟨_, h 0 _ rfl, by decide⟩
  | 1, _ => exact ⟨_, h 1 _ rfl, by decide⟩
  | 2, _ => exact ⟨_, h 2 _ rfl, by decide⟩
  | 3, _ => exact ⟨_, h 3 _ rfl, by decide⟩
  | 4, _ => exact ⟨_, h 4 _ rfl, by decide⟩
  | 5, _ => exact ⟨_, h 5 _ rfl, by decide⟩
set_option maxRecDepth 100000 in
set_option maxHeartbeats 4000000 in
theorem HeapSmall_true (w : World) : Calls Try.prog 9 #[] w fun e w' => e = .returned (.bool true) ∧ Below w.heap.size w w' := by
  have AW := Lib.hid fun W => awake_any W
  go_enter Try.func9, Try.ntmps9
  go_wp2_with fail
  obtain ⟨W0, hW0⟩ : ∃ W, W = w.alloc (.cells #[.int .u8 0, .int .i64 0, .int .u64 2, .int .u8 0, .int .i64 1, .int .u64 1, .int .u8 0, .int .i64 2, .int .u64 2, .int .u8 2, .int .i64 1, .int .u64 3, .int .u8 2, .int .i64 0, .int .u64 1, .int .u8 3, .int .i64 2, .int .u64 0, .int .u8 4, .int .i64 0, .int .u64 0, .int .u8 0, .int .i64 3, .int .u64 0] 60) := ⟨_, rfl⟩
  rw [← hW0]
  have HAC := Lib.hid (show ∀ j v, actsV[j]? = some v → W0.cell? ⟨w.heap.size, j, none⟩ = some v from fun j v h => by rw [hW0]; exact cell_nw _ _ _ j v h)
  have HB0 := Lib.hid (show Below w.heap.size w W0 by rw [hW0]; exact below_a _ _)
  have HLT := Lib.hid (show w.heap.size < W0.heap.size by rw [hW0]; simp)
  clear hW0
  generalize hba : w.heap.size = ba at HAC HLT ⊢
  have HBA := Lib.hid hba
  clear hba
  go_loopw [33] (fun i wr => ∃ k : Nat, k ≤ 32768 ∧ i = .int .i64 k ∧ Below W0.heap.size W0 wr) (fun i _ => 32768 - (intOf i).toNat)
  case atStart => exact ⟨0, Nat.zero_le _, rfl, Below.refl _ _⟩
  case round =>
    obtain ⟨k, hk, rfl, hbr⟩ := hrel
    obtain ⟨wo, rfl⟩ : ∃ wo : World, wo = wr := ⟨_, rfl⟩
    have HBR := Lib.hid hbr
    clear hbr
    by_cases hlt : k < 32768
    · have l1 : decide ((k : Int) < 32768) = true := decide_eq_true (by omega)
      have l1' : decide (k < 32768) = true := decide_eq_true (by omega)
      have hk0 : (0 : Int) ≤ (k : Int) := by omega
      go_wp2_with fail
      refine (New_in 4 wo (by decide) (by decide)).mono ?_
      rintro e w1 ⟨rfl, hh1, hb1⟩
      have HB1 := Lib.hid hb1
      have HH1 := Lib.hid hh1
      clear hb1 hh1
      go_wp2_with fail
      obtain ⟨W1, hW1⟩ : ∃ W, W = w1.alloc (.cells #[.int .i64 4, .slice none 0 0] 58) := ⟨_, rfl⟩
      rw [← hW1]
      have hBoth : Both wo (wo.heap.size + 1) w1.heap.size 4 W1 none 0 [] [wo.heap.size + 1, wo.heap.size] := by
        rw [hW1]
        exact ⟨HH1.out.below (below_a _ _), RBox.new _ _ _ _ _ _, fun m => by have := HH1.out.lt _ m; omega, ⟨none, 0, rfl, Nat.le_refl _, by omega, fun _ => rfl, Or.inl rfl⟩, fun x hx => by simp at hx; omega, HB1.out.size, Below.step HB1.out (below_a _ _)⟩
      have HBB := Lib.hid hBoth
      have HLW := Lib.hid (show ba < wo.heap.size from Nat.lt_of_lt_of_le HLT.out HBR.out.size)
      clear hBoth hW1
      generalize wo.heap.size + 1 = p at *
      generalize w1.heap.size = b7 at *
      go_loopw [6, 7] (fun i m wt => ∃ (j q : Nat) (a : Option Addr) (cap : Nat) (S : Items) (F : List Nat), j ≤ 5 ∧ i = .int .i64 j ∧ q ≤ 32768 ∧ m = .int .i64 q ∧ Both wo p b7 4 wt a cap S F) (fun i _ _ => 5 - (intOf i).toNat)
      case atStart => exact ⟨0, k, _, _, _, _, Nat.zero_le _, rfl, hk, rfl, HBB.out⟩
      case round =>
        obtain ⟨j, q, a, cap, S, F, hj, rfl, hq, rfl, hBo⟩ := hrel
        have HBO := Lib.hid hBo
        have c0 := hBo.box.c0
        have c1 := hBo.box.c1
        clear hBo
        by_cases hlj : j < 5
        · have l2 : decide ((j : Int) < 5) = true := decide_eq_true (by omega)
          have l2' : decide (j < 5) = true := decide_eq_true (by omega)
          obtain ⟨kd, id, ky, u0, u1, u2, hkd, hid, hky0, hky1⟩ := acts_at HAC.out (r := q % 8) (by omega)
          have zt : ((q : Int)).tmod 8 = ((q % 8 : Nat) : Int) := nat_tmod q 8
          have zd : ((q : Int)).tdiv 8 = ((q / 8 : Nat) : Int) := nat_tdiv q 8
          have hr8 : q % 8 < 8 := by omega
          have hq8 := Lib.hid (show q / 8 ≤ 32768 by omega)
          generalize q / 8 = qd at zd hq8
          generalize q % 8 = r at zt hr8 u0 u1 u2
          have hr0 : (0 : Int) ≤ (r : Int) := by omega
          have hr1 : (r : Int) < 8 := by omega
          replace u0 := cell_later HBO.out.bel (cell_later HBR.out u0)
          replace u1 := cell_later HBO.out.bel (cell_later HBR.out u1)
          replace u2 := cell_later HBO.out.bel (cell_later HBR.out u2)
          have HID := Lib.hid hid
          have HKY := Lib.hid (And.intro hky0 hky1)
          have HKD := Lib.hid hkd
          have hnb : b7 ∉ F := HBO.out.off
          have hna : ba ∉ F := fun m => by have := HBO.out.own _ m; have := HLW.out; omega
          generalize hM : S.length = M at *
          have HM := Lib.hid hM
          clear hid hky0 hky1 hkd hM
          go_wp2_with fail
          obtain ⟨W4, rfl⟩ : ∃ W : World, W = wr := ⟨_, rfl⟩
          have lb7 : b7 < W4.heap.size := lt_of_cell c0
          have lba : ba < W4.heap.size := lt_of_cell u0
          have HLF := Lib.hid HBO.out.inn.lt
          have HNE := Lib.hid (show ba ≠ b7 by have h1 := HLW.out; have h2 := HBO.out.new; omega)
          have hS0 : Kept F W4 W4.drew ∧ W4.drew.cell? ⟨b7, 0, none⟩ = some (.int .i64 4) ∧ W4.drew.cell? ⟨b7, 1, none⟩ = some (.slice a M cap) ∧ W4.drew.cell? ⟨ba, r * 3, none⟩ = some (.int .u8 kd) ∧ W4.drew.cell? ⟨ba, r * 3 + 1, none⟩ = some (.int .i64 id) ∧ W4.drew.cell? ⟨ba, r * 3 + 2, none⟩ = some (.int .u64 ky) := ⟨Kept.drew (Kept.refl _ _), cell_dr c0, cell_dr c1, cell_dr u0, cell_dr u1, cell_dr u2⟩
          refine wp_region_held_drew (S := fun w' => Kept F W4 w' ∧ w'.cell? ⟨b7, 0, none⟩ = some (.int .i64 4) ∧ w'.cell? ⟨b7, 1, none⟩ = some (.slice a M cap) ∧ w'.cell? ⟨ba, r * 3, none⟩ = some (.int .u8 kd) ∧ w'.cell? ⟨ba, r * 3 + 1, none⟩ = some (.int .i64 id) ∧ w'.cell? ⟨ba, r * 3 + 2, none⟩ = some (.int .u64 ky)) (by kernel_rfl) hS0 (fun hHeld => ?_)
          refine takeH (i := 0) (v := ?v0_1) rfl (by kernel_rfl) (fun _ _ _ h => h) (by rfl) ?hy0_1 (by assumption) ?rest0_1
          case hy0_1 => (intro w hSw; (try dsimp only at hSw); go_simp; try with_reducible rfl)
          try simp only [Act.put, List.setIfInBounds_toArray, List.set_cons_zero, List.set_cons_succ]
          refine takeH (i := 1) (v := ?v1_2) rfl (by kernel_rfl) (fun _ _ _ h => h) (by rfl) ?hy1_2 (by assumption) ?rest1_2
          case hy1_2 => (intro w hSw; (try dsimp only at hSw); go_simp; try with_reducible rfl)
          try simp only [Act.put, List.setIfInBounds_toArray, List.set_cons_zero, List.set_cons_succ]
          refine takeH (i := 2) (v := ?v2_3) rfl (by kernel_rfl) (fun _ _ _ h => h) (by rfl) ?hy2_3 (by assumption) ?rest2_3
          case hy2_3 => (intro w hSw; (try dsimp only at hSw); go_simp; try with_reducible rfl)
          try simp only [Act.put, List.setIfInBounds_toArray, List.set_cons_zero, List.set_cons_succ]
          refine takeH (i := 3) (v := ?v3_4) rfl (by kernel_rfl) (fun _ _ _ h => h) (by rfl) ?hy3_4 (by assumption) ?rest3_4
          case hy3_4 => (intro w hSw; (try dsimp only at hSw); go_simp; try with_reducible rfl)
          try simp only [Act.put, List.setIfInBounds_toArray, List.set_cons_zero, List.set_cons_succ]
          refine takeH (i := 4) (v := ?v4_5) rfl (by kernel_rfl) (fun _ _ _ h => h) (by rfl) ?hy4_5 (by assumption) ?rest4_5
          case hy4_5 => (intro w hSw; (try dsimp only at hSw); go_simp; try with_reducible rfl)
          try simp only [Act.put, List.setIfInBounds_toArray, List.set_cons_zero, List.set_cons_succ]
          refine takeH (i := 5) (v := ?v5_6) rfl (by kernel_rfl) (fun _ _ _ h => h) (by rfl) ?hy5_6 (by assumption) ?rest5_6
          case hy5_6 => (intro w hSw; (try dsimp only at hSw); go_simp; try with_reducible rfl)
          try simp only [Act.put, List.setIfInBounds_toArray, List.set_cons_zero, List.set_cons_succ]
          refine takeH (i := 6) (v := ?v6_7) rfl (by kernel_rfl) (fun _ _ _ h => h) (by rfl) ?hy6_7 (by assumption) ?rest6_7
          case hy6_7 => (intro w hSw; (try dsimp only at hSw); go_simp; try with_reducible rfl)
          try simp only [Act.put, List.setIfInBounds_toArray, List.set_cons_zero, List.set_cons_succ]
          refine wpAnyH_ready (rs := [7, 11]) (by kernel_rfl) (by simp) ?_
          refine consH rfl (fun K hK => ?_) (consH rfl (fun K hK => ?_) (AllReadyH.nil))
          · skip
            go_simp
            have AC := act_any a cap kd id ky _ (HBO.out.inn.below (Below.refl W4.heap.size W4).drew) (HBO.out.recs.tail.later (Below.refl W4.heap.size W4).drew) HKD.out HID.out HKY.out
            rw [HM.out] at AC
            refine AC.mono ?_
            rintro e w3 ⟨a3, cap3, S3, F3, rfl, hH3, hR3, hS3⟩
            clear AC
            have HH3 := Lib.hid hH3
            have HR3 := Lib.hid hR3
            have HS3 := Lib.hid (show Step F W4 F3 w3 from (Step.of (Below.refl W4.heap.size W4).drew).trans hS3)
            have hkk3 : Kept F W4.drew w3 := hS3.kept
            clear hH3 hR3 hS3
            go_wp2_with fail
            refine hK.out _ _ ?_ (fun hHeld7 => ?_)
            · (first | assumption | (refine heldK_5 (by assumption) ?_ (by assumption) (by assumption) (by assumption) (by assumption) (by assumption) ; assumption) | (refine heldK_5 (Kept.of (below_ad _ _)) ?_ (by assumption) (by assumption) (by assumption) (by assumption) (by assumption) ; assumption) | (refine heldK_5 (Kept.of (below_a _ _)) ?_ (by assumption) (by assumption) (by assumption) (by assumption) (by assumption) ; assumption))
            clear hK K
            try simp only [Act.put, List.setIfInBounds_toArray, List.set_cons_zero, List.set_cons_succ]
            refine takeH (i := 8) (v := ?v8_8) rfl (by kernel_rfl) (fun _ _ _ h => h) (by rfl) ?hy8_8 (by assumption) ?rest8_8
            case hy8_8 => (intro w hSw; (try dsimp only at hSw); go_simp; try with_reducible rfl)
            try simp only [Act.put, List.setIfInBounds_toArray, List.set_cons_zero, List.set_cons_succ]
            refine takeH (i := 9) (v := ?v9_9) rfl (by kernel_rfl) (fun _ _ _ h => h) (by rfl) ?hy9_9 (by assumption) ?rest9_9
            case hy9_9 => (intro w hSw; (try dsimp only at hSw); go_simp; try with_reducible rfl)
            try simp only [Act.put, List.setIfInBounds_toArray, List.set_cons_zero, List.set_cons_succ]
            refine takeH (i := 10) (v := ?v10_10) rfl (by kernel_rfl) (fun _ _ _ h => h) (by rfl) ?hy10_10 (by assumption) ?rest10_10
            case hy10_10 => (intro w hSw; (try dsimp only at hSw); go_simp; try with_reducible rfl)
            try simp only [Act.put, List.setIfInBounds_toArray, List.set_cons_zero, List.set_cons_succ]
            refine wpAnyH_ready (rs := [11]) (by kernel_rfl) (by simp) ?_
            refine consH rfl (fun K hK => ?_) (AllReadyH.nil)
            go_simp
            obtain ⟨w1, hw1⟩ : ∃ X, X = w3.alloc (.cells #[.int .i64 0, .slice none 0 0] 58) := ⟨_, rfl⟩
            rw [← hw1]
            obtain ⟨bz, hbz⟩ : ∃ X, X = w3.heap.size := ⟨_, rfl⟩
            rw [← hbz]
            have hz : RBox w1 bz 0 none 0 0 := by rw [hw1, hbz]; exact RBox.new w3 0 _ none 0 0
            have hbw1 : Below w3.heap.size w3 w1 := by rw [hw1]; exact below_a w3 _
            have hzw : W4.heap.size ≤ bz := by rw [hbz]; exact HS3.out.kept.size
            have HzF := Lib.hid (show bz ∉ F3 from fun m => by have := HH3.out.lt _ m; omega)
            have HHF := Lib.hid (HH3.out.below hbw1)
            have HRF := Lib.hid (HR3.out.later hbw1)
            have HSF := Lib.hid (HS3.out.trans (Step.of hbw1))
            have HZ := Lib.hid hz
            have hkk : Kept F w3 w1 := Kept.of hbw1
            clear hw1 hbz
            refine hK.out _ _ ?_ (fun hHeld11 => ?_)
            · (first | assumption | (refine heldK_5 (by assumption) ?_ (by assumption) (by assumption) (by assumption) (by assumption) (by assumption) ; assumption) | (refine heldK_5 (Kept.of (below_ad _ _)) ?_ (by assumption) (by assumption) (by assumption) (by assumption) (by assumption) ; assumption) | (refine heldK_5 (Kept.of (below_a _ _)) ?_ (by assumption) (by assumption) (by assumption) (by assumption) (by assumption) ; assumption))
            clear hK K
            try simp only [Act.put, List.setIfInBounds_toArray, List.set_cons_zero, List.set_cons_succ]
            refine wpAnyH_ready (rs := [12]) (by kernel_rfl) (by simp) ?_
            refine consH rfl (fun K hK => ?_) (AllReadyH.nil)
            have hHH : Kept F W4 w1 ∧ w1.cell? ⟨b7, 0, none⟩ = some (.int .i64 4) ∧ w1.cell? ⟨b7, 1, none⟩ = some (.slice a M cap) ∧ w1.cell? ⟨ba, r * 3, none⟩ = some (.int .u8 kd) ∧ w1.cell? ⟨ba, r * 3 + 1, none⟩ = some (.int .i64 id) ∧ w1.cell? ⟨ba, r * 3 + 2, none⟩ = some (.int .u64 ky) := by first | exact hHeld11 | exact hHeld7
            have zc0 := HZ.out.c0
            have zc1 := HZ.out.c1
            have zf0 := HZ.out.f0
            have zf1 := HZ.out.f1
            generalize hN3 : S3.length = N3 at *
            have HN3 := Lib.hid hN3
            clear hN3
            go_simp
            have hk12 : Kept F W4 ((w1.setCell ⟨bz, 0, none⟩ (.int .i64 4)).setCell ⟨bz, 1, none⟩ (.slice a3 N3 cap3)) ∧ ((w1.setCell ⟨bz, 0, none⟩ (.int .i64 4)).setCell ⟨bz, 1, none⟩ (.slice a3 N3 cap3)).cell? ⟨b7, 0, none⟩ = some (.int .i64 4) ∧ ((w1.setCell ⟨bz, 0, none⟩ (.int .i64 4)).setCell ⟨bz, 1, none⟩ (.slice a3 N3 cap3)).cell? ⟨b7, 1, none⟩ = some (.slice a M cap) ∧ ((w1.setCell ⟨bz, 0, none⟩ (.int .i64 4)).setCell ⟨bz, 1, none⟩ (.slice a3 N3 cap3)).cell? ⟨ba, r * 3, none⟩ = some (.int .u8 kd) ∧ ((w1.setCell ⟨bz, 0, none⟩ (.int .i64 4)).setCell ⟨bz, 1, none⟩ (.slice a3 N3 cap3)).cell? ⟨ba, r * 3 + 1, none⟩ = some (.int .i64 id) ∧ ((w1.setCell ⟨bz, 0, none⟩ (.int .i64 4)).setCell ⟨bz, 1, none⟩ (.slice a3 N3 cap3)).cell? ⟨ba, r * 3 + 2, none⟩ = some (.int .u64 ky) := ⟨(hHH.1.setCell (Or.inr hzw) _).setCell (Or.inr hzw) _, cell_set_ne (cell_set_ne hHH.2.1 (by omega)) (by omega), cell_set_ne (cell_set_ne hHH.2.2.1 (by omega)) (by omega), cell_set_ne (cell_set_ne hHH.2.2.2.1 (by omega)) (by omega), cell_set_ne (cell_set_ne hHH.2.2.2.2.1 (by omega)) (by omega), cell_set_ne (cell_set_ne hHH.2.2.2.2.2 (by omega)) (by omega)⟩
            refine hK.out _ _ ?_ (fun hHeld12 => ?_)
            · (first | assumption | (refine heldK_5 (by assumption) ?_ (by assumption) (by assumption) (by assumption) (by assumption) (by assumption) ; assumption) | (refine heldK_5 (Kept.of (below_ad _ _)) ?_ (by assumption) (by assumption) (by assumption) (by assumption) (by assumption) ; assumption) | (refine heldK_5 (Kept.of (below_a _ _)) ?_ (by assumption) (by assumption) (by assumption) (by assumption) (by assumption) ; assumption))
            clear hK K
            try simp only [Act.put, List.setIfInBounds_toArray, List.set_cons_zero, List.set_cons_succ]
            refine takeH (i := 13) (v := ?v13_11) rfl (by kernel_rfl) (fun _ _ _ h => h) (by rfl) ?hy13_11 (by assumption) ?rest13_11
            case hy13_11 => (intro w hSw; (try dsimp only at hSw); go_simp; try with_reducible rfl)
            try simp only [Act.put, List.setIfInBounds_toArray, List.set_cons_zero, List.set_cons_succ]
            refine wpAnyH_done (by kernel_rfl) ?_ _
            obtain ⟨-, d0, d1, -, -, -⟩ := hHeld12
            have f0 : ((w1.setCell ⟨bz, 0, none⟩ (.int .i64 4)).setCell ⟨bz, 1, none⟩ (.slice a3 N3 cap3)).frozen? ⟨b7, 0, none⟩ = false := by rw [World.frozen?_setCell, World.frozen?_setCell]; exact (HBO.out.box.kept HSF.out.kept HBO.out.off).f0
            have f1 : ((w1.setCell ⟨bz, 0, none⟩ (.int .i64 4)).setCell ⟨bz, 1, none⟩ (.slice a3 N3 cap3)).frozen? ⟨b7, 1, none⟩ = false := by rw [World.frozen?_setCell, World.frozen?_setCell]; exact (HBO.out.box.kept HSF.out.kept HBO.out.off).f1
            have v0 : ((w1.setCell ⟨bz, 0, none⟩ (.int .i64 4)).setCell ⟨bz, 1, none⟩ (.slice a3 N3 cap3)).cell? ⟨bz, 0, none⟩ = some (.int .i64 4) := cell_set_ne (cell_set_eq zc0) (by simp)
            have v1 : ((w1.setCell ⟨bz, 0, none⟩ (.int .i64 4)).setCell ⟨bz, 1, none⟩ (.slice a3 N3 cap3)).cell? ⟨bz, 1, none⟩ = some (.slice a3 N3 cap3) := cell_set_eq (cell_set_ne zc1 (by simp))
            have HF3 := Lib.hid (show Both wo p b7 4 (((((w1.setCell ⟨bz, 0, none⟩ (.int .i64 4)).setCell ⟨bz, 1, none⟩ (.slice a3 N3 cap3))).setCell ⟨b7, 0, none⟩ (.int .i64 4)).setCell ⟨b7, 1, none⟩ (.slice a3 N3 cap3)) a3 cap3 S3 F3 by have hh := HRF.out; rw [← HN3.out] at hh ⊢; exact HBO.out.acted2 HHF.out hh HSF.out HZ.out HzF.out hzw)
            clear hk12 hHH hS0 zc0 zc1 zf0 zf1 u0 u1 u2
            generalize ((w1.setCell ⟨bz, 0, none⟩ (.int .i64 4)).setCell ⟨bz, 1, none⟩ (.slice a3 N3 cap3)) = w2 at *
            go_wp2_with fail
            go_roundw
            case rel => exact ⟨j + 1, qd, a3, cap3, S3, F3, by omega, by go_num, hq8.out, by rw [IntWalk.wrap64_in _ (by have := hq8.out; omega)], HF3.out⟩
            case measure => simp [intOf]; omega
          · skip
            go_simp
            obtain ⟨wa, hwa⟩ : ∃ X, X = (W4.alloc (.cells #[.int .i64 0, .slice none 0 0] 58)).drew := ⟨_, rfl⟩
            rw [← hwa]
            obtain ⟨bz, hbz⟩ : ∃ X, X = W4.heap.size := ⟨_, rfl⟩
            rw [← hbz]
            have hz : RBox wa bz 0 none 0 0 := by rw [hwa, hbz]; exact RBox.new W4.drew 0 _ none 0 0
            have hbwa : Below W4.drew.heap.size W4.drew wa := by rw [hwa]; exact below_a W4.drew _
            have hzw : W4.heap.size ≤ bz := by rw [hbz]; exact Nat.le_refl _
            have HWA := Lib.hid (Below.step (Below.refl W4.heap.size W4).drew hbwa)
            have hkk : Kept F W4.drew wa := Kept.of hbwa
            clear hwa hbz
            refine hK.out _ _ ?_ (fun hHeld11 => ?_)
            · (first | assumption | (refine heldK_5 (by assumption) ?_ (by assumption) (by assumption) (by assumption) (by assumption) (by assumption) ; assumption) | (refine heldK_5 (Kept.of (below_ad _ _)) ?_ (by assumption) (by assumption) (by assumption) (by assumption) (by assumption) ; assumption) | (refine heldK_5 (Kept.of (below_a _ _)) ?_ (by assumption) (by assumption) (by assumption) (by assumption) (by assumption) ; assumption))
            clear hK K
            try simp only [Act.put, List.setIfInBounds_toArray, List.set_cons_zero, List.set_cons_succ]
            refine wpAnyH_ready (rs := [7]) (by kernel_rfl) (by simp) ?_
            refine consH rfl (fun K hK => ?_) (AllReadyH.nil)
            go_simp
            have AC := act_any a cap kd id ky _ (HBO.out.inn.below HWA.out) (HBO.out.recs.tail.later HWA.out) HKD.out HID.out HKY.out
            rw [HM.out] at AC
            refine AC.mono ?_
            rintro e w1 ⟨a3, cap3, S3, F3, rfl, hH3, hR3, hS3⟩
            clear AC
            have HHF := Lib.hid hH3
            have HRF := Lib.hid hR3
            have HzF := Lib.hid (hS3.off (fun m => by have := HLF.out _ m; omega) (lt_of_cell hz.c0))
            have HSF := Lib.hid ((Step.of HWA.out).trans hS3)
            have HZ := Lib.hid (hz.kept hS3.kept (fun m => by have := HLF.out _ m; omega))
            have hkk3 : Kept F wa w1 := hS3.kept
            clear hH3 hR3 hS3 hz
            go_wp2_with fail
            refine hK.out _ _ ?_ (fun hHeld7 => ?_)
            · (first | assumption | (refine heldK_5 (by assumption) ?_ (by assumption) (by assumption) (by assumption) (by assumption) (by assumption) ; assumption) | (refine heldK_5 (Kept.of (below_ad _ _)) ?_ (by assumption) (by assumption) (by assumption) (by assumption) (by assumption) ; assumption) | (refine heldK_5 (Kept.of (below_a _ _)) ?_ (by assumption) (by assumption) (by assumption) (by assumption) (by assumption) ; assumption))
            clear hK K
            try simp only [Act.put, List.setIfInBounds_toArray, List.set_cons_zero, List.set_cons_succ]
            refine takeH (i := 8) (v := ?v8_12) rfl (by kernel_rfl) (fun _ _ _ h => h) (by rfl) ?hy8_12 (by assumption) ?rest8_12
            case hy8_12 => (intro w hSw; (try dsimp only at hSw); go_simp; try with_reducible rfl)
            try simp only [Act.put, List.setIfInBounds_toArray, List.set_cons_zero, List.set_cons_succ]
            refine takeH (i := 9) (v := ?v9_13) rfl (by kernel_rfl) (fun _ _ _ h => h) (by rfl) ?hy9_13 (by assumption) ?rest9_13
            case hy9_13 => (intro w hSw; (try dsimp only at hSw); go_simp; try with_reducible rfl)
            try simp only [Act.put, List.setIfInBounds_toArray, List.set_cons_zero, List.set_cons_succ]
            refine takeH (i := 10) (v := ?v10_14) rfl (by kernel_rfl) (fun _ _ _ h => h) (by rfl) ?hy10_14 (by assumption) ?rest10_14
            case hy10_14 => (intro w hSw; (try dsimp only at hSw); go_simp; try with_reducible rfl)
            try simp only [Act.put, List.setIfInBounds_toArray, List.set_cons_zero, List.set_cons_succ]
            refine wpAnyH_ready (rs := [12]) (by kernel_rfl) (by simp) ?_
            refine consH rfl (fun K hK => ?_) (AllReadyH.nil)
            have hHH : Kept F W4 w1 ∧ w1.cell? ⟨b7, 0, none⟩ = some (.int .i64 4) ∧ w1.cell? ⟨b7, 1, none⟩ = some (.slice a M cap) ∧ w1.cell? ⟨ba, r * 3, none⟩ = some (.int .u8 kd) ∧ w1.cell? ⟨ba, r * 3 + 1, none⟩ = some (.int .i64 id) ∧ w1.cell? ⟨ba, r * 3 + 2, none⟩ = some (.int .u64 ky) := by first | exact hHeld11 | exact hHeld7
            have zc0 := HZ.out.c0
            have zc1 := HZ.out.c1
            have zf0 := HZ.out.f0
            have zf1 := HZ.out.f1
            generalize hN3 : S3.length = N3 at *
            have HN3 := Lib.hid hN3
            clear hN3
            go_simp
            have hk12 : Kept F W4 ((w1.setCell ⟨bz, 0, none⟩ (.int .i64 4)).setCell ⟨bz, 1, none⟩ (.slice a3 N3 cap3)) ∧ ((w1.setCell ⟨bz, 0, none⟩ (.int .i64 4)).setCell ⟨bz, 1, none⟩ (.slice a3 N3 cap3)).cell? ⟨b7, 0, none⟩ = some (.int .i64 4) ∧ ((w1.setCell ⟨bz, 0, none⟩ (.int .i64 4)).setCell ⟨bz, 1, none⟩ (.slice a3 N3 cap3)).cell? ⟨b7, 1, none⟩ = some (.slice a M cap) ∧ ((w1.setCell ⟨bz, 0, none⟩ (.int .i64 4)).setCell ⟨bz, 1, none⟩ (.slice a3 N3 cap3)).cell? ⟨ba, r * 3, none⟩ = some (.int .u8 kd) ∧ ((w1.setCell ⟨bz, 0, none⟩ (.int .i64 4)).setCell ⟨bz, 1, none⟩ (.slice a3 N3 cap3)).cell? ⟨ba, r * 3 + 1, none⟩ = some (.int .i64 id) ∧ ((w1.setCell ⟨bz, 0, none⟩ (.int .i64 4)).setCell ⟨bz, 1, none⟩ (.slice a3 N3 cap3)).cell? ⟨ba, r * 3 + 2, none⟩ = some (.int .u64 ky) := ⟨(hHH.1.setCell (Or.inr hzw) _).setCell (Or.inr hzw) _, cell_set_ne (cell_set_ne hHH.2.1 (by omega)) (by omega), cell_set_ne (cell_set_ne hHH.2.2.1 (by omega)) (by omega), cell_set_ne (cell_set_ne hHH.2.2.2.1 (by omega)) (by omega), cell_set_ne (cell_set_ne hHH.2.2.2.2.1 (by omega)) (by omega), cell_set_ne (cell_set_ne hHH.2.2.2.2.2 (by omega)) (by omega)⟩
            refine hK.out _ _ ?_ (fun hHeld12 => ?_)
            · (first | assumption | (refine heldK_5 (by assumption) ?_ (by assumption) (by assumption) (by assumption) (by assumption) (by assumption) ; assumption) | (refine heldK_5 (Kept.of (below_ad _ _)) ?_ (by assumption) (by assumption) (by assumption) (by assumption) (by assumption) ; assumption) | (refine heldK_5 (Kept.of (below_a _ _)) ?_ (by assumption) (by assumption) (by assumption) (by assumption) (by assumption) ; assumption))
            clear hK K
            try simp only [Act.put, List.setIfInBounds_toArray, List.set_cons_zero, List.set_cons_succ]
            refine takeH (i := 13) (v := ?v13_15) rfl (by kernel_rfl) (fun _ _ _ h => h) (by rfl) ?hy13_15 (by assumption) ?rest13_15
            case hy13_15 => (intro w hSw; (try dsimp only at hSw); go_simp; try with_reducible rfl)
            try simp only [Act.put, List.setIfInBounds_toArray, List.set_cons_zero, List.set_cons_succ]
            refine wpAnyH_done (by kernel_rfl) ?_ _
            obtain ⟨-, d0, d1, -, -, -⟩ := hHeld12
            have f0 : ((w1.setCell ⟨bz, 0, none⟩ (.int .i64 4)).setCell ⟨bz, 1, none⟩ (.slice a3 N3 cap3)).frozen? ⟨b7, 0, none⟩ = false := by rw [World.frozen?_setCell, World.frozen?_setCell]; exact (HBO.out.box.kept HSF.out.kept HBO.out.off).f0
            have f1 : ((w1.setCell ⟨bz, 0, none⟩ (.int .i64 4)).setCell ⟨bz, 1, none⟩ (.slice a3 N3 cap3)).frozen? ⟨b7, 1, none⟩ = false := by rw [World.frozen?_setCell, World.frozen?_setCell]; exact (HBO.out.box.kept HSF.out.kept HBO.out.off).f1
            have v0 : ((w1.setCell ⟨bz, 0, none⟩ (.int .i64 4)).setCell ⟨bz, 1, none⟩ (.slice a3 N3 cap3)).cell? ⟨bz, 0, none⟩ = some (.int .i64 4) := cell_set_ne (cell_set_eq zc0) (by simp)
            have v1 : ((w1.setCell ⟨bz, 0, none⟩ (.int .i64 4)).setCell ⟨bz, 1, none⟩ (.slice a3 N3 cap3)).cell? ⟨bz, 1, none⟩ = some (.slice a3 N3 cap3) := cell_set_eq (cell_set_ne zc1 (by simp))
            have HF3 := Lib.hid (show Both wo p b7 4 (((((w1.setCell ⟨bz, 0, none⟩ (.int .i64 4)).setCell ⟨bz, 1, none⟩ (.slice a3 N3 cap3))).setCell ⟨b7, 0, none⟩ (.int .i64 4)).setCell ⟨b7, 1, none⟩ (.slice a3 N3 cap3)) a3 cap3 S3 F3 by have hh := HRF.out; rw [← HN3.out] at hh ⊢; exact HBO.out.acted2 HHF.out hh HSF.out HZ.out HzF.out hzw)
            clear hk12 hHH hS0 zc0 zc1 zf0 zf1 u0 u1 u2
            generalize ((w1.setCell ⟨bz, 0, none⟩ (.int .i64 4)).setCell ⟨bz, 1, none⟩ (.slice a3 N3 cap3)) = w2 at *
            go_wp2_with fail
            go_roundw
            case rel => exact ⟨j + 1, qd, a3, cap3, S3, F3, by omega, by go_num, hq8.out, by rw [IntWalk.wrap64_in _ (by have := hq8.out; omega)], HF3.out⟩
            case measure => simp [intOf]; omega
        · have HJ := Lib.hid (show j = 5 by omega)
          have l2 : decide ((j : Int) < 5) = false := decide_eq_false (by omega)
          have l2' : decide (j < 5) = false := decide_eq_false hlj
          have l2q : (j < 5) = False := eq_false hlj
          have zt : ((k : Int)).tmod 4 = ((k % 4 : Nat) : Int) := nat_tmod k 4
          have HWF := Lib.hid (small_wf (m := k % 4) (by omega))
          generalize k % 4 = r at zt HWF
          have HML := Lib.hid (show S.length ≤ 1000000 by have := HBO.out.inn.ids; omega)
          generalize hM : S.length = M at *
          have HM := Lib.hid hM
          clear hM hj hlj hq
          go_wp2_with fail
          obtain ⟨W4, rfl⟩ : ∃ W : World, W = wr := ⟨_, rfl⟩
          have HD := Lib.hid (HBO.out.later (Below.refl _ _).drew)
          have hS0 : Below W4.heap.size W4 W4.drew ∧ W4.drew.cell? ⟨b7, 1, none⟩ = some (.slice a M cap) ∧ W4.drew.cell? ⟨b7, 0, none⟩ = some (.int .i64 4) := ⟨Below.drew (Below.refl _ _), cell_dr c1, cell_dr c0⟩
          refine wp_region_held_drew (S := fun w' => Below W4.heap.size W4 w' ∧ w'.cell? ⟨b7, 1, none⟩ = some (.slice a M cap) ∧ w'.cell? ⟨b7, 0, none⟩ = some (.int .i64 4)) (by kernel_rfl) hS0 (fun hHeld => ?_)
          refine takeH (i := 0) (v := ?v0_16) rfl (by kernel_rfl) (fun _ _ _ h => h) (by rfl) ?hy0_16 (by assumption) ?rest0_16
          case hy0_16 => (intro w hSw; (try dsimp only at hSw); go_simp; try with_reducible rfl)
          try simp only [Act.put, List.setIfInBounds_toArray, List.set_cons_zero, List.set_cons_succ]
          refine takeH (i := 1) (v := ?v1_17) rfl (by kernel_rfl) (fun _ _ _ h => h) (by rfl) ?hy1_17 (by assumption) ?rest1_17
          case hy1_17 => (intro w hSw; (try dsimp only at hSw); go_simp; try with_reducible rfl)
          try simp only [Act.put, List.setIfInBounds_toArray, List.set_cons_zero, List.set_cons_succ]
          refine takeH (i := 2) (v := ?v2_18) rfl (by kernel_rfl) (fun _ _ _ h => h) (by rfl) ?hy2_18 (by assumption) ?rest2_18
          case hy2_18 => (intro w hSw; (try dsimp only at hSw); go_simp; try with_reducible rfl)
          try simp only [Act.put, List.setIfInBounds_toArray, List.set_cons_zero, List.set_cons_succ]
          refine takeH (i := 3) (v := ?v3_19) rfl (by kernel_rfl) (fun _ _ _ h => h) (by rfl) ?hy3_19 (by assumption) ?rest3_19
          case hy3_19 => (intro w hSw; (try dsimp only at hSw); go_simp; try with_reducible rfl)
          try simp only [Act.put, List.setIfInBounds_toArray, List.set_cons_zero, List.set_cons_succ]
          refine wpAnyH_ready (rs := [4]) (by kernel_rfl) (by simp) ?_
          refine consH rfl (fun K hK => ?_) (AllReadyH.nil)
          go_simp
          have A5 := same_any a cap (r : Int) _ HD.out.inn HD.out.recs.tail HWF.out
          rw [HM.out] at A5
          refine A5.mono ?_
          rintro e w1 ⟨rfl, hb1⟩
          have HD1 := Lib.hid (HD.out.later hb1)
          clear A5
          go_wp2_with fail
          refine hK.out _ _ ?_ (fun hHeld4 => ?_)
          · (first | assumption | (refine held_2 (by assumption) ?_; assumption) | (refine held_2 (below_ad _ _) ?_; assumption) | (refine held_2 (below_a _ _) ?_; assumption))
          clear hK K
          try simp only [Act.put, List.setIfInBounds_toArray, List.set_cons_zero, List.set_cons_succ]
          refine takeH (i := 5) (v := ?v5_20) rfl (by kernel_rfl) (fun _ _ _ h => h) (by rfl) ?hy5_20 (by assumption) ?rest5_20
          case hy5_20 => (intro w hSw; (try dsimp only at hSw); go_simp; try with_reducible rfl)
          try simp only [Act.put, List.setIfInBounds_toArray, List.set_cons_zero, List.set_cons_succ]
          refine takeH (i := 6) (v := ?v6_21) rfl (by kernel_rfl) (fun _ _ _ h => h) (by rfl) ?hy6_21 (by assumption) ?rest6_21
          case hy6_21 => (intro w hSw; (try dsimp only at hSw); go_simp; try with_reducible rfl)
          try simp only [Act.put, List.setIfInBounds_toArray, List.set_cons_zero, List.set_cons_succ]
          refine takeH (i := 7) (v := ?v7_22) rfl (by kernel_rfl) (fun _ _ _ h => h) (by rfl) ?hy7_22 (by assumption) ?rest7_22
          case hy7_22 => (intro w hSw; (try dsimp only at hSw); go_simp; try with_reducible rfl)
          try simp only [Act.put, List.setIfInBounds_toArray, List.set_cons_zero, List.set_cons_succ]
          refine takeH (i := 9) (v := ?v9_23) rfl (by kernel_rfl) (fun _ _ _ h => h) (by rfl) ?hy9_23 (by assumption) ?rest9_23
          case hy9_23 => (intro w hSw; (try dsimp only at hSw); go_simp; try with_reducible rfl)
          try simp only [Act.put, List.setIfInBounds_toArray, List.set_cons_zero, List.set_cons_succ]
          refine takeH (i := 10) (v := ?v10_24) rfl (by kernel_rfl) (fun _ _ _ h => h) (by rfl) ?hy10_24 (by assumption) ?rest10_24
          case hy10_24 => (intro w hSw; (try dsimp only at hSw); go_simp; try with_reducible rfl)
          try simp only [Act.put, List.setIfInBounds_toArray, List.set_cons_zero, List.set_cons_succ]
          refine wpAnyH_ready (rs := [8]) (by kernel_rfl) (by simp) ?_
          refine consH rfl (fun K hK => ?_) (AllReadyH.nil)
          go_simp
          refine (All_at _ HD1.out.inn).mono ?_
          rintro e w2 ⟨v2, rfl, hr2, hb2⟩
          have HR2 := Lib.hid hr2.items
          have HD2 := Lib.hid (HD1.out.later hb2)
          clear hr2
          go_wp2_with fail
          refine hK.out _ _ ?_ (fun hHeld8 => ?_)
          · (first | assumption | (refine held_2 (by assumption) ?_; assumption) | (refine held_2 (below_ad _ _) ?_; assumption) | (refine held_2 (below_a _ _) ?_; assumption))
          clear hK K
          try simp only [Act.put, List.setIfInBounds_toArray, List.set_cons_zero, List.set_cons_succ]
          refine wpAnyH_ready (rs := [11]) (by kernel_rfl) (by simp) ?_
          refine consH rfl (fun K hK => ?_) (AllReadyH.nil)
          go_simp
          have A5 := Same_any v2 _ S S _ HR2.out (recs_items HD2.out.recs.recs) (by rw [HM.out]; exact HML.out) (by rw [HM.out]; exact HML.out)
          rw [HM.out] at A5
          refine A5.mono ?_
          rintro e w3 ⟨rfl, hg3⟩
          rw [sameB_true rfl]
          have hb3 := hg3.below
          have HD3 := Lib.hid (HD2.out.later hb3)
          clear A5
          go_wp2_with fail
          refine hK.out _ _ ?_ (fun hHeld11 => ?_)
          · (first | assumption | (refine held_2 (by assumption) ?_; assumption) | (refine held_2 (below_ad _ _) ?_; assumption) | (refine held_2 (below_a _ _) ?_; assumption))
          clear hK K
          try simp only [Act.put, List.setIfInBounds_toArray, List.set_cons_zero, List.set_cons_succ]
          refine takeH (i := 12) (v := ?v12_25) rfl (by kernel_rfl) (fun _ _ _ h => h) (by rfl) ?hy12_25 (by assumption) ?rest12_25
          case hy12_25 => (intro w hSw; (try dsimp only at hSw); go_simp; try with_reducible rfl)
          try simp only [Act.put, List.setIfInBounds_toArray, List.set_cons_zero, List.set_cons_succ]
          refine takeH (i := 13) (v := ?v13_26) rfl (by kernel_rfl) (fun _ _ _ h => h) (by rfl) ?hy13_26 (by assumption) ?rest13_26
          case hy13_26 => (intro w hSw; (try dsimp only at hSw); go_simp; try with_reducible rfl)
          try simp only [Act.put, List.setIfInBounds_toArray, List.set_cons_zero, List.set_cons_succ]
          refine wpAnyH_done (by kernel_rfl) ?_ _
          skip
          have HEND := Lib.hid (Below.step HBR.out HD3.out.bel)
          clear c0 c1
          go_wp2_with fail
          go_roundw
          case rel => exact ⟨k + 1, by omega, by go_num, HEND.out⟩
          case measure => simp [intOf]; omega
    · have HJ := Lib.hid (show k = 32768 by omega)
      have l2 : decide ((k : Int) < 32768) = false := decide_eq_false (by omega)
      have l2' : decide (k < 32768) = false := decide_eq_false hlt
      have l2q : (k < 32768) = False := eq_false hlt
      clear hk hlt
      go_wp2_with fail
      obtain ⟨W1, hW1⟩ : ∃ W, W = wo.alloc (.cells #[.int .i64 (-1), .int .i64 0, .int .i64 1, .int .i64 131072, .int .i64 131073, .int .i64 4611686018427387904] 3) := ⟨_, rfl⟩
      rw [← hW1]
      have HNC := Lib.hid (show ∀ j v, limsV[j]? = some v → W1.cell? ⟨wo.heap.size, j, none⟩ = some v from fun j v h => by rw [hW1]; exact cell_nw _ _ _ j v h)
      have HB1 := Lib.hid (show Below W0.heap.size W0 W1 by rw [hW1]; exact Below.step HBR.out (below_a _ _))
      clear hW1
      generalize wo.heap.size = bn at HNC ⊢
      go_loopw [85] (fun i wr => ∃ k : Nat, k ≤ 6 ∧ i = .int .i64 k ∧ Below W1.heap.size W1 wr) (fun i _ => 6 - (intOf i).toNat)
      case atStart => exact ⟨0, Nat.zero_le _, rfl, Below.refl _ _⟩
      case round =>
        obtain ⟨k2, hk, rfl, hbr⟩ := hrel
        have HBR2 := Lib.hid hbr
        clear hbr
        obtain ⟨wz, rfl⟩ : ∃ wz : World, wz = wr := ⟨_, rfl⟩
        by_cases hlt : k2 < 6
        · obtain ⟨n, hc, hwf⟩ := lims_at HNC.out hlt
          replace hc := cell_later HBR2.out hc
          have hk0 : (0 : Int) ≤ (k2 : Int) := by omega
          have hk1 : (k2 : Int) < 6 := by omega
          have b1 := wf_i64 hwf
          have HWF := Lib.hid hwf
          have AR := Lib.hid fun W => rRight_any n W
          clear hwf
          by_cases hn : 1 ≤ n ∧ n ≤ 131072
          · rw [decide_eq_true hn] at AR
            have A1 := Lib.hid (New_in n wz hn.1 hn.2)
            have hwr : IntKind.i64.wrap (n - 1) = n - 1 := IntWalk.i64_in _ (by omega)
            have hwr' : wrap64 (n - 1) = n - 1 := IntWalk.wrap64_in _ (by omega)
            have P1 := Lib.hid (none_out (n := n) (S := []) (id := n - 1) (has_true (by omega) (by omega)) rfl)
            have P2 := Lib.hid (bad_out (n := n) (S := [(n - 1, 18446744073709551615)]) (id := n) (decide_eq_false (by omega)))
            have HW1 := Lib.hid (show (Lit.int .i64 (n - 1)).wf = true by
              simp only [Lit.wf, IntKind.min, IntKind.max, IntKind.bits, IntKind.signed]
              simp
              omega)
            have hn1 := hn.1
            have hn2 := hn.2
            clear hn
            go_wp2_with fail
            refine A1.out.mono ?_
            rintro e w2 ⟨rfl, hh2, hb2⟩
            have HB2 := Lib.hid (Below.step HBR2.out hb2)
            have HH2 := Lib.hid hh2
            have HL2 := Lib.hid (show W1.heap.size ≤ wz.heap.size from HBR2.out.size)
            clear hh2 hb2
            go_wp2_with fail
            refine (AR.out w2).mono ?_
            rintro e w3 ⟨rfl, rfl⟩
            go_wp2_with fail
            refine (Put_at (n - 1) 18446744073709551615 w2 HH2.out HW1.out (by decide)).mono ?_
            rintro e w4 ⟨rfl, hA4⟩
            rw [P1.out.2.2.2.2.2.1]
            rw [P1.out.2.2.2.2.2.2.1] at hA4
            obtain ⟨F4, h4, s4⟩ := hA4.split
            have HH4 := Lib.hid (show HeapIn w4 _ F4 n [(n - 1, 18446744073709551615)] from h4)
            obtain ⟨q4, o4⟩ := s4.below (B := W1.heap.size) (fun b hb => by have := HL2.out; simp at hb; omega) HB2.out.size
            have HB4 := Lib.hid (HB2.out.trans q4)
            have HO4 := Lib.hid o4
            clear hA4 h4 s4 q4 o4
            go_wp2_with fail
            refine (Put_at n 0 w4 HH4.out HWF.out (by decide)).mono ?_
            rintro e w5 ⟨rfl, hA5⟩
            rw [P2.out.2.2.2.2.2.1]
            rw [P2.out.2.2.2.2.2.2.1] at hA5
            obtain ⟨F5, h5, s5⟩ := hA5.split
            obtain ⟨q5, o5⟩ := s5.below (B := W1.heap.size) HO4.out HB4.out.size
            have HB5 := Lib.hid (HB4.out.trans q5)
            have HH5 := Lib.hid h5
            clear hA5 h5 s5 q5 o5
            go_wp2_with fail
            refine (LenH_at w5 HH5.out).mono ?_
            rintro e w6 ⟨rfl, rfl⟩
            rw [show (([(n - 1, 18446744073709551615)] : Items).length : Int) = 1 from rfl]
            go_wp2_with fail
            go_roundw
            case rel => exact ⟨k2 + 1, by omega, by go_num, HB5.out⟩
            case measure => simp [intOf]; omega
          · rw [decide_eq_false hn] at AR
            have A1 := Lib.hid (New_bad n wz hn)
            clear hn
            go_wp2_with fail
            refine A1.out.mono ?_
            rintro e w2 ⟨rfl, rfl⟩
            go_wp2_with fail
            refine (AR.out _).mono ?_
            rintro e w3 ⟨rfl, rfl⟩
            go_wp2_with fail
            go_roundw
            case rel => exact ⟨k2 + 1, by omega, by go_num, HBR2.out⟩
            case measure => simp [intOf]; omega
        · have HK := Lib.hid (show k2 = 6 by omega)
          have l3 : decide ((k2 : Int) < 6) = false := decide_eq_false (by omega)
          have l3' : decide (k2 < 6) = false := decide_eq_false hlt
          have l3q : (k2 < 6) = False := eq_false hlt
          clear hk hlt
          go_wp2_with fail
          obtain ⟨W2, hW2⟩ : ∃ W, W = (wz.alloc (.cells #[.slice none 0 0, .map none, .int .i64 0] 68)).alloc (.cells #[.pointer none, .pointer (some ⟨wz.heap.size, 0, none⟩)] 24) := ⟨_, rfl⟩
          rw [← hW2]
          have HCL := Lib.hid (show ∀ r, r < 2 → ∃ q, W2.cell? ⟨wz.heap.size + 1, r, none⟩ = some (.pointer q) ∧ NoHeap W2 q from fun r hr => by
            rw [hW2]
            match r, hr with
            | 0, _ => exact ⟨none, cell_nwE (by simp) _ _ 0 _ rfl, Or.inl rfl⟩
            | 1, _ => exact ⟨_, cell_nwE (by simp) _ _ 1 _ rfl, Or.inr ⟨_, rfl, cell_al _ (cell_nw _ _ _ 0 _ rfl), cell_al _ (cell_nw _ _ _ 1 _ rfl), cell_al _ (cell_nw _ _ _ 2 _ rfl)⟩⟩)
          have HB2 := Lib.hid (show Below w.heap.size w W2 from Below.step (Below.step (Below.step HB0.out HB1.out) HBR2.out) (by rw [hW2]; exact Below.allocS (Below.allocS (Below.refl _ _) _) _))
          clear hW2
          generalize wz.heap.size + 1 = bl at HCL ⊢
          go_loopw [130] (fun i wr => ∃ k : Nat, k ≤ 2 ∧ i = .int .i64 k ∧ Below W2.heap.size W2 wr) (fun i _ => 2 - (intOf i).toNat)
          case atStart => exact ⟨0, Nat.zero_le _, rfl, Below.refl _ _⟩
          case round =>
            obtain ⟨k3, hk, rfl, hbr⟩ := hrel
            have HBR3 := Lib.hid hbr
            clear hbr
            obtain ⟨wy, rfl⟩ : ∃ wy : World, wy = wr := ⟨_, rfl⟩
            by_cases hlt : k3 < 2
            · obtain ⟨q, hc, hq⟩ := HCL.out k3 hlt
              replace hc := cell_later HBR3.out hc
              have HQ := Lib.hid hq
              have hk0 : (0 : Int) ≤ (k3 : Int) := by omega
              have hk1 : (k3 : Int) < 2 := by omega
              clear hq
              go_wp2_with fail
              refine (Out_none 0 _ (HQ.out.later HBR3.out)).mono ?_
              rintro e w2 ⟨rfl, rfl⟩
              go_wp2_with fail
              refine (Least_none _ (HQ.out.later HBR3.out)).mono ?_
              rintro e w3 ⟨rfl, hb3⟩
              have HB3 := Lib.hid (Below.step (Below.step HBR3.out hb3) (below_a w3 (.cells #[.int .i64 0, .int .u64 0] 28)))
              clear hb3
              go_wp2_with fail
              refine (Pop_none _ (HQ.out.later HB3.out)).mono ?_
              rintro e w4 ⟨rfl, hb4⟩
              have HB4 := Lib.hid (Below.step (Below.step HB3.out hb4) (below_a w4 (.cells #[.int .i64 0, .int .u64 0] 28)))
              clear hb4
              go_wp2_with fail
              refine (Key_none 0 _ (HQ.out.later HB4.out)).mono ?_
              rintro e w5 ⟨rfl, rfl⟩
              go_wp2_with fail
              refine (Put_none 0 0 _ (HQ.out.later HB4.out)).mono ?_
              rintro e w6 ⟨rfl, rfl⟩
              go_wp2_with fail
              refine (Set_none 0 0 _ (HQ.out.later HB4.out)).mono ?_
              rintro e w7 ⟨rfl, rfl⟩
              go_wp2_with fail
              refine (Right_none _ (HQ.out.later HB4.out)).mono ?_
              rintro e w8 ⟨rfl, rfl⟩
              go_wp2_with fail
              refine (Len_none _ (HQ.out.later HB4.out)).mono ?_
              rintro e w9 ⟨rfl, rfl⟩
              go_wp2_with fail
              refine (All_none _ (HQ.out.later HB4.out)).mono ?_
              rintro e wa ⟨rfl, rfl⟩
              go_wp2_with fail
              refine (Below_none 1 0 _ (HQ.out.later HB4.out)).mono ?_
              rintro e wb ⟨rfl, hb5⟩
              have HB5 := Lib.hid (Below.step HB4.out hb5)
              clear hb5
              go_wp2_with fail
              go_roundw
              case rel => exact ⟨k3 + 1, by omega, by go_num, HB5.out⟩
              case measure => simp [intOf]; omega
            · have HK3 := Lib.hid (show k3 = 2 by omega)
              have l3 : decide ((k3 : Int) < 2) = false := decide_eq_false (by omega)
              have l3' : decide (k3 < 2) = false := decide_eq_false hlt
              have l3q : (k3 < 2) = False := eq_false hlt
              clear hk hlt
              go_wp2_with fail
              refine (AW.out _).mono ?_
              rintro e w9 ⟨rfl, hb9⟩
              have HB9 := Lib.hid (Below.step (Below.step HB2.out HBR3.out) hb9)
              clear hb9
              go_wp2_with fail
              go_ret
              exact ⟨rfl, HB9.out⟩
end Go.Proofs.Ytpbaegdmjmickaa
