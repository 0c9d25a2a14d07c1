/-
  QueueSmall: all lists of four acts of ten; numbers at their limits; queues that are none. A closed statement.
-/
import Derived.Test.YtekjakmeopolhaaQueueHn
namespace Go.Proofs.Ytekjakmeopolhaa
open Go.RowKit Go.Maps Go.IntWalk Go.Lib
set_option linter.unusedVariables false
set_option linter.unusedSimpArgs false
def actsV : Array Value := #[.int .u8 0, .int .i64 0, .int .u64 9, .int .u32 0, .int .u32 1, .int .i64 0, .int .u8 0, .int .i64 1, .int .u64 9, .int .u32 1, .int .u32 2, .int .i64 0, .int .u8 0, .int .i64 2, .int .u64 18446744073709551615, .int .u32 0, .int .u32 3, .int .i64 0, .int .u8 3, .int .i64 0, .int .u64 0, .int .u32 0, .int .u32 0, .int .i64 1, .int .u8 3, .int .i64 1, .int .u64 0, .int .u32 0, .int .u32 0, .int .i64 2, .int .u8 5, .int .i64 1, .int .u64 0, .int .u32 0, .int .u32 0, .int .i64 65536, .int .u8 2, .int .i64 0, .int .u64 0, .int .u32 0, .int .u32 0, .int .i64 0, .int .u8 2, .int .i64 1, .int .u64 0, .int .u32 0, .int .u32 0, .int .i64 0, .int .u8 6, .int .i64 0, .int .u64 100, .int .u32 0, .int .u32 0, .int .i64 0, .int .u8 3, .int .i64 2, .int .u64 0, .int .u32 0, .int .u32 0, .int .i64 4294967296]
theorem acts_at {w : World} {b : Nat} (h : ∀ j v, actsV[j]? = some v → w.cell? ⟨b, j, none⟩ = some v) {r : Nat} (hr : r < 10) :
    ∃ kd id v x g nn, w.cell? ⟨b, r * 6, none⟩ = some (.int .u8 kd) ∧ w.cell? ⟨b, r * 6 + 1, none⟩ = some (.int .i64 id) ∧ w.cell? ⟨b, r * 6 + 2, none⟩ = some (.int .u64 v) ∧ w.cell? ⟨b, r * 6 + 3, none⟩ = some (.int .u32 x) ∧ w.cell? ⟨b, r * 6 + 4, none⟩ = some (.int .u32 g) ∧ w.cell? ⟨b, r * 6 + 5, none⟩ = some (.int .i64 nn) ∧ 0 ≤ kd ∧ (Lit.int .i64 id).wf = true ∧ Ch.Fits v x g ∧ -9223372036854775808 ≤ nn ∧ nn ≤ 9223372036854775807 := by
  match r, hr with
  | 0, _ => exact ⟨0, 0, 9, 0, 1, 0, h 0 _ rfl, h 1 _ rfl, h 2 _ rfl, h 3 _ rfl, h 4 _ rfl, h 5 _ rfl, by decide, by decide, by unfold Ch.Fits; decide, by decide, by decide⟩
  | 1, _ => exact ⟨0, 1, 9, 1, 2, 0, h 6 _ rfl, h 7 _ rfl, h 8 _ rfl, h 9 _ rfl, h 10 _ rfl, h 11 _ rfl, by decide, by decide, by unfold Ch.Fits; decide, by decide, by decide⟩
  | 2, _ => exact ⟨0, 2, 18446744073709551615, 0, 3, 0, h 12 _ rfl, h 13 _ rfl, h 14 _ rfl, h 15 _ rfl, h 16 _ rfl, h 17 _ rfl, by decide, by decide, by unfold Ch.Fits; decide, by decide, by decide⟩
  | 3, _ => exact ⟨3, 0, 0, 0, 0, 1, h 18 _ rfl, h 19 _ rfl, h 20 _ rfl, h 21 _ rfl, h 22 _ rfl, h 23 _ rfl, by decide, by decide, by unfold Ch.Fits; decide, by decide, by decide⟩
  | 4, _ => exact ⟨3, 1, 0, 0, 0, 2, h 24 _ rfl, h 25 _ rfl, h 26 _ rfl, h 27 _ rfl, h 28 _ rfl, h 29 _ rfl, by decide, by decide, by unfold Ch.Fits; decide, by decide, by decide⟩
  | 5, _ => exact ⟨5, 1, 0, 0, 0, 65536, h 30 _ rfl, h 31 _ rfl, h 32 _ rfl, h 33 _ rfl, h 34 _ rfl, h 35 _ rfl, by decide, by decide, by unfold Ch.Fits; decide, by decide, by decide⟩
  | 6, _ => exact ⟨2, 0, 0, 0, 0, 0, h 36 _ rfl, h 37 _ rfl, h 38 _ rfl, h 39 _ rfl, h 40 _ rfl, h 41 _ rfl, by decide, by decide, by unfold Ch.Fits; decide, by decide, by decide⟩
  | 7, _ => exact ⟨2, 1, 0, 0, 0, 0, h 42 _ rfl, h 43 _ rfl, h 44 _ rfl, h 45 _ rfl, h 46 _ rfl, h 47 _ rfl, by decide, by decide, by unfold Ch.Fits; decide, by decide, by decide⟩
  | 8, _ => exact ⟨6, 0, 100, 0, 0, 0, h 48 _ rfl, h 49 _ rfl, h 50 _ rfl, h 51 _ rfl, h 52 _ rfl, h 53 _ rfl, by decide, by decide, by unfold Ch.Fits; decide, by decide, by decide⟩
  | 9, _ => exact ⟨3, 2, 0, 0, 0, 4294967296, h 54 _ rfl, h 55 _ rfl, h 56 _ rfl, h 57 _ rfl, h 58 _ rfl, h 59 _ rfl, by decide, by decide, by unfold Ch.Fits; decide, by decide, by decide⟩
theorem nat_tmod (m k : Nat) : ((m : Int)).tmod k = ((m % k : Nat) : Int) := by rw [Int.tmod_eq_emod_of_nonneg (by omega)]; rfl
theorem nat_tdiv (m k : Nat) : ((m : Int)).tdiv k = ((m / k : Nat) : Int) := by rw [Int.tdiv_eq_ediv_of_nonneg (by omega)]; rfl
theorem small_wf {m : Nat} (h : m < 1000) : (Lit.int .i64 (m : Int)).wf = true := by
  simp only [Lit.wf, IntKind.min, IntKind.max, IntKind.bits, IntKind.signed]
  simp
  omega
/-- behind act, what it returns laid into a new variable, and stored -/
theorem Both.acted2 {w wr w1 : World} {p b bz cap cap' : Nat} {n fl fl' : Int} {a a' : Option Addr} {S S' : Mems} {F F' : List Nat} (h : Both w p b n wr a cap S fl F) (hH : QIn w1 p F' n S' fl') (hR : HeldR encMs F' w1 (.slice a' S'.length cap') S') (hS : Step F wr F' w1)
    (hz : RBox w1 bz 0 none 0 0 0) (hzF : bz ∉ F') (hzw : wr.heap.size ≤ bz) :
    Both w p b n ((((((w1.setCell ⟨bz, 0, none⟩ (.int .i64 n)).setCell ⟨bz, 1, none⟩ (.slice a' S'.length cap')).setCell ⟨bz, 2, none⟩ (.int .u64 fl')).setCell ⟨b, 0, none⟩ (.int .i64 n)).setCell ⟨b, 1, none⟩ (.slice a' S'.length cap')).setCell ⟨b, 2, none⟩ (.int .u64 fl')) a' cap' S' fl' F' := by
  have hlb : b < wr.heap.size := lt_of_cell h.box.c0
  have hn : b ∉ F' := hS.off h.off hlb
  have hx := h.box.kept hS.kept h.off
  have KF : Kept [bz, b] w1 ((((((w1.setCell ⟨bz, 0, none⟩ (.int .i64 n)).setCell ⟨bz, 1, none⟩ (.slice a' S'.length cap')).setCell ⟨bz, 2, none⟩ (.int .u64 fl')).setCell ⟨b, 0, none⟩ (.int .i64 n)).setCell ⟨b, 1, none⟩ (.slice a' S'.length cap')).setCell ⟨b, 2, none⟩ (.int .u64 fl')) := ((((((Kept.refl _ _).setCell (Or.inl (by simp)) _).setCell (Or.inl (by simp)) _).setCell (Or.inl (by simp)) _).setCell (Or.inl (by simp)) _).setCell (Or.inl (by simp)) _).setCell (Or.inl (by simp)) _
  have KZ : Kept [bz] w1 (((w1.setCell ⟨bz, 0, none⟩ (.int .i64 n)).setCell ⟨bz, 1, none⟩ (.slice a' S'.length cap')).setCell ⟨bz, 2, none⟩ (.int .u64 fl')) := (((Kept.refl _ _).setCell (Or.inl (by simp)) _).setCell (Or.inl (by simp)) _).setCell (Or.inl (by simp)) _
  have hs := hS.below h.own h.bel.size
  refine ⟨hH.kept KF (fun x hxF m => ?_), (hx.kept KZ (by simp; omega)).set, hn, (((hR.offBox hz).offBox hx).kept (KF.mono (fun x hx => by simp at hx ⊢; rcases hx with rfl | rfl <;> simp))).subM (fun x hx => by simp at hx ⊢; rcases hx with rfl | hx <;> simp [*]), hs.2, h.new, ?_⟩
  · simp at m
    rcases m with rfl | rfl
    · exact hzF hxF
    · exact hn hxF
  · exact Kept.stepB (h.bel.trans hs.1) (Nat.le_refl _) KF (fun x hx => by simp at hx; have := h.new; have := h.bel.size; omega)
def limsV : Array Value := #[.int .i64 (-1), .int .i64 0, .int .i64 1, .int .i64 131072, .int .i64 131073]
theorem lims_at {w : World} {b : Nat} (h : ∀ j v, limsV[j]? = some v → w.cell? ⟨b, j, none⟩ = some v) {r : Nat} (hr : r < 5) : ∃ n, w.cell? ⟨b, r, none⟩ = some (.int .i64 n) ∧ (Lit.int .i64 n).wf = true := by
  match r, hr with
  | 0, _ => exact ⟨_, h 0 _ rfl, by decide⟩
  | 1, _ => exact ⟨_, h 1 _ rfl, by decide⟩
  | 2, _ => exact ⟨_, h 2 _ rfl, by decide⟩
  | 3, _ => exact ⟨_, h 3 _ rfl, by decide⟩
  | 4, _ => exact ⟨_, h 4 _ rfl, by decide⟩
theorem ent_no' {n : Int} {M : Mems} {id : Int} {x : Ent} {c fl : Int} (e : enterC n M id x = c) (hc : c ≠ 0) : enterC n M id x = c ∧ enterM n M id x = M ∧ enterF n M id x fl = fl := ⟨e, (enter_no e hc).1, (enter_no e hc).2 fl⟩
set_option maxRecDepth 100000 in
set_option maxHeartbeats 4000000 in
theorem QueueSmall_true (w : World) : Calls Try.prog 9 #[] w fun e w' => e = .returned (.bool true) ∧ Below w.heap.size w w' := by
  have AW := Lib.hid fun W => awake_any W
  go_enter Try.func9, Try.ntmps9
  go_wp2_with fail
  obtain ⟨W0, hW0⟩ : ∃ W, W = w.alloc (.cells #[.int .u8 0, .int .i64 0, .int .u64 9, .int .u32 0, .int .u32 1, .int .i64 0, .int .u8 0, .int .i64 1, .int .u64 9, .int .u32 1, .int .u32 2, .int .i64 0, .int .u8 0, .int .i64 2, .int .u64 18446744073709551615, .int .u32 0, .int .u32 3, .int .i64 0, .int .u8 3, .int .i64 0, .int .u64 0, .int .u32 0, .int .u32 0, .int .i64 1, .int .u8 3, .int .i64 1, .int .u64 0, .int .u32 0, .int .u32 0, .int .i64 2, .int .u8 5, .int .i64 1, .int .u64 0, .int .u32 0, .int .u32 0, .int .i64 65536, .int .u8 2, .int .i64 0, .int .u64 0, .int .u32 0, .int .u32 0, .int .i64 0, .int .u8 2, .int .i64 1, .int .u64 0, .int .u32 0, .int .u32 0, .int .i64 0, .int .u8 6, .int .i64 0, .int .u64 100, .int .u32 0, .int .u32 0, .int .i64 0, .int .u8 3, .int .i64 2, .int .u64 0, .int .u32 0, .int .u32 0, .int .i64 4294967296] 60) := ⟨_, rfl⟩
  rw [← hW0]
  have HAC := Lib.hid (show ∀ j v, actsV[j]? = some v → W0.cell? ⟨w.heap.size, j, none⟩ = some v from fun j v h => by rw [hW0]; exact cell_nw _ _ _ j v h)
  have HB0 := Lib.hid (show Below w.heap.size w W0 by rw [hW0]; exact below_a _ _)
  have HLT := Lib.hid (show w.heap.size < W0.heap.size by rw [hW0]; simp)
  clear hW0
  generalize hba : w.heap.size = ba at HAC HLT ⊢
  have HBA := Lib.hid hba
  clear hba
  go_loopw [37] (fun i wr => ∃ k : Nat, k ≤ 10000 ∧ i = .int .i64 k ∧ Below W0.heap.size W0 wr) (fun i _ => 10000 - (intOf i).toNat)
  case atStart => exact ⟨0, Nat.zero_le _, rfl, Below.refl _ _⟩
  case round =>
    obtain ⟨k, hk, rfl, hbr⟩ := hrel
    obtain ⟨wo, rfl⟩ : ∃ wo : World, wo = wr := ⟨_, rfl⟩
    have HBR := Lib.hid hbr
    clear hbr
    by_cases hlt : k < 10000
    · have l1 : decide ((k : Int) < 10000) = true := decide_eq_true (by omega)
      have l1' : decide (k < 10000) = true := decide_eq_true (by omega)
      have hk0 : (0 : Int) ≤ (k : Int) := by omega
      go_wp2_with fail
      refine (New_at 3 wo (by decide) (by decide)).mono ?_
      rintro e w1 ⟨p, F1, rfl, hh1, ho1, hb1⟩
      have HB1 := Lib.hid hb1
      have HH1 := Lib.hid hh1
      have HO1 := Lib.hid ho1
      clear hb1 hh1 ho1
      go_wp2_with fail
      obtain ⟨W1, hW1⟩ : ∃ W, W = w1.alloc (.cells #[.int .i64 3, .slice none 0 0, .int .u64 0] 68) := ⟨_, rfl⟩
      rw [← hW1]
      have hBoth : Both wo p w1.heap.size 3 W1 none 0 [] 0 F1 := by
        rw [hW1]
        exact ⟨HH1.out.below (below_a _ _), RBox.new _ _ _ _ _ _ _, fun m => by have := HH1.out.lt _ m; omega, ⟨none, 0, rfl, Nat.le_refl _, by omega, fun _ => rfl, Or.inl rfl⟩, HO1.out, HB1.out.size, Below.step HB1.out (below_a _ _)⟩
      have HBB := Lib.hid hBoth
      have HLW := Lib.hid (show ba < wo.heap.size from Nat.lt_of_lt_of_le HLT.out HBR.out.size)
      clear hBoth hW1
      generalize w1.heap.size = b7 at *
      go_loopw [6, 7] (fun i m wt => ∃ (j q : Nat) (a : Option Addr) (cap : Nat) (S : Mems) (fl : Int) (F : List Nat), j ≤ 4 ∧ i = .int .i64 j ∧ q ≤ 10000 ∧ m = .int .i64 q ∧ Both wo p b7 3 wt a cap S fl F) (fun i _ _ => 4 - (intOf i).toNat)
      case atStart => exact ⟨0, k, _, _, _, _, _, Nat.zero_le _, rfl, hk, rfl, HBB.out⟩
      case round =>
        obtain ⟨j, q, a, cap, S, fl, F, hj, rfl, hq, rfl, hBo⟩ := hrel
        have HBO := Lib.hid hBo
        have c0 := hBo.box.c0
        have c1 := hBo.box.c1
        have c2 := hBo.box.c2
        clear hBo
        by_cases hlj : j < 4
        · have l2 : decide ((j : Int) < 4) = true := decide_eq_true (by omega)
          have l2' : decide (j < 4) = true := decide_eq_true (by omega)
          obtain ⟨kd, ni, v, xr, g, nn, u0, u1, u2, u3, u4, u5, hkd, hid, hfx, hnn0, hnn1⟩ := acts_at HAC.out (r := q % 10) (by omega)
          have zt : ((q : Int)).tmod 10 = ((q % 10 : Nat) : Int) := nat_tmod q 10
          have zd : ((q : Int)).tdiv 10 = ((q / 10 : Nat) : Int) := nat_tdiv q 10
          have hr8 : q % 10 < 10 := by omega
          have hq8 := Lib.hid (show q / 10 ≤ 10000 by omega)
          generalize q / 10 = qd at zd hq8
          generalize q % 10 = r at zt hr8 u0 u1 u2 u3 u4 u5
          have hr0 : (0 : Int) ≤ (r : Int) := by omega
          have hr1 : (r : Int) < 10 := by omega
          replace u0 := cell_later HBO.out.bel (cell_later HBR.out u0)
          replace u1 := cell_later HBO.out.bel (cell_later HBR.out u1)
          replace u2 := cell_later HBO.out.bel (cell_later HBR.out u2)
          replace u3 := cell_later HBO.out.bel (cell_later HBR.out u3)
          replace u4 := cell_later HBO.out.bel (cell_later HBR.out u4)
          replace u5 := cell_later HBO.out.bel (cell_later HBR.out u5)
          have HID := Lib.hid hid
          have HFX := Lib.hid hfx
          have HNN := Lib.hid (And.intro hnn0 hnn1)
          have HKD := Lib.hid hkd
          have hnb : b7 ∉ F := HBO.out.off
          have hna : ba ∉ F := fun m => by have := HBO.out.own _ m; have := HLW.out; omega
          generalize hM : S.length = M at *
          have HM := Lib.hid hM
          clear hid hfx hnn0 hnn1 hkd hM
          go_wp2_with fail
          obtain ⟨W4, rfl⟩ : ∃ W : World, W = wr := ⟨_, rfl⟩
          have lb7 : b7 < W4.heap.size := lt_of_cell c0
          have lba : ba < W4.heap.size := lt_of_cell u0
          have HLF := Lib.hid HBO.out.inn.lt
          have HNE := Lib.hid (show ba ≠ b7 by have h1 := HLW.out; have h2 := HBO.out.new; omega)
          have hS0 : Kept F W4 W4.drew ∧ W4.drew.cell? ⟨b7, 0, none⟩ = some (.int .i64 3) ∧ W4.drew.cell? ⟨b7, 1, none⟩ = some (.slice a M cap) ∧ W4.drew.cell? ⟨b7, 2, none⟩ = some (.int .u64 fl) ∧ W4.drew.cell? ⟨ba, r * 6, none⟩ = some (.int .u8 kd) ∧ W4.drew.cell? ⟨ba, r * 6 + 1, none⟩ = some (.int .i64 ni) ∧ W4.drew.cell? ⟨ba, r * 6 + 2, none⟩ = some (.int .u64 v) ∧ W4.drew.cell? ⟨ba, r * 6 + 3, none⟩ = some (.int .u32 xr) ∧ W4.drew.cell? ⟨ba, r * 6 + 4, none⟩ = some (.int .u32 g) ∧ W4.drew.cell? ⟨ba, r * 6 + 5, none⟩ = some (.int .i64 nn) := ⟨Kept.drew (Kept.refl _ _), cell_dr c0, cell_dr c1, cell_dr c2, cell_dr u0, cell_dr u1, cell_dr u2, cell_dr u3, cell_dr u4, cell_dr u5⟩
          refine wp_region_held_drew (S := fun w' => Kept F W4 w' ∧ w'.cell? ⟨b7, 0, none⟩ = some (.int .i64 3) ∧ w'.cell? ⟨b7, 1, none⟩ = some (.slice a M cap) ∧ w'.cell? ⟨b7, 2, none⟩ = some (.int .u64 fl) ∧ w'.cell? ⟨ba, r * 6, none⟩ = some (.int .u8 kd) ∧ w'.cell? ⟨ba, r * 6 + 1, none⟩ = some (.int .i64 ni) ∧ w'.cell? ⟨ba, r * 6 + 2, none⟩ = some (.int .u64 v) ∧ w'.cell? ⟨ba, r * 6 + 3, none⟩ = some (.int .u32 xr) ∧ w'.cell? ⟨ba, r * 6 + 4, none⟩ = some (.int .u32 g) ∧ w'.cell? ⟨ba, r * 6 + 5, none⟩ = some (.int .i64 nn)) (by kernel_rfl) hS0 (fun hHeld => ?_)
          refine takeH (i := 0) (v := ?v0_1) rfl (by kernel_rfl) (fun _ _ _ h => h) (by rfl) ?hy0_1 (by assumption) ?rest0_1
          case hy0_1 => (intro w hSw; (try dsimp only at hSw); go_simp; try with_reducible rfl)
          try simp only [Act.put, List.setIfInBounds_toArray, List.set_cons_zero, List.set_cons_succ]
          refine takeH (i := 1) (v := ?v1_2) rfl (by kernel_rfl) (fun _ _ _ h => h) (by rfl) ?hy1_2 (by assumption) ?rest1_2
          case hy1_2 => (intro w hSw; (try dsimp only at hSw); go_simp; try with_reducible rfl)
          try simp only [Act.put, List.setIfInBounds_toArray, List.set_cons_zero, List.set_cons_succ]
          refine takeH (i := 2) (v := ?v2_3) rfl (by kernel_rfl) (fun _ _ _ h => h) (by rfl) ?hy2_3 (by assumption) ?rest2_3
          case hy2_3 => (intro w hSw; (try dsimp only at hSw); go_simp; try with_reducible rfl)
          try simp only [Act.put, List.setIfInBounds_toArray, List.set_cons_zero, List.set_cons_succ]
          refine takeH (i := 3) (v := ?v3_4) rfl (by kernel_rfl) (fun _ _ _ h => h) (by rfl) ?hy3_4 (by assumption) ?rest3_4
          case hy3_4 => (intro w hSw; (try dsimp only at hSw); go_simp; try with_reducible rfl)
          try simp only [Act.put, List.setIfInBounds_toArray, List.set_cons_zero, List.set_cons_succ]
          refine takeH (i := 4) (v := ?v4_5) rfl (by kernel_rfl) (fun _ _ _ h => h) (by rfl) ?hy4_5 (by assumption) ?rest4_5
          case hy4_5 => (intro w hSw; (try dsimp only at hSw); go_simp; try with_reducible rfl)
          try simp only [Act.put, List.setIfInBounds_toArray, List.set_cons_zero, List.set_cons_succ]
          refine takeH (i := 5) (v := ?v5_6) rfl (by kernel_rfl) (fun _ _ _ h => h) (by rfl) ?hy5_6 (by assumption) ?rest5_6
          case hy5_6 => (intro w hSw; (try dsimp only at hSw); go_simp; try with_reducible rfl)
          try simp only [Act.put, List.setIfInBounds_toArray, List.set_cons_zero, List.set_cons_succ]
          refine takeH (i := 6) (v := ?v6_7) rfl (by kernel_rfl) (fun _ _ _ h => h) (by rfl) ?hy6_7 (by assumption) ?rest6_7
          case hy6_7 => (intro w hSw; (try dsimp only at hSw); go_simp; try with_reducible rfl)
          try simp only [Act.put, List.setIfInBounds_toArray, List.set_cons_zero, List.set_cons_succ]
          refine wpAnyH_ready (rs := [7, 11]) (by kernel_rfl) (by simp) ?_
          refine consH rfl (fun K hK => ?_) (consH rfl (fun K hK => ?_) (AllReadyH.nil))
          · skip
            go_simp
            have AC := qact_any a cap kd ni v xr g nn _ (HBO.out.inn.below (Below.refl W4.heap.size W4).drew) (HBO.out.recs.tail.later (Below.refl W4.heap.size W4).drew) trivial HKD.out HID.out HFX.out HNN.out
            rw [HM.out] at AC
            refine AC.mono ?_
            rintro e w3 ⟨a3, cap3, S3, fl3, F3, rfl, hH3, hR3, hS3⟩
            unfold rqV
            clear AC
            have HH3 := Lib.hid hH3
            have HR3 := Lib.hid hR3
            have HS3 := Lib.hid (show Step F W4 F3 w3 from (Step.of (Below.refl W4.heap.size W4).drew).trans hS3)
            have hkk3 : Kept F W4.drew w3 := hS3.kept
            clear hH3 hR3 hS3
            go_wp2_with fail
            refine hK.out _ _ ?_ (fun hHeld7 => ?_)
            · (first | assumption | (refine heldK_9 (by assumption) ?_ (by assumption) (by assumption) (by assumption) (by assumption) (by assumption) (by assumption) (by assumption) (by assumption) (by assumption) ; assumption) | (refine heldK_9 (Kept.of (below_ad _ _)) ?_ (by assumption) (by assumption) (by assumption) (by assumption) (by assumption) (by assumption) (by assumption) (by assumption) (by assumption) ; assumption) | (refine heldK_9 (Kept.of (below_a _ _)) ?_ (by assumption) (by assumption) (by assumption) (by assumption) (by assumption) (by assumption) (by assumption) (by assumption) (by assumption) ; assumption))
            clear hK K
            try simp only [Act.put, List.setIfInBounds_toArray, List.set_cons_zero, List.set_cons_succ]
            refine takeH (i := 8) (v := ?v8_8) rfl (by kernel_rfl) (fun _ _ _ h => h) (by rfl) ?hy8_8 (by assumption) ?rest8_8
            case hy8_8 => (intro w hSw; (try dsimp only at hSw); go_simp; try with_reducible rfl)
            try simp only [Act.put, List.setIfInBounds_toArray, List.set_cons_zero, List.set_cons_succ]
            refine takeH (i := 9) (v := ?v9_9) rfl (by kernel_rfl) (fun _ _ _ h => h) (by rfl) ?hy9_9 (by assumption) ?rest9_9
            case hy9_9 => (intro w hSw; (try dsimp only at hSw); go_simp; try with_reducible rfl)
            try simp only [Act.put, List.setIfInBounds_toArray, List.set_cons_zero, List.set_cons_succ]
            refine takeH (i := 10) (v := ?v10_10) rfl (by kernel_rfl) (fun _ _ _ h => h) (by rfl) ?hy10_10 (by assumption) ?rest10_10
            case hy10_10 => (intro w hSw; (try dsimp only at hSw); go_simp; try with_reducible rfl)
            try simp only [Act.put, List.setIfInBounds_toArray, List.set_cons_zero, List.set_cons_succ]
            refine wpAnyH_ready (rs := [11]) (by kernel_rfl) (by simp) ?_
            refine consH rfl (fun K hK => ?_) (AllReadyH.nil)
            go_simp
            obtain ⟨w1, hw1⟩ : ∃ X, X = w3.alloc (.cells #[.int .i64 0, .slice none 0 0, .int .u64 0] 68) := ⟨_, rfl⟩
            rw [← hw1]
            obtain ⟨bz, hbz⟩ : ∃ X, X = w3.heap.size := ⟨_, rfl⟩
            rw [← hbz]
            have hz : RBox w1 bz 0 none 0 0 0 := by rw [hw1, hbz]; exact RBox.new w3 0 0 _ none 0 0
            have hbw1 : Below w3.heap.size w3 w1 := by rw [hw1]; exact below_a w3 _
            have hzw : W4.heap.size ≤ bz := by rw [hbz]; exact HS3.out.kept.size
            have HzF := Lib.hid (show bz ∉ F3 from fun m => by have := HH3.out.lt _ m; omega)
            have HHF := Lib.hid (HH3.out.below hbw1)
            have HRF := Lib.hid (HR3.out.later hbw1)
            have HSF := Lib.hid (HS3.out.trans (Step.of hbw1))
            have HZ := Lib.hid hz
            have hkk : Kept F w3 w1 := Kept.of hbw1
            clear hw1 hbz
            refine hK.out _ _ ?_ (fun hHeld11 => ?_)
            · (first | assumption | (refine heldK_9 (by assumption) ?_ (by assumption) (by assumption) (by assumption) (by assumption) (by assumption) (by assumption) (by assumption) (by assumption) (by assumption) ; assumption) | (refine heldK_9 (Kept.of (below_ad _ _)) ?_ (by assumption) (by assumption) (by assumption) (by assumption) (by assumption) (by assumption) (by assumption) (by assumption) (by assumption) ; assumption) | (refine heldK_9 (Kept.of (below_a _ _)) ?_ (by assumption) (by assumption) (by assumption) (by assumption) (by assumption) (by assumption) (by assumption) (by assumption) (by assumption) ; assumption))
            clear hK K
            try simp only [Act.put, List.setIfInBounds_toArray, List.set_cons_zero, List.set_cons_succ]
            refine wpAnyH_ready (rs := [12]) (by kernel_rfl) (by simp) ?_
            refine consH rfl (fun K hK => ?_) (AllReadyH.nil)
            have hHH : Kept F W4 w1 ∧ w1.cell? ⟨b7, 0, none⟩ = some (.int .i64 3) ∧ w1.cell? ⟨b7, 1, none⟩ = some (.slice a M cap) ∧ w1.cell? ⟨b7, 2, none⟩ = some (.int .u64 fl) ∧ w1.cell? ⟨ba, r * 6, none⟩ = some (.int .u8 kd) ∧ w1.cell? ⟨ba, r * 6 + 1, none⟩ = some (.int .i64 ni) ∧ w1.cell? ⟨ba, r * 6 + 2, none⟩ = some (.int .u64 v) ∧ w1.cell? ⟨ba, r * 6 + 3, none⟩ = some (.int .u32 xr) ∧ w1.cell? ⟨ba, r * 6 + 4, none⟩ = some (.int .u32 g) ∧ w1.cell? ⟨ba, r * 6 + 5, none⟩ = some (.int .i64 nn) := by first | exact hHeld11 | exact hHeld7
            have zc0 := HZ.out.c0
            have zc1 := HZ.out.c1
            have zc2 := HZ.out.c2
            have zf0 := HZ.out.f0
            have zf1 := HZ.out.f1
            have zf2 := HZ.out.f2
            generalize hN3 : S3.length = N3 at *
            have HN3 := Lib.hid hN3
            clear hN3
            go_simp
            have hk12 : Kept F W4 (((w1.setCell ⟨bz, 0, none⟩ (.int .i64 3)).setCell ⟨bz, 1, none⟩ (.slice a3 N3 cap3)).setCell ⟨bz, 2, none⟩ (.int .u64 fl3)) ∧ (((w1.setCell ⟨bz, 0, none⟩ (.int .i64 3)).setCell ⟨bz, 1, none⟩ (.slice a3 N3 cap3)).setCell ⟨bz, 2, none⟩ (.int .u64 fl3)).cell? ⟨b7, 0, none⟩ = some (.int .i64 3) ∧ (((w1.setCell ⟨bz, 0, none⟩ (.int .i64 3)).setCell ⟨bz, 1, none⟩ (.slice a3 N3 cap3)).setCell ⟨bz, 2, none⟩ (.int .u64 fl3)).cell? ⟨b7, 1, none⟩ = some (.slice a M cap) ∧ (((w1.setCell ⟨bz, 0, none⟩ (.int .i64 3)).setCell ⟨bz, 1, none⟩ (.slice a3 N3 cap3)).setCell ⟨bz, 2, none⟩ (.int .u64 fl3)).cell? ⟨b7, 2, none⟩ = some (.int .u64 fl) ∧ (((w1.setCell ⟨bz, 0, none⟩ (.int .i64 3)).setCell ⟨bz, 1, none⟩ (.slice a3 N3 cap3)).setCell ⟨bz, 2, none⟩ (.int .u64 fl3)).cell? ⟨ba, r * 6, none⟩ = some (.int .u8 kd) ∧ (((w1.setCell ⟨bz, 0, none⟩ (.int .i64 3)).setCell ⟨bz, 1, none⟩ (.slice a3 N3 cap3)).setCell ⟨bz, 2, none⟩ (.int .u64 fl3)).cell? ⟨ba, r * 6 + 1, none⟩ = some (.int .i64 ni) ∧ (((w1.setCell ⟨bz, 0, none⟩ (.int .i64 3)).setCell ⟨bz, 1, none⟩ (.slice a3 N3 cap3)).setCell ⟨bz, 2, none⟩ (.int .u64 fl3)).cell? ⟨ba, r * 6 + 2, none⟩ = some (.int .u64 v) ∧ (((w1.setCell ⟨bz, 0, none⟩ (.int .i64 3)).setCell ⟨bz, 1, none⟩ (.slice a3 N3 cap3)).setCell ⟨bz, 2, none⟩ (.int .u64 fl3)).cell? ⟨ba, r * 6 + 3, none⟩ = some (.int .u32 xr) ∧ (((w1.setCell ⟨bz, 0, none⟩ (.int .i64 3)).setCell ⟨bz, 1, none⟩ (.slice a3 N3 cap3)).setCell ⟨bz, 2, none⟩ (.int .u64 fl3)).cell? ⟨ba, r * 6 + 4, none⟩ = some (.int .u32 g) ∧ (((w1.setCell ⟨bz, 0, none⟩ (.int .i64 3)).setCell ⟨bz, 1, none⟩ (.slice a3 N3 cap3)).setCell ⟨bz, 2, none⟩ (.int .u64 fl3)).cell? ⟨ba, r * 6 + 5, none⟩ = some (.int .i64 nn) := ⟨((hHH.1.setCell (Or.inr hzw) _).setCell (Or.inr hzw) _).setCell (Or.inr hzw) _, cell_set_ne (cell_set_ne (cell_set_ne hHH.2.1 (by omega)) (by omega)) (by omega), cell_set_ne (cell_set_ne (cell_set_ne hHH.2.2.1 (by omega)) (by omega)) (by omega), cell_set_ne (cell_set_ne (cell_set_ne hHH.2.2.2.1 (by omega)) (by omega)) (by omega), cell_set_ne (cell_set_ne (cell_set_ne hHH.2.2.2.2.1 (by omega)) (by omega)) (by omega), cell_set_ne (cell_set_ne (cell_set_ne hHH.2.2.2.2.2.1 (by omega)) (by omega)) (by omega), cell_set_ne (cell_set_ne (cell_set_ne hHH.2.2.2.2.2.2.1 (by omega)) (by omega)) (by omega), cell_set_ne (cell_set_ne (cell_set_ne hHH.2.2.2.2.2.2.2.1 (by omega)) (by omega)) (by omega), cell_set_ne (cell_set_ne (cell_set_ne hHH.2.2.2.2.2.2.2.2.1 (by omega)) (by omega)) (by omega), cell_set_ne (cell_set_ne (cell_set_ne hHH.2.2.2.2.2.2.2.2.2 (by omega)) (by omega)) (by omega)⟩
            refine hK.out _ _ ?_ (fun hHeld12 => ?_)
            · (first | assumption | (refine heldK_9 (by assumption) ?_ (by assumption) (by assumption) (by assumption) (by assumption) (by assumption) (by assumption) (by assumption) (by assumption) (by assumption) ; assumption) | (refine heldK_9 (Kept.of (below_ad _ _)) ?_ (by assumption) (by assumption) (by assumption) (by assumption) (by assumption) (by assumption) (by assumption) (by assumption) (by assumption) ; assumption) | (refine heldK_9 (Kept.of (below_a _ _)) ?_ (by assumption) (by assumption) (by assumption) (by assumption) (by assumption) (by assumption) (by assumption) (by assumption) (by assumption) ; assumption))
            clear hK K
            try simp only [Act.put, List.setIfInBounds_toArray, List.set_cons_zero, List.set_cons_succ]
            refine takeH (i := 13) (v := ?v13_11) rfl (by kernel_rfl) (fun _ _ _ h => h) (by rfl) ?hy13_11 (by assumption) ?rest13_11
            case hy13_11 => (intro w hSw; (try dsimp only at hSw); go_simp; try with_reducible rfl)
            try simp only [Act.put, List.setIfInBounds_toArray, List.set_cons_zero, List.set_cons_succ]
            refine wpAnyH_done (by kernel_rfl) ?_ _
            obtain ⟨-, d0, d1, d2, -, -, -, -, -, -⟩ := hHeld12
            have f0 : (((w1.setCell ⟨bz, 0, none⟩ (.int .i64 3)).setCell ⟨bz, 1, none⟩ (.slice a3 N3 cap3)).setCell ⟨bz, 2, none⟩ (.int .u64 fl3)).frozen? ⟨b7, 0, none⟩ = false := by rw [World.frozen?_setCell, World.frozen?_setCell, World.frozen?_setCell]; exact (HBO.out.box.kept HSF.out.kept HBO.out.off).f0
            have f1 : (((w1.setCell ⟨bz, 0, none⟩ (.int .i64 3)).setCell ⟨bz, 1, none⟩ (.slice a3 N3 cap3)).setCell ⟨bz, 2, none⟩ (.int .u64 fl3)).frozen? ⟨b7, 1, none⟩ = false := by rw [World.frozen?_setCell, World.frozen?_setCell, World.frozen?_setCell]; exact (HBO.out.box.kept HSF.out.kept HBO.out.off).f1
            have f2 : (((w1.setCell ⟨bz, 0, none⟩ (.int .i64 3)).setCell ⟨bz, 1, none⟩ (.slice a3 N3 cap3)).setCell ⟨bz, 2, none⟩ (.int .u64 fl3)).frozen? ⟨b7, 2, none⟩ = false := by rw [World.frozen?_setCell, World.frozen?_setCell, World.frozen?_setCell]; exact (HBO.out.box.kept HSF.out.kept HBO.out.off).f2
            have v0 : (((w1.setCell ⟨bz, 0, none⟩ (.int .i64 3)).setCell ⟨bz, 1, none⟩ (.slice a3 N3 cap3)).setCell ⟨bz, 2, none⟩ (.int .u64 fl3)).cell? ⟨bz, 0, none⟩ = some (.int .i64 3) := cell_set_ne (cell_set_ne (cell_set_eq zc0) (by simp)) (by simp)
            have v1 : (((w1.setCell ⟨bz, 0, none⟩ (.int .i64 3)).setCell ⟨bz, 1, none⟩ (.slice a3 N3 cap3)).setCell ⟨bz, 2, none⟩ (.int .u64 fl3)).cell? ⟨bz, 1, none⟩ = some (.slice a3 N3 cap3) := cell_set_ne (cell_set_eq (cell_set_ne zc1 (by simp))) (by simp)
            have v2 : (((w1.setCell ⟨bz, 0, none⟩ (.int .i64 3)).setCell ⟨bz, 1, none⟩ (.slice a3 N3 cap3)).setCell ⟨bz, 2, none⟩ (.int .u64 fl3)).cell? ⟨bz, 2, none⟩ = some (.int .u64 fl3) := cell_set_eq (cell_set_ne (cell_set_ne zc2 (by simp)) (by simp))
            have HF3 := Lib.hid (show Both wo p b7 3 (((((((w1.setCell ⟨bz, 0, none⟩ (.int .i64 3)).setCell ⟨bz, 1, none⟩ (.slice a3 N3 cap3)).setCell ⟨bz, 2, none⟩ (.int .u64 fl3))).setCell ⟨b7, 0, none⟩ (.int .i64 3)).setCell ⟨b7, 1, none⟩ (.slice a3 N3 cap3)).setCell ⟨b7, 2, none⟩ (.int .u64 fl3)) a3 cap3 S3 fl3 F3 by have hh := HRF.out; rw [← HN3.out] at hh ⊢; exact HBO.out.acted2 HHF.out hh HSF.out HZ.out HzF.out hzw)
            clear hk12 hHH hS0 zc0 zc1 zc2 zf0 zf1 zf2 u0 u1 u2 u3 u4 u5
            generalize (((w1.setCell ⟨bz, 0, none⟩ (.int .i64 3)).setCell ⟨bz, 1, none⟩ (.slice a3 N3 cap3)).setCell ⟨bz, 2, none⟩ (.int .u64 fl3)) = w2 at *
            go_wp2_with fail
            go_roundw
            case rel => exact ⟨j + 1, qd, a3, cap3, S3, fl3, F3, by omega, by go_num, hq8.out, by rw [IntWalk.wrap64_in _ (by have := hq8.out; omega)], HF3.out⟩
            case measure => simp [intOf]; omega
          · skip
            go_simp
            obtain ⟨wa, hwa⟩ : ∃ X, X = (W4.alloc (.cells #[.int .i64 0, .slice none 0 0, .int .u64 0] 68)).drew := ⟨_, rfl⟩
            rw [← hwa]
            obtain ⟨bz, hbz⟩ : ∃ X, X = W4.heap.size := ⟨_, rfl⟩
            rw [← hbz]
            have hz : RBox wa bz 0 none 0 0 0 := by rw [hwa, hbz]; exact RBox.new W4.drew 0 0 _ none 0 0
            have hbwa : Below W4.drew.heap.size W4.drew wa := by rw [hwa]; exact below_a W4.drew _
            have hzw : W4.heap.size ≤ bz := by rw [hbz]; exact Nat.le_refl _
            have HWA := Lib.hid (Below.step (Below.refl W4.heap.size W4).drew hbwa)
            have hkk : Kept F W4.drew wa := Kept.of hbwa
            clear hwa hbz
            refine hK.out _ _ ?_ (fun hHeld11 => ?_)
            · (first | assumption | (refine heldK_9 (by assumption) ?_ (by assumption) (by assumption) (by assumption) (by assumption) (by assumption) (by assumption) (by assumption) (by assumption) (by assumption) ; assumption) | (refine heldK_9 (Kept.of (below_ad _ _)) ?_ (by assumption) (by assumption) (by assumption) (by assumption) (by assumption) (by assumption) (by assumption) (by assumption) (by assumption) ; assumption) | (refine heldK_9 (Kept.of (below_a _ _)) ?_ (by assumption) (by assumption) (by assumption) (by assumption) (by assumption) (by assumption) (by assumption) (by assumption) (by assumption) ; assumption))
            clear hK K
            try simp only [Act.put, List.setIfInBounds_toArray, List.set_cons_zero, List.set_cons_succ]
            refine wpAnyH_ready (rs := [7]) (by kernel_rfl) (by simp) ?_
            refine consH rfl (fun K hK => ?_) (AllReadyH.nil)
            go_simp
            have AC := qact_any a cap kd ni v xr g nn _ (HBO.out.inn.below HWA.out) (HBO.out.recs.tail.later HWA.out) trivial HKD.out HID.out HFX.out HNN.out
            rw [HM.out] at AC
            refine AC.mono ?_
            rintro e w1 ⟨a3, cap3, S3, fl3, F3, rfl, hH3, hR3, hS3⟩
            unfold rqV
            clear AC
            have HHF := Lib.hid hH3
            have HRF := Lib.hid hR3
            have HzF := Lib.hid (hS3.off (fun m => by have := HLF.out _ m; omega) (lt_of_cell hz.c0))
            have HSF := Lib.hid ((Step.of HWA.out).trans hS3)
            have HZ := Lib.hid (hz.kept hS3.kept (fun m => by have := HLF.out _ m; omega))
            have hkk3 : Kept F wa w1 := hS3.kept
            clear hH3 hR3 hS3 hz
            go_wp2_with fail
            refine hK.out _ _ ?_ (fun hHeld7 => ?_)
            · (first | assumption | (refine heldK_9 (by assumption) ?_ (by assumption) (by assumption) (by assumption) (by assumption) (by assumption) (by assumption) (by assumption) (by assumption) (by assumption) ; assumption) | (refine heldK_9 (Kept.of (below_ad _ _)) ?_ (by assumption) (by assumption) (by assumption) (by assumption) (by assumption) (by assumption) (by assumption) (by assumption) (by assumption) ; assumption) | (refine heldK_9 (Kept.of (below_a _ _)) ?_ (by assumption) (by assumption) (by assumption) (by assumption) (by assumption) (by assumption) (by assumption) (by assumption) (by assumption) ; assumption))
            clear hK K
            try simp only [Act.put, List.setIfInBounds_toArray, List.set_cons_zero, List.set_cons_succ]
            refine takeH (i := 8) (v := ?v8_12) rfl (by kernel_rfl) (fun _ _ _ h => h) (by rfl) ?hy8_12 (by assumption) ?rest8_12
            case hy8_12 => (intro w hSw; (try dsimp only at hSw); go_simp; try with_reducible rfl)
            try simp only [Act.put, List.setIfInBounds_toArray, List.set_cons_zero, List.set_cons_succ]
            refine takeH (i := 9) (v := ?v9_13) rfl (by kernel_rfl) (fun _ _ _ h => h) (by rfl) ?hy9_13 (by assumption) ?rest9_13
            case hy9_13 => (intro w hSw; (try dsimp only at hSw); go_simp; try with_reducible rfl)
            try simp only [Act.put, List.setIfInBounds_toArray, List.set_cons_zero, List.set_cons_succ]
            refine takeH (i := 10) (v := ?v10_14) rfl (by kernel_rfl) (fun _ _ _ h => h) (by rfl) ?hy10_14 (by assumption) ?rest10_14
            case hy10_14 => (intro w hSw; (try dsimp only at hSw); go_simp; try with_reducible rfl)
            try simp only [Act.put, List.setIfInBounds_toArray, List.set_cons_zero, List.set_cons_succ]
            refine wpAnyH_ready (rs := [12]) (by kernel_rfl) (by simp) ?_
            refine consH rfl (fun K hK => ?_) (AllReadyH.nil)
            have hHH : Kept F W4 w1 ∧ w1.cell? ⟨b7, 0, none⟩ = some (.int .i64 3) ∧ w1.cell? ⟨b7, 1, none⟩ = some (.slice a M cap) ∧ w1.cell? ⟨b7, 2, none⟩ = some (.int .u64 fl) ∧ w1.cell? ⟨ba, r * 6, none⟩ = some (.int .u8 kd) ∧ w1.cell? ⟨ba, r * 6 + 1, none⟩ = some (.int .i64 ni) ∧ w1.cell? ⟨ba, r * 6 + 2, none⟩ = some (.int .u64 v) ∧ w1.cell? ⟨ba, r * 6 + 3, none⟩ = some (.int .u32 xr) ∧ w1.cell? ⟨ba, r * 6 + 4, none⟩ = some (.int .u32 g) ∧ w1.cell? ⟨ba, r * 6 + 5, none⟩ = some (.int .i64 nn) := by first | exact hHeld11 | exact hHeld7
            have zc0 := HZ.out.c0
            have zc1 := HZ.out.c1
            have zc2 := HZ.out.c2
            have zf0 := HZ.out.f0
            have zf1 := HZ.out.f1
            have zf2 := HZ.out.f2
            generalize hN3 : S3.length = N3 at *
            have HN3 := Lib.hid hN3
            clear hN3
            go_simp
            have hk12 : Kept F W4 (((w1.setCell ⟨bz, 0, none⟩ (.int .i64 3)).setCell ⟨bz, 1, none⟩ (.slice a3 N3 cap3)).setCell ⟨bz, 2, none⟩ (.int .u64 fl3)) ∧ (((w1.setCell ⟨bz, 0, none⟩ (.int .i64 3)).setCell ⟨bz, 1, none⟩ (.slice a3 N3 cap3)).setCell ⟨bz, 2, none⟩ (.int .u64 fl3)).cell? ⟨b7, 0, none⟩ = some (.int .i64 3) ∧ (((w1.setCell ⟨bz, 0, none⟩ (.int .i64 3)).setCell ⟨bz, 1, none⟩ (.slice a3 N3 cap3)).setCell ⟨bz, 2, none⟩ (.int .u64 fl3)).cell? ⟨b7, 1, none⟩ = some (.slice a M cap) ∧ (((w1.setCell ⟨bz, 0, none⟩ (.int .i64 3)).setCell ⟨bz, 1, none⟩ (.slice a3 N3 cap3)).setCell ⟨bz, 2, none⟩ (.int .u64 fl3)).cell? ⟨b7, 2, none⟩ = some (.int .u64 fl) ∧ (((w1.setCell ⟨bz, 0, none⟩ (.int .i64 3)).setCell ⟨bz, 1, none⟩ (.slice a3 N3 cap3)).setCell ⟨bz, 2, none⟩ (.int .u64 fl3)).cell? ⟨ba, r * 6, none⟩ = some (.int .u8 kd) ∧ (((w1.setCell ⟨bz, 0, none⟩ (.int .i64 3)).setCell ⟨bz, 1, none⟩ (.slice a3 N3 cap3)).setCell ⟨bz, 2, none⟩ (.int .u64 fl3)).cell? ⟨ba, r * 6 + 1, none⟩ = some (.int .i64 ni) ∧ (((w1.setCell ⟨bz, 0, none⟩ (.int .i64 3)).setCell ⟨bz, 1, none⟩ (.slice a3 N3 cap3)).setCell ⟨bz, 2, none⟩ (.int .u64 fl3)).cell? ⟨ba, r * 6 + 2, none⟩ = some (.int .u64 v) ∧ (((w1.setCell ⟨bz, 0, none⟩ (.int .i64 3)).setCell ⟨bz, 1, none⟩ (.slice a3 N3 cap3)).setCell ⟨bz, 2, none⟩ (.int .u64 fl3)).cell? ⟨ba, r * 6 + 3, none⟩ = some (.int .u32 xr) ∧ (((w1.setCell ⟨bz, 0, none⟩ (.int .i64 3)).setCell ⟨bz, 1, none⟩ (.slice a3 N3 cap3)).setCell ⟨bz, 2, none⟩ (.int .u64 fl3)).cell? ⟨ba, r * 6 + 4, none⟩ = some (.int .u32 g) ∧ (((w1.setCell ⟨bz, 0, none⟩ (.int .i64 3)).setCell ⟨bz, 1, none⟩ (.slice a3 N3 cap3)).setCell ⟨bz, 2, none⟩ (.int .u64 fl3)).cell? ⟨ba, r * 6 + 5, none⟩ = some (.int .i64 nn) := ⟨((hHH.1.setCell (Or.inr hzw) _).setCell (Or.inr hzw) _).setCell (Or.inr hzw) _, cell_set_ne (cell_set_ne (cell_set_ne hHH.2.1 (by omega)) (by omega)) (by omega), cell_set_ne (cell_set_ne (cell_set_ne hHH.2.2.1 (by omega)) (by omega)) (by omega), cell_set_ne (cell_set_ne (cell_set_ne hHH.2.2.2.1 (by omega)) (by omega)) (by omega), cell_set_ne (cell_set_ne (cell_set_ne hHH.2.2.2.2.1 (by omega)) (by omega)) (by omega), cell_set_ne (cell_set_ne (cell_set_ne hHH.2.2.2.2.2.1 (by omega)) (by omega)) (by omega), cell_set_ne (cell_set_ne (cell_set_ne hHH.2.2.2.2.2.2.1 (by omega)) (by omega)) (by omega), cell_set_ne (cell_set_ne (cell_set_ne hHH.2.2.2.2.2.2.2.1 (by omega)) (by omega)) (by omega), cell_set_ne (cell_set_ne (cell_set_ne hHH.2.2.2.2.2.2.2.2.1 (by omega)) (by omega)) (by omega), cell_set_ne (cell_set_ne (cell_set_ne hHH.2.2.2.2.2.2.2.2.2 (by omega)) (by omega)) (by omega)⟩
            refine hK.out _ _ ?_ (fun hHeld12 => ?_)
            · (first | assumption | (refine heldK_9 (by assumption) ?_ (by assumption) (by assumption) (by assumption) (by assumption) (by assumption) (by assumption) (by assumption) (by assumption) (by assumption) ; assumption) | (refine heldK_9 (Kept.of (below_ad _ _)) ?_ (by assumption) (by assumption) (by assumption) (by assumption) (by assumption) (by assumption) (by assumption) (by assumption) (by assumption) ; assumption) | (refine heldK_9 (Kept.of (below_a _ _)) ?_ (by assumption) (by assumption) (by assumption) (by assumption) (by assumption) (by assumption) (by assumption) (by assumption) (by assumption) ; assumption))
            clear hK K
            try simp only [Act.put, List.setIfInBounds_toArray, List.set_cons_zero, List.set_cons_succ]
            refine takeH (i := 13) (v := ?v13_15) rfl (by kernel_rfl) (fun _ _ _ h => h) (by rfl) ?hy13_15 (by assumption) ?rest13_15
            case hy13_15 => (intro w hSw; (try dsimp only at hSw); go_simp; try with_reducible rfl)
            try simp only [Act.put, List.setIfInBounds_toArray, List.set_cons_zero, List.set_cons_succ]
            refine wpAnyH_done (by kernel_rfl) ?_ _
            obtain ⟨-, d0, d1, d2, -, -, -, -, -, -⟩ := hHeld12
            have f0 : (((w1.setCell ⟨bz, 0, none⟩ (.int .i64 3)).setCell ⟨bz, 1, none⟩ (.slice a3 N3 cap3)).setCell ⟨bz, 2, none⟩ (.int .u64 fl3)).frozen? ⟨b7, 0, none⟩ = false := by rw [World.frozen?_setCell, World.frozen?_setCell, World.frozen?_setCell]; exact (HBO.out.box.kept HSF.out.kept HBO.out.off).f0
            have f1 : (((w1.setCell ⟨bz, 0, none⟩ (.int .i64 3)).setCell ⟨bz, 1, none⟩ (.slice a3 N3 cap3)).setCell ⟨bz, 2, none⟩ (.int .u64 fl3)).frozen? ⟨b7, 1, none⟩ = false := by rw [World.frozen?_setCell, World.frozen?_setCell, World.frozen?_setCell]; exact (HBO.out.box.kept HSF.out.kept HBO.out.off).f1
            have f2 : (((w1.setCell ⟨bz, 0, none⟩ (.int .i64 3)).setCell ⟨bz, 1, none⟩ (.slice a3 N3 cap3)).setCell ⟨bz, 2, none⟩ (.int .u64 fl3)).frozen? ⟨b7, 2, none⟩ = false := by rw [World.frozen?_setCell, World.frozen?_setCell, World.frozen?_setCell]; exact (HBO.out.box.kept HSF.out.kept HBO.out.off).f2
            have v0 : (((w1.setCell ⟨bz, 0, none⟩ (.int .i64 3)).setCell ⟨bz, 1, none⟩ (.slice a3 N3 cap3)).setCell ⟨bz, 2, none⟩ (.int .u64 fl3)).cell? ⟨bz, 0, none⟩ = some (.int .i64 3) := cell_set_ne (cell_set_ne (cell_set_eq zc0) (by simp)) (by simp)
            have v1 : (((w1.setCell ⟨bz, 0, none⟩ (.int .i64 3)).setCell ⟨bz, 1, none⟩ (.slice a3 N3 cap3)).setCell ⟨bz, 2, none⟩ (.int .u64 fl3)).cell? ⟨bz, 1, none⟩ = some (.slice a3 N3 cap3) := cell_set_ne (cell_set_eq (cell_set_ne zc1 (by simp))) (by simp)
            have v2 : (((w1.setCell ⟨bz, 0, none⟩ (.int .i64 3)).setCell ⟨bz, 1, none⟩ (.slice a3 N3 cap3)).setCell ⟨bz, 2, none⟩ (.int .u64 fl3)).cell? ⟨bz, 2, none⟩ = some (.int .u64 fl3) := cell_set_eq (cell_set_ne (cell_set_ne zc2 (by simp)) (by simp))
            have HF3 := Lib.hid (show Both wo p b7 3 (((((((w1.setCell ⟨bz, 0, none⟩ (.int .i64 3)).setCell ⟨bz, 1, none⟩ (.slice a3 N3 cap3)).setCell ⟨bz, 2, none⟩ (.int .u64 fl3))).setCell ⟨b7, 0, none⟩ (.int .i64 3)).setCell ⟨b7, 1, none⟩ (.slice a3 N3 cap3)).setCell ⟨b7, 2, none⟩ (.int .u64 fl3)) a3 cap3 S3 fl3 F3 by have hh := HRF.out; rw [← HN3.out] at hh ⊢; exact HBO.out.acted2 HHF.out hh HSF.out HZ.out HzF.out hzw)
            clear hk12 hHH hS0 zc0 zc1 zc2 zf0 zf1 zf2 u0 u1 u2 u3 u4 u5
            generalize (((w1.setCell ⟨bz, 0, none⟩ (.int .i64 3)).setCell ⟨bz, 1, none⟩ (.slice a3 N3 cap3)).setCell ⟨bz, 2, none⟩ (.int .u64 fl3)) = w2 at *
            go_wp2_with fail
            go_roundw
            case rel => exact ⟨j + 1, qd, a3, cap3, S3, fl3, F3, by omega, by go_num, hq8.out, by rw [IntWalk.wrap64_in _ (by have := hq8.out; omega)], HF3.out⟩
            case measure => simp [intOf]; omega
        · have HJ := Lib.hid (show j = 4 by omega)
          have l2 : decide ((j : Int) < 4) = false := decide_eq_false (by omega)
          have l2' : decide (j < 4) = false := decide_eq_false hlj
          have l2q : (j < 4) = False := eq_false hlj
          have zt : ((k : Int)).tmod 3 = ((k % 3 : Nat) : Int) := nat_tmod k 3
          have HWF := Lib.hid (small_wf (m := k % 3) (by omega))
          generalize k % 3 = r at zt HWF
          have HML := Lib.hid (show S.length ≤ 1000000 by have := HBO.out.inn.ids; omega)
          generalize hM : S.length = M at *
          have HM := Lib.hid hM
          clear hM hj hlj hq
          go_wp2_with fail
          obtain ⟨W4, rfl⟩ : ∃ W : World, W = wr := ⟨_, rfl⟩
          have HD := Lib.hid (HBO.out.later (Below.refl _ _).drew)
          have hS0 : Below W4.heap.size W4 W4.drew ∧ W4.drew.cell? ⟨b7, 1, none⟩ = some (.slice a M cap) ∧ W4.drew.cell? ⟨b7, 0, none⟩ = some (.int .i64 3) ∧ W4.drew.cell? ⟨b7, 2, none⟩ = some (.int .u64 fl) := ⟨Below.drew (Below.refl _ _), cell_dr c1, cell_dr c0, cell_dr c2⟩
          refine wp_region_held_drew (S := fun w' => Below W4.heap.size W4 w' ∧ w'.cell? ⟨b7, 1, none⟩ = some (.slice a M cap) ∧ w'.cell? ⟨b7, 0, none⟩ = some (.int .i64 3) ∧ w'.cell? ⟨b7, 2, none⟩ = some (.int .u64 fl)) (by kernel_rfl) hS0 (fun hHeld => ?_)
          refine takeH (i := 0) (v := ?v0_16) rfl (by kernel_rfl) (fun _ _ _ h => h) (by rfl) ?hy0_16 (by assumption) ?rest0_16
          case hy0_16 => (intro w hSw; (try dsimp only at hSw); go_simp; try with_reducible rfl)
          try simp only [Act.put, List.setIfInBounds_toArray, List.set_cons_zero, List.set_cons_succ]
          refine takeH (i := 1) (v := ?v1_17) rfl (by kernel_rfl) (fun _ _ _ h => h) (by rfl) ?hy1_17 (by assumption) ?rest1_17
          case hy1_17 => (intro w hSw; (try dsimp only at hSw); go_simp; try with_reducible rfl)
          try simp only [Act.put, List.setIfInBounds_toArray, List.set_cons_zero, List.set_cons_succ]
          refine takeH (i := 2) (v := ?v2_18) rfl (by kernel_rfl) (fun _ _ _ h => h) (by rfl) ?hy2_18 (by assumption) ?rest2_18
          case hy2_18 => (intro w hSw; (try dsimp only at hSw); go_simp; try with_reducible rfl)
          try simp only [Act.put, List.setIfInBounds_toArray, List.set_cons_zero, List.set_cons_succ]
          refine takeH (i := 3) (v := ?v3_19) rfl (by kernel_rfl) (fun _ _ _ h => h) (by rfl) ?hy3_19 (by assumption) ?rest3_19
          case hy3_19 => (intro w hSw; (try dsimp only at hSw); go_simp; try with_reducible rfl)
          try simp only [Act.put, List.setIfInBounds_toArray, List.set_cons_zero, List.set_cons_succ]
          refine wpAnyH_ready (rs := [4]) (by kernel_rfl) (by simp) ?_
          refine consH rfl (fun K hK => ?_) (AllReadyH.nil)
          go_simp
          have A5 := qsame_any a cap (r : Int) _ HD.out.inn HD.out.recs.tail HWF.out
          rw [HM.out] at A5
          refine A5.mono ?_
          rintro e w1 ⟨rfl, hb1⟩
          have HD1 := Lib.hid (HD.out.later hb1)
          clear A5
          go_wp2_with fail
          refine hK.out _ _ ?_ (fun hHeld4 => ?_)
          · (first | assumption | (refine held_3 (by assumption) ?_; assumption) | (refine held_3 (below_ad _ _) ?_; assumption) | (refine held_3 (below_a _ _) ?_; assumption))
          clear hK K
          try simp only [Act.put, List.setIfInBounds_toArray, List.set_cons_zero, List.set_cons_succ]
          refine takeH (i := 5) (v := ?v5_20) rfl (by kernel_rfl) (fun _ _ _ h => h) (by rfl) ?hy5_20 (by assumption) ?rest5_20
          case hy5_20 => (intro w hSw; (try dsimp only at hSw); go_simp; try with_reducible rfl)
          try simp only [Act.put, List.setIfInBounds_toArray, List.set_cons_zero, List.set_cons_succ]
          refine takeH (i := 6) (v := ?v6_21) rfl (by kernel_rfl) (fun _ _ _ h => h) (by rfl) ?hy6_21 (by assumption) ?rest6_21
          case hy6_21 => (intro w hSw; (try dsimp only at hSw); go_simp; try with_reducible rfl)
          try simp only [Act.put, List.setIfInBounds_toArray, List.set_cons_zero, List.set_cons_succ]
          refine takeH (i := 7) (v := ?v7_22) rfl (by kernel_rfl) (fun _ _ _ h => h) (by rfl) ?hy7_22 (by assumption) ?rest7_22
          case hy7_22 => (intro w hSw; (try dsimp only at hSw); go_simp; try with_reducible rfl)
          try simp only [Act.put, List.setIfInBounds_toArray, List.set_cons_zero, List.set_cons_succ]
          refine takeH (i := 9) (v := ?v9_23) rfl (by kernel_rfl) (fun _ _ _ h => h) (by rfl) ?hy9_23 (by assumption) ?rest9_23
          case hy9_23 => (intro w hSw; (try dsimp only at hSw); go_simp; try with_reducible rfl)
          try simp only [Act.put, List.setIfInBounds_toArray, List.set_cons_zero, List.set_cons_succ]
          refine takeH (i := 10) (v := ?v10_24) rfl (by kernel_rfl) (fun _ _ _ h => h) (by rfl) ?hy10_24 (by assumption) ?rest10_24
          case hy10_24 => (intro w hSw; (try dsimp only at hSw); go_simp; try with_reducible rfl)
          try simp only [Act.put, List.setIfInBounds_toArray, List.set_cons_zero, List.set_cons_succ]
          refine wpAnyH_ready (rs := [8]) (by kernel_rfl) (by simp) ?_
          refine consH rfl (fun K hK => ?_) (AllReadyH.nil)
          go_simp
          refine (QAll_at _ HD1.out.inn).mono ?_
          rintro e w2 ⟨v2, rfl, hr2, hb2⟩
          have HR2 := Lib.hid (own_recs encMs_ok hr2)
          have HD2 := Lib.hid (HD1.out.later hb2)
          clear hr2
          go_wp2_with fail
          refine hK.out _ _ ?_ (fun hHeld8 => ?_)
          · (first | assumption | (refine held_3 (by assumption) ?_; assumption) | (refine held_3 (below_ad _ _) ?_; assumption) | (refine held_3 (below_a _ _) ?_; assumption))
          clear hK K
          try simp only [Act.put, List.setIfInBounds_toArray, List.set_cons_zero, List.set_cons_succ]
          refine wpAnyH_ready (rs := [11]) (by kernel_rfl) (by simp) ?_
          refine consH rfl (fun K hK => ?_) (AllReadyH.nil)
          go_simp
          have A5 := members_same v2 (.slice a M cap) S w2 HR2.out (by rw [← HM.out]; exact HD2.out.recs.recs) (by rw [HM.out]; exact HML.out)
          refine A5.mono ?_
          rintro e w3 ⟨rfl, hq3⟩
          have hb3 : Below w2.heap.size w2 w3 := by obtain ⟨_, rfl⟩ := hq3; exact below_drewN (Below.refl _ _) _
          have HD3 := Lib.hid (HD2.out.later hb3)
          clear A5 hq3
          go_wp2_with fail
          refine hK.out _ _ ?_ (fun hHeld11 => ?_)
          · (first | assumption | (refine held_3 (by assumption) ?_; assumption) | (refine held_3 (below_ad _ _) ?_; assumption) | (refine held_3 (below_a _ _) ?_; assumption))
          clear hK K
          try simp only [Act.put, List.setIfInBounds_toArray, List.set_cons_zero, List.set_cons_succ]
          refine takeH (i := 12) (v := ?v12_25) rfl (by kernel_rfl) (fun _ _ _ h => h) (by rfl) ?hy12_25 (by assumption) ?rest12_25
          case hy12_25 => (intro w hSw; (try dsimp only at hSw); go_simp; try with_reducible rfl)
          try simp only [Act.put, List.setIfInBounds_toArray, List.set_cons_zero, List.set_cons_succ]
          refine takeH (i := 13) (v := ?v13_26) rfl (by kernel_rfl) (fun _ _ _ h => h) (by rfl) ?hy13_26 (by assumption) ?rest13_26
          case hy13_26 => (intro w hSw; (try dsimp only at hSw); go_simp; try with_reducible rfl)
          try simp only [Act.put, List.setIfInBounds_toArray, List.set_cons_zero, List.set_cons_succ]
          refine wpAnyH_done (by kernel_rfl) ?_ _
          skip
          have HEND := Lib.hid (Below.step HBR.out HD3.out.bel)
          clear c0 c1 c2
          go_wp2_with fail
          go_roundw
          case rel => exact ⟨k + 1, by omega, by go_num, HEND.out⟩
          case measure => simp [intOf]; omega
    · have HJ := Lib.hid (show k = 10000 by omega)
      have l2 : decide ((k : Int) < 10000) = false := decide_eq_false (by omega)
      have l2' : decide (k < 10000) = false := decide_eq_false hlt
      have l2q : (k < 10000) = False := eq_false hlt
      clear hk hlt
      go_wp2_with fail
      obtain ⟨W1, hW1⟩ : ∃ W, W = wo.alloc (.cells #[.int .i64 (-1), .int .i64 0, .int .i64 1, .int .i64 131072, .int .i64 131073] 3) := ⟨_, rfl⟩
      rw [← hW1]
      have HNC := Lib.hid (show ∀ j v, limsV[j]? = some v → W1.cell? ⟨wo.heap.size, j, none⟩ = some v from fun j v h => by rw [hW1]; exact cell_nw _ _ _ j v h)
      have HB1 := Lib.hid (show Below W0.heap.size W0 W1 by rw [hW1]; exact Below.step HBR.out (below_a _ _))
      clear hW1
      generalize wo.heap.size = bn at HNC ⊢
      go_loopw [89] (fun i wr => ∃ k : Nat, k ≤ 5 ∧ i = .int .i64 k ∧ Below W1.heap.size W1 wr) (fun i _ => 5 - (intOf i).toNat)
      case atStart => exact ⟨0, Nat.zero_le _, rfl, Below.refl _ _⟩
      case round =>
        obtain ⟨k2, hk, rfl, hbr⟩ := hrel
        have HBR2 := Lib.hid hbr
        clear hbr
        obtain ⟨wz, rfl⟩ : ∃ wz : World, wz = wr := ⟨_, rfl⟩
        by_cases hlt : k2 < 5
        · obtain ⟨n, hc, hwf⟩ := lims_at HNC.out hlt
          replace hc := cell_later HBR2.out hc
          have hk0 : (0 : Int) ≤ (k2 : Int) := by omega
          have hk1 : (k2 : Int) < 5 := by omega
          have b1 := wf_i64 hwf
          have HWF := Lib.hid hwf
          have AR := Lib.hid fun W => rRight24_any n W
          clear hwf
          by_cases hn : 1 ≤ n ∧ n ≤ 131072
          · rw [decide_eq_true hn] at AR
            have A1 := Lib.hid (New_at n wz hn.1 hn.2)
            have hwr : IntKind.i64.wrap (n - 1) = n - 1 := IntWalk.i64_in _ (by omega)
            have hwr' : wrap64 (n - 1) = n - 1 := IntWalk.wrap64_in _ (by omega)
            have P1 := Lib.hid (enter_new (n := n) (M := []) (id := n - 1) (x := (18446744073709551615, 0, 1)) (has_true (by omega) (by omega)) (by unfold Ch.Ok; decide) rfl)
            have P2 := Lib.hid fun (M : Mems) (fl : Int) => ent_no' (fl := fl) (enter_bad (n := n) (M := M) (id := n) (x := (0, 0, 1)) (by unfold hasV; exact decide_eq_false (by omega))) (by decide)
            have HW1 := Lib.hid (show (Lit.int .i64 (n - 1)).wf = true by
              simp only [Lit.wf, IntKind.min, IntKind.max, IntKind.bits, IntKind.signed]
              simp
              omega)
            have hn1 := hn.1
            have hn2 := hn.2
            clear hn
            go_wp2_with fail
            refine A1.out.mono ?_
            rintro e w2 ⟨q, F2, rfl, hq2, ho2, hb2⟩
            have HQ2 := Lib.hid (show QW wz q n [] 0 w2 F2 from ⟨hq2, ho2, hb2⟩)
            clear hq2 ho2 hb2
            go_wp2_with fail
            refine (AR.out w2).mono ?_
            rintro e w3 ⟨rfl, rfl⟩
            go_wp2_with fail
            refine (Enter_at (n - 1) (18446744073709551615, 0, 1) w2 HQ2.out.inn HW1.out (by unfold Ch.Fits; decide)).mono ?_
            rintro e w4 ⟨rfl, hA4⟩
            rw [P1.out.1]
            have hf : enterF n [] (n - 1) (18446744073709551615, 0, 1) 0 = 18446744073709551615 := by unfold enterF; rw [if_pos P1.out.1]; rfl
            rw [P1.out.2, hf] at hA4
            obtain ⟨F4, h4, -⟩ := HQ2.out.step hA4
            have HQ4 := Lib.hid h4
            clear hA4 h4 hf
            go_wp2_with fail
            refine (Enter_at n (0, 0, 1) w4 HQ4.out.inn HWF.out (by unfold Ch.Fits; decide)).mono ?_
            rintro e w5 ⟨rfl, hA5⟩
            rw [(P2.out _ 0).1]
            rw [(P2.out _ 18446744073709551615).2.1, (P2.out _ 18446744073709551615).2.2] at hA5
            obtain ⟨F5, h5, -⟩ := HQ4.out.step hA5
            have HQ5 := Lib.hid h5
            clear hA5 h5
            go_wp2_with fail
            refine (Floor_at w5 HQ5.out.inn).mono ?_
            rintro e w6 ⟨rfl, rfl⟩
            go_wp2_with fail
            go_roundw
            case rel => exact ⟨k2 + 1, by omega, by go_num, Below.step HBR2.out HQ5.out.bel⟩
            case measure => simp [intOf]; omega
          · rw [decide_eq_false hn] at AR
            have A1 := Lib.hid (New_bad' n wz hn)
            clear hn
            go_wp2_with fail
            refine A1.out.mono ?_
            rintro e w2 ⟨rfl, rfl⟩
            go_wp2_with fail
            refine (AR.out _).mono ?_
            rintro e w3 ⟨rfl, rfl⟩
            go_wp2_with fail
            go_roundw
            case rel => exact ⟨k2 + 1, by omega, by go_num, HBR2.out⟩
            case measure => simp [intOf]; omega
        · have HK := Lib.hid (show k2 = 5 by omega)
          have l3 : decide ((k2 : Int) < 5) = false := decide_eq_false (by omega)
          have l3' : decide (k2 < 5) = false := decide_eq_false hlt
          have l3q : (k2 < 5) = False := eq_false hlt
          clear hk hlt
          go_wp2_with fail
          obtain ⟨W2, hW2⟩ : ∃ W, W = (wz.alloc (.cells #[.pointer none, .int .i64 0, .map none, .int .u64 0, .int .i64 0] 79)).alloc (.cells #[.pointer none, .pointer (some ⟨wz.heap.size, 0, none⟩)] 25) := ⟨_, rfl⟩
          rw [← hW2]
          have HCL := Lib.hid (show ∀ r, r < 2 → ∃ q, W2.cell? ⟨wz.heap.size + 1, r, none⟩ = some (.pointer q) ∧ NoQueue W2 q from fun r hr => by
            rw [hW2]
            match r, hr with
            | 0, _ => exact ⟨none, cell_nwE (by simp) _ _ 0 _ rfl, Or.inl rfl⟩
            | 1, _ => exact ⟨_, cell_nwE (by simp) _ _ 1 _ rfl, Or.inr ⟨_, rfl, cell_al _ (cell_nw _ _ _ 1 _ rfl)⟩⟩)
          have HB2 := Lib.hid (show Below w.heap.size w W2 from Below.step (Below.step (Below.step HB0.out HB1.out) HBR2.out) (by rw [hW2]; exact Below.allocS (Below.allocS (Below.refl _ _) _) _))
          clear hW2
          generalize wz.heap.size + 1 = bl at HCL ⊢
          go_loopw [136] (fun i wr => ∃ k : Nat, k ≤ 2 ∧ i = .int .i64 k ∧ Below W2.heap.size W2 wr) (fun i _ => 2 - (intOf i).toNat)
          case atStart => exact ⟨0, Nat.zero_le _, rfl, Below.refl _ _⟩
          case round =>
            obtain ⟨k3, hk, rfl, hbr⟩ := hrel
            have HBR3 := Lib.hid hbr
            clear hbr
            obtain ⟨wy, rfl⟩ : ∃ wy : World, wy = wr := ⟨_, rfl⟩
            by_cases hlt : k3 < 2
            · obtain ⟨q, hc, hq⟩ := HCL.out k3 hlt
              replace hc := cell_later HBR3.out hc
              have HQ := Lib.hid hq
              have hk0 : (0 : Int) ≤ (k3 : Int) := by omega
              have hk1 : (k3 : Int) < 2 := by omega
              clear hq
              go_wp2_with fail
              refine (Leave_none 0 _ (HQ.out.later HBR3.out)).mono ?_
              rintro e w2 ⟨rfl, hb2⟩
              have HC2 := Lib.hid (Below.step (Below.step HBR3.out hb2) (below_a w2 (.cells #[.int .u64 0, .int .u32 0, .int .u32 0] 32)))
              clear hb2
              go_wp2_with fail
              refine (First_none _ (HQ.out.later HC2.out)).mono ?_
              rintro e w3 ⟨rfl, hb3⟩
              have HC3 := Lib.hid (Below.step HC2.out hb3)
              clear hb3
              go_wp2_with fail
              refine (Get_none 0 _ (HQ.out.later HC3.out)).mono ?_
              rintro e w4 ⟨rfl, hb4⟩
              have HC4 := Lib.hid (Below.step (Below.step HC3.out hb4) (below_a w4 (.cells #[.int .u64 0, .int .u32 0, .int .u32 0] 32)))
              clear hb4
              go_wp2_with fail
              refine (Enter_none 0 (0, 0, 1) _ (HQ.out.later HC4.out)).mono ?_
              rintro e w5 ⟨rfl, hb5⟩
              have HC5 := Lib.hid (Below.step HC4.out hb5)
              clear hb5
              go_wp2_with fail
              refine (Charge_none 0 (-1) _ (HQ.out.later HC5.out)).mono ?_
              rintro e w6 ⟨rfl, hb6⟩
              have HC6 := Lib.hid (Below.step HC5.out hb6)
              clear hb6
              go_wp2_with fail
              refine (Weigh_none 0 0 _ (HQ.out.later HC6.out)).mono ?_
              rintro e w7 ⟨rfl, hb7⟩
              have HC7 := Lib.hid (Below.step HC6.out hb7)
              clear hb7
              go_wp2_with fail
              refine (Raise_none 1 _ (HQ.out.later HC7.out)).mono ?_
              rintro e w8 ⟨rfl, hb8⟩
              have HC8 := Lib.hid (Below.step HC7.out hb8)
              clear hb8
              go_wp2_with fail
              refine (Floor_none _ (HQ.out.later HC8.out)).mono ?_
              rintro e w9 ⟨rfl, hb9⟩
              have HC9 := Lib.hid (Below.step HC8.out hb9)
              clear hb9
              go_wp2_with fail
              refine (Load_none _ (HQ.out.later HC9.out)).mono ?_
              rintro e w10 ⟨rfl, hb10⟩
              have HC10 := Lib.hid (Below.step HC9.out hb10)
              clear hb10
              go_wp2_with fail
              refine (Len_none _ (HQ.out.later HC10.out)).mono ?_
              rintro e w11 ⟨rfl, hb11⟩
              have HC11 := Lib.hid (Below.step HC10.out hb11)
              clear hb11
              go_wp2_with fail
              refine (QAll_none _ (HQ.out.later HC11.out)).mono ?_
              rintro e w12 ⟨rfl, hb12⟩
              have HC12 := Lib.hid (Below.step HC11.out hb12)
              clear hb12
              go_wp2_with fail
              go_roundw
              case rel => exact ⟨k3 + 1, by omega, by go_num, HC12.out⟩
              case measure => simp [intOf]; omega
            · have HK3 := Lib.hid (show k3 = 2 by omega)
              have l3 : decide ((k3 : Int) < 2) = false := decide_eq_false (by omega)
              have l3' : decide (k3 < 2) = false := decide_eq_false hlt
              have l3q : (k3 < 2) = False := eq_false hlt
              clear hk hlt
              go_wp2_with fail
              refine (AW.out _).mono ?_
              rintro e w9 ⟨rfl, hb9⟩
              have HB9 := Lib.hid (Below.step (Below.step HB2.out HBR3.out) hb9)
              clear hb9
              go_wp2_with fail
              go_ret
              exact ⟨rfl, HB9.out⟩
end Go.Proofs.Ytekjakmeopolhaa
