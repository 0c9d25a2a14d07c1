/-
  QueueWrong: what there is not is rejected, and nothing changes.
-/
import Derived.Test.YtekjakmeopolhaaQueueD
namespace Go.Proofs.Ytekjakmeopolhaa
open Go.RowKit Go.Maps Go.IntWalk Go.Lib
set_option linter.unusedVariables false
set_option linter.unusedSimpArgs false
def wrongM (a : Int) (j : Nat) : Int := if j = 0 then min a (-1) else max a 30
theorem wrongM_bad (a : Int) (j : Nat) : hasV 30 (wrongM a j) = false := by
  unfold hasV wrongM
  split <;> exact decide_eq_false (by omega)
theorem tk_no {t : Int} (h : ¬ tkOk t) (n : Int) (M : Mems) (id fl : Int) : chC (decide (tkOk t)) n M id = 2 ∧ chS (decide (tkOk t)) n M id (chgX t) = M ∧ chF (decide (tkOk t)) n M id (chgX t) fl = fl := by
  have e : chC (decide (tkOk t)) n M id = 2 := by rw [decide_eq_false h]; exact chc_wrong
  exact ⟨e, (ch_no e (by decide) _ fl).1, (ch_no e (by decide) _ fl).2⟩
theorem wg_no {t : Int} (h : ¬ wgOk t) (n : Int) (M : Mems) (id fl : Int) : chC (decide (wgOk t)) n M id = 2 ∧ chS (decide (wgOk t)) n M id (wghX t) = M ∧ chF (decide (wgOk t)) n M id (wghX t) fl = fl := by
  have e : chC (decide (wgOk t)) n M id = 2 := by rw [decide_eq_false h]; exact chc_wrong
  exact ⟨e, (ch_no e (by decide) _ fl).1, (ch_no e (by decide) _ fl).2⟩
theorem id_no {n id : Int} (h : hasV n id = false) (b : Bool) (M : Mems) (X : Ent → Ent) (fl : Int) : chC b n M id = 2 ∧ chS b n M id X = M ∧ chF b n M id X fl = fl := by
  have e : chC b n M id = 2 := chc_bad h
  exact ⟨e, (ch_no e (by decide) _ fl).1, (ch_no e (by decide) _ fl).2⟩
theorem none_no {n id : Int} {b : Bool} (hb : b = true) (h : hasV n id = true) {M : Mems} (hE : entM M id = none) (X : Ent → Ent) (fl : Int) : chC b n M id = 6 ∧ chS b n M id X = M ∧ chF b n M id X fl = fl := by
  have e : chC b n M id = 6 := by rw [hb]; exact chc_none h hE
  exact ⟨e, (ch_no e (by decide) _ fl).1, (ch_no e (by decide) _ fl).2⟩
theorem ent_no {n : Int} {M : Mems} {id : Int} {x : Ent} {c : Int} (e : enterC n M id x = c) (hc : c ≠ 0) (fl : Int) : enterC n M id x = c ∧ enterM n M id x = M ∧ enterF n M id x fl = fl := ⟨e, (enter_no e hc).1, (enter_no e hc).2 fl⟩
theorem getE_none {M : Mems} {id : Int} (h : entM M id = none) : getE M id = (0, 0, 0) ∧ (entM M id).isSome = false := by unfold getE; rw [h]; exact ⟨rfl, rfl⟩
theorem getE_some {M : Mems} {id : Int} {x : Ent} (h : entM M id = some x) : getE M id = x ∧ (entM M id).isSome = true := by unfold getE; rw [h]; exact ⟨rfl, rfl⟩
set_option maxRecDepth 100000 in
set_option maxHeartbeats 4000000 in
theorem QueueWrong_true (s0 : Option Addr) (l0 c0 : Nat) (F0 : Nat → Nat → Value) (a1 a2 : Int) (w : World) (r0 : PlainRow [some .u16, some .u16, some .u16] w s0 l0 c0 F0) (g1 : (Lit.int .i64 a1).wf = true) (g2 : (Lit.int .i64 a2).wf = true) :
    Calls Try.prog 5 #[.slice s0 l0 c0, .int .i64 a1, .int .i64 a2] w fun e w' => e = .returned (.bool true) ∧ Below w.heap.size w w' := by
  obtain ⟨xs, hx⟩ := small_of r0
  have A1 := filled_any s0 l0 c0 xs w hx
  obtain ⟨m, hm⟩ : ∃ m, m = min l0 30 := ⟨_, rfl⟩
  have hm30 : m ≤ 30 := by omega
  rw [← hm] at A1
  have b1 := wf_i64 g1
  have b2 := wf_i64 g2
  obtain ⟨M, hM⟩ : ∃ M, M = fillM xs m := ⟨_, rfl⟩
  unfold QFilledP at A1
  rw [← hM] at A1
  have HL := Lib.hid (show M.length = m by rw [hM]; exact fillM_len _ _)
  have HE := Lib.hid (show ∀ j : Nat, j < m → ∃ y, entM M (j : Int) = some y by intro j hj; rw [hM]; exact ⟨_, fillM_ent _ _ _ hj⟩)
  have HN := Lib.hid (show ∀ id : Int, id < 0 ∨ (m : Int) ≤ id → entM M id = none by intro id hid; rw [hM]; exact fillM_ge _ _ _ hid)
  have HA1 := Lib.hid A1
  have AW := Lib.hid fun W => awake_any W
  have wfm : ∀ x : Int, -9223372036854775808 ≤ x ∧ x ≤ 9223372036854775807 → (Lit.int .i64 x).wf = true := fun x h => by
    simp only [Lit.wf, IntKind.min, IntKind.max, IntKind.bits, IntKind.signed]; simp; omega
  have HW := Lib.hid (show ∀ j, (Lit.int .i64 (wrongM a1 j)).wf = true by
    intro j
    refine wfm _ ?_
    unfold wrongM
    split <;> omega)
  have HX := Lib.hid (show ¬ tkOk (min a2 (-1)) ∧ ¬ tkOk (max a2 4294967296) ∧ ¬ wgOk (min a2 0) ∧ ¬ wgOk (max a2 65537) by unfold tkOk wgOk; omega)
  have HWM := Lib.hid wfm
  clear A1 hx r0 hm hM b1 b2 g1 g2 wfm
  go_enter Try.func5, Try.ntmps5
  go_wp2_with fail
  refine HA1.out.mono ?_
  rintro e w1 ⟨q, F1, fl, rfl, h1⟩
  have H1 := Lib.hid h1
  have HK := Lib.hid h1.inn.ids
  clear h1
  go_wp2_with fail
  refine (QAll_at w1 H1.out.inn).mono ?_
  rintro e w11 ⟨v11, rfl, hr11, hb⟩
  have VA := Lib.hid (held_own hr11 hb H1.out.inn.lt)
  obtain ⟨a11, c11, rfl, -⟩ := id VA.out
  clear hr11
  have t12 : Step F1 w1 F1 w11 := Step.of hb
  have H12 := Lib.hid (H1.out.later hb)
  clear t12
  clear hb
  go_wp2_with fail
  refine (Floor_at w11 H12.out.inn).mono ?_
  rintro e w_ ⟨rfl, rfl⟩
  have hlt := H12.out.inn.lt
  have hb : Below w11.heap.size w11 (w11.alloc (.cells #[.int .u64 5, .int .u32 0, .int .u32 7] 32)) := below_a _ _
  have t14 : Step F1 w11 F1 (w11.alloc (.cells #[.int .u64 5, .int .u32 0, .int .u32 7] 32)) := Step.of hb
  have H14 := Lib.hid (H12.out.later hb)
  replace VA := Lib.hid (VA.out.step t14.kept t14.new)
  clear t14
  have g0 : (w11.alloc (.cells #[.int .u64 5, .int .u32 0, .int .u32 7] 32)).cell? ⟨w11.heap.size, 0, none⟩ = some (.int .u64 5) := cell_nw _ _ _ 0 _ rfl
  have g1 : (w11.alloc (.cells #[.int .u64 5, .int .u32 0, .int .u32 7] 32)).cell? ⟨w11.heap.size, 1, none⟩ = some (.int .u32 0) := cell_nw _ _ _ 1 _ rfl
  have g2 : (w11.alloc (.cells #[.int .u64 5, .int .u32 0, .int .u32 7] 32)).cell? ⟨w11.heap.size, 2, none⟩ = some (.int .u32 7) := cell_nw _ _ _ 2 _ rfl
  have og : w11.heap.size ∉ F1 := fun m => by have := hlt _ m; omega
  have lg := lt_of_cell g0
  have hS_g := Lib.hid (show (w11.alloc (.cells #[.int .u64 5, .int .u32 0, .int .u32 7] 32)).heap.size = w11.heap.size + 1 by simp)
  clear hb hlt
  go_wp2_with fail
  generalize (w11.alloc (.cells #[.int .u64 5, .int .u32 0, .int .u32 7] 32)) = W13 at *
  generalize w11.heap.size = b_g at *
  have hlt := H14.out.inn.lt
  have hb := below_a W13 (.cells #[.int .i64 (min a1 (-1)), .int .i64 (max a1 30)] 3)
  have t15 : Step F1 W13 F1 (W13.alloc (.cells #[.int .i64 (min a1 (-1)), .int .i64 (max a1 30)] 3)) := Step.of hb
  have H15 := Lib.hid (H14.out.later hb)
  replace g0 := t15.cell og g0
  replace g1 := t15.cell og g1
  replace g2 := t15.cell og g2
  replace og := t15.off og lg
  replace lg := lt_of_cell g0
  replace VA := Lib.hid (VA.out.step t15.kept t15.new)
  clear t15
  have hc0 := cell_nw W13 #[.int .i64 (min a1 (-1)), .int .i64 (max a1 30)] 3 0 _ rfl
  have hc1 := cell_nw W13 #[.int .i64 (min a1 (-1)), .int .i64 (max a1 30)] 3 1 _ rfl
  have ho : b_g + 1 ∉ F1 := fun h => by have := hlt _ h; have := hS_g.out; omega
  rw [hS_g.out] at hc0 hc1
  clear hb hlt
  generalize (W13.alloc (.cells #[.int .i64 (min a1 (-1)), .int .i64 (max a1 30)] 3)) = Wl at *
  go_loopw [41] (fun i wr => ∃ (k : Nat) (F : List Nat), k ≤ 2 ∧ i = .int .i64 k ∧ QW w q 30 M fl wr F ∧ HeldR encMs F wr (.slice a11 M.length c11) M ∧ b_g ∉ F ∧ (wr.cell? ⟨b_g, 0, none⟩ = some (.int .u64 5) ∧ wr.cell? ⟨b_g, 1, none⟩ = some (.int .u32 0) ∧ wr.cell? ⟨b_g, 2, none⟩ = some (.int .u32 7)) ∧ b_g + 1 ∉ F ∧ ∀ j, j < 2 → wr.cell? ⟨b_g + 1, j, none⟩ = some (.int .i64 (wrongM a1 j))) (fun i _ => 2 - (intOf i).toNat)
  case atStart =>
    refine ⟨0, _, Nat.zero_le _, rfl, H15.out, VA.out, og, ⟨g0, g1, g2⟩, ho, fun j hj => ?_⟩
    have : j = 0 ∨ j = 1 := by omega
    rcases this with rfl | rfl
    · exact hc0
    · exact hc1
  case round =>
    clear VA g0 g1 g2 og lg hc0 hc1 ho
    obtain ⟨k, F, hk, rfl, hI, hV, og, ⟨g0, g1, g2⟩, ho, hc⟩ := hrel
    have HI := Lib.hid hI
    have VA := Lib.hid hV
    have lg := lt_of_cell g0
    clear hI hV
    by_cases hlt : k < 2
    · have i0 := hc k hlt
      have i1 := lt_of_cell i0
      have hk0 : (0 : Int) ≤ (k : Int) := by omega
      have hk2 : (k : Int) < 2 := by omega
      have HWk := Lib.hid (HW.out k)
      have HB := Lib.hid (wrongM_bad a1 k)
      have HNk := Lib.hid (getE_none (HN.out (wrongM a1 k) (by unfold wrongM; split <;> omega)))
      have CR := Lib.hid hc
      have HO := Lib.hid ho
      clear hc ho
      have TT := Lib.hid (Step.of (F := F) (Below.refl wr.heap.size wr))
      generalize wrongM a1 k = id at *
      go_wp2_with fail
      refine (Leave_at id wr HI.out.inn HWk.out).mono ?_
      rintro e w41 ⟨rfl, hA⟩
      obtain ⟨p1, p2, p3⟩ := leave_no (leave_bad (M := M) HB.out) (by decide)
      rw [leave_bad HB.out, p2]
      rw [p1, p3] at hA
      clear p1 p2 p3
      obtain ⟨F42, h42, t42⟩ := HI.out.step hA
      have H42 := Lib.hid (show QW w q 30 M fl w41 F42 from h42)
      replace g0 := t42.cell og g0
      replace g1 := t42.cell og g1
      replace g2 := t42.cell og g2
      replace og := t42.off og lg
      replace lg := lt_of_cell g0
      replace VA := Lib.hid (VA.out.step t42.kept t42.new)
      replace TT := Lib.hid (TT.out.trans t42)
      clear t42 h42 hA
      have hlt := H42.out.inn.lt
      have hb : Below w41.heap.size w41 (w41.alloc (.cells #[.int .u64 0, .int .u32 0, .int .u32 0] 32)) := below_a _ _
      have t44 : Step F42 w41 F42 (w41.alloc (.cells #[.int .u64 0, .int .u32 0, .int .u32 0] 32)) := Step.of hb
      have H44 := Lib.hid (H42.out.later hb)
      replace g0 := t44.cell og g0
      replace g1 := t44.cell og g1
      replace g2 := t44.cell og g2
      replace og := t44.off og lg
      replace lg := lt_of_cell g0
      replace VA := Lib.hid (VA.out.step t44.kept t44.new)
      replace TT := Lib.hid (TT.out.trans t44)
      clear t44
      have u0 : (w41.alloc (.cells #[.int .u64 0, .int .u32 0, .int .u32 0] 32)).cell? ⟨w41.heap.size, 0, none⟩ = some (.int .u64 0) := cell_nw _ _ _ 0 _ rfl
      have u1 : (w41.alloc (.cells #[.int .u64 0, .int .u32 0, .int .u32 0] 32)).cell? ⟨w41.heap.size, 1, none⟩ = some (.int .u32 0) := cell_nw _ _ _ 1 _ rfl
      have u2 : (w41.alloc (.cells #[.int .u64 0, .int .u32 0, .int .u32 0] 32)).cell? ⟨w41.heap.size, 2, none⟩ = some (.int .u32 0) := cell_nw _ _ _ 2 _ rfl
      have ou : w41.heap.size ∉ F42 := fun m => by have := hlt _ m; omega
      have lu := lt_of_cell u0
      have hS_u := Lib.hid (show (w41.alloc (.cells #[.int .u64 0, .int .u32 0, .int .u32 0] 32)).heap.size = w41.heap.size + 1 by simp)
      clear hb hlt
      go_wp2_with fail
      generalize (w41.alloc (.cells #[.int .u64 0, .int .u32 0, .int .u32 0] 32)) = W43 at *
      generalize w41.heap.size = b_u at *
      go_wp2_with fail
      refine (Get_at id W43 H44.out.inn HWk.out).mono ?_
      rintro e w45 ⟨rfl, hb⟩
      rw [HNk.out.1, HNk.out.2]
      have t46 : Step F42 W43 F42 w45 := Step.of hb
      have H46 := Lib.hid (H44.out.later hb)
      replace g0 := t46.cell og g0
      replace g1 := t46.cell og g1
      replace g2 := t46.cell og g2
      replace og := t46.off og lg
      replace lg := lt_of_cell g0
      replace u0 := t46.cell ou u0
      replace u1 := t46.cell ou u1
      replace u2 := t46.cell ou u2
      replace ou := t46.off ou lu
      replace lu := lt_of_cell u0
      replace VA := Lib.hid (VA.out.step t46.kept t46.new)
      replace TT := Lib.hid (TT.out.trans t46)
      clear t46
      clear hb
      have hlt := H46.out.inn.lt
      have hb : Below w45.heap.size w45 (w45.alloc (.cells #[.int .u64 0, .int .u32 0, .int .u32 0] 32)) := below_a _ _
      have t48 : Step F42 w45 F42 (w45.alloc (.cells #[.int .u64 0, .int .u32 0, .int .u32 0] 32)) := Step.of hb
      have H48 := Lib.hid (H46.out.later hb)
      replace g0 := t48.cell og g0
      replace g1 := t48.cell og g1
      replace g2 := t48.cell og g2
      replace og := t48.off og lg
      replace lg := lt_of_cell g0
      replace u0 := t48.cell ou u0
      replace u1 := t48.cell ou u1
      replace u2 := t48.cell ou u2
      replace ou := t48.off ou lu
      replace lu := lt_of_cell u0
      replace VA := Lib.hid (VA.out.step t48.kept t48.new)
      replace TT := Lib.hid (TT.out.trans t48)
      clear t48
      have v0 : (w45.alloc (.cells #[.int .u64 0, .int .u32 0, .int .u32 0] 32)).cell? ⟨w45.heap.size, 0, none⟩ = some (.int .u64 0) := cell_nw _ _ _ 0 _ rfl
      have v1 : (w45.alloc (.cells #[.int .u64 0, .int .u32 0, .int .u32 0] 32)).cell? ⟨w45.heap.size, 1, none⟩ = some (.int .u32 0) := cell_nw _ _ _ 1 _ rfl
      have v2 : (w45.alloc (.cells #[.int .u64 0, .int .u32 0, .int .u32 0] 32)).cell? ⟨w45.heap.size, 2, none⟩ = some (.int .u32 0) := cell_nw _ _ _ 2 _ rfl
      have ov : w45.heap.size ∉ F42 := fun m => by have := hlt _ m; omega
      have lv := lt_of_cell v0
      have hS_v := Lib.hid (show (w45.alloc (.cells #[.int .u64 0, .int .u32 0, .int .u32 0] 32)).heap.size = w45.heap.size + 1 by simp)
      clear hb hlt
      go_wp2_with fail
      generalize (w45.alloc (.cells #[.int .u64 0, .int .u32 0, .int .u32 0] 32)) = W47 at *
      generalize w45.heap.size = b_v at *
      go_wp2_with fail
      refine (Enter_at id (5, 0, 7) W47 H48.out.inn HWk.out (by unfold Ch.Fits; decide)).mono ?_
      rintro e w49 ⟨rfl, hA⟩
      obtain ⟨p0, p1, p2⟩ := ent_no (enter_bad (M := M) (x := (5, 0, 7)) HB.out) (by decide) fl
      rw [p0]
      rw [p1, p2] at hA
      clear p0 p1 p2
      obtain ⟨F50, h50, t50⟩ := H48.out.step hA
      have H50 := Lib.hid (show QW w q 30 M fl w49 F50 from h50)
      replace g0 := t50.cell og g0
      replace g1 := t50.cell og g1
      replace g2 := t50.cell og g2
      replace og := t50.off og lg
      replace lg := lt_of_cell g0
      replace u0 := t50.cell ou u0
      replace u1 := t50.cell ou u1
      replace u2 := t50.cell ou u2
      replace ou := t50.off ou lu
      replace lu := lt_of_cell u0
      replace v0 := t50.cell ov v0
      replace v1 := t50.cell ov v1
      replace v2 := t50.cell ov v2
      replace ov := t50.off ov lv
      replace lv := lt_of_cell v0
      replace VA := Lib.hid (VA.out.step t50.kept t50.new)
      replace TT := Lib.hid (TT.out.trans t50)
      clear t50 h50 hA
      go_wp2_with fail
      refine (Charge_at id 1 w49 H50.out.inn HWk.out).mono ?_
      rintro e w51 ⟨rfl, hA⟩
      obtain ⟨p0, p1, p2⟩ := id_no HB.out (decide (tkOk 1)) M (chgX 1) fl
      rw [p0]
      rw [p1, p2] at hA
      clear p0 p1 p2
      obtain ⟨F52, h52, t52⟩ := H50.out.step hA
      have H52 := Lib.hid (show QW w q 30 M fl w51 F52 from h52)
      replace g0 := t52.cell og g0
      replace g1 := t52.cell og g1
      replace g2 := t52.cell og g2
      replace og := t52.off og lg
      replace lg := lt_of_cell g0
      replace u0 := t52.cell ou u0
      replace u1 := t52.cell ou u1
      replace u2 := t52.cell ou u2
      replace ou := t52.off ou lu
      replace lu := lt_of_cell u0
      replace v0 := t52.cell ov v0
      replace v1 := t52.cell ov v1
      replace v2 := t52.cell ov v2
      replace ov := t52.off ov lv
      replace lv := lt_of_cell v0
      replace VA := Lib.hid (VA.out.step t52.kept t52.new)
      replace TT := Lib.hid (TT.out.trans t52)
      clear t52 h52 hA
      go_wp2_with fail
      refine (Weigh_at id 1 w51 H52.out.inn HWk.out).mono ?_
      rintro e w53 ⟨rfl, hA⟩
      obtain ⟨p0, p1, p2⟩ := id_no HB.out (decide (wgOk 1)) M (wghX 1) fl
      rw [p0]
      rw [p1, p2] at hA
      clear p0 p1 p2
      obtain ⟨F54, h54, t54⟩ := H52.out.step hA
      have H54 := Lib.hid (show QW w q 30 M fl w53 F54 from h54)
      replace g0 := t54.cell og g0
      replace g1 := t54.cell og g1
      replace g2 := t54.cell og g2
      replace og := t54.off og lg
      replace lg := lt_of_cell g0
      replace u0 := t54.cell ou u0
      replace u1 := t54.cell ou u1
      replace u2 := t54.cell ou u2
      replace ou := t54.off ou lu
      replace lu := lt_of_cell u0
      replace v0 := t54.cell ov v0
      replace v1 := t54.cell ov v1
      replace v2 := t54.cell ov v2
      replace ov := t54.off ov lv
      replace lv := lt_of_cell v0
      replace VA := Lib.hid (VA.out.step t54.kept t54.new)
      replace TT := Lib.hid (TT.out.trans t54)
      clear t54 h54 hA
      go_wp2_with fail
      go_roundw
      case rel => exact ⟨k + 1, _, by omega, by go_num, H54.out, VA.out, og, ⟨g0, g1, g2⟩, TT.out.off HO.out (lt_of_cell (CR.out 0 (by omega))), fun j hj => TT.out.cell HO.out (CR.out j hj)⟩
      case measure => simp [intOf]; omega
    · have zz : decide ((k : Int) < 2) = false := decide_eq_false (by omega)
      clear hk hlt ho hc
      obtain ⟨wo, rfl⟩ : ∃ wo : World, wo = wr := ⟨_, rfl⟩
      go_wp2_with fail
      go_loopw [85] (fun i wr => ∃ (k : Nat) (F : List Nat), k ≤ 30 ∧ i = .int .i64 k ∧ QW w q 30 M fl wr F ∧ HeldR encMs F wr (.slice a11 M.length c11) M ∧ b_g ∉ F ∧ (wr.cell? ⟨b_g, 0, none⟩ = some (.int .u64 5) ∧ wr.cell? ⟨b_g, 1, none⟩ = some (.int .u32 0) ∧ wr.cell? ⟨b_g, 2, none⟩ = some (.int .u32 7))) (fun i _ => 30 - (intOf i).toNat)
      case atStart => exact ⟨0, F, Nat.zero_le _, rfl, HI.out, VA.out, og, g0, g1, g2⟩
      case round =>
        clear HI VA g0 g1 g2 og lg
        obtain ⟨k, F, hk, rfl, hI, hV, og, g0, g1, g2⟩ := hrel
        have HI := Lib.hid hI
        have VA := Lib.hid hV
        have lg := lt_of_cell g0
        clear hI hV
        by_cases hlt : k < 30
        · have hk0 : (0 : Int) ≤ (k : Int) := by omega
          have hk30 : (k : Int) < 30 := by omega
          have HWk := Lib.hid (HWM.out (k : Int) (by omega))
          have HH := Lib.hid (has_true (n := 30) hk0 hk30)
          by_cases hkm : k < m
          · obtain ⟨⟨y1, y2, y3⟩, hy⟩ := HE.out k hkm
            have HG := Lib.hid (getE_some hy)
            have HY := Lib.hid hy
            have zz : (k : Int) < (m : Int) := by omega
            clear hy
            go_wp2_with fail
            refine (Get_at (k : Int) wr HI.out.inn HWk.out).mono ?_
            rintro e w71 ⟨rfl, hb⟩
            rw [HG.out.1, HG.out.2]
            have t72 : Step F wr F w71 := Step.of hb
            have H72 := Lib.hid (HI.out.later hb)
            replace g0 := t72.cell og g0
            replace g1 := t72.cell og g1
            replace g2 := t72.cell og g2
            replace og := t72.off og lg
            replace lg := lt_of_cell g0
            replace VA := Lib.hid (VA.out.step t72.kept t72.new)
            clear t72
            clear hb
            have hlt := H72.out.inn.lt
            have hb : Below w71.heap.size w71 (w71.alloc (.cells #[.int .u64 y1, .int .u32 y2, .int .u32 y3] 32)) := below_a _ _
            have t74 : Step F w71 F (w71.alloc (.cells #[.int .u64 y1, .int .u32 y2, .int .u32 y3] 32)) := Step.of hb
            have H74 := Lib.hid (H72.out.later hb)
            replace g0 := t74.cell og g0
            replace g1 := t74.cell og g1
            replace g2 := t74.cell og g2
            replace og := t74.off og lg
            replace lg := lt_of_cell g0
            replace VA := Lib.hid (VA.out.step t74.kept t74.new)
            clear t74
            have u0 : (w71.alloc (.cells #[.int .u64 y1, .int .u32 y2, .int .u32 y3] 32)).cell? ⟨w71.heap.size, 0, none⟩ = some (.int .u64 y1) := cell_nw _ _ _ 0 _ rfl
            have u1 : (w71.alloc (.cells #[.int .u64 y1, .int .u32 y2, .int .u32 y3] 32)).cell? ⟨w71.heap.size, 1, none⟩ = some (.int .u32 y2) := cell_nw _ _ _ 1 _ rfl
            have u2 : (w71.alloc (.cells #[.int .u64 y1, .int .u32 y2, .int .u32 y3] 32)).cell? ⟨w71.heap.size, 2, none⟩ = some (.int .u32 y3) := cell_nw _ _ _ 2 _ rfl
            have ou : w71.heap.size ∉ F := fun m => by have := hlt _ m; omega
            have lu := lt_of_cell u0
            have hS_u := Lib.hid (show (w71.alloc (.cells #[.int .u64 y1, .int .u32 y2, .int .u32 y3] 32)).heap.size = w71.heap.size + 1 by simp)
            clear hb hlt
            go_wp2_with fail
            generalize (w71.alloc (.cells #[.int .u64 y1, .int .u32 y2, .int .u32 y3] 32)) = W73 at *
            generalize w71.heap.size = b_u at *
            go_wp2_with fail
            refine (Enter_at (k : Int) (1, 0, 0) W73 H74.out.inn HWk.out (by unfold Ch.Fits; decide)).mono ?_
            rintro e w75 ⟨rfl, hA⟩
            obtain ⟨p0, p1, p2⟩ := ent_no (enter_wrong (n := 30) (M := M) (id := (k : Int)) (x := (1, 0, 0)) (by unfold Ch.Ok; decide)) (by decide) fl
            rw [p0]
            rw [p1, p2] at hA
            clear p0 p1 p2
            obtain ⟨F76, h76, t76⟩ := H74.out.step hA
            have H76 := Lib.hid (show QW w q 30 M fl w75 F76 from h76)
            replace g0 := t76.cell og g0
            replace g1 := t76.cell og g1
            replace g2 := t76.cell og g2
            replace og := t76.off og lg
            replace lg := lt_of_cell g0
            replace u0 := t76.cell ou u0
            replace u1 := t76.cell ou u1
            replace u2 := t76.cell ou u2
            replace ou := t76.off ou lu
            replace lu := lt_of_cell u0
            replace VA := Lib.hid (VA.out.step t76.kept t76.new)
            clear t76 h76 hA
            go_wp2_with fail
            refine (Charge_at (k : Int) (min a2 (-1)) w75 H76.out.inn HWk.out).mono ?_
            rintro e w77 ⟨rfl, hA⟩
            obtain ⟨p0, p1, p2⟩ := tk_no HX.out.1 30 M (k : Int) fl
            rw [p0]
            rw [p1, p2] at hA
            clear p0 p1 p2
            obtain ⟨F78, h78, t78⟩ := H76.out.step hA
            have H78 := Lib.hid (show QW w q 30 M fl w77 F78 from h78)
            replace g0 := t78.cell og g0
            replace g1 := t78.cell og g1
            replace g2 := t78.cell og g2
            replace og := t78.off og lg
            replace lg := lt_of_cell g0
            replace u0 := t78.cell ou u0
            replace u1 := t78.cell ou u1
            replace u2 := t78.cell ou u2
            replace ou := t78.off ou lu
            replace lu := lt_of_cell u0
            replace VA := Lib.hid (VA.out.step t78.kept t78.new)
            clear t78 h78 hA
            go_wp2_with fail
            refine (Charge_at (k : Int) (max a2 4294967296) w77 H78.out.inn HWk.out).mono ?_
            rintro e w79 ⟨rfl, hA⟩
            obtain ⟨p0, p1, p2⟩ := tk_no HX.out.2.1 30 M (k : Int) fl
            rw [p0]
            rw [p1, p2] at hA
            clear p0 p1 p2
            obtain ⟨F80, h80, t80⟩ := H78.out.step hA
            have H80 := Lib.hid (show QW w q 30 M fl w79 F80 from h80)
            replace g0 := t80.cell og g0
            replace g1 := t80.cell og g1
            replace g2 := t80.cell og g2
            replace og := t80.off og lg
            replace lg := lt_of_cell g0
            replace u0 := t80.cell ou u0
            replace u1 := t80.cell ou u1
            replace u2 := t80.cell ou u2
            replace ou := t80.off ou lu
            replace lu := lt_of_cell u0
            replace VA := Lib.hid (VA.out.step t80.kept t80.new)
            clear t80 h80 hA
            go_wp2_with fail
            refine (Weigh_at (k : Int) (min a2 0) w79 H80.out.inn HWk.out).mono ?_
            rintro e w81 ⟨rfl, hA⟩
            obtain ⟨p0, p1, p2⟩ := wg_no HX.out.2.2.1 30 M (k : Int) fl
            rw [p0]
            rw [p1, p2] at hA
            clear p0 p1 p2
            obtain ⟨F82, h82, t82⟩ := H80.out.step hA
            have H82 := Lib.hid (show QW w q 30 M fl w81 F82 from h82)
            replace g0 := t82.cell og g0
            replace g1 := t82.cell og g1
            replace g2 := t82.cell og g2
            replace og := t82.off og lg
            replace lg := lt_of_cell g0
            replace u0 := t82.cell ou u0
            replace u1 := t82.cell ou u1
            replace u2 := t82.cell ou u2
            replace ou := t82.off ou lu
            replace lu := lt_of_cell u0
            replace VA := Lib.hid (VA.out.step t82.kept t82.new)
            clear t82 h82 hA
            go_wp2_with fail
            refine (Weigh_at (k : Int) (max a2 65537) w81 H82.out.inn HWk.out).mono ?_
            rintro e w83 ⟨rfl, hA⟩
            obtain ⟨p0, p1, p2⟩ := wg_no HX.out.2.2.2 30 M (k : Int) fl
            rw [p0]
            rw [p1, p2] at hA
            clear p0 p1 p2
            obtain ⟨F84, h84, t84⟩ := H82.out.step hA
            have H84 := Lib.hid (show QW w q 30 M fl w83 F84 from h84)
            replace g0 := t84.cell og g0
            replace g1 := t84.cell og g1
            replace g2 := t84.cell og g2
            replace og := t84.off og lg
            replace lg := lt_of_cell g0
            replace u0 := t84.cell ou u0
            replace u1 := t84.cell ou u1
            replace u2 := t84.cell ou u2
            replace ou := t84.off ou lu
            replace lu := lt_of_cell u0
            replace VA := Lib.hid (VA.out.step t84.kept t84.new)
            clear t84 h84 hA
            go_wp2_with fail
            refine (Enter_at (k : Int) (5, 0, 7) w83 H84.out.inn HWk.out (by unfold Ch.Fits; decide)).mono ?_
            rintro e w85 ⟨rfl, hA⟩
            obtain ⟨p0, p1, p2⟩ := ent_no (enter_there (x := (5, 0, 7)) HH.out (by unfold Ch.Ok; decide) HY.out) (by decide) fl
            rw [p0]
            rw [p1, p2] at hA
            clear p0 p1 p2
            obtain ⟨F86, h86, t86⟩ := H84.out.step hA
            have H86 := Lib.hid (show QW w q 30 M fl w85 F86 from h86)
            replace g0 := t86.cell og g0
            replace g1 := t86.cell og g1
            replace g2 := t86.cell og g2
            replace og := t86.off og lg
            replace lg := lt_of_cell g0
            replace u0 := t86.cell ou u0
            replace u1 := t86.cell ou u1
            replace u2 := t86.cell ou u2
            replace ou := t86.off ou lu
            replace lu := lt_of_cell u0
            replace VA := Lib.hid (VA.out.step t86.kept t86.new)
            clear t86 h86 hA
            go_wp2_with fail
            go_roundw
            case rel => exact ⟨k + 1, _, by omega, by go_num, H86.out, VA.out, og, g0, g1, g2⟩
            case measure => simp [intOf]; omega
          · have hy : entM M (k : Int) = none := HN.out _ (Or.inr (by omega))
            have HG := Lib.hid (getE_none hy)
            have HY := Lib.hid hy
            have zz : decide ((k : Int) < (m : Int)) = false := decide_eq_false (by omega)
            have zz2 : decide (k < m) = false := decide_eq_false hkm
            have zz3 : (k < m) = False := eq_false hkm
            clear hy hkm
            go_wp2_with fail
            refine (Get_at (k : Int) wr HI.out.inn HWk.out).mono ?_
            rintro e w71 ⟨rfl, hb⟩
            rw [HG.out.1, HG.out.2]
            have t72 : Step F wr F w71 := Step.of hb
            have H72 := Lib.hid (HI.out.later hb)
            replace g0 := t72.cell og g0
            replace g1 := t72.cell og g1
            replace g2 := t72.cell og g2
            replace og := t72.off og lg
            replace lg := lt_of_cell g0
            replace VA := Lib.hid (VA.out.step t72.kept t72.new)
            clear t72
            clear hb
            have hlt := H72.out.inn.lt
            have hb : Below w71.heap.size w71 (w71.alloc (.cells #[.int .u64 0, .int .u32 0, .int .u32 0] 32)) := below_a _ _
            have t74 : Step F w71 F (w71.alloc (.cells #[.int .u64 0, .int .u32 0, .int .u32 0] 32)) := Step.of hb
            have H74 := Lib.hid (H72.out.later hb)
            replace g0 := t74.cell og g0
            replace g1 := t74.cell og g1
            replace g2 := t74.cell og g2
            replace og := t74.off og lg
            replace lg := lt_of_cell g0
            replace VA := Lib.hid (VA.out.step t74.kept t74.new)
            clear t74
            have u0 : (w71.alloc (.cells #[.int .u64 0, .int .u32 0, .int .u32 0] 32)).cell? ⟨w71.heap.size, 0, none⟩ = some (.int .u64 0) := cell_nw _ _ _ 0 _ rfl
            have u1 : (w71.alloc (.cells #[.int .u64 0, .int .u32 0, .int .u32 0] 32)).cell? ⟨w71.heap.size, 1, none⟩ = some (.int .u32 0) := cell_nw _ _ _ 1 _ rfl
            have u2 : (w71.alloc (.cells #[.int .u64 0, .int .u32 0, .int .u32 0] 32)).cell? ⟨w71.heap.size, 2, none⟩ = some (.int .u32 0) := cell_nw _ _ _ 2 _ rfl
            have ou : w71.heap.size ∉ F := fun m => by have := hlt _ m; omega
            have lu := lt_of_cell u0
            have hS_u := Lib.hid (show (w71.alloc (.cells #[.int .u64 0, .int .u32 0, .int .u32 0] 32)).heap.size = w71.heap.size + 1 by simp)
            clear hb hlt
            go_wp2_with fail
            generalize (w71.alloc (.cells #[.int .u64 0, .int .u32 0, .int .u32 0] 32)) = W73 at *
            generalize w71.heap.size = b_u at *
            go_wp2_with fail
            refine (Enter_at (k : Int) (1, 0, 0) W73 H74.out.inn HWk.out (by unfold Ch.Fits; decide)).mono ?_
            rintro e w75 ⟨rfl, hA⟩
            obtain ⟨p0, p1, p2⟩ := ent_no (enter_wrong (n := 30) (M := M) (id := (k : Int)) (x := (1, 0, 0)) (by unfold Ch.Ok; decide)) (by decide) fl
            rw [p0]
            rw [p1, p2] at hA
            clear p0 p1 p2
            obtain ⟨F76, h76, t76⟩ := H74.out.step hA
            have H76 := Lib.hid (show QW w q 30 M fl w75 F76 from h76)
            replace g0 := t76.cell og g0
            replace g1 := t76.cell og g1
            replace g2 := t76.cell og g2
            replace og := t76.off og lg
            replace lg := lt_of_cell g0
            replace u0 := t76.cell ou u0
            replace u1 := t76.cell ou u1
            replace u2 := t76.cell ou u2
            replace ou := t76.off ou lu
            replace lu := lt_of_cell u0
            replace VA := Lib.hid (VA.out.step t76.kept t76.new)
            clear t76 h76 hA
            go_wp2_with fail
            refine (Charge_at (k : Int) (min a2 (-1)) w75 H76.out.inn HWk.out).mono ?_
            rintro e w77 ⟨rfl, hA⟩
            obtain ⟨p0, p1, p2⟩ := tk_no HX.out.1 30 M (k : Int) fl
            rw [p0]
            rw [p1, p2] at hA
            clear p0 p1 p2
            obtain ⟨F78, h78, t78⟩ := H76.out.step hA
            have H78 := Lib.hid (show QW w q 30 M fl w77 F78 from h78)
            replace g0 := t78.cell og g0
            replace g1 := t78.cell og g1
            replace g2 := t78.cell og g2
            replace og := t78.off og lg
            replace lg := lt_of_cell g0
            replace u0 := t78.cell ou u0
            replace u1 := t78.cell ou u1
            replace u2 := t78.cell ou u2
            replace ou := t78.off ou lu
            replace lu := lt_of_cell u0
            replace VA := Lib.hid (VA.out.step t78.kept t78.new)
            clear t78 h78 hA
            go_wp2_with fail
            refine (Charge_at (k : Int) (max a2 4294967296) w77 H78.out.inn HWk.out).mono ?_
            rintro e w79 ⟨rfl, hA⟩
            obtain ⟨p0, p1, p2⟩ := tk_no HX.out.2.1 30 M (k : Int) fl
            rw [p0]
            rw [p1, p2] at hA
            clear p0 p1 p2
            obtain ⟨F80, h80, t80⟩ := H78.out.step hA
            have H80 := Lib.hid (show QW w q 30 M fl w79 F80 from h80)
            replace g0 := t80.cell og g0
            replace g1 := t80.cell og g1
            replace g2 := t80.cell og g2
            replace og := t80.off og lg
            replace lg := lt_of_cell g0
            replace u0 := t80.cell ou u0
            replace u1 := t80.cell ou u1
            replace u2 := t80.cell ou u2
            replace ou := t80.off ou lu
            replace lu := lt_of_cell u0
            replace VA := Lib.hid (VA.out.step t80.kept t80.new)
            clear t80 h80 hA
            go_wp2_with fail
            refine (Weigh_at (k : Int) (min a2 0) w79 H80.out.inn HWk.out).mono ?_
            rintro e w81 ⟨rfl, hA⟩
            obtain ⟨p0, p1, p2⟩ := wg_no HX.out.2.2.1 30 M (k : Int) fl
            rw [p0]
            rw [p1, p2] at hA
            clear p0 p1 p2
            obtain ⟨F82, h82, t82⟩ := H80.out.step hA
            have H82 := Lib.hid (show QW w q 30 M fl w81 F82 from h82)
            replace g0 := t82.cell og g0
            replace g1 := t82.cell og g1
            replace g2 := t82.cell og g2
            replace og := t82.off og lg
            replace lg := lt_of_cell g0
            replace u0 := t82.cell ou u0
            replace u1 := t82.cell ou u1
            replace u2 := t82.cell ou u2
            replace ou := t82.off ou lu
            replace lu := lt_of_cell u0
            replace VA := Lib.hid (VA.out.step t82.kept t82.new)
            clear t82 h82 hA
            go_wp2_with fail
            refine (Weigh_at (k : Int) (max a2 65537) w81 H82.out.inn HWk.out).mono ?_
            rintro e w83 ⟨rfl, hA⟩
            obtain ⟨p0, p1, p2⟩ := wg_no HX.out.2.2.2 30 M (k : Int) fl
            rw [p0]
            rw [p1, p2] at hA
            clear p0 p1 p2
            obtain ⟨F84, h84, t84⟩ := H82.out.step hA
            have H84 := Lib.hid (show QW w q 30 M fl w83 F84 from h84)
            replace g0 := t84.cell og g0
            replace g1 := t84.cell og g1
            replace g2 := t84.cell og g2
            replace og := t84.off og lg
            replace lg := lt_of_cell g0
            replace u0 := t84.cell ou u0
            replace u1 := t84.cell ou u1
            replace u2 := t84.cell ou u2
            replace ou := t84.off ou lu
            replace lu := lt_of_cell u0
            replace VA := Lib.hid (VA.out.step t84.kept t84.new)
            clear t84 h84 hA
            go_wp2_with fail
            refine (Charge_at (k : Int) 1 w83 H84.out.inn HWk.out).mono ?_
            rintro e w85 ⟨rfl, hA⟩
            obtain ⟨p0, p1, p2⟩ := none_no (b := decide (tkOk 1)) (by decide) HH.out HY.out (chgX 1) fl
            rw [p0]
            rw [p1, p2] at hA
            clear p0 p1 p2
            obtain ⟨F86, h86, t86⟩ := H84.out.step hA
            have H86 := Lib.hid (show QW w q 30 M fl w85 F86 from h86)
            replace g0 := t86.cell og g0
            replace g1 := t86.cell og g1
            replace g2 := t86.cell og g2
            replace og := t86.off og lg
            replace lg := lt_of_cell g0
            replace u0 := t86.cell ou u0
            replace u1 := t86.cell ou u1
            replace u2 := t86.cell ou u2
            replace ou := t86.off ou lu
            replace lu := lt_of_cell u0
            replace VA := Lib.hid (VA.out.step t86.kept t86.new)
            clear t86 h86 hA
            go_wp2_with fail
            refine (Weigh_at (k : Int) 1 w85 H86.out.inn HWk.out).mono ?_
            rintro e w87 ⟨rfl, hA⟩
            obtain ⟨p0, p1, p2⟩ := none_no (b := decide (wgOk 1)) (by decide) HH.out HY.out (wghX 1) fl
            rw [p0]
            rw [p1, p2] at hA
            clear p0 p1 p2
            obtain ⟨F88, h88, t88⟩ := H86.out.step hA
            have H88 := Lib.hid (show QW w q 30 M fl w87 F88 from h88)
            replace g0 := t88.cell og g0
            replace g1 := t88.cell og g1
            replace g2 := t88.cell og g2
            replace og := t88.off og lg
            replace lg := lt_of_cell g0
            replace u0 := t88.cell ou u0
            replace u1 := t88.cell ou u1
            replace u2 := t88.cell ou u2
            replace ou := t88.off ou lu
            replace lu := lt_of_cell u0
            replace VA := Lib.hid (VA.out.step t88.kept t88.new)
            clear t88 h88 hA
            go_wp2_with fail
            go_roundw
            case rel => exact ⟨k + 1, _, by omega, by go_num, H88.out, VA.out, og, g0, g1, g2⟩
            case measure => simp [intOf]; omega
        · have zz : decide ((k : Int) < 30) = false := decide_eq_false (by omega)
          clear hk hlt
          obtain ⟨wo, rfl⟩ : ∃ wo : World, wo = wr := ⟨_, rfl⟩
          have hl1 : M.length ≤ 1000000 := by rw [HL.out]; omega
          go_wp2_with fail
          refine (QAll_at wo HI.out.inn).mono ?_
          rintro e w11 ⟨v11, rfl, hr11, hb⟩
          have VB := Lib.hid (held_own hr11 hb HI.out.inn.lt)
          obtain ⟨a11, c11, rfl, -⟩ := id VB.out
          clear hr11
          have t12 : Step F wo F w11 := Step.of hb
          have H12 := Lib.hid (HI.out.later hb)
          replace VA := Lib.hid (VA.out.step t12.kept t12.new)
          clear t12
          clear hb
          go_wp2_with fail
          refine (alike_any _ _ M M w11 VB.out.recs VA.out.recs (by omega) (by omega)).mono ?_
          rintro e w13 ⟨rfl, hq_⟩
          have hb : Below w11.heap.size w11 w13 := by obtain ⟨_, rfl⟩ := hq_; exact below_drewN (Below.refl _ _) _
          clear hq_
          rw [sameM_true rfl]
          have t14 : Step F w11 F w13 := Step.of hb
          have H14 := Lib.hid (H12.out.later hb)
          replace VA := Lib.hid (VA.out.step t14.kept t14.new)
          replace VB := Lib.hid (VB.out.step t14.kept t14.new)
          clear t14
          clear hb
          go_wp2_with fail
          refine (Floor_at w13 H14.out.inn).mono ?_
          rintro e w_ ⟨rfl, rfl⟩
          go_wp2_with fail
          refine (AW.out w13).mono ?_
          rintro e w9 ⟨rfl, hb9⟩
          have HB9 := Lib.hid (Below.step H14.out.bel hb9)
          clear hb9
          go_wp2_with fail
          go_ret
          exact ⟨rfl, HB9.out⟩
end Go.Proofs.Ytekjakmeopolhaa
