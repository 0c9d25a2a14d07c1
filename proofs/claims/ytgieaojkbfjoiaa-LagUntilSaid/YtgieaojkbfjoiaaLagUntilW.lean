/-
  The walk of LagUntil.
-/
import Derived.Test.YtgieaojkbfjoiaaLagP
namespace Go.Proofs.Ytgieaojkbfjoiaa
open Go.RowKit Go.Maps Go.IntWalk Go.Lib Go.Sort
set_option linter.unusedVariables false
theorem until_none {l : List (Int × Int × Int)} {id : Int} {x : Int × Int × Int} (h : tsk l id = some x) (h0 : lagR l id ≤ 0) : untilR l id = 0 := by
  unfold lagR at h0; unfold untilR; rw [h] at h0 ⊢; exact if_pos h0
theorem until_some {l : List (Int × Int × Int)} {id : Int} {x : Int × Int × Int} (hg : Good l) (h : tsk l id = some x) (h0 : 0 < lagR l id) :
    0 < sumW l - x.2.1 ∧ 0 < untilR l id ∧ 0 < lagR l id - (untilR l id - 1) * (sumW l - x.2.1) ∧ lagR l id - untilR l id * (sumW l - x.2.1) ≤ 0 ∧ untilR l id ≤ 4611686018427387904 := by
  obtain ⟨hx, _⟩ := tsk_some h
  obtain ⟨k, hk⟩ := List.getElem?_of_mem hx
  have e1 : lagR l id = lagV l x := by unfold lagR; rw [h]
  have e2 : untilR l id = untilV l x := by unfold untilR; rw [h]
  rw [e1] at h0 ⊢
  rw [e2]
  have hr := (hg.bounds hk).rest h0
  have := until_law (n := untilV l x) h0 hr (by unfold untilV; rw [if_neg (by omega)])
  refine ⟨hr, this.1, this.2.1, this.2.2, ?_⟩
  have hp := Int.mul_nonneg (by omega : 0 ≤ untilV l x - 1) (by omega : 0 ≤ sumW l - x.2.1 - 1)
  rw [Int.mul_sub, Int.mul_one] at hp
  obtain ⟨_, _, _, _, _, _, _, a1, a2, b1, b2, _⟩ := hg.bounds hk
  have : lagV l x ≤ 4503599627370496 := by unfold lagV; omega
  omega
set_option maxRecDepth 100000 in
set_option maxHeartbeats 2000000 in
theorem LagUntil_true (s0 : Option Addr) (l0 c0 : Nat) (F0 : Nat → Nat → Value) (s1 : Option Addr) (l1 c1 : Nat) (F1 : Nat → Nat → Value) (a2 : Int) (w : World) (r0 : PlainRow [some .u16] w s0 l0 c0 F0) (r1 : PlainRow [some .u16] w s1 l1 c1 F1) (g2 : (Lit.int .u8 a2).wf = true) :
    Calls Try.prog 4 #[.slice s0 l0 c0, .slice s1 l1 c1, .int .u8 a2] w fun e w' => e = .returned (.bool true) ∧ Below w.heap.size w w' := by
  obtain ⟨ws, hws⟩ := words_of r0
  obtain ⟨rs, hrs⟩ := words_of r1
  obtain ⟨hsn, hsp, hs12⟩ := shV_ok ws hws.fit
  have hg2 := u8_of g2
  obtain ⟨kk, rfl⟩ := Int.eq_ofNat_of_zero_le hg2.1
  have A1 := Lib.hid (Shares_any s0 l0 c0 ws w hws)
  have HR := Lib.hid hrs
  have HSN := Lib.hid hsn
  clear r0 r1 g2 hws hrs hsn
  go_enter Try.func4, Try.ntmps4
  go_wp2_with fail
  refine A1.out.mono ?_
  rintro e w1 ⟨b, cap, rfl, ho, hb1⟩
  obtain ⟨_, _, he, h⟩ := own_pairs ho
  have hpa : PairsAt w1 b 0 (shV ws) := by
    rcases h with h | ⟨_, _, e, h⟩
    · rw [h] at hsp; simp at hsp
    · cases he; cases e; exact h
  have HP := Lib.hid hpa
  have A2 := Lib.hid (made_any b 0 cap (shV ws) s1 l1 c1 rs w1 HSN.out hpa (HR.out.later hb1))
  clear ho he h hpa A1
  go_wp2_with fail
  refine A2.out.mono ?_
  rintro e w2 ⟨p, g, bm, capm, rfl, hM, hok, hp1, hg1, hm1, hb2⟩
  have hmod : kk % (shV ws).length < (shV ws).length := Nat.mod_lt _ hsp
  have hq := HP.out (kk % (shV ws).length) (shV ws)[kk % (shV ws).length] (List.getElem?_eq_getElem hmod)
  have q0 := cell_later hb2 hq.1
  have q1 := cell_later hb2 hq.2
  have htid : (shV ws)[kk % (shV ws).length].1 = turnId (shV ws) kk := by unfold turnId; rw [List.getElem?_eq_getElem hmod]; rfl
  rw [htid] at q0
  have hmem : ∃ y ∈ madeV (shV ws) rs, y.1 = turnId (shV ws) kk := by
    rw [ids_mem, show idsL (madeV (shV ws) rs) = _ from hok.ids, List.mem_map]
    exact turnId_mem (newC_zero HSN.out).1 kk
  have hwf : (Lit.int .i64 (turnId (shV ws) kk)).wf = true := by
    obtain ⟨y, hy, hye⟩ := turnId_mem (newC_zero HSN.out).1 kk
    have := okFrom_mem (newC_zero HSN.out).2.1 y hy
    exact WalkArith.wf_i64 (by omega)
  obtain ⟨x, hx⟩ := tsk_of hmem
  have hm0 : (0 : Int) ≤ (kk : Int) % ((shV ws).length : Int) := Int.emod_nonneg _ (by omega)
  have hm1' : (kk : Int) % ((shV ws).length : Int) < ((shV ws).length : Int) := Int.emod_lt_of_pos _ (by omega)
  have hmt : ((kk : Int) % ((shV ws).length : Int)).toNat = kk % (shV ws).length := by rw [← Int.natCast_emod]; exact Int.toNat_natCast _
  have hnz : ¬ (((shV ws).length : Int) = 0) := by omega
  have hsum : 0 ≤ sumR (madeV (shV ws) rs) ∧ sumR (madeV (shV ws) rs) ≤ 3932100 := by have := hok.sum; unfold madeV; omega
  have HMem := Lib.hid hmem
  have HWF := Lib.hid hwf
  have HX := Lib.hid hx
  have HM := Lib.hid hM
  have HOK := Lib.hid hok
  have hbw2 := Below.step hb1 hb2
  clear htid hmem hwf hx hM hok hq A2
  generalize turnId (shV ws) kk = tid at *
  generalize (shV ws)[kk % (shV ws).length].2 = wgt at *
  generalize madeV (shV ws) rs = L at *
  simp only [Nat.zero_add] at q0 q1
  go_wp2_with fail
  have HMa := Lib.hid (HM.out.below (below_a w2 (.cells #[.int .i64 tid, .int .i64 wgt] 28)))
  have hba := Below.allocS hbw2 (.cells #[.int .i64 tid, .int .i64 wgt] 28)
  have z0 := cell_nw w2 #[.int .i64 tid, .int .i64 wgt] 28 0 _ rfl
  have hBp : w2.heap.size ≠ p ∧ w2.heap.size ≠ g := by have := HM.out.lts; omega
  generalize w2.heap.size = B at *
  generalize w2.alloc (.cells #[.int .i64 tid, .int .i64 wgt] 28) = w3 at *
  have hb1s := hb1.size
  clear q0 q1 hb2 hb1
  have hid : hasId L tid = true := hasId_iff.2 HMem.out
  have HID := Lib.hid hid
  have hpg : ∀ k ∈ [p, g], w.heap.size ≤ k := fun k hk => by
    simp only [List.mem_cons, List.not_mem_nil, or_false] at hk
    omega
  have HPG := Lib.hid hpg
  clear hid hpg
  refine (Lag_fn p g bm capm L (shV ws).length tid w3 HMa.out HWF.out).mono ?_
  rintro e w4 ⟨rfl, hb4⟩
  rw [HID.out]
  have HM4 := Lib.hid (HMa.out.below hb4)
  have hba4 := Below.step hba hb4
  replace z0 := cell_later hb4 z0
  clear hba hb4
  go_wp2_with fail
  refine (Until_fn p g bm capm L (shV ws).length tid w4 HM4.out HWF.out).mono ?_
  rintro e w5 ⟨rfl, hb5⟩
  rw [if_pos HID.out]
  have HM5 := Lib.hid (HM4.out.below hb5)
  have hba5 := Below.step hba4 hb5
  replace z0 := cell_later hb5 z0
  clear hba4 hb5
  by_cases hL : lagR L tid ≤ 0
  · have hu := until_none HX.out hL
    rw [hu]
    clear hu
    have ht1 : decide (lagR L tid ≤ 0) = true := decide_eq_true hL
    have HLe := Lib.hid hL
    go_wp2_with fail
    refine (Total_any p g bm capm L (shV ws).length w5 HM5.out).mono ?_
    rintro e w6 ⟨rfl, rfl⟩
    go_wp2_with fail
    refine (Lag_fn p g bm capm L (shV ws).length tid w5 HM5.out HWF.out).mono ?_
    rintro e w6 ⟨rfl, hb6⟩
    rw [HID.out]
    have hba6 := Below.step hba5 hb6
    go_wp2_with fail
    refine (awake_true w6).mono ?_
    rintro e w7 ⟨rfl, hb7⟩
    go_wp2_with fail
    go_ret
    exact ⟨rfl, Below.step hba6 hb7⟩
  · have HU := Lib.hid (until_some HM5.out.good HX.out (by omega))
    have hu := HU.out.2.1
    have hub : untilR L tid ≤ 4611686018427387904 := HU.out.2.2.2.2
    have ht1 : decide (lagR L tid ≤ 0) = false := decide_eq_false hL
    generalize hn : untilR L tid = n at *
    have HN := Lib.hid hn
    clear hn
    have hn0 : (n == 0) = false := by simp; omega
    go_wp2_with fail
    refine (Total_any p g bm capm L (shV ws).length w5 HM5.out).mono ?_
    rintro e w6 ⟨rfl, rfl⟩
    by_cases hbig : 68719476736 - sumR L < n
    · go_wp2_with fail
      refine (awake_true w5).mono ?_
      rintro e w7 ⟨rfl, hb7⟩
      go_wp2_with fail
      go_ret
      exact ⟨rfl, Below.step hba5 hb7⟩
    · go_wp2_with fail
      refine (Run_any p g bm capm L (shV ws).length tid (n - 1) w5 HM5.out HWF.out (WalkArith.wf_i64 (by omega))).mono ?_
      rintro e w6 ⟨he, hM6, hk6⟩
      have hc1 : runC L tid (n - 1) = 0 := runC_zero (by omega) (by omega) HMem.out (by omega)
      rw [hc1] at he
      subst he
      have hba6 := Kept.stepB hba5 (Nat.le_refl _) hk6 HPG.out
      rw [show runL L tid (n - 1) = bump L tid (n - 1) from if_pos hc1] at hM6
      have hl6 := bump_lag (t := n - 1) HM5.out.good HX.out
      have hx6 := bump_tsk (t := n - 1) HX.out
      have hm6 : ∃ y ∈ bump L tid (n - 1), y.1 = tid := ⟨_, (tsk_some hx6).1, (tsk_some hx6).2⟩
      have hs6 := bump_R L tid (n - 1) HM5.out.good.ids HMem.out
      have hw6 := bump_W L tid (n - 1)
      replace z0 := hk6.cellAt z0 (by simp only [List.mem_cons, List.not_mem_nil, or_false]; omega)
      have hp6 : 0 < lagR (bump L tid (n - 1)) tid := by rw [hl6]; exact HU.out.2.2.1
      have HM6 := Lib.hid hM6
      have HX6 := Lib.hid hx6
      have HMem6 := Lib.hid hm6
      have HS6 := Lib.hid hs6
      have HL6 := Lib.hid hl6
      have HW6 := Lib.hid hw6
      have hid6 := Lib.hid (hasId_iff.2 hm6)
      clear hc1 hM6 hk6 hl6 hx6 hm6 hs6 hw6
      generalize hLL : bump L tid (n - 1) = L6 at *
      have HLL := Lib.hid hLL
      clear hLL
      go_wp2_with fail
      refine (Lag_fn p g bm capm L6 (shV ws).length tid w6 HM6.out HWF.out).mono ?_
      rintro e w7 ⟨rfl, hb7⟩
      rw [hid6.out]
      have HM7 := Lib.hid (HM6.out.below hb7)
      have hba7 := Below.step hba6 hb7
      replace z0 := cell_later hb7 z0
      have ht7 : decide (lagR L6 tid ≤ 0) = false := decide_eq_false (by omega)
      go_wp2_with fail
      refine (Run_any p g bm capm L6 (shV ws).length tid 1 w7 HM7.out HWF.out (by decide)).mono ?_
      rintro e w8 ⟨he, hM8, hk8⟩
      have hc8 : runC L6 tid 1 = 0 := runC_zero (by omega) (by omega) HMem6.out (by rw [HS6.out]; omega)
      rw [hc8] at he
      subst he
      have hba8 := Kept.stepB hba7 (Nat.le_refl _) hk8 HPG.out
      rw [show runL L6 tid 1 = bump L6 tid 1 from if_pos hc8] at hM8
      replace z0 := hk8.cellAt z0 (by simp only [List.mem_cons, List.not_mem_nil, or_false]; omega)
      have hl8 : lagR (bump L6 tid 1) tid ≤ 0 := by
        rw [bump_lag HM7.out.good HX6.out, HW6.out, HL6.out]
        have := HU.out.2.2.2.1
        simp only [Int.sub_mul] at *
        omega
      have HM8 := Lib.hid hM8
      have HX8 := Lib.hid (bump_tsk (t := 1) HX6.out)
      have hid8 := Lib.hid (hasId_iff.2 ⟨_, (tsk_some HX8.out).1, (tsk_some HX8.out).2⟩)
      have ht8 : decide (lagR (bump L6 tid 1) tid ≤ 0) = true := decide_eq_true hl8
      clear hc8 hM8 hk8
      generalize hLL : bump L6 tid 1 = L8 at *
      clear hLL
      go_wp2_with fail
      refine (Lag_fn p g bm capm L8 (shV ws).length tid w8 HM8.out HWF.out).mono ?_
      rintro e w9 ⟨rfl, hb9⟩
      rw [hid8.out]
      have hba9 := Below.step hba8 hb9
      go_wp2_with fail
      refine (awake_true w9).mono ?_
      rintro e w10 ⟨rfl, hb10⟩
      go_wp2_with fail
      go_ret
      exact ⟨rfl, Below.step hba9 hb10⟩
end Go.Proofs.Ytgieaojkbfjoiaa
