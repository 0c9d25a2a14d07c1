/-
  The walk of LagZero.
-/
import Derived.Test.YtgieaojkbfjoiaaLagZM
namespace Go.Proofs.Ytgieaojkbfjoiaa
open Go.RowKit Go.Maps Go.IntWalk Go.Lib Go.Sort
set_option linter.unusedVariables false
set_option maxRecDepth 100000 in
set_option maxHeartbeats 2000000 in
theorem LagZero_true (s0 : Option Addr) (l0 c0 : Nat) (F0 : Nat → Nat → Value) (s1 : Option Addr) (l1 c1 : Nat) (F1 : Nat → Nat → Value) (w : World) (r0 : PlainRow [some .u16] w s0 l0 c0 F0) (r1 : PlainRow [some .u16] w s1 l1 c1 F1) :
    Calls Try.prog 8 #[.slice s0 l0 c0, .slice s1 l1 c1] w fun e w' => e = .returned (.bool true) ∧ Below w.heap.size w w' := by
  obtain ⟨ws, hws⟩ := words_of r0
  obtain ⟨rs, hrs⟩ := words_of r1
  obtain ⟨hsn, hsp, hs12⟩ := shV_ok ws hws.fit
  have A1 := Lib.hid (Shares_any s0 l0 c0 ws w hws)
  have HR := Lib.hid hrs
  have HSN := Lib.hid hsn
  clear r0 r1 hws hrs hsn
  go_enter Try.func8, Try.ntmps8
  go_wp2_with fail
  refine A1.out.mono ?_
  rintro e w1 ⟨b, cap, rfl, ho, hb1⟩
  obtain ⟨_, _, he, h⟩ := own_pairs ho
  have hpa : PairsAt w1 b 0 (shV ws) := by
    rcases h with h | ⟨_, _, e, h⟩
    · rw [h] at hsp; simp at hsp
    · cases he; cases e; exact h
  have HP := Lib.hid hpa
  have A2 := Lib.hid (made_any b 0 cap (shV ws) s1 l1 c1 rs w1 HSN.out hpa (HR.out.later hb1))
  clear ho he h hpa A1
  go_wp2_with fail
  refine A2.out.mono ?_
  rintro e w2 ⟨p, g, bm, capm, rfl, hM, hok, hp1, hg1, hm1, hb2⟩
  have hsum : 0 ≤ sumR (madeV (shV ws) rs) ∧ sumR (madeV (shV ws) rs) ≤ 3932100 := by have := hok.sum; unfold madeV; omega
  have hpw : (madeV (shV ws) rs).map pw = shV ws := by
    have := (made_tot HSN.out HR.out.fit (min rs.length 60) (by omega) (by omega)).1
    unfold madeV
    rw [this]
    unfold ranTo
    rw [List.map_map]
    conv => rhs; rw [← List.map_id (shV ws)]
    exact List.map_congr_left fun x _ => rfl
  have hbw2 := Below.step hb1 hb2
  have HM := Lib.hid hM
  have HPW := Lib.hid hpw
  have HP2 := Lib.hid (HP.out.later hb2)
  clear hM hok hpw A2 hb1 hb2 hp1 hg1 hm1
  generalize madeV (shV ws) rs = L at *
  generalize shV ws = l at *
  have hgd := Lib.hid HM.out.good
  go_wp2_with fail
  go_loopw [7, 8, 9, 37] (fun s r q i wr => ∃ k : Nat, k ≤ l.length ∧ i = .int .i64 k ∧ s = .int .i64 (lagSum L k) ∧ r = .int .i64 (sumR (L.take k)) ∧ q = .int .i64 (sumW (L.take k)) ∧ Below w2.heap.size w2 wr) (fun _ _ _ i _ => l.length - (intOf i).toNat)
  case atStart => exact ⟨0, Nat.zero_le _, rfl, by simp [lagSum, sumW, sumR], rfl, rfl, Below.refl _ _⟩
  case round =>
    obtain ⟨k, hk, rfl, rfl, rfl, rfl, hbr⟩ := hrel
    by_cases hlt : k < l.length
    · obtain ⟨⟨y1, y2, y3⟩, hy⟩ : ∃ x, L[k]? = some x := ⟨_, List.getElem?_eq_getElem (by rw [HM.out.len]; exact hlt)⟩
      have hyl : l[k]? = some (y1, y2) := by rw [← HPW.out, List.getElem?_map, hy]; rfl
      obtain ⟨r0, r1⟩ := HP2.out k _ hyl
      replace r0 := cell_later hbr r0
      replace r1 := cell_later hbr r1
      simp only [Nat.zero_add] at r0 r1
      have hyb := HM.out.good.each _ (List.mem_of_getElem? hy)
      simp only at hyb
      have hwf := Lib.hid (WalkArith.wf_i64 (n := y1) (by omega))
      have hB := HM.out.good.bounds hy
      have ht := tsk_at HM.out.good hy
      simp only at ht
      have hl1 : lagR L y1 = lagV L (y1, y2, y3) := by unfold lagR; rw [ht]
      have hr1 : ranR L y1 = y3 := by unfold ranR; rw [ht]
      have hid := Lib.hid (hasId_iff.2 ⟨_, List.mem_of_getElem? hy, (rfl : (y1, y2, y3).1 = y1)⟩)
      have HMr := Lib.hid ((HM.out.below hbr).below (below_a wr (.cells #[.int .i64 y1, .int .i64 y2] 28)))
      have z0 := cell_nw wr #[.int .i64 y1, .int .i64 y2] 28 0 _ rfl
      have z1 := cell_nw wr #[.int .i64 y1, .int .i64 y2] 28 1 _ rfl
      have hba := Below.allocS hbr (.cells #[.int .i64 y1, .int .i64 y2] 28)
      have hk0 : (0 : Int) ≤ (k : Int) := by omega
      have hkn : (k : Int) < (l.length : Int) := by omega
      have HL1 := Lib.hid hl1
      have HR1 := Lib.hid hr1
      have HLS := Lib.hid (lagSum_succ hy)
      have HSW := Lib.hid (sumW_take hy)
      have HB := Lib.hid hB
      have hsb := lagSum_bounds hgd.out hsum.2 k
      have hsb1 := lagSum_bounds hgd.out hsum.2 (k + 1)
      have htb := take_bounds hgd.out.ea k
      clear hy hyl hbr ht hl1 hr1 hB
      go_wp2_with fail
      generalize wr.alloc (.cells #[.int .i64 y1, .int .i64 y2] 28) = wa at *
      refine (Lag_fn p g bm capm L l.length y1 wa HMr.out hwf.out).mono ?_
      rintro e w5 ⟨rfl, hb5⟩
      rw [hid.out, HL1.out]
      replace z0 := cell_later hb5 z0
      replace z1 := cell_later hb5 z1
      have HM5 := Lib.hid (HMr.out.below hb5)
      have hba5 := Below.step hba hb5
      go_wp2_with fail
      refine (Ran_fn p g bm capm L l.length y1 w5 HM5.out hwf.out).mono ?_
      rintro e w6 ⟨rfl, rfl⟩
      rw [hid.out, HR1.out]
      obtain ⟨b1, b2, b3, b4, b5, b6, b7, b8, b9, b10, b11, _⟩ := HB.out
      simp only at b1 b2 b3 b4 b5 b6 b7 b8 b9 b10 b11
      have E1 : IntKind.i64.wrap (sumR L * y2) = sumR L * y2 := i64_in _ (by omega)
      have E2 : IntKind.i64.wrap (y3 * sumW L) = y3 * sumW L := i64_in _ (by omega)
      have E3 : IntKind.i64.wrap (sumR L * y2 - y3 * sumW L) = sumR L * y2 - y3 * sumW L := i64_in _ (by omega)
      have E4 : (lagV L (y1, y2, y3) != sumR L * y2 - y3 * sumW L) = false := by simp [lagV]
      have A5 := Lib.hid fun nq => (Weight_any p g bm capm L l.length (w5.drewN nq) (HM5.out.drewN nq)).mono fun e w' (h : e = _ ∧ w5.drewN nq = w') => (⟨h.1, h.2.symm⟩ : e = _ ∧ w' = w5.drewN nq)
      have A6 := Lib.hid fun nq => (Total_any p g bm capm L l.length (w5.drewN nq) (HM5.out.drewN nq)).mono fun e w' (h : e = _ ∧ w5.drewN nq = w') => (⟨h.1, h.2.symm⟩ : e = _ ∧ w' = w5.drewN nq)
      clear b10 b11 b8 b9 hb5 hba
      go_wp2_with fail
      go_quiet ((first | (go_at_call 25; exact Calls.quiet_of_same (A5.out _)) | (go_at_call 18; exact Calls.quiet_of_same (A6.out _))))
      clear E1 E2 E3 E4
      rw [HLS.out] at hsb1
      have E5 : IntKind.i64.wrap (lagSum L k + lagV L (y1, y2, y3)) = lagSum L k + lagV L (y1, y2, y3) := i64_in _ (by omega)
      have E6 : IntKind.i64.wrap (sumR (L.take k) + y3) = sumR (L.take k) + y3 := i64_in _ (by omega)
      have E7 : IntKind.i64.wrap (sumW (L.take k) + y2) = sumW (L.take k) + y2 := i64_in _ (by omega)
      go_wp2_with fail
      go_quiet (fail)
      go_wp2_with fail
      go_roundw
      case rel => exact ⟨k + 1, by omega, by go_num, by rw [HLS.out], by rw [HSW.out.2], by rw [HSW.out.1], below_drewN hba5 _⟩
      case measure => simp [intOf]; omega
    · obtain rfl : k = l.length := by omega
      have hLn : L.length = l.length := HM.out.len
      have e1 : lagSum L l.length = 0 := by rw [← hLn]; exact lagSum_end L
      have e2 : L.take l.length = L := by rw [← hLn]; exact List.take_length
      rw [e1, e2]
      have HLn := Lib.hid hLn
      have hb := Below.step hbw2 hbr
      have HMr := Lib.hid (HM.out.below hbr)
      clear e1 e2 hLn hk hlt hbr
      obtain ⟨wo, rfl⟩ : ∃ wo : World, wo = wr := ⟨_, rfl⟩
      go_wp2_with fail
      refine (Order_fn p g bm capm L l.length wo HMr.out).mono ?_
      rintro e w5 ⟨bo, out, rfl, ho, hio, hb5⟩
      have hrow := own_row ho
      have HIO := Lib.hid hio
      have HM5 := Lib.hid (HMr.out.below hb5)
      have hb5w := Below.step hb hb5
      have HROW := Lib.hid hrow
      have hz1 : ((0 : Int) != 0) = false := by decide
      have hz2 : (sumR L != sumR L) = false := by simp
      have hz3 : (sumW L != sumW L) = false := by simp
      have hz4 : ((l.length : Int) != (l.length : Int)) = false := by simp
      clear ho hio hrow hb5
      go_wp2_with fail
      refine (Total_any p g bm capm L l.length w5 HM5.out).mono ?_
      rintro e w6 ⟨rfl, rfl⟩
      go_wp2_with fail
      refine (Weight_any p g bm capm L l.length w5 HM5.out).mono ?_
      rintro e w6 ⟨rfl, rfl⟩
      obtain ⟨x0, hx0⟩ : ∃ x, L[0]? = some x := ⟨_, List.getElem?_eq_getElem hgd.out.pos⟩
      have hso := Lib.hid (spread_order hgd.out HIO.out hx0)
      have hol : out.length = l.length := by rw [hso.out.1]; exact HLn.out
      have HOL := Lib.hid hol
      have HX0 := Lib.hid hx0
      have hcells := Lib.hid (show ∀ i x, out[i]? = some x → w5.cell? ⟨bo, i, none⟩ = some (.int .i64 x) from fun i x hx => by
        obtain ⟨b', off', e, hc⟩ := HROW.out.2 (by omega)
        cases e
        have := hc i x hx
        rwa [Nat.zero_add] at this)
      have hids := Lib.hid (show ∀ i, i ∈ out → hasId L i = true ∧ (Lit.int .i64 i).wf = true from fun i hi => by
        have h1 := HIO.out.1.mem_iff.1 hi
        obtain ⟨x, hx, rfl⟩ := ids_mem.2 h1
        have := hgd.out.each x hx
        exact ⟨hasId_iff.2 ⟨x, hx, rfl⟩, WalkArith.wf_i64 (by omega)⟩)
      clear hx0 hol
      go_wp2_with fail
      go_loopw [111] (fun i wr => ∃ j : Nat, j ≤ l.length ∧ i = .int .i64 j ∧ Below w5.heap.size w5 wr) (fun i _ => l.length - (intOf i).toNat)
      case atStart => exact ⟨0, Nat.zero_le _, rfl, Below.refl _ _⟩
      case round =>
        obtain ⟨j, hj, rfl, hbr⟩ := hrel
        by_cases hlt : j < l.length
        · obtain ⟨y, hy⟩ : ∃ x, out[j]? = some x := ⟨_, List.getElem?_eq_getElem (by rw [HOL.out]; exact hlt)⟩
          have q0 := cell_later hbr (hcells.out j y hy)
          have hi1 := Lib.hid (hids.out y (List.mem_of_getElem? hy))
          have HMr := Lib.hid (HM5.out.below hbr)
          have hk0 : (0 : Int) ≤ (j : Int) := by omega
          have hkn : (j : Int) < (l.length : Int) := by omega
          have HY := Lib.hid hy
          clear hy
          by_cases hj0 : j = 0
          · subst hj0
            go_wp2_with fail
            refine (Lag_fn p g bm capm L l.length y wr HMr.out hi1.out.2).mono ?_
            rintro e w7 ⟨rfl, hb7⟩
            rw [hi1.out.1]
            have hb8 := Below.step hbr hb7
            go_wp2_with fail
            go_roundw
            case rel => exact ⟨1, by omega, rfl, hb8⟩
            case measure => simp [intOf]; omega
          · obtain ⟨z, hz⟩ : ∃ x, out[j - 1]? = some x := ⟨_, List.getElem?_eq_getElem (by rw [HOL.out]; omega)⟩
            have p0 := cell_later hbr (hcells.out (j - 1) z hz)
            have hi2 := Lib.hid (hids.out z (List.mem_of_getElem? hz))
            have hord : lagR L y < lagR L z ∨ lagR L z = lagR L y ∧ z < y := by
              have := List.pairwise_iff_getElem.1 HIO.out.2
              obtain ⟨lz, ez⟩ := List.getElem?_eq_some_iff.1 hz
              obtain ⟨ly, ey⟩ := List.getElem?_eq_some_iff.1 HY.out
              have := this (j - 1) j lz ly (by omega)
              rw [ez, ey] at this
              exact this
            have hj1 : ((j : Int) - 1).toNat = j - 1 := by omega
            have hj2 : (0 : Int) ≤ (j : Int) - 1 := by omega
            have hj3 : (j : Int) - 1 < (l.length : Int) := by omega
            have hj4 : (0 : Int) < (j : Int) := by omega
            have hj5 : IntKind.i64.wrap ((j : Int) - 1) = (j : Int) - 1 := i64_in _ (by omega)
            have HORD := Lib.hid hord
            clear hz hord
            go_wp2_with fail
            refine (Lag_fn p g bm capm L l.length y wr HMr.out hi1.out.2).mono ?_
            rintro e w7 ⟨rfl, hb7⟩
            rw [hi1.out.1]
            replace q0 := cell_later hb7 q0
            replace p0 := cell_later hb7 p0
            have HM7 := Lib.hid (HMr.out.below hb7)
            go_wp2_with fail
            refine (Lag_fn p g bm capm L l.length z w7 HM7.out hi2.out.2).mono ?_
            rintro e w8 ⟨rfl, hb8⟩
            rw [hi2.out.1]
            replace q0 := cell_later hb8 q0
            replace p0 := cell_later hb8 p0
            have hb9 := Below.step (Below.step hbr hb7) hb8
            have hord := HORD.out
            generalize lagR L y = ly at *
            generalize lagR L z = lz at *
            have t1 : decide (lz < ly) = false := decide_eq_false (by omega)
            by_cases heq : lz = ly
            · subst heq
              have t2 : (lz == lz) = true := by simp
              have t3 : decide (y ≤ z) = false := decide_eq_false (by omega)
              clear hord HORD
              go_wp2_with fail
              go_quiet (fail)
              go_wp2_with fail
              go_roundw
              case rel => exact ⟨j + 1, by omega, by go_num, below_drewN hb9 _⟩
              case measure => simp [intOf]; omega
            · have t2 : (lz == ly) = false := by simpa using heq
              clear hord HORD
              go_wp2_with fail
              go_quiet (fail)
              go_wp2_with fail
              go_roundw
              case rel => exact ⟨j + 1, by omega, by go_num, below_drewN hb9 _⟩
              case measure => simp [intOf]; omega
        · obtain rfl : j = l.length := by omega
          have hb6 := Below.step hb5w hbr
          have HM6 := Lib.hid (HM5.out.below hbr)
          obtain ⟨fa, hfa⟩ : ∃ x, out[0]? = some x := ⟨_, List.getElem?_eq_getElem (by rw [HOL.out]; omega)⟩
          obtain ⟨fz, hfz⟩ : ∃ x, out[l.length - 1]? = some x := ⟨_, List.getElem?_eq_getElem (by rw [HOL.out]; omega)⟩
          have a0 := cell_later hbr (hcells.out 0 fa hfa)
          have z0 := cell_later hbr (hcells.out _ fz hfz)
          have hia := Lib.hid (hids.out fa (List.mem_of_getElem? hfa))
          have hiz := Lib.hid (hids.out fz (List.mem_of_getElem? hfz))
          have hm1 := hso.out.2.1 fa hfa
          have hm2 := hso.out.2.2.1 fz (by rw [HLn.out]; exact hfz)
          have hm3 := hso.out.2.2.2.1
          have hm4 := hso.out.2.2.2.2
          have HM1 := Lib.hid hm1
          have HM2 := Lib.hid hm2
          have k1 : ((l.length : Int) - 1).toNat = l.length - 1 := by omega
          have k2 : (0 : Int) ≤ (l.length : Int) - 1 := by omega
          have k3 : (l.length : Int) - 1 < (l.length : Int) := by omega
          have k4 : (0 : Int) < (l.length : Int) := by omega
          clear hfa hfz hm1 hm2 hbr hlt hj
          go_wp2_with fail
          refine (Spread_any p g bm capm L l.length wr HM6.out).mono ?_
          rintro e w7 ⟨hb7, x1, hx1, rfl⟩
          obtain rfl : x1 = x0 := by have := HX0.out; rw [this] at hx1; exact (Option.some.inj hx1).symm
          rw [HM1.out, HM2.out]
          rw [HM1.out] at hm3
          rw [HM2.out] at hm4
          replace a0 := cell_later hb7 a0
          replace z0 := cell_later hb7 z0
          have HM7 := Lib.hid (HM6.out.below hb7)
          have hb7w := Below.step hb6 hb7
          clear hx1 hb7 HM1 HM2
          go_wp2_with fail
          refine (Lag_fn p g bm capm L l.length fa w7 HM7.out hia.out.2).mono ?_
          rintro e w8 ⟨rfl, hb8⟩
          rw [hia.out.1]
          replace z0 := cell_later hb8 z0
          have HM8 := Lib.hid (HM7.out.below hb8)
          have hb8w := Below.step hb7w hb8
          clear hb8
          go_wp2_with fail
          refine (Lag_fn p g bm capm L l.length fz w8 HM8.out hiz.out.2).mono ?_
          rintro e w9 ⟨rfl, hb9⟩
          rw [hiz.out.1]
          have hb9w := Below.step hb8w hb9
          generalize lagR L fa = la at *
          generalize lagR L fz = lz at *
          have t1 : (la == la) = true := by simp
          have t2 : (lz == lz) = true := by simp
          have t3 : decide (0 ≤ la) = true := decide_eq_true hm3
          have t4 : decide (lz ≤ 0) = true := decide_eq_true hm4
          go_wp2_with fail
          refine (awake_true w9).mono ?_
          rintro e w10 ⟨rfl, hb10⟩
          go_wp2_with fail
          go_ret
          exact ⟨rfl, Below.step hb9w hb10⟩
end Go.Proofs.Ytgieaojkbfjoiaa
