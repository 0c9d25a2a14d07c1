/-
  The walk of same.
-/
import Derived.Test.YtgieaojkbfjoiaaLagRight
namespace Go.Proofs.Ytgieaojkbfjoiaa
open Go.RowKit Go.Maps Go.IntWalk Go.Lib Go.Sort
set_option linter.unusedVariables false
theorem own_below {w w' : World} {base e size : Nat} {v : Value} {n : Nat} {xs : List Value} (h : w.ownsRow base e size v n xs) (hb : Below w.heap.size w w') : w'.ownsRow base e size v n xs := by
  refine ⟨h.1, ?_⟩
  rcases h.2 with h2 | ⟨g, cap, cur, h1, h2, h3, h4⟩
  · exact Or.inl h2
  · have hg : g < w.heap.size := by
      rcases Nat.lt_or_ge g w.heap.size with q | q
      · exact q
      · rw [Array.getElem?_eq_none q] at h3; cases h3
    exact Or.inr ⟨g, cap, cur, h1, h2, by rw [hb.block g hg]; exact h3, h4⟩
set_option maxRecDepth 100000 in
set_option maxHeartbeats 4000000 in
theorem same_yes (p g bm cap rg rcap n : Nat) (L : List (Int × Int × Int)) (id : Int) (w : World) (hM : MeterAt w p g bm cap L n) (hR : RunsAt w rg L) (hid : (Lit.int .i64 id).wf = true) (hh : hasId L id = true) :
    Calls Try.prog 38 #[.pointer (some ⟨p, 0, none⟩), .slice (some ⟨rg, 0, none⟩) n rcap, .int .i64 id] w fun e w' => e = .returned (.bool true) ∧ Below w.heap.size w w' := by
  have HM := Lib.hid hM
  have HR := Lib.hid hR
  have HN := Lib.hid hM.len
  have HG := Lib.hid hM.good
  have hn1 : n ≤ 1024 := by rw [← hM.len]; exact hM.good.many
  have hn0 := hM.pos
  have A1 := Ran_fn p g bm cap L n id w hM hid
  have A2 := Lag_fn p g bm cap L n id w hM hid
  have A3 := fun W h => Until_fn p g bm cap L n id W h hid
  rw [hh] at A1 A2
  simp only [hh, if_true] at A3
  replace A1 := Lib.hid A1
  replace A2 := Lib.hid A2
  replace A3 := Lib.hid A3
  have HID := Lib.hid hid
  have HH := Lib.hid hh
  clear hM hR hid hh
  go_enter Try.func38, Try.ntmps38
  go_wp2_with fail
  refine A1.out.mono ?_
  rintro e w1 ⟨rfl, rfl⟩
  go_wp2_with fail
  refine A2.out.mono ?_
  rintro e w2 ⟨rfl, hb2⟩
  have HM2 := Lib.hid (HM.out.below hb2)
  have HR2 := Lib.hid (HR.out.later hb2)
  clear A1 A2
  go_wp2_with fail
  refine (A3.out w2 HM2.out).mono ?_
  rintro e w3 ⟨rfl, hb3⟩
  have HM3 := Lib.hid (HM2.out.below hb3)
  have HR3 := Lib.hid (HR2.out.later hb3)
  have hbw3 := Below.step hb2 hb3
  clear hb2 hb3
  go_wp2_with fail
  refine (rFind_any rg rcap n L id w3 HR3.out HN.out (by omega)).mono ?_
  rintro e w4 ⟨⟨k, x, hat, rfl⟩ | ⟨hno, rfl⟩, rfl⟩
  rotate_left
  · have := hasId_not hno; rw [HH.out] at this; cases this
  obtain ⟨htk, hhas⟩ := at_fn HG.out hat
  obtain ⟨hx, hxe⟩ := hat
  rw [show lagR L id = lagV L x by unfold lagR; rw [htk], show ranR L id = x.2.2 by unfold ranR; rw [htk], show untilR L id = untilV L x by unfold untilR; rw [htk]]
  have hkn' : k < n := by rw [← HN.out]; exact (List.getElem?_eq_some_iff.1 hx).1
  have q2 := (HR3.out k x hx).2.2
  have hk0 : (0 : Int) ≤ (k : Int) := by omega
  have hkn : (k : Int) < (n : Int) := by omega
  have B1 := Lib.hid fun W h => rLag_any rg rcap n L k x W h HN.out HG.out hx
  have B2 := Lib.hid fun W h => rUntil_any rg rcap n L k x W h HN.out HG.out hx
  have HX := Lib.hid hx
  clear htk hhas hx hxe
  generalize lagV L x = lv at *
  generalize untilV L x = uv at *
  have s1 : (x.2.2 != x.2.2) = false := by simp
  have s2 : (lv != lv) = false := by simp
  have s3 : (uv != uv) = false := by simp
  have s4 : decide ((k : Int) < 0) = false := decide_eq_false (by omega)
  have s5 : decide (0 ≤ (k : Int)) = true := decide_eq_true (by omega)
  go_wp2_with fail
  refine (B1.out w3 HR3.out).mono ?_
  rintro e w4 ⟨rfl, q4, rfl⟩
  go_wp2_with fail
  refine (B2.out _ (HR3.out.drewN q4)).mono ?_
  rintro e w5 ⟨rfl, q5, rfl⟩
  have hbT := below_drewN (below_drewN hbw3 q4) q5
  have HMT := Lib.hid ((HM3.out.drewN q4).drewN q5)
  have HRT := Lib.hid ((HR3.out.drewN q4).drewN q5)
  clear s1 s2 s3 s4 s5 q2 B1 B2 hbw3
  rw [World.drewN_drewN] at hbT HMT HRT
  simp only [World.drewN_drewN]
  generalize w3.drewN (q4 + q5) = wT at *
  have HBw := Lib.hid hbT
  go_wp2_with fail
  refine (Order_fn p g bm cap L n wT HMT.out).mono ?_
  rintro e w5 ⟨bo, out, rfl, ho, hio, hb5⟩
  have HIO := Lib.hid hio
  have HM5 := Lib.hid (HMT.out.below hb5)
  have HR5 := Lib.hid (HRT.out.later hb5)
  have HO5 := Lib.hid ho
  have hbw5 := Below.step HBw.out hb5
  have hbase : w.heap.size ≤ wT.heap.size := HBw.out.size
  clear hio ho hb5
  go_wp2_with fail
  refine (Spread_any p g bm cap L n w5 HM5.out).mono ?_
  rintro e w6 ⟨hb6, x6, hx6, rfl⟩
  have HX6 := Lib.hid hx6
  have HM6 := Lib.hid (HM5.out.below hb6)
  have HR6 := Lib.hid (HR5.out.later hb6)
  have HO6 := Lib.hid (own_below HO5.out hb6)
  have hbw6 := Below.step hbw5 hb6
  clear hx6 hb6
  go_wp2_with fail
  refine (rSpread_any rg rcap n L w6 HR6.out HN.out HG.out).mono ?_
  rintro e w7 ⟨⟨x7, hx7, rfl⟩, q7, rfl⟩
  obtain rfl : x7 = x6 := by have := HX6.out; rw [this] at hx7; exact (Option.some.inj hx7).symm
  have hb7 := below_drewN (Below.refl w6.heap.size w6) q7
  have HM7 := Lib.hid (HM6.out.below hb7)
  have HR7 := Lib.hid (HR6.out.later hb7)
  have HO7 := Lib.hid (own_below HO6.out hb7)
  have hbw7 := Below.step hbw6 hb7
  clear hx7 hb7
  generalize mostV L (lagV L x7) L.length = mo at *
  generalize leastV L (lagV L x7) L.length = le at *
  generalize w6.drewN q7 = w7 at *
  go_wp2_with fail
  refine (rOrder_any rg rcap n L w7 HR7.out HN.out HG.out).mono ?_
  rintro e w8 ⟨a8, c8, out2, rfl, hr8, hio2, hb8⟩
  obtain rfl := ids_unique HIO.out hio2
  have HM8 := Lib.hid (HM7.out.below hb8)
  have HR8 := Lib.hid (HR7.out.later hb8)
  have HO8 := Lib.hid (own_below HO7.out hb8)
  have hbw8 := Below.step hbw7 hb8
  have HRow8 := Lib.hid hr8
  clear hio2 hb8 hr8
  go_wp2_with fail
  refine (SameInts_any _ a8 n n _ c8 out out w8 (own_row HO8.out) HRow8.out (by omega) (by omega)).mono ?_
  rintro e w9 ⟨rfl, hg9⟩
  rw [show decide (out = out) = true from decide_eq_true rfl]
  have HM9 := Lib.hid (HM8.out.below hg9.below)
  have HR9 := Lib.hid (HR8.out.later hg9.below)
  have HO9 := Lib.hid (own_below HO8.out hg9.below)
  have hbw9 := Below.step hbw8 hg9.below
  clear hg9
  have t1 : (mo != mo) = false := by simp
  have t2 : (le != le) = false := by simp
  go_wp2_with fail
  refine (Next_any p g bm cap L n w9 HM9.out).mono ?_
  rintro e w10 ⟨hb10, x10, hx10, rfl⟩
  have HX10 := Lib.hid hx10
  have HM10 := Lib.hid (HM9.out.below hb10)
  have HR10 := Lib.hid (HR9.out.later hb10)
  have HO10 := Lib.hid (own_below HO9.out hb10)
  have hbw10 := Below.step hbw9 hb10
  clear hx10 hb10
  go_wp2_with fail
  refine (rNext_any rg rcap n L w10 HR10.out HN.out HG.out).mono ?_
  rintro e w11 ⟨⟨x11, hx11, rfl⟩, q11, rfl⟩
  obtain rfl : x11 = x10 := by have := HX10.out; rw [this] at hx11; exact (Option.some.inj hx11).symm
  have hb11 := below_drewN (Below.refl w10.heap.size w10) q11
  have HM11 := Lib.hid (HM10.out.below hb11)
  have HR11 := Lib.hid (HR10.out.later hb11)
  have HO11 := Lib.hid (own_below HO10.out hb11)
  have hbw11 := Below.step hbw10 hb11
  clear hx11 hb11
  generalize (minV L x11 L.length).1 = nx at *
  generalize w10.drewN q11 = w11 at *
  have t3 : (nx != nx) = false := by simp
  go_wp2_with fail
  refine (Total_any p g bm cap L n w11 HM11.out).mono ?_
  rintro e w12 ⟨rfl, rfl⟩
  go_wp2_with fail
  refine (rTotal_any rg rcap n L w11 HR11.out HN.out HG.out).mono ?_
  rintro e w12 ⟨rfl, rfl⟩
  have t4 : (sumR L != sumR L) = false := by simp
  go_wp2_with fail
  refine (Weight_any p g bm cap L n w12 HM11.out).mono ?_
  rintro e w13 ⟨rfl, rfl⟩
  go_wp2_with fail
  refine (rWeight_any rg rcap n L w12 HR11.out HN.out HG.out).mono ?_
  rintro e w13 ⟨rfl, rfl⟩
  have t5 : (sumW L != sumW L) = false := by simp
  go_wp2_with fail
  go_loopw [150] (fun i wr => ∃ (k : Nat) (xs : List Int), k ≤ n ∧ i = .int .i64 k ∧ wr.ownsRow wT.heap.size 3 1 (.slice (some ⟨bo, 0, none⟩) n n) n (intsV xs) ∧ Below w.heap.size w wr) (fun i _ => n - (intOf i).toNat)
  case atStart => exact ⟨0, out, Nat.zero_le _, rfl, HO11.out, hbw11⟩
  case round =>
    obtain ⟨k, xs, hk, rfl, hown, hbr⟩ := hrel
    by_cases hlt : k < n
    · have hxl : xs.length = n := by have := hown.1; simpa [intsV] using this
      obtain ⟨x, hx⟩ : ∃ x, xs[k]? = some x := ⟨_, List.getElem?_eq_getElem (by omega)⟩
      have q0 : wr.cell? ⟨bo, k, none⟩ = some (.int .i64 x) := by rw [hown.cellAt k (by omega)]; simp [intsV, hx]
      have f0 := hown.frozenAt k
      have hk0 : (0 : Int) ≤ (k : Int) := by omega
      have hkn : (k : Int) < (n : Int) := by omega
      have hbo := (hown.lt bo rfl).1
      have HO := Lib.hid hown
      clear hx hown
      go_wp2_with fail
      go_roundw
      case rel =>
        refine ⟨k + 1, xs.set k (wrap64 (x + 1)), by omega, by go_num, ?_, hbr.setCell (p := ⟨bo, k, none⟩) (Nat.le_trans hbase hbo) _⟩
        have := (HO.out.stored k (.int .i64 (wrap64 (x + 1)))).1
        unfold intsV at this ⊢
        rw [List.map_set]
        exact this
      case measure => simp [intOf]; omega
    · obtain rfl : k = n := by omega
      clear hown
      go_wp2_with fail
      go_ret
      exact ⟨rfl, hbr⟩
set_option maxRecDepth 100000 in
set_option maxHeartbeats 4000000 in
theorem same_no (p g bm cap rg rcap n : Nat) (L : List (Int × Int × Int)) (id : Int) (w : World) (hM : MeterAt w p g bm cap L n) (hR : RunsAt w rg L) (hid : (Lit.int .i64 id).wf = true) (hh : hasId L id = false) :
    Calls Try.prog 38 #[.pointer (some ⟨p, 0, none⟩), .slice (some ⟨rg, 0, none⟩) n rcap, .int .i64 id] w fun e w' => e = .returned (.bool true) ∧ Below w.heap.size w w' := by
  have HM := Lib.hid hM
  have HR := Lib.hid hR
  have HN := Lib.hid hM.len
  have HG := Lib.hid hM.good
  have hn1 : n ≤ 1024 := by rw [← hM.len]; exact hM.good.many
  have hn0 := hM.pos
  have A1 := Ran_fn p g bm cap L n id w hM hid
  have A2 := Lag_fn p g bm cap L n id w hM hid
  have A3 := fun W h => Until_fn p g bm cap L n id W h hid
  rw [hh] at A1 A2
  simp only [hh, Bool.false_eq_true, if_false] at A3
  replace A1 := Lib.hid A1
  replace A2 := Lib.hid A2
  replace A3 := Lib.hid A3
  have HID := Lib.hid hid
  have HH := Lib.hid hh
  clear hM hR hid hh
  go_enter Try.func38, Try.ntmps38
  go_wp2_with fail
  refine A1.out.mono ?_
  rintro e w1 ⟨rfl, rfl⟩
  go_wp2_with fail
  refine A2.out.mono ?_
  rintro e w2 ⟨rfl, hb2⟩
  have HM2 := Lib.hid (HM.out.below hb2)
  have HR2 := Lib.hid (HR.out.later hb2)
  clear A1 A2
  go_wp2_with fail
  refine (A3.out w2 HM2.out).mono ?_
  rintro e w3 ⟨rfl, hb3⟩
  have HM3 := Lib.hid (HM2.out.below hb3)
  have HR3 := Lib.hid (HR2.out.later hb3)
  have hbw3 := Below.step hb2 hb3
  clear hb2 hb3
  go_wp2_with fail
  refine (rFind_any rg rcap n L id w3 HR3.out HN.out (by omega)).mono ?_
  rintro e w4 ⟨⟨k, x, hat, rfl⟩ | ⟨hno, rfl⟩, rfl⟩
  · have := (at_fn HG.out hat).2; rw [HH.out] at this; cases this
  rw [show lagR L id = 0 by unfold lagR; rw [tsk_none hno], show ranR L id = 0 by unfold ranR; rw [tsk_none hno], show untilR L id = 0 by unfold untilR; rw [tsk_none hno]]
  clear hno
  obtain ⟨wT, hwT⟩ : ∃ wT : World, wT = w3 := ⟨_, rfl⟩
  subst hwT
  have hbT := hbw3
  have HMT := HM3
  have HRT := HR3
  clear hbw3 HM3 HR3
  have HBw := Lib.hid hbT
  go_wp2_with fail
  refine (Order_fn p g bm cap L n wT HMT.out).mono ?_
  rintro e w5 ⟨bo, out, rfl, ho, hio, hb5⟩
  have HIO := Lib.hid hio
  have HM5 := Lib.hid (HMT.out.below hb5)
  have HR5 := Lib.hid (HRT.out.later hb5)
  have HO5 := Lib.hid ho
  have hbw5 := Below.step HBw.out hb5
  have hbase : w.heap.size ≤ wT.heap.size := HBw.out.size
  clear hio ho hb5
  go_wp2_with fail
  refine (Spread_any p g bm cap L n w5 HM5.out).mono ?_
  rintro e w6 ⟨hb6, x6, hx6, rfl⟩
  have HX6 := Lib.hid hx6
  have HM6 := Lib.hid (HM5.out.below hb6)
  have HR6 := Lib.hid (HR5.out.later hb6)
  have HO6 := Lib.hid (own_below HO5.out hb6)
  have hbw6 := Below.step hbw5 hb6
  clear hx6 hb6
  go_wp2_with fail
  refine (rSpread_any rg rcap n L w6 HR6.out HN.out HG.out).mono ?_
  rintro e w7 ⟨⟨x7, hx7, rfl⟩, q7, rfl⟩
  obtain rfl : x7 = x6 := by have := HX6.out; rw [this] at hx7; exact (Option.some.inj hx7).symm
  have hb7 := below_drewN (Below.refl w6.heap.size w6) q7
  have HM7 := Lib.hid (HM6.out.below hb7)
  have HR7 := Lib.hid (HR6.out.later hb7)
  have HO7 := Lib.hid (own_below HO6.out hb7)
  have hbw7 := Below.step hbw6 hb7
  clear hx7 hb7
  generalize mostV L (lagV L x7) L.length = mo at *
  generalize leastV L (lagV L x7) L.length = le at *
  generalize w6.drewN q7 = w7 at *
  go_wp2_with fail
  refine (rOrder_any rg rcap n L w7 HR7.out HN.out HG.out).mono ?_
  rintro e w8 ⟨a8, c8, out2, rfl, hr8, hio2, hb8⟩
  obtain rfl := ids_unique HIO.out hio2
  have HM8 := Lib.hid (HM7.out.below hb8)
  have HR8 := Lib.hid (HR7.out.later hb8)
  have HO8 := Lib.hid (own_below HO7.out hb8)
  have hbw8 := Below.step hbw7 hb8
  have HRow8 := Lib.hid hr8
  clear hio2 hb8 hr8
  go_wp2_with fail
  refine (SameInts_any _ a8 n n _ c8 out out w8 (own_row HO8.out) HRow8.out (by omega) (by omega)).mono ?_
  rintro e w9 ⟨rfl, hg9⟩
  rw [show decide (out = out) = true from decide_eq_true rfl]
  have HM9 := Lib.hid (HM8.out.below hg9.below)
  have HR9 := Lib.hid (HR8.out.later hg9.below)
  have HO9 := Lib.hid (own_below HO8.out hg9.below)
  have hbw9 := Below.step hbw8 hg9.below
  clear hg9
  have t1 : (mo != mo) = false := by simp
  have t2 : (le != le) = false := by simp
  go_wp2_with fail
  refine (Next_any p g bm cap L n w9 HM9.out).mono ?_
  rintro e w10 ⟨hb10, x10, hx10, rfl⟩
  have HX10 := Lib.hid hx10
  have HM10 := Lib.hid (HM9.out.below hb10)
  have HR10 := Lib.hid (HR9.out.later hb10)
  have HO10 := Lib.hid (own_below HO9.out hb10)
  have hbw10 := Below.step hbw9 hb10
  clear hx10 hb10
  go_wp2_with fail
  refine (rNext_any rg rcap n L w10 HR10.out HN.out HG.out).mono ?_
  rintro e w11 ⟨⟨x11, hx11, rfl⟩, q11, rfl⟩
  obtain rfl : x11 = x10 := by have := HX10.out; rw [this] at hx11; exact (Option.some.inj hx11).symm
  have hb11 := below_drewN (Below.refl w10.heap.size w10) q11
  have HM11 := Lib.hid (HM10.out.below hb11)
  have HR11 := Lib.hid (HR10.out.later hb11)
  have HO11 := Lib.hid (own_below HO10.out hb11)
  have hbw11 := Below.step hbw10 hb11
  clear hx11 hb11
  generalize (minV L x11 L.length).1 = nx at *
  generalize w10.drewN q11 = w11 at *
  have t3 : (nx != nx) = false := by simp
  go_wp2_with fail
  refine (Total_any p g bm cap L n w11 HM11.out).mono ?_
  rintro e w12 ⟨rfl, rfl⟩
  go_wp2_with fail
  refine (rTotal_any rg rcap n L w11 HR11.out HN.out HG.out).mono ?_
  rintro e w12 ⟨rfl, rfl⟩
  have t4 : (sumR L != sumR L) = false := by simp
  go_wp2_with fail
  refine (Weight_any p g bm cap L n w12 HM11.out).mono ?_
  rintro e w13 ⟨rfl, rfl⟩
  go_wp2_with fail
  refine (rWeight_any rg rcap n L w12 HR11.out HN.out HG.out).mono ?_
  rintro e w13 ⟨rfl, rfl⟩
  have t5 : (sumW L != sumW L) = false := by simp
  go_wp2_with fail
  go_loopw [150] (fun i wr => ∃ (k : Nat) (xs : List Int), k ≤ n ∧ i = .int .i64 k ∧ wr.ownsRow wT.heap.size 3 1 (.slice (some ⟨bo, 0, none⟩) n n) n (intsV xs) ∧ Below w.heap.size w wr) (fun i _ => n - (intOf i).toNat)
  case atStart => exact ⟨0, out, Nat.zero_le _, rfl, HO11.out, hbw11⟩
  case round =>
    obtain ⟨k, xs, hk, rfl, hown, hbr⟩ := hrel
    by_cases hlt : k < n
    · have hxl : xs.length = n := by have := hown.1; simpa [intsV] using this
      obtain ⟨x, hx⟩ : ∃ x, xs[k]? = some x := ⟨_, List.getElem?_eq_getElem (by omega)⟩
      have q0 : wr.cell? ⟨bo, k, none⟩ = some (.int .i64 x) := by rw [hown.cellAt k (by omega)]; simp [intsV, hx]
      have f0 := hown.frozenAt k
      have hk0 : (0 : Int) ≤ (k : Int) := by omega
      have hkn : (k : Int) < (n : Int) := by omega
      have hbo := (hown.lt bo rfl).1
      have HO := Lib.hid hown
      clear hx hown
      go_wp2_with fail
      go_roundw
      case rel =>
        refine ⟨k + 1, xs.set k (wrap64 (x + 1)), by omega, by go_num, ?_, hbr.setCell (p := ⟨bo, k, none⟩) (Nat.le_trans hbase hbo) _⟩
        have := (HO.out.stored k (.int .i64 (wrap64 (x + 1)))).1
        unfold intsV at this ⊢
        rw [List.map_set]
        exact this
      case measure => simp [intOf]; omega
    · obtain rfl : k = n := by omega
      clear hown
      go_wp2_with fail
      go_ret
      exact ⟨rfl, hbr⟩
theorem same_any (p g bm cap rg rcap n : Nat) (L : List (Int × Int × Int)) (id : Int) (w : World) (hM : MeterAt w p g bm cap L n) (hR : RunsAt w rg L) (hid : (Lit.int .i64 id).wf = true) :
    Calls Try.prog 38 #[.pointer (some ⟨p, 0, none⟩), .slice (some ⟨rg, 0, none⟩) n rcap, .int .i64 id] w fun e w' => e = .returned (.bool true) ∧ Below w.heap.size w w' := by
  cases hh : hasId L id with
  | true => exact same_yes p g bm cap rg rcap n L id w hM hR hid hh
  | false => exact same_no p g bm cap rg rcap n L id w hM hR hid hh
end Go.Proofs.Ytgieaojkbfjoiaa
