/-
  The walk of LagOrder.
-/
import Derived.Test.YtgieaojkbfjoiaaLagOrdM
namespace Go.Proofs.Ytgieaojkbfjoiaa
open Go.RowKit Go.Maps Go.IntWalk Go.Lib Go.Sort
set_option linter.unusedVariables false
theorem PairsAt.kept {w w' : World} {b off : Nat} {l : List (Int × Int)} {S : List Nat} (h : PairsAt w b off l) (hk : Kept S w w') (hS : b ∉ S) : PairsAt w' b off l := fun k x hx => by
  obtain ⟨a, c⟩ := h k x hx
  exact ⟨hk.cellAt a hS, hk.cellAt c hS⟩
def roundU (l : List (Int × Int)) (rs : List Int) (m s : Nat) (i : Nat) : Int × Int := turnU l rs ((i + s) % m)
theorem ranTo_ids (l : List (Int × Int)) (f : Int → Int) : idsL (ranTo l f) = l.map (·.1) := by simp [idsL, ranTo]
theorem ranTo_W (l : List (Int × Int)) (f : Int → Int) : sumW (ranTo l f) = sumW (ran0 l) := by
  induction l with
  | nil => rfl
  | cons x r ih => simp only [ranTo, ran0, List.map_cons, sumW] at ih ⊢; rw [ih]
/-- one round of the second meter -/
theorem ord_step {l : List (Int × Int)} {rs : List Int} (hl : newC l = 0) (hf : ∀ x ∈ rs, 0 ≤ x ∧ x ≤ 65535) {m s i : Nat} {x t : Int} (hm : m ≤ 60) (hi : i < m) (hx : rs[(i + s) % m]? = some x)
    (hg : Good (ranTo l (tot (roundU l rs m s) i))) (hs : sumR (ranTo l (tot (roundU l rs m s) i)) ≤ 65535 * i) (h0 : 0 ≤ t) (h1 : t ≤ x) :
    runC (ranTo l (tot (roundU l rs m s) i)) (turnId l ((i + s) % m)) t = 0 ∧ runC (bump (ranTo l (tot (roundU l rs m s) i)) (turnId l ((i + s) % m)) t) (turnId l ((i + s) % m)) (x - t) = 0 ∧
      bump (bump (ranTo l (tot (roundU l rs m s) i)) (turnId l ((i + s) % m)) t) (turnId l ((i + s) % m)) (x - t) = ranTo l (tot (roundU l rs m s) (i + 1)) ∧ sumR (ranTo l (tot (roundU l rs m s) (i + 1))) ≤ 65535 * (i + 1 : Nat) := by
  have hb := hf x (List.mem_of_getElem? hx)
  have hmem : ∀ f, ∃ y ∈ ranTo l f, y.1 = turnId l ((i + s) % m) := fun f => by
    rw [ids_mem, ranTo_ids, List.mem_map]; exact turnId_mem (newC_zero hl).1 _
  have e : (roundU l rs m s i) = (turnId l ((i + s) % m), x) := by unfold roundU turnU; rw [hx]; rfl
  have e2 := tot_two l (roundU l rs m s) i t
  rw [e] at e2
  simp only at e2
  have c1 : runC (ranTo l (tot (roundU l rs m s) i)) (turnId l ((i + s) % m)) t = 0 := runC_zero h0 (by omega) (hmem _) (by omega)
  have hg1 := hg.bump (hmem _) h0 (by omega : sumR _ + t ≤ 68719476736)
  have r1 := bump_R _ _ t hg.ids (hmem (tot (roundU l rs m s) i))
  have hm1 : ∃ y ∈ bump (ranTo l (tot (roundU l rs m s) i)) (turnId l ((i + s) % m)) t, y.1 = turnId l ((i + s) % m) := by rw [ranTo_bump]; exact hmem _
  have r2 := bump_R _ _ (x - t) hg1.ids hm1
  refine ⟨c1, runC_zero (by omega) (by omega) hm1 (by omega), e2, ?_⟩
  rw [← e2, r2, r1]
  omega
/-- behind all rounds both meters are alike -/
theorem ord_end {l : List (Int × Int)} {rs : List Int} (hl : newC l = 0) (hf : ∀ x ∈ rs, 0 ≤ x ∧ x ≤ 65535) {m s : Nat} (hm : m = min rs.length 60) : ranTo l (tot (roundU l rs m s) m) = madeV l rs := by
  unfold madeV
  rw [← hm, (made_tot hl hf m (by omega) (by omega)).1]
  congr 1
  funext j
  exact sumTo_rot (fun i => if j = (turnU l rs i).1 then (turnU l rs i).2 else 0) m s
set_option maxRecDepth 100000 in
set_option maxHeartbeats 2000000 in
theorem LagOrder_true (s0 : Option Addr) (l0 c0 : Nat) (F0 : Nat → Nat → Value) (s1 : Option Addr) (l1 c1 : Nat) (F1 : Nat → Nat → Value) (a2 a3 a4 : Int) (w : World) (r0 : PlainRow [some .u16] w s0 l0 c0 F0) (r1 : PlainRow [some .u16] w s1 l1 c1 F1)
    (g2 : (Lit.int .u8 a2).wf = true) (g3 : (Lit.int .u8 a3).wf = true) (g4 : (Lit.int .u8 a4).wf = true) :
    Calls Try.prog 3 #[.slice s0 l0 c0, .slice s1 l1 c1, .int .u8 a2, .int .u8 a3, .int .u8 a4] w fun e w' => e = .returned (.bool true) ∧ Below w.heap.size w w' := by
  obtain ⟨ws, hws⟩ := words_of r0
  obtain ⟨rs, hrs⟩ := words_of r1
  obtain ⟨hsn, hsp, hs12⟩ := shV_ok ws hws.fit
  have hg2 := u8_of g2
  have hg3 := u8_of g3
  have hg4 := u8_of g4
  obtain ⟨s, rfl⟩ := Int.eq_ofNat_of_zero_le hg2.1
  have A1 := Lib.hid (Shares_any s0 l0 c0 ws w hws)
  have hmax := hrs.max
  have hle := hrs.le
  obtain ⟨m, hm⟩ : ∃ m : Nat, m = min l1 60 := ⟨_, rfl⟩
  have e0 : min (l1 : Int) 60 = (m : Int) := by omega
  have hmn : m ≤ l1 := by omega
  have hm60 : m ≤ 60 := by omega
  have HMM := Lib.hid (show m = min rs.length 60 by rw [hrs.row.1]; exact hm)
  have HR := Lib.hid hrs
  have HSN := Lib.hid hsn
  clear r0 r1 hws hrs hsn hm g2 g3 g4
  go_enter Try.func3, Try.ntmps3
  go_wp2_with fail
  refine A1.out.mono ?_
  rintro e w1 ⟨b, cap, rfl, ho, hb1⟩
  obtain ⟨_, _, he, h⟩ := own_pairs ho
  have hpa : PairsAt w1 b 0 (shV ws) := by
    rcases h with h | ⟨_, _, e, h⟩
    · rw [h] at hsp; simp at hsp
    · cases he; cases e; exact h
  have HP := Lib.hid hpa
  have A2 := Lib.hid (made_any b 0 cap (shV ws) s1 l1 c1 rs w1 HSN.out hpa (HR.out.later hb1))
  clear ho he h hpa A1
  go_wp2_with fail
  refine A2.out.mono ?_
  rintro e w2 ⟨p1, g1, bm1, cap1, rfl, hM1, hok1, hp1, hg1, hm1, hb2⟩
  have HP2 := Lib.hid (HP.out.later hb2)
  have HMA := Lib.hid hM1
  have A3 := Lib.hid (made_any b 0 cap (shV ws) none 0 0 [] w2 HSN.out HP2.out ⟨⟨rfl, fun h => absurd h (by omega)⟩, Nat.le_refl _, by omega, fun _ => rfl, fun x hx => by cases hx⟩)
  clear hM1 A2 hok1
  go_wp2_with fail
  refine A3.out.mono ?_
  rintro e w3 ⟨p2, g2, bm2, cap2, rfl, hM2, hok2, hp2, hg2', hm2, hb3⟩
  have hbw3 := Below.step (Below.step hb1 hb2) hb3
  have HPG := Lib.hid (show ∀ k ∈ [p2, g2], w.heap.size ≤ k from fun k hk => by
    have := hb1.size
    have := hb2.size
    simp only [List.mem_cons, List.not_mem_nil, or_false] at hk; omega)
  have hlt1 := HMA.out.lts
  have HNA := Lib.hid (show p1 ∉ [p2, g2] ∧ g1 ∉ [p2, g2] ∧ bm1 ∉ [p2, g2] by
    simp only [List.mem_cons, List.not_mem_nil, or_false]
    omega)
  have HNB := Lib.hid (show b ∉ [p2, g2] by
    have := lt_of_cell (HP2.out 0 (shV ws)[0] (List.getElem?_eq_getElem hsp)).1
    simp only [List.mem_cons, List.not_mem_nil, or_false]
    omega)
  have HMA3 := Lib.hid (HMA.out.below hb3)
  have HMB3 := Lib.hid (show MeterAt w3 p2 g2 bm2 cap2 (ranTo (shV ws) (tot (roundU (shV ws) rs m s) 0)) (shV ws).length from hM2)
  have HP3 := Lib.hid (HP2.out.later hb3)
  clear hM2 hok2 A3 hlt1 hb1 hb2 hb3
  generalize shV ws = l at *
  go_wp2_with fail
  go_loopw [53] (fun i wr => ∃ k : Nat, k ≤ m ∧ i = .int .i64 k ∧ MeterAt wr p1 g1 bm1 cap1 (madeV l rs) l.length ∧ MeterAt wr p2 g2 bm2 cap2 (ranTo l (tot (roundU l rs m s) k)) l.length ∧ sumR (ranTo l (tot (roundU l rs m s) k)) ≤ 65535 * k ∧ PairsAt wr b 0 l ∧ Below w.heap.size w wr) (fun i _ => m - (intOf i).toNat)
  case atStart => exact ⟨0, Nat.zero_le _, rfl, HMA3.out, HMB3.out, by rw [show ranTo l (tot (roundU l rs m s) 0) = ran0 l from rfl, ran0_R]; decide, HP3.out, hbw3⟩
  case round =>
    obtain ⟨k, hk, rfl, hMA, hMB, hsum, hP, hb⟩ := hrel
    by_cases hlt : k < m
    · obtain ⟨br, offr, hadr, hcr⟩ := HR.out.row.2 (by omega)
      subst hadr
      have hkk : (k + s) % m < m := Nat.mod_lt _ (by omega)
      obtain ⟨x, hx⟩ : ∃ x, rs[(k + s) % m]? = some x := ⟨_, List.getElem?_eq_getElem (by rw [HR.out.row.1]; omega)⟩
      have q0 := cell_later hb (hcr _ x hx)
      have hfx := HR.out.fit x (List.mem_of_getElem? hx)
      obtain ⟨u1, u2, u3, u4⟩ := ord_step (t := min x a3) HSN.out HR.out.fit hm60 hlt hx hMB.good hsum (by omega) (by omega)
      have hmod : (k + s) % m % l.length < l.length := Nat.mod_lt _ hsp
      have hq := (hP ((k + s) % m % l.length) l[(k + s) % m % l.length] (List.getElem?_eq_getElem hmod)).1
      have htid : l[(k + s) % m % l.length].1 = turnId l ((k + s) % m) := by unfold turnId; rw [List.getElem?_eq_getElem hmod]; rfl
      rw [htid, Nat.zero_add] at hq
      have hwf : (Lit.int .i64 (turnId l ((k + s) % m))).wf = true := by
        obtain ⟨y, hy, hye⟩ := turnId_mem (newC_zero HSN.out).1 ((k + s) % m)
        have := okFrom_mem (newC_zero HSN.out).2.1 y hy
        exact WalkArith.wf_i64 (by omega)
      have HWF := Lib.hid hwf
      have HU1 := Lib.hid u1
      have HU2 := Lib.hid u2
      have HU3 := Lib.hid u3
      have HU4 := Lib.hid u4
      have HMA := Lib.hid hMA
      have HMB := Lib.hid hMB
      have HPr := Lib.hid hP
      have hk0 : (0 : Int) ≤ (k : Int) := by omega
      have hkm : (k : Int) < (m : Int) := by omega
      have hemod : ((k : Int) + (s : Int)) % (m : Int) = (((k + s) % m : Nat) : Int) := by rw [← Int.natCast_add, ← Int.natCast_emod]
      generalize turnId l ((k + s) % m) = tid at *
      generalize hq9 : (k + s) % m = kk at *
      have htm : ((kk : Int)).tmod (l.length : Int) = ((kk % l.length : Nat) : Int) := by rw [Int.tmod_eq_emod_of_nonneg (by omega)]; rfl
      have hnz : ¬ ((l.length : Int) = 0) := by omega
      have hnz' : ¬ ((m : Int) = 0) := by omega
      have hi0 : (0 : Int) ≤ ((kk % l.length : Nat) : Int) := by omega
      have hi1 : ((kk % l.length : Nat) : Int) < (l.length : Int) := by omega
      have hj0 : (0 : Int) ≤ (kk : Int) := by omega
      have hj1 : (kk : Int) < (m : Int) := by omega
      clear u1 u2 u3 u4 hMA hMB hP hcr hx hwf htid hq9 hsum
      go_wp2_with fail
      go_quiet (fail)
      go_wp2_with fail
      refine (Run_any p2 g2 bm2 cap2 _ l.length tid (min x a3) _ (HMB.out.drewN _) HWF.out (WalkArith.wf_i64 (by omega))).mono ?_
      rintro e w5 ⟨he, hM5, hk5⟩
      rw [HU1.out] at he
      subst he
      rw [runL, if_pos HU1.out] at hM5
      have hb5 := Kept.stepB (below_drewN hb _) (Nat.le_refl _) hk5 HPG.out
      have HMA5 := Lib.hid ((HMA.out.drewN _).kept hk5 HNA.out)
      have HP5 := Lib.hid ((show PairsAt (wr.drewN _) b 0 l from HPr.out).kept hk5 HNB.out)
      have HMB5 := Lib.hid hM5
      clear hM5 hk5 q0 hq htm
      go_wp2_with fail
      refine (Run_any p2 g2 bm2 cap2 _ l.length tid (x - min x a3) w5 HMB5.out HWF.out (WalkArith.wf_i64 (by omega))).mono ?_
      rintro e w6 ⟨he, hM6, hk6⟩
      rw [HU2.out] at he
      subst he
      rw [runL, if_pos HU2.out, HU3.out] at hM6
      have hb6 := Kept.stepB hb5 (Nat.le_refl _) hk6 HPG.out
      have HMA6 := Lib.hid (HMA5.out.kept hk6 HNA.out)
      have HP6 := Lib.hid (HP5.out.kept hk6 HNB.out)
      have HMB6 := Lib.hid hM6
      clear hM6 hk6
      go_wp2_with fail
      go_roundw
      case rel => exact ⟨k + 1, by omega, by go_num, HMA6.out, HMB6.out, HU4.out, HP6.out, hb6⟩
      case measure => simp [intOf]; omega
    · obtain rfl : k = m := by omega
      rw [ord_end HSN.out HR.out.fit HMM.out] at hMB
      have hgood := hMA.good
      have hids : idsL (madeV l rs) = l.map (·.1) := by rw [← ord_end (s := s) HSN.out HR.out.fit HMM.out, ranTo_ids]
      have hpw : (madeV l rs).map pw = l := by
        rw [← ord_end (s := s) HSN.out HR.out.fit HMM.out]
        unfold ranTo
        rw [List.map_map]
        conv => rhs; rw [← List.map_id l]
        exact List.map_congr_left fun x _ => rfl
      rw [ord_end HSN.out HR.out.fit HMM.out] at hsum
      have HG := Lib.hid hgood
      have HIDS := Lib.hid hids
      have HPW := Lib.hid hpw
      have HMAw := Lib.hid hMA
      have HMBw := Lib.hid hMB
      have HPw := Lib.hid hP
      clear hgood hids hpw hMA hMB hP hk hlt
      generalize madeV l rs = L at *
      obtain ⟨wo, rfl⟩ : ∃ wo : World, wo = wr := ⟨_, rfl⟩
      go_wp2_with fail
      go_loopw [97] (fun i wr => ∃ j : Nat, j ≤ l.length ∧ i = .int .i64 j ∧ Below wo.heap.size wo wr) (fun i _ => l.length - (intOf i).toNat)
      case atStart => exact ⟨0, Nat.zero_le _, rfl, Below.refl _ _⟩
      case round =>
        obtain ⟨j, hj, rfl, hbr⟩ := hrel
        by_cases hlt : j < l.length
        · obtain ⟨⟨y1, y2⟩, hy⟩ : ∃ x, l[j]? = some x := ⟨_, List.getElem?_eq_getElem hlt⟩
          obtain ⟨r0, r1⟩ := HPw.out j _ hy
          replace r0 := cell_later hbr r0
          replace r1 := cell_later hbr r1
          simp only [Nat.zero_add] at r0 r1
          have hyb := okFrom_mem (newC_zero HSN.out).2.1 _ (List.mem_of_getElem? hy)
          simp only at hyb
          have hwf := Lib.hid (WalkArith.wf_i64 (n := y1) (by omega))
          have MA := Lib.hid ((HMAw.out.below hbr).below (below_a wr (.cells #[.int .i64 y1, .int .i64 y2] 28)))
          have MB := Lib.hid ((HMBw.out.below hbr).below (below_a wr (.cells #[.int .i64 y1, .int .i64 y2] 28)))
          have z0 := cell_nw wr #[.int .i64 y1, .int .i64 y2] 28 0 _ rfl
          have hba := Below.allocS hbr (.cells #[.int .i64 y1, .int .i64 y2] 28)
          have hk0 : (0 : Int) ≤ (j : Int) := by omega
          have hkn : (j : Int) < (l.length : Int) := by omega
          clear hy hbr hyb
          go_wp2_with fail
          generalize wr.alloc (.cells #[.int .i64 y1, .int .i64 y2] 28) = wa at *
          refine (Lag_fn p1 g1 bm1 cap1 L l.length y1 wa MA.out hwf.out).mono ?_
          rintro e w7 ⟨rfl, hb7⟩
          replace z0 := cell_later hb7 z0
          have MB7 := Lib.hid (MB.out.below hb7)
          go_wp2_with fail
          refine (Lag_fn p2 g2 bm2 cap2 L l.length y1 w7 MB7.out hwf.out).mono ?_
          rintro e w8 ⟨rfl, hb8⟩
          skip
          have hb9 := Below.step (Below.step hba hb7) hb8
          generalize lagR L y1 = own at *
          have hne : (own != own) = false := by simp
          go_wp2_with fail
          go_roundw
          case rel => exact ⟨j + 1, by omega, by go_num, hb9⟩
          case measure => simp [intOf]; omega
        · obtain rfl : j = l.length := by omega
          have hbw := Below.step hb hbr
          have MA := Lib.hid (HMAw.out.below hbr)
          have MB := Lib.hid (HMBw.out.below hbr)
          have HPx := Lib.hid (HPw.out.later hbr)
          clear hbr hlt hj hb
          obtain ⟨wp, rfl⟩ : ∃ wp : World, wp = wr := ⟨_, rfl⟩
          go_wp2_with fail
          go_loopw [121] (fun i wr => ∃ j : Nat, j ≤ l.length ∧ i = .int .i64 j ∧ MeterAt wr p1 g1 bm1 cap1 L l.length ∧ MeterAt wr p2 g2 bm2 cap2 (upTo L a4 j) l.length ∧ PairsAt wr b 0 l ∧ Below w.heap.size w wr) (fun i _ => l.length - (intOf i).toNat)
          case atStart => exact ⟨0, Nat.zero_le _, rfl, MA.out, by rw [upTo_zero]; exact MB.out, HPx.out, hbw⟩
          case round =>
            obtain ⟨j, hj, rfl, hMA, hMB, hP, hbr⟩ := hrel
            by_cases hlt : j < l.length
            · obtain ⟨⟨y1, y2, y3⟩, hy⟩ : ∃ x, L[j]? = some x := ⟨_, List.getElem?_eq_getElem (by rw [hMA.len]; exact hlt)⟩
              have hyl : l[j]? = some (y1, y2) := by rw [← HPW.out, List.getElem?_map, hy]; rfl
              obtain ⟨r0, r1⟩ := hP j _ hyl
              simp only [Nat.zero_add] at r0 r1
              have hyb := okFrom_mem (newC_zero HSN.out).2.1 _ (List.mem_of_getElem? hyl)
              simp only at hyb
              have hwf := Lib.hid (WalkArith.wf_i64 (n := y1) (by omega))
              have hup := upTo_sum HG.out.ea hg4.1 j
              have hwb := sumW_nn HG.out.ea
              rw [hMA.len] at hwb
              have hma := mul_bounds (a := y2) (b := a4) (A := 65536) (B := 255) (by omega) hyb.2.2.2 hg4.1 hg4.2
              have hmb := mul_bounds (a := sumW L) (b := a4) (A := 786432) (B := 255) (by omega) (by omega) hg4.1 hg4.2
              have hmem : ∃ z ∈ upTo L a4 j, z.1 = y1 := by
                rw [ids_mem, upTo_ids, ← ids_mem]; exact ⟨_, List.mem_of_getElem? hy, rfl⟩
              have hc : runC (upTo L a4 j) y1 (y2 * a4) = 0 := runC_zero hma.1 (by omega) hmem (by omega)
              have hs := upTo_succ HG.out.ids a4 hy
              have HC := Lib.hid hc
              have HS := Lib.hid hs
              have E1 : wrap64 (y2 * a4) = y2 * a4 := wrap64_in _ (by omega)
              have hpr : -9223372036854775808 ≤ y2 * a4 ∧ y2 * a4 ≤ 9223372036854775807 := by omega
              have z0 := cell_nw wr #[.int .i64 y1, .int .i64 y2] 28 0 _ rfl
              have z1 := cell_nw wr #[.int .i64 y1, .int .i64 y2] 28 1 _ rfl
              have hba := Below.allocS hbr (.cells #[.int .i64 y1, .int .i64 y2] 28)
              have MAr := Lib.hid (hMA.below (below_a wr (.cells #[.int .i64 y1, .int .i64 y2] 28)))
              have MBr := Lib.hid (hMB.below (below_a wr (.cells #[.int .i64 y1, .int .i64 y2] 28)))
              have HPr := Lib.hid (hP.later (below_a wr (.cells #[.int .i64 y1, .int .i64 y2] 28)))
              have hk0 : (0 : Int) ≤ (j : Int) := by omega
              have hkn : (j : Int) < (l.length : Int) := by omega
              clear hy hyl hyb hup hwb hma hmb hmem hc hs hMA hMB hP hbr
              go_wp2_with fail
              generalize wr.alloc (.cells #[.int .i64 y1, .int .i64 y2] 28) = wa at *
              refine (Run_any p2 g2 bm2 cap2 _ l.length y1 (y2 * a4) wa MBr.out hwf.out (WalkArith.wf_i64 hpr)).mono ?_
              rintro e w7 ⟨he, hM7, hk7⟩
              rw [HC.out] at he
              subst he
              rw [runL, if_pos HC.out, HS.out] at hM7
              have hb7 := Kept.stepB hba (Nat.le_refl _) hk7 HPG.out
              have MA7 := Lib.hid (MAr.out.kept hk7 HNA.out)
              have HP7 := Lib.hid (HPr.out.kept hk7 HNB.out)
              have MB7 := Lib.hid hM7
              clear hM7 hk7
              go_wp2_with fail
              go_roundw
              case rel => exact ⟨j + 1, by omega, by go_num, MA7.out, MB7.out, HP7.out, hb7⟩
              case measure => simp [intOf]; omega
            · obtain rfl : j = l.length := by omega
              have hLn : L.length = l.length := hMA.len
              rw [upTo_len hLn] at hMB
              have HG2 := Lib.hid hLn
              have MAz := Lib.hid hMA
              have MBz := Lib.hid hMB
              have HPz := Lib.hid hP
              clear hMA hMB hP hLn hj hlt
              obtain ⟨wz, rfl⟩ : ∃ wz : World, wz = wr := ⟨_, rfl⟩
              go_wp2_with fail
              go_loopw [138] (fun i wr => ∃ j : Nat, j ≤ l.length ∧ i = .int .i64 j ∧ Below wz.heap.size wz wr) (fun i _ => l.length - (intOf i).toNat)
              case atStart => exact ⟨0, Nat.zero_le _, rfl, Below.refl _ _⟩
              case round =>
                obtain ⟨j, hj, rfl, hbs⟩ := hrel
                by_cases hlt : j < l.length
                · obtain ⟨⟨y1, y2⟩, hy⟩ : ∃ x, l[j]? = some x := ⟨_, List.getElem?_eq_getElem hlt⟩
                  obtain ⟨r0, r1⟩ := HPz.out j _ hy
                  replace r0 := cell_later hbs r0
                  replace r1 := cell_later hbs r1
                  simp only [Nat.zero_add] at r0 r1
                  have hyb := okFrom_mem (newC_zero HSN.out).2.1 _ (List.mem_of_getElem? hy)
                  simp only at hyb
                  have hwf := Lib.hid (WalkArith.wf_i64 (n := y1) (by omega))
                  have MA := Lib.hid ((MAz.out.below hbs).below (below_a wr (.cells #[.int .i64 y1, .int .i64 y2] 28)))
                  have MB := Lib.hid ((MBz.out.below hbs).below (below_a wr (.cells #[.int .i64 y1, .int .i64 y2] 28)))
                  have z0 := cell_nw wr #[.int .i64 y1, .int .i64 y2] 28 0 _ rfl
                  have hba := Below.allocS hbs (.cells #[.int .i64 y1, .int .i64 y2] 28)
                  have hk0 : (0 : Int) ≤ (j : Int) := by omega
                  have hkn : (j : Int) < (l.length : Int) := by omega
                  clear hy hbs hyb
                  go_wp2_with fail
                  generalize wr.alloc (.cells #[.int .i64 y1, .int .i64 y2] 28) = wa at *
                  refine (Lag_fn p1 g1 bm1 cap1 L l.length y1 wa MA.out hwf.out).mono ?_
                  rintro e w7 ⟨rfl, hb7⟩
                  replace z0 := cell_later hb7 z0
                  have MB7 := Lib.hid (MB.out.below hb7)
                  go_wp2_with fail
                  refine (Lag_fn p2 g2 bm2 cap2 _ l.length y1 w7 MB7.out hwf.out).mono ?_
                  rintro e w8 ⟨rfl, hb8⟩
                  rw [up_lag]
                  have hb9 := Below.step (Below.step hba hb7) hb8
                  generalize lagR L y1 = own at *
                  have hne : (own != own) = false := by simp
                  go_wp2_with fail
                  go_roundw
                  case rel => exact ⟨j + 1, by omega, by go_num, hb9⟩
                  case measure => simp [intOf]; omega
                · obtain rfl : j = l.length := by omega
                  have hbz := Below.step hbr hbs
                  have MA := Lib.hid (MAz.out.below hbs)
                  have MB := Lib.hid (MBz.out.below hbs)
                  clear hbs hlt hj hbr
                  go_wp2_with fail
                  refine (Order_fn p1 g1 bm1 cap1 L l.length wr MA.out).mono ?_
                  rintro e w7 ⟨bo, out, rfl, ho, hio, hb7⟩
                  have MB7 := Lib.hid (MB.out.below hb7)
                  have hr7 := own_row ho
                  have hbz7 := Below.step hbz hb7
                  clear ho
                  go_wp2_with fail
                  refine (Order_fn p2 g2 bm2 cap2 _ l.length w7 MB7.out).mono ?_
                  rintro e w8 ⟨bo2, out2, rfl, ho2, hio2, hb8⟩
                  have hr8 := hr7.later hb8
                  have hr9 := own_row ho2
                  have hbz8 := Below.step hbz7 hb8
                  obtain rfl : out = out2 := by
                    refine ids_unique hio (ids_congr (f := lagR (L.map fun x => (x.1, x.2.1, x.2.2 + x.2.1 * a4))) ?_ fun i _ => up_lag L a4 i)
                    rw [← upTo_len HG2.out, upTo_ids] at hio2
                    rw [← upTo_len HG2.out]
                    exact hio2
                  clear hio hio2 ho2 hr7
                  go_wp2_with fail
                  refine (SameInts_any _ _ l.length l.length _ _ out out w8 hr8 hr9 (by omega) (by omega)).mono ?_
                  rintro e w9 ⟨rfl, hg9⟩
                  rw [show decide (out = out) = true from decide_eq_true rfl]
                  have hbz9 := Below.step hbz8 hg9.below
                  clear hr8 hr9 hg9
                  go_wp2_with fail
                  refine (awake_true w9).mono ?_
                  rintro e w10 ⟨rfl, hb10⟩
                  go_wp2_with fail
                  go_ret
                  exact ⟨rfl, Below.step hbz9 hb10⟩
end Go.Proofs.Ytgieaojkbfjoiaa
