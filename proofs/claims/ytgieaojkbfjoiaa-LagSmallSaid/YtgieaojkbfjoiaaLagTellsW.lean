/-
  The walk of tells.
-/
import Derived.Test.YtgieaojkbfjoiaaLagSame
namespace Go.Proofs.Ytgieaojkbfjoiaa
open Go.RowKit Go.Maps Go.IntWalk Go.Lib Go.Sort
set_option linter.unusedVariables false
theorem flatP_one (l : List (Int × Int)) : ∀ u ∈ flatP l, u.oneCell' = true := by
  intro u hu
  simp only [flatP, List.mem_flatMap] at hu
  obtain ⟨x, _, hx⟩ := hu
  simp at hx
  rcases hx with rfl | rfl <;> rfl
theorem pairs_cell {w : World} {b off : Nat} {l : List (Int × Int)} (h : PairsAt w b off l) : ∀ j u, (flatP l)[j]? = some u → w.cell? ((⟨b, off, none⟩ : Addr).add j) = some u := by
  intro j u hj
  have hjl : j < l.length * 2 := by rw [← flatP_len]; exact (List.getElem?_eq_some_iff.1 hj).1
  have hk : l[j / 2]? = some l[j / 2] := List.getElem?_eq_getElem (by omega)
  obtain ⟨a, b'⟩ := flatP_at l (j / 2) _ hk
  obtain ⟨c, d⟩ := h _ _ hk
  have e : ((⟨b, off, none⟩ : Addr).add j) = ⟨b, off + j, none⟩ := addr_add b off j
  rw [e]
  have h2 : j % 2 = 0 ∨ j % 2 = 1 := by omega
  rcases h2 with h2 | h2
  · have e2 : j / 2 * 2 = j := by omega
    rw [e2] at a c
    rw [a] at hj; rw [c]; exact hj
  · have e2 : j / 2 * 2 + 1 = j := by omega
    rw [e2] at b'
    rw [Nat.add_assoc, e2] at d
    rw [b'] at hj; rw [d]; exact hj
theorem flatP_set1 : ∀ (l : List (Int × Int)) (k : Nat) (a v : Int), (l[k]?.map (·.1)) = some a → (flatP l).set (k * 2 + 1) (.int .i64 v) = flatP (l.set k (a, v))
  | [], k, a, v, h => by simp at h
  | y :: r, 0, a, v, h => by simp at h; subst h; rfl
  | y :: r, k + 1, a, v, h => by
    have := flatP_set1 r k a v (by simpa using h)
    have e : flatP (y :: r) = .int .i64 y.1 :: .int .i64 y.2 :: flatP r := rfl
    rw [e, show (k + 1) * 2 + 1 = k * 2 + 1 + 1 + 1 by omega, List.set_cons_succ, List.set_cons_succ, this]
    rfl
theorem PairsAt.kept {w w' : World} {b off : Nat} {l : List (Int × Int)} {S : List Nat} (h : PairsAt w b off l) (hk : Kept S w w') (hS : b ∉ S) : PairsAt w' b off l := fun k x hx => by
  obtain ⟨a, c⟩ := h k x hx
  exact ⟨hk.cellAt a hS, hk.cellAt c hS⟩
/-- a slice of steps -/
structure StepsIn (w : World) (a : Option Addr) (n : Nat) (ss : List (Int × Int)) : Prop where
  len : ss.length = n
  at_ : 0 < n → ∃ b off, a = some ⟨b, off, none⟩ ∧ PairsAt w b off ss
  wf : ∀ x ∈ ss, (Lit.int .i64 x.1).wf = true ∧ (Lit.int .i64 x.2).wf = true
  max : n ≤ 9223372036854775807
set_option maxRecDepth 100000 in
set_option maxHeartbeats 1000000 in
theorem tells_none (sv : Value) (id : Int) (w : World) :
    Calls Try.prog 21 #[.slice none 0 0, sv, .int .i64 id] w fun e w' => e = .returned (.bool true) ∧ Below w.heap.size w w' := by
  go_enter Try.func21, Try.ntmps21
  go_wp2_with fail
  have hb0 := below_a w (.cells #[] 28)
  refine (theirs_nil _ _ _).mono ?_
  rintro e w2 ⟨a2, c2, rfl, _, hb2⟩
  go_wp2_with fail
  refine (New_nil _ _ _).mono ?_
  rintro e w3 ⟨hb3, ⟨_, rfl⟩ | ⟨hz, _⟩⟩
  rotate_left
  · exact absurd hz (by decide)
  rw [show newC [] = 2 from rfl]
  go_wp2_with fail
  refine (rRight_nil _ _ _).mono ?_
  rintro e w4 ⟨rfl, rfl⟩
  go_wp2_with fail
  go_ret
  exact ⟨rfl, Below.step (Below.step hb0 hb2) hb3⟩
set_option maxRecDepth 100000 in
set_option maxHeartbeats 1000000 in
theorem tells_zero (x : Addr) (cap : Nat) (sv : Value) (id : Int) (w : World) (hc : cap ≤ 9223372036854775807) :
    Calls Try.prog 21 #[.slice (some x) 0 cap, sv, .int .i64 id] w fun e w' => e = .returned (.bool true) ∧ Below w.heap.size w w' := by
  obtain ⟨i0, hi, hz0, hz1, hz2⟩ := info_parts infoShare
  go_enter Try.func21, Try.ntmps21
  go_wp2_with (at_builtin; refine wpList_append_own _ rfl (.tmp 16) (.tmp 17) 23 rfl w.heap.size 28 i0 (.agg #[.int .i64 0, .int .i64 0]) 2 16 Try.underlying23 hi hz0 hz1 hz2 rfl (by decide) _ 0 [] rfl (World.ownsRow_lit w #[] 0 (Nat.le_refl _) (by unfold maxLen; omega) rfl) x 0 cap [] rfl rfl (fun j u hu => by simp at hu) (fun u hu => by cases hu) (by unfold maxLen; omega) (by omega) (by simp) ?_)
  intro v' w1 hown hgrow _
  have hb0 : Below w.heap.size w w1 := (Below.allocS (Below.refl _ _) _).grown hgrow (by simp) (fun k hk => by cases hk; exact Nat.le_refl _)
  obtain ⟨a1, c1, rfl⟩ : ∃ a c, v' = .slice a 0 c := by
    rcases hown.2 with ⟨rfl, _⟩ | ⟨g', cap', _, rfl, _⟩
    · exact ⟨none, 0, rfl⟩
    · exact ⟨_, cap', rfl⟩
  clear hown hgrow
  go_wp2_with fail
  refine (theirs_nil _ _ _).mono ?_
  rintro e w2 ⟨a2, c2, rfl, _, hb2⟩
  go_wp2_with fail
  refine (New_nil _ _ _).mono ?_
  rintro e w3 ⟨hb3, ⟨_, rfl⟩ | ⟨hz, _⟩⟩
  rotate_left
  · exact absurd hz (by decide)
  rw [show newC [] = 2 from rfl]
  go_wp2_with fail
  refine (rRight_nil _ _ _).mono ?_
  rintro e w4 ⟨rfl, rfl⟩
  go_wp2_with fail
  go_ret
  exact ⟨rfl, Below.step (Below.step hb0 hb2) hb3⟩
set_option maxRecDepth 100000 in
set_option maxHeartbeats 4000000 in
theorem tells_some (b off cap n : Nat) (l : List (Int × Int)) (sa : Option Addr) (sn sc : Nat) (ss : List (Int × Int)) (id : Int) (w : World) (h : PairsAt w b off l) (hn : l.length = n) (h0 : 0 < n) (h1 : n ≤ 2000) (hs : StepsIn w sa sn ss) (hid : (Lit.int .i64 id).wf = true) :
    Calls Try.prog 21 #[.slice (some ⟨b, off, none⟩) n cap, .slice sa sn sc, .int .i64 id] w fun e w' => e = .returned (.bool true) ∧ Below w.heap.size w w' := by
  obtain ⟨i0, hi, hz0, hz1, hz2⟩ := info_parts infoShare
  have HP := Lib.hid h
  have HN := Lib.hid hn
  have HS := Lib.hid hs
  have HID := Lib.hid hid
  have hsm := hs.max
  clear h hn hs hid
  go_enter Try.func21, Try.ntmps21
  go_wp2_with (at_builtin; refine wpList_append_own _ rfl (.tmp 16) (.tmp 17) 23 rfl w.heap.size 28 i0 (.agg #[.int .i64 0, .int .i64 0]) 2 16 Try.underlying23 hi hz0 hz1 hz2 rfl (by decide) _ 0 [] rfl (World.ownsRow_lit w #[] 0 (Nat.le_refl _) (by unfold maxLen; omega) rfl) ⟨b, off, none⟩ n cap (flatP l) rfl ?c1 ?c2 (flatP_one l) ?c3 ?c4 ?c5 ?_)
  case c1 => rw [flatP_len, HN.out]
  case c2 => exact fun j u hu => cell_al _ (pairs_cell HP.out j u hu)
  case c3 => unfold maxLen; omega
  case c4 => omega
  case c5 => simp
  intro v' w1 hown hgrow _
  have hb1 : Below w.heap.size w w1 := (Below.allocS (Below.refl _ _) _).grown hgrow (by simp) (fun k hk => by cases hk; exact Nat.le_refl _)
  obtain ⟨gg, gcap, rfl⟩ : ∃ g cap, v' = .slice (some ⟨g, 0, none⟩) n cap := by
    rcases hown.2 with ⟨_, h⟩ | ⟨g', cap', _, rfl, _⟩
    · omega
    · exact ⟨g', cap', rfl⟩
  have HO := Lib.hid hown
  have hgg := hown.lt gg rfl
  have HP1 := Lib.hid (HP.out.later hb1)
  clear hown hgrow
  go_wp2_with fail
  refine (theirs_some b off cap n l w1 HP1.out HN.out h0 h1).mono ?_
  rintro e w2 ⟨ra, rcap, rfl, hra, hb2⟩
  obtain ⟨rg, rfl, hruns, hrg⟩ := hra (by rw [HN.out]; exact h0)
  rw [HN.out]
  have HR2 := Lib.hid hruns
  have HO2 := Lib.hid (own_below HO.out hb2)
  have HP2 := Lib.hid (HP1.out.later hb2)
  have hbw2 := Below.step hb1 hb2
  clear hra hruns hb2
  have hpi := own_pairs (l := l) (by rw [HN.out]; exact HO2.out)
  rw [HN.out] at hpi
  have HPI := Lib.hid hpi
  clear hpi
  go_wp2_with fail
  refine (New_any _ l w2 HPI.out (by rw [HN.out]; exact h1)).mono ?_
  rintro e w3 ⟨hb3, ⟨hne, rfl⟩ | ⟨hz, p, g, bm, capm, rfl, hM, hp3, hg3, hm3⟩⟩
  · have HR3 := Lib.hid (HR2.out.later hb3)
    have hbw3 := Below.step hbw2 hb3
    clear hb3
    go_wp2_with fail
    refine (rRight_some rg rcap n l w3 HR3.out HN.out h0 h1).mono ?_
    rintro e w4 ⟨rfl, q4, rfl⟩
    have hbw4 := below_drewN hbw3 q4
    generalize newC l = c at *
    have t1 : (c != c) = false := by simp
    have t2 : (c != 0) = true := by simpa using hne
    go_wp2_with fail
    go_ret
    exact ⟨rfl, hbw4⟩
  · have HR3 := Lib.hid (HR2.out.later hb3)
    have HO3 := Lib.hid (own_below HO2.out hb3)
    have HP3 := Lib.hid (HP2.out.later hb3)
    have HM3 := Lib.hid hM
    have hbw3 := Below.step hbw2 hb3
    have hs12 : w1.heap.size ≤ w2.heap.size := Nat.le_trans (Nat.le_of_lt (Nat.lt_of_le_of_lt hrg (lt_of_cell (HR2.out 0 _ (List.getElem?_eq_getElem (by rw [ran0_len, HN.out]; exact h0))).1))) (Nat.le_refl _)
    have hbb : b < w.heap.size := lt_of_cell (HP.out 0 _ (List.getElem?_eq_getElem (by rw [HN.out]; exact h0))).1
    have hrg2 : rg < w2.heap.size := lt_of_cell (HR2.out 0 _ (List.getElem?_eq_getElem (by rw [ran0_len, HN.out]; exact h0))).1
    have HNG := Lib.hid (show p ∉ [gg] ∧ g ∉ [gg] ∧ bm ∉ [gg] by simp only [List.mem_singleton]; omega)
    have hbg : b ≠ gg := by omega
    have hrgg : rg ≠ gg := by omega
    have hrpg : rg ∉ [p, g] := by simp only [List.mem_cons, List.not_mem_nil, or_false]; omega
    have HRPG := Lib.hid hrpg
    have hwp : ∀ k ∈ [p, g], w.heap.size ≤ k := fun k hk => by
      have := hbw2.size
      simp only [List.mem_cons, List.not_mem_nil, or_false] at hk
      omega
    have HPG := Lib.hid hwp
    have HZ := Lib.hid hz
    clear hM hb3 hwp hrpg hz
    go_wp2_with fail
    refine (rRight_some rg rcap n l w3 HR3.out HN.out h0 h1).mono ?_
    rintro e w4 ⟨rfl, q4, rfl⟩
    rw [HZ.out]
    have HR4 := Lib.hid (HR3.out.drewN q4)
    have HO4 := Lib.hid (own_below HO3.out (below_drewN (Below.refl w3.heap.size w3) q4))
    have HP4 := Lib.hid (HP3.out.later (below_drewN (Below.refl w3.heap.size w3) q4))
    have HM4 := Lib.hid (HM3.out.drewN q4)
    have hbw4 := below_drewN hbw3 q4
    generalize w3.drewN q4 = w4 at *
    have hz00 : ((0 : Int) != 0) = false := by decide
    go_wp2_with fail
    go_loopw [36] (fun i wr => ∃ (k : Nat) (xs : List (Int × Int)), k ≤ n ∧ i = .int .i64 k ∧ xs.length = n ∧ (∀ j, k ≤ j → xs[j]? = l[j]?) ∧ wr.ownsRow w.heap.size 28 2 (.slice (some ⟨gg, 0, none⟩) n gcap) n (flatP xs) ∧ MeterAt wr p g bm capm (ran0 l) n ∧ RunsAt wr rg (ran0 l) ∧ PairsAt wr b off l ∧ Below w.heap.size w wr) (fun i _ => n - (intOf i).toNat)
    case atStart => exact ⟨0, l, Nat.zero_le _, rfl, HN.out, fun _ _ => rfl, HO4.out, by have := HM4.out; rwa [HN.out] at this, HR4.out, HP4.out, hbw4⟩
    case round =>
      obtain ⟨k, xs, hk, rfl, hxl, hxs, hown, hM, hR, hP, hbr⟩ := hrel
      by_cases hlt : k < n
      · obtain ⟨⟨x1, x2⟩, hx⟩ : ∃ x, l[k]? = some x := ⟨_, List.getElem?_eq_getElem (by rw [HN.out]; exact hlt)⟩
        have hxk := hxs k (Nat.le_refl _)
        rw [hx] at hxk
        obtain ⟨fa, fb⟩ := flatP_at xs k _ hxk
        obtain ⟨r0, r1⟩ := hP k _ hx
        simp only at r0 r1
        have q0 : wr.cell? ⟨gg, k * 2, none⟩ = some (.int .i64 x1) := by rw [hown.cellAt _ (by omega)]; exact fa
        have q1 : wr.cell? ⟨gg, k * 2 + 1, none⟩ = some (.int .i64 x2) := by rw [hown.cellAt _ (by omega)]; exact fb
        have f1 := hown.frozenAt (k * 2 + 1)
        have hk0 : (0 : Int) ≤ (k : Int) := by omega
        have hkn : (k : Int) < (n : Int) := by omega
        have hxb := okFrom_mem (newC_zero HZ.out).2.1 _ (List.mem_of_getElem? hx)
        simp only at hxb
        have HO := Lib.hid hown
        have HMr := Lib.hid hM
        have HRr := Lib.hid hR
        have HPr := Lib.hid hP
        have HXS := Lib.hid hxs
        have HXK := Lib.hid hxk
        clear hx hxk fa fb hown hM hR hP hxs
        go_wp2_with fail
        go_quiet (fail)
        go_wp2_with fail
        go_roundw
        case rel =>
          refine ⟨k + 1, xs.set k (x1, x2 + 1), by omega, by go_num, by simpa using hxl, fun j hj => ?_, ?_, ?_, ?_, ?_, ?_⟩
          · rw [List.getElem?_set_ne (by omega)]; exact HXS.out j (by omega)
          · have := (HO.out.stored (k * 2 + 1) (.int .i64 (x2 + 1))).1
            rw [flatP_set1 xs k x1 (x2 + 1) (by rw [HXK.out]; rfl)] at this
            exact this
          · exact HMr.out.kept (((Kept.refl [gg] wr).setCell (p := ⟨gg, k * 2 + 1, none⟩) (Or.inl (by simp)) _).step (below_drewN (Below.refl _ _) _)) HNG.out
          · exact RunsAt.set HRr.out hrgg
          · exact PairsAt.kept HPr.out (((Kept.refl [gg] wr).setCell (p := ⟨gg, k * 2 + 1, none⟩) (Or.inl (by simp)) _).step (below_drewN (Below.refl _ _) _)) (by simp only [List.mem_singleton]; exact hbg)
          · exact below_drewN (hbr.setCell (p := ⟨gg, k * 2 + 1, none⟩) hgg.1 _) _
        case measure => simp [intOf]; omega
      · obtain rfl : k = n := by omega
        have HMr := Lib.hid hM
        have HRr := Lib.hid hR
        clear hown hM hR hP hxs
        obtain ⟨wo, rfl⟩ : ∃ wo : World, wo = wr := ⟨_, rfl⟩
        go_wp2_with fail
        refine (same_any p g bm capm rg rcap k (ran0 l) id wo HMr.out HRr.out HID.out).mono ?_
        rintro e w5 ⟨rfl, hb5⟩
        have HM5 := Lib.hid (HMr.out.below hb5)
        have HR5 := Lib.hid (HRr.out.later hb5)
        have hbw5 := Below.step hbr hb5
        clear hb5
        go_wp2_with fail
        go_loopw [8, 68] (fun s i wr => ∃ (j : Nat) (L : List (Int × Int × Int)) (rg rcap : Nat), j ≤ sn ∧ i = .int .i64 j ∧ s = .slice (some ⟨rg, 0, none⟩) k rcap ∧ MeterAt wr p g bm capm L k ∧ RunsAt wr rg L ∧ rg ∉ [p, g] ∧ Below w.heap.size w wr) (fun _ i _ => sn - (intOf i).toNat)
        case atStart => exact ⟨0, ran0 l, rg, rcap, Nat.zero_le _, rfl, rfl, HM5.out, HR5.out, HRPG.out, hbw5⟩
        case round =>
          obtain ⟨j, L, rg, rcap, hj, rfl, rfl, hM, hR, hn1, hbs⟩ := hrel
          by_cases hlt2 : j < sn
          · obtain ⟨sb, so, hsa, hps⟩ := HS.out.at_ (by omega)
            subst hsa
            obtain ⟨⟨y1, y2⟩, hy⟩ : ∃ x, ss[j]? = some x := ⟨_, List.getElem?_eq_getElem (by rw [HS.out.len]; exact hlt2)⟩
            obtain ⟨r0, r1⟩ := hps j _ hy
            replace r0 := cell_later hbs r0
            replace r1 := cell_later hbs r1
            have hwf := HS.out.wf _ (List.mem_of_getElem? hy)
            simp only at r0 r1 hwf
            have HWF := Lib.hid hwf
            have hk0 : (0 : Int) ≤ (j : Int) := by omega
            have hkn : (j : Int) < (sn : Int) := by omega
            have HMr := Lib.hid (hM.below (below_a wr (.cells #[.int .i64 y1, .int .i64 y2] 48)))
            have HRr := Lib.hid (hR.later (below_a wr (.cells #[.int .i64 y1, .int .i64 y2] 48)))
            have z0 := cell_nw wr #[.int .i64 y1, .int .i64 y2] 48 0 _ rfl
            have z1 := cell_nw wr #[.int .i64 y1, .int .i64 y2] 48 1 _ rfl
            have hba := Below.allocS hbs (.cells #[.int .i64 y1, .int .i64 y2] 48)
            have hbx : wr.heap.size ∉ [p, g] := by have := hM.lts; simp only [List.mem_cons, List.not_mem_nil, or_false]; omega
            have HBX := Lib.hid hbx
            have HN1 := Lib.hid hn1
            clear hM hR hy hps hbx hn1 hbs hwf
            go_wp2_with fail
            generalize wr.heap.size = B at *
            generalize wr.alloc (.cells #[.int .i64 y1, .int .i64 y2] 48) = wa at *
            refine (rRun_any rg rcap k L y1 y2 wa HRr.out HMr.out.len HMr.out.good).mono ?_
            rintro e w6 ⟨rg2, rcap2, rfl, hR6, hor, hb6⟩
            have HM6 := Lib.hid (HMr.out.below hb6)
            have HR6 := Lib.hid hR6
            have hba6 := Below.step hba hb6
            replace z0 := cell_later hb6 z0
            replace z1 := cell_later hb6 z1
            have HN2 := Lib.hid (show rg2 ∉ [p, g] by
              have h1 := HMr.out.lts
              have h2 := HN1.out
              simp only [List.mem_cons, List.not_mem_nil, or_false] at h2 ⊢
              rcases hor with rfl | hor <;> omega)
            clear hR6 hb6 hor hba
            go_wp2_with fail
            refine (Run_any p g bm capm L k y1 y2 w6 HM6.out HWF.out.1 HWF.out.2).mono ?_
            rintro e w7 ⟨he, hM7, hk7⟩
            subst he
            have HM7 := Lib.hid hM7
            have HR7 := Lib.hid (show RunsAt w7 rg2 (runL L y1 y2) from fun i x hx => by
              obtain ⟨a, b, c⟩ := HR6.out i x hx
              exact ⟨hk7.cellAt a HN2.out, hk7.cellAt b HN2.out, hk7.cellAt c HN2.out⟩)
            have hba7 := Kept.stepB hba6 (Nat.le_refl _) hk7 HPG.out
            replace z0 := hk7.cellAt z0 HBX.out
            replace z1 := hk7.cellAt z1 HBX.out
            clear hM7 hk7 hba6
            generalize runC L y1 y2 = c at *
            generalize runL L y1 y2 = L7 at *
            have t1 : (c != c) = false := by simp
            go_wp2_with fail
            refine (same_any p g bm capm rg2 rcap2 k L7 y1 w7 HM7.out HR7.out HWF.out.1).mono ?_
            rintro e w8 ⟨rfl, hb8⟩
            have HM8 := Lib.hid (HM7.out.below hb8)
            have HR8 := Lib.hid (HR7.out.later hb8)
            have hba8 := Below.step hba7 hb8
            clear hb8
            go_wp2_with fail
            go_roundw
            case rel => exact ⟨j + 1, L7, rg2, rcap2, by omega, by go_num, rfl, HM8.out, HR8.out, HN2.out, hba8⟩
            case measure => simp [intOf]; omega
          · have HMr := Lib.hid hM
            have HRr := Lib.hid hR
            obtain rfl : j = sn := by omega
            clear hM hR
            go_wp2_with fail
            refine (same_any p g bm capm rg rcap k L id wr HMr.out HRr.out HID.out).mono ?_
            rintro e w6 ⟨rfl, hb6⟩
            have hbw6 := Below.step hbs hb6
            go_wp2_with fail
            go_ret
            exact ⟨rfl, hbw6⟩
theorem pairs_of {w : World} {s : Option Addr} {l c : Nat} {F : Nat → Nat → Value} (h : PlainRow [some .i64, some .i64] w s l c F) (h0 : 0 < l) : ∃ (b off : Nat) (ps : List (Int × Int)), s = some ⟨b, off, none⟩ ∧ ps.length = l ∧ PairsAt w b off ps ∧ ∀ x ∈ ps, (Lit.int .i64 x.1).wf = true ∧ (Lit.int .i64 x.2).wf = true := by
  rcases h with ⟨_, h, _⟩ | ⟨h, _⟩ | ⟨_, hl, hm, b, off, rfl, hc⟩
  · omega
  · omega
  · refine ⟨b, off, (List.range l).map fun i => (intOf (F i 0), intOf (F i 1)), rfl, by simp, fun i x hx => ?_, fun x hx => ?_⟩
    · simp only [List.getElem?_map, Option.map_eq_some_iff] at hx
      obtain ⟨j, hj, rfl⟩ := hx
      obtain ⟨hj1, hj2⟩ := List.getElem?_eq_some_iff.1 hj
      simp only [List.length_range] at hj1
      simp only [List.getElem_range] at hj2
      subst hj2
      obtain ⟨h1, a, ha, hw⟩ := hc i hj1 0 (some .i64) rfl
      obtain ⟨h2, a', ha', hw'⟩ := hc i hj1 1 (some .i64) rfl
      rw [ha] at h1 ⊢
      rw [ha'] at h2 ⊢
      exact ⟨h1, h2⟩
    · simp only [List.mem_map, List.mem_range] at hx
      obtain ⟨i, hi, rfl⟩ := hx
      obtain ⟨h1, a, ha, hw⟩ := hc i hi 0 (some .i64) rfl
      obtain ⟨h2, a', ha', hw'⟩ := hc i hi 1 (some .i64) rfl
      rw [ha, ha']
      exact ⟨hw, hw'⟩
theorem steps_of {w : World} {s : Option Addr} {l c : Nat} {F : Nat → Nat → Value} (h : PlainRow [some .i64, some .i64] w s l c F) : ∃ ss, StepsIn w s l ss := by
  by_cases h0 : 0 < l
  · obtain ⟨b, off, ps, e, hl, hp, hw⟩ := pairs_of h h0
    refine ⟨ps, hl, fun _ => ⟨b, off, e, hp⟩, hw, ?_⟩
    rcases h with ⟨_, h, _⟩ | ⟨h, _⟩ | ⟨_, h1, h2, _⟩
    · omega
    · omega
    · unfold maxLen at h2; omega
  · exact ⟨[], by simp; omega, fun h => absurd h h0, (fun x hx => by cases hx), by omega⟩
set_option maxRecDepth 100000 in
set_option maxHeartbeats 1000000 in
theorem LagTells_true (s0 : Option Addr) (l0 c0 : Nat) (F0 : Nat → Nat → Value) (s1 : Option Addr) (l1 c1 : Nat) (F1 : Nat → Nat → Value) (a2 : Int) (w : World) (r0 : PlainRow [some .i64, some .i64] w s0 l0 c0 F0) (r1 : PlainRow [some .i64, some .i64] w s1 l1 c1 F1) (g2 : (Lit.int .i64 a2).wf = true) :
    Calls Try.prog 6 #[.slice s0 l0 c0, .slice s1 l1 c1, .int .i64 a2] w fun e w' => e = .returned (.bool true) ∧ Below w.heap.size w w' := by
  obtain ⟨ss, hss⟩ := steps_of r1
  have hs1 := hss.max
  have hT : l0 ≤ 2000 → Calls Try.prog 21 #[.slice s0 l0 c0, .slice s1 l1 c1, .int .i64 a2] w fun e w' => e = .returned (.bool true) ∧ Below w.heap.size w w' := by
    intro hle
    by_cases h0 : 0 < l0
    · obtain ⟨b, off, ps, rfl, hl, hp, hw⟩ := pairs_of r0 h0
      exact tells_some b off c0 l0 ps s1 l1 c1 ss a2 w hp hl h0 hle hss g2
    · rcases r0 with ⟨rfl, rfl, rfl⟩ | ⟨rfl, hc, x, rfl⟩ | ⟨h, _⟩
      · exact tells_none _ a2 w
      · exact tells_zero x c0 _ a2 w hc
      · exact absurd h h0
  have hl0 : l0 ≤ 9223372036854775807 := by
    rcases r0 with ⟨_, h, _⟩ | ⟨h, _⟩ | ⟨_, h1, h2, _⟩
    · omega
    · omega
    · unfold maxLen at h2; omega
  have HT := Lib.hid hT
  clear hT r0 r1 hss g2
  go_enter Try.func6, Try.ntmps6
  go_wp2_with (first | (go_at_call 16; refine (awake_true _).mono ?_; rintro e w1 ⟨rfl, hb1⟩) | (go_at_call 21; refine (HT.out (by omega)).mono ?_; rintro e w2 ⟨rfl, hb2⟩))
  all_goals
    go_ret
    first
      | exact ⟨rfl, hb1⟩
      | exact ⟨rfl, Below.step hb2 hb1⟩
end Go.Proofs.Ytgieaojkbfjoiaa
