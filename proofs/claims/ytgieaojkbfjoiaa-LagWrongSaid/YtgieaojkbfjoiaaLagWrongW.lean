/-
  The walk of LagWrong.
-/
import Derived.Test.YtgieaojkbfjoiaaLagMin
namespace Go.Proofs.Ytgieaojkbfjoiaa
open Go.RowKit Go.Maps Go.IntWalk Go.Lib Go.Sort
set_option linter.unusedVariables false
theorem newC_two {l : List (Int × Int)} (h : okFrom 0 l = false) : newC l = 2 := by
  unfold newC
  by_cases e : l = []
  · rw [if_pos e]
  · rw [if_neg e, if_pos h]
theorem bad_mem {l : List (Int × Int)} {x : Int × Int} (hx : x ∈ l) (h : ¬ (1 ≤ x.1 ∧ x.1 ≤ 65535 ∧ 1 ≤ x.2 ∧ x.2 ≤ 65536)) : newC l = 2 := by
  refine newC_two ?_
  rw [Bool.eq_false_iff]
  intro e
  have := okFrom_mem e x hx
  omega
theorem flatP_set1 : ∀ (l : List (Int × Int)) (k : Nat) (a v : Int), (l[k]?.map (·.1)) = some a → (flatP l).set (k * 2 + 1) (.int .i64 v) = flatP (l.set k (a, v))
  | [], k, a, v, h => by simp at h
  | y :: r, 0, a, v, h => by simp at h; subst h; rfl
  | y :: r, k + 1, a, v, h => by
    have := flatP_set1 r k a v (by simpa using h)
    have e : flatP (y :: r) = .int .i64 y.1 :: .int .i64 y.2 :: flatP r := rfl
    rw [e, show (k + 1) * 2 + 1 = k * 2 + 1 + 1 + 1 by omega, List.set_cons_succ, List.set_cons_succ, this]
    rfl
theorem flatP_set0 : ∀ (l : List (Int × Int)) (b v : Int), (l[0]?.map (·.2)) = some b → (flatP l).set 0 (.int .i64 v) = flatP (l.set 0 (v, b))
  | [], b, v, h => by simp at h
  | y :: r, b, v, h => by simp at h; subst h; rfl
theorem flatP_one (l : List (Int × Int)) : ∀ u ∈ flatP l, u.oneCell' = true := by
  intro u hu
  simp only [flatP, List.mem_flatMap] at hu
  obtain ⟨x, _, hx⟩ := hu
  simp at hx
  rcases hx with rfl | rfl <;> rfl
theorem pairs_cell {w : World} {b off : Nat} {l : List (Int × Int)} (h : PairsAt w b off l) : ∀ j u, (flatP l)[j]? = some u → w.cell? ((⟨b, off, none⟩ : Addr).add j) = some u := by
  intro j u hj
  have hjl : j < l.length * 2 := by rw [← flatP_len]; exact (List.getElem?_eq_some_iff.1 hj).1
  have hk : l[j / 2]? = some l[j / 2] := List.getElem?_eq_getElem (by omega)
  obtain ⟨a, b'⟩ := flatP_at l (j / 2) _ hk
  obtain ⟨c, d⟩ := h _ _ hk
  have e : ((⟨b, off, none⟩ : Addr).add j) = ⟨b, off + j, none⟩ := addr_add b off j
  rw [e]
  have h2 : j % 2 = 0 ∨ j % 2 = 1 := by omega
  rcases h2 with h2 | h2
  · have e2 : j / 2 * 2 = j := by omega
    rw [e2] at a c
    rw [a] at hj; rw [c]; exact hj
  · have e2 : j / 2 * 2 + 1 = j := by omega
    rw [e2] at b'
    rw [Nat.add_assoc, e2] at d
    rw [b'] at hj; rw [d]; exact hj
theorem shV_first (ws : List Int) : ∃ v, (shV ws)[0]? = some (1, v) := by
  unfold shV shK
  split
  · exact ⟨1, rfl⟩
  · rename_i h
    obtain ⟨x, hx⟩ : ∃ x, (ws.take (min ws.length 12))[0]? = some x := ⟨_, List.getElem?_eq_getElem (by simp; omega)⟩
    exact ⟨1 + x, by rw [List.getElem?_mapIdx, hx]; rfl⟩
set_option maxRecDepth 100000 in
set_option maxHeartbeats 4000000 in
theorem LagWrong_true (s0 : Option Addr) (l0 c0 : Nat) (F0 : Nat → Nat → Value) (s1 : Option Addr) (l1 c1 : Nat) (F1 : Nat → Nat → Value) (a2 a3 a4 : Int) (w : World) (r0 : PlainRow [some .u16] w s0 l0 c0 F0) (r1 : PlainRow [some .u16] w s1 l1 c1 F1)
    (g2 : (Lit.int .i64 a2).wf = true) (g3 : (Lit.int .i64 a3).wf = true) (g4 : (Lit.int .u8 a4).wf = true) :
    Calls Try.prog 9 #[.slice s0 l0 c0, .slice s1 l1 c1, .int .i64 a2, .int .i64 a3, .int .u8 a4] w fun e w' => e = .returned (.bool true) ∧ Below w.heap.size w w' := by
  obtain ⟨ws, hws⟩ := words_of r0
  obtain ⟨rs, hrs⟩ := words_of r1
  obtain ⟨hsn, hsp, hs12, hslast⟩ := shV_last ws hws.fit
  obtain ⟨i0, hi, hz0, hz1, hz2⟩ := info_parts infoShare
  have hg2 := i64_of g2
  have hg3 := i64_of g3
  have hg4 := u8_of g4
  obtain ⟨hh, rfl⟩ := Int.eq_ofNat_of_zero_le hg4.1
  have A1 := Lib.hid (Shares_any s0 l0 c0 ws w hws)
  have HR := Lib.hid hrs
  have HSN := Lib.hid hsn
  have HSL := Lib.hid hslast
  have hfirst := shV_first ws
  clear r0 r1 hws hrs hsn g2 g3 g4 hslast
  have HF1 := Lib.hid hfirst
  clear hfirst
  go_enter Try.func9, Try.ntmps9
  go_wp2_with fail
  refine A1.out.mono ?_
  rintro e w1 ⟨b, cap, rfl, ho, hb1⟩
  obtain ⟨_, _, he, h⟩ := own_pairs ho
  have hpa : PairsAt w1 b 0 (shV ws) := by
    rcases h with h | ⟨_, _, e, h⟩
    · rw [h] at hsp; simp at hsp
    · cases he; cases e; exact h
  have HP := Lib.hid hpa
  have A2 := Lib.hid (made_any b 0 cap (shV ws) s1 l1 c1 rs w1 HSN.out hpa (HR.out.later hb1))
  clear ho he h hpa A1
  go_wp2_with fail
  refine A2.out.mono ?_
  rintro e w2 ⟨p, g, bm, capm, rfl, hM, hok, hp1, hg1, hm1, hb2⟩
  have hsum : 0 ≤ sumR (madeV (shV ws) rs) ∧ sumR (madeV (shV ws) rs) ≤ 3932100 := by have := hok.sum; unfold madeV; omega
  have hids : idsL (madeV (shV ws) rs) = (shV ws).map (·.1) := hok.ids
  have hbw2 := Below.step hb1 hb2
  have hb1s := hb1.size
  have HM := Lib.hid hM
  have HP2 := Lib.hid (HP.out.later hb2)
  have HPG := Lib.hid (show ∀ k ∈ [p, g], w.heap.size ≤ k from fun k hk => by simp only [List.mem_cons, List.not_mem_nil, or_false] at hk; omega)
  have HIDS := Lib.hid hids
  clear hM hok A2 hb1 hb2 hids
  generalize madeV (shV ws) rs = L at *
  generalize hgl : shV ws = l at *
  clear hgl
  have hoklt : ∀ x ∈ l, 1 ≤ x.1 ∧ x.1 ≤ (l.length : Int) := fun x hx => by
    have h1 := (newC_zero HSN.out).2.1
    have h2 := okFrom_last h1 x hx
    have h3 := okFrom_mem h1 x hx
    have h4 := HSL.out
    omega
  have HOKLT := Lib.hid hoklt
  clear hoklt
  go_wp2_with (at_builtin; refine wpList_append_own _ rfl (.tmp 36) (.tmp 37) 23 rfl w2.heap.size 28 i0 (.agg #[.int .i64 0, .int .i64 0]) 2 16 Try.underlying23 hi hz0 hz1 hz2 rfl (by decide) _ 0 [] rfl (World.ownsRow_lit w2 #[] 0 (Nat.le_refl _) (by unfold maxLen; omega) rfl) ⟨b, 0, none⟩ l.length cap (flatP l) rfl ?c1 ?c2 (flatP_one l) ?c3 ?c4 ?c5 ?_)
  case c1 => exact flatP_len l
  case c2 => exact fun j u hu => cell_al _ (pairs_cell HP2.out j u hu)
  case c3 => unfold maxLen; omega
  case c4 => omega
  case c5 => simp
  intro v' w3 hown hgrow _
  have hb3 : Below w2.heap.size w2 w3 := (Below.allocS (Below.refl _ _) _).grown hgrow (by simp) (fun k hk => by cases hk; exact Nat.le_refl _)
  obtain ⟨gg, gcap, rfl⟩ : ∃ g cap, v' = .slice (some ⟨g, 0, none⟩) l.length cap := by
    rcases hown.2 with ⟨_, h⟩ | ⟨g', cap', _, rfl, _⟩
    · omega
    · exact ⟨g', cap', rfl⟩
  have HO := Lib.hid hown
  have HM3 := Lib.hid (HM.out.below hb3)
  have hbw3 := Below.step hbw2 hb3
  have hb23 := Lib.hid hb3
  have hggl := (hown.lt gg rfl).1
  have hgg2 := (hown.lt gg rfl).2
  have hml := HM.out.lts
  clear hown hgrow hb3
  have hdiv : (hh : Int) / 4 = ((hh / 4 : Nat) : Int) := by omega
  have hq256 : ((hh / 4 : Nat) : Int) % 256 = ((hh / 4 : Nat) : Int) := by omega
  have hkk : hh / 4 % l.length < l.length := Nat.mod_lt _ hsp
  have hmod : ((hh / 4 : Nat) : Int) % (l.length : Int) = ((hh / 4 % l.length : Nat) : Int) := by rw [← Int.natCast_emod]
  have hnz : ¬ ((l.length : Int) = 0) := by omega
  obtain ⟨r, hr⟩ : ∃ r : Nat, r = hh % 4 := ⟨_, rfl⟩
  have hmr : (hh : Int) % 4 = (r : Int) := by omega
  have hr4 : r < 4 := by omega
  obtain ⟨⟨y1, y2⟩, hy⟩ : ∃ x, l[hh / 4 % l.length]? = some x := ⟨_, List.getElem?_eq_getElem hkk⟩
  obtain ⟨x2, hx⟩ := HF1.out
  have HY := Lib.hid hy
  have HX := Lib.hid hx
  clear hr hy hx hg4
  generalize hh / 4 % l.length = kk at *
  generalize hh / 4 = qq at *
  have hk0 : (0 : Int) ≤ (kk : Int) := by omega
  have hk1 : (kk : Int) < (l.length : Int) := by omega
  have hcases : r = 0 ∨ r = 1 ∨ r = 2 ∨ r = 3 := by omega
  clear hr4
  rcases hcases with rfl | rfl | rfl | rfl
  · have o1 : ∃ u, w3.cell? ⟨gg, kk * 2 + 1, none⟩ = some u := by
      rw [HO.out.cellAt (kk * 2 + 1) (by omega)]
      exact ⟨_, List.getElem?_eq_getElem (by rw [flatP_len]; omega)⟩
    obtain ⟨u, o1⟩ := o1
    have f1 := HO.out.frozenAt (kk * 2 + 1)
    go_wp2_with fail
    have ho4 := (HO.out.stored (kk * 2 + 1) (.int .i64 (min a3 0))).1
    rw [flatP_set1 l kk y1 (min a3 0) (by rw [HY.out]; rfl)] at ho4
    have hk4 : Kept [gg] w3 (w3.setCell ⟨gg, kk * 2 + 1, none⟩ (.int .i64 (min a3 0))) := (Kept.refl _ _).setCell (Or.inl (by simp)) _
    have hlen : (l.set kk (y1, min a3 0)).length = l.length := by simp
    have HPI := Lib.hid (show PairsIn (w3.setCell ⟨gg, kk * 2 + 1, none⟩ (.int .i64 (min a3 0))) (.slice (some ⟨gg, 0, none⟩) l.length gcap) (l.set kk (y1, min a3 0)) by
      have := own_pairs (l := l.set kk (y1, min a3 0)) (by rw [hlen]; exact ho4)
      rwa [hlen] at this)
    have HC := Lib.hid (show newC (l.set kk (y1, min a3 0)) = 2 from bad_mem (x := (y1, min a3 0)) (by rw [List.mem_iff_getElem?]; exact ⟨kk, by rw [List.getElem?_set_self hkk]⟩) (by simp only; omega))
    have hl20 : (l.set kk (y1, min a3 0)).length ≤ 2000 := by omega
    have HM4 := Lib.hid (HM3.out.kept hk4 (by simp only [List.mem_singleton]; omega))
    have hbw4 := hbw3.setCell (p := ⟨gg, kk * 2 + 1, none⟩) (Nat.le_trans hbw2.size hggl) (.int .i64 (min a3 0))
    clear ho4 hk4 hlen o1 f1
    generalize w3.setCell ⟨gg, kk * 2 + 1, none⟩ (.int .i64 (min a3 0)) = w4 at *
    generalize l.set kk (y1, min a3 0) = l4 at *
    refine (New_any _ l4 w4 HPI.out hl20).mono ?_
    rintro e w5 ⟨hb5, ⟨hne, rfl⟩ | ⟨hz, _⟩⟩
    rotate_left
    · rw [HC.out] at hz; exact absurd hz (by decide)
    rw [HC.out]
    have HM5 := Lib.hid (HM4.out.below hb5)
    have hbw5 := Below.step hbw4 hb5
    clear hne hb5
    go_wp2_with fail
    refine (Total_any p g bm capm L l.length w5 HM5.out).mono ?_
    rintro e w6 ⟨rfl, rfl⟩
    go_wp2_with fail
    have hbx := below_a w5 (.cells #[.int .i64 (min a2 0), .int .i64 (max a2 13)] 3)
    have hx0 := Lib.hid (cell_nw w5 #[.int .i64 (min a2 0), .int .i64 (max a2 13)] 3 0 _ rfl)
    have hx1 := Lib.hid (cell_nw w5 #[.int .i64 (min a2 0), .int .i64 (max a2 13)] 3 1 _ rfl)
    have hBp : w5.heap.size ∉ [p, g] := by have := HM5.out.lts; simp only [List.mem_cons, List.not_mem_nil, or_false]; omega
    have HBP := Lib.hid hBp
    have HM6 := Lib.hid (HM5.out.below hbx)
    have hbw6 := Below.step hbw5 hbx
    clear hbx hBp
    generalize w5.heap.size = B at *
    generalize w5.alloc (.cells #[.int .i64 (min a2 0), .int .i64 (max a2 13)] 3) = w6 at *
    have hnots := Lib.hid (show ∀ x : Int, x ≤ 0 ∨ 13 ≤ x → hasId L x = false from fun x hx => hasId_not fun y hy e => by
      have h1 : y.1 ∈ idsL L := List.mem_map.2 ⟨y, hy, rfl⟩
      rw [HIDS.out, List.mem_map] at h1
      obtain ⟨z, hz, hze⟩ := h1
      have := HOKLT.out z hz
      omega)
    go_loopw [100] (fun i wr => ∃ j : Nat, j ≤ 2 ∧ i = .int .i64 j ∧ MeterAt wr p g bm capm L l.length ∧ wr.cell? ⟨B, 0, none⟩ = some (.int .i64 (min a2 0)) ∧ wr.cell? ⟨B, 1, none⟩ = some (.int .i64 (max a2 13)) ∧ Below w.heap.size w wr) (fun i _ => 2 - (intOf i).toNat)
    case atStart => exact ⟨0, Nat.zero_le _, rfl, HM6.out, hx0.out, hx1.out, hbw6⟩
    case round =>
      obtain ⟨j, hj, rfl, hM, hc0, hc1, hbr⟩ := hrel
      by_cases hlt : j < 2
      · obtain ⟨x, hxc, hxb, hxw⟩ : ∃ x, wr.cell? ⟨B, j, none⟩ = some (.int .i64 x) ∧ (x ≤ 0 ∨ 13 ≤ x) ∧ -9223372036854775808 ≤ x ∧ x ≤ 9223372036854775807 := by
          match j, hlt with
          | 0, _ => exact ⟨_, hc0, by omega, by omega⟩
          | 1, _ => exact ⟨_, hc1, by omega, by omega⟩
        have hid := Lib.hid (hnots.out x hxb)
        have hwf := Lib.hid (WalkArith.wf_i64 hxw)
        have hr6 := Lib.hid (show runC L x 1 = 6 by unfold runC; rw [if_neg (by omega), if_pos hid.out])
        have hr2 := Lib.hid (show runC L x (-1) = 2 from if_pos (Or.inl (by decide)))
        have HMr := Lib.hid hM
        have hk0 : (0 : Int) ≤ (j : Int) := by omega
        have hkn : (j : Int) < 2 := by omega
        clear hM
        go_wp2_with fail
        refine (Ran_fn p g bm capm L l.length x wr HMr.out hwf.out).mono ?_
        rintro e w7 ⟨rfl, rfl⟩
        rw [hid.out]
        go_wp2_with fail
        refine (Lag_fn p g bm capm L l.length x wr HMr.out hwf.out).mono ?_
        rintro e w7 ⟨rfl, hb7⟩
        rw [hid.out]
        replace hc0 := cell_later hb7 hc0
        replace hc1 := cell_later hb7 hc1
        replace hxc := cell_later hb7 hxc
        have HM7 := Lib.hid (HMr.out.below hb7)
        have hb7w := Below.step hbr hb7
        clear hbr hb7
        go_wp2_with fail
        refine (Until_fn p g bm capm L l.length x w7 HM7.out hwf.out).mono ?_
        rintro e w8 ⟨rfl, hb8⟩
        rw [if_neg (by rw [hid.out]; decide)]
        replace hc0 := cell_later hb8 hc0
        replace hc1 := cell_later hb8 hc1
        replace hxc := cell_later hb8 hxc
        have HM8 := Lib.hid (HM7.out.below hb8)
        have hb8w := Below.step hb7w hb8
        clear hb7w hb8
        go_wp2_with fail
        refine (Run_any p g bm capm L l.length x 1 w8 HM8.out hwf.out (by decide)).mono ?_
        rintro e w9 ⟨he, hM9, hk9⟩
        rw [hr6.out] at he
        subst he
        rw [show runL L x 1 = L from if_neg (by rw [hr6.out]; decide)] at hM9
        replace hc0 := hk9.cellAt hc0 HBP.out
        replace hc1 := hk9.cellAt hc1 HBP.out
        replace hxc := hk9.cellAt hxc HBP.out
        have hb9w := Kept.stepB hb8w (Nat.le_refl _) hk9 HPG.out
        have HM9 := Lib.hid hM9
        clear hM9 hk9 hb8w
        go_wp2_with fail
        refine (Run_any p g bm capm L l.length x (-1) w9 HM9.out hwf.out (by decide)).mono ?_
        rintro e w10 ⟨he, hM10, hk10⟩
        rw [hr2.out] at he
        subst he
        rw [show runL L x (-1) = L from if_neg (by rw [hr2.out]; decide)] at hM10
        replace hc0 := hk10.cellAt hc0 HBP.out
        replace hc1 := hk10.cellAt hc1 HBP.out
        have hb10w := Kept.stepB hb9w (Nat.le_refl _) hk10 HPG.out
        have HM10 := Lib.hid hM10
        clear hM10 hk10 hb9w hxc
        go_wp2_with fail
        go_roundw
        case rel => exact ⟨j + 1, by omega, by go_num, HM10.out, hc0, hc1, hb10w⟩
        case measure => simp [intOf]; omega
      · obtain rfl : j = 2 := by omega
        have HMr := Lib.hid hM
        have hra := Lib.hid (show runC L 1 (min a3 (-1)) = 2 from if_pos (Or.inl (by omega)))
        have hrb := Lib.hid (show runC L 1 (max a3 68719476737) = 2 from if_pos (Or.inr (by omega)))
        have hid1 := Lib.hid (show hasId L 1 = true from hasId_iff.2 (ids_mem.2 (by rw [HIDS.out, List.mem_map]; exact ⟨_, List.mem_of_getElem? HX.out, rfl⟩)))
        clear hM hc0 hc1 hlt hj
        go_wp2_with fail
        refine (Run_any p g bm capm L l.length 1 (min a3 (-1)) wr HMr.out (by decide) (WalkArith.wf_i64 (by omega))).mono ?_
        rintro e w7 ⟨he, hM7, hk7⟩
        rw [hra.out] at he
        subst he
        rw [show runL L 1 (min a3 (-1)) = L from if_neg (by rw [hra.out]; decide)] at hM7
        have hb7w := Kept.stepB hbr (Nat.le_refl _) hk7 HPG.out
        have HM7 := Lib.hid hM7
        clear hM7 hk7 hbr
        go_wp2_with fail
        refine (Run_any p g bm capm L l.length 1 (max a3 68719476737) w7 HM7.out (by decide) (WalkArith.wf_i64 (by omega))).mono ?_
        rintro e w8 ⟨he, hM8, hk8⟩
        rw [hrb.out] at he
        subst he
        rw [show runL L 1 (max a3 68719476737) = L from if_neg (by rw [hrb.out]; decide)] at hM8
        have hb8w := Kept.stepB hb7w (Nat.le_refl _) hk8 HPG.out
        have HM8 := Lib.hid hM8
        clear hM8 hk8 hb7w
        by_cases hpos : 0 < sumR L
        · have hrc := Lib.hid (show runC L 1 68719476736 = 4 by unfold runC; rw [if_neg (by omega), if_neg (by rw [hid1.out]; decide), if_pos (by omega)])
          go_wp2_with fail
          refine (Run_any p g bm capm L l.length 1 68719476736 w8 HM8.out (by decide) (by decide)).mono ?_
          rintro e w9 ⟨he, hM9, hk9⟩
          rw [hrc.out] at he
          subst he
          rw [show runL L 1 68719476736 = L from if_neg (by rw [hrc.out]; decide)] at hM9
          have hb9w := Kept.stepB hb8w (Nat.le_refl _) hk9 HPG.out
          have HM9 := Lib.hid hM9
          have t1 : (sumR L == sumR L) = true := by simp
          clear hM9 hk9 hb8w
          go_wp2_with fail
          refine (Total_any p g bm capm L l.length w9 HM9.out).mono ?_
          rintro e w10 ⟨rfl, rfl⟩
          go_wp2_with fail
          refine (awake_true w9).mono ?_
          rintro e w11 ⟨rfl, hb11⟩
          go_wp2_with fail
          go_ret
          exact ⟨rfl, Below.step hb9w hb11⟩
        · have t1 : (sumR L == sumR L) = true := by simp
          go_wp2_with fail
          refine (Total_any p g bm capm L l.length w8 HM8.out).mono ?_
          rintro e w10 ⟨rfl, rfl⟩
          go_wp2_with fail
          refine (awake_true w8).mono ?_
          rintro e w11 ⟨rfl, hb11⟩
          go_wp2_with fail
          go_ret
          exact ⟨rfl, Below.step hb8w hb11⟩
  · have o1 : ∃ u, w3.cell? ⟨gg, kk * 2 + 1, none⟩ = some u := by
      rw [HO.out.cellAt (kk * 2 + 1) (by omega)]
      exact ⟨_, List.getElem?_eq_getElem (by rw [flatP_len]; omega)⟩
    obtain ⟨u, o1⟩ := o1
    have f1 := HO.out.frozenAt (kk * 2 + 1)
    go_wp2_with fail
    have ho4 := (HO.out.stored (kk * 2 + 1) (.int .i64 (max a3 65537))).1
    rw [flatP_set1 l kk y1 (max a3 65537) (by rw [HY.out]; rfl)] at ho4
    have hk4 : Kept [gg] w3 (w3.setCell ⟨gg, kk * 2 + 1, none⟩ (.int .i64 (max a3 65537))) := (Kept.refl _ _).setCell (Or.inl (by simp)) _
    have hlen : (l.set kk (y1, max a3 65537)).length = l.length := by simp
    have HPI := Lib.hid (show PairsIn (w3.setCell ⟨gg, kk * 2 + 1, none⟩ (.int .i64 (max a3 65537))) (.slice (some ⟨gg, 0, none⟩) l.length gcap) (l.set kk (y1, max a3 65537)) by
      have := own_pairs (l := l.set kk (y1, max a3 65537)) (by rw [hlen]; exact ho4)
      rwa [hlen] at this)
    have HC := Lib.hid (show newC (l.set kk (y1, max a3 65537)) = 2 from bad_mem (x := (y1, max a3 65537)) (by rw [List.mem_iff_getElem?]; exact ⟨kk, by rw [List.getElem?_set_self hkk]⟩) (by simp only; omega))
    have hl20 : (l.set kk (y1, max a3 65537)).length ≤ 2000 := by omega
    have HM4 := Lib.hid (HM3.out.kept hk4 (by simp only [List.mem_singleton]; omega))
    have hbw4 := hbw3.setCell (p := ⟨gg, kk * 2 + 1, none⟩) (Nat.le_trans hbw2.size hggl) (.int .i64 (max a3 65537))
    clear ho4 hk4 hlen o1 f1
    generalize w3.setCell ⟨gg, kk * 2 + 1, none⟩ (.int .i64 (max a3 65537)) = w4 at *
    generalize l.set kk (y1, max a3 65537) = l4 at *
    refine (New_any _ l4 w4 HPI.out hl20).mono ?_
    rintro e w5 ⟨hb5, ⟨hne, rfl⟩ | ⟨hz, _⟩⟩
    rotate_left
    · rw [HC.out] at hz; exact absurd hz (by decide)
    rw [HC.out]
    have HM5 := Lib.hid (HM4.out.below hb5)
    have hbw5 := Below.step hbw4 hb5
    clear hne hb5
    go_wp2_with fail
    refine (Total_any p g bm capm L l.length w5 HM5.out).mono ?_
    rintro e w6 ⟨rfl, rfl⟩
    go_wp2_with fail
    have hbx := below_a w5 (.cells #[.int .i64 (min a2 0), .int .i64 (max a2 13)] 3)
    have hx0 := Lib.hid (cell_nw w5 #[.int .i64 (min a2 0), .int .i64 (max a2 13)] 3 0 _ rfl)
    have hx1 := Lib.hid (cell_nw w5 #[.int .i64 (min a2 0), .int .i64 (max a2 13)] 3 1 _ rfl)
    have hBp : w5.heap.size ∉ [p, g] := by have := HM5.out.lts; simp only [List.mem_cons, List.not_mem_nil, or_false]; omega
    have HBP := Lib.hid hBp
    have HM6 := Lib.hid (HM5.out.below hbx)
    have hbw6 := Below.step hbw5 hbx
    clear hbx hBp
    generalize w5.heap.size = B at *
    generalize w5.alloc (.cells #[.int .i64 (min a2 0), .int .i64 (max a2 13)] 3) = w6 at *
    have hnots := Lib.hid (show ∀ x : Int, x ≤ 0 ∨ 13 ≤ x → hasId L x = false from fun x hx => hasId_not fun y hy e => by
      have h1 : y.1 ∈ idsL L := List.mem_map.2 ⟨y, hy, rfl⟩
      rw [HIDS.out, List.mem_map] at h1
      obtain ⟨z, hz, hze⟩ := h1
      have := HOKLT.out z hz
      omega)
    go_loopw [100] (fun i wr => ∃ j : Nat, j ≤ 2 ∧ i = .int .i64 j ∧ MeterAt wr p g bm capm L l.length ∧ wr.cell? ⟨B, 0, none⟩ = some (.int .i64 (min a2 0)) ∧ wr.cell? ⟨B, 1, none⟩ = some (.int .i64 (max a2 13)) ∧ Below w.heap.size w wr) (fun i _ => 2 - (intOf i).toNat)
    case atStart => exact ⟨0, Nat.zero_le _, rfl, HM6.out, hx0.out, hx1.out, hbw6⟩
    case round =>
      obtain ⟨j, hj, rfl, hM, hc0, hc1, hbr⟩ := hrel
      by_cases hlt : j < 2
      · obtain ⟨x, hxc, hxb, hxw⟩ : ∃ x, wr.cell? ⟨B, j, none⟩ = some (.int .i64 x) ∧ (x ≤ 0 ∨ 13 ≤ x) ∧ -9223372036854775808 ≤ x ∧ x ≤ 9223372036854775807 := by
          match j, hlt with
          | 0, _ => exact ⟨_, hc0, by omega, by omega⟩
          | 1, _ => exact ⟨_, hc1, by omega, by omega⟩
        have hid := Lib.hid (hnots.out x hxb)
        have hwf := Lib.hid (WalkArith.wf_i64 hxw)
        have hr6 := Lib.hid (show runC L x 1 = 6 by unfold runC; rw [if_neg (by omega), if_pos hid.out])
        have hr2 := Lib.hid (show runC L x (-1) = 2 from if_pos (Or.inl (by decide)))
        have HMr := Lib.hid hM
        have hk0 : (0 : Int) ≤ (j : Int) := by omega
        have hkn : (j : Int) < 2 := by omega
        clear hM
        go_wp2_with fail
        refine (Ran_fn p g bm capm L l.length x wr HMr.out hwf.out).mono ?_
        rintro e w7 ⟨rfl, rfl⟩
        rw [hid.out]
        go_wp2_with fail
        refine (Lag_fn p g bm capm L l.length x wr HMr.out hwf.out).mono ?_
        rintro e w7 ⟨rfl, hb7⟩
        rw [hid.out]
        replace hc0 := cell_later hb7 hc0
        replace hc1 := cell_later hb7 hc1
        replace hxc := cell_later hb7 hxc
        have HM7 := Lib.hid (HMr.out.below hb7)
        have hb7w := Below.step hbr hb7
        clear hbr hb7
        go_wp2_with fail
        refine (Until_fn p g bm capm L l.length x w7 HM7.out hwf.out).mono ?_
        rintro e w8 ⟨rfl, hb8⟩
        rw [if_neg (by rw [hid.out]; decide)]
        replace hc0 := cell_later hb8 hc0
        replace hc1 := cell_later hb8 hc1
        replace hxc := cell_later hb8 hxc
        have HM8 := Lib.hid (HM7.out.below hb8)
        have hb8w := Below.step hb7w hb8
        clear hb7w hb8
        go_wp2_with fail
        refine (Run_any p g bm capm L l.length x 1 w8 HM8.out hwf.out (by decide)).mono ?_
        rintro e w9 ⟨he, hM9, hk9⟩
        rw [hr6.out] at he
        subst he
        rw [show runL L x 1 = L from if_neg (by rw [hr6.out]; decide)] at hM9
        replace hc0 := hk9.cellAt hc0 HBP.out
        replace hc1 := hk9.cellAt hc1 HBP.out
        replace hxc := hk9.cellAt hxc HBP.out
        have hb9w := Kept.stepB hb8w (Nat.le_refl _) hk9 HPG.out
        have HM9 := Lib.hid hM9
        clear hM9 hk9 hb8w
        go_wp2_with fail
        refine (Run_any p g bm capm L l.length x (-1) w9 HM9.out hwf.out (by decide)).mono ?_
        rintro e w10 ⟨he, hM10, hk10⟩
        rw [hr2.out] at he
        subst he
        rw [show runL L x (-1) = L from if_neg (by rw [hr2.out]; decide)] at hM10
        replace hc0 := hk10.cellAt hc0 HBP.out
        replace hc1 := hk10.cellAt hc1 HBP.out
        have hb10w := Kept.stepB hb9w (Nat.le_refl _) hk10 HPG.out
        have HM10 := Lib.hid hM10
        clear hM10 hk10 hb9w hxc
        go_wp2_with fail
        go_roundw
        case rel => exact ⟨j + 1, by omega, by go_num, HM10.out, hc0, hc1, hb10w⟩
        case measure => simp [intOf]; omega
      · obtain rfl : j = 2 := by omega
        have HMr := Lib.hid hM
        have hra := Lib.hid (show runC L 1 (min a3 (-1)) = 2 from if_pos (Or.inl (by omega)))
        have hrb := Lib.hid (show runC L 1 (max a3 68719476737) = 2 from if_pos (Or.inr (by omega)))
        have hid1 := Lib.hid (show hasId L 1 = true from hasId_iff.2 (ids_mem.2 (by rw [HIDS.out, List.mem_map]; exact ⟨_, List.mem_of_getElem? HX.out, rfl⟩)))
        clear hM hc0 hc1 hlt hj
        go_wp2_with fail
        refine (Run_any p g bm capm L l.length 1 (min a3 (-1)) wr HMr.out (by decide) (WalkArith.wf_i64 (by omega))).mono ?_
        rintro e w7 ⟨he, hM7, hk7⟩
        rw [hra.out] at he
        subst he
        rw [show runL L 1 (min a3 (-1)) = L from if_neg (by rw [hra.out]; decide)] at hM7
        have hb7w := Kept.stepB hbr (Nat.le_refl _) hk7 HPG.out
        have HM7 := Lib.hid hM7
        clear hM7 hk7 hbr
        go_wp2_with fail
        refine (Run_any p g bm capm L l.length 1 (max a3 68719476737) w7 HM7.out (by decide) (WalkArith.wf_i64 (by omega))).mono ?_
        rintro e w8 ⟨he, hM8, hk8⟩
        rw [hrb.out] at he
        subst he
        rw [show runL L 1 (max a3 68719476737) = L from if_neg (by rw [hrb.out]; decide)] at hM8
        have hb8w := Kept.stepB hb7w (Nat.le_refl _) hk8 HPG.out
        have HM8 := Lib.hid hM8
        clear hM8 hk8 hb7w
        by_cases hpos : 0 < sumR L
        · have hrc := Lib.hid (show runC L 1 68719476736 = 4 by unfold runC; rw [if_neg (by omega), if_neg (by rw [hid1.out]; decide), if_pos (by omega)])
          go_wp2_with fail
          refine (Run_any p g bm capm L l.length 1 68719476736 w8 HM8.out (by decide) (by decide)).mono ?_
          rintro e w9 ⟨he, hM9, hk9⟩
          rw [hrc.out] at he
          subst he
          rw [show runL L 1 68719476736 = L from if_neg (by rw [hrc.out]; decide)] at hM9
          have hb9w := Kept.stepB hb8w (Nat.le_refl _) hk9 HPG.out
          have HM9 := Lib.hid hM9
          have t1 : (sumR L == sumR L) = true := by simp
          clear hM9 hk9 hb8w
          go_wp2_with fail
          refine (Total_any p g bm capm L l.length w9 HM9.out).mono ?_
          rintro e w10 ⟨rfl, rfl⟩
          go_wp2_with fail
          refine (awake_true w9).mono ?_
          rintro e w11 ⟨rfl, hb11⟩
          go_wp2_with fail
          go_ret
          exact ⟨rfl, Below.step hb9w hb11⟩
        · have t1 : (sumR L == sumR L) = true := by simp
          go_wp2_with fail
          refine (Total_any p g bm capm L l.length w8 HM8.out).mono ?_
          rintro e w10 ⟨rfl, rfl⟩
          go_wp2_with fail
          refine (awake_true w8).mono ?_
          rintro e w11 ⟨rfl, hb11⟩
          go_wp2_with fail
          go_ret
          exact ⟨rfl, Below.step hb8w hb11⟩
  · have o1 : ∃ u, w3.cell? ⟨gg, 0, none⟩ = some u := by
      rw [HO.out.cellAt (0) (by omega)]
      exact ⟨_, List.getElem?_eq_getElem (by rw [flatP_len]; omega)⟩
    obtain ⟨u, o1⟩ := o1
    have f1 := HO.out.frozenAt (0)
    go_wp2_with fail
    have ho4 := (HO.out.stored (0) (.int .i64 (min a2 0))).1
    rw [flatP_set0 l x2 (min a2 0) (by rw [HX.out]; rfl)] at ho4
    have hk4 : Kept [gg] w3 (w3.setCell ⟨gg, 0, none⟩ (.int .i64 (min a2 0))) := (Kept.refl _ _).setCell (Or.inl (by simp)) _
    have hlen : (l.set 0 (min a2 0, x2)).length = l.length := by simp
    have HPI := Lib.hid (show PairsIn (w3.setCell ⟨gg, 0, none⟩ (.int .i64 (min a2 0))) (.slice (some ⟨gg, 0, none⟩) l.length gcap) (l.set 0 (min a2 0, x2)) by
      have := own_pairs (l := l.set 0 (min a2 0, x2)) (by rw [hlen]; exact ho4)
      rwa [hlen] at this)
    have HC := Lib.hid (show newC (l.set 0 (min a2 0, x2)) = 2 from bad_mem (x := (min a2 0, x2)) (by rw [List.mem_iff_getElem?]; exact ⟨0, by rw [List.getElem?_set_self hsp]⟩) (by simp only; omega))
    have hl20 : (l.set 0 (min a2 0, x2)).length ≤ 2000 := by omega
    have HM4 := Lib.hid (HM3.out.kept hk4 (by simp only [List.mem_singleton]; omega))
    have hbw4 := hbw3.setCell (p := ⟨gg, 0, none⟩) (Nat.le_trans hbw2.size hggl) (.int .i64 (min a2 0))
    clear ho4 hk4 hlen o1 f1
    generalize w3.setCell ⟨gg, 0, none⟩ (.int .i64 (min a2 0)) = w4 at *
    generalize l.set 0 (min a2 0, x2) = l4 at *
    refine (New_any _ l4 w4 HPI.out hl20).mono ?_
    rintro e w5 ⟨hb5, ⟨hne, rfl⟩ | ⟨hz, _⟩⟩
    rotate_left
    · rw [HC.out] at hz; exact absurd hz (by decide)
    rw [HC.out]
    have HM5 := Lib.hid (HM4.out.below hb5)
    have hbw5 := Below.step hbw4 hb5
    clear hne hb5
    go_wp2_with fail
    refine (Total_any p g bm capm L l.length w5 HM5.out).mono ?_
    rintro e w6 ⟨rfl, rfl⟩
    go_wp2_with fail
    have hbx := below_a w5 (.cells #[.int .i64 (min a2 0), .int .i64 (max a2 13)] 3)
    have hx0 := Lib.hid (cell_nw w5 #[.int .i64 (min a2 0), .int .i64 (max a2 13)] 3 0 _ rfl)
    have hx1 := Lib.hid (cell_nw w5 #[.int .i64 (min a2 0), .int .i64 (max a2 13)] 3 1 _ rfl)
    have hBp : w5.heap.size ∉ [p, g] := by have := HM5.out.lts; simp only [List.mem_cons, List.not_mem_nil, or_false]; omega
    have HBP := Lib.hid hBp
    have HM6 := Lib.hid (HM5.out.below hbx)
    have hbw6 := Below.step hbw5 hbx
    clear hbx hBp
    generalize w5.heap.size = B at *
    generalize w5.alloc (.cells #[.int .i64 (min a2 0), .int .i64 (max a2 13)] 3) = w6 at *
    have hnots := Lib.hid (show ∀ x : Int, x ≤ 0 ∨ 13 ≤ x → hasId L x = false from fun x hx => hasId_not fun y hy e => by
      have h1 : y.1 ∈ idsL L := List.mem_map.2 ⟨y, hy, rfl⟩
      rw [HIDS.out, List.mem_map] at h1
      obtain ⟨z, hz, hze⟩ := h1
      have := HOKLT.out z hz
      omega)
    go_loopw [100] (fun i wr => ∃ j : Nat, j ≤ 2 ∧ i = .int .i64 j ∧ MeterAt wr p g bm capm L l.length ∧ wr.cell? ⟨B, 0, none⟩ = some (.int .i64 (min a2 0)) ∧ wr.cell? ⟨B, 1, none⟩ = some (.int .i64 (max a2 13)) ∧ Below w.heap.size w wr) (fun i _ => 2 - (intOf i).toNat)
    case atStart => exact ⟨0, Nat.zero_le _, rfl, HM6.out, hx0.out, hx1.out, hbw6⟩
    case round =>
      obtain ⟨j, hj, rfl, hM, hc0, hc1, hbr⟩ := hrel
      by_cases hlt : j < 2
      · obtain ⟨x, hxc, hxb, hxw⟩ : ∃ x, wr.cell? ⟨B, j, none⟩ = some (.int .i64 x) ∧ (x ≤ 0 ∨ 13 ≤ x) ∧ -9223372036854775808 ≤ x ∧ x ≤ 9223372036854775807 := by
          match j, hlt with
          | 0, _ => exact ⟨_, hc0, by omega, by omega⟩
          | 1, _ => exact ⟨_, hc1, by omega, by omega⟩
        have hid := Lib.hid (hnots.out x hxb)
        have hwf := Lib.hid (WalkArith.wf_i64 hxw)
        have hr6 := Lib.hid (show runC L x 1 = 6 by unfold runC; rw [if_neg (by omega), if_pos hid.out])
        have hr2 := Lib.hid (show runC L x (-1) = 2 from if_pos (Or.inl (by decide)))
        have HMr := Lib.hid hM
        have hk0 : (0 : Int) ≤ (j : Int) := by omega
        have hkn : (j : Int) < 2 := by omega
        clear hM
        go_wp2_with fail
        refine (Ran_fn p g bm capm L l.length x wr HMr.out hwf.out).mono ?_
        rintro e w7 ⟨rfl, rfl⟩
        rw [hid.out]
        go_wp2_with fail
        refine (Lag_fn p g bm capm L l.length x wr HMr.out hwf.out).mono ?_
        rintro e w7 ⟨rfl, hb7⟩
        rw [hid.out]
        replace hc0 := cell_later hb7 hc0
        replace hc1 := cell_later hb7 hc1
        replace hxc := cell_later hb7 hxc
        have HM7 := Lib.hid (HMr.out.below hb7)
        have hb7w := Below.step hbr hb7
        clear hbr hb7
        go_wp2_with fail
        refine (Until_fn p g bm capm L l.length x w7 HM7.out hwf.out).mono ?_
        rintro e w8 ⟨rfl, hb8⟩
        rw [if_neg (by rw [hid.out]; decide)]
        replace hc0 := cell_later hb8 hc0
        replace hc1 := cell_later hb8 hc1
        replace hxc := cell_later hb8 hxc
        have HM8 := Lib.hid (HM7.out.below hb8)
        have hb8w := Below.step hb7w hb8
        clear hb7w hb8
        go_wp2_with fail
        refine (Run_any p g bm capm L l.length x 1 w8 HM8.out hwf.out (by decide)).mono ?_
        rintro e w9 ⟨he, hM9, hk9⟩
        rw [hr6.out] at he
        subst he
        rw [show runL L x 1 = L from if_neg (by rw [hr6.out]; decide)] at hM9
        replace hc0 := hk9.cellAt hc0 HBP.out
        replace hc1 := hk9.cellAt hc1 HBP.out
        replace hxc := hk9.cellAt hxc HBP.out
        have hb9w := Kept.stepB hb8w (Nat.le_refl _) hk9 HPG.out
        have HM9 := Lib.hid hM9
        clear hM9 hk9 hb8w
        go_wp2_with fail
        refine (Run_any p g bm capm L l.length x (-1) w9 HM9.out hwf.out (by decide)).mono ?_
        rintro e w10 ⟨he, hM10, hk10⟩
        rw [hr2.out] at he
        subst he
        rw [show runL L x (-1) = L from if_neg (by rw [hr2.out]; decide)] at hM10
        replace hc0 := hk10.cellAt hc0 HBP.out
        replace hc1 := hk10.cellAt hc1 HBP.out
        have hb10w := Kept.stepB hb9w (Nat.le_refl _) hk10 HPG.out
        have HM10 := Lib.hid hM10
        clear hM10 hk10 hb9w hxc
        go_wp2_with fail
        go_roundw
        case rel => exact ⟨j + 1, by omega, by go_num, HM10.out, hc0, hc1, hb10w⟩
        case measure => simp [intOf]; omega
      · obtain rfl : j = 2 := by omega
        have HMr := Lib.hid hM
        have hra := Lib.hid (show runC L 1 (min a3 (-1)) = 2 from if_pos (Or.inl (by omega)))
        have hrb := Lib.hid (show runC L 1 (max a3 68719476737) = 2 from if_pos (Or.inr (by omega)))
        have hid1 := Lib.hid (show hasId L 1 = true from hasId_iff.2 (ids_mem.2 (by rw [HIDS.out, List.mem_map]; exact ⟨_, List.mem_of_getElem? HX.out, rfl⟩)))
        clear hM hc0 hc1 hlt hj
        go_wp2_with fail
        refine (Run_any p g bm capm L l.length 1 (min a3 (-1)) wr HMr.out (by decide) (WalkArith.wf_i64 (by omega))).mono ?_
        rintro e w7 ⟨he, hM7, hk7⟩
        rw [hra.out] at he
        subst he
        rw [show runL L 1 (min a3 (-1)) = L from if_neg (by rw [hra.out]; decide)] at hM7
        have hb7w := Kept.stepB hbr (Nat.le_refl _) hk7 HPG.out
        have HM7 := Lib.hid hM7
        clear hM7 hk7 hbr
        go_wp2_with fail
        refine (Run_any p g bm capm L l.length 1 (max a3 68719476737) w7 HM7.out (by decide) (WalkArith.wf_i64 (by omega))).mono ?_
        rintro e w8 ⟨he, hM8, hk8⟩
        rw [hrb.out] at he
        subst he
        rw [show runL L 1 (max a3 68719476737) = L from if_neg (by rw [hrb.out]; decide)] at hM8
        have hb8w := Kept.stepB hb7w (Nat.le_refl _) hk8 HPG.out
        have HM8 := Lib.hid hM8
        clear hM8 hk8 hb7w
        by_cases hpos : 0 < sumR L
        · have hrc := Lib.hid (show runC L 1 68719476736 = 4 by unfold runC; rw [if_neg (by omega), if_neg (by rw [hid1.out]; decide), if_pos (by omega)])
          go_wp2_with fail
          refine (Run_any p g bm capm L l.length 1 68719476736 w8 HM8.out (by decide) (by decide)).mono ?_
          rintro e w9 ⟨he, hM9, hk9⟩
          rw [hrc.out] at he
          subst he
          rw [show runL L 1 68719476736 = L from if_neg (by rw [hrc.out]; decide)] at hM9
          have hb9w := Kept.stepB hb8w (Nat.le_refl _) hk9 HPG.out
          have HM9 := Lib.hid hM9
          have t1 : (sumR L == sumR L) = true := by simp
          clear hM9 hk9 hb8w
          go_wp2_with fail
          refine (Total_any p g bm capm L l.length w9 HM9.out).mono ?_
          rintro e w10 ⟨rfl, rfl⟩
          go_wp2_with fail
          refine (awake_true w9).mono ?_
          rintro e w11 ⟨rfl, hb11⟩
          go_wp2_with fail
          go_ret
          exact ⟨rfl, Below.step hb9w hb11⟩
        · have t1 : (sumR L == sumR L) = true := by simp
          go_wp2_with fail
          refine (Total_any p g bm capm L l.length w8 HM8.out).mono ?_
          rintro e w10 ⟨rfl, rfl⟩
          go_wp2_with fail
          refine (awake_true w8).mono ?_
          rintro e w11 ⟨rfl, hb11⟩
          go_wp2_with fail
          go_ret
          exact ⟨rfl, Below.step hb8w hb11⟩
  · go_wp2_with (at_builtin; refine wpList_append_own _ rfl (.tmp 72) (.tmp 79) 23 rfl w2.heap.size 28 i0 (.agg #[.int .i64 0, .int .i64 0]) 2 16 Try.underlying23 hi hz0 hz1 hz2 rfl (by decide) _ _ _ rfl (HO.out.alloc _) ⟨w3.heap.size, 0, none⟩ 1 1 [.int .i64 (min (max a2 0) (l.length : Int)), .int .i64 1] rfl rfl ?d1 ?d2 ?d3 ?d4 ?d5 ?_)
    case d1 =>
      intro j u hj
      match j, hj with
      | 0, hj => simp at hj; subst hj; go_simp
      | 1, hj => simp at hj; subst hj; go_simp
      | j + 2, hj => simp at hj
    case d2 => intro u hu; simp at hu; rcases hu with rfl | rfl <;> rfl
    case d3 => unfold maxLen; omega
    case d4 => omega
    case d5 => simp; omega
    intro v' w4 hown hgrow _
    obtain ⟨g4, gcap4, rfl⟩ : ∃ g cap, v' = .slice (some ⟨g, 0, none⟩) (l.length + 1) cap := own_some hown
    have hb4 : Below w2.heap.size w2 w4 := by
      refine Below.grown (a := w2) (w := w3.alloc (.cells #[.int .i64 (min (max a2 0) (l.length : Int)), .int .i64 1] 28)) ?_ hgrow (by simp; omega) (fun k hk => by cases hk; exact hggl)
      exact Below.allocS hb23.out _
    have hlen : (l ++ [(min (max a2 0) (l.length : Int), 1)]).length = l.length + 1 := by simp
    have HPI := Lib.hid (show PairsIn w4 (.slice (some ⟨g4, 0, none⟩) (l.length + 1) gcap4) (l ++ [(min (max a2 0) (l.length : Int), 1)]) by
      have := own_pairs (l := l ++ [(min (max a2 0) (l.length : Int), 1)]) (by rw [hlen, flatP_append]; exact hown)
      rwa [hlen] at this)
    have HC := Lib.hid (show newC (l ++ [(min (max a2 0) (l.length : Int), 1)]) = 2 from newC_two (by
      rw [okFrom_append, HSL.out]
      simp only [okFrom, okOne]
      have : decide ((l.length : Int) < min (max a2 0) (l.length : Int)) = false := decide_eq_false (by omega)
      rw [this]; simp))
    have hl20 : (l ++ [(min (max a2 0) (l.length : Int), 1)]).length ≤ 2000 := by omega
    have HM4 := Lib.hid (HM.out.below hb4)
    have hbw4 := Below.step hbw2 hb4
    clear hown hgrow hlen hb4
    generalize l ++ [(min (max a2 0) (l.length : Int), 1)] = l4 at *
    go_wp2_with fail
    refine (New_any _ l4 w4 HPI.out hl20).mono ?_
    rintro e w5 ⟨hb5, ⟨hne, rfl⟩ | ⟨hz, _⟩⟩
    rotate_left
    · rw [HC.out] at hz; exact absurd hz (by decide)
    rw [HC.out]
    have HM5 := Lib.hid (HM4.out.below hb5)
    have hbw5 := Below.step hbw4 hb5
    clear hne hb5
    go_wp2_with fail
    refine (Total_any p g bm capm L l.length w5 HM5.out).mono ?_
    rintro e w6 ⟨rfl, rfl⟩
    go_wp2_with fail
    have hbx := below_a w5 (.cells #[.int .i64 (min a2 0), .int .i64 (max a2 13)] 3)
    have hx0 := Lib.hid (cell_nw w5 #[.int .i64 (min a2 0), .int .i64 (max a2 13)] 3 0 _ rfl)
    have hx1 := Lib.hid (cell_nw w5 #[.int .i64 (min a2 0), .int .i64 (max a2 13)] 3 1 _ rfl)
    have hBp : w5.heap.size ∉ [p, g] := by have := HM5.out.lts; simp only [List.mem_cons, List.not_mem_nil, or_false]; omega
    have HBP := Lib.hid hBp
    have HM6 := Lib.hid (HM5.out.below hbx)
    have hbw6 := Below.step hbw5 hbx
    clear hbx hBp
    generalize w5.heap.size = B at *
    generalize w5.alloc (.cells #[.int .i64 (min a2 0), .int .i64 (max a2 13)] 3) = w6 at *
    have hnots := Lib.hid (show ∀ x : Int, x ≤ 0 ∨ 13 ≤ x → hasId L x = false from fun x hx => hasId_not fun y hy e => by
      have h1 : y.1 ∈ idsL L := List.mem_map.2 ⟨y, hy, rfl⟩
      rw [HIDS.out, List.mem_map] at h1
      obtain ⟨z, hz, hze⟩ := h1
      have := HOKLT.out z hz
      omega)
    go_loopw [100] (fun i wr => ∃ j : Nat, j ≤ 2 ∧ i = .int .i64 j ∧ MeterAt wr p g bm capm L l.length ∧ wr.cell? ⟨B, 0, none⟩ = some (.int .i64 (min a2 0)) ∧ wr.cell? ⟨B, 1, none⟩ = some (.int .i64 (max a2 13)) ∧ Below w.heap.size w wr) (fun i _ => 2 - (intOf i).toNat)
    case atStart => exact ⟨0, Nat.zero_le _, rfl, HM6.out, hx0.out, hx1.out, hbw6⟩
    case round =>
      obtain ⟨j, hj, rfl, hM, hc0, hc1, hbr⟩ := hrel
      by_cases hlt : j < 2
      · obtain ⟨x, hxc, hxb, hxw⟩ : ∃ x, wr.cell? ⟨B, j, none⟩ = some (.int .i64 x) ∧ (x ≤ 0 ∨ 13 ≤ x) ∧ -9223372036854775808 ≤ x ∧ x ≤ 9223372036854775807 := by
          match j, hlt with
          | 0, _ => exact ⟨_, hc0, by omega, by omega⟩
          | 1, _ => exact ⟨_, hc1, by omega, by omega⟩
        have hid := Lib.hid (hnots.out x hxb)
        have hwf := Lib.hid (WalkArith.wf_i64 hxw)
        have hr6 := Lib.hid (show runC L x 1 = 6 by unfold runC; rw [if_neg (by omega), if_pos hid.out])
        have hr2 := Lib.hid (show runC L x (-1) = 2 from if_pos (Or.inl (by decide)))
        have HMr := Lib.hid hM
        have hk0 : (0 : Int) ≤ (j : Int) := by omega
        have hkn : (j : Int) < 2 := by omega
        clear hM
        go_wp2_with fail
        refine (Ran_fn p g bm capm L l.length x wr HMr.out hwf.out).mono ?_
        rintro e w7 ⟨rfl, rfl⟩
        rw [hid.out]
        go_wp2_with fail
        refine (Lag_fn p g bm capm L l.length x wr HMr.out hwf.out).mono ?_
        rintro e w7 ⟨rfl, hb7⟩
        rw [hid.out]
        replace hc0 := cell_later hb7 hc0
        replace hc1 := cell_later hb7 hc1
        replace hxc := cell_later hb7 hxc
        have HM7 := Lib.hid (HMr.out.below hb7)
        have hb7w := Below.step hbr hb7
        clear hbr hb7
        go_wp2_with fail
        refine (Until_fn p g bm capm L l.length x w7 HM7.out hwf.out).mono ?_
        rintro e w8 ⟨rfl, hb8⟩
        rw [if_neg (by rw [hid.out]; decide)]
        replace hc0 := cell_later hb8 hc0
        replace hc1 := cell_later hb8 hc1
        replace hxc := cell_later hb8 hxc
        have HM8 := Lib.hid (HM7.out.below hb8)
        have hb8w := Below.step hb7w hb8
        clear hb7w hb8
        go_wp2_with fail
        refine (Run_any p g bm capm L l.length x 1 w8 HM8.out hwf.out (by decide)).mono ?_
        rintro e w9 ⟨he, hM9, hk9⟩
        rw [hr6.out] at he
        subst he
        rw [show runL L x 1 = L from if_neg (by rw [hr6.out]; decide)] at hM9
        replace hc0 := hk9.cellAt hc0 HBP.out
        replace hc1 := hk9.cellAt hc1 HBP.out
        replace hxc := hk9.cellAt hxc HBP.out
        have hb9w := Kept.stepB hb8w (Nat.le_refl _) hk9 HPG.out
        have HM9 := Lib.hid hM9
        clear hM9 hk9 hb8w
        go_wp2_with fail
        refine (Run_any p g bm capm L l.length x (-1) w9 HM9.out hwf.out (by decide)).mono ?_
        rintro e w10 ⟨he, hM10, hk10⟩
        rw [hr2.out] at he
        subst he
        rw [show runL L x (-1) = L from if_neg (by rw [hr2.out]; decide)] at hM10
        replace hc0 := hk10.cellAt hc0 HBP.out
        replace hc1 := hk10.cellAt hc1 HBP.out
        have hb10w := Kept.stepB hb9w (Nat.le_refl _) hk10 HPG.out
        have HM10 := Lib.hid hM10
        clear hM10 hk10 hb9w hxc
        go_wp2_with fail
        go_roundw
        case rel => exact ⟨j + 1, by omega, by go_num, HM10.out, hc0, hc1, hb10w⟩
        case measure => simp [intOf]; omega
      · obtain rfl : j = 2 := by omega
        have HMr := Lib.hid hM
        have hra := Lib.hid (show runC L 1 (min a3 (-1)) = 2 from if_pos (Or.inl (by omega)))
        have hrb := Lib.hid (show runC L 1 (max a3 68719476737) = 2 from if_pos (Or.inr (by omega)))
        have hid1 := Lib.hid (show hasId L 1 = true from hasId_iff.2 (ids_mem.2 (by rw [HIDS.out, List.mem_map]; exact ⟨_, List.mem_of_getElem? HX.out, rfl⟩)))
        clear hM hc0 hc1 hlt hj
        go_wp2_with fail
        refine (Run_any p g bm capm L l.length 1 (min a3 (-1)) wr HMr.out (by decide) (WalkArith.wf_i64 (by omega))).mono ?_
        rintro e w7 ⟨he, hM7, hk7⟩
        rw [hra.out] at he
        subst he
        rw [show runL L 1 (min a3 (-1)) = L from if_neg (by rw [hra.out]; decide)] at hM7
        have hb7w := Kept.stepB hbr (Nat.le_refl _) hk7 HPG.out
        have HM7 := Lib.hid hM7
        clear hM7 hk7 hbr
        go_wp2_with fail
        refine (Run_any p g bm capm L l.length 1 (max a3 68719476737) w7 HM7.out (by decide) (WalkArith.wf_i64 (by omega))).mono ?_
        rintro e w8 ⟨he, hM8, hk8⟩
        rw [hrb.out] at he
        subst he
        rw [show runL L 1 (max a3 68719476737) = L from if_neg (by rw [hrb.out]; decide)] at hM8
        have hb8w := Kept.stepB hb7w (Nat.le_refl _) hk8 HPG.out
        have HM8 := Lib.hid hM8
        clear hM8 hk8 hb7w
        by_cases hpos : 0 < sumR L
        · have hrc := Lib.hid (show runC L 1 68719476736 = 4 by unfold runC; rw [if_neg (by omega), if_neg (by rw [hid1.out]; decide), if_pos (by omega)])
          go_wp2_with fail
          refine (Run_any p g bm capm L l.length 1 68719476736 w8 HM8.out (by decide) (by decide)).mono ?_
          rintro e w9 ⟨he, hM9, hk9⟩
          rw [hrc.out] at he
          subst he
          rw [show runL L 1 68719476736 = L from if_neg (by rw [hrc.out]; decide)] at hM9
          have hb9w := Kept.stepB hb8w (Nat.le_refl _) hk9 HPG.out
          have HM9 := Lib.hid hM9
          have t1 : (sumR L == sumR L) = true := by simp
          clear hM9 hk9 hb8w
          go_wp2_with fail
          refine (Total_any p g bm capm L l.length w9 HM9.out).mono ?_
          rintro e w10 ⟨rfl, rfl⟩
          go_wp2_with fail
          refine (awake_true w9).mono ?_
          rintro e w11 ⟨rfl, hb11⟩
          go_wp2_with fail
          go_ret
          exact ⟨rfl, Below.step hb9w hb11⟩
        · have t1 : (sumR L == sumR L) = true := by simp
          go_wp2_with fail
          refine (Total_any p g bm capm L l.length w8 HM8.out).mono ?_
          rintro e w10 ⟨rfl, rfl⟩
          go_wp2_with fail
          refine (awake_true w8).mono ?_
          rintro e w11 ⟨rfl, hb11⟩
          go_wp2_with fail
          go_ret
          exact ⟨rfl, Below.step hb8w hb11⟩
end Go.Proofs.Ytgieaojkbfjoiaa
