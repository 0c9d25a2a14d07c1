/-
  Layer 18 (heap): Right.
-/
import Derived.Test.YtpbaegdmjmickaaHeapU
import Derived.Maps.RangeWalk
namespace Go.Proofs.Ytpbaegdmjmickaa
open Go.RowKit Go.Maps Go.IntWalk Go.Lib
set_option linter.unusedVariables false
/-- what Right reads -/
structure RFix (w : World) (p : Nat) (aa : Option Addr) (cap bm g : Nat) (V : Items) (f : Int → Option Int) : Prop where
  c0 : w.cell? ⟨p, 0, none⟩ = some (.slice aa V.length cap)
  c1 : w.cell? ⟨p, 1, none⟩ = some (.map (some bm))
  ga : 0 < V.length → aa = some ⟨g, 0, none⟩
  it : ∀ k, k < V.length → w.cell? ⟨g, k * 2, none⟩ = some (.int .i64 V[k]!.1) ∧ w.cell? ⟨g, k * 2 + 1, none⟩ = some (.int .u64 V[k]!.2)
  heaped : Heaped V
  placed : Placed V f
  len : V.length ≤ 131072
def LeftIn (D : DataW Unit) (left : Lit → Bool) : Prop := ∀ kl, left kl = true → Maps.has D kl = true
set_option maxRecDepth 100000 in
set_option maxHeartbeats 4000000 in
theorem Right_at {p : Nat} {F : List Nat} {n : Int} {S : Items} (w : World) (h : HeapIn w p F n S) :
    Calls Try.prog 21 #[.pointer (some ⟨p, 0, none⟩)] w fun e w' => e = .returned (.bool true) ∧ Below w.heap.size w w' := by
  have A0 := Lib.hid (some_in w h)
  have A2 := Lib.hid fun x1 x2 y1 y2 W => order_any x1 x2 y1 y2 W
  obtain ⟨a, cap, bm, V, f, hg, rfl, hp, ho⟩ := h
  obtain ⟨aa, haa⟩ : ∃ aa, aa = a.map fun g => (⟨g, 0, none⟩ : Addr) := ⟨_, rfl⟩
  have hlen : V.length ≤ 131072 := by have := hg.raw.nlen hg.apart; have := hg.raw.small; omega
  obtain ⟨g, hgg⟩ : ∃ g, (0 < V.length → aa = some ⟨g, 0, none⟩) ∧ (∀ k, k < V.length → w.cell? ⟨g, k * 2, none⟩ = some (.int .i64 V[k]!.1) ∧ w.cell? ⟨g, k * 2 + 1, none⟩ = some (.int .u64 V[k]!.2)) := by
    by_cases h0 : 0 < V.length
    · obtain ⟨g, rfl⟩ := hg.raw.row h0
      exact ⟨g, fun _ => haa, fun k hk => hg.raw.item hk⟩
    · exact ⟨p, fun h => absurd h h0, fun k hk => by omega⟩
  have c0 := hg.raw.c0
  unfold rowV at c0
  rw [← haa] at c0
  have c1 := hg.raw.c1
  have HF := Lib.hid (show RFix w p aa cap bm g V f from ⟨c0, c1, hgg.1, hgg.2, hg.heaped, hg.placed, hlen⟩)
  obtain ⟨D, hD, hs, hh, ha⟩ := hg.raw.map
  have HH := Lib.hid hh
  have HA := Lib.hid ha
  have HS := Lib.hid hs
  have hsz : V.length = Maps.size D := hs.symm
  clear hg hp ho haa hlen hgg hh ha hs
  go_enter Try.func21, Try.ntmps21
  go_wp2_with fail
  refine A0.out.mono ?_; rintro e w5 ⟨rfl, rfl⟩
  go_wp2_with (first
    | (at_range; refine wpList_range_own _ rfl _ 66 rfl 3 3 lawI Try.underlying66 _ bm _ D rfl hD ?_; intro w0 hrg0 hg0 hs0)
    | go_in)
  go_frame
  have HG0 := Lib.hid (show Below w.heap.size w w0 from ⟨hg0.os, hg0.tape, hg0.output, hg0.size, fun k hk => hg0.block k hk (by simp)⟩)
  clear hg0 hs0 c0 c1 hsz
  go_loopw [] (fun wr => ∃ (left : Lit → Bool) (cnt : Nat), wr.ranges Try.prog 3 (plainElem Try.prog 3) bm w.heap.size V.length D left cnt ∧ LeftIn D left ∧ Below w.heap.size w wr)
    (fun wr => wr.rangeLeft bm w.heap.size)
  case atStart => exact ⟨_, _, hrg0, fun _ h => h, HG0.out⟩
  case round =>
    obtain ⟨left, cnt, hrg, hli, hbr⟩ := hrel
    have HLI := Lib.hid hli
    have HBR := Lib.hid hbr
    have HRG := Lib.hid hrg
    have c0 := below_nat hbr (lt_of_cell HF.out.c0) HF.out.c0
    have c1 := below_nat hbr (lt_of_cell HF.out.c1) HF.out.c1
    clear hli hbr hrg0
    go_wp2_with (first
      | (at_next; refine wpList_next_ranges_ii _ rfl _ rfl 3 3 .i64 .i64 lawI Try.underlying3 Try.underlying3 bm w.heap.size V.length _ _ _ rfl hrg ?_ ?_)
      | go_in)
    · intro hc0 hl0
      have hlen := HF.out.len
      have h63 : V.length ≤ 9223372036854775807 := by omega
      clear hrg hl0 hc0 hlen
      go_wp2_with fail
      obtain ⟨wo, rfl⟩ : ∃ wo : World, wo = wr := ⟨_, rfl⟩
      go_loopw [43] (fun i wq => ∃ k : Nat, k ≤ V.length ∧ i = .int .i64 k ∧ Below wo.heap.size wo wq) (fun i _ => V.length - (intOf i).toNat)
      case atStart => exact ⟨0, Nat.zero_le _, rfl, Below.refl _ _⟩
      case round =>
        obtain ⟨k, hk, rfl, hbq⟩ := hrel
        have HBQ := Lib.hid (show Below w.heap.size w wr from Below.step HBR.out hbq)
        have HBQ2 := Lib.hid hbq
        replace c0 := below_nat HBQ.out (lt_of_cell HF.out.c0) HF.out.c0
        replace c1 := below_nat HBQ.out (lt_of_cell HF.out.c1) HF.out.c1
        clear hbq
        by_cases hlt : k < V.length
        · have hga := HF.out.ga (by omega)
          subst hga
          have hk0 : (0 : Int) ≤ (k : Int) := by omega
          have hk1 : (k : Int) < (V.length : Int) := by omega
          have hlen := HF.out.len
          have hk2 : (k : Int) ≤ 131072 := by omega
          rcases Nat.eq_zero_or_pos k with e0 | e0
          · have z0 : decide (0 < k) = false := decide_eq_false (by omega)
            clear hlen e0
            go_wp2_with fail
            go_quiet (fail)
            go_wp2_with fail
            go_roundw
            case rel => exact ⟨k + 1, by omega, by go_num, Below.step HBQ2.out ((Grows.refl wr).drewN _).below⟩
            case measure => simp [intOf]; omega
          · have z0 : decide (0 < k) = true := decide_eq_true e0
            obtain ⟨j, hj⟩ : ∃ j, j = par k := ⟨_, rfl⟩
            have tj : ((k : Int) - 1).tdiv 2 = (j : Int) := by rw [hj, Int.tdiv_eq_ediv_of_nonneg (by omega)]; unfold par; omega
            have hjk : j < k := by rw [hj]; unfold par; omega
            have l1 : (j : Int) < (V.length : Int) := by omega
            have l2 : j < V.length := by omega
            have l3 : (0 : Int) ≤ (j : Int) := by omega
            have l4 : (j : Int) ≤ 131072 := by omega
            have l5 : IntKind.i64.wrap (j : Int) = (j : Int) := IntWalk.i64_in _ (by omega)
            have l6 : IntKind.i64.wrap ((k : Int) - 1) = (k : Int) - 1 := IntWalk.i64_in _ (by omega)
            have i0 := below_nat HBQ.out (lt_of_cell (HF.out.it k hlt).1) (HF.out.it k hlt).1
            have i1 := below_nat HBQ.out (lt_of_cell (HF.out.it k hlt).2) (HF.out.it k hlt).2
            have j0 := below_nat HBQ.out (lt_of_cell (HF.out.it j l2).1) (HF.out.it j l2).1
            have j1 := below_nat HBQ.out (lt_of_cell (HF.out.it j l2).2) (HF.out.it j l2).2
            have hlt2 : ltI V[j]! V[k]! := by rw [hj]; exact HF.out.heaped k e0 hlt
            obtain ⟨x, hx⟩ : ∃ x, x = V[k]! := ⟨_, rfl⟩
            obtain ⟨y, hy⟩ : ∃ y, y = V[j]! := ⟨_, rfl⟩
            rw [← hx] at i0 i1 hlt2
            rw [← hy] at j0 j1 hlt2
            have zt : decide (0 ≤ ordV (y.1, y.2) (x.1, x.2)) = false := decide_eq_false (by
              have q : ordV (y.1, y.2) (x.1, x.2) < 0 := ordV_neg.2 hlt2
              omega)
            clear hlen e0 hj hjk hx hy hlt2
            go_wp2_with fail
            have c0_1 := fun o1 => cell_al o1 (c0)
            have c0_2 := fun o1 o2 => cell_al o2 (cell_al o1 (c0))
            have i0_1 := fun o1 => cell_al o1 (i0)
            have i0_2 := fun o1 o2 => cell_al o2 (cell_al o1 (i0))
            have i1_1 := fun o1 => cell_al o1 (i1)
            have i1_2 := fun o1 o2 => cell_al o2 (cell_al o1 (i1))
            have j0_1 := fun o1 => cell_al o1 (j0)
            have j0_2 := fun o1 o2 => cell_al o2 (cell_al o1 (j0))
            have j1_1 := fun o1 => cell_al o1 (j1)
            have j1_2 := fun o1 o2 => cell_al o2 (cell_al o1 (j1))
            clear c0_1 c0_2 i0_1 i0_2 i1_1 i1_2 j0_1 j0_2 j1_1 j1_2
            have hS0 : Grows wr wr.drew ∧ wr.drew.cell? ⟨p, 0, none⟩ = some (.slice (some ⟨g, 0, none⟩) V.length cap) ∧ wr.drew.cell? ⟨g, k * 2, none⟩ = some (.int .i64 x.1) ∧ wr.drew.cell? ⟨g, k * 2 + 1, none⟩ = some (.int .u64 x.2) ∧ wr.drew.cell? ⟨g, j * 2, none⟩ = some (.int .i64 y.1) ∧ wr.drew.cell? ⟨g, j * 2 + 1, none⟩ = some (.int .u64 y.2) := ⟨(Grows.drew (Grows.refl _)), cell_dr c0, cell_dr i0, cell_dr i1, cell_dr j0, cell_dr j1⟩
            go_region_held3 (fun w' => Grows wr w' ∧ w'.cell? ⟨p, 0, none⟩ = some (.slice (some ⟨g, 0, none⟩) V.length cap) ∧ w'.cell? ⟨g, k * 2, none⟩ = some (.int .i64 x.1) ∧ w'.cell? ⟨g, k * 2 + 1, none⟩ = some (.int .u64 x.2) ∧ w'.cell? ⟨g, j * 2, none⟩ = some (.int .i64 y.1) ∧ w'.cell? ⟨g, j * 2 + 1, none⟩ = some (.int .u64 y.2)) (first | assumption | (refine heldG_5 (by assumption) ?_; assumption) | (refine heldG_5 (grows_ad _ _) ?_; assumption) | (refine heldG_5 (grows_a _ _) ?_; assumption)) ((go_at_call 30; refine (A2.out _ _ _ _ _).mono ?_; rintro e w5 ⟨rfl, hb5⟩))
            clear hS0
            rename_i hH
            obtain ⟨hg5, _⟩ := hH
            have HG5 := Lib.hid hg5
            clear hg5 c0 c1 i0 i1 j0 j1 hb5
            go_wp2_with fail
            go_roundw
            case rel => exact ⟨k + 1, by omega, by go_num, Below.step HBQ2.out HG5.out.below⟩
            case measure => simp [intOf]; omega
        · obtain rfl : k = V.length := by omega
          have hown : wr.drew.ownsMap Try.prog 3 (plainElem Try.prog 3) bm V.length D := by
            obtain ⟨es, clock, hb, r⟩ := HRG.out.owns
            have hlt : bm < wo.heap.size := HRG.out.owns.lt
            exact ⟨es, clock, by show wr.heap[bm]? = _; rw [HBQ2.out.block bm hlt]; exact hb, r⟩
          have hml := fun ty => hown.len (t := 66) Try.underlying66 ty
          rw [HS.out] at hml
          have hz : ((V.length : Int) == (V.length : Int)) = true := by simp
          clear hown hk hlt
          go_wp2_with fail
          go_region
          all_goals
            go_wp2_with fail
            go_ret
            exact ⟨rfl, HBQ.out.drew⟩
    · intro x c w1 cnt1 hwx hwc hlx hat hrg1 hlt hg1 hs1 hen
      have hx := HLI.out _ hlx
      rw [HH.out] at hx
      obtain ⟨q, hq⟩ := Option.isSome_iff_exists.1 hx
      obtain ⟨j, jl, hj, hqj⟩ := (HF.out.placed x q).1 hq
      have hcj : c = (j : Int) := by
        have e := (hat (.lit (.int .i64 0))).symm.trans (HA.out x q hq)
        rw [← hqj]
        exact (Lit.int.inj (DataW.lit.inj e)).2
      subst hcj
      have hb1 : Below w.heap.size w w1 := HBR.out.grown hg1 HBR.out.size (fun k e => by cases e; exact Nat.le_refl _)
      have hga := HF.out.ga (by omega)
      subst hga
      have d0 := below_nat hb1 (lt_of_cell HF.out.c0) HF.out.c0
      have i0 := below_nat hb1 (lt_of_cell (HF.out.it j jl).1) (HF.out.it j jl).1
      rw [hj] at i0
      have hb1' := Lib.hid hb1
      have hlen := HF.out.len
      have l1 : (j : Int) < (V.length : Int) := by omega
      have l2 : j < V.length := jl
      have l3 : (0 : Int) ≤ (j : Int) := by omega
      have z1 : decide ((V.length : Int) ≤ (j : Int)) = false := decide_eq_false (by omega)
      have z2 : (x != x) = false := by simp
      have HRG1 := Lib.hid hrg1
      have HLT := Lib.hid hlt
      have HLL := Lib.hid (show LeftIn D (fun z => left z && !z.sameKey (.int .i64 x)) from fun kl h => HLI.out kl (by simp at h; exact h.1))
      clear hx hq hj hqj hat hrg1 hlt hg1 hs1 hb1 hlx hwx hwc hlen hrg
      go_wp2_with fail
      go_roundw
      case rel => exact ⟨_, cnt1, HRG1.out, HLL.out, hb1'.out⟩
      case measure => rw [HRG1.out.left_eq, HRG.out.left_eq]; exact HLT.out
end Go.Proofs.Ytpbaegdmjmickaa
