/-
  Layer 18 (heap): the search of Below.
-/
import Derived.Test.YtpbaegdmjmickaaHeapO
import Derived.Test.YtpbaegdmjmickaaHeapB
import Derived.Deep.DeepCutAuto
namespace Go.Proofs.Ytpbaegdmjmickaa
open Go.RowKit Go.Maps Go.IntWalk Go.Lib Go.Sort
set_option linter.unusedVariables false
/-- what stays as it is while gather runs -/
structure GFix (w0 : World) (a : Option Addr) (p g cap Bh Bx Bo Bg base : Nat) (V : Items) (x : Int × Int) : Prop where
  ch : w0.cell? ⟨Bh, 0, none⟩ = some (.pointer (some ⟨p, 0, none⟩))
  c0 : w0.cell? ⟨p, 0, none⟩ = some (.slice a V.length cap)
  ga : 0 < V.length → a = some ⟨g, 0, none⟩
  it : ∀ k, k < V.length → w0.cell? ⟨g, k * 2, none⟩ = some (.int .i64 V[k]!.1) ∧ w0.cell? ⟨g, k * 2 + 1, none⟩ = some (.int .u64 V[k]!.2)
  x0 : w0.cell? ⟨Bx, 0, none⟩ = some (.int .i64 x.1)
  x1 : w0.cell? ⟨Bx, 1, none⟩ = some (.int .u64 x.2)
  cg : w0.cell? ⟨Bg, 0, none⟩ = some (.func (.func 31) #[] #[.pointer (some ⟨Bh, 0, none⟩), .pointer (some ⟨Bx, 0, none⟩), .pointer (some ⟨Bo, 0, none⟩), .pointer (some ⟨Bg, 0, none⟩)])
  lt : (p < base ∧ p ≠ Bo) ∧ (g < base ∧ g ≠ Bo) ∧ (Bh < base ∧ Bh ≠ Bo) ∧ (Bx < base ∧ Bx ≠ Bo) ∧ (Bg < base ∧ Bg ≠ Bo) ∧ Bo < base
  base : base ≤ w0.heap.size
  len : V.length ≤ 131072
/-- what gather has found so far -/
structure GS (w0 : World) (base Bo : Nat) (w : World) (acc : Items) : Prop where
  os : w.os = w0.os
  tape : w.tape = w0.tape
  output : w.output = w0.output
  size : w0.heap.size ≤ w.heap.size
  block : ∀ k, k < base → k ≠ Bo → w.heap[k]? = w0.heap[k]?
  box : ∃ v, w.cell? ⟨Bo, 0, none⟩ = some v ∧ w.frozen? ⟨Bo, 0, none⟩ = false ∧ w.ownsRow base 28 2 v acc.length (flatI acc) ∧ (acc = [] → v = .slice none 0 0)
theorem GS.cell {w0 w : World} {base Bo : Nat} {acc : Items} (h : GS w0 base Bo w acc) {b o : Nat} {v : Value} (hb : b < base ∧ b ≠ Bo) (hc : w0.cell? ⟨b, o, none⟩ = some v) : w.cell? ⟨b, o, none⟩ = some v := (World.cell?_of_block (a := ⟨b, o, none⟩) (h.block b hb.1 hb.2)).trans hc
theorem own_later {w w' : World} {base e size : Nat} {v : Value} {n : Nat} {xs : List Value} (h : w.ownsRow base e size v n xs) (hb : Below w.heap.size w w') : w'.ownsRow base e size v n xs := by
  refine h.kept (row := none) ⟨hb.os, hb.tape, hb.output, hb.size, fun k hk _ => hb.block k hk⟩ ?_
  cases e : v.ownBlock with
  | none => exact Or.inl rfl
  | some k => exact Or.inr (by simp)
theorem GS.later {w0 w w' : World} {base Bo : Nat} {acc : Items} (h : GS w0 base Bo w acc) (hb : Below w.heap.size w w') (hB : base ≤ w0.heap.size) : GS w0 base Bo w' acc := by
  obtain ⟨v, h1, h2, h3, h4⟩ := h.box
  exact ⟨hb.os.trans h.os, hb.tape.trans h.tape, hb.output.trans h.output, Nat.le_trans h.size hb.size, fun k hk hn => (hb.block k (by have := h.size; omega)).trans (h.block k hk hn), v, cell_later hb h1, (hb.frozen (p := ⟨Bo, 0, none⟩) (lt_of_cell h1)).trans h2, own_later h3 hb, h4⟩
theorem GS.app {w0 w w1 : World} {base Bo : Nat} {acc : Items} {v : Value} {W : World} {x : Int × Int} {g' cap' : Nat} (h : GS w0 base Bo w acc) (hB : base ≤ w0.heap.size) (hbo : Bo < base) (hW : Below w.heap.size w W) (hv : w.cell? ⟨Bo, 0, none⟩ = some v) (ho : w.ownsRow base 28 2 v acc.length (flatI acc))
    (hown : w1.ownsRow base 28 2 (.slice (some ⟨g', 0, none⟩) (acc.length + 1) cap') (acc.length + 1) (flatI acc ++ [.int .i64 x.1, .int .u64 x.2])) (hg : W.grownBy w1 v.ownBlock) :
    GS w0 base Bo (w1.setCell ⟨Bo, 0, none⟩ (.slice (some ⟨g', 0, none⟩) (acc.length + 1) cap')) (acc ++ [x]) ∧ w1.cell? ⟨Bo, 0, none⟩ = some v ∧ w1.frozen? ⟨Bo, 0, none⟩ = false := by
  have h' := h.later hW hB
  have ho' := own_later ho hW
  have hv' := cell_later hW hv
  have nb : ∀ k, k < base → some k ≠ v.ownBlock := fun k hk => own_block ho' (Or.inl hk)
  have hl : (acc ++ [x]).length = acc.length + 1 := by simp
  have hsz := h'.size
  have c1 := hg.cell hv' (nb Bo hbo)
  obtain ⟨v2, q1, q2, q3, q4⟩ := h'.box
  have f1 : w1.frozen? ⟨Bo, 0, none⟩ = false := (World.frozen?_of_block (w := W) (w' := w1) (a := ⟨Bo, 0, none⟩) (hg.block _ (lt_of_cell hv') (nb Bo hbo))).trans q2
  refine ⟨⟨hg.os.trans h'.os, hg.tape.trans h'.tape, hg.output.trans h'.output, by have := hg.size; simp [World.setCell]; omega, fun k hk hn => ?_, _, cell_set_eq c1, by rw [World.frozen?_setCell]; exact f1, ?_, fun e => by simp at e⟩, c1, f1⟩
  · rw [Below.heap_setCell _ _ _ _ hn]
    exact (hg.block k (by omega) (nb k hk)).trans (h'.block k hk hn)
  · rw [hl, flatI_app]
    have := (hown.lt g' rfl).1
    exact hown.kept (gset _ _ _ _) (Or.inr (by simp [Value.ownBlock]; omega))
theorem gatherL_end {V : Items} {x : Int × Int} {k i : Nat} (h : ¬ (i < V.length ∧ ltI V[i]! x)) : gatherL V x k i = [] := by
  cases k with
  | zero => rfl
  | succ k => unfold gatherL; rw [if_neg h]
theorem gatherL_step {V : Items} {x : Int × Int} {k i : Nat} (h : i < V.length ∧ ltI V[i]! x) : gatherL V x (k + 1) i = V[i]! :: (gatherL V x k (2 * i + 1) ++ gatherL V x k (2 * i + 2)) := by
  conv => lhs; unfold gatherL
  rw [if_pos h]
def GaP (w0 : World) (base Bo : Nat) (acc : Items) (e : Ending) (w' : World) : Prop := e = .returned (.tuple #[]) ∧ GS w0 base Bo w' acc
set_option maxRecDepth 100000 in
set_option maxHeartbeats 4000000 in
theorem gather_at {w0 : World} {a : Option Addr} {p g cap Bh Bx Bo Bg base : Nat} {V : Items} {x : Int × Int} (hF : Hid (GFix w0 a p g cap Bh Bx Bo Bg base V x)) (k : Nat) : ∀ (i : Nat) (acc : Items) (w : World), V.length ≤ i + k → i ≤ 1000000 → acc.length + (gatherL V x k i).length ≤ 1000000 → GS w0 base Bo w acc →
    Calls Try.prog 31 #[.int .i64 i, .pointer (some ⟨Bh, 0, none⟩), .pointer (some ⟨Bx, 0, none⟩), .pointer (some ⟨Bo, 0, none⟩), .pointer (some ⟨Bg, 0, none⟩)] w (GaP w0 base Bo (acc ++ gatherL V x k i)) := by
  induction k with
  | zero =>
    intro i acc w hk hi hl hG
    have HG := Lib.hid hG
    have ch := hG.cell hF.out.lt.2.2.1 hF.out.ch
    have c0 := hG.cell hF.out.lt.1 hF.out.c0
    have A1 := Lib.hid fun m => (Len_at p _ V.length cap (w.drewN m) (cell_drN m c0)).mono fun _ _ h => (⟨h.1, h.2.symm⟩ : _ = Ending.returned (.int .i64 V.length) ∧ _ = w.drewN m)
    have z : decide (V.length ≤ i) = true := decide_eq_true (by omega)
    rw [show gatherL V x 0 i = [] from rfl, List.append_nil]
    clear hG hl hk
    go_enter Try.func31, Try.ntmps31
    go_wp2_with fail
    go_quiet ((go_at_call 22; exact Calls.quiet_of_same (A1.out _)))
    go_wp2_with fail
    exact bodyPost_ret (results_none rfl _ _ _) rfl ⟨rfl, HG.out.later ((Grows.refl w).drewN _).below hF.out.base⟩
  | succ k ih =>
    intro i acc w hk hi hl hG
    by_cases hil : i < V.length
    · have hga := hF.out.ga (by omega)
      subst hga
      have HG := Lib.hid hG
      have ch := hG.cell hF.out.lt.2.2.1 hF.out.ch
      have c0 := hG.cell hF.out.lt.1 hF.out.c0
      have x0 := hG.cell hF.out.lt.2.2.2.1 hF.out.x0
      have x1 := hG.cell hF.out.lt.2.2.2.1 hF.out.x1
      have i0 := hG.cell hF.out.lt.2.1 (hF.out.it i hil).1
      have i1 := hG.cell hF.out.lt.2.1 (hF.out.it i hil).2
      obtain ⟨y, hy⟩ : ∃ y, y = V[i]! := ⟨_, rfl⟩
      rw [← hy] at i0 i1
      have A1 := Lib.hid fun W => Len_at p (some ⟨g, 0, none⟩) V.length cap W
      have A2 := Lib.hid fun x1 x2 y1 y2 W => order_any x1 x2 y1 y2 W
      have hlen := hF.out.len
      have z0 : decide (V.length ≤ i) = false := decide_eq_false (by omega)
      have l1 : (i : Int) < (V.length : Int) := by omega
      have l2 : i < V.length := hil
      have l3 : (0 : Int) ≤ (i : Int) := by omega
      have HY := Lib.hid hy
      by_cases hlt : ltI y x
      · have zt : decide (0 ≤ ordV (y.1, y.2) (x.1, x.2)) = false := decide_eq_false (by
          have q : ordV (y.1, y.2) (x.1, x.2) < 0 := ordV_neg.2 hlt
          omega)
        have hst := gatherL_step (V := V) (x := x) (k := k) (i := i) ⟨hil, by rw [← hy]; exact hlt⟩
        rw [← hy] at hst
        rw [hst] at hl ⊢
        simp only [List.length_cons, List.length_append] at hl
        have HL := Lib.hid hl
        have hal : acc.length + 1 ≤ 1000000 := by omega
        have HI := Lib.hid ih
        have HK := Lib.hid hk
        obtain ⟨j0, hi0, hz0, hz1, hz2⟩ := info_parts infoItem
        clear hG hl hk hlt hlen hy ih hst
        go_enter Try.func31, Try.ntmps31
        go_wp2_with fail
        have ch_1 := fun o1 => cell_al o1 (ch)
        have ch_2 := fun o1 o2 => cell_al o2 (cell_al o1 (ch))
        have c0_1 := fun o1 => cell_al o1 (c0)
        have c0_2 := fun o1 o2 => cell_al o2 (cell_al o1 (c0))
        have x0_1 := fun o1 => cell_al o1 (x0)
        have x0_2 := fun o1 o2 => cell_al o2 (cell_al o1 (x0))
        have x1_1 := fun o1 => cell_al o1 (x1)
        have x1_2 := fun o1 o2 => cell_al o2 (cell_al o1 (x1))
        have i0_1 := fun o1 => cell_al o1 (i0)
        have i0_2 := fun o1 o2 => cell_al o2 (cell_al o1 (i0))
        have i1_1 := fun o1 => cell_al o1 (i1)
        have i1_2 := fun o1 o2 => cell_al o2 (cell_al o1 (i1))
        clear ch_1 ch_2 c0_1 c0_2 x0_1 x0_2 x1_1 x1_2 i0_1 i0_2 i1_1 i1_2
        have hS0 : Grows w w.drew ∧ w.drew.cell? ⟨Bh, 0, none⟩ = some (.pointer (some ⟨p, 0, none⟩)) ∧ w.drew.cell? ⟨p, 0, none⟩ = some (.slice (some ⟨g, 0, none⟩) V.length cap) ∧ w.drew.cell? ⟨Bx, 0, none⟩ = some (.int .i64 x.1) ∧ w.drew.cell? ⟨Bx, 1, none⟩ = some (.int .u64 x.2) ∧ w.drew.cell? ⟨g, i * 2, none⟩ = some (.int .i64 y.1) ∧ w.drew.cell? ⟨g, i * 2 + 1, none⟩ = some (.int .u64 y.2) := ⟨(Grows.drew (Grows.refl _)), cell_dr ch, cell_dr c0, cell_dr x0, cell_dr x1, cell_dr i0, cell_dr i1⟩
        go_region_held3 (fun w' => Grows w w' ∧ w'.cell? ⟨Bh, 0, none⟩ = some (.pointer (some ⟨p, 0, none⟩)) ∧ w'.cell? ⟨p, 0, none⟩ = some (.slice (some ⟨g, 0, none⟩) V.length cap) ∧ w'.cell? ⟨Bx, 0, none⟩ = some (.int .i64 x.1) ∧ w'.cell? ⟨Bx, 1, none⟩ = some (.int .u64 x.2) ∧ w'.cell? ⟨g, i * 2, none⟩ = some (.int .i64 y.1) ∧ w'.cell? ⟨g, i * 2 + 1, none⟩ = some (.int .u64 y.2)) (first | assumption | (refine heldG_6 (by assumption) ?_; assumption) | (refine heldG_6 (grows_ad _ _) ?_; assumption) | (refine heldG_6 (grows_a _ _) ?_; assumption)) (first | (go_at_call 22; refine (A1.out _ (by first | assumption | (go_split_ands; assumption))).mono ?_; rintro e w4 ⟨rfl, rfl⟩) | (go_at_call 30; refine (A2.out _ _ _ _ _).mono ?_; rintro e w5 ⟨rfl, hb5⟩))
        clear hS0
        rename_i hH
        clear ch c0 x0 x1 i0 i1 hb5
        obtain ⟨hg5, ch, c0, x0, x1, i0, i1⟩ := hH
        have hG5 := HG.out.later hg5.below hF.out.base
        obtain ⟨v, cv, fv, ov, _⟩ := hG5.box
        have HG5 := Lib.hid hG5
        have hbl := hF.out.lt.2.2.2.2.2
        have hbs := hF.out.base
        have hsz := hG5.size
        have L1 := Lib.hid (show ((w5.alloc (.cells #[.int .i64 y.1, .int .u64 y.2] 28)).drew).ownsRow base 28 2 v acc.length (flatI acc) from ov.alloc _)
        have L2 := Lib.hid (show ∀ j u, [Value.int .i64 y.1, .int .u64 y.2][j]? = some u → ((w5.alloc (.cells #[.int .i64 y.1, .int .u64 y.2] 28)).drew).cell? ((⟨w5.heap.size, 0, none⟩ : Addr).add j) = some u from fun j u hj => by
          match j, hj with
          | 0, hj => simp at hj; subst hj; exact cell_dr (cell_nw _ _ _ 0 _ rfl)
          | 1, hj => simp at hj; subst hj; exact cell_dr (cell_nw _ _ _ 1 _ rfl)
          | j + 2, hj => simp at hj)
        have L3 : base ≤ ((w5.alloc (.cells #[.int .i64 y.1, .int .u64 y.2] 28)).drew).heap.size := by simp; omega
        have L4 := Lib.hid (show Below w5.heap.size w5 ((w5.alloc (.cells #[.int .i64 y.1, .int .u64 y.2] 28)).drew) from ((Grows.refl w5).alloc _ |>.drew).below)
        have L5 : acc.length + 1 ≤ maxLen := by unfold maxLen; omega
        have L6 : (acc.length + 1) * 16 ≤ 140737488355328 := by omega
        have L7 := Lib.hid (show ∀ u ∈ [Value.int .i64 y.1, .int .u64 y.2], u.oneCell' = true from fun u hu => by simp at hu; rcases hu with rfl | rfl <;> rfl)
        have OV := Lib.hid ov
        clear hG5 ov hal
        go_upto_region 1 with fail
        go_cut [0] (fun s0 wx => s0 = .int .i64 i ∧ GS w0 base Bo wx (acc ++ [y]))
        case first =>
         have cv_1 := cell_al (.cells #[.int .i64 y.1, .int .u64 y.2] 28) cv
         have ch_1 := cell_al (.cells #[.int .i64 y.1, .int .u64 y.2] 28) ch
         have c0_1 := cell_al (.cells #[.int .i64 y.1, .int .u64 y.2] 28) c0
         have i0_1 := cell_al (.cells #[.int .i64 y.1, .int .u64 y.2] 28) i0
         have i1_1 := cell_al (.cells #[.int .i64 y.1, .int .u64 y.2] 28) i1
         go_region_law (first | (refine step_append_own rfl (.tmp 22) (.tmp 30) 29 rfl base 28 j0 (.agg #[.int .i64 0, .int .u64 0]) 2 16 Try.underlying29 hi0 hz0 hz1 hz2 rfl (by decide) v acc.length (flatI acc) rfl L1.out ⟨w5.heap.size, 0, none⟩ 1 1 [.int .i64 y.1, .int .u64 y.2] rfl rfl L2.out L7.out L5 L6 L3 ?_; intro v' w1 hown1 hgrow1; obtain ⟨g', cap', rfl⟩ := own_some hown1; have hA := Lib.hid (HG5.out.app hbs hbl L4.out cv OV.out hown1 hgrow1); have k0 := hA.out.2.1; have kf := hA.out.2.2))
         all_goals
           have HA := Lib.hid hA.out.1
           go_wp2_with fail
           go_meet
           case rel => exact ⟨rfl, HA.out⟩
        case rest =>
          obtain ⟨rfl, hG6⟩ := hcut
          have cg := hG6.cell hF.out.lt.2.2.2.2.1 hF.out.cg
          have e1 : ((2 * i + 1 : Nat) : Int) = 2 * (i : Int) + 1 := by omega
          have e2 : ((2 * i + 2 : Nat) : Int) = 2 * (i : Int) + 2 := by omega
          have A3 := HI.out (2 * i + 1) (acc ++ [y]) wc (by have := HK.out; omega) (by have := hF.out.len; omega) (by have := HL.out; rw [List.length_append, List.length_singleton]; omega) hG6
          rw [e1] at A3
          have HA3 := Lib.hid A3
          have HE2 := Lib.hid e2
          clear e1 e2 A3 hG6 ch c0 x0 x1 i0 i1 cv fv
          go_wp2_with fail
          refine HA3.out.mono ?_
          rintro e w7 ⟨rfl, hG7⟩
          have cg7 := hG7.cell hF.out.lt.2.2.2.2.1 hF.out.cg
          have A4 := HI.out (2 * i + 2) _ w7 (by have := HK.out; omega) (by have := hF.out.len; omega) (by have := HL.out; simp only [List.length_append, List.length_singleton]; omega) hG7
          rw [HE2.out] at A4
          have HA4 := Lib.hid A4
          clear A4 hG7 cg
          go_wp2_with fail
          refine HA4.out.mono ?_
          rintro e w8 ⟨rfl, hG8⟩
          have HG8 := Lib.hid hG8
          clear hG8 cg7
          go_wp2_with fail
          go_end0
          refine ⟨rfl, ?_⟩
          have q := HG8.out
          simpa [List.append_assoc] using q
      · have zt : decide (0 ≤ ordV (y.1, y.2) (x.1, x.2)) = true := decide_eq_true (by
          have q : ¬ ordV y x < 0 := fun e => hlt (ordV_neg.1 e)
          have q' : ¬ ordV (y.1, y.2) (x.1, x.2) < 0 := q
          omega)
        rw [gatherL_end (fun e => hlt (by rw [hy]; exact e.2)), List.append_nil]
        clear hG hl hk hlt hlen hy
        go_enter Try.func31, Try.ntmps31
        go_wp2_with fail
        have ch_1 := fun o1 => cell_al o1 (ch)
        have ch_2 := fun o1 o2 => cell_al o2 (cell_al o1 (ch))
        have c0_1 := fun o1 => cell_al o1 (c0)
        have c0_2 := fun o1 o2 => cell_al o2 (cell_al o1 (c0))
        have x0_1 := fun o1 => cell_al o1 (x0)
        have x0_2 := fun o1 o2 => cell_al o2 (cell_al o1 (x0))
        have x1_1 := fun o1 => cell_al o1 (x1)
        have x1_2 := fun o1 o2 => cell_al o2 (cell_al o1 (x1))
        have i0_1 := fun o1 => cell_al o1 (i0)
        have i0_2 := fun o1 o2 => cell_al o2 (cell_al o1 (i0))
        have i1_1 := fun o1 => cell_al o1 (i1)
        have i1_2 := fun o1 o2 => cell_al o2 (cell_al o1 (i1))
        clear ch_1 ch_2 c0_1 c0_2 x0_1 x0_2 x1_1 x1_2 i0_1 i0_2 i1_1 i1_2
        have hS0 : Grows w w.drew ∧ w.drew.cell? ⟨Bh, 0, none⟩ = some (.pointer (some ⟨p, 0, none⟩)) ∧ w.drew.cell? ⟨p, 0, none⟩ = some (.slice (some ⟨g, 0, none⟩) V.length cap) ∧ w.drew.cell? ⟨Bx, 0, none⟩ = some (.int .i64 x.1) ∧ w.drew.cell? ⟨Bx, 1, none⟩ = some (.int .u64 x.2) ∧ w.drew.cell? ⟨g, i * 2, none⟩ = some (.int .i64 y.1) ∧ w.drew.cell? ⟨g, i * 2 + 1, none⟩ = some (.int .u64 y.2) := ⟨(Grows.drew (Grows.refl _)), cell_dr ch, cell_dr c0, cell_dr x0, cell_dr x1, cell_dr i0, cell_dr i1⟩
        go_region_held3 (fun w' => Grows w w' ∧ w'.cell? ⟨Bh, 0, none⟩ = some (.pointer (some ⟨p, 0, none⟩)) ∧ w'.cell? ⟨p, 0, none⟩ = some (.slice (some ⟨g, 0, none⟩) V.length cap) ∧ w'.cell? ⟨Bx, 0, none⟩ = some (.int .i64 x.1) ∧ w'.cell? ⟨Bx, 1, none⟩ = some (.int .u64 x.2) ∧ w'.cell? ⟨g, i * 2, none⟩ = some (.int .i64 y.1) ∧ w'.cell? ⟨g, i * 2 + 1, none⟩ = some (.int .u64 y.2)) (first | assumption | (refine heldG_6 (by assumption) ?_; assumption) | (refine heldG_6 (grows_ad _ _) ?_; assumption) | (refine heldG_6 (grows_a _ _) ?_; assumption)) (first | (go_at_call 22; refine (A1.out _ (by first | assumption | (go_split_ands; assumption))).mono ?_; rintro e w4 ⟨rfl, rfl⟩) | (go_at_call 30; refine (A2.out _ _ _ _ _).mono ?_; rintro e w5 ⟨rfl, hb5⟩))
        clear hS0
        rename_i hH
        obtain ⟨hg5, _⟩ := hH
        go_wp2_with fail
        exact bodyPost_ret (results_none rfl _ _ _) rfl ⟨rfl, HG.out.later hg5.below hF.out.base⟩
    · have HG := Lib.hid hG
      have ch := hG.cell hF.out.lt.2.2.1 hF.out.ch
      have c0 := hG.cell hF.out.lt.1 hF.out.c0
      have A1 := Lib.hid fun m => (Len_at p _ V.length cap (w.drewN m) (cell_drN m c0)).mono fun _ _ h => (⟨h.1, h.2.symm⟩ : _ = Ending.returned (.int .i64 V.length) ∧ _ = w.drewN m)
      have z : decide (V.length ≤ i) = true := decide_eq_true (by omega)
      rw [gatherL_end (fun e => hil e.1), List.append_nil]
      clear hG hl hk
      go_enter Try.func31, Try.ntmps31
      go_wp2_with fail
      go_quiet ((go_at_call 22; exact Calls.quiet_of_same (A1.out _)))
      go_wp2_with fail
      exact bodyPost_ret (results_none rfl _ _ _) rfl ⟨rfl, HG.out.later ((Grows.refl w).drewN _).below hF.out.base⟩
end Go.Proofs.Ytpbaegdmjmickaa
