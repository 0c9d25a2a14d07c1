/-
  The walk of LagSmall.
-/
import Derived.Test.YtgieaojkbfjoiaaLagMany
namespace Go.Proofs.Ytgieaojkbfjoiaa
open Go.RowKit Go.Maps Go.IntWalk Go.Lib Go.Sort
set_option linter.unusedVariables false
theorem infoStep : (Try.prog.info? 48).map (fun i => (i.zero, i.size, i.bytes)) = some (some (.agg #[.int .i64 0, .int .i64 0]), 2, 16) := by kernel_rfl
theorem PairsAt.of (w : World) (l : List (Int × Int)) (t : TypeId) : PairsAt (w.alloc (.cells (flatP l).toArray t)) w.heap.size 0 l := fun k x hx => by
  obtain ⟨a, b⟩ := flatP_at l k x hx
  rw [Nat.zero_add]
  exact ⟨cell_nw w _ t _ _ (by simpa using a), cell_nw w _ t _ _ (by simpa using b)⟩
def farA : List Int := [-1, 0, 1, 34359738368, 68719476736, 68719476737, 4611686018427387904]
def farB : List Int := [0, 1, 34359738368, 68719476735, 68719476736]
set_option maxRecDepth 200000 in
set_option maxHeartbeats 8000000 in
theorem LagSmall_true (w : World) : Calls Try.prog 7 #[] w fun e w' => e = .returned (.bool true) ∧ Below w.heap.size w w' := by
  obtain ⟨i0, hi, hz0, hz1, hz2⟩ := info_parts infoStep
  obtain ⟨j0, ji, jz0, jz1, jz2⟩ := info_parts infoShare
  go_enter Try.func7, Try.ntmps7
  go_wp2_with fail
  have hst := PairsAt.of w stepT 48
  change PairsAt (w.alloc (.cells #[.int .i64 1, .int .i64 1, .int .i64 1, .int .i64 2, .int .i64 2, .int .i64 1, .int .i64 2, .int .i64 5, .int .i64 3, .int .i64 1] 48)) w.heap.size 0 stepT at hst
  have hb0 := below_a w (.cells #[.int .i64 1, .int .i64 1, .int .i64 1, .int .i64 2, .int .i64 2, .int .i64 1, .int .i64 2, .int .i64 5, .int .i64 3, .int .i64 1] 48)
  generalize hS : w.heap.size = S at *
  generalize w.alloc (.cells #[.int .i64 1, .int .i64 1, .int .i64 1, .int .i64 2, .int .i64 2, .int .i64 1, .int .i64 2, .int .i64 5, .int .i64 3, .int .i64 1] 48) = w0 at *
  have HS := Lib.hid hS
  have HST := Lib.hid hst
  clear hS hst
  go_loopw [39] (fun i wr => ∃ k : Nat, k ≤ 27 ∧ i = .int .i64 k ∧ Below w0.heap.size w0 wr) (fun i _ => 27 - (intOf i).toNat)
  case atStart => exact ⟨0, Nat.zero_le _, rfl, Below.refl _ _⟩
  case round =>
    obtain ⟨k, hk, rfl, hbr⟩ := hrel
    by_cases hlt : k < 27
    · have hk0 : (0 : Int) ≤ (k : Int) := by omega
      have hkn : (k : Int) < 27 := by omega
      go_wp2_with fail
      generalize hL : ([(1, 1 + (k : Int) % 3), (2, 1 + (k : Int) / 3 % 3), (3, 1 + (k : Int) / 9)] : List (Int × Int)) = l
      have hlen : l.length = 3 := by subst hL; rfl
      have hpl : PairsAt (wr.alloc (.cells #[.int .i64 1, .int .i64 (1 + (k : Int) % 3), .int .i64 2, .int .i64 (1 + (k : Int) / 3 % 3), .int .i64 3, .int .i64 (1 + (k : Int) / 9)] 28)) wr.heap.size 0 l := by
        have := PairsAt.of wr l 28
        subst hL
        exact this
      have hb1 : Below w0.heap.size w0 (wr.alloc (.cells #[.int .i64 1, .int .i64 (1 + (k : Int) % 3), .int .i64 2, .int .i64 (1 + (k : Int) / 3 % 3), .int .i64 3, .int .i64 (1 + (k : Int) / 9)] 28)) := Below.allocS hbr _
      have HLEN := Lib.hid hlen
      have HPL := Lib.hid hpl
      clear hL hlen hpl hbr
      generalize wr.heap.size = B at *
      generalize wr.alloc (.cells #[.int .i64 1, .int .i64 (1 + (k : Int) % 3), .int .i64 2, .int .i64 (1 + (k : Int) / 3 % 3), .int .i64 3, .int .i64 (1 + (k : Int) / 9)] 28) = w1 at *
      go_loopw [56] (fun i wr => ∃ j : Nat, j ≤ 625 ∧ i = .int .i64 j ∧ Below w1.heap.size w1 wr) (fun i _ => 625 - (intOf i).toNat)
      case atStart => exact ⟨0, Nat.zero_le _, rfl, Below.refl _ _⟩
      case round =>
        obtain ⟨j, hj, rfl, hbr⟩ := hrel
        by_cases hlt2 : j < 625
        · have hj0 : (0 : Int) ≤ (j : Int) := by omega
          have hjn : (j : Int) < 625 := by omega
          obtain ⟨w2, rfl⟩ : ∃ w2 : World, w2 = wr := ⟨_, rfl⟩
          have hb2 : Below w0.heap.size w0 w2 := Below.step hb1 hbr
          have HST2 := Lib.hid (HST.out.later hb2)
          go_wp2_with fail
          go_loopw [5, 6, 7] (fun v i q wr => ∃ (c kk : Nat) (ss : List (Int × Int)), c ≤ 4 ∧ i = .int .i64 c ∧ q = .int .i64 kk ∧ kk ≤ 625 ∧ ss.length = c ∧ (∀ x ∈ ss, (Lit.int .i64 x.1).wf = true ∧ (Lit.int .i64 x.2).wf = true) ∧ wr.ownsRow w2.heap.size 48 2 v c (flatP ss) ∧ Below w2.heap.size w2 wr) (fun _ i _ _ => 4 - (intOf i).toNat)
          case atStart => exact ⟨0, j, [], by omega, rfl, rfl, by omega, rfl, (fun x hx => by cases hx), World.ownsRow_nil _ _ _ _, Below.refl _ _⟩
          case round =>
            obtain ⟨c, kk, ss, hc, rfl, rfl, hkk, hsl, hwf, hown, hb3⟩ := hrel
            by_cases hlt3 : c < 4
            · have hm : kk % 5 < stepT.length := Nat.mod_lt _ (by decide)
              obtain ⟨⟨x1, x2⟩, hx⟩ : ∃ x, stepT[kk % 5]? = some x := ⟨_, List.getElem?_eq_getElem hm⟩
              obtain ⟨q0, q1⟩ := HST2.out _ _ hx
              replace q0 := cell_later hb3 q0
              replace q1 := cell_later hb3 q1
              simp only [Nat.zero_add] at q0 q1
              have hxw : (Lit.int .i64 x1).wf = true ∧ (Lit.int .i64 x2).wf = true := by
                have : ∀ x ∈ stepT, (Lit.int .i64 x.1).wf = true ∧ (Lit.int .i64 x.2).wf = true := by decide
                exact this _ (List.mem_of_getElem? hx)
              have hc0 : (0 : Int) ≤ (c : Int) := by omega
              have hcn : (c : Int) < 4 := by omega
              have hk50 : (0 : Int) ≤ (kk : Int) % 5 := by omega
              have hk51 : (kk : Int) % 5 < 5 := by omega
              have hkt : ((kk : Int) % 5).toNat = kk % 5 := by omega
              have HO := Lib.hid hown
              have HWF := Lib.hid hwf
              have HXW := Lib.hid hxw
              have hbs := hb3.size
              clear hx hown hwf hxw hm
              go_wp2_with (at_builtin; refine wpList_append_own _ rfl (.tmp 66) (.tmp 72) 45 rfl w2.heap.size 48 i0 (.agg #[.int .i64 0, .int .i64 0]) 2 16 Try.underlying45 hi hz0 hz1 hz2 rfl (by decide) _ _ _ rfl (HO.out.alloc _) ⟨wr.heap.size, 0, none⟩ 1 1 [.int .i64 x1, .int .i64 x2] rfl rfl ?c1 ?c2 ?c3 ?c4 ?c5 ?_)
              case c1 =>
                intro i u hi
                match i, hi with
                | 0, hi => simp at hi; subst hi; go_simp
                | 1, hi => simp at hi; subst hi; go_simp
                | i + 2, hi => simp at hi
              case c2 => intro u hu; simp at hu; rcases hu with rfl | rfl <;> rfl
              case c3 => unfold maxLen; omega
              case c4 => omega
              case c5 => simp; omega
              intro v' w5 hown5 hgrow5 _
              have hb5 : Below w2.heap.size w2 w5 := (Below.allocS hb3 _).grown hgrow5 (by simp; omega) (fun i hi => (HO.out.lt i hi).1)
              obtain ⟨g5, c5, rfl⟩ := own_some hown5
              have HO5 := Lib.hid hown5
              have HDV := Lib.hid (show (kk : Int) / 5 = ((kk / 5 : Nat) : Int) by omega)
              clear hown5 hgrow5
              go_wp2_with fail
              go_roundw
              case rel =>
                refine ⟨c + 1, kk / 5, ss ++ [(x1, x2)], by omega, by go_num, by rw [HDV.out], by omega, by simp; omega, fun x hx => ?_, ?_, hb5⟩
                · rcases List.mem_append.1 hx with hx | hx
                  · exact HWF.out x hx
                  · have : x = (x1, x2) := by simpa using hx
                    rw [this]; exact HXW.out
                · rw [flatP_append]; exact HO5.out
              case measure => simp [intOf]; omega
            · obtain rfl : c = 4 := by omega
              obtain ⟨g3, c3, rfl⟩ := own_some hown
              have hss : StepsIn wr (some ⟨g3, 0, none⟩) 4 ss := by
                refine ⟨hsl, fun _ => ⟨g3, 0, rfl, fun i x hx => ?_⟩, hwf, by omega⟩
                have hi : i < 4 := by rw [← hsl]; exact (List.getElem?_eq_some_iff.1 hx).1
                obtain ⟨a, b⟩ := flatP_at ss i x hx
                rw [Nat.zero_add, hown.cellAt _ (by omega), hown.cellAt _ (by omega)]
                exact ⟨a, b⟩
              obtain ⟨m, hm⟩ : ∃ m : Nat, m = 1 + (j + k) % 3 := ⟨_, rfl⟩
              have hmI : 1 + ((j : Int) + (k : Int)) % 3 = (m : Int) := by omega
              have hm3 : m ≤ 3 := by omega
              have hm0 : 0 ≤ m := by omega
              have hpt : PairsAt wr B 0 (l.take m) := fun i x hx => by
                have hx2 : l[i]? = some x := by
                  rw [List.getElem?_take] at hx
                  split at hx
                  · exact hx
                  · cases hx
                obtain ⟨a, b⟩ := HPL.out i x hx2
                exact ⟨cell_later hb3 (cell_later hbr a), cell_later hb3 (cell_later hbr b)⟩
              have A1 := Lib.hid (tells_all (some ⟨B, 0, none⟩) m 3 (l.take m) (some ⟨g3, 0, none⟩) 4 c3 ss ((j : Int) % 4) wr (by rw [List.length_take, HLEN.out]; omega) (by omega) (by omega) (fun e => by cases e) (fun _ => ⟨B, 0, rfl, hpt⟩) hss (WalkArith.wf_i64 (by omega)))
              have hbw : Below w1.heap.size w1 wr := Below.step hbr hb3
              clear hown hwf hss hpt hm hsl hb3 hbr
              by_cases h7 : (j : Int) % 7 = (k : Int) % 7
              · have ht : ((j : Int) % 7 == (k : Int) % 7) = true := by simpa using h7
                clear h7
                go_wp2_with fail
                refine A1.out.mono ?_
                rintro e w6 ⟨rfl, hb6⟩
                have hbw6 := Below.step hbw hb6
                go_wp2_with fail
                go_roundw
                case rel => exact ⟨j + 1, by omega, by go_num, hbw6⟩
                case measure => simp [intOf]; omega
              · have ht : ((j : Int) % 7 == (k : Int) % 7) = false := by simpa using h7
                clear h7
                go_wp2_with fail
                go_roundw
                case rel => exact ⟨j + 1, by omega, by go_num, hbw⟩
                case measure => simp [intOf]; omega
        · obtain rfl : j = 625 := by omega
          have hb9 := Below.step hb1 hbr
          clear hbr hb1
          go_wp2_with fail
          go_roundw
          case rel => exact ⟨k + 1, by omega, by go_num, hb9⟩
          case measure => simp [intOf]; omega
    · have hk27 := Lib.hid (show k = 27 by omega)
      have hk28 : ¬ (k : Int) < 27 := by omega
      have hb1 : Below w.heap.size w wr := by have := HS.out; exact Below.step (by rw [this]; exact hb0) hbr
      clear hb0 hbr HST
      go_wp2_with fail
      have hF := PairsAt.of wr [(1, 1), (65535, 65536)] 28
      change PairsAt (wr.alloc (.cells #[.int .i64 1, .int .i64 1, .int .i64 65535, .int .i64 65536] 28)) wr.heap.size 0 [(1, 1), (65535, 65536)] at hF
      have hb2 := Below.allocS hb1 (.cells #[.int .i64 1, .int .i64 1, .int .i64 65535, .int .i64 65536] 28)
      have hsz : (wr.alloc (.cells #[.int .i64 1, .int .i64 1, .int .i64 65535, .int .i64 65536] 28)).heap.size = wr.heap.size + 1 := by simp
      generalize wr.alloc (.cells #[.int .i64 1, .int .i64 1, .int .i64 65535, .int .i64 65536] 28) = w1 at *
      rw [← hsz]
      have hG : ∀ i x, farA[i]? = some x → (w1.alloc (.cells #[.int .i64 (-1), .int .i64 0, .int .i64 1, .int .i64 34359738368, .int .i64 68719476736, .int .i64 68719476737, .int .i64 4611686018427387904] 3)).cell? ⟨w1.heap.size, i, none⟩ = some (.int .i64 x) := fun i x hx => cell_nw w1 _ _ i _ (by
        have := congrArg (Option.map (Value.int .i64)) hx
        rw [← List.getElem?_map] at this
        simpa [farA] using this)
      have hb3 := Below.allocS hb2 (.cells #[.int .i64 (-1), .int .i64 0, .int .i64 1, .int .i64 34359738368, .int .i64 68719476736, .int .i64 68719476737, .int .i64 4611686018427387904] 3)
      replace hF := hF.later (below_a w1 (.cells #[.int .i64 (-1), .int .i64 0, .int .i64 1, .int .i64 34359738368, .int .i64 68719476736, .int .i64 68719476737, .int .i64 4611686018427387904] 3))
      generalize w1.alloc (.cells #[.int .i64 (-1), .int .i64 0, .int .i64 1, .int .i64 34359738368, .int .i64 68719476736, .int .i64 68719476737, .int .i64 4611686018427387904] 3) = w2 at *
      have HF := Lib.hid hF
      have HG := Lib.hid hG
      clear hF hG hb1 hb2 hsz
      generalize w1.heap.size = G at *
      generalize wr.heap.size = F at *
      go_loopw [100] (fun i wr => ∃ k : Nat, k ≤ 7 ∧ i = .int .i64 k ∧ Below w2.heap.size w2 wr) (fun i _ => 7 - (intOf i).toNat)
      case atStart => exact ⟨0, Nat.zero_le _, rfl, Below.refl _ _⟩
      case round =>
        obtain ⟨k, hk, rfl, hbr⟩ := hrel
        by_cases hlt4 : k < 7
        · obtain ⟨x, hx⟩ : ∃ x, farA[k]? = some x := ⟨_, List.getElem?_eq_getElem (by show k < 7; exact hlt4)⟩
          have q0 := cell_later hbr (HG.out k x hx)
          have hxw : (Lit.int .i64 x).wf = true := by
            have : ∀ x ∈ farA, (Lit.int .i64 x).wf = true := by decide
            exact this _ (List.mem_of_getElem? hx)
          have HXW := Lib.hid hxw
          have hk0 : (0 : Int) ≤ (k : Int) := by omega
          have hkn : (k : Int) < 7 := by omega
          clear hx hxw
          go_wp2_with fail
          have hB : ∀ i x, farB[i]? = some x → (wr.alloc (.cells #[.int .i64 0, .int .i64 1, .int .i64 34359738368, .int .i64 68719476735, .int .i64 68719476736] 3)).cell? ⟨wr.heap.size, i, none⟩ = some (.int .i64 x) := fun i x hx => cell_nw wr _ _ i _ (by
            have := congrArg (Option.map (Value.int .i64)) hx
            rw [← List.getElem?_map] at this
            simpa [farB] using this)
          have hbB := Below.allocS hbr (.cells #[.int .i64 0, .int .i64 1, .int .i64 34359738368, .int .i64 68719476735, .int .i64 68719476736] 3)
          generalize wr.heap.size = Bb at *
          generalize wr.alloc (.cells #[.int .i64 0, .int .i64 1, .int .i64 34359738368, .int .i64 68719476735, .int .i64 68719476736] 3) = w5 at *
          have HB := Lib.hid hB
          clear hB hbr
          go_loopw [106] (fun i wr => ∃ j : Nat, j ≤ 5 ∧ i = .int .i64 j ∧ Below w5.heap.size w5 wr) (fun i _ => 5 - (intOf i).toNat)
          case atStart => exact ⟨0, Nat.zero_le _, rfl, Below.refl _ _⟩
          case round =>
            obtain ⟨j, hj, rfl, hbs⟩ := hrel
            by_cases hlt5 : j < 5
            · obtain ⟨y, hy⟩ : ∃ x, farB[j]? = some x := ⟨_, List.getElem?_eq_getElem (by show j < 5; exact hlt5)⟩
              have q1 := cell_later hbs (HB.out j y hy)
              have hyw : (Lit.int .i64 y).wf = true := by
                have : ∀ x ∈ farB, (Lit.int .i64 x).wf = true := by decide
                exact this _ (List.mem_of_getElem? hy)
              have HYW := Lib.hid hyw
              have hj0 : (0 : Int) ≤ (j : Int) := by omega
              have hjn : (j : Int) < 5 := by omega
              clear hy hyw
              go_wp2_with fail
              have hP := PairsAt.of wr [(1, x), (65535, y), (2, y), (1, y)] 48
              change PairsAt (wr.alloc (.cells #[.int .i64 1, .int .i64 x, .int .i64 65535, .int .i64 y, .int .i64 2, .int .i64 y, .int .i64 1, .int .i64 y] 48)) wr.heap.size 0 [(1, x), (65535, y), (2, y), (1, y)] at hP
              have hbP := Below.allocS hbs (.cells #[.int .i64 1, .int .i64 x, .int .i64 65535, .int .i64 y, .int .i64 2, .int .i64 y, .int .i64 1, .int .i64 y] 48)
              generalize wr.heap.size = Pb at *
              generalize wr.alloc (.cells #[.int .i64 1, .int .i64 x, .int .i64 65535, .int .i64 y, .int .i64 2, .int .i64 y, .int .i64 1, .int .i64 y] 48) = w6 at *
              have hF6 := (HF.out.later hbB).later hbP
              refine (tells_all (some ⟨F, 0, none⟩) 2 2 [(1, 1), (65535, 65536)] (some ⟨Pb, 0, none⟩) 4 4 [(1, x), (65535, y), (2, y), (1, y)] 1 w6 rfl (by omega) (by omega) (fun e => by cases e) (fun _ => ⟨F, 0, rfl, hF6⟩) ⟨rfl, fun _ => ⟨Pb, 0, rfl, hP⟩, fun z hz => ?_, by omega⟩ (by decide)).mono ?_
              · simp only [List.mem_cons, List.not_mem_nil, or_false] at hz
                rcases hz with rfl | rfl | rfl | rfl
                · exact ⟨show (Lit.int .i64 1).wf = true by decide, HXW.out⟩
                · exact ⟨show (Lit.int .i64 65535).wf = true by decide, HYW.out⟩
                · exact ⟨show (Lit.int .i64 2).wf = true by decide, HYW.out⟩
                · exact ⟨show (Lit.int .i64 1).wf = true by decide, HYW.out⟩
              rintro e w7 ⟨rfl, hb7⟩
              have hb8 := Below.step hbP hb7
              clear hP hF6
              go_wp2_with fail
              go_roundw
              case rel => exact ⟨j + 1, by omega, by go_num, hb8⟩
              case measure => simp [intOf]; omega
            · obtain rfl : j = 5 := by omega
              have hb9 := Below.step hbB hbs
              go_wp2_with fail
              go_roundw
              case rel => exact ⟨k + 1, by omega, by go_num, hb9⟩
              case measure => simp [intOf]; omega
        · have hk7 := Lib.hid (show k = 7 by omega)
          have hk8 : ¬ (k : Int) < 7 := by omega
          have hb4 := Below.step hb3 hbr
          clear hb3 hbr HF HG
          go_wp2_with fail
          have hbC := Below.refl wr.heap.size wr
          have c0 := PairsAt.of wr [(0, 0)] 28
          change PairsAt (wr.alloc (.cells #[.int .i64 0, .int .i64 0] 28)) wr.heap.size 0 [(0, 0)] at c0
          have s1 : (wr.alloc (.cells #[.int .i64 0, .int .i64 0] 28)).heap.size = wr.heap.size + 1 := by simp
          replace hbC := Below.allocS hbC (.cells #[.int .i64 0, .int .i64 0] 28)
          generalize (wr.alloc (.cells #[.int .i64 0, .int .i64 0] 28)) = v1 at *
          have c1 := PairsAt.of v1 [(1, 0)] 28
          change PairsAt (v1.alloc (.cells #[.int .i64 1, .int .i64 0] 28)) v1.heap.size 0 [(1, 0)] at c1
          rw [s1] at c1
          replace c0 := c0.later (below_a v1 (.cells #[.int .i64 1, .int .i64 0] 28))
          have s2 : (v1.alloc (.cells #[.int .i64 1, .int .i64 0] 28)).heap.size = wr.heap.size + 1 + 1 := by rw [World.size_alloc, s1]
          replace hbC := Below.allocS hbC (.cells #[.int .i64 1, .int .i64 0] 28)
          generalize (v1.alloc (.cells #[.int .i64 1, .int .i64 0] 28)) = v2 at *
          have c2 := PairsAt.of v2 [(0, 1)] 28
          change PairsAt (v2.alloc (.cells #[.int .i64 0, .int .i64 1] 28)) v2.heap.size 0 [(0, 1)] at c2
          rw [s2] at c2
          replace c0 := c0.later (below_a v2 (.cells #[.int .i64 0, .int .i64 1] 28))
          replace c1 := c1.later (below_a v2 (.cells #[.int .i64 0, .int .i64 1] 28))
          have s3 : (v2.alloc (.cells #[.int .i64 0, .int .i64 1] 28)).heap.size = wr.heap.size + 1 + 1 + 1 := by rw [World.size_alloc, s2]
          replace hbC := Below.allocS hbC (.cells #[.int .i64 0, .int .i64 1] 28)
          generalize (v2.alloc (.cells #[.int .i64 0, .int .i64 1] 28)) = v3 at *
          have c3 := PairsAt.of v3 [(65536, 1)] 28
          change PairsAt (v3.alloc (.cells #[.int .i64 65536, .int .i64 1] 28)) v3.heap.size 0 [(65536, 1)] at c3
          rw [s3] at c3
          replace c0 := c0.later (below_a v3 (.cells #[.int .i64 65536, .int .i64 1] 28))
          replace c1 := c1.later (below_a v3 (.cells #[.int .i64 65536, .int .i64 1] 28))
          replace c2 := c2.later (below_a v3 (.cells #[.int .i64 65536, .int .i64 1] 28))
          have s4 : (v3.alloc (.cells #[.int .i64 65536, .int .i64 1] 28)).heap.size = wr.heap.size + 1 + 1 + 1 + 1 := by rw [World.size_alloc, s3]
          replace hbC := Below.allocS hbC (.cells #[.int .i64 65536, .int .i64 1] 28)
          generalize (v3.alloc (.cells #[.int .i64 65536, .int .i64 1] 28)) = v4 at *
          have c4 := PairsAt.of v4 [(1, 65537)] 28
          change PairsAt (v4.alloc (.cells #[.int .i64 1, .int .i64 65537] 28)) v4.heap.size 0 [(1, 65537)] at c4
          rw [s4] at c4
          replace c0 := c0.later (below_a v4 (.cells #[.int .i64 1, .int .i64 65537] 28))
          replace c1 := c1.later (below_a v4 (.cells #[.int .i64 1, .int .i64 65537] 28))
          replace c2 := c2.later (below_a v4 (.cells #[.int .i64 1, .int .i64 65537] 28))
          replace c3 := c3.later (below_a v4 (.cells #[.int .i64 1, .int .i64 65537] 28))
          have s5 : (v4.alloc (.cells #[.int .i64 1, .int .i64 65537] 28)).heap.size = wr.heap.size + 1 + 1 + 1 + 1 + 1 := by rw [World.size_alloc, s4]
          replace hbC := Below.allocS hbC (.cells #[.int .i64 1, .int .i64 65537] 28)
          generalize (v4.alloc (.cells #[.int .i64 1, .int .i64 65537] 28)) = v5 at *
          have c5 := PairsAt.of v5 [(2, 1), (2, 1)] 28
          change PairsAt (v5.alloc (.cells #[.int .i64 2, .int .i64 1, .int .i64 2, .int .i64 1] 28)) v5.heap.size 0 [(2, 1), (2, 1)] at c5
          rw [s5] at c5
          replace c0 := c0.later (below_a v5 (.cells #[.int .i64 2, .int .i64 1, .int .i64 2, .int .i64 1] 28))
          replace c1 := c1.later (below_a v5 (.cells #[.int .i64 2, .int .i64 1, .int .i64 2, .int .i64 1] 28))
          replace c2 := c2.later (below_a v5 (.cells #[.int .i64 2, .int .i64 1, .int .i64 2, .int .i64 1] 28))
          replace c3 := c3.later (below_a v5 (.cells #[.int .i64 2, .int .i64 1, .int .i64 2, .int .i64 1] 28))
          replace c4 := c4.later (below_a v5 (.cells #[.int .i64 2, .int .i64 1, .int .i64 2, .int .i64 1] 28))
          have s6 : (v5.alloc (.cells #[.int .i64 2, .int .i64 1, .int .i64 2, .int .i64 1] 28)).heap.size = wr.heap.size + 1 + 1 + 1 + 1 + 1 + 1 := by rw [World.size_alloc, s5]
          replace hbC := Below.allocS hbC (.cells #[.int .i64 2, .int .i64 1, .int .i64 2, .int .i64 1] 28)
          generalize (v5.alloc (.cells #[.int .i64 2, .int .i64 1, .int .i64 2, .int .i64 1] 28)) = v6 at *
          have c6 := PairsAt.of v6 [(2, 1), (1, 1)] 28
          change PairsAt (v6.alloc (.cells #[.int .i64 2, .int .i64 1, .int .i64 1, .int .i64 1] 28)) v6.heap.size 0 [(2, 1), (1, 1)] at c6
          rw [s6] at c6
          replace c0 := c0.later (below_a v6 (.cells #[.int .i64 2, .int .i64 1, .int .i64 1, .int .i64 1] 28))
          replace c1 := c1.later (below_a v6 (.cells #[.int .i64 2, .int .i64 1, .int .i64 1, .int .i64 1] 28))
          replace c2 := c2.later (below_a v6 (.cells #[.int .i64 2, .int .i64 1, .int .i64 1, .int .i64 1] 28))
          replace c3 := c3.later (below_a v6 (.cells #[.int .i64 2, .int .i64 1, .int .i64 1, .int .i64 1] 28))
          replace c4 := c4.later (below_a v6 (.cells #[.int .i64 2, .int .i64 1, .int .i64 1, .int .i64 1] 28))
          replace c5 := c5.later (below_a v6 (.cells #[.int .i64 2, .int .i64 1, .int .i64 1, .int .i64 1] 28))
          have s7 : (v6.alloc (.cells #[.int .i64 2, .int .i64 1, .int .i64 1, .int .i64 1] 28)).heap.size = wr.heap.size + 1 + 1 + 1 + 1 + 1 + 1 + 1 := by rw [World.size_alloc, s6]
          replace hbC := Below.allocS hbC (.cells #[.int .i64 2, .int .i64 1, .int .i64 1, .int .i64 1] 28)
          generalize (v6.alloc (.cells #[.int .i64 2, .int .i64 1, .int .i64 1, .int .i64 1] 28)) = v7 at *
          have c7 := PairsAt.of v7 [(1, -1)] 28
          change PairsAt (v7.alloc (.cells #[.int .i64 1, .int .i64 (-1)] 28)) v7.heap.size 0 [(1, -1)] at c7
          rw [s7] at c7
          replace c0 := c0.later (below_a v7 (.cells #[.int .i64 1, .int .i64 (-1)] 28))
          replace c1 := c1.later (below_a v7 (.cells #[.int .i64 1, .int .i64 (-1)] 28))
          replace c2 := c2.later (below_a v7 (.cells #[.int .i64 1, .int .i64 (-1)] 28))
          replace c3 := c3.later (below_a v7 (.cells #[.int .i64 1, .int .i64 (-1)] 28))
          replace c4 := c4.later (below_a v7 (.cells #[.int .i64 1, .int .i64 (-1)] 28))
          replace c5 := c5.later (below_a v7 (.cells #[.int .i64 1, .int .i64 (-1)] 28))
          replace c6 := c6.later (below_a v7 (.cells #[.int .i64 1, .int .i64 (-1)] 28))
          have s8 : (v7.alloc (.cells #[.int .i64 1, .int .i64 (-1)] 28)).heap.size = wr.heap.size + 1 + 1 + 1 + 1 + 1 + 1 + 1 + 1 := by rw [World.size_alloc, s7]
          replace hbC := Below.allocS hbC (.cells #[.int .i64 1, .int .i64 (-1)] 28)
          generalize (v7.alloc (.cells #[.int .i64 1, .int .i64 (-1)] 28)) = v8 at *
          replace c0 := c0.later (below_a v8 (.cells #[.slice none 0 0, .slice (some ⟨wr.heap.size, 0, none⟩) 1 1, .slice (some ⟨wr.heap.size + 1, 0, none⟩) 1 1, .slice (some ⟨wr.heap.size + 1 + 1, 0, none⟩) 1 1, .slice (some ⟨wr.heap.size + 1 + 1 + 1, 0, none⟩) 1 1, .slice (some ⟨wr.heap.size + 1 + 1 + 1 + 1, 0, none⟩) 1 1, .slice (some ⟨wr.heap.size + 1 + 1 + 1 + 1 + 1, 0, none⟩) 2 2, .slice (some ⟨wr.heap.size + 1 + 1 + 1 + 1 + 1 + 1, 0, none⟩) 2 2, .slice (some ⟨wr.heap.size + 1 + 1 + 1 + 1 + 1 + 1 + 1, 0, none⟩) 1 1] 23))
          replace c1 := c1.later (below_a v8 (.cells #[.slice none 0 0, .slice (some ⟨wr.heap.size, 0, none⟩) 1 1, .slice (some ⟨wr.heap.size + 1, 0, none⟩) 1 1, .slice (some ⟨wr.heap.size + 1 + 1, 0, none⟩) 1 1, .slice (some ⟨wr.heap.size + 1 + 1 + 1, 0, none⟩) 1 1, .slice (some ⟨wr.heap.size + 1 + 1 + 1 + 1, 0, none⟩) 1 1, .slice (some ⟨wr.heap.size + 1 + 1 + 1 + 1 + 1, 0, none⟩) 2 2, .slice (some ⟨wr.heap.size + 1 + 1 + 1 + 1 + 1 + 1, 0, none⟩) 2 2, .slice (some ⟨wr.heap.size + 1 + 1 + 1 + 1 + 1 + 1 + 1, 0, none⟩) 1 1] 23))
          replace c2 := c2.later (below_a v8 (.cells #[.slice none 0 0, .slice (some ⟨wr.heap.size, 0, none⟩) 1 1, .slice (some ⟨wr.heap.size + 1, 0, none⟩) 1 1, .slice (some ⟨wr.heap.size + 1 + 1, 0, none⟩) 1 1, .slice (some ⟨wr.heap.size + 1 + 1 + 1, 0, none⟩) 1 1, .slice (some ⟨wr.heap.size + 1 + 1 + 1 + 1, 0, none⟩) 1 1, .slice (some ⟨wr.heap.size + 1 + 1 + 1 + 1 + 1, 0, none⟩) 2 2, .slice (some ⟨wr.heap.size + 1 + 1 + 1 + 1 + 1 + 1, 0, none⟩) 2 2, .slice (some ⟨wr.heap.size + 1 + 1 + 1 + 1 + 1 + 1 + 1, 0, none⟩) 1 1] 23))
          replace c3 := c3.later (below_a v8 (.cells #[.slice none 0 0, .slice (some ⟨wr.heap.size, 0, none⟩) 1 1, .slice (some ⟨wr.heap.size + 1, 0, none⟩) 1 1, .slice (some ⟨wr.heap.size + 1 + 1, 0, none⟩) 1 1, .slice (some ⟨wr.heap.size + 1 + 1 + 1, 0, none⟩) 1 1, .slice (some ⟨wr.heap.size + 1 + 1 + 1 + 1, 0, none⟩) 1 1, .slice (some ⟨wr.heap.size + 1 + 1 + 1 + 1 + 1, 0, none⟩) 2 2, .slice (some ⟨wr.heap.size + 1 + 1 + 1 + 1 + 1 + 1, 0, none⟩) 2 2, .slice (some ⟨wr.heap.size + 1 + 1 + 1 + 1 + 1 + 1 + 1, 0, none⟩) 1 1] 23))
          replace c4 := c4.later (below_a v8 (.cells #[.slice none 0 0, .slice (some ⟨wr.heap.size, 0, none⟩) 1 1, .slice (some ⟨wr.heap.size + 1, 0, none⟩) 1 1, .slice (some ⟨wr.heap.size + 1 + 1, 0, none⟩) 1 1, .slice (some ⟨wr.heap.size + 1 + 1 + 1, 0, none⟩) 1 1, .slice (some ⟨wr.heap.size + 1 + 1 + 1 + 1, 0, none⟩) 1 1, .slice (some ⟨wr.heap.size + 1 + 1 + 1 + 1 + 1, 0, none⟩) 2 2, .slice (some ⟨wr.heap.size + 1 + 1 + 1 + 1 + 1 + 1, 0, none⟩) 2 2, .slice (some ⟨wr.heap.size + 1 + 1 + 1 + 1 + 1 + 1 + 1, 0, none⟩) 1 1] 23))
          replace c5 := c5.later (below_a v8 (.cells #[.slice none 0 0, .slice (some ⟨wr.heap.size, 0, none⟩) 1 1, .slice (some ⟨wr.heap.size + 1, 0, none⟩) 1 1, .slice (some ⟨wr.heap.size + 1 + 1, 0, none⟩) 1 1, .slice (some ⟨wr.heap.size + 1 + 1 + 1, 0, none⟩) 1 1, .slice (some ⟨wr.heap.size + 1 + 1 + 1 + 1, 0, none⟩) 1 1, .slice (some ⟨wr.heap.size + 1 + 1 + 1 + 1 + 1, 0, none⟩) 2 2, .slice (some ⟨wr.heap.size + 1 + 1 + 1 + 1 + 1 + 1, 0, none⟩) 2 2, .slice (some ⟨wr.heap.size + 1 + 1 + 1 + 1 + 1 + 1 + 1, 0, none⟩) 1 1] 23))
          replace c6 := c6.later (below_a v8 (.cells #[.slice none 0 0, .slice (some ⟨wr.heap.size, 0, none⟩) 1 1, .slice (some ⟨wr.heap.size + 1, 0, none⟩) 1 1, .slice (some ⟨wr.heap.size + 1 + 1, 0, none⟩) 1 1, .slice (some ⟨wr.heap.size + 1 + 1 + 1, 0, none⟩) 1 1, .slice (some ⟨wr.heap.size + 1 + 1 + 1 + 1, 0, none⟩) 1 1, .slice (some ⟨wr.heap.size + 1 + 1 + 1 + 1 + 1, 0, none⟩) 2 2, .slice (some ⟨wr.heap.size + 1 + 1 + 1 + 1 + 1 + 1, 0, none⟩) 2 2, .slice (some ⟨wr.heap.size + 1 + 1 + 1 + 1 + 1 + 1 + 1, 0, none⟩) 1 1] 23))
          replace c7 := c7.later (below_a v8 (.cells #[.slice none 0 0, .slice (some ⟨wr.heap.size, 0, none⟩) 1 1, .slice (some ⟨wr.heap.size + 1, 0, none⟩) 1 1, .slice (some ⟨wr.heap.size + 1 + 1, 0, none⟩) 1 1, .slice (some ⟨wr.heap.size + 1 + 1 + 1, 0, none⟩) 1 1, .slice (some ⟨wr.heap.size + 1 + 1 + 1 + 1, 0, none⟩) 1 1, .slice (some ⟨wr.heap.size + 1 + 1 + 1 + 1 + 1, 0, none⟩) 2 2, .slice (some ⟨wr.heap.size + 1 + 1 + 1 + 1 + 1 + 1, 0, none⟩) 2 2, .slice (some ⟨wr.heap.size + 1 + 1 + 1 + 1 + 1 + 1 + 1, 0, none⟩) 1 1] 23))
          have e0 := cell_nw v8 #[.slice none 0 0, .slice (some ⟨wr.heap.size, 0, none⟩) 1 1, .slice (some ⟨wr.heap.size + 1, 0, none⟩) 1 1, .slice (some ⟨wr.heap.size + 1 + 1, 0, none⟩) 1 1, .slice (some ⟨wr.heap.size + 1 + 1 + 1, 0, none⟩) 1 1, .slice (some ⟨wr.heap.size + 1 + 1 + 1 + 1, 0, none⟩) 1 1, .slice (some ⟨wr.heap.size + 1 + 1 + 1 + 1 + 1, 0, none⟩) 2 2, .slice (some ⟨wr.heap.size + 1 + 1 + 1 + 1 + 1 + 1, 0, none⟩) 2 2, .slice (some ⟨wr.heap.size + 1 + 1 + 1 + 1 + 1 + 1 + 1, 0, none⟩) 1 1] 23 0 _ rfl
          have e1 := cell_nw v8 #[.slice none 0 0, .slice (some ⟨wr.heap.size, 0, none⟩) 1 1, .slice (some ⟨wr.heap.size + 1, 0, none⟩) 1 1, .slice (some ⟨wr.heap.size + 1 + 1, 0, none⟩) 1 1, .slice (some ⟨wr.heap.size + 1 + 1 + 1, 0, none⟩) 1 1, .slice (some ⟨wr.heap.size + 1 + 1 + 1 + 1, 0, none⟩) 1 1, .slice (some ⟨wr.heap.size + 1 + 1 + 1 + 1 + 1, 0, none⟩) 2 2, .slice (some ⟨wr.heap.size + 1 + 1 + 1 + 1 + 1 + 1, 0, none⟩) 2 2, .slice (some ⟨wr.heap.size + 1 + 1 + 1 + 1 + 1 + 1 + 1, 0, none⟩) 1 1] 23 1 _ rfl
          have e2 := cell_nw v8 #[.slice none 0 0, .slice (some ⟨wr.heap.size, 0, none⟩) 1 1, .slice (some ⟨wr.heap.size + 1, 0, none⟩) 1 1, .slice (some ⟨wr.heap.size + 1 + 1, 0, none⟩) 1 1, .slice (some ⟨wr.heap.size + 1 + 1 + 1, 0, none⟩) 1 1, .slice (some ⟨wr.heap.size + 1 + 1 + 1 + 1, 0, none⟩) 1 1, .slice (some ⟨wr.heap.size + 1 + 1 + 1 + 1 + 1, 0, none⟩) 2 2, .slice (some ⟨wr.heap.size + 1 + 1 + 1 + 1 + 1 + 1, 0, none⟩) 2 2, .slice (some ⟨wr.heap.size + 1 + 1 + 1 + 1 + 1 + 1 + 1, 0, none⟩) 1 1] 23 2 _ rfl
          have e3 := cell_nw v8 #[.slice none 0 0, .slice (some ⟨wr.heap.size, 0, none⟩) 1 1, .slice (some ⟨wr.heap.size + 1, 0, none⟩) 1 1, .slice (some ⟨wr.heap.size + 1 + 1, 0, none⟩) 1 1, .slice (some ⟨wr.heap.size + 1 + 1 + 1, 0, none⟩) 1 1, .slice (some ⟨wr.heap.size + 1 + 1 + 1 + 1, 0, none⟩) 1 1, .slice (some ⟨wr.heap.size + 1 + 1 + 1 + 1 + 1, 0, none⟩) 2 2, .slice (some ⟨wr.heap.size + 1 + 1 + 1 + 1 + 1 + 1, 0, none⟩) 2 2, .slice (some ⟨wr.heap.size + 1 + 1 + 1 + 1 + 1 + 1 + 1, 0, none⟩) 1 1] 23 3 _ rfl
          have e4 := cell_nw v8 #[.slice none 0 0, .slice (some ⟨wr.heap.size, 0, none⟩) 1 1, .slice (some ⟨wr.heap.size + 1, 0, none⟩) 1 1, .slice (some ⟨wr.heap.size + 1 + 1, 0, none⟩) 1 1, .slice (some ⟨wr.heap.size + 1 + 1 + 1, 0, none⟩) 1 1, .slice (some ⟨wr.heap.size + 1 + 1 + 1 + 1, 0, none⟩) 1 1, .slice (some ⟨wr.heap.size + 1 + 1 + 1 + 1 + 1, 0, none⟩) 2 2, .slice (some ⟨wr.heap.size + 1 + 1 + 1 + 1 + 1 + 1, 0, none⟩) 2 2, .slice (some ⟨wr.heap.size + 1 + 1 + 1 + 1 + 1 + 1 + 1, 0, none⟩) 1 1] 23 4 _ rfl
          have e5 := cell_nw v8 #[.slice none 0 0, .slice (some ⟨wr.heap.size, 0, none⟩) 1 1, .slice (some ⟨wr.heap.size + 1, 0, none⟩) 1 1, .slice (some ⟨wr.heap.size + 1 + 1, 0, none⟩) 1 1, .slice (some ⟨wr.heap.size + 1 + 1 + 1, 0, none⟩) 1 1, .slice (some ⟨wr.heap.size + 1 + 1 + 1 + 1, 0, none⟩) 1 1, .slice (some ⟨wr.heap.size + 1 + 1 + 1 + 1 + 1, 0, none⟩) 2 2, .slice (some ⟨wr.heap.size + 1 + 1 + 1 + 1 + 1 + 1, 0, none⟩) 2 2, .slice (some ⟨wr.heap.size + 1 + 1 + 1 + 1 + 1 + 1 + 1, 0, none⟩) 1 1] 23 5 _ rfl
          have e6 := cell_nw v8 #[.slice none 0 0, .slice (some ⟨wr.heap.size, 0, none⟩) 1 1, .slice (some ⟨wr.heap.size + 1, 0, none⟩) 1 1, .slice (some ⟨wr.heap.size + 1 + 1, 0, none⟩) 1 1, .slice (some ⟨wr.heap.size + 1 + 1 + 1, 0, none⟩) 1 1, .slice (some ⟨wr.heap.size + 1 + 1 + 1 + 1, 0, none⟩) 1 1, .slice (some ⟨wr.heap.size + 1 + 1 + 1 + 1 + 1, 0, none⟩) 2 2, .slice (some ⟨wr.heap.size + 1 + 1 + 1 + 1 + 1 + 1, 0, none⟩) 2 2, .slice (some ⟨wr.heap.size + 1 + 1 + 1 + 1 + 1 + 1 + 1, 0, none⟩) 1 1] 23 6 _ rfl
          have e7 := cell_nw v8 #[.slice none 0 0, .slice (some ⟨wr.heap.size, 0, none⟩) 1 1, .slice (some ⟨wr.heap.size + 1, 0, none⟩) 1 1, .slice (some ⟨wr.heap.size + 1 + 1, 0, none⟩) 1 1, .slice (some ⟨wr.heap.size + 1 + 1 + 1, 0, none⟩) 1 1, .slice (some ⟨wr.heap.size + 1 + 1 + 1 + 1, 0, none⟩) 1 1, .slice (some ⟨wr.heap.size + 1 + 1 + 1 + 1 + 1, 0, none⟩) 2 2, .slice (some ⟨wr.heap.size + 1 + 1 + 1 + 1 + 1 + 1, 0, none⟩) 2 2, .slice (some ⟨wr.heap.size + 1 + 1 + 1 + 1 + 1 + 1 + 1, 0, none⟩) 1 1] 23 7 _ rfl
          have e8 := cell_nw v8 #[.slice none 0 0, .slice (some ⟨wr.heap.size, 0, none⟩) 1 1, .slice (some ⟨wr.heap.size + 1, 0, none⟩) 1 1, .slice (some ⟨wr.heap.size + 1 + 1, 0, none⟩) 1 1, .slice (some ⟨wr.heap.size + 1 + 1 + 1, 0, none⟩) 1 1, .slice (some ⟨wr.heap.size + 1 + 1 + 1 + 1, 0, none⟩) 1 1, .slice (some ⟨wr.heap.size + 1 + 1 + 1 + 1 + 1, 0, none⟩) 2 2, .slice (some ⟨wr.heap.size + 1 + 1 + 1 + 1 + 1 + 1, 0, none⟩) 2 2, .slice (some ⟨wr.heap.size + 1 + 1 + 1 + 1 + 1 + 1 + 1, 0, none⟩) 1 1] 23 8 _ rfl
          rw [s8] at e0
          rw [s8] at e1
          rw [s8] at e2
          rw [s8] at e3
          rw [s8] at e4
          rw [s8] at e5
          rw [s8] at e6
          rw [s8] at e7
          rw [s8] at e8
          replace hbC := Below.allocS hbC (.cells #[.slice none 0 0, .slice (some ⟨wr.heap.size, 0, none⟩) 1 1, .slice (some ⟨wr.heap.size + 1, 0, none⟩) 1 1, .slice (some ⟨wr.heap.size + 1 + 1, 0, none⟩) 1 1, .slice (some ⟨wr.heap.size + 1 + 1 + 1, 0, none⟩) 1 1, .slice (some ⟨wr.heap.size + 1 + 1 + 1 + 1, 0, none⟩) 1 1, .slice (some ⟨wr.heap.size + 1 + 1 + 1 + 1 + 1, 0, none⟩) 2 2, .slice (some ⟨wr.heap.size + 1 + 1 + 1 + 1 + 1 + 1, 0, none⟩) 2 2, .slice (some ⟨wr.heap.size + 1 + 1 + 1 + 1 + 1 + 1 + 1, 0, none⟩) 1 1] 23)
          generalize (v8.alloc (.cells #[.slice none 0 0, .slice (some ⟨wr.heap.size, 0, none⟩) 1 1, .slice (some ⟨wr.heap.size + 1, 0, none⟩) 1 1, .slice (some ⟨wr.heap.size + 1 + 1, 0, none⟩) 1 1, .slice (some ⟨wr.heap.size + 1 + 1 + 1, 0, none⟩) 1 1, .slice (some ⟨wr.heap.size + 1 + 1 + 1 + 1, 0, none⟩) 1 1, .slice (some ⟨wr.heap.size + 1 + 1 + 1 + 1 + 1, 0, none⟩) 2 2, .slice (some ⟨wr.heap.size + 1 + 1 + 1 + 1 + 1 + 1, 0, none⟩) 2 2, .slice (some ⟨wr.heap.size + 1 + 1 + 1 + 1 + 1 + 1 + 1, 0, none⟩) 1 1] 23)) = v9 at *
          have key : ∀ j, j < 9 → ∃ (a : Option Addr) (n : Nat) (l : List (Int × Int)), v9.cell? ⟨wr.heap.size + 1 + 1 + 1 + 1 + 1 + 1 + 1 + 1, j, none⟩ = some (.slice a n n) ∧ l.length = n ∧ n ≤ 2 ∧ (a = none → n = 0) ∧ (0 < n → ∃ b off, a = some ⟨b, off, none⟩ ∧ PairsAt v9 b off l) := by
            intro j hj
            match j, hj with
            | 0, _ => exact ⟨none, 0, [], e0, rfl, by omega, fun _ => rfl, fun h => absurd h (by omega)⟩
            | 1, _ => exact ⟨_, 1, _, e1, rfl, by omega, (fun e => by cases e), fun _ => ⟨_, 0, rfl, c0⟩⟩
            | 2, _ => exact ⟨_, 1, _, e2, rfl, by omega, (fun e => by cases e), fun _ => ⟨_, 0, rfl, c1⟩⟩
            | 3, _ => exact ⟨_, 1, _, e3, rfl, by omega, (fun e => by cases e), fun _ => ⟨_, 0, rfl, c2⟩⟩
            | 4, _ => exact ⟨_, 1, _, e4, rfl, by omega, (fun e => by cases e), fun _ => ⟨_, 0, rfl, c3⟩⟩
            | 5, _ => exact ⟨_, 1, _, e5, rfl, by omega, (fun e => by cases e), fun _ => ⟨_, 0, rfl, c4⟩⟩
            | 6, _ => exact ⟨_, 2, _, e6, rfl, by omega, (fun e => by cases e), fun _ => ⟨_, 0, rfl, c5⟩⟩
            | 7, _ => exact ⟨_, 2, _, e7, rfl, by omega, (fun e => by cases e), fun _ => ⟨_, 0, rfl, c6⟩⟩
            | 8, _ => exact ⟨_, 1, _, e8, rfl, by omega, (fun e => by cases e), fun _ => ⟨_, 0, rfl, c7⟩⟩
            | j + 9, hj => omega
          have hbv : Below w.heap.size w v9 := Below.step hb4 hbC
          clear c0 c1 c2 c3 c4 c5 c6 c7 e0 e1 e2 e3 e4 e5 e6 e7 e8 s1 s2 s3 s4 s5 s6 s7 s8 hbC hb4
          have KEY := Lib.hid key
          clear key
          generalize wr.heap.size + 1 + 1 + 1 + 1 + 1 + 1 + 1 + 1 = T at *
          go_loopw [144] (fun i wr => ∃ j : Nat, j ≤ 9 ∧ i = .int .i64 j ∧ Below v9.heap.size v9 wr) (fun i _ => 9 - (intOf i).toNat)
          case atStart => exact ⟨0, Nat.zero_le _, rfl, Below.refl _ _⟩
          case round =>
            obtain ⟨j, hj, rfl, hbs⟩ := hrel
            by_cases hlt6 : j < 9
            · obtain ⟨a, n, l, q0, hl, hn2, hz, hp⟩ := KEY.out j hlt6
              replace q0 := cell_later hbs q0
              have hj0 : (0 : Int) ≤ (j : Int) := by omega
              have hjn : (j : Int) < 9 := by omega
              have A1 := Lib.hid (tells_all a n n l none 0 0 [] 1 wr hl (by omega) (by omega) (fun e => ⟨hz e, hz e⟩) (fun h => by
                obtain ⟨b, off, e, hpp⟩ := hp h
                exact ⟨b, off, e, hpp.later hbs⟩) ⟨rfl, fun h => absurd h (by omega), (fun x hx => by cases hx), by omega⟩ (by decide))
              clear hl hz hp
              go_wp2_with fail
              refine A1.out.mono ?_
              rintro e w7 ⟨rfl, hb7⟩
              have hb8 := Below.step hbs hb7
              go_wp2_with fail
              go_roundw
              case rel => exact ⟨j + 1, by omega, by go_num, hb8⟩
              case measure => simp [intOf]; omega
            · have hj9 : ¬ (j : Int) < 9 := by omega
              have hb4 := Below.step hbv hbs
              clear KEY hbv hbs
              go_wp2_with fail
              obtain ⟨wz, hwz⟩ : ∃ wz : World, wz = wr := ⟨_, rfl⟩
              rw [← hwz]
              rw [← hwz] at hb4
              clear hwz
              go_loopw [15, 152] (fun v i wr => ∃ k : Nat, k ≤ 1025 ∧ i = .int .i64 k ∧ wr.ownsRow wz.heap.size 28 2 v k (flatP (manyV k)) ∧ Below wz.heap.size wz wr) (fun _ i _ => 1025 - (intOf i).toNat)
              case atStart => exact ⟨0, Nat.zero_le _, rfl, World.ownsRow_nil _ _ _ _, Below.refl _ _⟩
              case round =>
                obtain ⟨k, hk, rfl, hown, hbs⟩ := hrel
                have hbz := hbs.size
                by_cases hlt7 : k < 1025
                · have hm0 : (0 : Int) ≤ (k : Int) := by omega
                  have hmn : (k : Int) < 1025 := by omega
                  have HO := Lib.hid hown
                  have HMS := Lib.hid (manyV_succ k)
                  clear hown
                  go_wp2_with (at_builtin; refine wpList_append_own _ rfl (.tmp 155) (.tmp 159) 23 rfl wz.heap.size 28 j0 (.agg #[.int .i64 0, .int .i64 0]) 2 16 Try.underlying23 ji jz0 jz1 jz2 rfl (by decide) _ _ _ rfl (HO.out.alloc _) ⟨wr.heap.size, 0, none⟩ 1 1 [.int .i64 ((k : Int) + 1), .int .i64 65536] rfl rfl ?d1 ?d2 ?d3 ?d4 ?d5 ?_)
                  case d1 =>
                    intro i u hi
                    match i, hi with
                    | 0, hi => simp at hi; subst hi; go_simp
                    | 1, hi => simp at hi; subst hi; go_simp
                    | i + 2, hi => simp at hi
                  case d2 => intro u hu; simp at hu; rcases hu with rfl | rfl <;> rfl
                  case d3 => unfold maxLen; omega
                  case d4 => omega
                  case d5 => simp; omega
                  intro v' w5 hown5 hgrow5 _
                  have hb5 : Below wz.heap.size wz w5 := (Below.allocS hbs _).grown hgrow5 (by simp; omega) (fun i hi => (HO.out.lt i hi).1)
                  obtain ⟨g5, c5, rfl⟩ := own_some hown5
                  have HO5 := Lib.hid hown5
                  clear hown5 hgrow5
                  go_wp2_with fail
                  go_roundw
                  case rel => exact ⟨k + 1, by omega, by go_num, by rw [HMS.out, flatP_append]; exact HO5.out, hb5⟩
                  case measure => simp [intOf]; omega
                · have hke : k = 1025 := by omega
                  have hkn : ¬ (k : Int) < 1025 := by omega
                  rw [hke] at hown
                  obtain ⟨gm, cm, rfl⟩ := own_some hown
                  have hcm : 1025 ≤ cm := by
                    rcases hown.2 with ⟨h, _⟩ | ⟨_, _, _, h, _, _, hc, _⟩
                    · cases h
                    · simp only [Value.slice.injEq] at h; obtain ⟨_, _, rfl⟩ := h; exact hc
                  have hcx : cm ≤ 9223372036854775807 := by
                    rcases hown.2 with ⟨h, _⟩ | ⟨_, _, _, h, _, _, _, hc, _⟩
                    · cases h
                    · simp only [Value.slice.injEq] at h; obtain ⟨_, _, rfl⟩ := h; unfold maxLen at hc; omega
                  have hp1 : PairsIn wr (.slice (some ⟨gm, 0, none⟩) 1025 cm) (manyV 1025) := by
                    have := own_pairs (l := manyV 1025) (by rw [manyV_len]; exact hown)
                    rwa [manyV_len] at this
                  have hp0 : PairsIn wr (.slice (some ⟨gm, 0, none⟩) 1024 cm) (manyV 1024) := by
                    obtain ⟨a, c, e, h⟩ := hp1
                    rw [manyV_len] at e
                    cases e
                    refine ⟨_, cm, by rw [manyV_len], Or.inr ?_⟩
                    rcases h with h | ⟨b, off, e, h⟩
                    · have := manyV_len 1025; rw [h] at this; simp at this
                    · refine ⟨b, off, e, fun i x hx => h i x ?_⟩
                      rw [← manyV_take (k := 1025) (j := 1024) (by omega), List.getElem?_take] at hx
                      split at hx
                      · exact hx
                      · cases hx
                  have HP0 := Lib.hid hp0
                  have HP1 := Lib.hid hp1
                  have hbw := Below.step hb4 hbs
                  clear hown hp0 hp1 hke hb4 hbs hbz
                  go_wp2_with fail
                  refine (New_any _ (manyV 1024) wr HP0.out (by rw [manyV_len]; omega)).mono ?_
                  rintro e w5 ⟨hb5, ⟨hne, _⟩ | ⟨_, p, g, bm, capm, rfl, hM, hpp, hgg, _⟩⟩
                  · exact absurd ((manyV_new (k := 1024) (by omega) (by omega)).trans (if_neg (by omega))) hne
                  have HPG := Lib.hid (show ∀ k ∈ [p, g], w.heap.size ≤ k from fun k hk => by
                    have := hbw.size
                    simp only [List.mem_cons, List.not_mem_nil, or_false] at hk; omega)
                  have HM5 := Lib.hid hM
                  have HP15 := Lib.hid (HP1.out.later hb5)
                  have hbw5 := Below.step hbw hb5
                  clear hM hb5 hbw
                  go_wp2_with fail
                  refine (New_any _ (manyV 1025) w5 HP15.out (by rw [manyV_len]; omega)).mono ?_
                  rintro e w6 ⟨hb6, ⟨hne, rfl⟩ | ⟨hz, _⟩⟩
                  rotate_left
                  · rw [manyV_new (k := 1025) (by omega) (by omega), if_pos (by omega)] at hz
                    exact absurd hz (by decide)
                  rw [manyV_new (k := 1025) (by omega) (by omega), if_pos (by omega)]
                  have HM6 := Lib.hid (HM5.out.below hb6)
                  have hbw6 := Below.step hbw5 hb6
                  clear hne hb6 hbw5
                  go_wp2_with fail
                  refine (Run_any p g bm capm (ran0 (manyV 1024)) (manyV 1024).length 1 68719476736 w6 HM6.out (by decide) (by decide)).mono ?_
                  rintro e w7 ⟨he, hM7, hk7⟩
                  rw [many_run] at he
                  subst he
                  rw [show runL (ran0 (manyV 1024)) 1 68719476736 = manyL from if_pos many_run] at hM7
                  have HM7 := Lib.hid hM7
                  have hbw7 := Kept.stepB hbw6 (Nat.le_refl _) hk7 HPG.out
                  have hnn : (manyV 1024).length ≤ 1024 := by rw [manyV_len]; exact Nat.le_refl _
                  clear hM7 hk7 hbw6 hpp hgg
                  generalize (manyV 1024).length = nn at *
                  go_wp2_with fail
                  refine (Lag_fn p g bm capm manyL nn 1 w7 HM7.out (by decide)).mono ?_
                  rintro e w8 ⟨rfl, hb8⟩
                  rw [many_lag]
                  have HM8 := Lib.hid (HM7.out.below hb8)
                  have hbw8 := Below.step hbw7 hb8
                  clear hb8 hbw7
                  go_wp2_with fail
                  refine (Next_any p g bm capm manyL nn w8 HM8.out).mono ?_
                  rintro e w9 ⟨hb9, x9, hx9, rfl⟩
                  rw [many_next hx9]
                  have hbw9 := Below.step hbw8 hb9
                  clear hb9 hbw8 hx9
                  go_wp2_with fail
                  have hz0 := cell_nw w9 #[.slice none 0 0, .map none, .int .i64 0, .int .i64 0] 55 0 _ rfl
                  have hbz := Below.allocS hbw9 (.cells #[.slice none 0 0, .map none, .int .i64 0, .int .i64 0] 55)
                  have hsz : (w9.alloc (.cells #[.slice none 0 0, .map none, .int .i64 0, .int .i64 0] 55)).heap.size = w9.heap.size + 1 := by simp
                  generalize w9.alloc (.cells #[.slice none 0 0, .map none, .int .i64 0, .int .i64 0] 55) = w10 at *
                  have m0 := cell_nw w10 #[.pointer none, .pointer (some ⟨w9.heap.size, 0, none⟩)] 25 0 _ rfl
                  have m1 := cell_nw w10 #[.pointer none, .pointer (some ⟨w9.heap.size, 0, none⟩)] 25 1 _ rfl
                  rw [hsz] at m0 m1
                  replace hz0 := cell_al (.cells #[.pointer none, .pointer (some ⟨w9.heap.size, 0, none⟩)] 25) hz0
                  replace hbz := Below.allocS hbz (.cells #[.pointer none, .pointer (some ⟨w9.heap.size, 0, none⟩)] 25)
                  generalize w10.alloc (.cells #[.pointer none, .pointer (some ⟨w9.heap.size, 0, none⟩)] 25) = w11 at *
                  have KEY := Lib.hid (show ∀ j, j < 2 → ∃ v, w11.cell? ⟨w9.heap.size + 1, j, none⟩ = some v ∧ NoMeter w11 v ∧ ∃ a, v = .pointer a from fun j hj => by
                    match j, hj with
                    | 0, _ => exact ⟨_, m0, Or.inl rfl, _, rfl⟩
                    | 1, _ => exact ⟨_, m1, Or.inr ⟨_, rfl, hz0⟩, _, rfl⟩
                    | j + 2, hj => omega)
                  clear m0 m1 hz0 hsz hbw9
                  generalize w9.heap.size + 1 = M at *
                  go_loopw [204] (fun i wr => ∃ j : Nat, j ≤ 2 ∧ i = .int .i64 j ∧ Below w11.heap.size w11 wr) (fun i _ => 2 - (intOf i).toNat)
                  case atStart => exact ⟨0, Nat.zero_le _, rfl, Below.refl _ _⟩
                  case round =>
                    obtain ⟨j, hj, rfl, hbs⟩ := hrel
                    by_cases hlt8 : j < 2
                    · obtain ⟨v, q0, hno, a, rfl⟩ := KEY.out j hlt8
                      replace q0 := cell_later hbs q0
                      have HNO := Lib.hid (hno.later hbs)
                      have hj0 : (0 : Int) ≤ (j : Int) := by omega
                      have hjn : (j : Int) < 2 := by omega
                      clear hno
                      go_wp2_with fail
                      refine (Ran_no _ wr HNO.out).mono ?_
                      rintro e w12 ⟨rfl, rfl⟩
                      go_wp2_with fail
                      refine (Lag_no _ wr HNO.out).mono ?_
                      rintro e w12 ⟨rfl, rfl⟩
                      go_wp2_with fail
                      refine (Until_no _ wr HNO.out).mono ?_
                      rintro e w12 ⟨rfl, rfl⟩
                      go_wp2_with fail
                      refine (Spread_no _ wr HNO.out).mono ?_
                      rintro e w12 ⟨rfl, rfl⟩
                      go_wp2_with fail
                      refine (Run_no _ wr HNO.out).mono ?_
                      rintro e w12 ⟨rfl, rfl⟩
                      go_wp2_with fail
                      refine (Total_no _ wr HNO.out).mono ?_
                      rintro e w12 ⟨rfl, rfl⟩
                      go_wp2_with fail
                      refine (Weight_no _ wr HNO.out).mono ?_
                      rintro e w12 ⟨rfl, rfl⟩
                      go_wp2_with fail
                      refine (Order_no _ wr HNO.out).mono ?_
                      rintro e w12 ⟨rfl, hb12⟩
                      have HNO2 := Lib.hid (HNO.out.later hb12)
                      have hbs2 := Below.step hbs hb12
                      go_wp2_with fail
                      refine (Next_no _ w12 HNO2.out).mono ?_
                      rintro e w13 ⟨rfl, rfl⟩
                      go_wp2_with fail
                      go_roundw
                      case rel => exact ⟨j + 1, by omega, by go_num, hbs2⟩
                      case measure => simp [intOf]; omega
                    · have hjn : ¬ (j : Int) < 2 := by omega
                      have hbe := Below.step hbz hbs
                      go_wp2_with fail
                      refine (awake_true wr).mono ?_
                      rintro e w14 ⟨rfl, hb14⟩
                      go_wp2_with fail
                      go_ret
                      exact ⟨rfl, Below.step hbe hb14⟩
end Go.Proofs.Ytgieaojkbfjoiaa
