/-
  HeapWrong: what there is not is rejected, and nothing changes.
-/
import Derived.Test.YtpbaegdmjmickaaHeapD
namespace Go.Proofs.Ytpbaegdmjmickaa
open Go.RowKit Go.Maps Go.IntWalk Go.Lib
set_option linter.unusedVariables false
set_option linter.unusedSimpArgs false
def wrongM (a : Int) (j : Nat) : Int := if j = 0 then min a (-1) else max a 40
theorem wrongM_bad (a : Int) (j : Nat) : hasV 40 (wrongM a j) = false := by
  unfold hasV wrongM
  split <;> exact decide_eq_false (by omega)
set_option maxRecDepth 100000 in
set_option maxHeartbeats 4000000 in
theorem HeapWrong_true (s0 : Option Addr) (l0 c0 : Nat) (F0 : Nat → Nat → Value) (a1 a2 : Int) (w : World) (r0 : PlainRow [some .u64] w s0 l0 c0 F0) (g1 : (Lit.int .i64 a1).wf = true) (g2 : (Lit.int .u64 a2).wf = true) :
    Calls Try.prog 4 #[.slice s0 l0 c0, .int .i64 a1, .int .u64 a2] w fun e w' => e = .returned (.bool true) ∧ Below w.heap.size w w' := by
  obtain ⟨xs, hx⟩ := nums_of r0
  have A1 := Lib.hid (filled_any s0 l0 c0 xs w hx)
  obtain ⟨m, hm⟩ : ∃ m, m = fillN l0 := ⟨_, rfl⟩
  have hm40 : m ≤ 40 := by rw [hm]; unfold fillN; omega
  have AW := Lib.hid fun W => awake_any W
  have b2 := wf_u64 g2
  have b1 := wf_i64 g1
  obtain ⟨S, hS⟩ : ∃ S, S = fillK xs m := ⟨_, rfl⟩
  have HL := Lib.hid (show S.length = m by rw [hS]; exact fillK_len xs m)
  have HK := Lib.hid (show ∀ k : Nat, (keyL S (k : Int)).isSome = decide (k < m) by rw [hS]; exact fillK_some xs m)
  have HMM := Lib.hid hm
  have HSS := Lib.hid hS
  have HW := Lib.hid (show ∀ j, (Lit.int .i64 (wrongM a1 j)).wf = true by
    intro j
    unfold wrongM
    simp only [Lit.wf, IntKind.min, IntKind.max, IntKind.bits, IntKind.signed]
    simp
    split <;> omega)
  have HB2 := Lib.hid b2
  clear hx r0 hS g1 g2 hm b2
  go_enter Try.func4, Try.ntmps4
  go_wp2_with fail
  refine A1.out.mono ?_
  rintro e w1 ⟨p, F, rfl, h1, hF, hp, hb1⟩
  rw [← HMM.out, ← HSS.out] at h1
  rw [← HMM.out]
  have I1 := Lib.hid (show WI w p 40 S w1 F from ⟨h1, hF, hb1⟩)
  clear h1 hb1 hF hp
  go_wp2_with fail
  refine (All_at _ I1.out.inn).mono ?_
  rintro e w2 ⟨v2, rfl, hr2, hb2⟩
  have I2 := Lib.hid (I1.out.below hb2)
  have V2 := Lib.hid (show Held F w2 v2 S from hr2.held I1.out.inn.lt)
  clear hr2 hb2
  go_wp2_with fail
  obtain ⟨bl, hbl⟩ : ∃ bl, bl = w2.heap.size := ⟨_, rfl⟩
  rw [← hbl]
  have HBL := Lib.hid hbl
  clear hbl
  go_loopw [38] (fun i wr => ∃ (k : Nat) (F : List Nat), k ≤ 2 ∧ i = .int .i64 k ∧ WI w p 40 S wr F ∧ Held F wr v2 S ∧ bl ∉ F ∧ ∀ j, j < 2 → wr.cell? ⟨bl, j, none⟩ = some (.int .i64 (wrongM a1 j))) (fun i _ => 2 - (intOf i).toNat)
  case atStart =>
    refine ⟨0, F, Nat.zero_le _, rfl, I2.out.below (below_a _ _), V2.out.step (Step.of (below_a _ _)), fun q => ?_, fun j hj => ?_⟩
    · have := I2.out.inn.lt _ q
      rw [HBL.out] at this
      omega
    · rw [HBL.out]
      have : j = 0 ∨ j = 1 := by omega
      rcases this with rfl | rfl
      · exact cell_nw _ _ _ 0 _ rfl
      · exact cell_nw _ _ _ 1 _ rfl
  case round =>
    obtain ⟨k, F, hk, rfl, hI, hV, hnb, hc⟩ := hrel
    have IR := Lib.hid hI
    have VR := Lib.hid hV
    have NR := Lib.hid hnb
    have CR := Lib.hid hc
    clear hI hV hnb hc
    by_cases hlt : k < 2
    · have c0 := CR.out k hlt
      have hk0 : (0 : Int) ≤ (k : Int) := by omega
      have hk2 : (k : Int) < 2 := by omega
      obtain ⟨q1, q2, q3, q4, q5, q6, q7, q8⟩ := bad_out (S := S) (wrongM_bad a1 k)
      have HQ1 := Lib.hid q1
      have HQ2 := Lib.hid q2
      have HQ3 := Lib.hid q3
      have HQ4 := Lib.hid q4
      have HQ5 := Lib.hid (q5 a2)
      have HQ6 := Lib.hid q6
      have HQ7 := Lib.hid (q7 a2)
      have HQ8 := Lib.hid q8
      have HWk := Lib.hid (HW.out k)
      generalize wrongM a1 k = id at *
      clear q1 q2 q3 q4 q5 q6 q7 q8
      go_wp2_with fail
      refine (Out_at id wr IR.out.inn HWk.out).mono ?_
      rintro e w5 ⟨rfl, hA⟩
      rw [HQ3.out] at hA
      rw [HQ1.out, HQ2.out]
      obtain ⟨F5, h5, t5⟩ := IR.out.step hA
      have I5 := Lib.hid h5
      have T5 := Lib.hid t5
      clear hA h5 t5
      go_wp2_with fail
      refine (Key_at id w5 I5.out.inn HWk.out).mono ?_
      rintro e w6 ⟨rfl, rfl⟩
      rw [HQ8.out]
      go_wp2_with fail
      refine (Put_at id a2 w5 I5.out.inn HWk.out HB2.out).mono ?_
      rintro e w6 ⟨rfl, hA⟩
      rw [HQ7.out] at hA
      rw [HQ6.out]
      obtain ⟨F6, h6, t6⟩ := I5.out.step hA
      have I6 := Lib.hid h6
      have T6 := Lib.hid (T5.out.trans t6)
      clear hA h6 t6
      go_wp2_with fail
      refine (Set_at id a2 w6 I6.out.inn HWk.out HB2.out).mono ?_
      rintro e w7 ⟨rfl, hA⟩
      rw [HQ5.out] at hA
      rw [HQ4.out]
      obtain ⟨F7, h7, t7⟩ := I6.out.step hA
      have I7 := Lib.hid h7
      have T7 := Lib.hid (T6.out.trans t7)
      clear hA h7 t7
      go_wp2_with fail
      go_roundw
      case rel =>
        exact ⟨k + 1, F7, by omega, by go_num, I7.out, VR.out.step T7.out, T7.out.off NR.out (lt_of_cell (CR.out 0 (by omega))), fun j hj => T7.out.cell NR.out (CR.out j hj)⟩
      case measure => simp [intOf]; omega
    · obtain ⟨wo, rfl⟩ : ∃ wo : World, wo = wr := ⟨_, rfl⟩
      have zz : decide ((k : Int) < 2) = false := decide_eq_false (by omega)
      clear hk hlt
      go_wp2_with fail
      go_loopw [78] (fun i wr => ∃ (k : Nat) (F : List Nat), k ≤ 40 ∧ i = .int .i64 k ∧ WI w p 40 S wr F ∧ Held F wr v2 S) (fun i _ => 40 - (intOf i).toNat)
      case atStart => exact ⟨0, F, Nat.zero_le _, rfl, IR.out, VR.out⟩
      case round =>
        obtain ⟨k, F, hk, rfl, hI, hV⟩ := hrel
        have IS := Lib.hid hI
        have VS := Lib.hid hV
        clear hI hV
        by_cases hlt : k < 40
        · have hk0 : (0 : Int) ≤ (k : Int) := by omega
          have hk40 : (k : Int) < 40 := by omega
          have HWk := Lib.hid (show (Lit.int .i64 (k : Int)).wf = true by simp only [Lit.wf, IntKind.min, IntKind.max, IntKind.bits, IntKind.signed]; simp; omega)
          have hh : hasV 40 (k : Int) = true := has_true hk0 hk40
          have hs := HK.out k
          by_cases hkm : k < m
          · rw [decide_eq_true hkm] at hs
            obtain ⟨key, hkey⟩ := Option.isSome_iff_exists.1 hs
            obtain ⟨q1, q2, q3, q4, q5, q6, q7, q8⟩ := there_out hh hkey
            have HQ6 := Lib.hid q6
            have HQ7 := Lib.hid (q7 a2)
            have HQ8 := Lib.hid q8
            have z1 : (k : Int) < (m : Int) := by omega
            clear q1 q2 q3 q4 q5 q6 q7 q8 hs hh hkey
            go_wp2_with fail
            refine (Key_at (k : Int) wr IS.out.inn HWk.out).mono ?_
            rintro e w6 ⟨rfl, rfl⟩
            rw [HQ8.out]
            go_wp2_with fail
            refine (Put_at (k : Int) a2 wr IS.out.inn HWk.out HB2.out).mono ?_
            rintro e w6 ⟨rfl, hA⟩
            rw [HQ7.out] at hA
            rw [HQ6.out]
            obtain ⟨F6, h6, t6⟩ := IS.out.step hA
            have I6 := Lib.hid h6
            have T6 := Lib.hid t6
            clear hA h6 t6
            go_wp2_with fail
            go_roundw
            case rel => exact ⟨k + 1, F6, by omega, by go_num, I6.out, VS.out.step T6.out⟩
            case measure => simp [intOf]; omega
          · rw [decide_eq_false hkm] at hs
            have hkey : keyL S (k : Int) = none := by
              cases e : keyL S (k : Int) with
              | none => rfl
              | some q => rw [e] at hs; cases hs
            obtain ⟨q1, q2, q3, q4, q5, q6, q7, q8⟩ := none_out hh hkey
            have HQ4 := Lib.hid q4
            have HQ5 := Lib.hid (q5 a2)
            have HQ8 := Lib.hid q8
            have z1 : decide ((k : Int) < (m : Int)) = false := decide_eq_false (by omega)
            have z2 : decide (k < m) = false := decide_eq_false hkm
            have z3 : (k < m) = False := eq_false hkm
            clear q1 q2 q3 q4 q5 q6 q7 q8 hs hh hkey hkm
            go_wp2_with fail
            refine (Key_at (k : Int) wr IS.out.inn HWk.out).mono ?_
            rintro e w6 ⟨rfl, rfl⟩
            rw [HQ8.out]
            go_wp2_with fail
            refine (Set_at (k : Int) a2 wr IS.out.inn HWk.out HB2.out).mono ?_
            rintro e w6 ⟨rfl, hA⟩
            rw [HQ5.out] at hA
            rw [HQ4.out]
            obtain ⟨F6, h6, t6⟩ := IS.out.step hA
            have I6 := Lib.hid h6
            have T6 := Lib.hid t6
            clear hA h6 t6
            go_wp2_with fail
            go_roundw
            case rel => exact ⟨k + 1, F6, by omega, by go_num, I6.out, VS.out.step T6.out⟩
            case measure => simp [intOf]; omega
        · have zz : decide ((k : Int) < 40) = false := decide_eq_false (by omega)
          clear hk hlt
          obtain ⟨wo, rfl⟩ : ∃ wo : World, wo = wr := ⟨_, rfl⟩
          go_wp2_with fail
          refine (All_at _ IS.out.inn).mono ?_
          rintro e w7 ⟨v7, rfl, hr7, hb7⟩
          obtain ⟨a7, cc7, e7, _⟩ := hr7.items
          subst e7
          obtain ⟨a2', cc2, e2, _⟩ := VS.out.items
          subst e2
          have I7 := Lib.hid (IS.out.below hb7)
          have X7 := Lib.hid hr7.items
          have Y7 := Lib.hid ((VS.out.step (Step.of hb7)).items)
          clear hr7 hb7
          have hz : ((m : Int) != (m : Int)) = false := by simp
          rw [show S.length = m from HL.out]
          go_wp2_with fail
          go_loopw [123] (fun i wr => ∃ (k q : Nat), k ≤ m ∧ i = .int .i64 k ∧ wr = w7.drewN q) (fun i _ => m - (intOf i).toNat)
          case atStart => exact ⟨0, 0, Nat.zero_le _, rfl, rfl⟩
          case round =>
            obtain ⟨k, q, hk, rfl, rfl⟩ := hrel
            by_cases hlt : k < m
            · have hkS : k < S.length := by rw [HL.out]; exact hlt
              obtain ⟨_, b1, o1, rfl, i0, i1⟩ := X7.out.cells hkS
              obtain ⟨_, b2, o2, rfl, j0, j1⟩ := Y7.out.cells hkS
              generalize S[k]! = x at *
              have hk0 : (0 : Int) ≤ (k : Int) := by omega
              have hkm : (k : Int) < (m : Int) := by omega
              have z1 : (x.1 != x.1) = false := by simp
              have z2 : (x.2 != x.2) = false := by simp
              clear hkS
              go_wp2_with fail
              go_quiet (fail)
              go_wp2_with fail
              go_roundw
              case rel => exact ⟨k + 1, _, by omega, by go_num, rfl⟩
              case measure => simp [intOf]; omega
            · obtain rfl : k = m := by omega
              have l1 : decide ((k : Int) < (k : Int)) = false := by simp
              clear hk hlt
              go_wp2_with fail
              refine (AW.out _).mono ?_
              rintro e w9 ⟨rfl, hb9⟩
              have HB9 := Lib.hid (Below.step (below_drewN I7.out.bel q) hb9)
              clear hb9
              go_wp2_with fail
              go_ret
              exact ⟨rfl, HB9.out⟩
end Go.Proofs.Ytpbaegdmjmickaa
