/-
  Layer 18 (heap): New as its user sees it; filled.
-/
import Derived.Test.YtpbaegdmjmickaaHeapU
import Derived.Test.YtpbaegdmjmickaaKitR
namespace Go.Proofs.Ytpbaegdmjmickaa
open Go.RowKit Go.Maps Go.IntWalk Go.Lib Go.Sort
set_option linter.unusedVariables false
theorem New_in (n : Int) (w : World) (h0 : 1 ≤ n) (h1 : n ≤ 131072) : Calls Try.prog 23 #[.int .i64 n] w fun e w' => e = .returned (.tuple #[.pointer (some ⟨w.heap.size + 1, 0, none⟩), .int .i64 0]) ∧ HeapIn w' (w.heap.size + 1) [w.heap.size + 1, w.heap.size] n [] ∧ Below w.heap.size w w' := by
  refine (New_raw n w h0 h1).mono ?_
  rintro e w' ⟨rfl, hr, hb⟩
  refine ⟨rfl, ⟨none, 0, w.heap.size, [], fun _ => none, ⟨hr, fun i _ h => by simp at h, fun i j h => by simp at h, fun id q => ?_⟩, rfl, List.Perm.refl _, List.Pairwise.nil⟩, hb⟩
  constructor
  · intro h; cases h
  · rintro ⟨j, h, _⟩; simp at h
/-- the keys of filled -/
def keyF (xs : List Int) (i : Nat) : Int := if i % 7 = 6 then 18446744073709551615 else xs[i]!
def fillK (xs : List Int) : Nat → Items
  | 0 => []
  | k + 1 => putL (fillK xs k) ((k : Int), keyF xs k)
def fillN (n : Nat) : Nat := min n 40
theorem fillK_ids (xs : List Int) : ∀ k, ((fillK xs k).map Prod.fst).Perm ((List.range k).map fun (i : Nat) => (i : Int)) := by
  intro k
  induction k with
  | zero => exact List.Perm.refl _
  | succ k ih =>
    rw [List.range_succ, List.map_append]
    refine ((putL_perm _ _).map _).trans ?_
    rw [List.map_cons]
    exact (ih.cons _).trans (List.perm_append_singleton _ _).symm
theorem fillK_len (xs : List Int) (k : Nat) : (fillK xs k).length = k := by
  have := (fillK_ids xs k).length_eq
  simpa using this
theorem fillK_new (xs : List Int) (k : Nat) : keyL (fillK xs k) k = none := by
  rw [keyL_none]
  intro y hy e
  have := (fillK_ids xs k).mem_iff.1 (List.mem_map.2 ⟨y, hy, rfl⟩)
  obtain ⟨i, hi, q⟩ := List.mem_map.1 this
  have := List.mem_range.1 hi
  omega
/-- what filled leaves -/
def FilledP (w : World) (n : Nat) (xs : List Int) (e : Ending) (w' : World) : Prop :=
  ∃ p F, e = .returned (.tuple #[.pointer (some ⟨p, 0, none⟩), .int .i64 (fillN n : Nat), .bool true]) ∧ HeapIn w' p F 40 (fillK xs (fillN n)) ∧ (∀ b ∈ F, w.heap.size ≤ b) ∧ w.heap.size ≤ p ∧ Below w.heap.size w w'
def FillI (w : World) (xs : List Int) (k : Nat) (wr : World) : Prop := ∃ F, HeapIn wr (w.heap.size + 1) F 40 (fillK xs k) ∧ (∀ b ∈ F, w.heap.size ≤ b) ∧ Below w.heap.size w wr
set_option maxRecDepth 100000 in
set_option maxHeartbeats 2000000 in
theorem filled_any (a : Option Addr) (n cap : Nat) (xs : List Int) (w : World) (h : NumsIn .u64 w a n cap xs) :
    Calls Try.prog 10 #[.slice a n cap] w (FilledP w n xs) := by
  have A1 := Lib.hid (New_in 40 w (by decide) (by decide))
  have A2 := Lib.hid fun p F S id key W h hid hk => Put_at (p := p) (F := F) (n := 40) (S := S) id key W h hid hk
  have hle := h.le
  have hmax := h.max
  obtain ⟨m, hm⟩ : ∃ m, m = fillN n := ⟨_, rfl⟩
  have e0 : min (n : Int) 40 = (m : Int) := by rw [hm]; unfold fillN; omega
  have hmn : m ≤ n := by rw [hm]; unfold fillN; omega
  have hm40 : m ≤ 40 := by rw [hm]; unfold fillN; omega
  have h1 : (m : Int) ≤ (cap : Int) := by omega
  have h2 : m ≤ cap := by omega
  have H := Lib.hid h
  have HM := Lib.hid hm
  clear h hm
  go_enter Try.func10, Try.ntmps10
  go_wp2_with fail
  refine A1.out.mono ?_
  rintro e w5 ⟨rfl, hI, hb⟩
  have HI := Lib.hid hI
  have HB := Lib.hid hb
  clear hI hb
  go_wp2_with fail
  go_loopw [27] (fun i wr => ∃ k : Nat, k ≤ m ∧ i = .int .i64 k ∧ FillI w xs k wr) (fun i _ => m - (intOf i).toNat)
  case atStart => exact ⟨0, Nat.zero_le _, rfl, _, HI.out, (by simp), HB.out⟩
  case round =>
    obtain ⟨k, hk, rfl, hI⟩ := hrel
    by_cases hlt : k < m
    · obtain ⟨F, hH, hF, hbw⟩ := hI
      obtain ⟨b, off, rfl, hc⟩ := H.out.row (by omega)
      have q0 := cell_later hbw (hc k (by omega))
      have hwf := wf_u64 (H.out.fit k (by omega))
      obtain ⟨y, hy⟩ : ∃ y, y = xs[k]! := ⟨_, rfl⟩
      rw [← hy] at q0 hwf
      have hk0 : (0 : Int) ≤ (k : Int) := by omega
      have hkm : (k : Int) < (m : Int) := by omega
      have hk40 : (k : Int) ≤ 40 := by omega
      have HH := Lib.hid hH
      have HF := Lib.hid hF
      have HBW := Lib.hid hbw
      have HY := Lib.hid hy
      have hp : putRes 40 (fillK xs k) k = 0 := by
        unfold putRes
        rw [hasV_iff.2 (by omega), fillK_new]; rfl
      have hs : ∀ key, putS 40 (fillK xs k) k key = putL (fillK xs k) ((k : Int), key) := fun key => by unfold putS; rw [if_pos hp]
      have hwk : (Lit.int .i64 (k : Int)).wf = true := WalkArith.wf_i64 (n := (k : Int)) (by omega)
      by_cases h7 : k % 7 = 6
      · have z7 : ((k : Int) % 7 == 6) = true := by simp; omega
        have A3 := (A2.out _ F _ (k : Int) 18446744073709551615 wr hH hwk (by omega))
        rw [hp, hs] at A3
        have HA3 := Lib.hid A3
        have HK7 := Lib.hid (show keyF xs k = 18446744073709551615 by unfold keyF; rw [if_pos h7])
        clear hH hF hbw hc hy hp hs A3 hwk h7
        go_wp2_with fail
        refine HA3.out.mono ?_
        rintro e w7 ⟨rfl, hA⟩
        have hA2 := hA.below HF.out HBW.out.size
        have HA := Lib.hid hA2
        clear hA hA2
        go_wp2_with fail
        go_roundw
        case rel =>
          obtain ⟨hb, F', hH', hF'⟩ := HA.out
          exact ⟨k + 1, by omega, by go_num, F', by rw [fillK, HK7.out]; exact hH', hF', HBW.out.trans hb⟩
        case measure => simp [intOf]; omega
      · have z7 : ((k : Int) % 7 == 6) = false := by simp; omega
        have A3 := (A2.out _ F _ (k : Int) y wr hH hwk hwf)
        rw [hp, hs] at A3
        have HA3 := Lib.hid A3
        have HK7 := Lib.hid (show keyF xs k = y by unfold keyF; rw [if_neg h7, hy])
        clear hH hF hbw hc hy hp hs A3 hwk h7
        go_wp2_with fail
        refine HA3.out.mono ?_
        rintro e w7 ⟨rfl, hA⟩
        have hA2 := hA.below HF.out HBW.out.size
        have HA := Lib.hid hA2
        clear hA hA2
        go_wp2_with fail
        go_roundw
        case rel =>
          obtain ⟨hb, F', hH', hF'⟩ := HA.out
          exact ⟨k + 1, by omega, by go_num, F', by rw [fillK, HK7.out]; exact hH', hF', HBW.out.trans hb⟩
        case measure => simp [intOf]; omega
    · obtain rfl : k = m := by omega
      have HI2 := Lib.hid hI
      clear hI
      go_wp2_with fail
      go_ret3
      obtain ⟨F, hH, hF, hbw⟩ := HI2.out
      rw [HM.out] at hH ⊢
      exact ⟨_, F, rfl, hH, hF, by omega, hbw⟩
end Go.Proofs.Ytpbaegdmjmickaa
