/-
  Layer 24 (queue): filled.
-/
import Derived.Test.YtekjakmeopolhaaQueueH
import Derived.Test.YtekjakmeopolhaaKitR
namespace Go.Proofs.Ytekjakmeopolhaa
open Go.RowKit Go.Maps Go.IntWalk Go.Lib
set_option linter.unusedVariables false
set_option linter.unusedSimpArgs false
/-- a slice of small members that came in -/
structure SmallsIn (w : World) (a : Option Addr) (n cap : Nat) (xs : List Ent) : Prop where
  len : xs.length = n
  row : 0 < n → ∃ b off, a = some ⟨b, off, none⟩ ∧ ∀ i, i < n → w.cell? ⟨b, off + i * 3, none⟩ = some (.int .u16 xs[i]!.1) ∧ w.cell? ⟨b, off + i * 3 + 1, none⟩ = some (.int .u16 xs[i]!.2.1) ∧ w.cell? ⟨b, off + i * 3 + 2, none⟩ = some (.int .u16 xs[i]!.2.2)
  le : n ≤ cap
  max : cap ≤ 9223372036854775807
  none : a = none → cap = 0
  fit : ∀ i, i < n → (0 ≤ xs[i]!.1 ∧ xs[i]!.1 ≤ 65535) ∧ (0 ≤ xs[i]!.2.1 ∧ xs[i]!.2.1 ≤ 65535) ∧ 0 ≤ xs[i]!.2.2 ∧ xs[i]!.2.2 ≤ 65535
theorem SmallsIn.later {w w' : World} {a : Option Addr} {n cap : Nat} {xs : List Ent} (h : SmallsIn w a n cap xs) (hb : Below w.heap.size w w') : SmallsIn w' a n cap xs := by
  refine ⟨h.len, fun h0 => ?_, h.le, h.max, h.none, h.fit⟩
  obtain ⟨b, off, e, hc⟩ := h.row h0
  exact ⟨b, off, e, fun i hi => ⟨cell_later hb (hc i hi).1, cell_later hb (hc i hi).2.1, cell_later hb (hc i hi).2.2⟩⟩
theorem SmallsIn.take {w : World} {a : Option Addr} {n cap m : Nat} {xs : List Ent} (h : SmallsIn w a n cap xs) (hm : m ≤ n) : SmallsIn w a m cap (xs.take m) := by
  have e : ∀ i, i < m → (xs.take m)[i]! = xs[i]! := fun i hi => by
    rw [getElem!_pos _ i (by rw [List.length_take, h.len]; omega), getElem!_pos xs i (by rw [h.len]; omega), List.getElem_take]
  refine ⟨by rw [List.length_take, h.len]; omega, fun h0 => ?_, Nat.le_trans hm h.le, h.max, h.none, fun i hi => by rw [e i hi]; exact h.fit i (by omega)⟩
  obtain ⟨b, off, ea, hc⟩ := h.row (by omega)
  exact ⟨b, off, ea, fun i hi => by rw [e i hi]; exact hc i (by omega)⟩
/-- the member that filled makes -/
def madeE (x : Ent) : Ent := (x.1, Ch.madeR x.1 x.2.1 x.2.2, 1 + x.2.2 % 65536)
def fillM (xs : List Ent) : Nat → Mems
  | 0 => []
  | k + 1 => putM (fillM xs k) ((k : Int), madeE xs[k]!)
theorem fillM_mem (xs : List Ent) : ∀ k m, m ∈ fillM xs k ↔ ∃ j : Nat, j < k ∧ m = ((j : Int), madeE xs[j]!)
  | 0, m => by simp [fillM]
  | k + 1, m => by
    unfold fillM
    rw [put_mem, fillM_mem xs k]
    constructor
    · rintro (rfl | ⟨j, hj, rfl⟩)
      · exact ⟨k, by omega, rfl⟩
      · exact ⟨j, by omega, rfl⟩
    · rintro ⟨j, hj, rfl⟩
      by_cases e : j = k
      · subst e; exact Or.inl rfl
      · exact Or.inr ⟨j, by omega, rfl⟩
theorem fillM_new (xs : List Ent) (k : Nat) : entM (fillM xs k) (k : Int) = none := ent_none.2 fun y hy => by
  obtain ⟨j, hj, rfl⟩ := (fillM_mem xs k y).1 hy
  show (j : Int) ≠ k
  omega
theorem fillM_nodup (xs : List Ent) : ∀ k, ((fillM xs k).map Prod.fst).Nodup
  | 0 => List.nodup_nil
  | k + 1 => put_nodup (fillM_nodup xs k) (fillM_new xs k)
theorem fillM_len (xs : List Ent) : ∀ k, (fillM xs k).length = k
  | 0 => rfl
  | k + 1 => by unfold fillM; rw [put_len, fillM_len xs k]
theorem fillM_ent (xs : List Ent) (k j : Nat) (hj : j < k) : entM (fillM xs k) (j : Int) = some (madeE xs[j]!) := (ent_some (fillM_nodup xs k)).2 ((fillM_mem xs k _).2 ⟨j, hj, rfl⟩)
theorem fillM_ge (xs : List Ent) (k : Nat) (id : Int) (h : id < 0 ∨ (k : Int) ≤ id) : entM (fillM xs k) id = none := ent_none.2 fun y hy => by
  obtain ⟨j, hj, rfl⟩ := (fillM_mem xs k y).1 hy
  show (j : Int) ≠ id
  omega
def QFilledP (w : World) (m : Nat) (xs : List Ent) (e : Ending) (w' : World) : Prop := ∃ q F fl, e = .returned (.tuple #[.pointer (some ⟨q, 0, none⟩), .int .i64 m, .bool true]) ∧ QW w q 30 (fillM xs m) fl w' F
/-- the floor is not below the least V -/
def LeF (M : Mems) (fl : Int) : Prop := riseF (itemsM M) fl = fl
theorem rise_le (S : Items) (fl : Int) : riseF S (riseF S fl) = riseF S fl := by
  unfold riseF
  cases S with
  | nil => rfl
  | cons x r => show max (max fl x.2) x.2 = max fl x.2; omega
def QFilledR (w : World) (m : Nat) (xs : List Ent) (e : Ending) (w' : World) : Prop := ∃ q F fl, e = .returned (.tuple #[.pointer (some ⟨q, 0, none⟩), .int .i64 m, .bool true]) ∧ QW w q 30 (fillM xs m) fl w' F ∧ LeF (fillM xs m) fl
set_option maxRecDepth 100000 in
set_option maxHeartbeats 4000000 in
theorem filled_rise (a : Option Addr) (n cap : Nat) (xs : List Ent) (w : World) (h : SmallsIn w a n cap xs) :
    Calls Try.prog 10 #[.slice a n cap] w (QFilledR w (min n 30) xs) := by
  have A1 := Lib.hid (New_at 30 w (by decide) (by decide))
  have hle := h.le
  have hmax := h.max
  obtain ⟨m, hm⟩ : ∃ m, m = min n 30 := ⟨_, rfl⟩
  have e0 : min (n : Int) 30 = (m : Int) := by rw [hm]; omega
  have hmn : m ≤ n := by rw [hm]; omega
  have hm30 : m ≤ 30 := by rw [hm]; omega
  have h1 : (m : Int) ≤ (cap : Int) := by omega
  have h2 : m ≤ cap := by omega
  rw [← hm]
  have H := Lib.hid h
  clear h hm
  go_enter Try.func10, Try.ntmps10
  go_wp2_with fail
  refine A1.out.mono ?_
  rintro e w5 ⟨q, F, rfl, hq, ho, hb⟩
  have HI := Lib.hid (show QW w q 30 (fillM xs 0) 0 w5 F from ⟨hq, ho, hb⟩)
  clear hq ho hb
  go_wp2_with fail
  go_loopw [27] (fun i wr => ∃ (k : Nat) (F : List Nat) (fl : Int), k ≤ m ∧ i = .int .i64 k ∧ QW w q 30 (fillM xs k) fl wr F ∧ LeF (fillM xs k) fl) (fun i _ => m - (intOf i).toNat)
  case atStart => exact ⟨0, _, _, Nat.zero_le _, rfl, HI.out, rfl⟩
  case round =>
    obtain ⟨k, F, fl, hk, rfl, hI, hL⟩ := hrel
    have HW := Lib.hid hI
    have HL := Lib.hid hL
    clear hI hL
    by_cases hlt : k < m
    · obtain ⟨b, off, rfl, hc⟩ := H.out.row (by omega)
      obtain ⟨i0, i1, i2⟩ := hc k (by omega)
      replace i0 := cell_later HW.out.bel i0
      replace i1 := cell_later HW.out.bel i1
      replace i2 := cell_later HW.out.bel i2
      have hfit := H.out.fit k (by omega)
      obtain ⟨x, hx⟩ : ∃ x, x = xs[k]! := ⟨_, rfl⟩
      rw [← hx] at i0 i1 i2 hfit
      have HXX := Lib.hid hx
      have hk0 : (0 : Int) ≤ (k : Int) := by omega
      have hkm : (k : Int) < (m : Int) := by omega
      have v0 : IntKind.u64.wrap x.1 = x.1 := IntWalk.u64_in _ (by omega)
      have v1 : IntKind.u32.wrap x.2.1 = x.2.1 := IntWalk.u32_in _ (by omega)
      have v2 : IntKind.u32.wrap x.2.2 = x.2.2 := IntWalk.u32_in _ (by omega)
      have A2 := Lib.hid fun W => Made_any x.1 x.2.1 x.2.2 W (by omega) (by omega) (by omega)
      clear hc hx
      go_wp2_with fail
      refine (A2.out _).mono ?_
      rintro e w6 ⟨rfl, hb6⟩
      have hW6 := HW.out.later (Below.step (below_a wr _) hb6)
      clear hb6 i0 i1 i2
      generalize hrr : Ch.madeR x.1 x.2.1 x.2.2 = rr
      generalize hcc : 1 + x.2.2 % 65536 = cc
      have hEe : madeE x = (x.1, rr, cc) := by rw [← hrr, ← hcc]; rfl
      have hOk : Ch.Ok x.1 rr cc := by rw [← hrr, ← hcc]; exact Ch.made_ok (by omega) (by omega) (by omega)
      have hC : enterC 30 (fillM xs k) (k : Int) (x.1, rr, cc) = 0 := by
        unfold enterC hasV
        rw [if_pos (decide_eq_true (by omega)), if_pos hOk, fillM_new]
        rfl
      have hM : enterM 30 (fillM xs k) (k : Int) (x.1, rr, cc) = fillM xs (k + 1) := by
        unfold enterM
        rw [if_pos hC]
        show _ = putM (fillM xs k) ((k : Int), madeE xs[k]!)
        rw [← HXX.out, hEe]
      have A3 := Enter_at (k : Int) (x.1, rr, cc) w6 hW6.inn (WalkArith.wf_i64 (n := (k : Int)) (by omega)) hOk.fits
      have hF : enterF 30 (fillM xs k) (k : Int) (x.1, rr, cc) fl = riseF (itemsM (fillM xs (k + 1))) fl := by
        unfold enterF
        rw [if_pos hC]
        unfold enterM at hM
        rw [if_pos hC] at hM
        rw [hM]
      rw [hC, hM, hF] at A3
      have HA3 := Lib.hid A3
      have HW6 := Lib.hid hW6
      clear A3 hW6 hC hM hF hOk hEe hrr hcc
      go_wp2_with fail
      refine HA3.out.mono ?_
      rintro e w7 ⟨rfl, hA⟩
      obtain ⟨F7, h7, -⟩ := HW6.out.step hA
      have H7 := Lib.hid h7
      clear hA h7
      go_wp2_with fail
      go_roundw
      case rel => exact ⟨k + 1, F7, _, by omega, by go_num, H7.out, rise_le _ _⟩
      case measure => simp [intOf]; omega
    · obtain rfl : k = m := by omega
      have l2 : decide ((k : Int) < (k : Int)) = false := by simp
      clear hk hlt
      go_wp2_with fail
      refine bodyPost_ret (v := .tuple #[.pointer (some ⟨q, 0, none⟩), .int .i64 k, .bool true]) (by simp [results, Try.results10, go_sem, *]) rfl ?_
      exact ⟨q, F, fl, rfl, HW.out, HL.out⟩
theorem filled_any (a : Option Addr) (n cap : Nat) (xs : List Ent) (w : World) (h : SmallsIn w a n cap xs) :
    Calls Try.prog 10 #[.slice a n cap] w (QFilledP w (min n 30) xs) :=
  (filled_rise a n cap xs w h).mono fun e w' ⟨q, F, fl, he, hq, _⟩ => ⟨q, F, fl, he, hq⟩
end Go.Proofs.Ytekjakmeopolhaa
