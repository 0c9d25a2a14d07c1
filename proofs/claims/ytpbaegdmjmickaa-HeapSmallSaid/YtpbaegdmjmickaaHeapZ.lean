/-
  Layer 18 (heap): Same, before.
-/
import Derived.Test.YtpbaegdmjmickaaHeapO
namespace Go.Proofs.Ytpbaegdmjmickaa
open Go.RowKit Go.Maps Go.IntWalk Go.Lib
set_option linter.unusedVariables false
theorem ItemsAt.later {w w' : World} {v : Value} {L : Items} (h : ItemsAt w v L) (hb : Below w.heap.size w w') : ItemsAt w' v L := by
  obtain ⟨a, cap, rfl, h⟩ := h
  refine ⟨a, cap, rfl, ?_⟩
  rcases h with h | ⟨b, off, rfl, hc⟩
  · exact Or.inl h
  · exact Or.inr ⟨b, off, rfl, fun k hk => ⟨cell_later hb (hc k hk).1, cell_later hb (hc k hk).2⟩⟩
theorem RowI.items {w : World} {base : Nat} {v : Value} {S : Items} (h : RowI w base v S) : ItemsAt w v S := by
  obtain ⟨a, cap, rfl, h⟩ := h
  refine ⟨a, cap, rfl, ?_⟩
  rcases h with h | ⟨g, rfl, _, hc⟩
  · exact Or.inl h
  · exact Or.inr ⟨g, 0, rfl, fun k hk => by simpa using (hc k hk).1⟩
theorem own_items {w : World} {base : Nat} {e : TypeId} {v : Value} {S : Items} (h : w.ownsRow base e 2 v S.length (flatI S)) : ItemsAt w v S := by
  rcases h.2 with ⟨rfl, h0⟩ | ⟨g, cap, cur, rfl, _⟩
  · exact ⟨none, 0, by rw [h0], Or.inl (List.eq_nil_of_length_eq_zero h0)⟩
  · refine ⟨_, cap, rfl, Or.inr ⟨g, 0, rfl, fun k hk => ?_⟩⟩
    have e := flatI_at (at_get hk)
    rw [Nat.zero_add]
    exact ⟨(h.cellAt (k * 2) (by omega)).trans e.1, (h.cellAt (k * 2 + 1) (by omega)).trans e.2⟩
def sameB (A B : Items) : Bool := decide (A = B)
theorem sameB_false {A B : Items} (h : A ≠ B) : sameB A B = false := decide_eq_false h
theorem sameB_true {A B : Items} (h : A = B) : sameB A B = true := decide_eq_true h
set_option maxRecDepth 100000 in
set_option maxHeartbeats 1000000 in
theorem Same_any (va vb : Value) (A B : Items) (w : World) (ha : ItemsAt w va A) (hb : ItemsAt w vb B) (h1 : A.length ≤ 1000000) (h2 : B.length ≤ 1000000) :
    Calls Try.prog 27 #[va, vb] w fun e w' => e = .returned (.bool (sameB A B)) ∧ Grows w w' := by
  obtain ⟨a, ca, rfl, ha⟩ := ha
  obtain ⟨b, cb, rfl, hb⟩ := hb
  by_cases hl : A.length = B.length
  · have hz : ((A.length : Int) != (B.length : Int)) = false := by simp [hl]
    have HL := Lib.hid hl
    have HA := Lib.hid ha
    have HB := Lib.hid hb
    clear hl ha hb
    go_enter Try.func27, Try.ntmps27
    go_wp2_with fail
    go_loopw [13] (fun i wr => ∃ k q : Nat, k ≤ A.length ∧ i = .int .i64 k ∧ A.take k = B.take k ∧ wr = w.drewN q) (fun i _ => A.length - (intOf i).toNat)
    case atStart => exact ⟨0, 0, Nat.zero_le _, rfl, rfl, rfl⟩
    case round =>
      obtain ⟨k, q, hk, rfl, heq, rfl⟩ := hrel
      have HE := Lib.hid heq
      clear heq
      by_cases hlt : k < A.length
      · have hAn : A ≠ [] := fun e => by rw [e] at hlt; simp at hlt
        have hBn : B ≠ [] := fun e => by have := HL.out; rw [e, List.length_nil] at this; omega
        obtain ⟨b1, o1, rfl, hc1⟩ := HA.out.resolve_left hAn
        obtain ⟨b2, o2, rfl, hc2⟩ := HB.out.resolve_left hBn
        have hkB : k < B.length := by have := HL.out; omega
        obtain ⟨i0, i1⟩ := hc1 k hlt
        obtain ⟨j0, j1⟩ := hc2 k hkB
        obtain ⟨x, hx⟩ : ∃ x, x = A[k]! := ⟨_, rfl⟩
        obtain ⟨y, hy⟩ : ∃ y, y = B[k]! := ⟨_, rfl⟩
        rw [← hx] at i0 i1
        rw [← hy] at j0 j1
        have hk0 : (0 : Int) ≤ (k : Int) := by omega
        have hkn : (k : Int) < (A.length : Int) := by omega
        have hkm : (k : Int) < (B.length : Int) := by omega
        have HX := Lib.hid hx
        have HY := Lib.hid hy
        have HKB := Lib.hid hkB
        clear hx hy hAn hBn hc1 hc2
        by_cases hxy : x = y
        · subst hxy
          have HT := Lib.hid (show A.take (k + 1) = B.take (k + 1) by rw [take_succ_at hlt, take_succ_at HKB.out, HE.out, ← HX.out, ← HY.out])
          have z1 : (x.1 == x.1) = true := by simp
          have z2 : (x.2 == x.2) = true := by simp
          go_wp2_with fail
          go_quiet (fail)
          go_wp2_with fail
          go_roundw
          case rel => exact ⟨k + 1, _, by omega, by go_num, HT.out, rfl⟩
          case measure => simp [intOf]; omega
        · have hf := Lib.hid (sameB_false (A := A) (B := B) fun e => hxy (by rw [HX.out, HY.out, e]))
          clear hkB hk
          by_cases h1 : x.1 = y.1
          · have z1 : (x.1 == y.1) = true := by simpa using h1
            have z2 : (x.2 == y.2) = false := by simp; exact fun e => hxy (Prod.ext h1 e)
            clear hxy
            have H1 := Lib.hid h1
            clear h1
            go_wp2_with fail
            go_quiet (fail)
            go_wp2_with fail
            go_ret
            exact ⟨by rw [hf.out]; rfl, ((Grows.refl _).drewN _).drewN _⟩
          · have z1 : (x.1 == y.1) = false := by simpa using h1
            clear hxy
            have H1 := Lib.hid h1
            clear h1
            go_wp2_with fail
            go_quiet (fail)
            go_wp2_with fail
            go_ret
            exact ⟨by rw [hf.out]; rfl, ((Grows.refl _).drewN _).drewN _⟩
      · obtain rfl : k = A.length := by omega
        have hf := Lib.hid (sameB_true (A := A) (B := B) (by have := HE.out; rwa [List.take_length, HL.out, List.take_length] at this))
        go_wp2_with fail
        go_ret
        exact ⟨by rw [hf.out]; rfl, (Grows.refl _).drewN _⟩
  · have hz : ((A.length : Int) != (B.length : Int)) = true := by rw [bne_iff_ne]; omega
    have hf := Lib.hid (sameB_false (A := A) (B := B) fun e => hl (by rw [e]))
    clear ha hb hl
    go_enter Try.func27, Try.ntmps27
    go_wp2_with fail
    go_ret
    exact ⟨by rw [hf.out]; rfl, Grows.refl _⟩
end Go.Proofs.Ytpbaegdmjmickaa
