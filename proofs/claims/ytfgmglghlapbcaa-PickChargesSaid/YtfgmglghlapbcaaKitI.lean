/-
  Slices of integers; quantumkit.SameInts.
-/
import Derived.Test.YtfgmglghlapbcaaKitG
import Derived.IntWalk
import Derived.Laws.OwnMore
import Derived.Test.YtfgmglghlapbcaaProg
namespace Go.Proofs.Ytfgmglghlapbcaa
open Go.RowKit Go.IntWalk
set_option linter.unusedVariables false
def intsV (xs : List Int) : List Value := xs.map (.int .i64)
/-- a slice of integers of a kind -/
def RowAt (K : IntKind) (w : World) (a : Option Addr) (n : Nat) (xs : List Int) : Prop :=
  xs.length = n ∧ (0 < n → ∃ b off, a = some ⟨b, off, none⟩ ∧ ∀ i x, xs[i]? = some x → w.cell? ⟨b, off + i, none⟩ = some (.int K x))
theorem RowAt.later {K : IntKind} {w w' : World} {a : Option Addr} {n : Nat} {xs : List Int} (h : RowAt K w a n xs) (hb : Below w.heap.size w w') : RowAt K w' a n xs := by
  refine ⟨h.1, fun h0 => ?_⟩
  obtain ⟨b, off, e, hc⟩ := h.2 h0
  exact ⟨b, off, e, fun i x hx => cell_later hb (hc i x hx)⟩
theorem own_row {w : World} {base g n cap : Nat} {e : TypeId} {xs : List Int} (h : w.ownsRow base e 1 (.slice (some ⟨g, 0, none⟩) n cap) n (intsV xs)) : RowAt .i64 w (some ⟨g, 0, none⟩) n xs := by
  have hl : xs.length = n := by have := h.1; simpa [intsV] using this
  refine ⟨hl, fun _ => ⟨g, 0, rfl, fun i x hx => ?_⟩⟩
  have hi : i < n := by rw [← hl]; exact (List.getElem?_eq_some_iff.1 hx).1
  rw [Nat.zero_add, h.cellAt i (by omega)]
  simp [intsV, hx]
set_option maxRecDepth 100000 in
set_option maxHeartbeats 1000000 in
theorem SameInts_any (a a' : Option Addr) (n n' c c' : Nat) (xs ys : List Int) (w : World) (hx : RowAt .i64 w a n xs) (hy : RowAt .i64 w a' n' ys) (hn : n ≤ 1000000) (hn' : n' ≤ 1000000) :
    Calls Try.prog 36 #[.slice a n c, .slice a' n' c'] w fun e w' => e = .returned (.bool (decide (xs = ys))) ∧ Grows w w' := by
  by_cases hl : n = n'
  · subst hl
    by_cases h0 : n = 0
    · subst h0
      have e1 : xs = [] := List.eq_nil_of_length_eq_zero hx.1
      have e2 : ys = [] := List.eq_nil_of_length_eq_zero hy.1
      rw [e1, e2]
      clear hx hy e1 e2
      go_enter Try.func36, Try.ntmps36
      go_wp2_with fail
      refine wp_loop_rounds 1 ?_
      rw [rounds_succ]
      go_wp2_with fail
      go_ret
      exact ⟨rfl, Grows.refl _⟩
    · obtain ⟨b, off, rfl, hcx⟩ := hx.2 (by omega)
      obtain ⟨b', off', rfl, hcy⟩ := hy.2 (by omega)
      have HX := Lib.hid hx
      have HY := Lib.hid hy
      have CX := Lib.hid hcx
      have CY := Lib.hid hcy
      have hz : ((n : Int) != (n : Int)) = false := by simp
      clear hx hy hcx hcy h0
      go_enter Try.func36, Try.ntmps36
      go_wp2_with fail
      go_loopw [5] (fun i wr => ∃ k q : Nat, k ≤ n ∧ i = .int .i64 k ∧ xs.take k = ys.take k ∧ wr = w.drewN q) (fun i _ => n - (intOf i).toNat)
      case atStart => exact ⟨0, 0, Nat.zero_le _, rfl, rfl, rfl⟩
      case round =>
        obtain ⟨k, q, hk, rfl, heq, rfl⟩ := hrel
        have HE := Lib.hid heq
        clear heq
        by_cases hlt : k < n
        · obtain ⟨x, hx⟩ : ∃ x, xs[k]? = some x := ⟨_, List.getElem?_eq_getElem (by rw [HX.out.1]; exact hlt)⟩
          obtain ⟨y, hy⟩ : ∃ x, ys[k]? = some x := ⟨_, List.getElem?_eq_getElem (by rw [HY.out.1]; exact hlt)⟩
          have q0 := CX.out k x hx
          have q1 := CY.out k y hy
          have hk0 : (0 : Int) ≤ (k : Int) := by omega
          have hkn : (k : Int) < (n : Int) := by omega
          have GX := Lib.hid hx
          have GY := Lib.hid hy
          clear hx hy
          by_cases hxy : x = y
          · subst hxy
            have hb : (x != x) = false := by simp
            have HT := Lib.hid (show xs.take (k + 1) = ys.take (k + 1) by rw [List.take_add_one, List.take_add_one, GX.out, GY.out, HE.out])
            go_wp2_with fail
            go_quiet (fail)
            go_wp2_with fail
            go_roundw
            case rel => exact ⟨k + 1, _, by omega, by go_num, HT.out, rfl⟩
            case measure => simp [intOf]; omega
          · have hb : (x != y) = true := by simpa using hxy
            have HT := Lib.hid (show decide (xs = ys) = false from decide_eq_false fun e => hxy (by have := GX.out; rw [e, GY.out] at this; exact (Option.some.inj this).symm))
            go_wp2_with fail
            go_quiet (fail)
            go_wp2_with fail
            go_ret
            exact ⟨by rw [HT.out]; rfl, ((Grows.refl _).drewN _).drewN _⟩
        · obtain rfl : k = n := by omega
          have HT := Lib.hid (show decide (xs = ys) = true from decide_eq_true (by have := HE.out; rwa [List.take_of_length_le (by rw [HX.out.1]; exact Nat.le_refl _), List.take_of_length_le (by rw [HY.out.1]; exact Nat.le_refl _)] at this))
          go_wp2_with fail
          go_ret
          exact ⟨by rw [HT.out]; rfl, (Grows.refl _).drewN _⟩
  · have hz : ((n : Int) != (n' : Int)) = true := by rw [bne_iff_ne]; omega
    have HT := Lib.hid (show decide (xs = ys) = false from decide_eq_false fun e => hl (by rw [← hx.1, ← hy.1, e]))
    clear hx hy
    go_enter Try.func36, Try.ntmps36
    go_wp2_with fail
    go_ret
    exact ⟨by rw [HT.out]; rfl, Grows.refl _⟩
end Go.Proofs.Ytfgmglghlapbcaa
