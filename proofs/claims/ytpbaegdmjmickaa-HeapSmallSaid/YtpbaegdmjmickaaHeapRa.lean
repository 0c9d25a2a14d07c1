/-
  Layer 18 (heap), the reference: Before, Find, with.
-/
import Derived.Test.YtpbaegdmjmickaaHeapD
import Derived.Test.YtpbaegdmjmickaaHeapE
import Derived.Test.YtpbaegdmjmickaaKitT
namespace Go.Proofs.Ytpbaegdmjmickaa
open Go.RowKit Go.Maps Go.IntWalk Go.Lib
set_option linter.unusedVariables false
set_option linter.unusedSimpArgs false
def encQ (x : Int × Int) : List Value := [.int .i64 x.1, .int .u64 x.2]
theorem encQ_ok : Enc encQ 2 := ⟨fun _ => rfl, fun x u hu => by simp [encQ] at hu; rcases hu with rfl | rfl <;> rfl, by decide⟩
theorem infoRItem : (Try.prog.info? 77).map (fun i => (i.zero, i.size, i.bytes)) = some (some (.agg #[.int .i64 0, .int .u64 0]), 2, 16) := by kernel_rfl
theorem sizeRItem (w : World) : (Go.sizeOf (Try.prog.elem 56)).run Try.prog w = .ok 2 w := by kernel_rfl
theorem undRItems : Try.prog.underlying 56 = some (.slice (Try.prog.elem 56)) := by kernel_rfl
theorem flatR_items (S : Items) : flatR encQ S = flatI S := by
  induction S with
  | nil => rfl
  | cons x r ih =>
    have e : flatR encQ (x :: r) = encQ x ++ flatR encQ r := rfl
    rw [e, ih]; rfl
theorem recs_items {w : World} {v : Value} {S : Items} (h : RecsAt encQ w v S) : ItemsAt w v S := by
  obtain ⟨a, cap, e, h1, h2, h3, h⟩ := h
  refine ⟨a, cap, e, h.imp id fun ⟨b, off, e', hc⟩ => ⟨b, off, e', fun k hk => ?_⟩⟩
  rw [flatR_items] at hc
  have := flatI_at (at_get hk)
  exact ⟨hc _ _ this.1, by rw [Nat.add_assoc]; exact hc _ _ this.2⟩
set_option maxRecDepth 100000 in
set_option maxHeartbeats 1000000 in
theorem rBefore_any (x y : Int × Int) (w : World) : Calls Try.prog 51 #[.agg #[.int .i64 x.1, .int .u64 x.2], .agg #[.int .i64 y.1, .int .u64 y.2]] w fun e w' => e = .returned (.bool (befB x y)) ∧ Grows w w' := by
  by_cases h1 : x.2 < y.2
  · rw [bef_key h1]
    have z : decide (x.2 < y.2) = true := decide_eq_true h1
    go_enter Try.func51, Try.ntmps51
    go_wp2_with fail
    go_ret
    exact ⟨rfl, ((Grows.refl w).alloc _).alloc _⟩
  · have z : decide (x.2 < y.2) = false := decide_eq_false h1
    by_cases h2 : x.2 = y.2
    · have z2 : (x.2 == y.2) = true := by simpa using h2
      by_cases h3 : x.1 < y.1
      · rw [bef_id h2 h3]
        have z3 : decide (x.1 < y.1) = true := decide_eq_true h3
        clear h1 h2 h3
        go_enter Try.func51, Try.ntmps51
        go_wp2_with fail
        go_ret
        exact ⟨rfl, ((Grows.refl w).alloc _).alloc _⟩
      · rw [bef_no (by unfold ltI; omega)]
        have z3 : decide (x.1 < y.1) = false := decide_eq_false h3
        clear h1 h2 h3
        go_enter Try.func51, Try.ntmps51
        go_wp2_with fail
        go_ret
        exact ⟨rfl, ((Grows.refl w).alloc _).alloc _⟩
    · rw [bef_no (by unfold ltI; omega)]
      have z2 : (x.2 == y.2) = false := by simpa using h2
      clear h1 h2
      go_enter Try.func51, Try.ntmps51
      go_wp2_with fail
      go_ret
      exact ⟨rfl, ((Grows.refl w).alloc _).alloc _⟩
/-- the place of an item -/
def findI (S : Items) (id : Int) : Int := match S.findIdx? (fun y => y.1 == id) with | some k => (k : Int) | none => -1
theorem findI_at {S : Items} {id : Int} {k : Nat} (hk : k < S.length) (h : S[k]!.1 = id) (hn : ∀ j, j < k → S[j]!.1 ≠ id) : findI S id = (k : Int) := by
  unfold findI
  have e : S.findIdx? (fun y => y.1 == id) = some k := by
    rw [List.findIdx?_eq_some_iff_getElem]
    refine ⟨hk, ?_, fun j hj => ?_⟩
    · have := h; rw [getElem!_pos S k hk] at this; simpa using this
    · have := hn j hj; rw [getElem!_pos S j (by omega)] at this; simpa using this
  rw [e]
theorem findI_none {S : Items} {id : Int} (hn : ∀ j, j < S.length → S[j]!.1 ≠ id) : findI S id = -1 := by
  unfold findI
  have e : S.findIdx? (fun y => y.1 == id) = none := by
    rw [List.findIdx?_eq_none_iff]
    intro y hy
    obtain ⟨i, hi, e⟩ := mem_at hy
    have := hn i hi
    rw [e] at this
    simpa using this
  rw [e]
theorem findI_cases (S : Items) (id : Int) : (∃ k, k < S.length ∧ findI S id = (k : Int) ∧ S[k]!.1 = id ∧ ∀ j, j < k → S[j]!.1 ≠ id) ∨ (findI S id = -1 ∧ keyL S id = none) := by
  cases e : S.findIdx? (fun y => y.1 == id) with
  | some k =>
    obtain ⟨hk, h1, h2⟩ := List.findIdx?_eq_some_iff_getElem.1 e
    have h1' : S[k]!.1 = id := by rw [getElem!_pos S k hk]; simpa using h1
    have h2' : ∀ j, j < k → S[j]!.1 ≠ id := fun j hj => by rw [getElem!_pos S j (by omega)]; simpa using h2 j hj
    exact Or.inl ⟨k, hk, findI_at hk h1' h2', h1', h2'⟩
  | none =>
    have h := List.findIdx?_eq_none_iff.1 e
    refine Or.inr ⟨by unfold findI; rw [e], keyL_none.2 fun y hy => by simpa using h y hy⟩
set_option maxRecDepth 100000 in
set_option maxHeartbeats 1000000 in
theorem rFind_any (a : Option Addr) (cap : Nat) (n id : Int) (S : Items) (w : World) (h : RecsAt encQ w (.slice a S.length cap) S) :
    Calls Try.prog 40 #[.agg #[.int .i64 n, .slice a S.length cap], .int .i64 id] w fun e w' => e = .returned (.int .i64 (findI S id)) ∧ Grows w w' := by
  have hl := h.len
  have HI := Lib.hid (recs_items (h.later (below_a w (.cells #[.int .i64 n, .slice a S.length cap] 58))))
  obtain ⟨M, hM⟩ : ∃ M, M = S.length := ⟨_, rfl⟩
  have HM := Lib.hid hM
  rw [← hM] at hl HI ⊢
  clear h hM
  have c0 := cell_nw w #[.int .i64 n, .slice a M cap] 58 0 _ rfl
  have c1 := cell_nw w #[.int .i64 n, .slice a M cap] 58 1 _ rfl
  have HG := Lib.hid (grows_a w (.cells #[.int .i64 n, .slice a M cap] 58))
  go_enter Try.func40, Try.ntmps40
  go_wp2_with fail
  generalize w.heap.size = bh at *
  generalize w.alloc (.cells #[.int .i64 n, .slice a M cap] 58) = W at *
  go_loop [5] (fun i => ∃ k : Nat, k ≤ M ∧ i = .int .i64 k ∧ ∀ j, j < k → S[j]!.1 ≠ id) (fun i => M - (intOf i).toNat)
  case atStart => exact ⟨0, Nat.zero_le _, rfl, fun j hj => by omega⟩
  case round =>
    obtain ⟨k, hk, rfl, hn⟩ := hrel
    have HN := Lib.hid hn
    clear hn
    by_cases hlt : k < M
    · obtain ⟨-, b, off, rfl, i0, i1⟩ := HI.out.cells (k := k) (by rw [← HM.out]; exact hlt)
      obtain ⟨x, hx⟩ : ∃ x, x = S[k]! := ⟨_, rfl⟩
      rw [← hx] at i0 i1
      have HX := Lib.hid hx
      have hk0 : (0 : Int) ≤ (k : Int) := by omega
      have hkm : (k : Int) < (M : Int) := by omega
      clear hx
      by_cases he : x.1 = id
      · have z1 : (x.1 == id) = true := by simpa using he
        have HF := Lib.hid (findI_at (by rw [← HM.out]; exact hlt) (by rw [← HX.out]; exact he) HN.out)
        clear he
        go_wp2_with fail
        go_ret
        exact ⟨by rw [HF.out]; rfl, HG.out⟩
      · have z1 : (x.1 == id) = false := by simpa using he
        have z1' : (x.1 = id) = False := eq_false he
        have HF := Lib.hid (show ∀ j, j < k + 1 → S[j]!.1 ≠ id from fun j hj => by
          by_cases e : j = k
          · subst e; rw [← HX.out]; exact he
          · exact HN.out j (by omega))
        clear he
        go_wp2_with fail
        go_round
        case rel => exact ⟨k + 1, by omega, by go_num, HF.out⟩
        case measure => simp [intOf]; omega
    · have l1 : decide ((k : Int) < (M : Int)) = false := decide_eq_false (by omega)
      have l2 : decide (k < M) = false := decide_eq_false hlt
      have l3 : (k < M) = False := eq_false hlt
      have HF := Lib.hid (show findI S id = -1 from findI_none fun j hj => HN.out j (by rw [← HM.out] at hj; omega))
      clear hk hlt
      go_wp2_with fail
      go_ret
      exact ⟨by rw [HF.out]; rfl, HG.out⟩
theorem rRight_any (n : Int) (w : World) : Calls Try.prog 24 #[.int .i64 n] w fun e w' => e = .returned (.bool (decide (1 ≤ n ∧ n ≤ 131072))) ∧ w = w' := by
  by_cases h1 : 1 ≤ n
  · by_cases h2 : n ≤ 131072
    · rw [decide_eq_true ⟨h1, h2⟩]
      go_enter Try.func24, Try.ntmps24
      go_wp2_with fail
      go_ret
      exact ⟨rfl, rfl⟩
    · rw [decide_eq_false (fun h => h2 h.2)]
      have z2 : decide (n ≤ 131072) = false := decide_eq_false h2
      clear h2
      go_enter Try.func24, Try.ntmps24
      go_wp2_with fail
      go_ret
      exact ⟨rfl, rfl⟩
  · rw [decide_eq_false (fun h => h1 h.1)]
    have z1 : decide (1 ≤ n) = false := decide_eq_false h1
    have z1' : decide (n ≥ 1) = false := decide_eq_false h1
    clear h1
    go_enter Try.func24, Try.ntmps24
    go_wp2_with fail
    go_ret
    exact ⟨rfl, rfl⟩
end Go.Proofs.Ytpbaegdmjmickaa
