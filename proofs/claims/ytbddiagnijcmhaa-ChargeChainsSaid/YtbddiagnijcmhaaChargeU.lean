/-
  Layer 22 (charge): sort.Search over the closure of Until, and Until itself.
-/
import Derived.Test.YtbddiagnijcmhaaChargeW
import Derived.Deep.RegionWith
import Derived.Shelf.Abstract
namespace Go.Proofs.Ytbddiagnijcmhaa
open Go.RowKit Go.Shelf
set_option linter.unusedVariables false

set_option maxHeartbeats 400000 in
theorem untilF_any (v r c to t : Int) (B C : Nat) (w : World) (h : Ch.Ok v r c) (ht : 0 ≤ t ∧ t ≤ 4294967295) (hB : B < w.heap.size) (hC : C < w.heap.size)
    (h0 : w.cell? ⟨B, 0, none⟩ = some (.int .u64 v)) (h1 : w.cell? ⟨B, 1, none⟩ = some (.int .u32 r)) (h2 : w.cell? ⟨B, 2, none⟩ = some (.int .u32 c)) (h3 : w.cell? ⟨C, 0, none⟩ = some (.int .u64 to)) :
    Calls Try.prog 28 #[.int .i64 t, .pointer (some ⟨B, 0, none⟩), .pointer (some ⟨C, 0, none⟩)] w fun e w' => e = .returned (.bool (decide (to ≤ Ch.addV v r c t))) ∧ Below w.heap.size w w' := by
  go_enter Try.func28, Try.ntmps28
  go_wp2
  go_region_with (go_at_call 25; refine (add_any _ _ _ _ _ h ht).mono ?_; rintro e w1 ⟨rfl, hb1⟩; have hq : w1.cell? ⟨C, 0, none⟩ = some (.int .u64 to) := (hb1.cell (p := ⟨C, 0, none⟩) (by simpa using hC)).trans h3)
  all_goals go_wp2
  all_goals go_ret
  all_goals
    refine ⟨rfl, ?_⟩
    repeat (first | exact Below.refl _ _ | refine Below.step ?_ (by assumption) | refine Below.setCell ?_ (by first | (simp; done) | (simp; omega) | omega) _ | refine Below.allocS ?_ _ | refine Below.drew ?_ | refine below_drewN ?_ _)

/-- sort.Search over a closure that makes only new memory: p is false below k and true from k on -/
def OneOf (p : Int → Bool) (n k : Int) : Prop := (∀ t, 0 ≤ t → t < k → p t = false) ∧ (∀ t, k ≤ t → t < n → p t = true)
set_option maxHeartbeats 1000000 in
theorem search_any (g : Nat) (cb : Array Value) (n : Nat) (p : Int → Bool) (w : World) (hn : n < 4611686018427387904)
    (eg : ∀ args w, (callFunc g args).run Try.prog w = .ok (.enter g args) w)
    (hf : ∀ (i : Int) (W : World), 0 ≤ i → i < n → Below w.heap.size w W → Calls Try.prog g (#[.int .i64 i] ++ cb) W fun e w' => e = .returned (.bool (p i)) ∧ Below W.heap.size W w')
    (hmono : ∀ a b : Int, 0 ≤ a → a ≤ b → b < n → p a = true → p b = true) :
    Calls Try.prog 27 #[.int .i64 n, .func (.func g) #[] cb] w fun e w' => (∃ k : Nat, k ≤ n ∧ OneOf p n k ∧ e = .returned (.int .i64 k)) ∧ Below w.heap.size w w' := by
  have HF := Lib.hid hf
  have HM := Lib.hid hmono
  clear hf hmono
  go_enter Try.func27, Try.ntmps27
  go_wp2
  go_loopg [5, 6] n (fun kx s5 s6 wr => ∃ (lo hi : Nat), s5 = .int .i64 lo ∧ s6 = .int .i64 hi ∧ lo ≤ hi ∧ hi ≤ n ∧ hi - lo ≤ kx ∧ Below w.heap.size w wr ∧
    Hid ((∀ t : Int, 0 ≤ t → t < lo → p t = false) ∧ (∀ t : Int, hi ≤ t → t < n → p t = true)))
  case atStart => exact ⟨0, n, rfl, rfl, Nat.zero_le _, Nat.le_refl _, by omega, Below.refl _ _, Lib.hid ⟨fun t h0 ht => absurd ht (by omega), fun t h1 h2 => absurd h1 (by omega)⟩⟩
  case round =>
    obtain ⟨lo, hi, rfl, rfl, hlh, hin, hg, hbl, I⟩ := hrel
    by_cases hlt : lo < hi
    · have hc := HF.out (((lo : Int) + (hi : Int)) / 2) wr (by omega) (by omega) hbl
      cases hp : p (((lo : Int) + (hi : Int)) / 2) <;> rw [hp] at hc
      · have HP := Lib.hid hp
        clear hp
        go_wp2_with fail
        refine hc.mono ?_; rintro e w' ⟨rfl, hb'⟩
        clear hc
        go_wp2_with fail
        go_roundg (hi - ((lo + hi) / 2 + 1))
        case measure => omega
        case rel =>
          have I2 : Hid ((∀ t : Int, 0 ≤ t → t < ((lo + hi) / 2 + 1 : Nat) → p t = false) ∧ (∀ t : Int, hi ≤ t → t < n → p t = true)) := Lib.hid ⟨fun t h0 ht => (by
            cases h : p t with
            | false => rfl
            | true => have := HM.out t (((lo : Int) + (hi : Int)) / 2) h0 (by omega) (by omega) h; rw [HP.out] at this; cases this), I.out.2⟩
          exact ⟨(lo + hi) / 2 + 1, hi, by rw [show ((lo : Int) + (hi : Int)) / 2 + 1 = (((lo + hi) / 2 + 1 : Nat) : Int) by omega], rfl, by omega, hin, Nat.le_refl _, hbl.trans (hb'.mono hbl.size), I2⟩
      · have HP := Lib.hid hp
        clear hp
        go_wp2_with fail
        refine hc.mono ?_; rintro e w' ⟨rfl, hb'⟩
        clear hc
        go_wp2_with fail
        go_roundg ((lo + hi) / 2 - lo)
        case measure => omega
        case rel =>
          have I2 : Hid ((∀ t : Int, 0 ≤ t → t < lo → p t = false) ∧ (∀ t : Int, ((lo + hi) / 2 : Nat) ≤ t → t < n → p t = true)) := Lib.hid ⟨I.out.1, fun t ht htn => HM.out (((lo : Int) + (hi : Int)) / 2) t (by omega) (by omega) htn HP.out⟩
          exact ⟨lo, (lo + hi) / 2, rfl, by rw [show ((lo : Int) + (hi : Int)) / 2 = (((lo + hi) / 2 : Nat) : Int) by omega], by omega, by omega, Nat.le_refl _, hbl.trans (hb'.mono hbl.size), I2⟩
    · obtain rfl : hi = lo := by omega
      go_wp2
      go_ret
      exact ⟨⟨hi, hin, I.out, rfl⟩, hbl⟩

theorem enters_untilF : ∀ args w, (callFunc 28 args).run Try.prog w = .ok (.enter 28 args) w := enters_of Try.func28 (by kernel_rfl) rfl
theorem search_until (v r c to : Int) (B C : Nat) (W : World) (h : Ch.Ok v r c) (hto : 0 ≤ to ∧ to ≤ 18446744073709551615) (hB : B < W.heap.size) (hC : C < W.heap.size)
    (h0 : W.cell? ⟨B, 0, none⟩ = some (.int .u64 v)) (h1 : W.cell? ⟨B, 1, none⟩ = some (.int .u32 r)) (h2 : W.cell? ⟨B, 2, none⟩ = some (.int .u32 c)) (h3 : W.cell? ⟨C, 0, none⟩ = some (.int .u64 to)) :
    Calls Try.prog 27 #[.int .i64 4294967296, .func (.func 28) #[] #[.pointer (some ⟨B, 0, none⟩), .pointer (some ⟨C, 0, none⟩)]] W fun e w' => (∃ k : Int, ((k ≤ 4294967295 ∧ Ch.untilT v r c to = k ∧ Ch.untilE v r c to = 0) ∨ (4294967295 < k ∧ Ch.untilT v r c to = 0 ∧ Ch.untilE v r c to = 6)) ∧ e = .returned (.int .i64 k)) ∧ Below W.heap.size W w' := by
  refine (search_any 28 #[.pointer (some ⟨B, 0, none⟩), .pointer (some ⟨C, 0, none⟩)] 4294967296 (fun t => decide (to ≤ Ch.addV v r c t)) W (by omega) enters_untilF (fun i W' ha hb hbl => ?_) (fun a b ha hab hb hp => ?_)).mono ?_
  · have hz := hbl.size
    exact untilF_any v r c to i B C W' h ⟨ha, by omega⟩ (by omega) (by omega) (below_nat hbl hB h0) (below_nat hbl hB h1) (below_nat hbl hB h2) (below_nat hbl hC h3)
  · rw [decide_eq_true_iff] at hp ⊢; exact Ch.until_mono h hto.2 ha hab hp
  · rintro e w' ⟨⟨k, hk, ho, rfl⟩, hb⟩
    exact ⟨⟨k, Ch.search_until h hto.2 (by omega) (by omega) ho.1 (fun t h1 h2 => ho.2 t h1 h2), rfl⟩, hb⟩

set_option maxHeartbeats 400000 in
theorem Until_ok (v r c to : Int) (w : World) (h : Ch.Ok v r c) (hto : 0 ≤ to ∧ to ≤ 18446744073709551615) :
    Calls Try.prog 17 #[.agg #[.int .u64 v, .int .u32 r, .int .u32 c], .int .u64 to] w fun e w' => e = .returned (.tuple #[.int .i64 (Ch.untilT v r c to), .int .i64 (Ch.untilE v r c to)]) ∧ Below w.heap.size w w' := by
  have k1 := Ch.okB_t h
  have hf := h.fits
  go_enter Try.func17, Try.ntmps17
  go_wp2_with fail
  refine (right_any _ _ _ _ hf).mono ?_; rintro e w1 ⟨rfl, hb1⟩; rw [k1]
  obtain ⟨hc1, hf1⟩ := bcell hb1
  have hz1 : w.heap.size + 1 < w1.heap.size := by have := hb1.size; simp at this; omega
  go_wp2_with fail
  refine (search_until v r c to _ _ _ h hto (by omega) hz1 (by rw [hc1 _ _ (by first | (simp; done) | (simp; omega))]; simp) (by rw [hc1 _ _ (by first | (simp; done) | (simp; omega))]; simp) (by rw [hc1 _ _ (by first | (simp; done) | (simp; omega))]; simp) (by rw [hc1 _ _ (by first | (simp; done) | (simp; omega))]; simp)).mono ?_
  rintro e w2 ⟨⟨k, hk, rfl⟩, hb2⟩
  rcases hk with ⟨hk, e1, e2⟩ | ⟨hk, e1, e2⟩
  all_goals
    have E1 := Lib.hid e1
    have E2 := Lib.hid e2
    clear e1 e2
    go_wp2_with fail
    go_ret2
    refine ⟨ret_i2 E1.out.symm E2.out.symm, ?_⟩
    repeat (first | exact Below.refl _ _ | refine Below.step ?_ (by assumption) | refine Below.setCell ?_ (by first | (simp; done) | (simp; omega) | omega) _ | refine Below.allocS ?_ _ | refine Below.drew ?_ | refine below_drewN ?_ _)
set_option maxHeartbeats 400000 in
theorem Until_bad (v r c to : Int) (w : World) (hf : Ch.Fits v r c) (h : ¬ Ch.Ok v r c) :
    Calls Try.prog 17 #[.agg #[.int .u64 v, .int .u32 r, .int .u32 c], .int .u64 to] w fun e w' => e = .returned (.tuple #[.int .i64 0, .int .i64 2]) ∧ Below w.heap.size w w' := by
  have k1 := Ch.okB_f h
  go_enter Try.func17, Try.ntmps17
  go_wp2_with fail
  refine (right_any _ _ _ _ hf).mono ?_; rintro e w1 ⟨rfl, hb1⟩; rw [k1]
  obtain ⟨hc1, hf1⟩ := bcell hb1
  go_wp2_with fail
  go_ret2
  refine ⟨rfl, ?_⟩
  repeat (first | exact Below.refl _ _ | refine Below.step ?_ (by assumption) | refine Below.setCell ?_ (by first | (simp; done) | (simp; omega) | omega) _ | refine Below.allocS ?_ _ | refine Below.drew ?_ | refine below_drewN ?_ _)
end Go.Proofs.Ytbddiagnijcmhaa
