/-
  Layer 25's statements: alone.
-/
import Derived.Test.YtfgmglghlapbcaaGreatPickFl
namespace Go.Proofs.YtfgmglghlapbcaaGreat
open Go.RowKit Go.Maps Go.IntWalk Go.Lib Go.Sort Go.Shelf
set_option linter.unusedVariables false
set_option linter.unusedSimpArgs false
/-- a queue whose members are tasks alone -/
theorem alone_tasks {s : TSt} (h : TOk s) {g : Nat} (hm : mkB s 0 g = false) (hne : (s.M g).isEmpty = false) : firstI (s.M g) < 65536 := by
  rcases h.core.ids g _ (first_in hne) with ⟨_, _, q⟩ | ⟨c, c0, cn, ce, cp⟩
  · omega
  · exfalso
    have hs := h.seat c c0 cn
    unfold Seated at hs
    rw [cp, ← ce, first_in hne] at hs
    have : mkB s 0 g = true := mkB_iff.2 ⟨c, Nat.zero_le _, c0, cn, cp, by unfold nonE; exact hs.symm⟩
    rw [hm] at this
    cases this
set_option maxRecDepth 100000 in
set_option maxHeartbeats 4000000 in
theorem alone_at {t bgs cgs : Nat} {F : List Nat} {s : TSt} {Gs : Grps} (w : World) (g : Nat) (h : TreeIn w t F s) (hok : TOk s) (hr : RightG Gs) (hG : parG s.Gs = parG Gs) (hn : s.n = Gs.length) (hV : HeldR encG F w (.slice (some ⟨bgs, 0, none⟩) Gs.length cgs) Gs) :
    Calls Tryz.prog 26 #[.slice (some ⟨bgs, 0, none⟩) Gs.length cgs, .pointer (some ⟨t, 0, none⟩), .int .i64 (g : Int)] w fun e w' => e = .returned (.bool (!(mkB s 0 g))) ∧ Below w.heap.size w w' := by
  have A1 := busy_at w h hok hr hG hn hV.recs
  have HPC := Lib.hid (ParC.of hr hG hV)
  have hpos := hr.pos
  have hle := hr.le
  unfold BusyP at A1
  rw [← hn] at HPC A1 hpos hle ⊢
  obtain ⟨n, hn'⟩ : ∃ n, n = s.n := ⟨_, rfl⟩
  rw [← hn'] at HPC A1 hpos hle ⊢
  have HN := Lib.hid hn'
  have HF := Lib.hid h.lt
  replace A1 := Lib.hid A1
  clear h hok hr hG hn hV hn'
  go_enter Tryz.func26, Tryz.ntmps26
  go_wp2_with fail
  refine A1.out.mono ?_; clear A1; rintro e w1 ⟨bz, rfl, hz1, hz2, hz3, hb1⟩
  have BZ := Lib.hid hz3
  replace HPC := Lib.hid (HPC.out.later hb1)
  have HB1 := Lib.hid hb1
  clear hz1 hz2 hz3 hb1
  go_wp2_with fail
  go_loopw [14] (fun i wr => ∃ k : Nat, k ≤ n ∧ i = .int .i64 k ∧ Below w1.heap.size w1 wr ∧ Hid (∀ c, c < k → ¬ (0 < c ∧ parG s.Gs c = g ∧ nonE s c = true))) (fun i _ => n - (intOf i).toNat)
  case atStart => exact ⟨0, Nat.zero_le _, rfl, Below.refl _ _, Lib.hid fun c hc => by omega⟩
  case round =>
    obtain ⟨k, hk, rfl, hb, HNO⟩ := hrel
    have HB := Lib.hid hb
    by_cases hlt : k < n
    · have hki : (k : Int) < (n : Int) := by omega
      have z0 : decide ((k : Int) < (n : Int)) = true := decide_eq_true hki
      have hk0 : (0 : Int) ≤ (k : Int) := by omega
      have q1 := cell_later hb (HPC.out.2.2 k hlt)
      have q2 := cell_later hb (BZ.out k hlt)
      obtain ⟨pk, hpk⟩ : ∃ p, p = parG s.Gs k := ⟨_, rfl⟩
      obtain ⟨nb, hnb⟩ : ∃ b, b = nonE s k := ⟨_, rfl⟩
      rw [← hpk] at q1
      rw [← hnb] at q2
      have HPK := Lib.hid hpk
      have HNB := Lib.hid hnb
      clear hb hpk hnb
      by_cases h0 : 0 < k
      · have v1 : decide ((k : Int) > 0) = true := decide_eq_true (by omega)
        have v2 : decide (0 < k) = true := decide_eq_true h0
        have v3 : (0 : Int) < (k : Int) := by omega
        by_cases hpg : pk = g
        · have v4 : ((pk : Int) == (g : Int)) = true := by simp; omega
          have v5 : (pk == g) = true := by simp; exact hpg
          cases nb with
          | false =>
            clear hpg
            go_wp2_with fail
            go_roundw
            case rel => exact ⟨k + 1, by omega, by go_num, HB.out, Lib.hid fun c hc => by
              by_cases q : c = k
              · subst q; intro z; have := HNB.out; rw [z.2.2] at this; cases this
              · exact HNO.out c (by omega)⟩
            case measure => simp [intOf]; omega
          | true =>
            have HM := Lib.hid (show mkB s 0 g = true from mkB_iff.2 ⟨k, Nat.zero_le _, h0, by rw [← HN.out]; exact hlt, by rw [← HPK.out]; exact hpg, HNB.out.symm⟩)
            clear hpg
            go_wp2_with fail
            go_ret
            exact ⟨by rw [HM.out]; rfl, Below.step HB1.out HB.out⟩
        · have v4 : ((pk : Int) == (g : Int)) = false := by simp; omega
          have v5 : (pk == g) = false := by simp; exact hpg
          have HPG := Lib.hid hpg
          clear hpg
          go_wp2_with fail
          go_roundw
          case rel => exact ⟨k + 1, by omega, by go_num, HB.out, Lib.hid fun c hc => by
            by_cases q : c = k
            · subst q; intro z; exact HPG.out (HPK.out.trans z.2.1)
            · exact HNO.out c (by omega)⟩
          case measure => simp [intOf]; omega
      · have v1 : decide ((k : Int) > 0) = false := decide_eq_false (by omega)
        have v2 : decide (0 < k) = false := decide_eq_false h0
        have v3 : ¬ (0 : Int) < (k : Int) := by omega
        have HH0 := Lib.hid h0
        go_wp2_with fail
        go_roundw
        case rel => exact ⟨k + 1, by omega, by go_num, HB.out, Lib.hid fun c hc => by
          by_cases q : c = k
          · subst q; intro z; exact HH0.out z.1
          · exact HNO.out c (by omega)⟩
        case measure => simp [intOf]; omega
    · have HKN := Lib.hid (show k = n by omega)
      have z0 : decide ((k : Int) < (n : Int)) = false := decide_eq_false (by omega)
      have z1 : ¬ (k : Int) < (n : Int) := by omega
      have HM := Lib.hid (show mkB s 0 g = false by
        cases e : mkB s 0 g with
        | false => rfl
        | true =>
          obtain ⟨c, _, c0, cn, cp, ce⟩ := mkB_iff.1 e
          exact absurd ⟨c0, cp, ce⟩ (HNO.out c (by rw [HKN.out, HN.out]; exact cn)))
      clear hb hk hlt
      go_wp2_with fail
      go_ret
      exact ⟨by rw [HM.out]; rfl, Below.step HB1.out HB.out⟩
end Go.Proofs.YtfgmglghlapbcaaGreat
