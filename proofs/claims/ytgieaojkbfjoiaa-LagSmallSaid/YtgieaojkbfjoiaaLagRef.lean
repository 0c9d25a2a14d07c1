/-
  The walks of the reference of layer 39: Find, Total, Weight, Lag, Until, Next.
-/
import Derived.Test.YtgieaojkbfjoiaaLagZM
namespace Go.Proofs.Ytgieaojkbfjoiaa
open Go.RowKit Go.Maps Go.IntWalk Go.Lib Go.Sort
set_option linter.unusedVariables false
def FindP (l : List (Int × Int × Int)) (id : Int) (e : Ending) : Prop := (∃ k x, At l id k x ∧ e = .returned (.int .i64 (k : Nat))) ∨ (NotIn l id ∧ e = .returned (.int .i64 (-1)))
set_option maxRecDepth 100000 in
set_option maxHeartbeats 400000 in
theorem rFind_any (g cap n : Nat) (l : List (Int × Int × Int)) (id : Int) (w : World) (h : RunsAt w g l) (hn : l.length = n) (hb : n ≤ 2000) :
    Calls Try.prog 43 #[.slice (some ⟨g, 0, none⟩) n cap, .int .i64 id] w fun e w' => FindP l id e ∧ w = w' := by
  have H := Lib.hid h
  have HN := Lib.hid hn
  clear h hn
  go_enter Try.func43, Try.ntmps43
  go_wp2_with fail
  go_loop [5] (fun i => ∃ k : Nat, k ≤ n ∧ i = .int .i64 k ∧ ∀ x ∈ l.take k, x.1 ≠ id) (fun i => n - (intOf i).toNat)
  case atStart => exact ⟨0, Nat.zero_le _, rfl, fun x hx => by simp at hx⟩
  case round =>
    obtain ⟨k, hk, rfl, hne⟩ := hrel
    have HNE := Lib.hid hne
    clear hne
    by_cases hlt : k < n
    · obtain ⟨⟨x1, x2, x3⟩, hx⟩ : ∃ x, l[k]? = some x := ⟨_, List.getElem?_eq_getElem (by rw [HN.out]; exact hlt)⟩
      have q0 := (H.out k _ hx).1
      simp only at q0
      have hk0 : (0 : Int) ≤ (k : Int) := by omega
      have hkn : (k : Int) < (n : Int) := by omega
      have HX := Lib.hid hx
      clear hx
      by_cases he : x1 = id
      · have ht : (x1 == id) = true := by simpa using he
        go_wp2_with fail
        go_ret
        exact ⟨Or.inl ⟨k, _, ⟨HX.out, he⟩, rfl⟩, rfl⟩
      · have ht : (x1 == id) = false := by simpa using he
        go_wp2_with fail
        go_round
        case rel =>
          refine ⟨k + 1, by omega, by go_num, fun x hx => ?_⟩
          rw [List.take_add_one, HX.out] at hx
          rcases List.mem_append.1 hx with hx | hx
          · exact HNE.out x hx
          · have : x = (x1, x2, x3) := by simpa using hx
            rw [this]; exact he
        case measure => simp [intOf]; omega
    · obtain rfl : k = n := by omega
      go_wp2_with fail
      go_ret
      refine ⟨Or.inr ⟨fun x hx => HNE.out x ?_, rfl⟩, rfl⟩
      rw [← HN.out, List.take_length]; exact hx
set_option maxRecDepth 100000 in
set_option maxHeartbeats 400000 in
theorem rTotal_any (g cap n : Nat) (l : List (Int × Int × Int)) (w : World) (h : RunsAt w g l) (hn : l.length = n) (hg : Good l) :
    Calls Try.prog 49 #[.slice (some ⟨g, 0, none⟩) n cap] w fun e w' => e = .returned (.int .i64 (sumR l)) ∧ w' = w := by
  have H := Lib.hid h
  have HN := Lib.hid hn
  have HG := Lib.hid hg
  have hb : n ≤ 1024 := by rw [← hn]; exact hg.many
  clear h hn hg
  go_enter Try.func49, Try.ntmps49
  go_wp2_with fail
  go_loop [3, 4] (fun s i => ∃ k : Nat, k ≤ n ∧ i = .int .i64 k ∧ s = .int .i64 (sumR (l.take k))) (fun _ i => n - (intOf i).toNat)
  case atStart => exact ⟨0, Nat.zero_le _, rfl, rfl⟩
  case round =>
    obtain ⟨k, hk, rfl, rfl⟩ := hrel
    by_cases hlt : k < n
    · obtain ⟨⟨x1, x2, x3⟩, hx⟩ : ∃ x, l[k]? = some x := ⟨_, List.getElem?_eq_getElem (by rw [HN.out]; exact hlt)⟩
      have q0 := (H.out k _ hx).2.2
      simp only at q0
      have hk0 : (0 : Int) ≤ (k : Int) := by omega
      have hkn : (k : Int) < (n : Int) := by omega
      have HS := Lib.hid (sumW_take hx).2
      have htb := take_bounds HG.out.ea k
      have hB := HG.out.bounds hx
      have b1 := hB.w1
      have b2 := hB.w2
      have b3 := hB.w4
      have b4 := hB.r1
      have b5 := hB.r2
      have b6 := hB.r3
      simp only at b1 b2 b4 b5
      have hs : wrap64 (sumR (l.take k) + x3) = sumR (l.take k) + x3 := wrap64_in _ (by omega)
      clear hx hB htb b1 b2 b3 b4 b5 b6
      go_wp2_with fail
      go_round
      case rel => exact ⟨k + 1, by omega, by go_num, by rw [HS.out, hs]⟩
      case measure => simp [intOf]; omega
    · obtain rfl : k = n := by omega
      have htk : l.take k = l := by rw [← HN.out]; exact List.take_length
      rw [htk]
      clear htk
      go_wp2_with fail
      go_ret
      exact ⟨rfl, rfl⟩
set_option maxRecDepth 100000 in
set_option maxHeartbeats 400000 in
theorem rWeight_any (g cap n : Nat) (l : List (Int × Int × Int)) (w : World) (h : RunsAt w g l) (hn : l.length = n) (hg : Good l) :
    Calls Try.prog 50 #[.slice (some ⟨g, 0, none⟩) n cap] w fun e w' => e = .returned (.int .i64 (sumW l)) ∧ w' = w := by
  have H := Lib.hid h
  have HN := Lib.hid hn
  have HG := Lib.hid hg
  have hb : n ≤ 1024 := by rw [← hn]; exact hg.many
  clear h hn hg
  go_enter Try.func50, Try.ntmps50
  go_wp2_with fail
  go_loop [3, 4] (fun s i => ∃ k : Nat, k ≤ n ∧ i = .int .i64 k ∧ s = .int .i64 (sumW (l.take k))) (fun _ i => n - (intOf i).toNat)
  case atStart => exact ⟨0, Nat.zero_le _, rfl, rfl⟩
  case round =>
    obtain ⟨k, hk, rfl, rfl⟩ := hrel
    by_cases hlt : k < n
    · obtain ⟨⟨x1, x2, x3⟩, hx⟩ : ∃ x, l[k]? = some x := ⟨_, List.getElem?_eq_getElem (by rw [HN.out]; exact hlt)⟩
      have q0 := (H.out k _ hx).2.1
      simp only at q0
      have hk0 : (0 : Int) ≤ (k : Int) := by omega
      have hkn : (k : Int) < (n : Int) := by omega
      have HS := Lib.hid (sumW_take hx).1
      have htb := take_bounds HG.out.ea k
      have hB := HG.out.bounds hx
      have b1 := hB.w1
      have b2 := hB.w2
      have b3 := hB.w4
      have b4 := hB.r1
      have b5 := hB.r2
      have b6 := hB.r3
      simp only at b1 b2 b4 b5
      have hs : wrap64 (sumW (l.take k) + x2) = sumW (l.take k) + x2 := wrap64_in _ (by omega)
      clear hx hB htb b1 b2 b3 b4 b5 b6
      go_wp2_with fail
      go_round
      case rel => exact ⟨k + 1, by omega, by go_num, by rw [HS.out, hs]⟩
      case measure => simp [intOf]; omega
    · obtain rfl : k = n := by omega
      have htk : l.take k = l := by rw [← HN.out]; exact List.take_length
      rw [htk]
      clear htk
      go_wp2_with fail
      go_ret
      exact ⟨rfl, rfl⟩
theorem RunsAt.drewN {w : World} {g : Nat} {l : List (Int × Int × Int)} (h : RunsAt w g l) (q : Nat) : RunsAt (w.drewN q) g l := h
set_option maxRecDepth 100000 in
set_option maxHeartbeats 1000000 in
theorem rLag_any (g cap n : Nat) (l : List (Int × Int × Int)) (k : Nat) (x : Int × Int × Int) (w : World) (h : RunsAt w g l) (hn : l.length = n) (hg : Good l) (hx : l[k]? = some x) :
    Calls Try.prog 44 #[.slice (some ⟨g, 0, none⟩) n cap, .int .i64 (k : Nat)] w fun e w' => e = .returned (.int .i64 (lagV l x)) ∧ ∃ q, w' = w.drewN q := by
  obtain ⟨x1, x2, x3⟩ := x
  have hkn' : k < n := by rw [← hn]; exact (List.getElem?_eq_some_iff.1 hx).1
  have hb : n ≤ 1024 := by rw [← hn]; exact hg.many
  obtain ⟨q0, q1, q2⟩ := h k _ hx
  simp only at q0 q1 q2
  obtain ⟨b1, b2, b3, b4, b5, b6, b7, b8, b9, b10, b11, _⟩ := hg.bounds hx
  simp only at b1 b2 b3 b4 b5 b6 b7 b8 b9 b10 b11
  have E1 : IntKind.i64.wrap (sumR l * x2) = sumR l * x2 := i64_in _ (by omega)
  have E2 : IntKind.i64.wrap (x3 * sumW l) = x3 * sumW l := i64_in _ (by omega)
  have E3 : IntKind.i64.wrap (sumR l * x2 - x3 * sumW l) = sumR l * x2 - x3 * sumW l := i64_in _ (by omega)
  have A1 := Lib.hid fun nq => rTotal_any g cap n l (w.drewN nq) (h.drewN nq) hn hg
  have A2 := Lib.hid fun nq => rWeight_any g cap n l (w.drewN nq) (h.drewN nq) hn hg
  have hk0 : (0 : Int) ≤ (k : Int) := by omega
  have hkn : (k : Int) < (n : Int) := by omega
  clear h hn hg hx b8 b9 b10 b11
  go_enter Try.func44, Try.ntmps44
  go_wp2_with fail
  go_quiet ((first | (go_at_call 49; exact Calls.quiet_of_same (A1.out _)) | (go_at_call 50; exact Calls.quiet_of_same (A2.out _))))
  go_wp2_with fail
  go_ret
  exact ⟨rfl, _, rfl⟩
theorem ceil_law {L R : Int} (hL : 0 < L) (hR : 0 < R) : (if L / R * R < L then L / R + 1 else L / R) = (L + R - 1) / R := by
  have h1 := Int.mul_ediv_add_emod L R
  have h2 := Int.emod_nonneg L (by omega : R ≠ 0)
  have h3 := Int.emod_lt_of_pos L hR
  have h4 : L / R * R = R * (L / R) := Int.mul_comm _ _
  split
  · symm
    rw [Int.ediv_eq_iff_of_pos hR]
    simp only [Int.add_mul, Int.one_mul]
    omega
  · symm
    rw [Int.ediv_eq_iff_of_pos hR]
    omega
set_option maxRecDepth 100000 in
set_option maxHeartbeats 1000000 in
theorem rUntil_any (g cap n : Nat) (l : List (Int × Int × Int)) (k : Nat) (x : Int × Int × Int) (w : World) (h : RunsAt w g l) (hn : l.length = n) (hg : Good l) (hx : l[k]? = some x) :
    Calls Try.prog 45 #[.slice (some ⟨g, 0, none⟩) n cap, .int .i64 (k : Nat)] w fun e w' => e = .returned (.int .i64 (untilV l x)) ∧ ∃ q, w' = w.drewN q := by
  have hkn' : k < n := by rw [← hn]; exact (List.getElem?_eq_some_iff.1 hx).1
  have hb : n ≤ 1024 := by rw [← hn]; exact hg.many
  have q1 := (h k _ hx).2.1
  obtain ⟨b1, b2, b3, b4, b5, b6, b7, b8, b9, b10, b11, b12⟩ := hg.bounds hx
  have hlb : lagV l x ≤ 4503599627370496 ∧ -4611686018427387904 ≤ lagV l x := by unfold lagV; omega
  have E1 : IntKind.i64.wrap (sumW l - x.2.1) = sumW l - x.2.1 := i64_in _ (by omega)
  have A1 := Lib.hid fun nq => rLag_any g cap n l k x (w.drewN nq) (h.drewN nq) hn hg hx
  have A2 := Lib.hid fun nq => rWeight_any g cap n l (w.drewN nq) (h.drewN nq) hn hg
  have hk0 : (0 : Int) ≤ (k : Int) := by omega
  have hkn : (k : Int) < (n : Int) := by omega
  have hu : untilV l x = if lagV l x ≤ 0 then 0 else (lagV l x + (sumW l - x.2.1) - 1) / (sumW l - x.2.1) := rfl
  have HU := Lib.hid hu
  have hrest : 0 < lagV l x → 0 < sumW l - x.2.1 := b12
  have hr2 : sumW l - x.2.1 ≤ 67108864 := by omega
  clear h hn hg hx b8 b9 b10 b11 b12 hu b1 b2 b3 b4 b5 b6 b7
  go_enter Try.func45, Try.ntmps45
  go_wp2_with fail
  go_quiet ((first | (go_at_call 44; exact Calls.quiet_of (A1.out _)) | (go_at_call 50; exact Calls.quiet_of_same (A2.out _))))
  clear E1
  generalize lagV l x = L at *
  generalize sumW l - x.2.1 = R at *
  by_cases hL : L ≤ 0
  · go_wp2_with fail
    go_ret
    exact ⟨by rw [HU.out, if_pos hL]; rfl, _, rfl⟩
  · have hR := hrest (by omega)
    have hc := ceil_law (by omega : 0 < L) hR
    have hq0 : 0 ≤ L / R := Int.ediv_nonneg (by omega) (by omega)
    have hq1 : L / R ≤ L := Int.ediv_le_self _ (by omega)
    have hm1 := Int.ediv_mul_le L (by omega : R ≠ 0)
    have hm0 := Int.mul_nonneg hq0 (by omega : 0 ≤ R)
    have hnz : ¬ (R = 0) := by omega
    have hw : wrap64 (L / R * R) = L / R * R := wrap64_in _ (by omega)
    have HC := Lib.hid hc
    clear hc hrest
    by_cases hlt : L / R * R < L
    · go_wp2_with fail
      go_ret
      exact ⟨by rw [HU.out, if_neg (by omega), ← HC.out, if_pos hlt]; rfl, _, rfl⟩
    · go_wp2_with fail
      go_ret
      exact ⟨by rw [HU.out, if_neg (by omega), ← HC.out, if_neg (by omega)]; rfl, _, rfl⟩
end Go.Proofs.Ytgieaojkbfjoiaa
