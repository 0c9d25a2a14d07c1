/-
  The walks of layer 39: the reference's Right; theirs.
-/
import Derived.Test.YtgieaojkbfjoiaaLagSel
namespace Go.Proofs.Ytgieaojkbfjoiaa
open Go.RowKit Go.Maps Go.IntWalk Go.Lib Go.Sort
set_option linter.unusedVariables false
set_option maxRecDepth 100000 in
set_option maxHeartbeats 400000 in
theorem rRight_nil (a : Option Addr) (cap : Nat) (w : World) : Calls Try.prog 37 #[.slice a 0 cap] w fun e w' => e = .returned (.int .i64 2) ∧ w' = w := by
  go_enter Try.func37, Try.ntmps37
  go_wp2_with fail
  go_ret
  exact ⟨rfl, rfl⟩
set_option maxRecDepth 100000 in
set_option maxHeartbeats 1000000 in
theorem rRight_some (g cap n : Nat) (l : List (Int × Int)) (w : World) (h : RunsAt w g (ran0 l)) (hn : l.length = n) (h0 : 0 < n) (h1 : n ≤ 2000) :
    Calls Try.prog 37 #[.slice (some ⟨g, 0, none⟩) n cap] w fun e w' => e = .returned (.int .i64 (newC l)) ∧ ∃ q, w' = w.drewN q := by
  have H := Lib.hid h
  have HN := Lib.hid hn
  have hz : ((n : Int) == 0) = false := by simp; omega
  clear h hn
  go_enter Try.func37, Try.ntmps37
  go_wp2_with fail
  go_loopw [3] (fun i wr => ∃ k q : Nat, k ≤ n ∧ i = .int .i64 k ∧ okFrom 0 (l.take k) = true ∧ wr = w.drewN q) (fun i _ => n - (intOf i).toNat)
  case atStart => exact ⟨0, 0, Nat.zero_le _, rfl, rfl, rfl⟩
  case round =>
    obtain ⟨k, q, hk, rfl, hok, rfl⟩ := hrel
    by_cases hlt : k < n
    · obtain ⟨⟨x1, x2⟩, hx⟩ : ∃ x, l[k]? = some x := ⟨_, List.getElem?_eq_getElem (by rw [HN.out]; exact hlt)⟩
      have hx0 : (ran0 l)[k]? = some (x1, x2, 0) := by simp [ran0, hx]
      obtain ⟨q0, q1, _⟩ := H.out k _ hx0
      simp only at q0 q1
      have hk0 : (0 : Int) ≤ (k : Int) := by omega
      have hkn : (k : Int) < (n : Int) := by omega
      have HOK := Lib.hid (okFrom_take hx)
      have HO := Lib.hid hok
      have hla := lastOf_nn hok (by decide : (0 : Int) ≤ 0)
      by_cases a1 : x1 < 1
      · clear hx hx0 hok
        have HB := Lib.hid (newC_bad (l := l) (k := k + 1) (by rw [HOK.out]; simp [okOne]; omega))
        go_wp2_with fail
        go_ret
        exact ⟨by rw [HB.out]; rfl, _, rfl⟩
      · by_cases a2 : 65535 < x1
        · clear hx hx0 hok
          have HB := Lib.hid (newC_bad (l := l) (k := k + 1) (by rw [HOK.out]; simp [okOne]; omega))
          go_wp2_with fail
          go_ret
          exact ⟨by rw [HB.out]; rfl, _, rfl⟩
        · by_cases a3 : x2 < 1
          · clear hx hx0 hok
            have HB := Lib.hid (newC_bad (l := l) (k := k + 1) (by rw [HOK.out]; simp [okOne]; omega))
            go_wp2_with fail
            go_ret
            exact ⟨by rw [HB.out]; rfl, _, rfl⟩
          · by_cases a4 : 65536 < x2
            · clear hx hx0 hok
              have HB := Lib.hid (newC_bad (l := l) (k := k + 1) (by rw [HOK.out]; simp [okOne]; omega))
              go_wp2_with fail
              go_ret
              exact ⟨by rw [HB.out]; rfl, _, rfl⟩
            · by_cases hk00 : k = 0
              · subst hk00
                have HOK2 := Lib.hid (show okFrom 0 (l.take 1) = true by rw [HOK.out]; simp [okOne, okFrom, lastOf]; omega)
                simp only [Nat.zero_mul, Nat.zero_add] at q0 q1
                clear hx hx0 hok hk0 hla HOK
                go_wp2_with fail
                go_quiet (fail)
                go_wp2_with fail
                go_roundw
                case rel => exact ⟨1, _, by omega, rfl, HOK2.out, rfl⟩
                case measure => simp [intOf]; omega
              · obtain ⟨⟨y1, y2⟩, hy⟩ : ∃ x, l[k - 1]? = some x := ⟨_, List.getElem?_eq_getElem (by rw [HN.out]; omega)⟩
                have hy0 : (ran0 l)[k - 1]? = some (y1, y2, 0) := by simp [ran0, hy]
                have p0 := (H.out (k - 1) _ hy0).1
                simp only at p0
                have hlast : lastOf 0 (l.take k) = y1 := by
                  have := lastOf_take hy
                  rwa [show k - 1 + 1 = k by omega] at this
                have hj1 : ((k : Int) - 1).toNat = k - 1 := by omega
                have hj2 : (0 : Int) ≤ (k : Int) - 1 := by omega
                have hj3 : (k : Int) - 1 < (n : Int) := by omega
                have hj4 : decide (0 < k) = true := decide_eq_true (by omega)
                have hj5 : IntKind.i64.wrap ((k : Int) - 1) = (k : Int) - 1 := i64_in _ (by omega)
                by_cases a5 : x1 ≤ y1
                · have HB := Lib.hid (newC_bad (l := l) (k := k + 1) (by rw [HOK.out, hlast]; simp [okOne]; omega))
                  have ht : decide (x1 ≤ y1) = true := decide_eq_true a5
                  clear hx hx0 hok hy hy0 hlast hla HOK
                  go_wp2_with fail
                  go_quiet (fail)
                  go_wp2_with fail
                  go_ret
                  exact ⟨by rw [HB.out]; rfl, _, World.drewN_drewN ..⟩
                · have HOK2 := Lib.hid (show okFrom 0 (l.take (k + 1)) = true by rw [HOK.out, hlast, HO.out]; simp [okOne]; omega)
                  have ht : decide (x1 ≤ y1) = false := decide_eq_false a5
                  clear hx hx0 hok hy hy0 hlast hla HOK
                  go_wp2_with fail
                  go_quiet (fail)
                  go_wp2_with fail
                  go_roundw
                  case rel => exact ⟨k + 1, _, by omega, by go_num, HOK2.out, rfl⟩
                  case measure => simp [intOf]; omega
    · obtain rfl : k = n := by omega
      have htk : l.take k = l := by rw [← HN.out]; exact List.take_length
      have hne : l ≠ [] := fun e => by have := HN.out; rw [e] at this; simp at this; omega
      rw [htk] at hok
      by_cases hm : 1024 < k
      · have HC := Lib.hid (show newC l = 5 by rw [newC, if_neg hne, if_neg (by rw [hok]; decide), if_pos (by rw [HN.out]; exact hm)])
        clear hok htk hne
        go_wp2_with fail
        go_ret
        exact ⟨by rw [HC.out]; rfl, _, rfl⟩
      · have HC := Lib.hid (show newC l = 0 by rw [newC, if_neg hne, if_neg (by rw [hok]; decide), if_neg (by rw [HN.out]; exact hm)])
        clear hok htk hne
        go_wp2_with fail
        go_ret
        exact ⟨by rw [HC.out]; rfl, _, rfl⟩
def TheirsP (l : List (Int × Int)) (w : World) (e : Ending) (w' : World) : Prop :=
  ∃ a cap, e = .returned (.slice a l.length cap) ∧ (0 < l.length → ∃ g, a = some ⟨g, 0, none⟩ ∧ RunsAt w' g (ran0 l) ∧ w.heap.size ≤ g) ∧ Below w.heap.size w w'
set_option maxRecDepth 100000 in
set_option maxHeartbeats 400000 in
theorem theirs_nil (a : Option Addr) (cap : Nat) (w : World) : Calls Try.prog 36 #[.slice a 0 cap] w (TheirsP [] w) := by
  go_enter Try.func36, Try.ntmps36
  go_wp2_with fail
  refine wp_loop_rounds 1 ?_
  rw [rounds_succ]
  go_wp2_with fail
  go_ret
  exact ⟨none, 0, rfl, fun h => by simp at h, Below.refl _ _⟩
set_option maxRecDepth 100000 in
set_option maxHeartbeats 1000000 in
theorem theirs_some (b off cap n : Nat) (l : List (Int × Int)) (w : World) (h : PairsAt w b off l) (hn : l.length = n) (h0 : 0 < n) (h1 : n ≤ 2000) :
    Calls Try.prog 36 #[.slice (some ⟨b, off, none⟩) n cap] w (TheirsP l w) := by
  obtain ⟨i0, hi, hz0, hz1, hz2⟩ := info_parts infoTask
  have H := Lib.hid h
  have HN := Lib.hid hn
  clear h hn
  go_enter Try.func36, Try.ntmps36
  go_wp2_with fail
  go_loopw [3, 8] (fun v i wr => ∃ k : Nat, k ≤ n ∧ i = .int .i64 k ∧ wr.ownsRow w.heap.size 83 3 v k (flatR (ran0 (l.take k))) ∧ Below w.heap.size w wr) (fun _ i _ => n - (intOf i).toNat)
  case atStart => exact ⟨0, Nat.zero_le _, rfl, by rw [show flatR (ran0 (l.take 0)) = [] from List.eq_nil_of_length_eq_zero (by rw [flatR_len]; rfl)]; exact World.ownsRow_nil _ _ _ _, Below.refl _ _⟩
  case round =>
    obtain ⟨k, hk, rfl, hown, hbr⟩ := hrel
    have hbs := hbr.size
    by_cases hlt : k < n
    · obtain ⟨⟨x1, x2⟩, hx⟩ : ∃ x, l[k]? = some x := ⟨_, List.getElem?_eq_getElem (by rw [HN.out]; exact hlt)⟩
      obtain ⟨q0, q1⟩ := H.out k _ hx
      replace q0 := cell_later hbr q0
      replace q1 := cell_later hbr q1
      simp only at q0 q1
      have hk0 : (0 : Int) ≤ (k : Int) := by omega
      have hkn : (k : Int) < (n : Int) := by omega
      have HO := Lib.hid hown
      have HS := Lib.hid (ran0_take hx)
      clear hx hown
      go_wp2_with (at_builtin; refine wpList_append_own _ rfl (.tmp 12) (.tmp 18) 72 rfl w.heap.size 83 i0 (.agg #[.int .i64 0, .int .i64 0, .int .i64 0]) 3 24 Try.underlying72 hi hz0 hz1 hz2 rfl (by decide) _ _ _ rfl ((HO.out.alloc _).alloc _) ⟨wr.heap.size + 1, 0, none⟩ 1 1 [.int .i64 x1, .int .i64 x2, .int .i64 0] rfl rfl ?c1 three_one ?c3 ?c4 ?c5 ?_)
      case c3 => unfold maxLen; omega
      case c4 => omega
      case c5 => omega
      intro v' w5 hown5 hgrow5 _
      have hb5 : Below w.heap.size w w5 := (Below.allocS (Below.allocS hbr _) _).grown hgrow5 (by simp; omega) (fun i hi => (HO.out.lt i hi).1)
      obtain ⟨g5, c5, rfl⟩ := own_some hown5
      have HO5 := Lib.hid hown5
      clear hown5 hgrow5
      go_wp2_with fail
      go_roundw
      case rel => exact ⟨k + 1, by omega, by go_num, by rw [HS.out, flatR_snoc]; exact HO5.out, hb5⟩
      case measure => simp [intOf]; omega
    · obtain rfl : k = n := by omega
      have htk : l.take k = l := by rw [← HN.out]; exact List.take_length
      rw [htk] at hown
      obtain ⟨m, hm⟩ : ∃ m, k = m + 1 := ⟨k - 1, by omega⟩
      rw [hm] at hown
      obtain ⟨g, capv, rfl⟩ := own_some hown
      rw [← hm] at hown
      have hgl := (hown.lt g rfl).1
      have HP := Lib.hid (own_runs (by rw [ran0_len]; exact HN.out) hown)
      have HM := Lib.hid hm
      clear hown htk hm
      go_wp2_with fail
      go_ret
      exact ⟨some ⟨g, 0, none⟩, capv, by rw [HN.out, HM.out]; rfl, fun _ => ⟨g, rfl, HP.out, hgl⟩, hbr⟩
end Go.Proofs.Ytgieaojkbfjoiaa
