/-
  The walk of near (not rounded).
-/
import Derived.Test.YtgieaojkbfjoiaaLagP
namespace Go.Proofs.Ytgieaojkbfjoiaa
open Go.RowKit Go.Maps Go.IntWalk Go.Lib Go.Sort
set_option linter.unusedVariables false
def pw (x : Int × Int × Int) : Int × Int := (x.1, x.2.1)
theorem bump_pw (l : List (Int × Int × Int)) (id t : Int) : (bump l id t).map pw = l.map pw := by
  simp only [bump, List.map_map]
  exact List.map_congr_left fun x _ => by simp only [Function.comp]; split <;> rfl
theorem ran0_pw (l : List (Int × Int)) : (ran0 l).map pw = l := by
  simp only [ran0, List.map_map]
  conv => rhs; rw [← List.map_id l]
  exact List.map_congr_left fun x _ => rfl
/-- the least weight of the first one and of the first k -/
def leastK (l : List (Int × Int)) (m : Int) (k : Nat) : Int := (l.take k).foldl (fun a x => min a x.2) m
theorem leastK_succ {l : List (Int × Int)} {m : Int} {k : Nat} {x : Int × Int} (h : l[k]? = some x) : leastK l m (k + 1) = min (leastK l m k) x.2 := by
  unfold leastK
  rw [List.take_add_one, h, Option.toList_some, List.foldl_append]; rfl
def leastW (l : List (Int × Int)) : Int := leastK l (l[0]?.getD (0, 0)).2 l.length
theorem MeterAt.drewN {w : World} {p g bm cap : Nat} {l : List (Int × Int × Int)} {n : Nat} (h : MeterAt w p g bm cap l n) (q : Nat) : MeterAt (w.drewN q) p g bm cap l n := h.frame rfl rfl rfl
theorem MeterAt.drew {w : World} {p g bm cap : Nat} {l : List (Int × Int × Int)} {n : Nat} (h : MeterAt w p g bm cap l n) : MeterAt w.drew p g bm cap l n := h.frame rfl rfl rfl
/-- all lags are near -/
structure Near (L : List (Int × Int × Int)) (least q : Int) : Prop where
  l0 : 1 ≤ least
  l1 : least ≤ 65536
  q0 : 0 ≤ q
  q1 : q ≤ 4096
  all : ∀ x ∈ L, -2199023255552 ≤ lagV L x ∧ lagV L x ≤ 2199023255552 ∧ lagV L x * least ≤ q * x.2.1 * sumW L ∧ -lagV L x * least ≤ q * x.2.1 * sumW L
theorem max_neg (a : Int) : (0 ≤ a → max a (-a) = a) ∧ (a < 0 → max a (-a) = -a) := by omega
set_option maxRecDepth 100000 in
set_option maxHeartbeats 2000000 in
theorem near_any (b off lcap : Nat) (l : List (Int × Int)) (p g bm cap : Nat) (L : List (Int × Int × Int)) (n : Nat) (q : Int) (w : World) (hl : L.map pw = l) (hn : l.length = n) (h0 : 0 < n) (h12 : n ≤ 12) (hp : PairsAt w b off l) (hM : MeterAt w p g bm cap L n) (hN : Near L (leastW l) q) :
    Calls Try.prog 20 #[.pointer (some ⟨p, 0, none⟩), .slice (some ⟨b, off, none⟩) n lcap, .int .i64 q, .bool false] w fun e w' => e = .returned (.bool true) ∧ Below w.heap.size w w' := by
  obtain ⟨⟨x1, x2⟩, hx⟩ : ∃ x, l[0]? = some x := ⟨_, List.getElem?_eq_getElem (by omega)⟩
  have q1 := (hp 0 _ hx).2
  simp only [Nat.zero_mul, Nat.add_zero] at q1
  have HE := Lib.hid (show leastW l = leastK l x2 n by unfold leastW; rw [hx, hn]; rfl)
  have HP := Lib.hid hp
  have HL := Lib.hid hl
  have HN := Lib.hid hn
  have HM := Lib.hid hM
  have HNr := Lib.hid hN
  obtain ⟨n0, n1, n2, n3, _⟩ := hN
  clear hp hl hn hM hx
  go_enter Try.func20, Try.ntmps20
  go_wp2_with fail
  go_loopw [9, 23] (fun m i wr => ∃ k : Nat, k ≤ n ∧ i = .int .i64 k ∧ m = .int .i64 (leastK l x2 k) ∧ Below w.heap.size w wr) (fun _ i _ => n - (intOf i).toNat)
  case atStart => exact ⟨0, Nat.zero_le _, rfl, rfl, Below.refl _ _⟩
  case round =>
    obtain ⟨k, hk, rfl, rfl, hb⟩ := hrel
    by_cases hlt : k < n
    · obtain ⟨⟨y1, y2⟩, hy⟩ : ∃ x, l[k]? = some x := ⟨_, List.getElem?_eq_getElem (by rw [HN.out]; exact hlt)⟩
      obtain ⟨r0, r1⟩ := HP.out k _ hy
      replace r0 := cell_later hb r0
      replace r1 := cell_later hb r1
      simp only at r0 r1
      have HS := Lib.hid (leastK_succ (m := x2) hy)
      have hk0 : (0 : Int) ≤ (k : Int) := by omega
      have hkn : (k : Int) < (n : Int) := by omega
      clear hy
      go_wp2_with fail
      go_roundw
      case rel => exact ⟨k + 1, by omega, by go_num, by rw [HS.out], Below.allocS hb _⟩
      case measure => simp [intOf]; omega
    · obtain rfl : k = n := by omega
      rw [← HE.out]
      clear hk hlt
      obtain ⟨wo, rfl⟩ : ∃ wo : World, wo = wr := ⟨_, rfl⟩
      go_wp2_with fail
      go_loopw [34] (fun i wr => ∃ j : Nat, j ≤ k ∧ i = .int .i64 j ∧ Below w.heap.size w wr) (fun i _ => k - (intOf i).toNat)
      case atStart => exact ⟨0, Nat.zero_le _, rfl, hb⟩
      case round =>
        obtain ⟨j, hj, rfl, hbr⟩ := hrel
        by_cases hlt : j < k
        · obtain ⟨⟨y1, y2, y3⟩, hy⟩ : ∃ x, L[j]? = some x := ⟨_, List.getElem?_eq_getElem (by rw [HM.out.len]; exact hlt)⟩
          have hyl : l[j]? = some (y1, y2) := by rw [← HL.out, List.getElem?_map, hy]; rfl
          obtain ⟨r0, r1⟩ := HP.out j _ hyl
          replace r0 := cell_later hbr r0
          replace r1 := cell_later hbr r1
          simp only at r0 r1
          have hB := HM.out.good.bounds hy
          have hy2 := hB.w2
          have hy1 := hB.w1
          have hw4 := hB.w4
          have hw3 := hB.w3
          simp only at hy1 hy2 hw3
          obtain ⟨e1, e2, e3, e4⟩ := HNr.out.all _ (List.mem_of_getElem? hy)
          have hm := HM.out.good.each _ (List.mem_of_getElem? hy)
          have hlag : lagR L y1 = lagV L (y1, y2, y3) := by unfold lagR; rw [show tsk L y1 = _ from tsk_at HM.out.good hy]
          have hid := Lib.hid (hasId_iff.2 ⟨_, List.mem_of_getElem? hy, (rfl : (y1, y2, y3).1 = y1)⟩)
          have HMr := Lib.hid ((HM.out.below hbr).below (below_a wr (.cells #[.int .i64 y1, .int .i64 y2] 28)))
          have z0 := cell_nw wr #[.int .i64 y1, .int .i64 y2] 28 0 _ rfl
          have z1 := cell_nw wr #[.int .i64 y1, .int .i64 y2] 28 1 _ rfl
          have hba := Below.allocS hbr (.cells #[.int .i64 y1, .int .i64 y2] 28)
          have hk0 : (0 : Int) ≤ (j : Int) := by omega
          have hkn : (j : Int) < (k : Int) := by omega
          rw [← hlag] at e1 e2 e3 e4
          clear hy hyl hB hlag hbr
          simp only at hm e3 e4
          go_wp2_with fail
          generalize wr.alloc (.cells #[.int .i64 y1, .int .i64 y2] 28) = wa at *
          refine (Lag_fn p g bm cap L k y1 wa HMr.out (WalkArith.wf_i64 (by omega))).mono ?_
          rintro e w5 ⟨rfl, hb5⟩
          rw [hid.out]
          replace z0 := cell_later hb5 z0
          replace z1 := cell_later hb5 z1
          have HM5 := Lib.hid (HMr.out.below hb5)
          have hba5 := Below.step hba hb5
          clear hba hb5
          generalize lagR L y1 = own at *
          have hmx : 0 ≤ max own (-own) ∧ max own (-own) ≤ 2199023255552 := by omega
          have b1 := mul_bounds (b := leastW l) (B := 65536) hmx.1 hmx.2 (by omega) n1
          have b2 := mul_bounds (a := q) (b := y2) (A := 4096) (B := 65536) n2 n3 (by omega) hy2
          have b3 := mul_bounds (a := q * y2) (b := sumW L) (A := 268435456) (B := 67108864) b2.1 (by omega) (by omega) hw4
          have hcmp : max own (-own) * leastW l ≤ q * y2 * sumW L := by
            rcases Int.lt_or_le own 0 with h | h
            · rw [(max_neg own).2 h]; exact e4
            · rw [(max_neg own).1 h]; exact e3
          have E0 : IntKind.i64.wrap (-own) = -own := i64_in _ (by omega)
          have E1 : IntKind.i64.wrap (max own (-own) * leastW l) = max own (-own) * leastW l := i64_in _ (by omega)
          have E2 : IntKind.i64.wrap (q * y2) = q * y2 := i64_in _ (by omega)
          have E3 : IntKind.i64.wrap (q * y2 * sumW L) = q * y2 * sumW L := i64_in _ (by omega)
          have E4 : decide (q * y2 * sumW L < max own (-own) * leastW l) = false := decide_eq_false (by omega)
          have A5 := Lib.hid fun nq => (Weight_any p g bm cap L k (w5.drewN nq) (HM5.out.drewN nq)).mono fun e w' (h : e = _ ∧ w5.drewN nq = w') => (⟨h.1, h.2.symm⟩ : e = _ ∧ w' = w5.drewN nq)
          clear b1 b2 b3 hcmp e1 e2 e3 e4 hmx n0 n1 n2 n3 hw3 hw4 hy1 hy2 hm
          go_wp2_with fail
          go_quiet ((go_at_call 25; exact Calls.quiet_of_same (A5.out _)))
          go_wp2_with fail
          go_roundw
          case rel => exact ⟨j + 1, by omega, by go_num, below_drewN hba5 _⟩
          case measure => simp [intOf]; omega
        · obtain rfl : j = k := by omega
          go_wp2_with fail
          go_ret
          exact ⟨rfl, hbr⟩
end Go.Proofs.Ytgieaojkbfjoiaa
