/-
  Layer 18 (heap), the reference: Set.
-/
import Derived.Test.YtpbaegdmjmickaaHeapRc
namespace Go.Proofs.Ytpbaegdmjmickaa
open Go.RowKit Go.Maps Go.IntWalk Go.Lib
set_option linter.unusedVariables false
set_option linter.unusedSimpArgs false
theorem RefS.out {n : Int} {S : Items} (h : RefS n S) (id : Int) : RefS n (outL S id) := ⟨outL_nodup h.nod id, by
  have := List.length_filter_le (fun y : Int × Int => y.1 != id) S
  have := h.len
  unfold outL
  omega⟩
theorem NewR.wrap {w W0 W3 W' : World} {v v' : Value} {S S' : Items} {bx : Nat} (hn : NewR W0 W3 v S v' S') (hg : Below w.heap.size w W0) (hbx : w.heap.size = bx) (h2 : bx + 1 < W0.heap.size) (KF : Kept [bx, bx + 1] W3 W') : NewR w W' v S v' S' := fun F hF q => by
  refine ((hn (bx :: (bx + 1) :: F) (fun b hb => ?_) (q.step (Kept.of hg) (fun b hb => ?_))).kept (KF.mono (fun b hb => ?_))).sub (fun b hb => by simp [hb])
  · simp at hb
    rcases hb with hb | hb | hb
    · omega
    · omega
    · have := hF b hb; omega
  · simp at hb
    rcases hb with hb | hb | hb
    · exact Or.inr (by omega)
    · exact Or.inr (by omega)
    · exact Or.inl hb
  · simp at hb ⊢
    rcases hb with hb | hb <;> simp [hb]
theorem NewR.wrap2 {w W0 W3 W4 W5 W' : World} {v v' v2 : Value} {S S' S2 : Items} {bx : Nat} (hn : NewR W0 W3 v S v' S') (hg : Below w.heap.size w W0) (hbx : w.heap.size = bx) (h2 : bx + 1 < W0.heap.size) (K4 : Kept [bx, bx + 1] W3 W4) (hn5 : NewR W4 W5 v' S' v2 S2) (h3 : W0.heap.size ≤ W4.heap.size) (KF : Kept [bx, bx + 1] W5 W') : NewR w W' v S v2 S2 := fun F hF q => by
  have hm : ∀ b ∈ [bx, bx + 1], b ∈ bx :: (bx + 1) :: F := fun b hb => by
    simp at hb ⊢
    rcases hb with hb | hb <;> simp [hb]
  have hl : ∀ b ∈ bx :: (bx + 1) :: F, b < W0.heap.size := fun b hb => by
    simp at hb
    rcases hb with hb | hb | hb
    · omega
    · omega
    · have := hF b hb; have := hg.size; omega
  have h4 := (hn (bx :: (bx + 1) :: F) hl (q.step (Kept.of hg) (fun b hb => by
    simp at hb
    rcases hb with hb | hb | hb
    · exact Or.inr (by omega)
    · exact Or.inr (by omega)
    · exact Or.inl hb))).kept (K4.mono hm)
  exact ((hn5 _ (fun b hb => Nat.lt_of_lt_of_le (hl b hb) h3) h4).kept (KF.mono hm)).sub (fun b hb => by simp [hb])
theorem NewR.trans {A B C : World} {v v' v2 : Value} {S S' S2 : Items} (h : NewR A B v S v' S') (k : NewR B C v' S' v2 S2) (hs : A.heap.size ≤ B.heap.size) : NewR A C v S v2 S2 := fun F hF q => k F (fun b hb => Nat.lt_of_lt_of_le (hF b hb) hs) (h F hF q)
set_option maxRecDepth 100000 in
set_option maxHeartbeats 4000000 in
theorem rSet_any (a : Option Addr) (cap : Nat) (n id key : Int) (S : Items) (w : World) (h : HeldR encQ [] w (.slice a S.length cap) S) (hS : RefS n S) :
    Calls Try.prog 37 #[.agg #[.int .i64 n, .slice a S.length cap], .int .i64 id, .int .u64 key] w (RPutP w (.slice a S.length cap) S n (setS n S id key) (setRes n S id)) := by
  have H := Lib.hid h
  have HS := Lib.hid hS
  have AO := Lib.hid fun (W : World) (h : RecsAt encQ W (.slice a S.length cap) S) => rOut_any a cap n id S W h hS
  have AP := Lib.hid fun (a' : Option Addr) (cap' : Nat) (W : World) (h : RecsAt encQ W (.slice a' (outL S id).length cap') (outL S id)) => rPut_any a' cap' n id key (outL S id) W h (hS.out id)
  clear h hS
  obtain ⟨M, hM⟩ : ∃ M, M = S.length := ⟨_, rfl⟩
  have HM := Lib.hid hM.symm
  rw [← hM] at H AO ⊢
  clear hM
  obtain ⟨W0, hW0⟩ : ∃ W0, W0 = (w.alloc (.cells #[.int .i64 n, .slice a M cap] 58)).alloc (.cells #[.int .i64 0, .slice none 0 0] 58) := ⟨_, rfl⟩
  have HG0 := Lib.hid (show Grows w W0 by rw [hW0]; exact ((Grows.refl w).alloc _).alloc _)
  have c0 : W0.cell? ⟨w.heap.size, 0, none⟩ = some (.int .i64 n) := by rw [hW0]; exact cell_al _ (cell_nw _ _ _ 0 _ rfl)
  have c1 : W0.cell? ⟨w.heap.size, 1, none⟩ = some (.slice a M cap) := by rw [hW0]; exact cell_al _ (cell_nw _ _ _ 1 _ rfl)
  have r0 : W0.cell? ⟨w.heap.size + 1, 0, none⟩ = some (.int .i64 0) := by rw [hW0]; simp
  have r1 : W0.cell? ⟨w.heap.size + 1, 1, none⟩ = some (.slice none 0 0) := by rw [hW0]; simp
  have f0 : W0.frozen? ⟨w.heap.size, 0, none⟩ = false := by rw [hW0]; exact frz_later (below_a _ _) (frz_nw _ _ _ 0) (by simp)
  have f1 : W0.frozen? ⟨w.heap.size, 1, none⟩ = false := by rw [hW0]; exact frz_later (below_a _ _) (frz_nw _ _ _ 1) (by simp)
  have g0 : W0.frozen? ⟨w.heap.size + 1, 0, none⟩ = false := by rw [hW0]; simp
  have g1 : W0.frozen? ⟨w.heap.size + 1, 1, none⟩ = false := by rw [hW0]; simp
  have HSZ0 := Lib.hid (lt_of_cell r0)
  have HW0 := Lib.hid hW0
  clear hW0
  go_enter Try.func37, Try.ntmps37
  go_wp2_with fail
  rw [← HW0.out]
  refine (AO.out W0 (H.out.later HG0.out.below).recs).mono ?_
  rintro e W3 ⟨a3, cap3, rfl, hn3, hb3⟩
  replace f0 := frz_later hb3 f0 (lt_of_cell c0)
  replace f1 := frz_later hb3 f1 (lt_of_cell c1)
  replace g0 := frz_later hb3 g0 (lt_of_cell r0)
  replace g1 := frz_later hb3 g1 (lt_of_cell r1)
  replace c0 := cell_later hb3 c0
  replace c1 := cell_later hb3 c1
  replace r0 := cell_later hb3 r0
  replace r1 := cell_later hb3 r1
  have HN3 := Lib.hid hn3
  have HB3 := Lib.hid hb3
  have HW3 := Lib.hid (Below.step HG0.out.below hb3)
  generalize hbx : w.heap.size = bx at c0 c1 r0 r1 f0 f1 g0 g1 HSZ0 ⊢
  have HBX := Lib.hid hbx
  clear hbx hb3 hn3
  have e1 : setRes n S id = outRes n S id := rfl
  have HE1 := Lib.hid e1
  clear e1
  by_cases h0 : outRes n S id = 0
  · have e2 : outS n S id = outL S id := by unfold outS; rw [if_pos h0]
    have hhv : hasV n id = true := by
      cases e : hasV n id with
      | true => rfl
      | false => rw [(bad_out e).1] at h0; cases h0
    have e3 : setS n S id key = putL (outL S id) (id, key) := by unfold setS; rw [HE1.out, h0]; rfl
    obtain ⟨_, _, _, _, _, q1, q2, _⟩ := none_out (n := n) (S := outL S id) (id := id) hhv (by rw [keyL_outL, if_pos rfl])
    have Q1 := Lib.hid q1
    have Q2 := Lib.hid (q2 key)
    have E2 := Lib.hid e2
    have E3 := Lib.hid e3
    have H0 := Lib.hid h0
    rw [h0]
    rw [e2] at HN3 ⊢
    clear q1 q2 e2 e3 hhv h0
    obtain ⟨N, hN⟩ : ∃ N, N = (outL S id).length := ⟨_, rfl⟩
    have HN := Lib.hid hN
    rw [← hN] at HN3 AP ⊢
    clear hN
    go_wp2_with fail
    have K4 : Kept [bx, bx + 1] W3 ((W3.setCell ⟨bx, 0, none⟩ (.int .i64 n)).setCell ⟨bx, 1, none⟩ (.slice a3 N cap3)) := ((Kept.refl _ _).setCell (Or.inl (by simp)) _).setCell (Or.inl (by simp)) _
    have S03 := Lib.hid (Nat.le_trans HB3.out.size K4.size)
    have N4 := Lib.hid (NewR.wrap HN3.out HG0.out.below HBX.out HSZ0.out K4)
    have KH := Lib.hid K4
    have B4 := Lib.hid (Kept.stepB HW3.out (Nat.le_refl _) K4 (fun b hb => by have := HBX.out; simp at hb; omega))
    replace r0 := cell_set_ne (b' := bx) (o' := 1) (u := .slice a3 N cap3) (cell_set_ne (b' := bx) (o' := 0) (u := .int .i64 n) r0 (by simp)) (by simp)
    replace r1 := cell_set_ne (b' := bx) (o' := 1) (u := .slice a3 N cap3) (cell_set_ne (b' := bx) (o' := 0) (u := .int .i64 n) r1 (by simp)) (by simp)
    replace g0 : ((W3.setCell ⟨bx, 0, none⟩ (.int .i64 n)).setCell ⟨bx, 1, none⟩ (.slice a3 N cap3)).frozen? ⟨bx + 1, 0, none⟩ = false := by simp; exact g0
    replace g1 : ((W3.setCell ⟨bx, 0, none⟩ (.int .i64 n)).setCell ⟨bx, 1, none⟩ (.slice a3 N cap3)).frozen? ⟨bx + 1, 1, none⟩ = false := by simp; exact g1
    generalize (W3.setCell ⟨bx, 0, none⟩ (.int .i64 n)).setCell ⟨bx, 1, none⟩ (.slice a3 N cap3) = W4 at *
    clear c0 c1 f0 f1 K4
    refine (AP.out a3 cap3 W4 (N4.out [] (fun b hb => by cases hb) H.out).recs).mono ?_
    rintro e W5 ⟨a5, cap5, rfl, hn5, hb5⟩
    rw [Q2.out] at hn5 ⊢
    rw [Q1.out]
    replace g0 := frz_later hb5 g0 (lt_of_cell r0)
    replace g1 := frz_later hb5 g1 (lt_of_cell r1)
    replace r0 := cell_later hb5 r0
    replace r1 := cell_later hb5 r1
    have N5 := Lib.hid hn5
    have B5 := Lib.hid (Below.step B4.out hb5)
    have S4 := Lib.hid hb5.size
    obtain ⟨L, hL⟩ : ∃ L, L = (putL (outL S id) (id, key)).length := ⟨_, rfl⟩
    have HL := Lib.hid hL
    rw [← hL] at N5 ⊢
    clear hL hn5 hb5
    go_wp2_with fail
    refine bodyPost_ret (v := .tuple #[.agg #[.int .i64 n, .slice a5 L cap5], .int .i64 0]) (by simp [results, Try.results37, go_sem, *]) rfl ?_
    have KF : Kept [bx, bx + 1] W5 ((W5.setCell ⟨bx + 1, 0, none⟩ (.int .i64 n)).setCell ⟨bx + 1, 1, none⟩ (.slice a5 L cap5)) := ((Kept.refl _ _).setCell (Or.inl (by simp)) _).setCell (Or.inl (by simp)) _
    have hb := Kept.stepB B5.out (Nat.le_refl _) KF (fun b hb => by have := HBX.out; simp at hb; omega)
    have hN := NewR.wrap2 HN3.out HG0.out.below HBX.out HSZ0.out KH.out N5.out S03.out KF
    rw [HL.out] at hN hb ⊢
    rw [E3.out, HE1.out, H0.out]
    rw [HM.out.symm] at hN ⊢
    exact ⟨_, _, rfl, hN, hb⟩
  · have e2 : outS n S id = S := by unfold outS; rw [if_neg h0]
    have e3 : setS n S id key = S := by unfold setS; rw [HE1.out, if_neg h0]
    have E3 := Lib.hid e3
    have zz : (outRes n S id != 0) = true := by simpa using h0
    rw [e2, HM.out] at HN3 ⊢
    obtain ⟨er, her⟩ : ∃ er, er = outRes n S id := ⟨_, rfl⟩
    have HER := Lib.hid her
    rw [← her] at zz ⊢
    clear e2 e3 h0 her
    go_wp2_with fail
    refine bodyPost_ret (v := .tuple #[.agg #[.int .i64 n, .slice a3 M cap3], .int .i64 er]) (by simp [results, Try.results37, go_sem, *]) rfl ?_
    have KF : Kept [bx, bx + 1] W3 ((((W3.setCell ⟨bx, 0, none⟩ (.int .i64 n)).setCell ⟨bx, 1, none⟩ (.slice a3 M cap3)).setCell ⟨bx + 1, 0, none⟩ (.int .i64 n)).setCell ⟨bx + 1, 1, none⟩ (.slice a3 M cap3)) := ((((Kept.refl _ _).setCell (Or.inl (by simp)) _).setCell (Or.inl (by simp)) _).setCell (Or.inl (by simp)) _).setCell (Or.inl (by simp)) _
    have hb := Kept.stepB HW3.out (Nat.le_refl _) KF (fun b hb => by have := HBX.out; simp at hb; omega)
    rw [← HM.out] at HN3 KF hb ⊢
    rw [E3.out, HE1.out, ← HER.out]
    exact ⟨_, _, rfl, NewR.wrap HN3.out HG0.out.below HBX.out HSZ0.out KF, hb⟩
end Go.Proofs.Ytpbaegdmjmickaa
