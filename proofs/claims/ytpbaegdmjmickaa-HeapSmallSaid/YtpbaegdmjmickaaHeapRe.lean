/-
  Layer 18 (heap), the reference: Below.
-/
import Derived.Test.YtpbaegdmjmickaaHeapRd
namespace Go.Proofs.Ytpbaegdmjmickaa
open Go.RowKit Go.Maps Go.IntWalk Go.Lib
set_option linter.unusedVariables false
set_option linter.unusedSimpArgs false
theorem own_shape {w : World} {base n size : Nat} {e : TypeId} {v : Value} {xs : List Value} (h : w.ownsRow base e size v n xs) : ∃ a cap, v = .slice a n cap ∧ n ≤ cap := by
  rcases h.2 with ⟨rfl, h0⟩ | ⟨g, cap, cur, rfl, _, _, h5, _⟩
  · exact ⟨none, 0, by rw [h0], by omega⟩
  · exact ⟨_, cap, rfl, h5⟩
def RBelP (w : World) (S : Items) (e : Ending) (w' : World) : Prop := ∃ a cap, e = .returned (.slice a S.length cap) ∧ RecsAt encQ w' (.slice a S.length cap) S ∧ Below w.heap.size w w'
theorem belowL_succ {S : Items} {k : Nat} (hk : k < S.length) (x : Int × Int) : belowL (S.take (k + 1)) x = belowL (S.take k) x ++ (if befB S[k]! x = true then [S[k]!] else []) := by
  rw [take_succ_at hk]
  unfold belowL
  rw [List.filter_append]
  unfold befB
  by_cases h : ltI S[k]! x
  · rw [List.filter_cons_of_pos (by simpa using h), if_pos (by simpa using h)]; rfl
  · rw [List.filter_cons_of_neg (by simpa using h), if_neg (by simpa using h)]; rfl
set_option maxRecDepth 100000 in
set_option maxHeartbeats 4000000 in
theorem rBelow_any (a : Option Addr) (cap : Nat) (n : Int) (x : Int × Int) (S : Items) (w : World) (h : RecsAt encQ w (.slice a S.length cap) S) (hS : S.length ≤ 400000) :
    Calls Try.prog 39 #[.agg #[.int .i64 n, .slice a S.length cap], .agg #[.int .i64 x.1, .int .u64 x.2]] w (RBelP w (belowL S x)) := by
  obtain ⟨i0, hi, hz0, hz1, hz2⟩ := info_parts infoRItem
  obtain ⟨M, hM⟩ : ∃ M, M = S.length := ⟨_, rfl⟩
  have HM := Lib.hid hM.symm
  have H := Lib.hid h
  rw [← hM] at H hS ⊢
  clear h hM
  obtain ⟨W, hW⟩ : ∃ W, W = (w.alloc (.cells #[.int .i64 n, .slice a M cap] 58)).alloc (.cells #[.int .i64 x.1, .int .u64 x.2] 77) := ⟨_, rfl⟩
  have HG := Lib.hid (show Grows w W by rw [hW]; exact ((Grows.refl w).alloc _).alloc _)
  have c1 : W.cell? ⟨w.heap.size, 1, none⟩ = some (.slice a M cap) := by rw [hW]; exact cell_al _ (cell_nw _ _ _ 1 _ rfl)
  have x0 : W.cell? ⟨w.heap.size + 1, 0, none⟩ = some (.int .i64 x.1) := by rw [hW]; simp
  have x1 : W.cell? ⟨w.heap.size + 1, 1, none⟩ = some (.int .u64 x.2) := by rw [hW]; simp
  have HW := Lib.hid hW
  clear hW
  have A9 := Lib.hid fun (y : Int × Int) (W : World) => rBefore_any y x W
  go_enter Try.func39, Try.ntmps39
  go_wp2_with fail
  rw [← HW.out]
  generalize w.heap.size = bx at *
  go_loopw [5, 6] (fun vv i wr => ∃ (k N : Nat) (ao : Option Addr) (cc : Nat), vv = .slice ao N cc ∧ N ≤ cc ∧ k ≤ M ∧ i = .int .i64 k ∧ N = (belowL (S.take k) x).length ∧ wr.ownsRow W.heap.size 77 2 (.slice ao N cc) N (flatR encQ (belowL (S.take k) x)) ∧ Below W.heap.size W wr) (fun _ i _ => M - (intOf i).toNat)
  case atStart => exact ⟨0, 0, none, 0, rfl, Nat.le_refl _, Nat.zero_le _, rfl, rfl, ⟨rfl, Or.inl ⟨rfl, rfl⟩⟩, Below.refl _ _⟩
  case round =>
    obtain ⟨k, N, ao, cc, rfl, hcc, hk, rfl, hN, hown, hbr⟩ := hrel
    have HN := Lib.hid hN
    have HOW := Lib.hid hown
    have HBR := Lib.hid hbr
    replace c1 := cell_later hbr c1
    replace x0 := cell_later hbr x0
    replace x1 := cell_later hbr x1
    clear hN hown hbr
    by_cases hlt : k < M
    · have hkS : k < S.length := by rw [HM.out]; exact hlt
      obtain ⟨-, b, off, rfl, i0', i1'⟩ := (recs_items (H.out.later (Below.step HG.out.below HBR.out))).cells hkS
      have hsu := belowL_succ hkS x
      obtain ⟨y, hy⟩ : ∃ y, y = S[k]! := ⟨_, rfl⟩
      rw [← hy] at i0' i1' hsu
      have HSU := Lib.hid hsu
      have hk0 : (0 : Int) ≤ (k : Int) := by omega
      have hkm : (k : Int) < (M : Int) := by omega
      clear hsu hy hkS
      have HBF := Lib.hid (show befB y x = true ∨ befB y x = false by cases befB y x <;> simp)
      obtain ⟨wo, rfl⟩ : ∃ wo : World, wo = wr := ⟨_, rfl⟩
      go_wp2_with fail
      rcases HBF.out with hbf | hbf
      · skip
        have hS0 : Below wo.heap.size wo wo.drew ∧ wo.drew.cell? ⟨bx, 1, none⟩ = some (.slice (some ⟨b, off, none⟩) M cap) ∧ wo.drew.cell? ⟨bx + 1, 0, none⟩ = some (.int .i64 x.1) ∧ wo.drew.cell? ⟨bx + 1, 1, none⟩ = some (.int .u64 x.2) ∧ wo.drew.cell? ⟨b, off + k * 2, none⟩ = some (.int .i64 y.1) ∧ wo.drew.cell? ⟨b, off + k * 2 + 1, none⟩ = some (.int .u64 y.2) := ⟨Below.drew (Below.refl _ _), cell_dr c1, cell_dr x0, cell_dr x1, cell_dr i0', cell_dr i1'⟩
        refine wp_region_held_drew (S := fun w' => Below wo.heap.size wo w' ∧ w'.cell? ⟨bx, 1, none⟩ = some (.slice (some ⟨b, off, none⟩) M cap) ∧ w'.cell? ⟨bx + 1, 0, none⟩ = some (.int .i64 x.1) ∧ w'.cell? ⟨bx + 1, 1, none⟩ = some (.int .u64 x.2) ∧ w'.cell? ⟨b, off + k * 2, none⟩ = some (.int .i64 y.1) ∧ w'.cell? ⟨b, off + k * 2 + 1, none⟩ = some (.int .u64 y.2)) (by kernel_rfl) hS0 (fun hHeld => ?_)
        refine takeH (i := 0) (v := ?v0_87) rfl (by kernel_rfl) (fun _ _ _ h => h) (by rfl) ?hy0_87 (by assumption) ?rest0_87
        case hy0_87 => (intro w hSw; (try dsimp only at hSw); go_simp; try with_reducible rfl)
        try simp only [Act.put, List.setIfInBounds_toArray, List.set_cons_zero, List.set_cons_succ]
        refine takeH (i := 1) (v := ?v1_88) rfl (by kernel_rfl) (fun _ _ _ h => h) (by rfl) ?hy1_88 (by assumption) ?rest1_88
        case hy1_88 => (intro w hSw; (try dsimp only at hSw); go_simp; try with_reducible rfl)
        try simp only [Act.put, List.setIfInBounds_toArray, List.set_cons_zero, List.set_cons_succ]
        refine takeH (i := 2) (v := ?v2_89) rfl (by kernel_rfl) (fun _ _ _ h => h) (by rfl) ?hy2_89 (by assumption) ?rest2_89
        case hy2_89 => (intro w hSw; (try dsimp only at hSw); go_simp; try with_reducible rfl)
        try simp only [Act.put, List.setIfInBounds_toArray, List.set_cons_zero, List.set_cons_succ]
        refine takeH (i := 3) (v := ?v3_90) rfl (by kernel_rfl) (fun _ _ _ h => h) (by rfl) ?hy3_90 (by assumption) ?rest3_90
        case hy3_90 => (intro w hSw; (try dsimp only at hSw); go_simp; try with_reducible rfl)
        try simp only [Act.put, List.setIfInBounds_toArray, List.set_cons_zero, List.set_cons_succ]
        refine takeH (i := 4) (v := ?v4_91) rfl (by kernel_rfl) (fun _ _ _ h => h) (by rfl) ?hy4_91 (by assumption) ?rest4_91
        case hy4_91 => (intro w hSw; (try dsimp only at hSw); go_simp; try with_reducible rfl)
        try simp only [Act.put, List.setIfInBounds_toArray, List.set_cons_zero, List.set_cons_succ]
        refine takeH (i := 5) (v := ?v5_92) rfl (by kernel_rfl) (fun _ _ _ h => h) (by rfl) ?hy5_92 (by assumption) ?rest5_92
        case hy5_92 => (intro w hSw; (try dsimp only at hSw); go_simp; try with_reducible rfl)
        try simp only [Act.put, List.setIfInBounds_toArray, List.set_cons_zero, List.set_cons_succ]
        refine wpAnyH_ready (rs := [6]) (by kernel_rfl) (by simp) ?_
        refine consH rfl (fun K hK => ?_) (AllReadyH.nil)
        go_simp
        refine (A9.out y _).mono ?_
        rintro e w9 ⟨rfl, hg9⟩
        have hb9 := hg9.below
        go_wp2_with fail
        refine hK.out _ _ ?_ (fun hHeld6 => ?_)
        · (first | assumption | (refine held_5 (by assumption) ?_; assumption) | (refine held_5 (below_ad _ _) ?_; assumption) | (refine held_5 (below_a _ _) ?_; assumption))
        clear hK K
        try simp only [Act.put, List.setIfInBounds_toArray, List.set_cons_zero, List.set_cons_succ]
        refine wpAnyH_done (by kernel_rfl) ?_ _
        clear hS0
        obtain ⟨hb9, c1, x0, x1, i0', i1'⟩ := hHeld6
        have hO9 := own_below HOW.out hb9
        have B9 := Lib.hid (Below.step HBR.out hb9)
        have hwz := B9.out.size
        have O9 := Lib.hid hO9
        have hNM : N ≤ 400000 := by
          rw [HN.out]
          have h1 := List.length_filter_le (fun y : Int × Int => decide (ltI y x)) (S.take k)
          have h2 := List.length_take_le k S
          unfold belowL
          omega
        clear hb9 hO9
        have hE := Lib.hid (show belowL (S.take (k + 1)) x = belowL (S.take k) x ++ [y] by rw [HSU.out, if_pos hbf])
        go_wp2_with (at_builtin; refine listR rfl (.tmp 21) (.tmp 27) 56 rfl W.heap.size 77 i0 (.agg #[.int .i64 0, .int .u64 0]) 2 16 encQ_ok Try.underlying56 hi hz0 hz1 hz2 rfl _ N _ rfl (own_below O9.out (below_a w9 _)) _ [y] rfl (lit_recs encQ_ok w9 [y] 77 (by simp)) ?c3 ?c4 ?c5 ?_)
        case c3 => simp; unfold maxLen; omega
        case c4 => simp; omega
        case c5 => simp; omega
        intro v' w10 hown' hgrow
        try intro _
        try intro _
        have B10 := Lib.hid ((Below.allocS B9.out _).grown hgrow (by simp; omega) (fun g hg => (O9.out.lt g hg).1))
        rw [← flatR_app, ← hE.out] at hown'
        obtain ⟨a', c', rfl, hc'⟩ := own_shape hown'
        have O10 := Lib.hid hown'
        clear hown' hgrow
        go_wp2_with fail
        go_roundw
        case rel => exact ⟨k + 1, N + 1, a', c', rfl, hc', by omega, by go_num, by rw [hE.out, List.length_append, ← HN.out]; rfl, O10.out, B10.out⟩
        case measure => simp [intOf]; omega
      · skip
        have hS0 : Below wo.heap.size wo wo.drew ∧ wo.drew.cell? ⟨bx, 1, none⟩ = some (.slice (some ⟨b, off, none⟩) M cap) ∧ wo.drew.cell? ⟨bx + 1, 0, none⟩ = some (.int .i64 x.1) ∧ wo.drew.cell? ⟨bx + 1, 1, none⟩ = some (.int .u64 x.2) ∧ wo.drew.cell? ⟨b, off + k * 2, none⟩ = some (.int .i64 y.1) ∧ wo.drew.cell? ⟨b, off + k * 2 + 1, none⟩ = some (.int .u64 y.2) := ⟨Below.drew (Below.refl _ _), cell_dr c1, cell_dr x0, cell_dr x1, cell_dr i0', cell_dr i1'⟩
        refine wp_region_held_drew (S := fun w' => Below wo.heap.size wo w' ∧ w'.cell? ⟨bx, 1, none⟩ = some (.slice (some ⟨b, off, none⟩) M cap) ∧ w'.cell? ⟨bx + 1, 0, none⟩ = some (.int .i64 x.1) ∧ w'.cell? ⟨bx + 1, 1, none⟩ = some (.int .u64 x.2) ∧ w'.cell? ⟨b, off + k * 2, none⟩ = some (.int .i64 y.1) ∧ w'.cell? ⟨b, off + k * 2 + 1, none⟩ = some (.int .u64 y.2)) (by kernel_rfl) hS0 (fun hHeld => ?_)
        refine takeH (i := 0) (v := ?v0_93) rfl (by kernel_rfl) (fun _ _ _ h => h) (by rfl) ?hy0_93 (by assumption) ?rest0_93
        case hy0_93 => (intro w hSw; (try dsimp only at hSw); go_simp; try with_reducible rfl)
        try simp only [Act.put, List.setIfInBounds_toArray, List.set_cons_zero, List.set_cons_succ]
        refine takeH (i := 1) (v := ?v1_94) rfl (by kernel_rfl) (fun _ _ _ h => h) (by rfl) ?hy1_94 (by assumption) ?rest1_94
        case hy1_94 => (intro w hSw; (try dsimp only at hSw); go_simp; try with_reducible rfl)
        try simp only [Act.put, List.setIfInBounds_toArray, List.set_cons_zero, List.set_cons_succ]
        refine takeH (i := 2) (v := ?v2_95) rfl (by kernel_rfl) (fun _ _ _ h => h) (by rfl) ?hy2_95 (by assumption) ?rest2_95
        case hy2_95 => (intro w hSw; (try dsimp only at hSw); go_simp; try with_reducible rfl)
        try simp only [Act.put, List.setIfInBounds_toArray, List.set_cons_zero, List.set_cons_succ]
        refine takeH (i := 3) (v := ?v3_96) rfl (by kernel_rfl) (fun _ _ _ h => h) (by rfl) ?hy3_96 (by assumption) ?rest3_96
        case hy3_96 => (intro w hSw; (try dsimp only at hSw); go_simp; try with_reducible rfl)
        try simp only [Act.put, List.setIfInBounds_toArray, List.set_cons_zero, List.set_cons_succ]
        refine takeH (i := 4) (v := ?v4_97) rfl (by kernel_rfl) (fun _ _ _ h => h) (by rfl) ?hy4_97 (by assumption) ?rest4_97
        case hy4_97 => (intro w hSw; (try dsimp only at hSw); go_simp; try with_reducible rfl)
        try simp only [Act.put, List.setIfInBounds_toArray, List.set_cons_zero, List.set_cons_succ]
        refine takeH (i := 5) (v := ?v5_98) rfl (by kernel_rfl) (fun _ _ _ h => h) (by rfl) ?hy5_98 (by assumption) ?rest5_98
        case hy5_98 => (intro w hSw; (try dsimp only at hSw); go_simp; try with_reducible rfl)
        try simp only [Act.put, List.setIfInBounds_toArray, List.set_cons_zero, List.set_cons_succ]
        refine wpAnyH_ready (rs := [6]) (by kernel_rfl) (by simp) ?_
        refine consH rfl (fun K hK => ?_) (AllReadyH.nil)
        go_simp
        refine (A9.out y _).mono ?_
        rintro e w9 ⟨rfl, hg9⟩
        have hb9 := hg9.below
        go_wp2_with fail
        refine hK.out _ _ ?_ (fun hHeld6 => ?_)
        · (first | assumption | (refine held_5 (by assumption) ?_; assumption) | (refine held_5 (below_ad _ _) ?_; assumption) | (refine held_5 (below_a _ _) ?_; assumption))
        clear hK K
        try simp only [Act.put, List.setIfInBounds_toArray, List.set_cons_zero, List.set_cons_succ]
        refine wpAnyH_done (by kernel_rfl) ?_ _
        clear hS0
        obtain ⟨hb9, c1, x0, x1, i0', i1'⟩ := hHeld6
        have hO9 := own_below HOW.out hb9
        have B9 := Lib.hid (Below.step HBR.out hb9)
        have hwz := B9.out.size
        have O9 := Lib.hid hO9
        have hNM : N ≤ 400000 := by
          rw [HN.out]
          have h1 := List.length_filter_le (fun y : Int × Int => decide (ltI y x)) (S.take k)
          have h2 := List.length_take_le k S
          unfold belowL
          omega
        clear hb9 hO9
        have hE := Lib.hid (show belowL (S.take (k + 1)) x = belowL (S.take k) x by rw [HSU.out, if_neg (by rw [hbf]; simp), List.append_nil])
        go_wp2_with fail
        go_roundw
        case rel => exact ⟨k + 1, N, ao, cc, rfl, hcc, by omega, by go_num, by rw [hE.out]; exact HN.out, by rw [hE.out]; exact O9.out, B9.out⟩
        case measure => simp [intOf]; omega
    · have l1 : decide ((k : Int) < (M : Int)) = false := decide_eq_false (by omega)
      have l2 : decide (k < M) = false := decide_eq_false hlt
      have l3 : (k < M) = False := eq_false hlt
      have hkm : S.take k = S := List.take_of_length_le (by rw [HM.out]; omega)
      have hN := HN.out
      have hO := HOW.out
      rw [hkm] at hN hO
      have HF := Lib.hid (own_recs' encQ_ok hO hN rfl)
      have HNN := Lib.hid hN
      have HB := Lib.hid (Below.step HG.out.below HBR.out)
      clear hk hlt hkm hN hO
      go_wp2_with fail
      go_ret
      rw [HNN.out] at HF ⊢
      exact ⟨_, _, rfl, HF.out, HB.out⟩
end Go.Proofs.Ytpbaegdmjmickaa
