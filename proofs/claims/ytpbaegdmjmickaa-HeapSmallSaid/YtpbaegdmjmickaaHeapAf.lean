/-
  Layer 18 (heap), law.go: same.
-/
import Derived.Test.YtpbaegdmjmickaaHeapAe
import Derived.Test.YtpbaegdmjmickaaHeapX
namespace Go.Proofs.Ytpbaegdmjmickaa
open Go.RowKit Go.Maps Go.IntWalk Go.Lib
set_option linter.unusedVariables false
set_option linter.unusedSimpArgs false
theorem key_find {w : World} {p : Nat} {F : List Nat} {n : Int} {S : Items} (h : HeapIn w p F n S) (id : Int) :
    (∃ k : Nat, k < S.length ∧ keyV n S id = .tuple #[.int .u64 S[k]!.2, .bool true] ∧ findI S id = (k : Int)) ∨ (keyV n S id = .tuple #[.int .u64 0, .bool false] ∧ findI S id = -1) := by
  have hi := h.ids
  rcases findI_cases S id with ⟨k, hk, hf, hid, _⟩ | ⟨hf, hkn⟩
  · refine Or.inl ⟨k, hk, ?_, hf⟩
    have hb := (hi.2.2.1 S[k]! (at_mem hk)).1
    rw [hid] at hb
    have hky : keyL S id = some S[k]!.2 := by have := keyL_at hi.1 hk; rwa [hid] at this
    exact (there_out (n := n) (hasV_iff.2 hb) hky).2.2.2.2.2.2.2
  · refine Or.inr ⟨?_, hf⟩
    unfold keyV
    rw [hkn]
    split <;> rfl
theorem recs_cells {w : World} {a : Option Addr} {n cap : Nat} {S : Items} (h : RecsAt encQ w (.slice a n cap) S) (h0 : S ≠ []) : ∃ b off, a = some ⟨b, off, none⟩ ∧ ∀ j u, (flatR encQ S)[j]? = some u → w.cell? ⟨b, off + j, none⟩ = some u := by
  obtain ⟨a', cap', e, _, _, _, h⟩ := h
  cases e
  exact h.resolve_left h0
set_option maxRecDepth 100000 in
set_option maxHeartbeats 4000000 in
theorem same_any {p : Nat} {F : List Nat} {n : Int} {S : Items} (a : Option Addr) (cap : Nat) (id : Int) (w : World) (h : HeapIn w p F n S) (hr : HeldR encQ F w (.slice a S.length cap) S) (hid : (Lit.int .i64 id).wf = true) :
    Calls Try.prog 26 #[.pointer (some ⟨p, 0, none⟩), .agg #[.int .i64 n, .slice a S.length cap], .int .i64 id] w fun e w' => e = .returned (.bool true) ∧ Below w.heap.size w w' := by
  have HI := Lib.hid h
  have HR := Lib.hid hr
  have HKF := Lib.hid (key_find h id)
  have hM4 : S.length ≤ 131072 := by have := h.ids; omega
  have AF := Lib.hid fun (W : World) (q : RecsAt encQ W (.slice a S.length cap) S) => rFind_any a cap n id S W q
  have AK := Lib.hid fun (W : World) (q : HeapIn W p F n S) => Key_at id W q hid
  clear h hr
  obtain ⟨M, hM⟩ : ∃ M, M = S.length := ⟨_, rfl⟩
  have HM := Lib.hid hM.symm
  rw [← hM] at HR AF hM4 ⊢
  clear hM
  obtain ⟨W0, hW0⟩ : ∃ W0, W0 = w.alloc (.cells #[.int .i64 n, .slice a M cap] 58) := ⟨_, rfl⟩
  have HB0 := Lib.hid (show Below w.heap.size w W0 by rw [hW0]; exact below_a _ _)
  have r0 : W0.cell? ⟨w.heap.size, 0, none⟩ = some (.int .i64 n) := by rw [hW0]; exact cell_nw _ _ _ 0 _ rfl
  have r1 : W0.cell? ⟨w.heap.size, 1, none⟩ = some (.slice a M cap) := by rw [hW0]; exact cell_nw _ _ _ 1 _ rfl
  have HW0 := Lib.hid hW0
  clear hW0
  go_enter Try.func26, Try.ntmps26
  go_wp2_with fail
  rw [← HW0.out]
  generalize hbx : w.heap.size = bx at r0 r1 ⊢
  have HBX := Lib.hid hbx
  clear hbx
  refine (AK.out W0 (HI.out.below HB0.out)).mono ?_
  rintro e w1 ⟨rfl, rfl⟩
  rcases HKF.out with ⟨k, hk, hkv, hf⟩ | ⟨hkv, hf⟩
  · rw [hkv]
    rw [hf] at AF
    obtain ⟨b, off, e1, hc⟩ := (show ∃ b off, a = some ⟨b, off, none⟩ ∧ ∀ j u, (flatR encQ S)[j]? = some u → W0.cell? ⟨b, off + j, none⟩ = some u by
      obtain ⟨a', cap', e, _, _, _, h⟩ := (HR.out.later HB0.out).recs
      cases e
      exact h.resolve_left (fun e => by rw [e] at hk; simp at hk))
    subst e1
    have ik : W0.cell? ⟨b, off + k * 2 + 1, none⟩ = some (.int .u64 S[k]!.2) := by
      rw [Nat.add_assoc]; exact hc _ _ (by rw [flatR_items]; exact (flatI_at (at_get hk)).2)
    clear hc
    generalize hq : S[k]!.2 = q at ik ⊢
    have hkM : k < M := by rw [← HM.out]; exact hk
    have hk0 : (0 : Int) ≤ (k : Int) := by omega
    have hkm : (k : Int) < (M : Int) := by omega
    have zk : decide ((k : Int) ≥ 0) = true := decide_eq_true hk0
    have HKK := Lib.hid hk
    clear hk hkv hf hq HKF
    go_wp2_with fail
    refine (AF.out W0 (HR.out.later HB0.out).recs).mono ?_
    rintro e w3 ⟨rfl, hg3⟩
    replace r0 := grows_cell hg3 r0
    replace r1 := grows_cell hg3 r1
    replace ik := grows_cell hg3 ik
    have HB1 := Lib.hid (Below.step HB0.out hg3.below)
    have HH := Lib.hid (show HeapIn w3.drew p F n S from (HI.out.below HB1.out).below (Below.refl _ _).drew)
    have RR := Lib.hid ((HR.out.later HB1.out).recs)
    clear hg3
    go_wp2_with fail
    have hS0 : Below w3.heap.size w3 w3.drew ∧ w3.drew.cell? ⟨bx, 1, none⟩ = some (.slice (some ⟨b, off, none⟩) M cap) ∧ w3.drew.cell? ⟨b, off + k * 2 + 1, none⟩ = some (.int .u64 q) := ⟨Below.drew (Below.refl _ _), cell_dr r1, cell_dr ik⟩
    refine wp_region_held_drew (S := fun w' => Below w3.heap.size w3 w' ∧ w'.cell? ⟨bx, 1, none⟩ = some (.slice (some ⟨b, off, none⟩) M cap) ∧ w'.cell? ⟨b, off + k * 2 + 1, none⟩ = some (.int .u64 q)) (by kernel_rfl) hS0 (fun hHeld => ?_)
    refine takeH (i := 0) (v := ?v0_1) rfl (by kernel_rfl) (fun _ _ _ h => h) (by rfl) ?hy0_1 (by assumption) ?rest0_1
    case hy0_1 => (intro w hSw; (try dsimp only at hSw); go_simp; try with_reducible rfl)
    try simp only [Act.put, List.setIfInBounds_toArray, List.set_cons_zero, List.set_cons_succ]
    refine takeH (i := 1) (v := ?v1_2) rfl (by kernel_rfl) (fun _ _ _ h => h) (by rfl) ?hy1_2 (by assumption) ?rest1_2
    case hy1_2 => (intro w hSw; (try dsimp only at hSw); go_simp; try with_reducible rfl)
    try simp only [Act.put, List.setIfInBounds_toArray, List.set_cons_zero, List.set_cons_succ]
    refine takeH (i := 2) (v := ?v2_3) rfl (by kernel_rfl) (fun _ _ _ h => h) (by rfl) ?hy2_3 (by assumption) ?rest2_3
    case hy2_3 => (intro w hSw; (try dsimp only at hSw); go_simp; try with_reducible rfl)
    try simp only [Act.put, List.setIfInBounds_toArray, List.set_cons_zero, List.set_cons_succ]
    refine takeH (i := 3) (v := ?v3_4) rfl (by kernel_rfl) (fun _ _ _ h => h) (by rfl) ?hy3_4 (by assumption) ?rest3_4
    case hy3_4 => (intro w hSw; (try dsimp only at hSw); go_simp; try with_reducible rfl)
    try simp only [Act.put, List.setIfInBounds_toArray, List.set_cons_zero, List.set_cons_succ]
    refine takeH (i := 4) (v := ?v4_5) rfl (by kernel_rfl) (fun _ _ _ h => h) (by rfl) ?hy4_5 (by assumption) ?rest4_5
    case hy4_5 => (intro w hSw; (try dsimp only at hSw); go_simp; try with_reducible rfl)
    try simp only [Act.put, List.setIfInBounds_toArray, List.set_cons_zero, List.set_cons_succ]
    refine takeH (i := 5) (v := ?v5_6) rfl (by kernel_rfl) (fun _ _ _ h => h) (by rfl) ?hy5_6 (by assumption) ?rest5_6
    case hy5_6 => (intro w hSw; (try dsimp only at hSw); go_simp; try with_reducible rfl)
    try simp only [Act.put, List.setIfInBounds_toArray, List.set_cons_zero, List.set_cons_succ]
    refine takeH (i := 6) (v := ?v6_7) rfl (by kernel_rfl) (fun _ _ _ h => h) (by rfl) ?hy6_7 (by assumption) ?rest6_7
    case hy6_7 => (intro w hSw; (try dsimp only at hSw); go_simp; try with_reducible rfl)
    try simp only [Act.put, List.setIfInBounds_toArray, List.set_cons_zero, List.set_cons_succ]
    refine takeH (i := 7) (v := ?v7_8) rfl (by kernel_rfl) (fun _ _ _ h => h) (by rfl) ?hy7_8 (by assumption) ?rest7_8
    case hy7_8 => (intro w hSw; (try dsimp only at hSw); go_simp; try with_reducible rfl)
    try simp only [Act.put, List.setIfInBounds_toArray, List.set_cons_zero, List.set_cons_succ]
    refine takeH (i := 8) (v := ?v8_9) rfl (by kernel_rfl) (fun _ _ _ h => h) (by rfl) ?hy8_9 (by assumption) ?rest8_9
    case hy8_9 => (intro w hSw; (try dsimp only at hSw); go_simp; try with_reducible rfl)
    try simp only [Act.put, List.setIfInBounds_toArray, List.set_cons_zero, List.set_cons_succ]
    refine takeH (i := 9) (v := ?v9_10) rfl (by kernel_rfl) (fun _ _ _ h => h) (by rfl) ?hy9_10 (by assumption) ?rest9_10
    case hy9_10 => (intro w hSw; (try dsimp only at hSw); go_simp; try with_reducible rfl)
    try simp only [Act.put, List.setIfInBounds_toArray, List.set_cons_zero, List.set_cons_succ]
    refine takeH (i := 10) (v := ?v10_11) rfl (by kernel_rfl) (fun _ _ _ h => h) (by rfl) ?hy10_11 (by assumption) ?rest10_11
    case hy10_11 => (intro w hSw; (try dsimp only at hSw); go_simp; try with_reducible rfl)
    try simp only [Act.put, List.setIfInBounds_toArray, List.set_cons_zero, List.set_cons_succ]
    refine takeH (i := 11) (v := ?v11_12) rfl (by kernel_rfl) (fun _ _ _ h => h) (by rfl) ?hy11_12 (by assumption) ?rest11_12
    case hy11_12 => (intro w hSw; (try dsimp only at hSw); go_simp; try with_reducible rfl)
    try simp only [Act.put, List.setIfInBounds_toArray, List.set_cons_zero, List.set_cons_succ]
    refine takeH (i := 12) (v := ?v12_13) rfl (by kernel_rfl) (fun _ _ _ h => h) (by rfl) ?hy12_13 (by assumption) ?rest12_13
    case hy12_13 => (intro w hSw; (try dsimp only at hSw); go_simp; try with_reducible rfl)
    try simp only [Act.put, List.setIfInBounds_toArray, List.set_cons_zero, List.set_cons_succ]
    refine takeH (i := 13) (v := ?v13_14) rfl (by kernel_rfl) (fun _ _ _ h => h) (by rfl) ?hy13_14 (by assumption) ?rest13_14
    case hy13_14 => (intro w hSw; (try dsimp only at hSw); go_simp; try with_reducible rfl)
    try simp only [Act.put, List.setIfInBounds_toArray, List.set_cons_zero, List.set_cons_succ]
    refine takeH (i := 14) (v := ?v14_15) rfl (by kernel_rfl) (fun _ _ _ h => h) (by rfl) ?hy14_15 (by assumption) ?rest14_15
    case hy14_15 => (intro w hSw; (try dsimp only at hSw); go_simp; try with_reducible rfl)
    try simp only [Act.put, List.setIfInBounds_toArray, List.set_cons_zero, List.set_cons_succ]
    refine takeH (i := 15) (v := ?v15_16) rfl (by kernel_rfl) (fun _ _ _ h => h) (by rfl) ?hy15_16 (by assumption) ?rest15_16
    case hy15_16 => (intro w hSw; (try dsimp only at hSw); go_simp; try with_reducible rfl)
    try simp only [Act.put, List.setIfInBounds_toArray, List.set_cons_zero, List.set_cons_succ]
    refine takeH (i := 16) (v := ?v16_17) rfl (by kernel_rfl) (fun _ _ _ h => h) (by rfl) ?hy16_17 (by assumption) ?rest16_17
    case hy16_17 => (intro w hSw; (try dsimp only at hSw); go_simp; try with_reducible rfl)
    try simp only [Act.put, List.setIfInBounds_toArray, List.set_cons_zero, List.set_cons_succ]
    refine takeH (i := 17) (v := ?v17_18) rfl (by kernel_rfl) (fun _ _ _ h => h) (by rfl) ?hy17_18 (by assumption) ?rest17_18
    case hy17_18 => (intro w hSw; (try dsimp only at hSw); go_simp; try with_reducible rfl)
    try simp only [Act.put, List.setIfInBounds_toArray, List.set_cons_zero, List.set_cons_succ]
    refine takeH (i := 18) (v := ?v18_19) rfl (by kernel_rfl) (fun _ _ _ h => h) (by rfl) ?hy18_19 (by assumption) ?rest18_19
    case hy18_19 => (intro w hSw; (try dsimp only at hSw); go_simp; try with_reducible rfl)
    try simp only [Act.put, List.setIfInBounds_toArray, List.set_cons_zero, List.set_cons_succ]
    refine takeH (i := 19) (v := ?v19_20) rfl (by kernel_rfl) (fun _ _ _ h => h) (by rfl) ?hy19_20 (by assumption) ?rest19_20
    case hy19_20 => (intro w hSw; (try dsimp only at hSw); go_simp; try with_reducible rfl)
    try simp only [Act.put, List.setIfInBounds_toArray, List.set_cons_zero, List.set_cons_succ]
    refine takeH (i := 20) (v := ?v20_21) rfl (by kernel_rfl) (fun _ _ _ h => h) (by rfl) ?hy20_21 (by assumption) ?rest20_21
    case hy20_21 => (intro w hSw; (try dsimp only at hSw); go_simp; try with_reducible rfl)
    try simp only [Act.put, List.setIfInBounds_toArray, List.set_cons_zero, List.set_cons_succ]
    refine skipH (i := 21) rfl (by kernel_rfl) (fun _ _ _ h => h) (by kernel_rfl) (by assumption) ?_
    try simp only [Act.put, List.setIfInBounds_toArray, List.set_cons_zero, List.set_cons_succ]
    refine skipH (i := 22) rfl (by kernel_rfl) (fun _ _ _ h => h) (by kernel_rfl) (by assumption) ?_
    try simp only [Act.put, List.setIfInBounds_toArray, List.set_cons_zero, List.set_cons_succ]
    refine takeH (i := 23) (v := ?v23_22) rfl (by kernel_rfl) (fun _ _ _ h => h) (by rfl) ?hy23_22 (by assumption) ?rest23_22
    case hy23_22 => (intro w hSw; (try dsimp only at hSw); go_simp; try with_reducible rfl)
    try simp only [Act.put, List.setIfInBounds_toArray, List.set_cons_zero, List.set_cons_succ]
    refine takeH (i := 24) (v := ?v24_23) rfl (by kernel_rfl) (fun _ _ _ h => h) (by rfl) ?hy24_23 (by assumption) ?rest24_23
    case hy24_23 => (intro w hSw; (try dsimp only at hSw); go_simp; try with_reducible rfl)
    try simp only [Act.put, List.setIfInBounds_toArray, List.set_cons_zero, List.set_cons_succ]
    refine takeH (i := 25) (v := ?v25_24) rfl (by kernel_rfl) (fun _ _ _ h => h) (by rfl) ?hy25_24 (by assumption) ?rest25_24
    case hy25_24 => (intro w hSw; (try dsimp only at hSw); go_simp; try with_reducible rfl)
    try simp only [Act.put, List.setIfInBounds_toArray, List.set_cons_zero, List.set_cons_succ]
    refine takeH (i := 26) (v := ?v26_25) rfl (by kernel_rfl) (fun _ _ _ h => h) (by rfl) ?hy26_25 (by assumption) ?rest26_25
    case hy26_25 => (intro w hSw; (try dsimp only at hSw); go_simp; try with_reducible rfl)
    try simp only [Act.put, List.setIfInBounds_toArray, List.set_cons_zero, List.set_cons_succ]
    refine takeH (i := 28) (v := ?v28_26) rfl (by kernel_rfl) (fun _ _ _ h => h) (by rfl) ?hy28_26 (by assumption) ?rest28_26
    case hy28_26 => (intro w hSw; (try dsimp only at hSw); go_simp; try with_reducible rfl)
    try simp only [Act.put, List.setIfInBounds_toArray, List.set_cons_zero, List.set_cons_succ]
    refine takeH (i := 29) (v := ?v29_27) rfl (by kernel_rfl) (fun _ _ _ h => h) (by rfl) ?hy29_27 (by assumption) ?rest29_27
    case hy29_27 => (intro w hSw; (try dsimp only at hSw); go_simp; try with_reducible rfl)
    try simp only [Act.put, List.setIfInBounds_toArray, List.set_cons_zero, List.set_cons_succ]
    refine takeH (i := 30) (v := ?v30_28) rfl (by kernel_rfl) (fun _ _ _ h => h) (by rfl) ?hy30_28 (by assumption) ?rest30_28
    case hy30_28 => (intro w hSw; (try dsimp only at hSw); go_simp; try with_reducible rfl)
    try simp only [Act.put, List.setIfInBounds_toArray, List.set_cons_zero, List.set_cons_succ]
    refine wpAnyH_ready (rs := [27]) (by kernel_rfl) (by simp) ?_
    refine consH rfl (fun K hK => ?_) (AllReadyH.nil)
    go_simp
    refine (LenH_at _ HH.out).mono ?_
    rintro e w4 ⟨rfl, rfl⟩
    rw [HM.out]
    go_wp2_with fail
    refine hK.out _ _ ?_ (fun hHeld27 => ?_)
    · (first | assumption | (refine held_2 (by assumption) ?_; assumption) | (refine held_2 (below_ad _ _) ?_; assumption) | (refine held_2 (below_a _ _) ?_; assumption))
    clear hK K
    try simp only [Act.put, List.setIfInBounds_toArray, List.set_cons_zero, List.set_cons_succ]
    refine takeH (i := 31) (v := ?v31_29) rfl (by kernel_rfl) (fun _ _ _ h => h) (by rfl) ?hy31_29 (by assumption) ?rest31_29
    case hy31_29 => (intro w hSw; (try dsimp only at hSw); go_simp; try with_reducible rfl)
    try simp only [Act.put, List.setIfInBounds_toArray, List.set_cons_zero, List.set_cons_succ]
    refine takeH (i := 32) (v := ?v32_30) rfl (by kernel_rfl) (fun _ _ _ h => h) (by rfl) ?hy32_30 (by assumption) ?rest32_30
    case hy32_30 => (intro w hSw; (try dsimp only at hSw); go_simp; try with_reducible rfl)
    try simp only [Act.put, List.setIfInBounds_toArray, List.set_cons_zero, List.set_cons_succ]
    refine takeH (i := 33) (v := ?v33_31) rfl (by kernel_rfl) (fun _ _ _ h => h) (by rfl) ?hy33_31 (by assumption) ?rest33_31
    case hy33_31 => (intro w hSw; (try dsimp only at hSw); go_simp; try with_reducible rfl)
    try simp only [Act.put, List.setIfInBounds_toArray, List.set_cons_zero, List.set_cons_succ]
    refine takeH (i := 34) (v := ?v34_32) rfl (by kernel_rfl) (fun _ _ _ h => h) (by rfl) ?hy34_32 (by assumption) ?rest34_32
    case hy34_32 => (intro w hSw; (try dsimp only at hSw); go_simp; try with_reducible rfl)
    try simp only [Act.put, List.setIfInBounds_toArray, List.set_cons_zero, List.set_cons_succ]
    refine wpAnyH_ready (rs := [35]) (by kernel_rfl) (by simp) ?_
    refine consH rfl (fun K hK => ?_) (AllReadyH.nil)
    go_simp
    refine (Right_at _ HH.out).mono ?_
    rintro e w5 ⟨rfl, hb5⟩
    go_wp2_with fail
    refine hK.out _ _ ?_ (fun hHeld35 => ?_)
    · (first | assumption | (refine held_2 (by assumption) ?_; assumption) | (refine held_2 (below_ad _ _) ?_; assumption) | (refine held_2 (below_a _ _) ?_; assumption))
    clear hK K
    try simp only [Act.put, List.setIfInBounds_toArray, List.set_cons_zero, List.set_cons_succ]
    refine takeH (i := 36) (v := ?v36_33) rfl (by kernel_rfl) (fun _ _ _ h => h) (by rfl) ?hy36_33 (by assumption) ?rest36_33
    case hy36_33 => (intro w hSw; (try dsimp only at hSw); go_simp; try with_reducible rfl)
    try simp only [Act.put, List.setIfInBounds_toArray, List.set_cons_zero, List.set_cons_succ]
    refine takeH (i := 37) (v := ?v37_34) rfl (by kernel_rfl) (fun _ _ _ h => h) (by rfl) ?hy37_34 (by assumption) ?rest37_34
    case hy37_34 => (intro w hSw; (try dsimp only at hSw); go_simp; try with_reducible rfl)
    try simp only [Act.put, List.setIfInBounds_toArray, List.set_cons_zero, List.set_cons_succ]
    refine wpAnyH_done (by kernel_rfl) ?_ _
    skip
    have RR := Lib.hid RR.out
    obtain ⟨hB35, r1, -⟩ := hHeld35
    have HB5 := Lib.hid (Below.step HB1.out hB35)
    have HX5 := Lib.hid hB35
    clear hHeld hB35 hb5
    go_wp2_with fail
    refine (Least_at _ (HI.out.below HB5.out)).mono ?_
    rintro e w6 ⟨rfl, hg6⟩
    replace r1 := grows_cell hg6 r1
    have HB6 := Lib.hid (Below.step HB5.out hg6.below)
    have HX6 := Lib.hid (Below.step HX5.out hg6.below)
    clear hg6
    cases S with
    | nil => exact absurd HKK.out (by simp)
    | cons y r =>
      rw [show leastV (y :: r : Items) = .tuple #[.agg #[.int .i64 y.1, .int .u64 y.2], .bool true] from rfl]
      obtain ⟨b, off, e1, hc⟩ := recs_cells (RR.out.later HX6.out) (by simp)
      cases e1
      have i0 : w6.cell? ⟨b, off, none⟩ = some (.int .i64 y.1) := hc 0 _ rfl
      have i1 : w6.cell? ⟨b, off + 1, none⟩ = some (.int .u64 y.2) := hc 1 _ rfl
      have hMp : (0 : Int) < (M : Int) := by rw [← HM.out, List.length_cons]; omega
      have hMz : decide ((M : Int) > 0) = true := decide_eq_true hMp
      have hMn : 0 < M := by omega
      clear hc
      go_wp2_with fail
      obtain ⟨W6, hW6⟩ : ∃ W, W = w6.alloc (.cells #[.int .i64 y.1, .int .u64 y.2] 28) := ⟨_, rfl⟩
      rw [← hW6]
      have y0 : W6.cell? ⟨w6.heap.size, 0, none⟩ = some (.int .i64 y.1) := by rw [hW6]; exact cell_nw _ _ _ 0 _ rfl
      have y1 : W6.cell? ⟨w6.heap.size, 1, none⟩ = some (.int .u64 y.2) := by rw [hW6]; exact cell_nw _ _ _ 1 _ rfl
      have hbw6 : Below w6.heap.size w6 W6 := by rw [hW6]; exact below_a _ _
      replace r1 := cell_later hbw6 r1
      replace i0 := cell_later hbw6 i0
      replace i1 := cell_later hbw6 i1
      have HB6 := Lib.hid (Below.step HB6.out hbw6)
      clear hW6 hbw6
      generalize w6.heap.size = b10 at *
      have hS0 : Below W6.heap.size W6 W6.drew ∧ W6.drew.cell? ⟨b10, 0, none⟩ = some (.int .i64 y.1) ∧ W6.drew.cell? ⟨b10, 1, none⟩ = some (.int .u64 y.2) ∧ W6.drew.cell? ⟨bx, 1, none⟩ = some (.slice (some ⟨b, off, none⟩) M cap) ∧ W6.drew.cell? ⟨b, off, none⟩ = some (.int .i64 y.1) ∧ W6.drew.cell? ⟨b, off + 1, none⟩ = some (.int .u64 y.2) := ⟨Below.drew (Below.refl _ _), cell_dr y0, cell_dr y1, cell_dr r1, cell_dr i0, cell_dr i1⟩
      refine wp_region_held_drew (S := fun w' => Below W6.heap.size W6 w' ∧ w'.cell? ⟨b10, 0, none⟩ = some (.int .i64 y.1) ∧ w'.cell? ⟨b10, 1, none⟩ = some (.int .u64 y.2) ∧ w'.cell? ⟨bx, 1, none⟩ = some (.slice (some ⟨b, off, none⟩) M cap) ∧ w'.cell? ⟨b, off, none⟩ = some (.int .i64 y.1) ∧ w'.cell? ⟨b, off + 1, none⟩ = some (.int .u64 y.2)) (by kernel_rfl) hS0 (fun hHeld => ?_)
      refine takeH (i := 0) (v := ?v0_63) rfl (by kernel_rfl) (fun _ _ _ h => h) (by rfl) ?hy0_63 (by assumption) ?rest0_63
      case hy0_63 => (intro w hSw; (try dsimp only at hSw); go_simp; try with_reducible rfl)
      try simp only [Act.put, List.setIfInBounds_toArray, List.set_cons_zero, List.set_cons_succ]
      refine takeH (i := 1) (v := ?v1_64) rfl (by kernel_rfl) (fun _ _ _ h => h) (by rfl) ?hy1_64 (by assumption) ?rest1_64
      case hy1_64 => (intro w hSw; (try dsimp only at hSw); go_simp; try with_reducible rfl)
      try simp only [Act.put, List.setIfInBounds_toArray, List.set_cons_zero, List.set_cons_succ]
      refine takeH (i := 2) (v := ?v2_65) rfl (by kernel_rfl) (fun _ _ _ h => h) (by rfl) ?hy2_65 (by assumption) ?rest2_65
      case hy2_65 => (intro w hSw; (try dsimp only at hSw); go_simp; try with_reducible rfl)
      try simp only [Act.put, List.setIfInBounds_toArray, List.set_cons_zero, List.set_cons_succ]
      refine takeH (i := 3) (v := ?v3_66) rfl (by kernel_rfl) (fun _ _ _ h => h) (by rfl) ?hy3_66 (by assumption) ?rest3_66
      case hy3_66 => (intro w hSw; (try dsimp only at hSw); go_simp; try with_reducible rfl)
      try simp only [Act.put, List.setIfInBounds_toArray, List.set_cons_zero, List.set_cons_succ]
      refine takeH (i := 4) (v := ?v4_67) rfl (by kernel_rfl) (fun _ _ _ h => h) (by rfl) ?hy4_67 (by assumption) ?rest4_67
      case hy4_67 => (intro w hSw; (try dsimp only at hSw); go_simp; try with_reducible rfl)
      try simp only [Act.put, List.setIfInBounds_toArray, List.set_cons_zero, List.set_cons_succ]
      refine takeH (i := 5) (v := ?v5_68) rfl (by kernel_rfl) (fun _ _ _ h => h) (by rfl) ?hy5_68 (by assumption) ?rest5_68
      case hy5_68 => (intro w hSw; (try dsimp only at hSw); go_simp; try with_reducible rfl)
      try simp only [Act.put, List.setIfInBounds_toArray, List.set_cons_zero, List.set_cons_succ]
      refine takeH (i := 6) (v := ?v6_69) rfl (by kernel_rfl) (fun _ _ _ h => h) (by rfl) ?hy6_69 (by assumption) ?rest6_69
      case hy6_69 => (intro w hSw; (try dsimp only at hSw); go_simp; try with_reducible rfl)
      try simp only [Act.put, List.setIfInBounds_toArray, List.set_cons_zero, List.set_cons_succ]
      refine takeH (i := 7) (v := ?v7_70) rfl (by kernel_rfl) (fun _ _ _ h => h) (by rfl) ?hy7_70 (by assumption) ?rest7_70
      case hy7_70 => (intro w hSw; (try dsimp only at hSw); go_simp; try with_reducible rfl)
      try simp only [Act.put, List.setIfInBounds_toArray, List.set_cons_zero, List.set_cons_succ]
      refine takeH (i := 8) (v := ?v8_71) rfl (by kernel_rfl) (fun _ _ _ h => h) (by rfl) ?hy8_71 (by assumption) ?rest8_71
      case hy8_71 => (intro w hSw; (try dsimp only at hSw); go_simp; try with_reducible rfl)
      try simp only [Act.put, List.setIfInBounds_toArray, List.set_cons_zero, List.set_cons_succ]
      refine takeH (i := 9) (v := ?v9_72) rfl (by kernel_rfl) (fun _ _ _ h => h) (by rfl) ?hy9_72 (by assumption) ?rest9_72
      case hy9_72 => (intro w hSw; (try dsimp only at hSw); go_simp; try with_reducible rfl)
      try simp only [Act.put, List.setIfInBounds_toArray, List.set_cons_zero, List.set_cons_succ]
      refine takeH (i := 10) (v := ?v10_73) rfl (by kernel_rfl) (fun _ _ _ h => h) (by rfl) ?hy10_73 (by assumption) ?rest10_73
      case hy10_73 => (intro w hSw; (try dsimp only at hSw); go_simp; try with_reducible rfl)
      try simp only [Act.put, List.setIfInBounds_toArray, List.set_cons_zero, List.set_cons_succ]
      refine takeH (i := 11) (v := ?v11_74) rfl (by kernel_rfl) (fun _ _ _ h => h) (by rfl) ?hy11_74 (by assumption) ?rest11_74
      case hy11_74 => (intro w hSw; (try dsimp only at hSw); go_simp; try with_reducible rfl)
      try simp only [Act.put, List.setIfInBounds_toArray, List.set_cons_zero, List.set_cons_succ]
      refine takeH (i := 12) (v := ?v12_75) rfl (by kernel_rfl) (fun _ _ _ h => h) (by rfl) ?hy12_75 (by assumption) ?rest12_75
      case hy12_75 => (intro w hSw; (try dsimp only at hSw); go_simp; try with_reducible rfl)
      try simp only [Act.put, List.setIfInBounds_toArray, List.set_cons_zero, List.set_cons_succ]
      refine takeH (i := 13) (v := ?v13_76) rfl (by kernel_rfl) (fun _ _ _ h => h) (by rfl) ?hy13_76 (by assumption) ?rest13_76
      case hy13_76 => (intro w hSw; (try dsimp only at hSw); go_simp; try with_reducible rfl)
      try simp only [Act.put, List.setIfInBounds_toArray, List.set_cons_zero, List.set_cons_succ]
      refine takeH (i := 14) (v := ?v14_77) rfl (by kernel_rfl) (fun _ _ _ h => h) (by rfl) ?hy14_77 (by assumption) ?rest14_77
      case hy14_77 => (intro w hSw; (try dsimp only at hSw); go_simp; try with_reducible rfl)
      try simp only [Act.put, List.setIfInBounds_toArray, List.set_cons_zero, List.set_cons_succ]
      refine takeH (i := 15) (v := ?v15_78) rfl (by kernel_rfl) (fun _ _ _ h => h) (by rfl) ?hy15_78 (by assumption) ?rest15_78
      case hy15_78 => (intro w hSw; (try dsimp only at hSw); go_simp; try with_reducible rfl)
      try simp only [Act.put, List.setIfInBounds_toArray, List.set_cons_zero, List.set_cons_succ]
      refine takeH (i := 16) (v := ?v16_79) rfl (by kernel_rfl) (fun _ _ _ h => h) (by rfl) ?hy16_79 (by assumption) ?rest16_79
      case hy16_79 => (intro w hSw; (try dsimp only at hSw); go_simp; try with_reducible rfl)
      try simp only [Act.put, List.setIfInBounds_toArray, List.set_cons_zero, List.set_cons_succ]
      refine skipH (i := 17) rfl (by kernel_rfl) (fun _ _ _ h => h) (by kernel_rfl) (by assumption) ?_
      try simp only [Act.put, List.setIfInBounds_toArray, List.set_cons_zero, List.set_cons_succ]
      refine skipH (i := 18) rfl (by kernel_rfl) (fun _ _ _ h => h) (by kernel_rfl) (by assumption) ?_
      try simp only [Act.put, List.setIfInBounds_toArray, List.set_cons_zero, List.set_cons_succ]
      refine skipH (i := 19) rfl (by kernel_rfl) (fun _ _ _ h => h) (by kernel_rfl) (by assumption) ?_
      try simp only [Act.put, List.setIfInBounds_toArray, List.set_cons_zero, List.set_cons_succ]
      refine skipH (i := 20) rfl (by kernel_rfl) (fun _ _ _ h => h) (by kernel_rfl) (by assumption) ?_
      try simp only [Act.put, List.setIfInBounds_toArray, List.set_cons_zero, List.set_cons_succ]
      refine skipH (i := 21) rfl (by kernel_rfl) (fun _ _ _ h => h) (by kernel_rfl) (by assumption) ?_
      try simp only [Act.put, List.setIfInBounds_toArray, List.set_cons_zero, List.set_cons_succ]
      refine skipH (i := 22) rfl (by kernel_rfl) (fun _ _ _ h => h) (by kernel_rfl) (by assumption) ?_
      try simp only [Act.put, List.setIfInBounds_toArray, List.set_cons_zero, List.set_cons_succ]
      refine skipH (i := 23) rfl (by kernel_rfl) (fun _ _ _ h => h) (by kernel_rfl) (by assumption) ?_
      try simp only [Act.put, List.setIfInBounds_toArray, List.set_cons_zero, List.set_cons_succ]
      refine takeH (i := 24) (v := ?v24_80) rfl (by kernel_rfl) (fun _ _ _ h => h) (by rfl) ?hy24_80 (by assumption) ?rest24_80
      case hy24_80 => (intro w hSw; (try dsimp only at hSw); go_simp; try with_reducible rfl)
      try simp only [Act.put, List.setIfInBounds_toArray, List.set_cons_zero, List.set_cons_succ]
      refine takeH (i := 25) (v := ?v25_81) rfl (by kernel_rfl) (fun _ _ _ h => h) (by rfl) ?hy25_81 (by assumption) ?rest25_81
      case hy25_81 => (intro w hSw; (try dsimp only at hSw); go_simp; try with_reducible rfl)
      try simp only [Act.put, List.setIfInBounds_toArray, List.set_cons_zero, List.set_cons_succ]
      refine takeH (i := 26) (v := ?v26_82) rfl (by kernel_rfl) (fun _ _ _ h => h) (by rfl) ?hy26_82 (by assumption) ?rest26_82
      case hy26_82 => (intro w hSw; (try dsimp only at hSw); go_simp; try with_reducible rfl)
      try simp only [Act.put, List.setIfInBounds_toArray, List.set_cons_zero, List.set_cons_succ]
      refine wpAnyH_done (by kernel_rfl) ?_ _
      go_wp2_with fail
      go_ret
      exact ⟨rfl, HB6.out.drew⟩
  · rw [hkv]
    rw [hf] at AF
    clear hkv hf HKF
    go_wp2_with fail
    refine (AF.out W0 (HR.out.later HB0.out).recs).mono ?_
    rintro e w3 ⟨rfl, hg3⟩
    replace r0 := grows_cell hg3 r0
    replace r1 := grows_cell hg3 r1
    have HB1 := Lib.hid (Below.step HB0.out hg3.below)
    have HH := Lib.hid (show HeapIn w3.drew p F n S from (HI.out.below HB1.out).below (Below.refl _ _).drew)
    have RR := Lib.hid ((HR.out.later HB1.out).recs)
    clear hg3
    go_wp2_with fail
    have hS0 : Below w3.heap.size w3 w3.drew ∧ w3.drew.cell? ⟨bx, 1, none⟩ = some (.slice a M cap) := ⟨Below.drew (Below.refl _ _), cell_dr r1⟩
    refine wp_region_held_drew (S := fun w' => Below w3.heap.size w3 w' ∧ w'.cell? ⟨bx, 1, none⟩ = some (.slice a M cap)) (by kernel_rfl) hS0 (fun hHeld => ?_)
    refine takeH (i := 0) (v := ?v0_35) rfl (by kernel_rfl) (fun _ _ _ h => h) (by rfl) ?hy0_35 (by assumption) ?rest0_35
    case hy0_35 => (intro w hSw; (try dsimp only at hSw); go_simp; try with_reducible rfl)
    try simp only [Act.put, List.setIfInBounds_toArray, List.set_cons_zero, List.set_cons_succ]
    refine takeH (i := 1) (v := ?v1_36) rfl (by kernel_rfl) (fun _ _ _ h => h) (by rfl) ?hy1_36 (by assumption) ?rest1_36
    case hy1_36 => (intro w hSw; (try dsimp only at hSw); go_simp; try with_reducible rfl)
    try simp only [Act.put, List.setIfInBounds_toArray, List.set_cons_zero, List.set_cons_succ]
    refine takeH (i := 2) (v := ?v2_37) rfl (by kernel_rfl) (fun _ _ _ h => h) (by rfl) ?hy2_37 (by assumption) ?rest2_37
    case hy2_37 => (intro w hSw; (try dsimp only at hSw); go_simp; try with_reducible rfl)
    try simp only [Act.put, List.setIfInBounds_toArray, List.set_cons_zero, List.set_cons_succ]
    refine takeH (i := 3) (v := ?v3_38) rfl (by kernel_rfl) (fun _ _ _ h => h) (by rfl) ?hy3_38 (by assumption) ?rest3_38
    case hy3_38 => (intro w hSw; (try dsimp only at hSw); go_simp; try with_reducible rfl)
    try simp only [Act.put, List.setIfInBounds_toArray, List.set_cons_zero, List.set_cons_succ]
    refine takeH (i := 4) (v := ?v4_39) rfl (by kernel_rfl) (fun _ _ _ h => h) (by rfl) ?hy4_39 (by assumption) ?rest4_39
    case hy4_39 => (intro w hSw; (try dsimp only at hSw); go_simp; try with_reducible rfl)
    try simp only [Act.put, List.setIfInBounds_toArray, List.set_cons_zero, List.set_cons_succ]
    refine takeH (i := 5) (v := ?v5_40) rfl (by kernel_rfl) (fun _ _ _ h => h) (by rfl) ?hy5_40 (by assumption) ?rest5_40
    case hy5_40 => (intro w hSw; (try dsimp only at hSw); go_simp; try with_reducible rfl)
    try simp only [Act.put, List.setIfInBounds_toArray, List.set_cons_zero, List.set_cons_succ]
    refine takeH (i := 6) (v := ?v6_41) rfl (by kernel_rfl) (fun _ _ _ h => h) (by rfl) ?hy6_41 (by assumption) ?rest6_41
    case hy6_41 => (intro w hSw; (try dsimp only at hSw); go_simp; try with_reducible rfl)
    try simp only [Act.put, List.setIfInBounds_toArray, List.set_cons_zero, List.set_cons_succ]
    refine skipH (i := 7) rfl (by kernel_rfl) (fun _ _ _ h => h) (by kernel_rfl) (by assumption) ?_
    try simp only [Act.put, List.setIfInBounds_toArray, List.set_cons_zero, List.set_cons_succ]
    refine skipH (i := 8) rfl (by kernel_rfl) (fun _ _ _ h => h) (by kernel_rfl) (by assumption) ?_
    try simp only [Act.put, List.setIfInBounds_toArray, List.set_cons_zero, List.set_cons_succ]
    refine skipH (i := 9) rfl (by kernel_rfl) (fun _ _ _ h => h) (by kernel_rfl) (by assumption) ?_
    try simp only [Act.put, List.setIfInBounds_toArray, List.set_cons_zero, List.set_cons_succ]
    refine skipH (i := 10) rfl (by kernel_rfl) (fun _ _ _ h => h) (by kernel_rfl) (by assumption) ?_
    try simp only [Act.put, List.setIfInBounds_toArray, List.set_cons_zero, List.set_cons_succ]
    refine skipH (i := 11) rfl (by kernel_rfl) (fun _ _ _ h => h) (by kernel_rfl) (by assumption) ?_
    try simp only [Act.put, List.setIfInBounds_toArray, List.set_cons_zero, List.set_cons_succ]
    refine skipH (i := 12) rfl (by kernel_rfl) (fun _ _ _ h => h) (by kernel_rfl) (by assumption) ?_
    try simp only [Act.put, List.setIfInBounds_toArray, List.set_cons_zero, List.set_cons_succ]
    refine skipH (i := 13) rfl (by kernel_rfl) (fun _ _ _ h => h) (by kernel_rfl) (by assumption) ?_
    try simp only [Act.put, List.setIfInBounds_toArray, List.set_cons_zero, List.set_cons_succ]
    refine skipH (i := 14) rfl (by kernel_rfl) (fun _ _ _ h => h) (by kernel_rfl) (by assumption) ?_
    try simp only [Act.put, List.setIfInBounds_toArray, List.set_cons_zero, List.set_cons_succ]
    refine takeH (i := 15) (v := ?v15_42) rfl (by kernel_rfl) (fun _ _ _ h => h) (by rfl) ?hy15_42 (by assumption) ?rest15_42
    case hy15_42 => (intro w hSw; (try dsimp only at hSw); go_simp; try with_reducible rfl)
    try simp only [Act.put, List.setIfInBounds_toArray, List.set_cons_zero, List.set_cons_succ]
    refine takeH (i := 16) (v := ?v16_43) rfl (by kernel_rfl) (fun _ _ _ h => h) (by rfl) ?hy16_43 (by assumption) ?rest16_43
    case hy16_43 => (intro w hSw; (try dsimp only at hSw); go_simp; try with_reducible rfl)
    try simp only [Act.put, List.setIfInBounds_toArray, List.set_cons_zero, List.set_cons_succ]
    refine takeH (i := 17) (v := ?v17_44) rfl (by kernel_rfl) (fun _ _ _ h => h) (by rfl) ?hy17_44 (by assumption) ?rest17_44
    case hy17_44 => (intro w hSw; (try dsimp only at hSw); go_simp; try with_reducible rfl)
    try simp only [Act.put, List.setIfInBounds_toArray, List.set_cons_zero, List.set_cons_succ]
    refine takeH (i := 18) (v := ?v18_45) rfl (by kernel_rfl) (fun _ _ _ h => h) (by rfl) ?hy18_45 (by assumption) ?rest18_45
    case hy18_45 => (intro w hSw; (try dsimp only at hSw); go_simp; try with_reducible rfl)
    try simp only [Act.put, List.setIfInBounds_toArray, List.set_cons_zero, List.set_cons_succ]
    refine takeH (i := 19) (v := ?v19_46) rfl (by kernel_rfl) (fun _ _ _ h => h) (by rfl) ?hy19_46 (by assumption) ?rest19_46
    case hy19_46 => (intro w hSw; (try dsimp only at hSw); go_simp; try with_reducible rfl)
    try simp only [Act.put, List.setIfInBounds_toArray, List.set_cons_zero, List.set_cons_succ]
    refine takeH (i := 20) (v := ?v20_47) rfl (by kernel_rfl) (fun _ _ _ h => h) (by rfl) ?hy20_47 (by assumption) ?rest20_47
    case hy20_47 => (intro w hSw; (try dsimp only at hSw); go_simp; try with_reducible rfl)
    try simp only [Act.put, List.setIfInBounds_toArray, List.set_cons_zero, List.set_cons_succ]
    refine takeH (i := 21) (v := ?v21_48) rfl (by kernel_rfl) (fun _ _ _ h => h) (by rfl) ?hy21_48 (by assumption) ?rest21_48
    case hy21_48 => (intro w hSw; (try dsimp only at hSw); go_simp; try with_reducible rfl)
    try simp only [Act.put, List.setIfInBounds_toArray, List.set_cons_zero, List.set_cons_succ]
    refine takeH (i := 22) (v := ?v22_49) rfl (by kernel_rfl) (fun _ _ _ h => h) (by rfl) ?hy22_49 (by assumption) ?rest22_49
    case hy22_49 => (intro w hSw; (try dsimp only at hSw); go_simp; try with_reducible rfl)
    try simp only [Act.put, List.setIfInBounds_toArray, List.set_cons_zero, List.set_cons_succ]
    refine takeH (i := 23) (v := ?v23_50) rfl (by kernel_rfl) (fun _ _ _ h => h) (by rfl) ?hy23_50 (by assumption) ?rest23_50
    case hy23_50 => (intro w hSw; (try dsimp only at hSw); go_simp; try with_reducible rfl)
    try simp only [Act.put, List.setIfInBounds_toArray, List.set_cons_zero, List.set_cons_succ]
    refine takeH (i := 24) (v := ?v24_51) rfl (by kernel_rfl) (fun _ _ _ h => h) (by rfl) ?hy24_51 (by assumption) ?rest24_51
    case hy24_51 => (intro w hSw; (try dsimp only at hSw); go_simp; try with_reducible rfl)
    try simp only [Act.put, List.setIfInBounds_toArray, List.set_cons_zero, List.set_cons_succ]
    refine takeH (i := 25) (v := ?v25_52) rfl (by kernel_rfl) (fun _ _ _ h => h) (by rfl) ?hy25_52 (by assumption) ?rest25_52
    case hy25_52 => (intro w hSw; (try dsimp only at hSw); go_simp; try with_reducible rfl)
    try simp only [Act.put, List.setIfInBounds_toArray, List.set_cons_zero, List.set_cons_succ]
    refine takeH (i := 26) (v := ?v26_53) rfl (by kernel_rfl) (fun _ _ _ h => h) (by rfl) ?hy26_53 (by assumption) ?rest26_53
    case hy26_53 => (intro w hSw; (try dsimp only at hSw); go_simp; try with_reducible rfl)
    try simp only [Act.put, List.setIfInBounds_toArray, List.set_cons_zero, List.set_cons_succ]
    refine takeH (i := 28) (v := ?v28_54) rfl (by kernel_rfl) (fun _ _ _ h => h) (by rfl) ?hy28_54 (by assumption) ?rest28_54
    case hy28_54 => (intro w hSw; (try dsimp only at hSw); go_simp; try with_reducible rfl)
    try simp only [Act.put, List.setIfInBounds_toArray, List.set_cons_zero, List.set_cons_succ]
    refine takeH (i := 29) (v := ?v29_55) rfl (by kernel_rfl) (fun _ _ _ h => h) (by rfl) ?hy29_55 (by assumption) ?rest29_55
    case hy29_55 => (intro w hSw; (try dsimp only at hSw); go_simp; try with_reducible rfl)
    try simp only [Act.put, List.setIfInBounds_toArray, List.set_cons_zero, List.set_cons_succ]
    refine takeH (i := 30) (v := ?v30_56) rfl (by kernel_rfl) (fun _ _ _ h => h) (by rfl) ?hy30_56 (by assumption) ?rest30_56
    case hy30_56 => (intro w hSw; (try dsimp only at hSw); go_simp; try with_reducible rfl)
    try simp only [Act.put, List.setIfInBounds_toArray, List.set_cons_zero, List.set_cons_succ]
    refine wpAnyH_ready (rs := [27]) (by kernel_rfl) (by simp) ?_
    refine consH rfl (fun K hK => ?_) (AllReadyH.nil)
    go_simp
    refine (LenH_at _ HH.out).mono ?_
    rintro e w4 ⟨rfl, rfl⟩
    rw [HM.out]
    go_wp2_with fail
    refine hK.out _ _ ?_ (fun hHeld27 => ?_)
    · (first | assumption | (refine held_1 (by assumption) ?_; assumption) | (refine held_1 (below_ad _ _) ?_; assumption) | (refine held_1 (below_a _ _) ?_; assumption))
    clear hK K
    try simp only [Act.put, List.setIfInBounds_toArray, List.set_cons_zero, List.set_cons_succ]
    refine takeH (i := 31) (v := ?v31_57) rfl (by kernel_rfl) (fun _ _ _ h => h) (by rfl) ?hy31_57 (by assumption) ?rest31_57
    case hy31_57 => (intro w hSw; (try dsimp only at hSw); go_simp; try with_reducible rfl)
    try simp only [Act.put, List.setIfInBounds_toArray, List.set_cons_zero, List.set_cons_succ]
    refine takeH (i := 32) (v := ?v32_58) rfl (by kernel_rfl) (fun _ _ _ h => h) (by rfl) ?hy32_58 (by assumption) ?rest32_58
    case hy32_58 => (intro w hSw; (try dsimp only at hSw); go_simp; try with_reducible rfl)
    try simp only [Act.put, List.setIfInBounds_toArray, List.set_cons_zero, List.set_cons_succ]
    refine takeH (i := 33) (v := ?v33_59) rfl (by kernel_rfl) (fun _ _ _ h => h) (by rfl) ?hy33_59 (by assumption) ?rest33_59
    case hy33_59 => (intro w hSw; (try dsimp only at hSw); go_simp; try with_reducible rfl)
    try simp only [Act.put, List.setIfInBounds_toArray, List.set_cons_zero, List.set_cons_succ]
    refine takeH (i := 34) (v := ?v34_60) rfl (by kernel_rfl) (fun _ _ _ h => h) (by rfl) ?hy34_60 (by assumption) ?rest34_60
    case hy34_60 => (intro w hSw; (try dsimp only at hSw); go_simp; try with_reducible rfl)
    try simp only [Act.put, List.setIfInBounds_toArray, List.set_cons_zero, List.set_cons_succ]
    refine wpAnyH_ready (rs := [35]) (by kernel_rfl) (by simp) ?_
    refine consH rfl (fun K hK => ?_) (AllReadyH.nil)
    go_simp
    refine (Right_at _ HH.out).mono ?_
    rintro e w5 ⟨rfl, hb5⟩
    go_wp2_with fail
    refine hK.out _ _ ?_ (fun hHeld35 => ?_)
    · (first | assumption | (refine held_1 (by assumption) ?_; assumption) | (refine held_1 (below_ad _ _) ?_; assumption) | (refine held_1 (below_a _ _) ?_; assumption))
    clear hK K
    try simp only [Act.put, List.setIfInBounds_toArray, List.set_cons_zero, List.set_cons_succ]
    refine takeH (i := 36) (v := ?v36_61) rfl (by kernel_rfl) (fun _ _ _ h => h) (by rfl) ?hy36_61 (by assumption) ?rest36_61
    case hy36_61 => (intro w hSw; (try dsimp only at hSw); go_simp; try with_reducible rfl)
    try simp only [Act.put, List.setIfInBounds_toArray, List.set_cons_zero, List.set_cons_succ]
    refine takeH (i := 37) (v := ?v37_62) rfl (by kernel_rfl) (fun _ _ _ h => h) (by rfl) ?hy37_62 (by assumption) ?rest37_62
    case hy37_62 => (intro w hSw; (try dsimp only at hSw); go_simp; try with_reducible rfl)
    try simp only [Act.put, List.setIfInBounds_toArray, List.set_cons_zero, List.set_cons_succ]
    refine wpAnyH_done (by kernel_rfl) ?_ _
    skip
    obtain ⟨hB35, r1⟩ := hHeld35
    have HB5 := Lib.hid (Below.step HB1.out hB35)
    have HX5 := Lib.hid hB35
    clear hHeld hB35 hb5
    go_wp2_with fail
    refine (Least_at _ (HI.out.below HB5.out)).mono ?_
    rintro e w6 ⟨rfl, hg6⟩
    replace r1 := grows_cell hg6 r1
    have HB6 := Lib.hid (Below.step HB5.out hg6.below)
    have HX6 := Lib.hid (Below.step HX5.out hg6.below)
    clear hg6
    cases S with
    | nil =>
      have hM0 : M = 0 := HM.out.symm
      subst hM0
      rw [show leastV ([] : Items) = .tuple #[.agg #[.int .i64 0, .int .u64 0], .bool false] from rfl]
      go_wp2_with fail
      obtain ⟨W6, hW6⟩ : ∃ W, W = w6.alloc (.cells #[.int .i64 0, .int .u64 0] 28) := ⟨_, rfl⟩
      rw [← hW6]
      have y0 : W6.cell? ⟨w6.heap.size, 0, none⟩ = some (.int .i64 0) := by rw [hW6]; exact cell_nw _ _ _ 0 _ rfl
      have y1 : W6.cell? ⟨w6.heap.size, 1, none⟩ = some (.int .u64 0) := by rw [hW6]; exact cell_nw _ _ _ 1 _ rfl
      replace r1 := cell_later (show Below w6.heap.size w6 W6 by rw [hW6]; exact below_a _ _) r1
      have HB6 := Lib.hid (Below.step HB6.out (show Below w6.heap.size w6 W6 by rw [hW6]; exact below_a _ _))
      clear hW6
      generalize w6.heap.size = b10 at *
      have hS0 : Below W6.heap.size W6 W6.drew ∧ W6.drew.cell? ⟨b10, 0, none⟩ = some (.int .i64 0) ∧ W6.drew.cell? ⟨b10, 1, none⟩ = some (.int .u64 0) ∧ W6.drew.cell? ⟨bx, 1, none⟩ = some (.slice (a) 0 cap) := ⟨Below.drew (Below.refl _ _), cell_dr y0, cell_dr y1, cell_dr r1⟩
      refine wp_region_held_drew (S := fun w' => Below W6.heap.size W6 w' ∧ w'.cell? ⟨b10, 0, none⟩ = some (.int .i64 0) ∧ w'.cell? ⟨b10, 1, none⟩ = some (.int .u64 0) ∧ w'.cell? ⟨bx, 1, none⟩ = some (.slice (a) 0 cap)) (by kernel_rfl) hS0 (fun hHeld => ?_)
      refine takeH (i := 0) (v := ?v0_83) rfl (by kernel_rfl) (fun _ _ _ h => h) (by rfl) ?hy0_83 (by assumption) ?rest0_83
      case hy0_83 => (intro w hSw; (try dsimp only at hSw); go_simp; try with_reducible rfl)
      try simp only [Act.put, List.setIfInBounds_toArray, List.set_cons_zero, List.set_cons_succ]
      refine takeH (i := 1) (v := ?v1_84) rfl (by kernel_rfl) (fun _ _ _ h => h) (by rfl) ?hy1_84 (by assumption) ?rest1_84
      case hy1_84 => (intro w hSw; (try dsimp only at hSw); go_simp; try with_reducible rfl)
      try simp only [Act.put, List.setIfInBounds_toArray, List.set_cons_zero, List.set_cons_succ]
      refine takeH (i := 2) (v := ?v2_85) rfl (by kernel_rfl) (fun _ _ _ h => h) (by rfl) ?hy2_85 (by assumption) ?rest2_85
      case hy2_85 => (intro w hSw; (try dsimp only at hSw); go_simp; try with_reducible rfl)
      try simp only [Act.put, List.setIfInBounds_toArray, List.set_cons_zero, List.set_cons_succ]
      refine takeH (i := 3) (v := ?v3_86) rfl (by kernel_rfl) (fun _ _ _ h => h) (by rfl) ?hy3_86 (by assumption) ?rest3_86
      case hy3_86 => (intro w hSw; (try dsimp only at hSw); go_simp; try with_reducible rfl)
      try simp only [Act.put, List.setIfInBounds_toArray, List.set_cons_zero, List.set_cons_succ]
      refine takeH (i := 4) (v := ?v4_87) rfl (by kernel_rfl) (fun _ _ _ h => h) (by rfl) ?hy4_87 (by assumption) ?rest4_87
      case hy4_87 => (intro w hSw; (try dsimp only at hSw); go_simp; try with_reducible rfl)
      try simp only [Act.put, List.setIfInBounds_toArray, List.set_cons_zero, List.set_cons_succ]
      refine takeH (i := 5) (v := ?v5_88) rfl (by kernel_rfl) (fun _ _ _ h => h) (by rfl) ?hy5_88 (by assumption) ?rest5_88
      case hy5_88 => (intro w hSw; (try dsimp only at hSw); go_simp; try with_reducible rfl)
      try simp only [Act.put, List.setIfInBounds_toArray, List.set_cons_zero, List.set_cons_succ]
      refine takeH (i := 6) (v := ?v6_89) rfl (by kernel_rfl) (fun _ _ _ h => h) (by rfl) ?hy6_89 (by assumption) ?rest6_89
      case hy6_89 => (intro w hSw; (try dsimp only at hSw); go_simp; try with_reducible rfl)
      try simp only [Act.put, List.setIfInBounds_toArray, List.set_cons_zero, List.set_cons_succ]
      refine takeH (i := 7) (v := ?v7_90) rfl (by kernel_rfl) (fun _ _ _ h => h) (by rfl) ?hy7_90 (by assumption) ?rest7_90
      case hy7_90 => (intro w hSw; (try dsimp only at hSw); go_simp; try with_reducible rfl)
      try simp only [Act.put, List.setIfInBounds_toArray, List.set_cons_zero, List.set_cons_succ]
      refine takeH (i := 8) (v := ?v8_91) rfl (by kernel_rfl) (fun _ _ _ h => h) (by rfl) ?hy8_91 (by assumption) ?rest8_91
      case hy8_91 => (intro w hSw; (try dsimp only at hSw); go_simp; try with_reducible rfl)
      try simp only [Act.put, List.setIfInBounds_toArray, List.set_cons_zero, List.set_cons_succ]
      refine skipH (i := 9) rfl (by kernel_rfl) (fun _ _ _ h => h) (by kernel_rfl) (by assumption) ?_
      try simp only [Act.put, List.setIfInBounds_toArray, List.set_cons_zero, List.set_cons_succ]
      refine skipH (i := 10) rfl (by kernel_rfl) (fun _ _ _ h => h) (by kernel_rfl) (by assumption) ?_
      try simp only [Act.put, List.setIfInBounds_toArray, List.set_cons_zero, List.set_cons_succ]
      refine skipH (i := 11) rfl (by kernel_rfl) (fun _ _ _ h => h) (by kernel_rfl) (by assumption) ?_
      try simp only [Act.put, List.setIfInBounds_toArray, List.set_cons_zero, List.set_cons_succ]
      refine skipH (i := 12) rfl (by kernel_rfl) (fun _ _ _ h => h) (by kernel_rfl) (by assumption) ?_
      try simp only [Act.put, List.setIfInBounds_toArray, List.set_cons_zero, List.set_cons_succ]
      refine skipH (i := 13) rfl (by kernel_rfl) (fun _ _ _ h => h) (by kernel_rfl) (by assumption) ?_
      try simp only [Act.put, List.setIfInBounds_toArray, List.set_cons_zero, List.set_cons_succ]
      refine skipH (i := 14) rfl (by kernel_rfl) (fun _ _ _ h => h) (by kernel_rfl) (by assumption) ?_
      try simp only [Act.put, List.setIfInBounds_toArray, List.set_cons_zero, List.set_cons_succ]
      refine takeH (i := 15) (v := ?v15_92) rfl (by kernel_rfl) (fun _ _ _ h => h) (by rfl) ?hy15_92 (by assumption) ?rest15_92
      case hy15_92 => (intro w hSw; (try dsimp only at hSw); go_simp; try with_reducible rfl)
      try simp only [Act.put, List.setIfInBounds_toArray, List.set_cons_zero, List.set_cons_succ]
      refine takeH (i := 16) (v := ?v16_93) rfl (by kernel_rfl) (fun _ _ _ h => h) (by rfl) ?hy16_93 (by assumption) ?rest16_93
      case hy16_93 => (intro w hSw; (try dsimp only at hSw); go_simp; try with_reducible rfl)
      try simp only [Act.put, List.setIfInBounds_toArray, List.set_cons_zero, List.set_cons_succ]
      refine takeH (i := 17) (v := ?v17_94) rfl (by kernel_rfl) (fun _ _ _ h => h) (by rfl) ?hy17_94 (by assumption) ?rest17_94
      case hy17_94 => (intro w hSw; (try dsimp only at hSw); go_simp; try with_reducible rfl)
      try simp only [Act.put, List.setIfInBounds_toArray, List.set_cons_zero, List.set_cons_succ]
      refine takeH (i := 18) (v := ?v18_95) rfl (by kernel_rfl) (fun _ _ _ h => h) (by rfl) ?hy18_95 (by assumption) ?rest18_95
      case hy18_95 => (intro w hSw; (try dsimp only at hSw); go_simp; try with_reducible rfl)
      try simp only [Act.put, List.setIfInBounds_toArray, List.set_cons_zero, List.set_cons_succ]
      refine takeH (i := 19) (v := ?v19_96) rfl (by kernel_rfl) (fun _ _ _ h => h) (by rfl) ?hy19_96 (by assumption) ?rest19_96
      case hy19_96 => (intro w hSw; (try dsimp only at hSw); go_simp; try with_reducible rfl)
      try simp only [Act.put, List.setIfInBounds_toArray, List.set_cons_zero, List.set_cons_succ]
      refine takeH (i := 20) (v := ?v20_97) rfl (by kernel_rfl) (fun _ _ _ h => h) (by rfl) ?hy20_97 (by assumption) ?rest20_97
      case hy20_97 => (intro w hSw; (try dsimp only at hSw); go_simp; try with_reducible rfl)
      try simp only [Act.put, List.setIfInBounds_toArray, List.set_cons_zero, List.set_cons_succ]
      refine takeH (i := 21) (v := ?v21_98) rfl (by kernel_rfl) (fun _ _ _ h => h) (by rfl) ?hy21_98 (by assumption) ?rest21_98
      case hy21_98 => (intro w hSw; (try dsimp only at hSw); go_simp; try with_reducible rfl)
      try simp only [Act.put, List.setIfInBounds_toArray, List.set_cons_zero, List.set_cons_succ]
      refine takeH (i := 22) (v := ?v22_99) rfl (by kernel_rfl) (fun _ _ _ h => h) (by rfl) ?hy22_99 (by assumption) ?rest22_99
      case hy22_99 => (intro w hSw; (try dsimp only at hSw); go_simp; try with_reducible rfl)
      try simp only [Act.put, List.setIfInBounds_toArray, List.set_cons_zero, List.set_cons_succ]
      refine takeH (i := 23) (v := ?v23_100) rfl (by kernel_rfl) (fun _ _ _ h => h) (by rfl) ?hy23_100 (by assumption) ?rest23_100
      case hy23_100 => (intro w hSw; (try dsimp only at hSw); go_simp; try with_reducible rfl)
      try simp only [Act.put, List.setIfInBounds_toArray, List.set_cons_zero, List.set_cons_succ]
      refine takeH (i := 24) (v := ?v24_101) rfl (by kernel_rfl) (fun _ _ _ h => h) (by rfl) ?hy24_101 (by assumption) ?rest24_101
      case hy24_101 => (intro w hSw; (try dsimp only at hSw); go_simp; try with_reducible rfl)
      try simp only [Act.put, List.setIfInBounds_toArray, List.set_cons_zero, List.set_cons_succ]
      refine takeH (i := 25) (v := ?v25_102) rfl (by kernel_rfl) (fun _ _ _ h => h) (by rfl) ?hy25_102 (by assumption) ?rest25_102
      case hy25_102 => (intro w hSw; (try dsimp only at hSw); go_simp; try with_reducible rfl)
      try simp only [Act.put, List.setIfInBounds_toArray, List.set_cons_zero, List.set_cons_succ]
      refine takeH (i := 26) (v := ?v26_103) rfl (by kernel_rfl) (fun _ _ _ h => h) (by rfl) ?hy26_103 (by assumption) ?rest26_103
      case hy26_103 => (intro w hSw; (try dsimp only at hSw); go_simp; try with_reducible rfl)
      try simp only [Act.put, List.setIfInBounds_toArray, List.set_cons_zero, List.set_cons_succ]
      refine wpAnyH_done (by kernel_rfl) ?_ _
      go_wp2_with fail
      go_ret
      exact ⟨rfl, HB6.out.drew⟩
    | cons y r =>
      rw [show leastV (y :: r : Items) = .tuple #[.agg #[.int .i64 y.1, .int .u64 y.2], .bool true] from rfl]
      obtain ⟨b, off, e1, hc⟩ := recs_cells (RR.out.later HX6.out) (by simp)
      subst e1
      have i0 : w6.cell? ⟨b, off, none⟩ = some (.int .i64 y.1) := hc 0 _ rfl
      have i1 : w6.cell? ⟨b, off + 1, none⟩ = some (.int .u64 y.2) := hc 1 _ rfl
      have hMp : (0 : Int) < (M : Int) := by rw [← HM.out, List.length_cons]; omega
      have hMz : decide ((M : Int) > 0) = true := decide_eq_true hMp
      have hMn : 0 < M := by omega
      clear hc
      go_wp2_with fail
      obtain ⟨W6, hW6⟩ : ∃ W, W = w6.alloc (.cells #[.int .i64 y.1, .int .u64 y.2] 28) := ⟨_, rfl⟩
      rw [← hW6]
      have y0 : W6.cell? ⟨w6.heap.size, 0, none⟩ = some (.int .i64 y.1) := by rw [hW6]; exact cell_nw _ _ _ 0 _ rfl
      have y1 : W6.cell? ⟨w6.heap.size, 1, none⟩ = some (.int .u64 y.2) := by rw [hW6]; exact cell_nw _ _ _ 1 _ rfl
      have hbw6 : Below w6.heap.size w6 W6 := by rw [hW6]; exact below_a _ _
      replace r1 := cell_later hbw6 r1
      replace i0 := cell_later hbw6 i0
      replace i1 := cell_later hbw6 i1
      have HB6 := Lib.hid (Below.step HB6.out hbw6)
      clear hW6 hbw6
      generalize w6.heap.size = b10 at *
      have hS0 : Below W6.heap.size W6 W6.drew ∧ W6.drew.cell? ⟨b10, 0, none⟩ = some (.int .i64 y.1) ∧ W6.drew.cell? ⟨b10, 1, none⟩ = some (.int .u64 y.2) ∧ W6.drew.cell? ⟨bx, 1, none⟩ = some (.slice (some ⟨b, off, none⟩) M cap) ∧ W6.drew.cell? ⟨b, off, none⟩ = some (.int .i64 y.1) ∧ W6.drew.cell? ⟨b, off + 1, none⟩ = some (.int .u64 y.2) := ⟨Below.drew (Below.refl _ _), cell_dr y0, cell_dr y1, cell_dr r1, cell_dr i0, cell_dr i1⟩
      refine wp_region_held_drew (S := fun w' => Below W6.heap.size W6 w' ∧ w'.cell? ⟨b10, 0, none⟩ = some (.int .i64 y.1) ∧ w'.cell? ⟨b10, 1, none⟩ = some (.int .u64 y.2) ∧ w'.cell? ⟨bx, 1, none⟩ = some (.slice (some ⟨b, off, none⟩) M cap) ∧ w'.cell? ⟨b, off, none⟩ = some (.int .i64 y.1) ∧ w'.cell? ⟨b, off + 1, none⟩ = some (.int .u64 y.2)) (by kernel_rfl) hS0 (fun hHeld => ?_)
      refine takeH (i := 0) (v := ?v0_104) rfl (by kernel_rfl) (fun _ _ _ h => h) (by rfl) ?hy0_104 (by assumption) ?rest0_104
      case hy0_104 => (intro w hSw; (try dsimp only at hSw); go_simp; try with_reducible rfl)
      try simp only [Act.put, List.setIfInBounds_toArray, List.set_cons_zero, List.set_cons_succ]
      refine takeH (i := 1) (v := ?v1_105) rfl (by kernel_rfl) (fun _ _ _ h => h) (by rfl) ?hy1_105 (by assumption) ?rest1_105
      case hy1_105 => (intro w hSw; (try dsimp only at hSw); go_simp; try with_reducible rfl)
      try simp only [Act.put, List.setIfInBounds_toArray, List.set_cons_zero, List.set_cons_succ]
      refine takeH (i := 2) (v := ?v2_106) rfl (by kernel_rfl) (fun _ _ _ h => h) (by rfl) ?hy2_106 (by assumption) ?rest2_106
      case hy2_106 => (intro w hSw; (try dsimp only at hSw); go_simp; try with_reducible rfl)
      try simp only [Act.put, List.setIfInBounds_toArray, List.set_cons_zero, List.set_cons_succ]
      refine takeH (i := 3) (v := ?v3_107) rfl (by kernel_rfl) (fun _ _ _ h => h) (by rfl) ?hy3_107 (by assumption) ?rest3_107
      case hy3_107 => (intro w hSw; (try dsimp only at hSw); go_simp; try with_reducible rfl)
      try simp only [Act.put, List.setIfInBounds_toArray, List.set_cons_zero, List.set_cons_succ]
      refine takeH (i := 4) (v := ?v4_108) rfl (by kernel_rfl) (fun _ _ _ h => h) (by rfl) ?hy4_108 (by assumption) ?rest4_108
      case hy4_108 => (intro w hSw; (try dsimp only at hSw); go_simp; try with_reducible rfl)
      try simp only [Act.put, List.setIfInBounds_toArray, List.set_cons_zero, List.set_cons_succ]
      refine takeH (i := 5) (v := ?v5_109) rfl (by kernel_rfl) (fun _ _ _ h => h) (by rfl) ?hy5_109 (by assumption) ?rest5_109
      case hy5_109 => (intro w hSw; (try dsimp only at hSw); go_simp; try with_reducible rfl)
      try simp only [Act.put, List.setIfInBounds_toArray, List.set_cons_zero, List.set_cons_succ]
      refine takeH (i := 6) (v := ?v6_110) rfl (by kernel_rfl) (fun _ _ _ h => h) (by rfl) ?hy6_110 (by assumption) ?rest6_110
      case hy6_110 => (intro w hSw; (try dsimp only at hSw); go_simp; try with_reducible rfl)
      try simp only [Act.put, List.setIfInBounds_toArray, List.set_cons_zero, List.set_cons_succ]
      refine takeH (i := 7) (v := ?v7_111) rfl (by kernel_rfl) (fun _ _ _ h => h) (by rfl) ?hy7_111 (by assumption) ?rest7_111
      case hy7_111 => (intro w hSw; (try dsimp only at hSw); go_simp; try with_reducible rfl)
      try simp only [Act.put, List.setIfInBounds_toArray, List.set_cons_zero, List.set_cons_succ]
      refine takeH (i := 8) (v := ?v8_112) rfl (by kernel_rfl) (fun _ _ _ h => h) (by rfl) ?hy8_112 (by assumption) ?rest8_112
      case hy8_112 => (intro w hSw; (try dsimp only at hSw); go_simp; try with_reducible rfl)
      try simp only [Act.put, List.setIfInBounds_toArray, List.set_cons_zero, List.set_cons_succ]
      refine takeH (i := 9) (v := ?v9_113) rfl (by kernel_rfl) (fun _ _ _ h => h) (by rfl) ?hy9_113 (by assumption) ?rest9_113
      case hy9_113 => (intro w hSw; (try dsimp only at hSw); go_simp; try with_reducible rfl)
      try simp only [Act.put, List.setIfInBounds_toArray, List.set_cons_zero, List.set_cons_succ]
      refine takeH (i := 10) (v := ?v10_114) rfl (by kernel_rfl) (fun _ _ _ h => h) (by rfl) ?hy10_114 (by assumption) ?rest10_114
      case hy10_114 => (intro w hSw; (try dsimp only at hSw); go_simp; try with_reducible rfl)
      try simp only [Act.put, List.setIfInBounds_toArray, List.set_cons_zero, List.set_cons_succ]
      refine takeH (i := 11) (v := ?v11_115) rfl (by kernel_rfl) (fun _ _ _ h => h) (by rfl) ?hy11_115 (by assumption) ?rest11_115
      case hy11_115 => (intro w hSw; (try dsimp only at hSw); go_simp; try with_reducible rfl)
      try simp only [Act.put, List.setIfInBounds_toArray, List.set_cons_zero, List.set_cons_succ]
      refine takeH (i := 12) (v := ?v12_116) rfl (by kernel_rfl) (fun _ _ _ h => h) (by rfl) ?hy12_116 (by assumption) ?rest12_116
      case hy12_116 => (intro w hSw; (try dsimp only at hSw); go_simp; try with_reducible rfl)
      try simp only [Act.put, List.setIfInBounds_toArray, List.set_cons_zero, List.set_cons_succ]
      refine takeH (i := 13) (v := ?v13_117) rfl (by kernel_rfl) (fun _ _ _ h => h) (by rfl) ?hy13_117 (by assumption) ?rest13_117
      case hy13_117 => (intro w hSw; (try dsimp only at hSw); go_simp; try with_reducible rfl)
      try simp only [Act.put, List.setIfInBounds_toArray, List.set_cons_zero, List.set_cons_succ]
      refine takeH (i := 14) (v := ?v14_118) rfl (by kernel_rfl) (fun _ _ _ h => h) (by rfl) ?hy14_118 (by assumption) ?rest14_118
      case hy14_118 => (intro w hSw; (try dsimp only at hSw); go_simp; try with_reducible rfl)
      try simp only [Act.put, List.setIfInBounds_toArray, List.set_cons_zero, List.set_cons_succ]
      refine takeH (i := 15) (v := ?v15_119) rfl (by kernel_rfl) (fun _ _ _ h => h) (by rfl) ?hy15_119 (by assumption) ?rest15_119
      case hy15_119 => (intro w hSw; (try dsimp only at hSw); go_simp; try with_reducible rfl)
      try simp only [Act.put, List.setIfInBounds_toArray, List.set_cons_zero, List.set_cons_succ]
      refine takeH (i := 16) (v := ?v16_120) rfl (by kernel_rfl) (fun _ _ _ h => h) (by rfl) ?hy16_120 (by assumption) ?rest16_120
      case hy16_120 => (intro w hSw; (try dsimp only at hSw); go_simp; try with_reducible rfl)
      try simp only [Act.put, List.setIfInBounds_toArray, List.set_cons_zero, List.set_cons_succ]
      refine skipH (i := 17) rfl (by kernel_rfl) (fun _ _ _ h => h) (by kernel_rfl) (by assumption) ?_
      try simp only [Act.put, List.setIfInBounds_toArray, List.set_cons_zero, List.set_cons_succ]
      refine skipH (i := 18) rfl (by kernel_rfl) (fun _ _ _ h => h) (by kernel_rfl) (by assumption) ?_
      try simp only [Act.put, List.setIfInBounds_toArray, List.set_cons_zero, List.set_cons_succ]
      refine skipH (i := 19) rfl (by kernel_rfl) (fun _ _ _ h => h) (by kernel_rfl) (by assumption) ?_
      try simp only [Act.put, List.setIfInBounds_toArray, List.set_cons_zero, List.set_cons_succ]
      refine skipH (i := 20) rfl (by kernel_rfl) (fun _ _ _ h => h) (by kernel_rfl) (by assumption) ?_
      try simp only [Act.put, List.setIfInBounds_toArray, List.set_cons_zero, List.set_cons_succ]
      refine skipH (i := 21) rfl (by kernel_rfl) (fun _ _ _ h => h) (by kernel_rfl) (by assumption) ?_
      try simp only [Act.put, List.setIfInBounds_toArray, List.set_cons_zero, List.set_cons_succ]
      refine skipH (i := 22) rfl (by kernel_rfl) (fun _ _ _ h => h) (by kernel_rfl) (by assumption) ?_
      try simp only [Act.put, List.setIfInBounds_toArray, List.set_cons_zero, List.set_cons_succ]
      refine skipH (i := 23) rfl (by kernel_rfl) (fun _ _ _ h => h) (by kernel_rfl) (by assumption) ?_
      try simp only [Act.put, List.setIfInBounds_toArray, List.set_cons_zero, List.set_cons_succ]
      refine takeH (i := 24) (v := ?v24_121) rfl (by kernel_rfl) (fun _ _ _ h => h) (by rfl) ?hy24_121 (by assumption) ?rest24_121
      case hy24_121 => (intro w hSw; (try dsimp only at hSw); go_simp; try with_reducible rfl)
      try simp only [Act.put, List.setIfInBounds_toArray, List.set_cons_zero, List.set_cons_succ]
      refine takeH (i := 25) (v := ?v25_122) rfl (by kernel_rfl) (fun _ _ _ h => h) (by rfl) ?hy25_122 (by assumption) ?rest25_122
      case hy25_122 => (intro w hSw; (try dsimp only at hSw); go_simp; try with_reducible rfl)
      try simp only [Act.put, List.setIfInBounds_toArray, List.set_cons_zero, List.set_cons_succ]
      refine takeH (i := 26) (v := ?v26_123) rfl (by kernel_rfl) (fun _ _ _ h => h) (by rfl) ?hy26_123 (by assumption) ?rest26_123
      case hy26_123 => (intro w hSw; (try dsimp only at hSw); go_simp; try with_reducible rfl)
      try simp only [Act.put, List.setIfInBounds_toArray, List.set_cons_zero, List.set_cons_succ]
      refine wpAnyH_done (by kernel_rfl) ?_ _
      go_wp2_with fail
      go_ret
      exact ⟨rfl, HB6.out.drew⟩
end Go.Proofs.Ytpbaegdmjmickaa
