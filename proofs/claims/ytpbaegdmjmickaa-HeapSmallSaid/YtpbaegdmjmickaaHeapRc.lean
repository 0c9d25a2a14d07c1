/-
  Layer 18 (heap), the reference: Out, Put, Set.
-/
import Derived.Test.YtpbaegdmjmickaaHeapRb
import Derived.Test.YtpbaegdmjmickaaKitU
namespace Go.Proofs.Ytpbaegdmjmickaa
open Go.RowKit Go.Maps Go.IntWalk Go.Lib
set_option linter.unusedVariables false
set_option linter.unusedSimpArgs false
/-- the records that come back lie where the old ones lay, or in new blocks -/
def NewR (w w' : World) (v : Value) (S : Items) (v' : Value) (S' : Items) : Prop := ∀ F : List Nat, (∀ b ∈ F, b < w.heap.size) → HeldR encQ F w v S → HeldR encQ F w' v' S'
theorem HeldR.sub {F F' : List Nat} {w : World} {v : Value} {S : Items} (h : HeldR encQ F w v S) (hs : ∀ b ∈ F', b ∈ F) : HeldR encQ F' w v S := h.step (Kept.refl _ _) fun b hb => Or.inl (hs b hb)
theorem NewR.same {w w' : World} {v : Value} {S : Items} (h : Below w.heap.size w w') : NewR w w' v S v S := fun F _ q => q.later h
def ROutP (w : World) (v0 : Value) (S0 : Items) (n : Int) (S : Items) (key err : Int) (e : Ending) (w' : World) : Prop := ∃ a cap, e = .returned (.tuple #[.agg #[.int .i64 n, .slice a S.length cap], .int .u64 key, .int .i64 err]) ∧ NewR w w' v0 S0 (.slice a S.length cap) S ∧ Below w.heap.size w w'
def RPutP (w : World) (v0 : Value) (S0 : Items) (n : Int) (S : Items) (err : Int) (e : Ending) (w' : World) : Prop := ∃ a cap, e = .returned (.tuple #[.agg #[.int .i64 n, .slice a S.length cap], .int .i64 err]) ∧ NewR w w' v0 S0 (.slice a S.length cap) S ∧ Below w.heap.size w w'
/-- the numbers of a reference's heap -/
structure RefS (n : Int) (S : Items) : Prop where
  nod : (S.map Prod.fst).Nodup
  len : S.length ≤ 400000
theorem own_recs' {α : Type} {enc : α → List Value} {k : Nat} (he : Enc enc k) {w : World} {base n e : Nat} {v : Value} {L : List α} {xs : List Value} (h : w.ownsRow base e k v n xs) (hn : n = L.length) (hx : xs = flatR enc L) : RecsAt enc w v L := by
  subst hn; subst hx; exact own_recs he h
theorem frz_grows {w w' : World} {b o : Nat} (hb : Grows w w') (h : w.frozen? ⟨b, o, none⟩ = false) (hl : b < w.heap.size) : w'.frozen? ⟨b, o, none⟩ = false := frz_later hb.below h hl
set_option maxRecDepth 100000 in
set_option maxHeartbeats 4000000 in
theorem rOut_any (a : Option Addr) (cap : Nat) (n id : Int) (S : Items) (w : World) (h : RecsAt encQ w (.slice a S.length cap) S) (hS : RefS n S) :
    Calls Try.prog 38 #[.agg #[.int .i64 n, .slice a S.length cap], .int .i64 id] w (ROutP w (.slice a S.length cap) S n (outS n S id) (outKey n S id) (outRes n S id)) := by
  obtain ⟨i0, hi, hz0, hz1, hz2⟩ := info_parts infoRItem
  have H := Lib.hid h
  have HS := Lib.hid hS
  have hlen := h.len
  have AF := Lib.hid fun (W : World) (h : RecsAt encQ W (.slice a S.length cap) S) => rFind_any a cap n id S W h
  clear h hS
  by_cases hh : 0 ≤ id ∧ id < n
  · obtain ⟨h0, h1⟩ := hh
    have z1 : decide (id < 0) = false := decide_eq_false (by omega)
    have z1' : (id < 0) = False := eq_false (by omega)
    have z2 : decide (id ≥ n) = false := decide_eq_false (by omega)
    have z2' : decide (n ≤ id) = false := decide_eq_false (by omega)
    have z2q : (n ≤ id) = False := eq_false (by omega)
    have HHV := Lib.hid (has_true h0 h1)
    obtain ⟨M, hM⟩ : ∃ M, M = S.length := ⟨_, rfl⟩
    have HM := Lib.hid hM.symm
    rw [← hM] at hlen H AF ⊢
    clear hM
    obtain ⟨W0, hW0⟩ : ∃ W0, W0 = (w.alloc (.cells #[.int .i64 n, .slice a M cap] 58)).alloc (.cells #[.int .i64 0, .slice none 0 0] 58) := ⟨_, rfl⟩
    have HG0 := Lib.hid (show Grows w W0 by rw [hW0]; exact ((Grows.refl w).alloc _).alloc _)
    have c0 : W0.cell? ⟨w.heap.size, 0, none⟩ = some (.int .i64 n) := by rw [hW0]; exact cell_al _ (cell_nw _ _ _ 0 _ rfl)
    have c1 : W0.cell? ⟨w.heap.size, 1, none⟩ = some (.slice a M cap) := by rw [hW0]; exact cell_al _ (cell_nw _ _ _ 1 _ rfl)
    have r0 : W0.cell? ⟨w.heap.size + 1, 0, none⟩ = some (.int .i64 0) := by rw [hW0]; simp
    have r1 : W0.cell? ⟨w.heap.size + 1, 1, none⟩ = some (.slice none 0 0) := by rw [hW0]; simp
    have f1 : W0.frozen? ⟨w.heap.size, 1, none⟩ = false := by rw [hW0]; exact frz_later (below_a _ _) (frz_nw _ _ _ 1) (by simp)
    have g0 : W0.frozen? ⟨w.heap.size + 1, 0, none⟩ = false := by rw [hW0]; simp
    have g1 : W0.frozen? ⟨w.heap.size + 1, 1, none⟩ = false := by rw [hW0]; simp
    have HW0 := Lib.hid hW0
    clear hW0 h0 h1
    go_enter Try.func38, Try.ntmps38
    go_wp2_with fail
    rw [← HW0.out]
    refine (AF.out W0 (H.out.later HG0.out.below)).mono ?_
    rintro e W3 ⟨rfl, hg3⟩
    replace c0 := grows_cell hg3 c0
    replace c1 := grows_cell hg3 c1
    replace r0 := grows_cell hg3 r0
    replace r1 := grows_cell hg3 r1
    replace f1 := frz_grows hg3 f1 (by first | (rw [HW0.out]; simp; done) | (rw [HW0.out]; simp; omega))
    replace g0 := frz_grows hg3 g0 (by first | (rw [HW0.out]; simp; done) | (rw [HW0.out]; simp; omega))
    replace g1 := frz_grows hg3 g1 (by first | (rw [HW0.out]; simp; done) | (rw [HW0.out]; simp; omega))
    have HB3 := Lib.hid (hg3.below)
    have HW3 := Lib.hid (Below.step HG0.out.below hg3.below)
    have RS := Lib.hid (H.out.later HW3.out)
    have hbw := Nat.lt_of_lt_of_le (lt_of_cell c0) (Nat.le_refl _)
    clear hg3
    generalize hbx : w.heap.size = bx at c0 c1 r0 r1 f1 g0 g1 ⊢
    have HBX := Lib.hid hbx
    have HLT3 := Lib.hid (lt_of_cell r0)
    clear hbx hbw
    rcases findI_cases S id with ⟨k, hk, hf, hid, hfst⟩ | ⟨hf, hkn⟩
    · have hkM : k < M := by rw [HM.out] at hk; exact hk
      have hky : keyL S id = some S[k]!.2 := by have := keyL_at HS.out.nod hk; rwa [hid] at this
      obtain ⟨q1, q2, q3, _⟩ := there_out (n := n) HHV.out hky
      have hes : outL S id = S.take k ++ S.drop (k + 1) := by
        have := erase_outL hk HS.out.nod
        rw [hid] at this
        rw [← this, List.eraseIdx_eq_take_drop_succ]
      rw [hf]
      have Q1 := Lib.hid q1
      have Q2 := Lib.hid q2
      have Q3 := Lib.hid q3
      have HES := Lib.hid hes
      obtain ⟨-, b, off, rfl, i0', i1'⟩ := (recs_items RS.out).cells hk
      generalize S[k]! = y at *
      have hk0 : (0 : Int) ≤ (k : Int) := by omega
      have hkm : (k : Int) < (M : Int) := by omega
      have zk : decide ((k : Int) < 0) = false := decide_eq_false (by omega)
      have zk' : ((k : Int) < 0) = False := eq_false (by omega)
      have hMc : M ≤ cap := hlen.2.1
      have hM4 : M ≤ 400000 := by rw [← HM.out]; exact HS.out.len
      have hwr : IntKind.i64.wrap ((k : Int) + 1) = (k : Int) + 1 := IntWalk.i64_in _ (by omega)
      have hkM1 : k + 1 ≤ M := hkM
      have hkC : k ≤ cap := by omega
      have RT := Lib.hid (sliced_take (m := k) encQ_ok RS.out (by omega))
      have RD := Lib.hid (sliced_drop (m := k + 1) encQ_ok RS.out hkM)
      have hlT := Lib.hid (show (S.take k).length ≤ 400000 by have h1 := List.length_take_le' k S; rw [HM.out] at h1; omega)
      have hlD := Lib.hid (show (S.drop (k + 1)).length ≤ 400000 by rw [List.length_drop, HM.out]; omega)
      obtain ⟨vT, hvT⟩ : ∃ v, v = sliced (some ⟨b, off, none⟩) 0 k cap 2 := ⟨_, rfl⟩
      obtain ⟨vD, hvD⟩ : ∃ v, v = sliced (some ⟨b, off, none⟩) (k + 1) M cap 2 := ⟨_, rfl⟩
      rw [← hvT] at RT
      rw [← hvD] at RD
      have HVT := Lib.hid hvT
      have HVD := Lib.hid hvD
      clear hvT hvD hes q1 q2 q3 hky hf hid hfst hk hlen
      go_wp2_with fail
      clear i0'
      have hS0 : Below W3.heap.size W3 W3.drew ∧ W3.drew.cell? ⟨bx, 1, none⟩ = some (.slice (some ⟨b, off, none⟩) M cap) := ⟨Below.drew (Below.refl _ _), cell_dr c1⟩
      refine startU [13] (fun w' => Below W3.heap.size W3 w' ∧ w'.cell? ⟨bx, 1, none⟩ = some (.slice (some ⟨b, off, none⟩) M cap)) (by kernel_rfl) hS0 (fun hHeld => ?_)
      have hS00 : Below W3.heap.size W3 W3 ∧ W3.cell? ⟨bx, 1, none⟩ = some (.slice (some ⟨b, off, none⟩) M cap) := ⟨Below.refl _ _, c1⟩
      obtain ⟨wc75, hwc75⟩ : ∃ X, X = W3.drew := ⟨_, rfl⟩
      rw [← hwc75] at hHeld ⊢
      have hWc75 : Below W3.heap.size W3 wc75 := by rw [hwc75]; exact (Below.refl _ _).drew
      clear hwc75
      refine takeUw (i := 1) (v := ?v1_76) rfl (by kernel_rfl) (fun _ _ _ h => h) (by rfl) ?hy1_76 (by assumption) ?rest1_76
      case hy1_76 => (intro w hSw; (try dsimp only at hSw); go_simp; try with_reducible rfl)
      try simp only [Act.put, List.setIfInBounds_toArray, List.set_cons_zero, List.set_cons_succ]
      refine takeUw (i := 2) (v := ?v2_77) rfl (by kernel_rfl) (fun _ _ _ h => h) (by rfl) ?hy2_77 (by assumption) ?rest2_77
      case hy2_77 => (intro w hSw; (try dsimp only at hSw); go_simp; try with_reducible rfl)
      try simp only [Act.put, List.setIfInBounds_toArray, List.set_cons_zero, List.set_cons_succ]
      refine takeUw (i := 3) (v := ?v3_78) rfl (by kernel_rfl) (fun _ _ _ h => h) (by rfl) ?hy3_78 (by assumption) ?rest3_78
      case hy3_78 => (intro w hSw; (try dsimp only at hSw); go_simp; try with_reducible rfl)
      try simp only [Act.put, List.setIfInBounds_toArray, List.set_cons_zero, List.set_cons_succ]
      refine takeUw (i := 4) (v := vT) rfl (by kernel_rfl) (fun _ _ _ h => h) (by rfl) (fun w _ => by rw [HVT.out]; exact run_take 56 (.tmp 32) (.tmp 33) rfl undRItems sizeRItem rfl rfl hkC) (by assumption) ?_
      try simp only [Act.put, List.setIfInBounds_toArray, List.set_cons_zero, List.set_cons_succ]
      refine takeUw (i := 6) (v := ?v6_79) rfl (by kernel_rfl) (fun _ _ _ h => h) (by rfl) ?hy6_79 (by assumption) ?rest6_79
      case hy6_79 => (intro w hSw; (try dsimp only at hSw); go_simp; try with_reducible rfl)
      try simp only [Act.put, List.setIfInBounds_toArray, List.set_cons_zero, List.set_cons_succ]
      refine takeUw (i := 7) (v := ?v7_80) rfl (by kernel_rfl) (fun _ _ _ h => h) (by rfl) ?hy7_80 (by assumption) ?rest7_80
      case hy7_80 => (intro w hSw; (try dsimp only at hSw); go_simp; try with_reducible rfl)
      try simp only [Act.put, List.setIfInBounds_toArray, List.set_cons_zero, List.set_cons_succ]
      refine takeUw (i := 8) (v := ?v8_81) rfl (by kernel_rfl) (fun _ _ _ h => h) (by rfl) ?hy8_81 (by assumption) ?rest8_81
      case hy8_81 => (intro w hSw; (try dsimp only at hSw); go_simp; try with_reducible rfl)
      try simp only [Act.put, List.setIfInBounds_toArray, List.set_cons_zero, List.set_cons_succ]
      refine takeUw (i := 9) (v := ?v9_82) rfl (by kernel_rfl) (fun _ _ _ h => h) (by rfl) ?hy9_82 (by assumption) ?rest9_82
      case hy9_82 => (intro w hSw; (try dsimp only at hSw); go_simp; try with_reducible rfl)
      try simp only [Act.put, List.setIfInBounds_toArray, List.set_cons_zero, List.set_cons_succ]
      refine takeUw (i := 10) (v := vD) rfl (by kernel_rfl) (fun _ _ _ h => h) (by rfl) (fun w _ => by rw [HVD.out]; exact run_drop 56 (.tmp 37) (.tmp 39) rfl undRItems sizeRItem rfl rfl hkM1) (by assumption) ?_
      try simp only [Act.put, List.setIfInBounds_toArray, List.set_cons_zero, List.set_cons_succ]
      refine readyU (rs := [0]) (by kernel_rfl) (by simp) ?_
      refine consU rfl (fun K hK => ?_) (nilU)
      go_simp
      obtain ⟨w83, hw83⟩ : ∃ X, X = wc75.alloc (.cells #[] 77) := ⟨_, rfl⟩
      rw [← hw83]
      have hb83 : Below wc75.heap.size wc75 w83 := by rw [hw83]; exact below_a _ _
      have hW83 := Below.step hWc75 hb83
      have o0 : w83.ownsRow W3.heap.size 77 2 (.slice (some ⟨wc75.heap.size, 0, none⟩) 0 0) 0 [] := by rw [hw83]; exact World.ownsRow_lit _ #[] 0 hWc75.size (by unfold maxLen; omega) rfl
      clear hw83
      refine hK.out _ _ (held_1 hW83 hS00) (fun hHeld0 => ?_)
      clear hK K
      try simp only [Act.put, List.setIfInBounds_toArray, List.set_cons_zero, List.set_cons_succ]
      refine readyU (rs := [5]) (by kernel_rfl) (by simp) ?_
      refine consU rfl (fun K hK => ?_) (nilU)
      refine stepF rfl (.tmp 30) (.tmp 34) 56 rfl W3.heap.size 77 i0 (.agg #[.int .i64 0, .int .u64 0]) 2 16 encQ_ok Try.underlying56 hi hz0 hz1 hz2 rfl _ rfl o0 _ _ rfl (RT.out.later hW83) (by have := hlT.out; unfold maxLen; omega) (by have := hlT.out; omega) hW83.size ?_
      intro v84 w84 o5 hb84 hp84
      have hW84 := Below.step hW83 hb84
      refine hK.out _ _ (held_1 hW84 hS00) (fun hHeld5 => ?_)
      clear hK K
      try simp only [Act.put, List.setIfInBounds_toArray, List.set_cons_zero, List.set_cons_succ]
      refine readyU (rs := [11]) (by kernel_rfl) (by simp) ?_
      refine consU rfl (fun K hK => ?_) (nilU)
      refine stepR rfl (.tmp 35) (.tmp 40) 56 rfl W3.heap.size 77 i0 (.agg #[.int .i64 0, .int .u64 0]) 2 16 encQ_ok Try.underlying56 hi hz0 hz1 hz2 rfl _ _ _ rfl o5 _ _ rfl (RD.out.later hW84) (by have := hlT.out; have := hlD.out; unfold maxLen; omega) (by have := hlT.out; have := hlD.out; omega) hW84.size ?_
      intro v85 w85 o11 hg85 hp85 hn85
      have hW85 : Below W3.heap.size W3 w85 := hW84.grown hg85 hW84.size (fun g hg => (o5.lt g hg).1)
      refine hK.out _ _ (held_1 hW85 hS00) (fun hHeld11 => ?_)
      clear hK K
      try simp only [Act.put, List.setIfInBounds_toArray, List.set_cons_zero, List.set_cons_succ]
      refine takeUw (i := 12) (v := ?v12_86) rfl (by kernel_rfl) (fun _ _ _ h => h) (by rfl) ?hy12_86 (by assumption) ?rest12_86
      case hy12_86 => (intro w hSw; (try dsimp only at hSw); go_simp; try with_reducible rfl)
      try simp only [Act.put, List.setIfInBounds_toArray, List.set_cons_zero, List.set_cons_succ]
      refine readyU (rs := [13]) (by kernel_rfl) (by simp) ?_
      refine consV rfl (by kernel_rfl) (fun K hK => ?_) (nilU)
      obtain ⟨ga, gc, rfl⟩ := own_shapeQ o11
      generalize hN : (S.take k).length + (S.drop (k + 1)).length = N at o11 ⊢
      have HN := Lib.hid hN
      clear hN
      replace f1 := frz_later hW85 f1 (lt_of_cell c1)
      replace g0 := frz_later hW85 g0 (lt_of_cell r0)
      replace g1 := frz_later hW85 g1 (lt_of_cell r1)
      replace c0 := cell_later hW85 c0
      replace c1 := cell_later hW85 c1
      replace r0 := cell_later hW85 r0
      replace r1 := cell_later hW85 r1
      go_simp
      refine hK.out _ _ ?_
      clear hK K
      try simp only [Act.put, List.setIfInBounds_toArray, List.set_cons_zero, List.set_cons_succ]
      refine doneU (by kernel_rfl) ?_ _
      replace c0 : (w85.setCell ⟨bx, 1, none⟩ (.slice ga N gc)).cell? ⟨bx, 0, none⟩ = some (.int .i64 n) := cell_set_ne c0 (by simp)
      replace c1 : (w85.setCell ⟨bx, 1, none⟩ (.slice ga N gc)).cell? ⟨bx, 1, none⟩ = some (.slice ga N gc) := cell_set_eq c1
      replace r0 : (w85.setCell ⟨bx, 1, none⟩ (.slice ga N gc)).cell? ⟨bx + 1, 0, none⟩ = some (.int .i64 0) := cell_set_ne r0 (by simp)
      replace r1 : (w85.setCell ⟨bx, 1, none⟩ (.slice ga N gc)).cell? ⟨bx + 1, 1, none⟩ = some (.slice none 0 0) := cell_set_ne r1 (by simp)
      replace g0 : (w85.setCell ⟨bx, 1, none⟩ (.slice ga N gc)).frozen? ⟨bx + 1, 0, none⟩ = false := by rw [World.frozen?_setCell]; exact g0
      replace g1 : (w85.setCell ⟨bx, 1, none⟩ (.slice ga N gc)).frozen? ⟨bx + 1, 1, none⟩ = false := by rw [World.frozen?_setCell]; exact g1
      have HB4 := Lib.hid (Below.step HW3.out hW85)
      have HO11 := Lib.hid (fun (F : List Nat) (hF : ∀ b ∈ F, b < w.heap.size) => own_heldR (L := outL S id) (F := bx :: (bx + 1) :: F) encQ_ok o11 (by rw [← HN.out, HES.out, List.length_append]) (by rw [HES.out, flatR_app]) (fun b hb => by have h1 := HLT3.out; have h2 := HBX.out; simp at hb; rcases hb with hb | hb | hb <;> first | omega | (have := hF b hb; omega)))
      have HLEN := Lib.hid (show N = (outL S id).length by rw [← HN.out, HES.out, List.length_append])
      obtain ⟨wq, hwq⟩ : ∃ wq, wq = (w85.setCell ⟨bx, 1, none⟩ (.slice ga N gc)) := ⟨_, rfl⟩
      rw [← hwq] at c0 c1 r0 r1 g0 g1 ⊢
      have HWQ := Lib.hid hwq
      clear hwq f1
      go_wp2_with fail
      refine bodyPost_ret (v := .tuple #[.agg #[.int .i64 n, .slice ga N gc], .int .u64 y.2, .int .i64 0]) (by simp [results, Try.results38, go_sem, *]) rfl ?_
      have KF : Kept [bx, bx + 1] w85 ((wq.setCell ⟨bx + 1, 0, none⟩ (.int .i64 n)).setCell ⟨bx + 1, 1, none⟩ (.slice ga N gc)) := by
        rw [HWQ.out]; exact (((Kept.refl _ _).setCell (Or.inl (by simp)) _).setCell (Or.inl (by simp)) _).setCell (Or.inl (by simp)) _
      rw [HLEN.out] at KF HO11 ⊢
      rw [Q1.out, Q2.out, Q3.out]
      exact ⟨_, _, rfl, fun F hF _ => ((HO11.out F hF).kept (KF.mono (fun b hb => by simp at hb ⊢; rcases hb with hb | hb <;> simp [hb]))).sub (fun b hb => by simp [hb]), Kept.stepB HB4.out (Nat.le_refl _) KF (fun b hb => by have := HBX.out; simp at hb; omega)⟩
    · obtain ⟨q1, q2, q3, _⟩ := none_out (n := n) HHV.out hkn
      rw [hf]
      have Q1 := Lib.hid q1
      have Q2 := Lib.hid q2
      have Q3 := Lib.hid q3
      clear q1 q2 q3 hkn hf hlen
      go_wp2_with fail
      refine bodyPost_ret (v := .tuple #[.agg #[.int .i64 n, .slice a M cap], .int .u64 0, .int .i64 6]) (by simp [results, Try.results38, go_sem, *]) rfl ?_
      have KF : Kept [bx, bx + 1] W3 ((W3.setCell ⟨bx + 1, 0, none⟩ (.int .i64 n)).setCell ⟨bx + 1, 1, none⟩ (.slice a M cap)) := ((Kept.refl _ _).setCell (Or.inl (by simp)) _).setCell (Or.inl (by simp)) _
      have hb := Kept.stepB HW3.out (Nat.le_refl _) KF (fun b hb => by have := HBX.out; simp at hb; omega)
      have hr : NewR w _ (.slice a M cap) S (.slice a M cap) S := NewR.same hb
      rw [← HM.out] at hr KF ⊢
      rw [Q1.out, Q2.out, Q3.out]
      rw [← HM.out] at hb
      exact ⟨_, _, rfl, hr, hb⟩
  · obtain ⟨q1, q2, q3, _⟩ := bad_out (n := n) (S := S) (id := id) (decide_eq_false hh)
    rw [q1, q2, q3]
    have fin : ∀ W, Below w.heap.size w W → ROutP w (.slice a S.length cap) S n S 0 2 (.returned (.tuple #[.agg #[.int .i64 n, .slice a S.length cap], .int .u64 0, .int .i64 2])) W := fun W hb => ⟨a, cap, rfl, NewR.same hb, hb⟩
    have FIN := Lib.hid fin
    clear q1 q2 q3 fin
    by_cases h0 : id < 0
    · have z1 : decide (id < 0) = true := decide_eq_true h0
      clear hh
      go_enter Try.func38, Try.ntmps38
      go_wp2_with fail
      refine bodyPost_ret (v := .tuple #[.agg #[.int .i64 n, .slice a S.length cap], .int .u64 0, .int .i64 2]) (by simp [results, Try.results38, go_sem]) rfl (FIN.out _ ?_)
      repeat (first | exact Below.refl _ _ | refine Below.step ?_ (by assumption) | refine Below.setCell ?_ (by first | (simp; done) | (simp; omega) | omega) _ | refine Below.allocS ?_ _ | refine Below.drew ?_ | refine below_drewN ?_ _)
    · have z1 : decide (id < 0) = false := decide_eq_false h0
      have z2 : decide (n ≤ id) = true := decide_eq_true (by omega)
      have z2' : decide (id ≥ n) = true := decide_eq_true (by omega)
      clear hh h0
      go_enter Try.func38, Try.ntmps38
      go_wp2_with fail
      refine bodyPost_ret (v := .tuple #[.agg #[.int .i64 n, .slice a S.length cap], .int .u64 0, .int .i64 2]) (by simp [results, Try.results38, go_sem]) rfl (FIN.out _ ?_)
      repeat (first | exact Below.refl _ _ | refine Below.step ?_ (by assumption) | refine Below.setCell ?_ (by first | (simp; done) | (simp; omega) | omega) _ | refine Below.allocS ?_ _ | refine Below.drew ?_ | refine below_drewN ?_ _)
set_option maxRecDepth 100000 in
set_option maxHeartbeats 4000000 in
theorem rPut_any (a : Option Addr) (cap : Nat) (n id key : Int) (S : Items) (w : World) (h : RecsAt encQ w (.slice a S.length cap) S) (hS : RefS n S) :
    Calls Try.prog 36 #[.agg #[.int .i64 n, .slice a S.length cap], .int .i64 id, .int .u64 key] w (RPutP w (.slice a S.length cap) S n (putS n S id key) (putRes n S id)) := by
  have H := Lib.hid h
  have HS := Lib.hid hS
  have hlen := h.len
  have AF := Lib.hid fun (W : World) (h : RecsAt encQ W (.slice a S.length cap) S) => rFind_any a cap n id S W h
  have AW := Lib.hid fun (W : World) (h : RecsAt encQ W (.slice a S.length cap) S) => rwith_any a cap S (id, key) W h (by have := hS.len; omega)
  clear h hS
  by_cases hh : 0 ≤ id ∧ id < n
  · obtain ⟨h0, h1⟩ := hh
    have z1 : decide (id < 0) = false := decide_eq_false (by omega)
    have z1' : (id < 0) = False := eq_false (by omega)
    have z2 : decide (id ≥ n) = false := decide_eq_false (by omega)
    have z2' : decide (n ≤ id) = false := decide_eq_false (by omega)
    have z2q : (n ≤ id) = False := eq_false (by omega)
    have HHV := Lib.hid (has_true h0 h1)
    obtain ⟨M, hM⟩ : ∃ M, M = S.length := ⟨_, rfl⟩
    have HM := Lib.hid hM.symm
    rw [← hM] at hlen H AF AW ⊢
    clear hM
    obtain ⟨W0, hW0⟩ : ∃ W0, W0 = (w.alloc (.cells #[.int .i64 n, .slice a M cap] 58)).alloc (.cells #[.int .i64 0, .slice none 0 0] 58) := ⟨_, rfl⟩
    have HG0 := Lib.hid (show Grows w W0 by rw [hW0]; exact ((Grows.refl w).alloc _).alloc _)
    have c0 : W0.cell? ⟨w.heap.size, 0, none⟩ = some (.int .i64 n) := by rw [hW0]; exact cell_al _ (cell_nw _ _ _ 0 _ rfl)
    have c1 : W0.cell? ⟨w.heap.size, 1, none⟩ = some (.slice a M cap) := by rw [hW0]; exact cell_al _ (cell_nw _ _ _ 1 _ rfl)
    have r0 : W0.cell? ⟨w.heap.size + 1, 0, none⟩ = some (.int .i64 0) := by rw [hW0]; simp
    have r1 : W0.cell? ⟨w.heap.size + 1, 1, none⟩ = some (.slice none 0 0) := by rw [hW0]; simp
    have f1 : W0.frozen? ⟨w.heap.size, 1, none⟩ = false := by rw [hW0]; exact frz_later (below_a _ _) (frz_nw _ _ _ 1) (by simp)
    have g0 : W0.frozen? ⟨w.heap.size + 1, 0, none⟩ = false := by rw [hW0]; simp
    have g1 : W0.frozen? ⟨w.heap.size + 1, 1, none⟩ = false := by rw [hW0]; simp
    have HW0 := Lib.hid hW0
    clear hW0 h0 h1
    go_enter Try.func36, Try.ntmps36
    go_wp2_with fail
    rw [← HW0.out]
    refine (AF.out W0 (H.out.later HG0.out.below)).mono ?_
    rintro e W3 ⟨rfl, hg3⟩
    replace c0 := grows_cell hg3 c0
    replace c1 := grows_cell hg3 c1
    replace r0 := grows_cell hg3 r0
    replace r1 := grows_cell hg3 r1
    replace f1 := frz_grows hg3 f1 (by first | (rw [HW0.out]; simp; done) | (rw [HW0.out]; simp; omega))
    replace g0 := frz_grows hg3 g0 (by first | (rw [HW0.out]; simp; done) | (rw [HW0.out]; simp; omega))
    replace g1 := frz_grows hg3 g1 (by first | (rw [HW0.out]; simp; done) | (rw [HW0.out]; simp; omega))
    have HB3 := Lib.hid (hg3.below)
    have HW3 := Lib.hid (Below.step HG0.out.below hg3.below)
    have RS := Lib.hid (H.out.later HW3.out)
    have hbw := Nat.lt_of_lt_of_le (lt_of_cell c0) (Nat.le_refl _)
    clear hg3
    generalize hbx : w.heap.size = bx at c0 c1 r0 r1 f1 g0 g1 ⊢
    have HBX := Lib.hid hbx
    have HLT3 := Lib.hid (lt_of_cell r0)
    clear hbx hbw
    rcases findI_cases S id with ⟨k, hk, hf, hid, hfst⟩ | ⟨hf, hkn⟩
    · have hky : keyL S id = some S[k]!.2 := by have := keyL_at HS.out.nod hk; rwa [hid] at this
      obtain ⟨_, _, _, _, _, q1, q2, _⟩ := there_out (n := n) HHV.out hky
      rw [hf]
      have Q1 := Lib.hid q1
      have Q2 := Lib.hid (q2 key)
      have hk0 : (0 : Int) ≤ (k : Int) := by omega
      have zk : decide ((k : Int) ≥ 0) = true := decide_eq_true (by omega)
      clear q1 q2 hky hf hid hfst hk hlen
      go_wp2_with fail
      refine bodyPost_ret (v := .tuple #[.agg #[.int .i64 n, .slice a M cap], .int .i64 180]) (by simp [results, Try.results36, go_sem, *]) rfl ?_
      have KF : Kept [bx, bx + 1] W3 ((W3.setCell ⟨bx + 1, 0, none⟩ (.int .i64 n)).setCell ⟨bx + 1, 1, none⟩ (.slice a M cap)) := ((Kept.refl _ _).setCell (Or.inl (by simp)) _).setCell (Or.inl (by simp)) _
      have hb := Kept.stepB HW3.out (Nat.le_refl _) KF (fun b hb => by have := HBX.out; simp at hb; omega)
      have hr : NewR w _ (.slice a M cap) S (.slice a M cap) S := NewR.same hb
      rw [← HM.out] at hr KF ⊢
      rw [Q1.out, Q2.out]
      rw [← HM.out] at hb
      exact ⟨_, _, rfl, hr, hb⟩
    · obtain ⟨_, _, _, _, _, q1, q2, _⟩ := none_out (n := n) HHV.out hkn
      rw [hf]
      have Q1 := Lib.hid q1
      have Q2 := Lib.hid (q2 key)
      clear q1 q2 hkn hf hlen
      go_wp2_with fail
      refine (AW.out _ RS.out).mono ?_
      rintro e W4 ⟨a4, cap4, rfl, hr4, hb4⟩
      have c0x := cell_later hb4 c0
      have c1x := cell_later hb4 c1
      have r0x := cell_later hb4 r0
      have r1x := cell_later hb4 r1
      have f1x := frz_later hb4 f1 (lt_of_cell c1)
      have g0x := frz_later hb4 g0 (lt_of_cell r0)
      have g1x := frz_later hb4 g1 (lt_of_cell r1)
      have HR4 := Lib.hid hr4
      have HB4 := Lib.hid (Below.step HW3.out hb4)
      have HSZ := Lib.hid (show bx + 1 < W3.heap.size from lt_of_cell r0)
      have HSZ3 := Lib.hid HW3.out.size
      obtain ⟨N, hN⟩ : ∃ N, N = (putL S (id, key)).length := ⟨_, rfl⟩
      have HN := Lib.hid hN
      rw [← hN]
      rw [← hN] at HR4
      clear hr4 hb4 hN c0 c1 r0 r1 f1 g0 g1
      go_wp2_with fail
      refine bodyPost_ret (v := .tuple #[.agg #[.int .i64 n, .slice a4 N cap4], .int .i64 0]) (by simp [results, Try.results36, go_sem, *]) rfl ?_
      have KF : Kept [bx, bx + 1] W4 (((W4.setCell ⟨bx, 1, none⟩ (.slice a4 N cap4)).setCell ⟨bx + 1, 0, none⟩ (.int .i64 n)).setCell ⟨bx + 1, 1, none⟩ (.slice a4 N cap4)) := (((Kept.refl _ _).setCell (Or.inl (by simp)) _).setCell (Or.inl (by simp)) _).setCell (Or.inl (by simp)) _
      have hb := Kept.stepB HB4.out (Nat.le_refl _) KF (fun b hb => by have := HBX.out; simp at hb; omega)
      rw [HN.out] at KF HR4 hb ⊢
      rw [Q1.out, Q2.out]
      exact ⟨_, _, rfl, fun F hF _ => ((HR4.out (bx :: (bx + 1) :: F) (fun b hb => by have h1 := HSZ.out; have h2 := HSZ3.out; simp at hb; rcases hb with hb | hb | hb <;> first | omega | (have := hF b hb; omega))).kept (KF.mono (fun b hb => by simp at hb ⊢; rcases hb with hb | hb <;> simp [hb]))).sub (fun b hb => by simp [hb]), hb⟩
  · obtain ⟨_, _, _, _, _, q1, q2, _⟩ := bad_out (n := n) (S := S) (id := id) (decide_eq_false hh)
    rw [q1, q2]
    have fin : ∀ W, Below w.heap.size w W → RPutP w (.slice a S.length cap) S n S 2 (.returned (.tuple #[.agg #[.int .i64 n, .slice a S.length cap], .int .i64 2])) W := fun W hb => ⟨a, cap, rfl, NewR.same hb, hb⟩
    have FIN := Lib.hid fin
    clear q1 q2 fin
    by_cases h0 : id < 0
    · have z1 : decide (id < 0) = true := decide_eq_true h0
      clear hh
      go_enter Try.func36, Try.ntmps36
      go_wp2_with fail
      refine bodyPost_ret (v := .tuple #[.agg #[.int .i64 n, .slice a S.length cap], .int .i64 2]) (by simp [results, Try.results36, go_sem]) rfl (FIN.out _ ?_)
      repeat (first | exact Below.refl _ _ | refine Below.step ?_ (by assumption) | refine Below.setCell ?_ (by first | (simp; done) | (simp; omega) | omega) _ | refine Below.allocS ?_ _ | refine Below.drew ?_ | refine below_drewN ?_ _)
    · have z1 : decide (id < 0) = false := decide_eq_false h0
      have z2 : decide (n ≤ id) = true := decide_eq_true (by omega)
      have z2' : decide (id ≥ n) = true := decide_eq_true (by omega)
      clear hh h0
      go_enter Try.func36, Try.ntmps36
      go_wp2_with fail
      refine bodyPost_ret (v := .tuple #[.agg #[.int .i64 n, .slice a S.length cap], .int .i64 2]) (by simp [results, Try.results36, go_sem]) rfl (FIN.out _ ?_)
      repeat (first | exact Below.refl _ _ | refine Below.step ?_ (by assumption) | refine Below.setCell ?_ (by first | (simp; done) | (simp; omega) | omega) _ | refine Below.allocS ?_ _ | refine Below.drew ?_ | refine below_drewN ?_ _)
end Go.Proofs.Ytpbaegdmjmickaa
