/-
  Layer 24 (queue): Enter.
-/
import Derived.Test.YtfgmglghlapbcaaQueueW
namespace Go.Proofs.Ytfgmglghlapbcaa
open Go.RowKit Go.Maps Go.IntWalk Go.Lib
set_option linter.unusedVariables false
set_option linter.unusedSimpArgs false
theorem Step.lift {Fh Fh' : List Nat} {w w' : World} (h : Step Fh w Fh' w') (q bm : Nat) : Step (q :: bm :: Fh) w (q :: bm :: Fh') w' :=
  ⟨h.kept.mono (fun b hb => by simp [hb]), fun b hb => by
    simp only [List.mem_cons] at hb ⊢
    rcases hb with hb | hb | hb
    · exact Or.inl (Or.inl hb)
    · exact Or.inl (Or.inr (Or.inl hb))
    · rcases h.new b hb with k | k
      · exact Or.inl (Or.inr (Or.inr k))
      · exact Or.inr k⟩
theorem Step.inn {F G : List Nat} {w w' : World} (h : Kept G w w') (hs : ∀ b ∈ G, b ∈ F) : Step F w F w' := ⟨h.mono hs, fun b hb => Or.inl hb⟩
def enterC (n : Int) (M : Mems) (id : Int) (x : Ent) : Int := if hasV n id then (if Ch.Ok x.1 x.2.1 x.2.2 then (if (entM M id).isSome then 240 else 0) else 2) else 2
def enterM (n : Int) (M : Mems) (id : Int) (x : Ent) : Mems := if enterC n M id x = 0 then putM M (id, x) else M
def enterF (n : Int) (M : Mems) (id : Int) (x : Ent) (fl : Int) : Int := if enterC n M id x = 0 then riseF (itemsM (putM M (id, x))) fl else fl
set_option maxRecDepth 100000 in
set_option maxHeartbeats 4000000 in
theorem Enter_at {q : Nat} {F : List Nat} {n : Int} {M : Mems} {fl : Int} (id : Int) (x : Ent) (w : World) (h : QIn w q F n M fl) (hid : (Lit.int .i64 id).wf = true) (hx : Ch.Fits x.1 x.2.1 x.2.2) :
    Calls Try.prog 50 #[.pointer (some ⟨q, 0, none⟩), .int .i64 id, .agg #[.int .u64 x.1, .int .u32 x.2.1, .int .u32 x.2.2]] w (QDid w q F n (.int .i64 (enterC n M id x)) (enterM n M id x) (enterF n M id x fl)) := by
  have HQ := Lib.hid h
  obtain ⟨p, bm, Fh, f, hr, rfl, hfe, hok, hf0, hf1⟩ := h
  have HR := Lib.hid hr
  obtain ⟨W0, hW0⟩ : ∃ W0, W0 = w.alloc (.cells #[.int .u64 x.1, .int .u32 x.2.1, .int .u32 x.2.2] 39) := ⟨_, rfl⟩
  have HB0 := Lib.hid (show Below w.heap.size w W0 by rw [hW0]; exact below_a _ _)
  have x0 : W0.cell? ⟨w.heap.size, 0, none⟩ = some (.int .u64 x.1) := by rw [hW0]; exact cell_nw _ _ _ 0 _ rfl
  have x1 : W0.cell? ⟨w.heap.size, 1, none⟩ = some (.int .u32 x.2.1) := by rw [hW0]; exact cell_nw _ _ _ 1 _ rfl
  have x2 : W0.cell? ⟨w.heap.size, 2, none⟩ = some (.int .u32 x.2.2) := by rw [hW0]; exact cell_nw _ _ _ 2 _ rfl
  have HW0 := Lib.hid hW0
  have A1 := Lib.hid (qfind_at id W0 (hr.below HB0.out) hid)
  have A2 := Lib.hid fun W => right_any x.1 x.2.1 x.2.2 W hx
  have HID := Lib.hid hid
  have HX := Lib.hid hx
  have HOK := Lib.hid hok
  have HFE := Lib.hid hfe
  have HFL := Lib.hid (And.intro hf0 hf1)
  clear hr hW0 hid hx hok hf0 hf1
  unfold qfindV at A1
  cases hv : hasV n id with
  | false =>
    rw [hv] at A1
    have E := Lib.hid (show enterC n M id x = 2 by unfold enterC; rw [hv]; rfl)
    have EM := Lib.hid (show enterM n M id x = M by unfold enterM; rw [E.out]; rfl)
    have EF := Lib.hid (show enterF n M id x fl = fl by unfold enterF; rw [E.out]; rfl)
    clear hfe
    go_enter Try.func50, Try.ntmps50
    go_wp2_with fail
    rw [← HW0.out]
    refine A1.out.mono ?_; rintro e w5 ⟨rfl, hb5⟩
    have HB5 := Lib.hid (Below.step HB0.out hb5)
    clear hb5
    go_wp2_with fail
    go_ret
    rw [E.out, EM.out, EF.out]
    exact ⟨rfl, QAfter.same HQ.out (Below.step HB5.out (below_a _ _))⟩
  | true =>
    rw [hv] at A1
    cases hm : entM M id with
    | some y =>
      rw [hfe, hm] at A1
      by_cases hOk : Ch.Ok x.1 x.2.1 x.2.2
      · have E := Lib.hid (show enterC n M id x = 240 by unfold enterC; rw [hv, hm, if_pos rfl, if_pos hOk]; rfl)
        have hz : Ch.okB x.1 x.2.1 x.2.2 = true := decide_eq_true hOk
        have EM := Lib.hid (show enterM n M id x = M by unfold enterM; rw [E.out]; rfl)
        have EF := Lib.hid (show enterF n M id x fl = fl by unfold enterF; rw [E.out]; rfl)
        clear hfe hOk hm hv
        go_enter Try.func50, Try.ntmps50
        go_wp2_with fail
        rw [← HW0.out]
        refine A1.out.mono ?_; rintro e w5 ⟨rfl, hb5⟩
        have x0 := fun o => cell_al o (cell_later hb5 x0)
        have x1 := fun o => cell_al o (cell_later hb5 x1)
        have x2 := fun o => cell_al o (cell_later hb5 x2)
        have HB5 := Lib.hid (Below.step HB0.out hb5)
        clear hb5
        go_wp2_with fail
        refine (A2.out _).mono ?_; rintro e w7 ⟨rfl, hb7⟩
        rw [hz]
        have HB7 := Lib.hid (Below.step (Below.step HB5.out (below_a _ _)) hb7)
        clear hb7
        go_wp2_with fail
        go_ret
        rw [E.out, EM.out, EF.out]
        exact ⟨rfl, QAfter.same HQ.out HB7.out⟩
      · have E := Lib.hid (show enterC n M id x = 2 by unfold enterC; rw [hv, if_pos rfl, if_neg hOk])
        have hz : Ch.okB x.1 x.2.1 x.2.2 = false := decide_eq_false hOk
        have EM := Lib.hid (show enterM n M id x = M by unfold enterM; rw [E.out]; rfl)
        have EF := Lib.hid (show enterF n M id x fl = fl by unfold enterF; rw [E.out]; rfl)
        clear hfe hOk hm hv
        go_enter Try.func50, Try.ntmps50
        go_wp2_with fail
        rw [← HW0.out]
        refine A1.out.mono ?_; rintro e w5 ⟨rfl, hb5⟩
        have x0 := fun o => cell_al o (cell_later hb5 x0)
        have x1 := fun o => cell_al o (cell_later hb5 x1)
        have x2 := fun o => cell_al o (cell_later hb5 x2)
        have HB5 := Lib.hid (Below.step HB0.out hb5)
        clear hb5
        go_wp2_with fail
        refine (A2.out _).mono ?_; rintro e w7 ⟨rfl, hb7⟩
        rw [hz]
        have HB7 := Lib.hid (Below.step (Below.step HB5.out (below_a _ _)) hb7)
        clear hb7
        go_wp2_with fail
        go_ret
        rw [E.out, EM.out, EF.out]
        exact ⟨rfl, QAfter.same HQ.out HB7.out⟩
    | none =>
      rw [hfe, hm] at A1
      by_cases hOk : Ch.Ok x.1 x.2.1 x.2.2
      · have E := Lib.hid (show enterC n M id x = 0 by unfold enterC; rw [hv, hm, if_pos rfl, if_pos hOk]; rfl)
        have EM := Lib.hid (show enterM n M id x = putM M (id, x) by unfold enterM; rw [E.out]; rfl)
        have EF := Lib.hid (show enterF n M id x fl = riseF (itemsM (putM M (id, x))) fl by unfold enterF; rw [E.out]; rfl)
        have hz : Ch.okB x.1 x.2.1 x.2.2 = true := decide_eq_true hOk
        have HOk := Lib.hid hOk
        have HM := Lib.hid hm
        have HV := Lib.hid hv
        clear hfe hOk hm hv
        go_enter Try.func50, Try.ntmps50
        go_wp2_with fail
        rw [← HW0.out]
        refine A1.out.mono ?_; rintro e w5 ⟨rfl, hb5⟩
        have x0 := cell_al (.cells #[.int .u64 0, .int .u32 0, .int .u32 0] 39) (cell_later hb5 x0)
        have x1 := cell_al (.cells #[.int .u64 0, .int .u32 0, .int .u32 0] 39) (cell_later hb5 x1)
        have x2 := cell_al (.cells #[.int .u64 0, .int .u32 0, .int .u32 0] 39) (cell_later hb5 x2)
        have HB5 := Lib.hid (Below.step (Below.step HB0.out hb5) (below_a w5 (.cells #[.int .u64 0, .int .u32 0, .int .u32 0] 39)))
        clear hb5
        go_wp2_with fail
        generalize w5.alloc (.cells #[.int .u64 0, .int .u32 0, .int .u32 0] 39) = w6 at *
        refine (A2.out w6).mono ?_; rintro e w7 ⟨rfl, hb7⟩
        rw [hz]
        replace x0 := cell_later hb7 x0
        replace x1 := cell_later hb7 x1
        replace x2 := cell_later hb7 x2
        have HB7 := Lib.hid (Below.step HB5.out hb7)
        have HR7 := Lib.hid (HR.out.below HB7.out)
        have c0 := HR7.out.c0
        clear hb7
        go_wp2_with fail
        obtain ⟨bx, hbx⟩ : ∃ b, b = w.heap.size := ⟨_, rfl⟩
        rw [← hbx] at x0 x1 x2 ⊢
        have HBX := Lib.hid hbx
        have nq : q ∉ Fh := HR7.out.nq
        have nx : bx ∉ Fh := fun m => by have := HQ.out.lt bx (by simp [m]); omega
        have HH := Lib.hid (show HeapIn w7.drew p Fh n (itemsM M) from HR7.out.heap.below (Below.refl _ _).drew)
        have HKY := Lib.hid (show 0 ≤ x.1 ∧ x.1 ≤ 18446744073709551615 by have := HOk.out; unfold Ch.Ok at this; omega)
        clear hbx
        have hS0 : Kept Fh w7 w7.drew ∧ w7.drew.cell? ⟨q, 0, none⟩ = some (.pointer (some ⟨p, 0, none⟩)) ∧ w7.drew.cell? ⟨bx, 0, none⟩ = some (.int .u64 x.1) := ⟨Kept.drew (Kept.refl _ _), cell_dr c0, cell_dr x0⟩
        refine wp_region_held_drew (S := fun w' => Kept Fh w7 w' ∧ w'.cell? ⟨q, 0, none⟩ = some (.pointer (some ⟨p, 0, none⟩)) ∧ w'.cell? ⟨bx, 0, none⟩ = some (.int .u64 x.1)) (by kernel_rfl) hS0 (fun hHeld => ?_)
        refine takeH (i := 0) (v := ?v0_1) rfl (by kernel_rfl) (fun _ _ _ h => h) (by rfl) ?hy0_1 (by assumption) ?rest0_1
        case hy0_1 => (intro w hSw; (try dsimp only at hSw); go_simp; try with_reducible rfl)
        try simp only [Act.put, List.setIfInBounds_toArray, List.set_cons_zero, List.set_cons_succ]
        refine takeH (i := 1) (v := ?v1_2) rfl (by kernel_rfl) (fun _ _ _ h => h) (by rfl) ?hy1_2 (by assumption) ?rest1_2
        case hy1_2 => (intro w hSw; (try dsimp only at hSw); go_simp; try with_reducible rfl)
        try simp only [Act.put, List.setIfInBounds_toArray, List.set_cons_zero, List.set_cons_succ]
        refine takeH (i := 2) (v := ?v2_3) rfl (by kernel_rfl) (fun _ _ _ h => h) (by rfl) ?hy2_3 (by assumption) ?rest2_3
        case hy2_3 => (intro w hSw; (try dsimp only at hSw); go_simp; try with_reducible rfl)
        try simp only [Act.put, List.setIfInBounds_toArray, List.set_cons_zero, List.set_cons_succ]
        refine takeH (i := 3) (v := ?v3_4) rfl (by kernel_rfl) (fun _ _ _ h => h) (by rfl) ?hy3_4 (by assumption) ?rest3_4
        case hy3_4 => (intro w hSw; (try dsimp only at hSw); go_simp; try with_reducible rfl)
        try simp only [Act.put, List.setIfInBounds_toArray, List.set_cons_zero, List.set_cons_succ]
        refine takeH (i := 4) (v := ?v4_5) rfl (by kernel_rfl) (fun _ _ _ h => h) (by rfl) ?hy4_5 (by assumption) ?rest4_5
        case hy4_5 => (intro w hSw; (try dsimp only at hSw); go_simp; try with_reducible rfl)
        try simp only [Act.put, List.setIfInBounds_toArray, List.set_cons_zero, List.set_cons_succ]
        refine takeH (i := 5) (v := ?v5_6) rfl (by kernel_rfl) (fun _ _ _ h => h) (by rfl) ?hy5_6 (by assumption) ?rest5_6
        case hy5_6 => (intro w hSw; (try dsimp only at hSw); go_simp; try with_reducible rfl)
        try simp only [Act.put, List.setIfInBounds_toArray, List.set_cons_zero, List.set_cons_succ]
        refine takeH (i := 6) (v := ?v6_7) rfl (by kernel_rfl) (fun _ _ _ h => h) (by rfl) ?hy6_7 (by assumption) ?rest6_7
        case hy6_7 => (intro w hSw; (try dsimp only at hSw); go_simp; try with_reducible rfl)
        try simp only [Act.put, List.setIfInBounds_toArray, List.set_cons_zero, List.set_cons_succ]
        refine takeH (i := 7) (v := ?v7_8) rfl (by kernel_rfl) (fun _ _ _ h => h) (by rfl) ?hy7_8 (by assumption) ?rest7_8
        case hy7_8 => (intro w hSw; (try dsimp only at hSw); go_simp; try with_reducible rfl)
        try simp only [Act.put, List.setIfInBounds_toArray, List.set_cons_zero, List.set_cons_succ]
        refine wpAnyH_ready (rs := [8]) (by kernel_rfl) (by simp) ?_
        refine consH rfl (fun K hK => ?_) (AllReadyH.nil)
        go_simp
        refine (Put_at id x.1 _ HH.out HID.out HKY.out).mono ?_
        rintro e w9 ⟨rfl, hA9⟩
        obtain ⟨Fh9, h9, s9⟩ := hA9.split
        have hk9 : Kept Fh w7.drew w9 := s9.kept
        go_wp2_with fail
        refine hK.out _ _ ?_ (fun hHeld8 => ?_)
        · (first | assumption | (refine heldK_2 (by assumption) ?_ (by assumption) (by assumption) ; assumption) | (refine heldK_2 (Kept.of (below_ad _ _)) ?_ (by assumption) (by assumption) ; assumption) | (refine heldK_2 (Kept.of (below_a _ _)) ?_ (by assumption) (by assumption) ; assumption))
        clear hK K
        try simp only [Act.put, List.setIfInBounds_toArray, List.set_cons_zero, List.set_cons_succ]
        refine wpAnyH_done (by kernel_rfl) ?_ _
        skip
        have hps : putS n (itemsM M) id x.1 = itemsM (putM M (id, x)) := by
          rw [items_put]
          have hr0 : putRes n (itemsM M) id = 0 := by unfold putRes; rw [HV.out, key_ent, HM.out]; rfl
          unfold putS
          rw [if_pos hr0]; rfl
        rw [hps] at h9
        have hQ9 := (HR7.out.below (Below.refl w7.heap.size w7).drew).heaped s9 h9
        have HQ9 := Lib.hid hQ9
        have HS9 := Lib.hid ((Step.of (F := q :: bm :: Fh) (HB7.out.drew)).trans (s9.lift q bm))
        have hnb := HR7.out.nb
        replace x0 := s9.cell nx x0
        replace x1 := s9.cell nx x1
        replace x2 := s9.cell nx x2
        have c2 := hQ9.c2
        have hlen : M.length < maxLen := by have := HQ.out.ids; unfold maxLen; omega
        have hbm : bx ≠ bm := fun e => by have := HQ.out.lt bm (by simp); have := HBX.out; omega
        obtain ⟨w10, hrun, hm10, hg10⟩ := (hQ9.map.below (Below.refl w9.heap.size w9).drew).put elemE undE hlen HID.out (p := x) trivial
        rw [HFE.out, HM.out] at hm10
        simp only [encE] at hrun
        have HM10 := Lib.hid hm10
        have HG10 := Lib.hid hg10
        have HBM := Lib.hid hbm
        clear hps hHeld8 hHeld hS0 hk9 hA9 h9 s9 hQ9 hnb hlen hm10 hg10 hbm c0
        go_wp2_with fail
        go_region
        obtain ⟨hQ10, hk10⟩ := (HQ9.out.below (Below.refl w9.heap.size w9).drew).mapped HG10.out HM10.out
        have HQ10 := Lib.hid hQ10
        have HS10 := Lib.hid (HS9.out.trans ((Step.of (Below.refl w9.heap.size w9).drew).trans (Step.inn (F := q :: bm :: Fh9) hk10 (fun b hb => by simp at hb; simp [hb]))))
        replace x2 := hk10.cellAt (cell_dr x2) (by simpa using HBM.out)
        have c4 := hQ10.c4
        have f4 := hQ10.fr 4
        have hld := load_le HOK.out.ok
        have hxw := HOk.out
        unfold Ch.Ok at hxw
        have hlen := HQ.out.ids
        have hw1 : IntKind.i64.wrap x.2.2 = x.2.2 := IntWalk.i64_in _ (by omega)
        have hw2 : IntKind.i64.wrap (loadM M + x.2.2) = loadM M + x.2.2 := IntWalk.i64_in _ (by omega)
        have hw1' : wrap64 x.2.2 = x.2.2 := IntWalk.wrap64_in _ (by omega)
        have hw2' : wrap64 (loadM M + x.2.2) = loadM M + x.2.2 := IntWalk.wrap64_in _ (by omega)
        clear hrun hQ10 hk10 hld hxw hlen x0 x1 c2
        go_wp2_with fail
        go_region
        obtain ⟨hQ11, hk11⟩ := (HQ10.out.below (Below.refl w10.heap.size w10).drew).loaded (loadM M + x.2.2)
        have HQ11 := Lib.hid hQ11
        have HS11 := Lib.hid (HS10.out.trans ((Step.of (Below.refl w10.heap.size w10).drew).trans (Step.inn (F := q :: bm :: Fh9) hk11 (fun b hb => by simp at hb; simp [hb]))))
        clear hQ11 hk11 x2 c4 f4
        go_wp2_with fail
        refine (rise_at _ HQ11.out).mono ?_
        rintro e w12 ⟨rfl, hQ12, hk12⟩
        have HQ12 := Lib.hid hQ12
        have HS12 := Lib.hid (HS11.out.trans (Step.inn (F := q :: bm :: Fh9) hk12 (fun b hb => by simp at hb; simp [hb])))
        clear hQ12 hk12
        go_wp2_with fail
        go_ret
        rw [E.out, EM.out, EF.out]
        refine ⟨rfl, q :: bm :: Fh9, ⟨p, bm, Fh9, setF f id (some x), ?_, rfl, fun j => ?_, ?_, ?_⟩, HS12.out⟩
        · have hq := HQ12.out
          rw [← load_put M (id, x)] at hq
          have hc : putC ((none : Option Ent).map fun _ => (0 : Int)) M.length = (putM M (id, x)).length := by rw [put_len]; rfl
          rw [hc] at hq
          exact hq
        · rw [ent_put HOK.out.nod HM.out]
          unfold setF
          rw [HFE.out]
        · refine ⟨put_nodup HOK.out.nod HM.out, HQ12.out.heap.ids.2.1, fun m hm => ?_⟩
          rcases put_mem.1 hm with rfl | hm
          · exact HOk.out
          · exact HOK.out.ok m hm
        · have h1 := HFL.out
          have h2 := HQ12.out.heap.ids.2.2.1
          unfold riseF
          split
          · exact h1
          · rename_i y r e
            have := h2 y (by rw [e]; simp)
            omega
      · have E := Lib.hid (show enterC n M id x = 2 by unfold enterC; rw [hv, if_pos rfl, if_neg hOk])
        have hz : Ch.okB x.1 x.2.1 x.2.2 = false := decide_eq_false hOk
        have EM := Lib.hid (show enterM n M id x = M by unfold enterM; rw [E.out]; rfl)
        have EF := Lib.hid (show enterF n M id x fl = fl by unfold enterF; rw [E.out]; rfl)
        clear hfe hOk hm hv
        go_enter Try.func50, Try.ntmps50
        go_wp2_with fail
        rw [← HW0.out]
        refine A1.out.mono ?_; rintro e w5 ⟨rfl, hb5⟩
        have x0 := fun o => cell_al o (cell_later hb5 x0)
        have x1 := fun o => cell_al o (cell_later hb5 x1)
        have x2 := fun o => cell_al o (cell_later hb5 x2)
        have HB5 := Lib.hid (Below.step HB0.out hb5)
        clear hb5
        go_wp2_with fail
        refine (A2.out _).mono ?_; rintro e w7 ⟨rfl, hb7⟩
        rw [hz]
        have HB7 := Lib.hid (Below.step (Below.step HB5.out (below_a _ _)) hb7)
        clear hb7
        go_wp2_with fail
        go_ret
        rw [E.out, EM.out, EF.out]
        exact ⟨rfl, QAfter.same HQ.out HB7.out⟩
end Go.Proofs.Ytfgmglghlapbcaa
