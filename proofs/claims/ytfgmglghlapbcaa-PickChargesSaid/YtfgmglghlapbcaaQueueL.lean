/-
  Layer 24 (queue): Leave.
-/
import Derived.Test.YtfgmglghlapbcaaQueueE
namespace Go.Proofs.Ytfgmglghlapbcaa
open Go.RowKit Go.Maps Go.IntWalk Go.Lib
set_option linter.unusedVariables false
set_option linter.unusedSimpArgs false
theorem Step.set {F F' G : List Nat} {w w1 w2 : World} (h : Step F w F' w1) (hk : Kept G w1 w2) (hG : ∀ b ∈ G, w.heap.size ≤ b) : Step F w F' w2 :=
  ⟨⟨hk.os.trans h.kept.os, hk.tape.trans h.kept.tape, hk.output.trans h.kept.output, Nat.le_trans h.kept.size hk.size, fun k hl hn => (hk.block k (Nat.lt_of_lt_of_le hl h.kept.size) (fun m => by have := hG k m; omega)).trans (h.kept.block k hl hn)⟩, h.new⟩
def leaveC (n : Int) (M : Mems) (id : Int) : Int := if hasV n id then (if (entM M id).isSome then 0 else 6) else 2
def leaveM (n : Int) (M : Mems) (id : Int) : Mems := if leaveC n M id = 0 then outM M id else M
def leaveF (n : Int) (M : Mems) (id : Int) (fl : Int) : Int := if leaveC n M id = 0 then riseF (itemsM (outM M id)) fl else fl
def leaveE (n : Int) (M : Mems) (id : Int) : Ent := if leaveC n M id = 0 then (entM M id).getD (0, 0, 0) else (0, 0, 0)
set_option maxRecDepth 100000 in
set_option maxHeartbeats 4000000 in
theorem Leave_at {q : Nat} {F : List Nat} {n : Int} {M : Mems} {fl : Int} (id : Int) (w : World) (h : QIn w q F n M fl) (hid : (Lit.int .i64 id).wf = true) :
    Calls Try.prog 30 #[.pointer (some ⟨q, 0, none⟩), .int .i64 id] w (QDid w q F n (.tuple #[.agg #[.int .u64 (leaveE n M id).1, .int .u32 (leaveE n M id).2.1, .int .u32 (leaveE n M id).2.2], .int .i64 (leaveC n M id)]) (leaveM n M id) (leaveF n M id fl)) := by
  have HQ := Lib.hid h
  obtain ⟨p, bm, Fh, f, hr, rfl, hfe, hok, hf0, hf1⟩ := h
  have HR := Lib.hid hr
  obtain ⟨W0, hW0⟩ : ∃ W0, W0 = w.alloc (.cells #[.int .u64 0, .int .u32 0, .int .u32 0] 39) := ⟨_, rfl⟩
  have HB0 := Lib.hid (show Below w.heap.size w W0 by rw [hW0]; exact below_a _ _)
  have z0 : W0.cell? ⟨w.heap.size, 0, none⟩ = some (.int .u64 0) := by rw [hW0]; exact cell_nw _ _ _ 0 _ rfl
  have z1 : W0.cell? ⟨w.heap.size, 1, none⟩ = some (.int .u32 0) := by rw [hW0]; exact cell_nw _ _ _ 1 _ rfl
  have z2 : W0.cell? ⟨w.heap.size, 2, none⟩ = some (.int .u32 0) := by rw [hW0]; exact cell_nw _ _ _ 2 _ rfl
  have g0 : W0.frozen? ⟨w.heap.size, 0, none⟩ = false := by rw [hW0]; exact frz_nw _ _ _ 0
  have g1 : W0.frozen? ⟨w.heap.size, 1, none⟩ = false := by rw [hW0]; exact frz_nw _ _ _ 1
  have g2 : W0.frozen? ⟨w.heap.size, 2, none⟩ = false := by rw [hW0]; exact frz_nw _ _ _ 2
  have HLT0 := Lib.hid (show w.heap.size < W0.heap.size by rw [hW0]; simp)
  have HW0 := Lib.hid hW0
  have A1 := Lib.hid (qfind_at id W0 (hr.below HB0.out) hid)
  have HID := Lib.hid hid
  have HOK := Lib.hid hok
  have HFE := Lib.hid hfe
  have HFL := Lib.hid (And.intro hf0 hf1)
  clear hr hW0 hid hok hf0 hf1
  unfold qfindV at A1
  have bad : ∀ c : Int, c ≠ 0 → leaveC n M id = c → leaveE n M id = (0, 0, 0) ∧ leaveM n M id = M ∧ leaveF n M id fl = fl := fun c hc e => by
    unfold leaveE leaveM leaveF
    rw [e, if_neg hc, if_neg hc, if_neg hc]
    exact ⟨rfl, rfl, rfl⟩
  cases hv : hasV n id with
  | false =>
    rw [hv] at A1
    have E := Lib.hid (show leaveC n M id = 2 by unfold leaveC; rw [hv]; rfl)
    have EB := Lib.hid (bad 2 (by decide) E.out)
    clear hfe bad
    go_enter Try.func30, Try.ntmps30
    go_wp2_with fail
    rw [← HW0.out]
    refine A1.out.mono ?_; rintro e w5 ⟨rfl, hb5⟩
    replace g0 := frz_later (Below.step hb5 (below_a w5 (.cells #[.int .u64 0, .int .u32 0, .int .u32 0] 39))) g0 (lt_of_cell z0)
    replace z0 := cell_al (.cells #[.int .u64 0, .int .u32 0, .int .u32 0] 39) (cell_later hb5 z0)
    replace g1 := frz_later (Below.step hb5 (below_a w5 (.cells #[.int .u64 0, .int .u32 0, .int .u32 0] 39))) g1 (lt_of_cell z1)
    replace z1 := cell_al (.cells #[.int .u64 0, .int .u32 0, .int .u32 0] 39) (cell_later hb5 z1)
    replace g2 := frz_later (Below.step hb5 (below_a w5 (.cells #[.int .u64 0, .int .u32 0, .int .u32 0] 39))) g2 (lt_of_cell z2)
    replace z2 := cell_al (.cells #[.int .u64 0, .int .u32 0, .int .u32 0] 39) (cell_later hb5 z2)
    have HB5 := Lib.hid (Below.step (Below.step HB0.out hb5) (below_a w5 (.cells #[.int .u64 0, .int .u32 0, .int .u32 0] 39)))
    clear hb5
    go_wp2_with fail
    refine bodyPost_ret (v := .tuple #[.agg #[.int .u64 0, .int .u32 0, .int .u32 0], .int .i64 2]) (by simp [results, Try.results30, go_sem, *]) rfl ?_
    rw [EB.out.1, EB.out.2.1, EB.out.2.2, E.out]
    refine ⟨rfl, QAfter.same HQ.out ?_⟩
    exact (((HB5.out.setCell (Nat.le_refl _) _).setCell (Nat.le_refl _) _).setCell (Nat.le_refl _) _)
  | true =>
    rw [hv] at A1
    cases hm : entM M id with
    | none =>
      rw [hfe, hm] at A1
      have E := Lib.hid (show leaveC n M id = 6 by unfold leaveC; rw [hv, hm]; rfl)
      have EB := Lib.hid (bad 6 (by decide) E.out)
      clear hfe bad
      go_enter Try.func30, Try.ntmps30
      go_wp2_with fail
      rw [← HW0.out]
      refine A1.out.mono ?_; rintro e w5 ⟨rfl, hb5⟩
      replace g0 := frz_later (Below.step hb5 (below_a w5 (.cells #[.int .u64 0, .int .u32 0, .int .u32 0] 39))) g0 (lt_of_cell z0)
      replace z0 := cell_al (.cells #[.int .u64 0, .int .u32 0, .int .u32 0] 39) (cell_later hb5 z0)
      replace g1 := frz_later (Below.step hb5 (below_a w5 (.cells #[.int .u64 0, .int .u32 0, .int .u32 0] 39))) g1 (lt_of_cell z1)
      replace z1 := cell_al (.cells #[.int .u64 0, .int .u32 0, .int .u32 0] 39) (cell_later hb5 z1)
      replace g2 := frz_later (Below.step hb5 (below_a w5 (.cells #[.int .u64 0, .int .u32 0, .int .u32 0] 39))) g2 (lt_of_cell z2)
      replace z2 := cell_al (.cells #[.int .u64 0, .int .u32 0, .int .u32 0] 39) (cell_later hb5 z2)
      have HB5 := Lib.hid (Below.step (Below.step HB0.out hb5) (below_a w5 (.cells #[.int .u64 0, .int .u32 0, .int .u32 0] 39)))
      clear hb5
      go_wp2_with fail
      refine bodyPost_ret (v := .tuple #[.agg #[.int .u64 0, .int .u32 0, .int .u32 0], .int .i64 6]) (by simp [results, Try.results30, go_sem, *]) rfl ?_
      rw [EB.out.1, EB.out.2.1, EB.out.2.2, E.out]
      refine ⟨rfl, QAfter.same HQ.out ?_⟩
      exact (((HB5.out.setCell (Nat.le_refl _) _).setCell (Nat.le_refl _) _).setCell (Nat.le_refl _) _)
    | some x =>
      rw [hfe, hm] at A1
      have E := Lib.hid (show leaveC n M id = 0 by unfold leaveC; rw [hv, hm]; rfl)
      have EM := Lib.hid (show leaveM n M id = outM M id by unfold leaveM; rw [E.out]; rfl)
      have EF := Lib.hid (show leaveF n M id fl = riseF (itemsM (outM M id)) fl by unfold leaveF; rw [E.out]; rfl)
      have EE := Lib.hid (show leaveE n M id = x by unfold leaveE; rw [E.out, hm]; rfl)
      have HM := Lib.hid hm
      have HV := Lib.hid hv
      clear hfe hm hv bad
      go_enter Try.func30, Try.ntmps30
      go_wp2_with fail
      rw [← HW0.out]
      refine A1.out.mono ?_; rintro e w5 ⟨rfl, hb5⟩
      replace g0 := frz_later (Below.step hb5 (below_a w5 (.cells #[.int .u64 x.1, .int .u32 x.2.1, .int .u32 x.2.2] 39))) g0 (lt_of_cell z0)
      replace z0 := cell_al (.cells #[.int .u64 x.1, .int .u32 x.2.1, .int .u32 x.2.2] 39) (cell_later hb5 z0)
      replace g1 := frz_later (Below.step hb5 (below_a w5 (.cells #[.int .u64 x.1, .int .u32 x.2.1, .int .u32 x.2.2] 39))) g1 (lt_of_cell z1)
      replace z1 := cell_al (.cells #[.int .u64 x.1, .int .u32 x.2.1, .int .u32 x.2.2] 39) (cell_later hb5 z1)
      replace g2 := frz_later (Below.step hb5 (below_a w5 (.cells #[.int .u64 x.1, .int .u32 x.2.1, .int .u32 x.2.2] 39))) g2 (lt_of_cell z2)
      replace z2 := cell_al (.cells #[.int .u64 x.1, .int .u32 x.2.1, .int .u32 x.2.2] 39) (cell_later hb5 z2)
      have y0 : (w5.alloc (.cells #[.int .u64 x.1, .int .u32 x.2.1, .int .u32 x.2.2] 39)).cell? ⟨w5.heap.size, 0, none⟩ = some (.int .u64 x.1) := cell_nw w5 _ _ 0 _ rfl
      have y1 : (w5.alloc (.cells #[.int .u64 x.1, .int .u32 x.2.1, .int .u32 x.2.2] 39)).cell? ⟨w5.heap.size, 1, none⟩ = some (.int .u32 x.2.1) := cell_nw w5 _ _ 1 _ rfl
      have y2 : (w5.alloc (.cells #[.int .u64 x.1, .int .u32 x.2.1, .int .u32 x.2.2] 39)).cell? ⟨w5.heap.size, 2, none⟩ = some (.int .u32 x.2.2) := cell_nw w5 _ _ 2 _ rfl
      have HB6 := Lib.hid (Below.step (Below.step HB0.out hb5) (below_a w5 (.cells #[.int .u64 x.1, .int .u32 x.2.1, .int .u32 x.2.2] 39)))
      have HR6 := Lib.hid (HR.out.below HB6.out)
      have c0 := HR6.out.c0
      obtain ⟨bz, hbz⟩ : ∃ b, b = w.heap.size := ⟨_, rfl⟩
      obtain ⟨b6, hb6⟩ : ∃ b, b = w5.heap.size := ⟨_, rfl⟩
      have HZ6 := Lib.hid (show w.heap.size ≤ bz ∧ w.heap.size ≤ b6 ∧ bz ≠ b6 from ⟨by omega, by have := (Below.step HB0.out hb5).size; omega, by have h2 := hb5.size; have h3 := HLT0.out; omega⟩)
      clear hb5
      go_wp2_with fail
      rw [← hbz] at z0 z1 z2 g0 g1 g2 ⊢
      rw [← hb6] at y0 y1 y2 ⊢
      clear hbz hb6
      generalize w5.alloc (.cells #[.int .u64 x.1, .int .u32 x.2.1, .int .u32 x.2.2] 39) = w6 at *
      have nq : q ∉ Fh := HR6.out.nq
      have nz : bz ∉ Fh := fun m => by have := HQ.out.lt bz (by simp [m]); have := HZ6.out; omega
      have n6 : b6 ∉ Fh := fun m => by have := HQ.out.lt b6 (by simp [m]); have := HZ6.out; omega
      refine (Out_at id _ HR6.out.heap HID.out).mono ?_
      rintro e w9 ⟨rfl, hA9⟩
      obtain ⟨Fh9, h9, s9⟩ := hA9.split
      have hps : outS n (itemsM M) id = itemsM (outM M id) := by
        rw [items_out]
        have hr0 : outRes n (itemsM M) id = 0 := by unfold outRes; rw [HV.out, key_ent, HM.out]; rfl
        unfold outS
        rw [if_pos hr0]
      rw [hps] at h9
      have hQ9 := HR6.out.heaped s9 h9
      have HQ9 := Lib.hid hQ9
      have HS9 := Lib.hid ((Step.of (F := q :: bm :: Fh) HB6.out).trans (s9.lift q bm))
      have NZ9 := Lib.hid (s9.off nz (lt_of_cell z0))
      replace g0 := s9.kept.frz g0 (lt_of_cell z0) nz
      replace z0 := s9.cell nz z0
      replace y0 := s9.cell n6 y0
      replace g1 := s9.kept.frz g1 (lt_of_cell z1) nz
      replace z1 := s9.cell nz z1
      replace y1 := s9.cell n6 y1
      replace g2 := s9.kept.frz g2 (lt_of_cell z2) nz
      replace z2 := s9.cell nz z2
      replace y2 := s9.cell n6 y2
      have c2 := hQ9.c2
      obtain ⟨w10, hrun, hm10, hg10⟩ := hQ9.map.del undE HID.out 0
      rw [HFE.out, HM.out] at hm10
      have HM10 := Lib.hid hm10
      have HG10 := Lib.hid hg10
      have hn6 : b6 ≠ bm := fun e => by have := HQ.out.lt bm (by simp); have := HZ6.out; omega
      have hnz : bz ≠ bm := fun e => by have := HQ.out.lt bm (by simp); have := HZ6.out; omega
      have hnq : bz ≠ q := fun e => by have := HQ.out.lt q (by simp); have := HZ6.out; omega
      have hn6q : b6 ≠ q := fun e => by have := HQ.out.lt q (by simp); have := HZ6.out; omega
      have HNE := Lib.hid (And.intro hn6 (And.intro hnz (And.intro hnq hn6q)))
      clear hps hA9 h9 s9 hQ9 hm10 hg10 c0 hn6 hnz hnq hn6q
      go_wp2_with fail
      obtain ⟨hQ10, hk10⟩ := HQ9.out.mapped HG10.out HM10.out
      have HQ10 := Lib.hid hQ10
      have HS10 := Lib.hid (HS9.out.trans (Step.inn (F := q :: bm :: Fh9) hk10 (fun b hb => by simp at hb; simp [hb])))
      replace g0 := hk10.frz g0 (lt_of_cell z0) (by simpa using HNE.out.2.1)
      replace z0 := hk10.cellAt z0 (by simpa using HNE.out.2.1)
      replace y0 := hk10.cellAt y0 (by simpa using HNE.out.1)
      replace g1 := hk10.frz g1 (lt_of_cell z1) (by simpa using HNE.out.2.1)
      replace z1 := hk10.cellAt z1 (by simpa using HNE.out.2.1)
      replace y1 := hk10.cellAt y1 (by simpa using HNE.out.1)
      replace g2 := hk10.frz g2 (lt_of_cell z2) (by simpa using HNE.out.2.1)
      replace z2 := hk10.cellAt z2 (by simpa using HNE.out.2.1)
      replace y2 := hk10.cellAt y2 (by simpa using HNE.out.1)
      have c4 := hQ10.c4
      have f4 := hQ10.fr 4
      have hld := load_le HOK.out.ok
      have hxw : Ch.Ok x.1 x.2.1 x.2.2 := HOK.out.ok _ ((ent_some HOK.out.nod).1 HM.out)
      unfold Ch.Ok at hxw
      have hlen := HQ.out.ids
      have hw1 : IntKind.i64.wrap x.2.2 = x.2.2 := IntWalk.i64_in _ (by omega)
      have hw2 : IntKind.i64.wrap (loadM M - x.2.2) = loadM M - x.2.2 := IntWalk.i64_in _ (by omega)
      have hw1' : wrap64 x.2.2 = x.2.2 := IntWalk.wrap64_in _ (by omega)
      have hw2' : wrap64 (loadM M - x.2.2) = loadM M - x.2.2 := IntWalk.wrap64_in _ (by omega)
      clear hrun hQ10 hk10 hld hxw hlen c2
      go_wp2_with fail
      go_region
      obtain ⟨hQ11, hk11⟩ := (HQ10.out.below (Below.refl w10.heap.size w10).drew).loaded (loadM M - x.2.2)
      have HQ11 := Lib.hid hQ11
      have HS11 := Lib.hid (HS10.out.trans ((Step.of (Below.refl w10.heap.size w10).drew).trans (Step.inn (F := q :: bm :: Fh9) hk11 (fun b hb => by simp at hb; simp [hb]))))
      replace g0 := hk11.frz (show w10.drew.frozen? _ = false from g0) (lt_of_cell (cell_dr z0)) (by simpa using HNE.out.2.2.1)
      replace z0 := hk11.cellAt (cell_dr z0) (by simpa using HNE.out.2.2.1)
      replace y0 := hk11.cellAt (cell_dr y0) (by simpa using HNE.out.2.2.2)
      replace g1 := hk11.frz (show w10.drew.frozen? _ = false from g1) (lt_of_cell (cell_dr z1)) (by simpa using HNE.out.2.2.1)
      replace z1 := hk11.cellAt (cell_dr z1) (by simpa using HNE.out.2.2.1)
      replace y1 := hk11.cellAt (cell_dr y1) (by simpa using HNE.out.2.2.2)
      replace g2 := hk11.frz (show w10.drew.frozen? _ = false from g2) (lt_of_cell (cell_dr z2)) (by simpa using HNE.out.2.2.1)
      replace z2 := hk11.cellAt (cell_dr z2) (by simpa using HNE.out.2.2.1)
      replace y2 := hk11.cellAt (cell_dr y2) (by simpa using HNE.out.2.2.2)
      clear hQ11 hk11 c4 f4
      go_wp2_with fail
      refine (rise_at _ HQ11.out).mono ?_
      rintro e w12 ⟨rfl, hQ12, hk12⟩
      have HQ12 := Lib.hid hQ12
      have HS12 := Lib.hid (HS11.out.trans (Step.inn (F := q :: bm :: Fh9) hk12 (fun b hb => by simp at hb; simp [hb])))
      replace g0 := hk12.frz g0 (lt_of_cell z0) (by simpa using HNE.out.2.2.1)
      replace z0 := hk12.cellAt z0 (by simpa using HNE.out.2.2.1)
      replace y0 := hk12.cellAt y0 (by simpa using HNE.out.2.2.2)
      replace g1 := hk12.frz g1 (lt_of_cell z1) (by simpa using HNE.out.2.2.1)
      replace z1 := hk12.cellAt z1 (by simpa using HNE.out.2.2.1)
      replace y1 := hk12.cellAt y1 (by simpa using HNE.out.2.2.2)
      replace g2 := hk12.frz g2 (lt_of_cell z2) (by simpa using HNE.out.2.2.1)
      replace z2 := hk12.cellAt z2 (by simpa using HNE.out.2.2.1)
      replace y2 := hk12.cellAt y2 (by simpa using HNE.out.2.2.2)
      clear hQ12 hk12
      go_wp2_with fail
      refine bodyPost_ret (v := .tuple #[.agg #[.int .u64 x.1, .int .u32 x.2.1, .int .u32 x.2.2], .int .i64 0]) (by simp [results, Try.results30, go_sem, *]) rfl ?_
      rw [E.out, EM.out, EF.out, EE.out]
      have KZ : Kept [bz] w12 (((w12.setCell ⟨bz, 0, none⟩ (.int .u64 x.1)).setCell ⟨bz, 1, none⟩ (.int .u32 x.2.1)).setCell ⟨bz, 2, none⟩ (.int .u32 x.2.2)) := (((Kept.refl _ _).setCell (Or.inl (by simp)) _).setCell (Or.inl (by simp)) _).setCell (Or.inl (by simp)) _
      have hz9 : bz ∉ q :: bm :: Fh9 := fun m => by
        simp only [List.mem_cons] at m
        rcases m with m | m | m
        · exact HNE.out.2.2.1 m
        · exact HNE.out.2.1 m
        · exact NZ9.out m
      refine ⟨rfl, q :: bm :: Fh9, ⟨p, bm, Fh9, setF f id none, ?_, rfl, fun j => ?_, ?_, ?_⟩, ?_⟩
      · have hq := (HQ12.out.kept KZ (fun b hb m => by simp at m; subst m; exact hz9 hb))
        rw [← load_out HOK.out.nod HM.out] at hq
        have hc : delC ((some x : Option Ent).map fun _ => (0 : Int)) M.length = (outM M id).length := by have := out_len HOK.out.nod HM.out; unfold delC; simp; omega
        rw [hc] at hq
        exact hq
      · rw [ent_out HOK.out.nod]
        unfold setF
        rw [HFE.out]
      · exact ⟨out_nodup HOK.out.nod id, HQ12.out.heap.ids.2.1, fun m hm => HOK.out.ok m (out_mem.1 hm).1⟩
      · have h1 := HFL.out
        have h2 := HQ12.out.heap.ids.2.2.1
        unfold riseF
        split
        · exact h1
        · rename_i y r e
          have := h2 y (by rw [e]; simp)
          omega
      · exact HS12.out.set KZ (fun b hb => by simp at hb; subst hb; exact HZ6.out.1)
end Go.Proofs.Ytfgmglghlapbcaa
