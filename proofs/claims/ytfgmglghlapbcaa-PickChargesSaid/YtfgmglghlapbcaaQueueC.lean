/-
  Layer 24 (queue): change.
-/
import Derived.Test.YtfgmglghlapbcaaQueueE
namespace Go.Proofs.Ytfgmglghlapbcaa
open Go.RowKit Go.Maps Go.IntWalk Go.Lib
set_option linter.unusedVariables false
set_option linter.unusedSimpArgs false
@[go_sem] theorem run_field_ent2 (a b c : Value) (w : World) : Sem.run Try.prog (Instr.field 39 (.agg #[a, b, c]) 2) w = .ok c w := by kernel_rfl
def chM (M : Mems) (id : Int) (x : Ent) : Mems := putM (outM M id) (id, x)
theorem ch_none {M : Mems} (hn : (M.map Prod.fst).Nodup) (id : Int) : entM (outM M id) id = none := by rw [ent_out hn, if_pos rfl]
theorem ch_ent {M : Mems} (hn : (M.map Prod.fst).Nodup) (id : Int) (x : Ent) (j : Int) : entM (chM M id x) j = if j = id then some x else entM M j := by
  unfold chM
  rw [ent_put (out_nodup hn id) (ch_none hn id), ent_out hn]
  by_cases e : j = id
  · rw [if_pos e, if_pos e]
  · rw [if_neg e, if_neg e, if_neg e]
theorem ch_len {M : Mems} (hn : (M.map Prod.fst).Nodup) {id : Int} {y : Ent} (h : entM M id = some y) (x : Ent) : (chM M id x).length = M.length := by
  unfold chM; rw [put_len]; exact out_len hn h
theorem ch_load {M : Mems} (hn : (M.map Prod.fst).Nodup) {id : Int} {y : Ent} (h : entM M id = some y) (x : Ent) : loadM (chM M id x) = loadM M + (x.2.2 - y.2.2) := by
  unfold chM; rw [load_put, load_out hn h]
  show loadM M - y.2.2 + x.2.2 = _
  omega
theorem ch_mem {M : Mems} {id : Int} {x : Ent} {m : Int × Ent} (h : m ∈ chM M id x) : m = (id, x) ∨ m ∈ M := by
  rcases put_mem.1 h with h | h
  · exact Or.inl h
  · exact Or.inr (out_mem.1 h).1
theorem ch_nodup {M : Mems} (hn : (M.map Prod.fst).Nodup) (id : Int) (x : Ent) : ((chM M id x).map Prod.fst).Nodup := put_nodup (out_nodup hn id) (ch_none hn id)
set_option maxRecDepth 100000 in
set_option maxHeartbeats 4000000 in
theorem change_no (q id c : Int) (q' : Addr) (x : Ent) (w : World) (hc : c ≠ 0) :
    Calls Try.prog 62 #[.pointer (some q'), .int .i64 id, .agg #[.int .u64 x.1, .int .u32 x.2.1, .int .u32 x.2.2], .int .i64 c] w fun e w' => e = .returned (.int .i64 c) ∧ Below w.heap.size w w' := by
  have hz : (c != 0) = true := by simpa using hc
  clear hc
  go_enter Try.func62, Try.ntmps62
  go_wp2_with fail
  go_ret
  exact ⟨rfl, below_a _ _⟩
set_option maxRecDepth 100000 in
set_option maxHeartbeats 4000000 in
theorem change_at {q : Nat} {F : List Nat} {n : Int} {M : Mems} {fl : Int} (id : Int) (x y : Ent) (w : World) (h : QIn w q F n M fl) (hid : (Lit.int .i64 id).wf = true) (hx : Ch.Ok x.1 x.2.1 x.2.2) (hm : entM M id = some y) :
    Calls Try.prog 62 #[.pointer (some ⟨q, 0, none⟩), .int .i64 id, .agg #[.int .u64 x.1, .int .u32 x.2.1, .int .u32 x.2.2], .int .i64 0] w (QDid w q F n (.int .i64 0) (chM M id x) (riseF (itemsM (chM M id x)) fl)) := by
  have HQ := Lib.hid h
  have hids := h.ids
  have hv : hasV n id = true := hasV_iff.2 (hids.2.1 _ ((ent_some hids.1.nod).1 hm))
  obtain ⟨p, bm, Fh, f, hr, rfl, hfe, hok, hf0, hf1⟩ := h
  obtain ⟨W0, hW0⟩ : ∃ W0, W0 = w.alloc (.cells #[.int .u64 x.1, .int .u32 x.2.1, .int .u32 x.2.2] 39) := ⟨_, rfl⟩
  have HB0 := Lib.hid (show Below w.heap.size w W0 by rw [hW0]; exact below_a _ _)
  have x0 : W0.cell? ⟨w.heap.size, 0, none⟩ = some (.int .u64 x.1) := by rw [hW0]; exact cell_nw _ _ _ 0 _ rfl
  have x1 : W0.cell? ⟨w.heap.size, 1, none⟩ = some (.int .u32 x.2.1) := by rw [hW0]; exact cell_nw _ _ _ 1 _ rfl
  have x2 : W0.cell? ⟨w.heap.size, 2, none⟩ = some (.int .u32 x.2.2) := by rw [hW0]; exact cell_nw _ _ _ 2 _ rfl
  have HW0 := Lib.hid hW0
  have HID := Lib.hid hid
  have HOK := Lib.hid hok
  have HFE := Lib.hid hfe
  have HFL := Lib.hid (And.intro hf0 hf1)
  have HV := Lib.hid hv
  have HM := Lib.hid hm
  have HX := Lib.hid hx
  have hR0 := hr.below HB0.out
  have HR0 := Lib.hid hR0
  have c2 := hR0.c2
  have c4 := hR0.c4
  have f4 := hR0.fr 4
  have hlk := ((hR0.below (Below.refl W0.heap.size W0).drew).map.look elemE undE trivial zeroE hid).2
  rw [hfe, hm] at hlk
  simp only [Option.getD_some, encE] at hlk
  have hld := load_le hok.ok
  have hxw := hx
  have hyw : Ch.Ok y.1 y.2.1 y.2.2 := hok.ok _ ((ent_some hok.nod).1 hm)
  unfold Ch.Ok at hxw hyw
  have hw1 : IntKind.i64.wrap x.2.2 = x.2.2 := IntWalk.i64_in _ (by omega)
  have hw2 : IntKind.i64.wrap y.2.2 = y.2.2 := IntWalk.i64_in _ (by omega)
  have hw3 : IntKind.i64.wrap (x.2.2 - y.2.2) = x.2.2 - y.2.2 := IntWalk.i64_in _ (by omega)
  have hw4 : IntKind.i64.wrap (loadM M + (x.2.2 - y.2.2)) = loadM M + (x.2.2 - y.2.2) := IntWalk.i64_in _ (by omega)
  have hv1 : wrap64 x.2.2 = x.2.2 := IntWalk.wrap64_in _ (by omega)
  have hv2 : wrap64 y.2.2 = y.2.2 := IntWalk.wrap64_in _ (by omega)
  have hv3 : wrap64 (x.2.2 - y.2.2) = x.2.2 - y.2.2 := IntWalk.wrap64_in _ (by omega)
  have hv4 : wrap64 (loadM M + (x.2.2 - y.2.2)) = loadM M + (x.2.2 - y.2.2) := IntWalk.wrap64_in _ (by omega)
  clear hr hW0 hid hok hfe hf0 hf1 hv hm hx hR0 hids hld hxw hyw
  go_enter Try.func62, Try.ntmps62
  go_wp2_with fail
  rw [← HW0.out]
  obtain ⟨bx, hbx⟩ : ∃ b, b = w.heap.size := ⟨_, rfl⟩
  rw [← hbx] at x0 x1 x2 ⊢
  have HBX := Lib.hid hbx
  have hne : bx ≠ q ∧ bx ≠ bm ∧ bx ∉ Fh := ⟨fun e => by have := HQ.out.lt q (by simp); omega, fun e => by have := HQ.out.lt bm (by simp); omega, fun m => by have := HQ.out.lt bx (by simp [m]); omega⟩
  have HNE := Lib.hid hne
  clear hbx hne
  go_region
  obtain ⟨hQ1, hk1⟩ := HR0.out.loaded (loadM M + (x.2.2 - y.2.2))
  have hQ1' := hQ1.below (Below.refl _ _).drew
  have hk1' := hk1.drew
  obtain ⟨W1, hW1⟩ : ∃ W, W = (W0.setCell ⟨q, 4, none⟩ (.int .i64 (loadM M + (x.2.2 - y.2.2)))).drew := ⟨_, rfl⟩
  rw [← hW1] at hQ1' hk1' ⊢
  have HQ1 := Lib.hid hQ1'
  have HS1 := Lib.hid ((Step.of (F := q :: bm :: Fh) HB0.out).trans (Step.inn (F := q :: bm :: Fh) hk1' (fun b hb => by simp at hb; simp [hb])))
  replace x0 := hk1'.cellAt x0 (by simpa using HNE.out.1)
  replace x1 := hk1'.cellAt x1 (by simpa using HNE.out.1)
  replace x2 := hk1'.cellAt x2 (by simpa using HNE.out.1)
  replace c2 := hQ1'.c2
  have hlen : M.length < maxLen := by have := HQ.out.ids; unfold maxLen; omega
  obtain ⟨w10, hrun, hm10, hg10⟩ := (hQ1'.map.below (Below.refl W1.heap.size W1).drew).put elemE undE hlen HID.out (p := x) trivial
  rw [HFE.out, HM.out] at hm10
  simp only [encE] at hrun
  have HM10 := Lib.hid hm10
  have HG10 := Lib.hid hg10
  clear hQ1 hk1 hQ1' hk1' hW1 hlk hw1 hw2 hw3 hw4 hv1 hv2 hv3 hv4 c4 f4 hlen hm10 hg10
  go_wp2_with fail
  go_region
  obtain ⟨hQ10, hk10⟩ := (HQ1.out.below (Below.refl W1.heap.size W1).drew).mapped HG10.out HM10.out
  have HQ10 := Lib.hid hQ10
  have HS10 := Lib.hid (HS1.out.trans ((Step.of (Below.refl W1.heap.size W1).drew).trans (Step.inn (F := q :: bm :: Fh) hk10 (fun b hb => by simp at hb; simp [hb]))))
  replace x0 := hk10.cellAt (cell_dr x0) (by simpa using HNE.out.2.1)
  have c0 := hQ10.c0
  have nq : q ∉ Fh := hQ10.nq
  have nx : bx ∉ Fh := HNE.out.2.2
  have HH := Lib.hid (show HeapIn w10.drew p Fh n (itemsM M) from hQ10.heap.below (Below.refl _ _).drew)
  have HKY := Lib.hid (show 0 ≤ x.1 ∧ x.1 ≤ 18446744073709551615 by have := HX.out; unfold Ch.Ok at this; omega)
  clear hrun hQ10 hk10 x1 x2 c2
  go_wp2_with fail
  have hS0 : Kept Fh w10 w10.drew ∧ w10.drew.cell? ⟨q, 0, none⟩ = some (.pointer (some ⟨p, 0, none⟩)) ∧ w10.drew.cell? ⟨bx, 0, none⟩ = some (.int .u64 x.1) := ⟨Kept.drew (Kept.refl _ _), cell_dr c0, cell_dr x0⟩
  refine wp_region_held_drew (S := fun w' => Kept Fh w10 w' ∧ w'.cell? ⟨q, 0, none⟩ = some (.pointer (some ⟨p, 0, none⟩)) ∧ w'.cell? ⟨bx, 0, none⟩ = some (.int .u64 x.1)) (by kernel_rfl) hS0 (fun hHeld => ?_)
  refine takeH (i := 0) (v := ?v0_9) rfl (by kernel_rfl) (fun _ _ _ h => h) (by rfl) ?hy0_9 (by assumption) ?rest0_9
  case hy0_9 => (intro w hSw; (try dsimp only at hSw); go_simp; try with_reducible rfl)
  try simp only [Act.put, List.setIfInBounds_toArray, List.set_cons_zero, List.set_cons_succ]
  refine takeH (i := 1) (v := ?v1_10) rfl (by kernel_rfl) (fun _ _ _ h => h) (by rfl) ?hy1_10 (by assumption) ?rest1_10
  case hy1_10 => (intro w hSw; (try dsimp only at hSw); go_simp; try with_reducible rfl)
  try simp only [Act.put, List.setIfInBounds_toArray, List.set_cons_zero, List.set_cons_succ]
  refine takeH (i := 2) (v := ?v2_11) rfl (by kernel_rfl) (fun _ _ _ h => h) (by rfl) ?hy2_11 (by assumption) ?rest2_11
  case hy2_11 => (intro w hSw; (try dsimp only at hSw); go_simp; try with_reducible rfl)
  try simp only [Act.put, List.setIfInBounds_toArray, List.set_cons_zero, List.set_cons_succ]
  refine takeH (i := 3) (v := ?v3_12) rfl (by kernel_rfl) (fun _ _ _ h => h) (by rfl) ?hy3_12 (by assumption) ?rest3_12
  case hy3_12 => (intro w hSw; (try dsimp only at hSw); go_simp; try with_reducible rfl)
  try simp only [Act.put, List.setIfInBounds_toArray, List.set_cons_zero, List.set_cons_succ]
  refine takeH (i := 4) (v := ?v4_13) rfl (by kernel_rfl) (fun _ _ _ h => h) (by rfl) ?hy4_13 (by assumption) ?rest4_13
  case hy4_13 => (intro w hSw; (try dsimp only at hSw); go_simp; try with_reducible rfl)
  try simp only [Act.put, List.setIfInBounds_toArray, List.set_cons_zero, List.set_cons_succ]
  refine takeH (i := 5) (v := ?v5_14) rfl (by kernel_rfl) (fun _ _ _ h => h) (by rfl) ?hy5_14 (by assumption) ?rest5_14
  case hy5_14 => (intro w hSw; (try dsimp only at hSw); go_simp; try with_reducible rfl)
  try simp only [Act.put, List.setIfInBounds_toArray, List.set_cons_zero, List.set_cons_succ]
  refine takeH (i := 6) (v := ?v6_15) rfl (by kernel_rfl) (fun _ _ _ h => h) (by rfl) ?hy6_15 (by assumption) ?rest6_15
  case hy6_15 => (intro w hSw; (try dsimp only at hSw); go_simp; try with_reducible rfl)
  try simp only [Act.put, List.setIfInBounds_toArray, List.set_cons_zero, List.set_cons_succ]
  refine takeH (i := 7) (v := ?v7_16) rfl (by kernel_rfl) (fun _ _ _ h => h) (by rfl) ?hy7_16 (by assumption) ?rest7_16
  case hy7_16 => (intro w hSw; (try dsimp only at hSw); go_simp; try with_reducible rfl)
  try simp only [Act.put, List.setIfInBounds_toArray, List.set_cons_zero, List.set_cons_succ]
  refine wpAnyH_ready (rs := [8]) (by kernel_rfl) (by simp) ?_
  refine consH rfl (fun K hK => ?_) (AllReadyH.nil)
  go_simp
  refine (Set_at id x.1 _ HH.out HID.out HKY.out).mono ?_
  rintro e w9 ⟨rfl, hA9⟩
  obtain ⟨Fh9, h9, s9⟩ := hA9.split
  have hk9 : Kept Fh w10.drew w9 := s9.kept
  go_wp2_with fail
  refine hK.out _ _ ?_ (fun hHeld8 => ?_)
  · (first | assumption | (refine heldK_2 (by assumption) ?_ (by assumption) (by assumption) ; assumption) | (refine heldK_2 (Kept.of (below_ad _ _)) ?_ (by assumption) (by assumption) ; assumption) | (refine heldK_2 (Kept.of (below_a _ _)) ?_ (by assumption) (by assumption) ; assumption))
  clear hK K
  try simp only [Act.put, List.setIfInBounds_toArray, List.set_cons_zero, List.set_cons_succ]
  refine wpAnyH_done (by kernel_rfl) ?_ _
  skip
  have hps : setS n (itemsM M) id x.1 = itemsM (chM M id x) := by
    unfold chM
    rw [items_put, items_out]
    have hr0 : setRes n (itemsM M) id = 0 := by unfold setRes; rw [HV.out, key_ent, HM.out]; rfl
    unfold setS
    rw [if_pos hr0]; rfl
  rw [hps] at h9
  have HQ9 := Lib.hid ((HQ10.out.below (Below.refl w10.heap.size w10).drew).heaped s9 h9)
  have HS9 := Lib.hid (HS10.out.trans ((Step.of (Below.refl w10.heap.size w10).drew).trans (s9.lift q bm)))
  clear hps hHeld8 hHeld hS0 hk9 hA9 h9 s9 c0 x0
  go_wp2_with fail
  refine (rise_at _ HQ9.out).mono ?_
  rintro e w12 ⟨rfl, hQ12, hk12⟩
  have HQ12 := Lib.hid hQ12
  have HS12 := Lib.hid (HS9.out.trans (Step.inn (F := q :: bm :: Fh9) hk12 (fun b hb => by simp at hb; simp [hb])))
  clear hQ12 hk12
  go_wp2_with fail
  go_ret
  refine ⟨rfl, q :: bm :: Fh9, ⟨p, bm, Fh9, setF f id (some x), ?_, rfl, fun j => ?_, ?_, ?_⟩, HS12.out⟩
  · have hq := HQ12.out
    rw [← ch_load HOK.out.nod HM.out x] at hq
    have hc : putC ((some y : Option Ent).map fun _ => (0 : Int)) M.length = (chM M id x).length := by rw [ch_len HOK.out.nod HM.out]; rfl
    rw [hc] at hq
    exact hq
  · rw [ch_ent HOK.out.nod]
    unfold setF
    rw [HFE.out]
  · refine ⟨ch_nodup HOK.out.nod id x, HQ12.out.heap.ids.2.1, fun m hm => ?_⟩
    rcases ch_mem hm with rfl | hm
    · exact HX.out
    · exact HOK.out.ok m hm
  · have h1 := HFL.out
    have h2 := HQ12.out.heap.ids.2.2.1
    unfold riseF
    split
    · exact h1
    · rename_i y r e
      have := h2 y (by rw [e]; simp)
      omega
end Go.Proofs.Ytfgmglghlapbcaa
