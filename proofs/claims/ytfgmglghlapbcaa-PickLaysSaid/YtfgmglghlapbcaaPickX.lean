/-
  PickLays.
-/
import Derived.Test.YtfgmglghlapbcaaPkV
import Derived.Test.YtfgmglghlapbcaaChargeAw
namespace Go.Proofs.Ytfgmglghlapbcaa
open Go.RowKit Go.Maps Go.IntWalk Go.Lib Go.Sort Go.Shelf
set_option linter.unusedVariables false
set_option linter.unusedSimpArgs false
theorem infoS : (Try.prog.info? 37).map (fun i => (i.zero, i.size, i.bytes)) = some (some (.agg #[.int .u64 0, .int .u32 0, .int .u64 0]), 3, 24) := by kernel_rfl
def SpOk (Gs : Grps) (j : Nat) (x : Int × Int × Int) : Prop := Ch.Ok x.1 x.2.1 (Gs[j]!).2 ∧ 0 ≤ x.2.2 ∧ x.2.2 < 4611686018427387904 ∧ (j = 0 → x.1 = 0 ∧ x.2.1 = 0)
structure SpsOk (Gs : Grps) (L : Spots) (k : Nat) : Prop where
  len : L.length = k
  ok : ∀ j, j < k → SpOk Gs j (L[j]!)
theorem SpsOk.snoc {Gs : Grps} {L : Spots} {k : Nat} {x : Int × Int × Int} (h : SpsOk Gs L k) (hx : SpOk Gs k x) : SpsOk Gs (L ++ [x]) (k + 1) := by
  refine ⟨by simp [h.len], fun j hj => ?_⟩
  by_cases q : j < k
  · rw [getElem!_pos (L ++ [x]) j (by simp [h.len]; omega), List.getElem_append_left (by rw [h.len]; exact q)]
    have := h.ok j q
    rw [getElem!_pos L j (by rw [h.len]; exact q)] at this
    exact this
  · obtain rfl : j = k := by omega
    rw [getElem!_pos (L ++ [x]) j (by simp [h.len])]
    simpa [h.len] using hx
theorem SpsOk.lay {Gs : Grps} {L : Spots} (h : SpsOk Gs L Gs.length) (hr : RightG Gs) : LayOk Gs 9223372036854775808 L where
  right := hr
  len := h.len
  ok := fun k hk => (h.ok k hk).1
  fl := fun k hk => by have := h.ok k hk; unfold SpOk at this; omega
  zero := (h.ok 0 hr.pos).2.2.2 rfl
  cr := by decide
theorem SpsOk.fit {Gs : Grps} {L : Spots} (h : SpsOk Gs L Gs.length) : FitS L := fun x hx => by
  obtain ⟨j, hj, rfl⟩ := List.getElem_of_mem hx
  have := h.ok j (by rw [← h.len]; exact hj)
  rw [getElem!_pos L j hj] at this
  obtain ⟨h1, h2, h3, _⟩ := this
  unfold Ch.Ok at h1
  omega
theorem wrap_u32_in (x : Int) : 0 ≤ IntKind.u32.wrap x ∧ IntKind.u32.wrap x ≤ 4294967295 := by rw [IntKind.wrap_u32]; omega
theorem row_of {K : IntKind} {w : World} {a : Option Addr} {n c : Nat} {xs : List Int} (h : NumsIn K w a n c xs) : RowAt K w a n xs := by
  refine ⟨h.len, fun h0 => ?_⟩
  obtain ⟨b, off, e, hc⟩ := h.row h0
  refine ⟨b, off, e, fun i x hx => ?_⟩
  have hi : i < n := by rw [← h.len]; exact (List.getElem?_eq_some_iff.1 hx).1
  have := hc i hi
  rw [getElem!_pos xs i (by rw [h.len]; exact hi)] at this
  rw [this, ← (List.getElem?_eq_some_iff.1 hx).2]
theorem fit_of {K : IntKind} {w : World} {a : Option Addr} {n c : Nat} {xs : List Int} (h : NumsIn K w a n c xs) : ∀ x ∈ xs, (Lit.int K x).wf = true := fun x hx => by
  obtain ⟨i, hi, rfl⟩ := List.getElem_of_mem hx
  have := h.fit i (by rw [← h.len]; exact hi)
  rwa [getElem!_pos xs i hi] at this
theorem wfu8 {x : Int} (h : (Lit.int .u8 x).wf = true) : 0 ≤ x ∧ x ≤ 255 := by
  simp only [Lit.wf, Bool.and_eq_true, decide_eq_true_eq, IntKind.min, IntKind.max, IntKind.bits, IntKind.signed] at h
  simp at h
  omega
theorem wfu16 {x : Int} (h : (Lit.int .u16 x).wf = true) : 0 ≤ x ∧ x ≤ 65535 := by
  simp only [Lit.wf, Bool.and_eq_true, decide_eq_true_eq, IntKind.min, IntKind.max, IntKind.bits, IntKind.signed] at h
  simp at h
  omega
def eqS (b c d b' c' d' : Int) : Bool := decide (b = b' ∧ c = c' ∧ d = d')
theorem eqS_same (b c d : Int) : eqS b c d b c d = true := by unfold eqS; simp
theorem eqIn_spot (D : Nat) (w : World) (b c d b' c' d' : Int) : (Op.equalIn (D + 3) 37 (.agg #[.int .u64 b, .int .u32 c, .int .u64 d]) (.agg #[.int .u64 b', .int .u32 c', .int .u64 d'])).run Try.prog w = .ok (eqS b c d b' c' d') w := by
  rw [run_equalIn_agg w (D + 2) _ _ _ (by kernel_rfl) (by kernel_rfl)]
  simp [go_sem, Try.underlying37]
  unfold eqS
  by_cases h1 : b = b' <;> by_cases h2 : c = c' <;> by_cases h3 : d = d' <;> simp [h1, h2, h3]
@[go_sem] theorem eg_spot : Try.prog.eqGuardType Try.prog.depth 37 = false := by kernel_rfl
@[go_sem high] theorem run_neq_spot (w : World) (b c d b' c' d' : Int) : (binOp .neq 37 (.agg #[.int .u64 b, .int .u32 c, .int .u64 d]) (.agg #[.int .u64 b', .int .u32 c', .int .u64 d'])).run Try.prog w = .ok (.bool (!(eqS b c d b' c' d'))) w := by
  rw [run_neq_struct, eqIn_spot 9997]
  rfl
set_option maxRecDepth 100000 in
set_option maxHeartbeats 4000000 in
theorem PickLays_true (s0 : Option Addr) (l0 c0 : Nat) (F0 : Nat → Nat → Value) (s1 : Option Addr) (l1 c1 : Nat) (F1 : Nat → Nat → Value) (s2 : Option Addr) (l2 c2 : Nat) (F2 : Nat → Nat → Value) (s3 : Option Addr) (l3 c3 : Nat) (F3 : Nat → Nat → Value) (a4 : Int) (w : World)
    (r0 : PlainRow [some .u8] w s0 l0 c0 F0) (r1 : PlainRow [some .u16] w s1 l1 c1 F1) (r2 : PlainRow [some .u64] w s2 l2 c2 F2) (r3 : PlainRow [some .u64] w s3 l3 c3 F3) (g4 : (Lit.int .u8 a4).wf = true) :
    Calls Try.prog 3 #[.slice s0 l0 c0, .slice s1 l1 c1, .slice s2 l2 c2, .slice s3 l3 c3, .int .u8 a4] w fun e w' => e = .returned (.bool true) ∧ Below w.heap.size w w' := by
  obtain ⟨xs0, n0⟩ := nums_of r0
  obtain ⟨xs1, n1⟩ := nums_of r1
  obtain ⟨xs2, n2⟩ := nums_of r2
  obtain ⟨xs3, n3⟩ := nums_of r3
  obtain ⟨isp, hi, hz0, hz1, hz2⟩ := info_parts infoS
  have A1 := Lib.hid (Groups_at s0 s1 l0 l1 c0 c1 xs0 xs1 w (row_of n0) (row_of n1) (fun x hx => wfu8 (fit_of n0 x hx)) (fun x hx => wfu16 (fit_of n1 x hx)))
  have A2 := Lib.hid fun W Gs v (h : RecsAt encG W v Gs) (hr : RightG Gs) => pNew_at v Gs 9223372036854775808 W h hr (by decide)
  have N2 := Lib.hid n2
  have N3 := Lib.hid n3
  have G4 := Lib.hid (wfu8 g4)
  clear r0 r1 r2 r3 n0 n1 n2 n3 g4
  go_enter Try.func3, Try.ntmps3
  go_wp2_with fail
  refine A1.out.mono ?_; rintro e w1 ⟨Gs, vg, rfl, hr, hl7, hog, hb1⟩
  have HRI := Lib.hid hr
  have hpos := hr.pos
  obtain ⟨bgs, cgs, rfl⟩ : ∃ g c, vg = .slice (some ⟨g, 0, none⟩) Gs.length c := by
    obtain ⟨n, hn⟩ : ∃ n, Gs.length = n + 1 := ⟨Gs.length - 1, by omega⟩
    rw [hn] at hog ⊢
    exact own_some hog
  have HRG := Lib.hid (own_recs encG_ok hog)
  have HGE := Lib.hid (hog.lt bgs rfl)
  have HOG := Lib.hid hog
  clear hog hr
  go_wp2_with fail
  refine (A2.out w1 Gs _ HRG.out HRI.out).mono ?_; rintro e w2 ⟨t, F, rfl, hT, hF, hb2⟩
  have HT := Lib.hid (show TreeIn w2 t F (newT Gs 9223372036854775808) from hT)
  have HB2 := Lib.hid (Below.step hb1 hb2)
  have HF := Lib.hid hF
  have gcell : ∀ W, Below w2.heap.size w2 W → ∀ k, k < Gs.length → W.cell? ⟨bgs, k * 2, none⟩ = some (.int .i64 (Gs[k]!).1) ∧ W.cell? ⟨bgs, k * 2 + 1, none⟩ = some (.int .i64 (Gs[k]!).2) := fun W hW k hk => by
    have hx : Gs[k]? = some Gs[k]! := by rw [List.getElem?_eq_getElem hk, getElem!_pos Gs k hk]
    exact ⟨cell_later hW (cell_later hb2 ((HOG.out.cellAt (k * 2) (by omega)).trans (flatR_at encG_ok hx 0 (by decide)))), cell_later hW (cell_later hb2 ((HOG.out.cellAt (k * 2 + 1) (by omega)).trans (flatR_at encG_ok hx 1 (by decide))))⟩
  have GC := Lib.hid gcell
  have hsz12 := hb2.size
  have NB := Lib.hid (show bgs ∉ F from fun m => by have := hF _ m; have := HGE.out; omega)
  clear hT hF gcell hb1 hb2
  go_wp2_with fail
  obtain ⟨n, hn⟩ : ∃ n, n = Gs.length := ⟨_, rfl⟩
  rw [← hn] at hl7 hpos ⊢
  have HN := Lib.hid hn
  clear hn
  go_loopw [14, 44] (fun v i wr => ∃ (k : Nat) (L : Spots), k ≤ n ∧ i = .int .i64 k ∧ SpsOk Gs L k ∧ wr.ownsRow w2.heap.size 37 3 v k (flatR encS L) ∧ Below w2.heap.size w2 wr) (fun _ i _ => n - (intOf i).toNat)
  case atStart => exact ⟨0, [], Nat.zero_le _, rfl, ⟨rfl, fun j hj => by omega⟩, World.ownsRow_nil _ _ _ _, Below.refl _ _⟩
  case round =>
    obtain ⟨k, L, hk, rfl, hL, hown, hb⟩ := hrel
    have HL := Lib.hid hL
    have HO := Lib.hid hown
    have HB := Lib.hid hb
    by_cases hlt : k < n
    · have hki : (k : Int) < (n : Int) := by omega
      have z0 : decide ((k : Int) < (n : Int)) = true := decide_eq_true hki
      have hkl : k < Gs.length := by rw [← HN.out]; exact hlt
      obtain ⟨g0, g1⟩ := GC.out wr hb k hkl
      obtain ⟨⟨p, wt⟩, hpw⟩ : ∃ x, x = Gs[k]! := ⟨_, rfl⟩
      have hwt : 1 ≤ (Gs[k]!).2 ∧ (Gs[k]!).2 ≤ 65536 := by
        by_cases hz : k = 0
        · subst hz; rw [HRI.out.root]; decide
        · exact ⟨(gErr_par (HRI.out.rest k (by omega) hkl)).2.2.1, (gErr_par (HRI.out.rest k (by omega) hkl)).2.2.2.1⟩
      rw [← hpw] at g0 g1 hwt
      simp only at g0 g1 hwt
      have HPW := Lib.hid hpw
      clear hpw hL hown hb
      by_cases hc : 0 < k ∧ k < l2
      · obtain ⟨b2, o2, rfl, hc2⟩ := N2.out.row (by omega)
        have cr := cell_later HB.out (cell_later HB2.out (hc2 k hc.2))
        have br := wf_u64 (N2.out.fit k hc.2)
        obtain ⟨rv, hrv⟩ : ∃ x, x = xs2[k]! := ⟨_, rfl⟩
        rw [← hrv] at cr br
        have zk : decide ((k : Int) > 0) = true := decide_eq_true (by omega)
        have zk2 : decide ((k : Int) < (l2 : Int)) = true := decide_eq_true (by omega)
        have hri : (k : Int) < (l2 : Int) := by omega
        have zw : IntKind.i64.wrap (wt - 1) = wt - 1 := IntWalk.i64_in _ (by omega)
        have zw2 : IntKind.u32.wrap (wt - 1) = wt - 1 := IntWalk.u32_in _ (by omega)
        have AM := Lib.hid fun (r : Int) (hr : 0 ≤ r ∧ r ≤ 4294967295) => Made_ex rv r (wt - 1) br hr (by omega)
        have HWT := Lib.hid hwt
        have HC := Lib.hid hc
        have hc1 := hc.1
        have hcl := hc.2
        obtain ⟨W0, hW0⟩ : ∃ X, X = (wr.alloc (.cells #[.int .i64 p, .int .i64 wt] 34)).alloc (.cells #[.int .u64 0, .int .u32 0, .int .u64 0] 37) := ⟨_, rfl⟩
        have hb0 : Below wr.heap.size wr W0 := by rw [hW0]; exact Below.allocS (below_a _ _) _
        have HW0 := Lib.hid hW0
        have q1 : W0.cell? ⟨wr.heap.size, 1, none⟩ = some (.int .i64 wt) := by rw [hW0]; exact cell_al _ (cell_nw _ _ _ 1 _ rfl)
        have y0 : W0.cell? ⟨wr.heap.size + 1, 0, none⟩ = some (.int .u64 0) := by rw [hW0]; exact cell_nwE (by simp) _ _ 0 _ rfl
        have y1 : W0.cell? ⟨wr.heap.size + 1, 1, none⟩ = some (.int .u32 0) := by rw [hW0]; exact cell_nwE (by simp) _ _ 1 _ rfl
        have y2 : W0.cell? ⟨wr.heap.size + 1, 2, none⟩ = some (.int .u64 0) := by rw [hW0]; exact cell_nwE (by simp) _ _ 2 _ rfl
        have yf : ∀ j, W0.frozen? ⟨wr.heap.size + 1, j, none⟩ = false := fun j => by rw [hW0]; exact frz_nwE (by simp) _ _ j
        have cr0 := cell_later hb0 cr
        have HB0 := Lib.hid (Below.step HB.out hb0)
        have HBR0 := Lib.hid hb0
        have YF := Lib.hid yf
        clear hrv hc2 cr yf hb0 hW0 hwt hc
        go_wp2_with fail
        rw [← HW0.out]
        have mq : wr.heap.size ∉ [W0.heap.size] := by have := lt_of_cell q1; simp; omega
        have mb : b2 ∉ [W0.heap.size] := by have := lt_of_cell cr0; simp; omega
        obtain ⟨b16, hb16⟩ : ∃ b, b = wr.heap.size := ⟨_, rfl⟩
        rw [← hb16] at q1 y0 y1 y2 YF mq ⊢
        have HB16 := Lib.hid hb16
        clear hb16
        have hS0 : Kept [W0.heap.size] W0 W0.drew ∧ W0.drew.cell? ⟨b2, o2 + k, none⟩ = some (.int .u64 rv) ∧ W0.drew.cell? ⟨b16, 1, none⟩ = some (.int .i64 wt) := ⟨Kept.drew (Kept.refl _ _), cell_dr cr0, cell_dr q1⟩
        refine wp_region_held_drew (S := fun w' => Kept [W0.heap.size] W0 w' ∧ w'.cell? ⟨b2, o2 + k, none⟩ = some (.int .u64 rv) ∧ w'.cell? ⟨b16, 1, none⟩ = some (.int .i64 wt)) (by kernel_rfl) hS0 (fun hHeld => ?_)
        refine takeH (i := 0) (v := ?v0_260) rfl (by kernel_rfl) (fun _ _ _ h => h) (by rfl) ?hy0_260 (by assumption) ?rest0_260
        case hy0_260 => (intro w hSw; (try dsimp only at hSw); go_simp; try with_reducible rfl)
        try simp only [Act.put, List.setIfInBounds_toArray, List.set_cons_zero, List.set_cons_succ]
        refine takeH (i := 1) (v := ?v1_261) rfl (by kernel_rfl) (fun _ _ _ h => h) (by rfl) ?hy1_261 (by assumption) ?rest1_261
        case hy1_261 => (intro w hSw; (try dsimp only at hSw); go_simp; try with_reducible rfl)
        try simp only [Act.put, List.setIfInBounds_toArray, List.set_cons_zero, List.set_cons_succ]
        refine takeH (i := 2) (v := ?v2_262) rfl (by kernel_rfl) (fun _ _ _ h => h) (by rfl) ?hy2_262 (by assumption) ?rest2_262
        case hy2_262 => (intro w hSw; (try dsimp only at hSw); go_simp; try with_reducible rfl)
        try simp only [Act.put, List.setIfInBounds_toArray, List.set_cons_zero, List.set_cons_succ]
        refine takeH (i := 3) (v := ?v3_263) rfl (by kernel_rfl) (fun _ _ _ h => h) (by rfl) ?hy3_263 (by assumption) ?rest3_263
        case hy3_263 => (intro w hSw; (try dsimp only at hSw); go_simp; try with_reducible rfl)
        try simp only [Act.put, List.setIfInBounds_toArray, List.set_cons_zero, List.set_cons_succ]
        refine takeH (i := 4) (v := ?v4_264) rfl (by kernel_rfl) (fun _ _ _ h => h) (by rfl) ?hy4_264 (by assumption) ?rest4_264
        case hy4_264 => (intro w hSw; (try dsimp only at hSw); go_simp; try with_reducible rfl)
        try simp only [Act.put, List.setIfInBounds_toArray, List.set_cons_zero, List.set_cons_succ]
        refine takeH (i := 5) (v := ?v5_265) rfl (by kernel_rfl) (fun _ _ _ h => h) (by rfl) ?hy5_265 (by assumption) ?rest5_265
        case hy5_265 => (intro w hSw; (try dsimp only at hSw); go_simp; try with_reducible rfl)
        try simp only [Act.put, List.setIfInBounds_toArray, List.set_cons_zero, List.set_cons_succ]
        refine takeH (i := 6) (v := ?v6_266) rfl (by kernel_rfl) (fun _ _ _ h => h) (by rfl) ?hy6_266 (by assumption) ?rest6_266
        case hy6_266 => (intro w hSw; (try dsimp only at hSw); go_simp; try with_reducible rfl)
        try simp only [Act.put, List.setIfInBounds_toArray, List.set_cons_zero, List.set_cons_succ]
        refine takeH (i := 7) (v := ?v7_267) rfl (by kernel_rfl) (fun _ _ _ h => h) (by rfl) ?hy7_267 (by assumption) ?rest7_267
        case hy7_267 => (intro w hSw; (try dsimp only at hSw); go_simp; try with_reducible rfl)
        try simp only [Act.put, List.setIfInBounds_toArray, List.set_cons_zero, List.set_cons_succ]
        refine takeH (i := 8) (v := ?v8_268) rfl (by kernel_rfl) (fun _ _ _ h => h) (by rfl) ?hy8_268 (by assumption) ?rest8_268
        case hy8_268 => (intro w hSw; (try dsimp only at hSw); go_simp; try with_reducible rfl)
        try simp only [Act.put, List.setIfInBounds_toArray, List.set_cons_zero, List.set_cons_succ]
        refine takeH (i := 9) (v := ?v9_269) rfl (by kernel_rfl) (fun _ _ _ h => h) (by rfl) ?hy9_269 (by assumption) ?rest9_269
        case hy9_269 => (intro w hSw; (try dsimp only at hSw); go_simp; try with_reducible rfl)
        try simp only [Act.put, List.setIfInBounds_toArray, List.set_cons_zero, List.set_cons_succ]
        refine takeH (i := 10) (v := ?v10_270) rfl (by kernel_rfl) (fun _ _ _ h => h) (by rfl) ?hy10_270 (by assumption) ?rest10_270
        case hy10_270 => (intro w hSw; (try dsimp only at hSw); go_simp; try with_reducible rfl)
        try simp only [Act.put, List.setIfInBounds_toArray, List.set_cons_zero, List.set_cons_succ]
        refine takeH (i := 11) (v := ?v11_271) rfl (by kernel_rfl) (fun _ _ _ h => h) (by rfl) ?hy11_271 (by assumption) ?rest11_271
        case hy11_271 => (intro w hSw; (try dsimp only at hSw); go_simp; try with_reducible rfl)
        try simp only [Act.put, List.setIfInBounds_toArray, List.set_cons_zero, List.set_cons_succ]
        refine takeH (i := 12) (v := ?v12_272) rfl (by kernel_rfl) (fun _ _ _ h => h) (by rfl) ?hy12_272 (by assumption) ?rest12_272
        case hy12_272 => (intro w hSw; (try dsimp only at hSw); go_simp; try with_reducible rfl)
        try simp only [Act.put, List.setIfInBounds_toArray, List.set_cons_zero, List.set_cons_succ]
        refine takeH (i := 13) (v := ?v13_273) rfl (by kernel_rfl) (fun _ _ _ h => h) (by rfl) ?hy13_273 (by assumption) ?rest13_273
        case hy13_273 => (intro w hSw; (try dsimp only at hSw); go_simp; try with_reducible rfl)
        try simp only [Act.put, List.setIfInBounds_toArray, List.set_cons_zero, List.set_cons_succ]
        refine wpAnyH_ready (rs := [14, 15]) (by kernel_rfl) (by simp) ?_
        refine consH rfl (fun K hK => ?_) (consH rfl (fun K hK => ?_) (AllReadyH.nil))
        · skip
          go_simp
          obtain ⟨rr, cc, hok, hre, hcc, hA⟩ := AM.out _ (wrap_u32_in _)
          clear hre
          refine (hA _).mono ?_
          rintro e w13 ⟨rfl, hb13⟩
          have hk13 := Kept.of (S := [W0.heap.size]) hb13
          have HOKV := Lib.hid hok
          have HCC := Lib.hid hcc
          clear hok hcc hA
          have HB13 := Lib.hid (Below.step (Below.refl W0.heap.size W0).drew hb13)
          go_wp2_with fail
          refine hK.out _ _ ?_ (fun hHeld14 => ?_)
          · (first | assumption | (refine heldK_2 (by assumption) ?_ (by assumption) (by assumption) ; assumption) | (refine heldK_2 (Kept.of (below_ad _ _)) ?_ (by assumption) (by assumption) ; assumption) | (refine heldK_2 (Kept.of (below_a _ _)) ?_ (by assumption) (by assumption) ; assumption))
          clear hK K
          try simp only [Act.put, List.setIfInBounds_toArray, List.set_cons_zero, List.set_cons_succ]
          refine wpAnyH_ready (rs := [15]) (by kernel_rfl) (by simp) ?_
          refine consH rfl (fun K hK => ?_) (AllReadyH.nil)
          go_simp
          refine hK.out _ _ ?_ (fun hHeld15 => ?_)
          · (first | assumption | (refine heldK_2 (by assumption) ?_ (by assumption) (by assumption) ; assumption) | (refine heldK_2 (Kept.of (below_ad _ _)) ?_ (by assumption) (by assumption) ; assumption) | (refine heldK_2 (Kept.of (below_a _ _)) ?_ (by assumption) (by assumption) ; assumption))
          clear hK K
          try simp only [Act.put, List.setIfInBounds_toArray, List.set_cons_zero, List.set_cons_succ]
          refine wpAnyH_ready (rs := [16]) (by kernel_rfl) (by simp) ?_
          refine consH rfl (fun K hK => ?_) (AllReadyH.nil)
          go_simp
          have hk18 := (((Kept.refl [W0.heap.size] w13).setCell (p := ⟨W0.heap.size, 0, none⟩) (Or.inl (by simp)) (.int .u64 rv)).setCell (p := ⟨W0.heap.size, 1, none⟩) (Or.inl (by simp)) (.int .u32 rr)).setCell (p := ⟨W0.heap.size, 2, none⟩) (Or.inl (by simp)) (.int .u32 cc)
          refine hK.out _ _ ?_ (fun hHeld16 => ?_)
          · (first | assumption | (refine heldK_2 (by assumption) ?_ (by assumption) (by assumption) ; assumption) | (refine heldK_2 (Kept.of (below_ad _ _)) ?_ (by assumption) (by assumption) ; assumption) | (refine heldK_2 (Kept.of (below_a _ _)) ?_ (by assumption) (by assumption) ; assumption))
          clear hK K
          try simp only [Act.put, List.setIfInBounds_toArray, List.set_cons_zero, List.set_cons_succ]
          refine wpAnyH_done (by kernel_rfl) ?_ _
          first
            | (obtain ⟨W3, hW3⟩ : ∃ X, X = w13.alloc (.cells #[.int .u64 rv, .int .u32 rr, .int .u32 cc] 39) := ⟨_, rfl⟩
               rw [← hW3]
               obtain ⟨b18, hb18⟩ : ∃ b, b = w13.heap.size := ⟨_, rfl⟩
               rw [← hb18]
               have x0 : W3.cell? ⟨b18, 0, none⟩ = some (.int .u64 rv) := by rw [hW3]; exact cell_nwE hb18 _ _ 0 _ rfl
               have x1 : W3.cell? ⟨b18, 1, none⟩ = some (.int .u32 rr) := by rw [hW3]; exact cell_nwE hb18 _ _ 1 _ rfl
               have n18 : b18 ≠ b16 + 1 := by have := HB13.out.size; have := lt_of_cell y0; omega
               have hB3 : Below W0.heap.size W0 W3 := by rw [hW3]; exact Below.allocS HB13.out _)
            | (obtain ⟨W3, hW3⟩ : ∃ X, X = (((w13.setCell ⟨W0.heap.size, 0, none⟩ (.int .u64 rv)).setCell ⟨W0.heap.size, 1, none⟩ (.int .u32 rr)).setCell ⟨W0.heap.size, 2, none⟩ (.int .u32 cc)) := ⟨_, rfl⟩
               rw [← hW3]
               obtain ⟨b18, hb18⟩ : ∃ b, b = W0.heap.size := ⟨_, rfl⟩
               rw [← hb18]
               have x0 : W3.cell? ⟨b18, 0, none⟩ = some (.int .u64 rv) := by rw [hW3, hb18]; exact cell_set_ne (cell_set_ne (cell_set_eq x0) (Or.inr (by omega))) (Or.inr (by omega))
               have x1 : W3.cell? ⟨b18, 1, none⟩ = some (.int .u32 rr) := by rw [hW3, hb18]; exact cell_set_ne (cell_set_eq (cell_set_ne x1 (Or.inr (by omega)))) (Or.inr (by omega))
               have n18 : b18 ≠ b16 + 1 := by have := lt_of_cell y0; omega
               have hB3 : Below W0.heap.size W0 W3 := by rw [hW3]; exact ((HB13.out.setCell (by simp) _).setCell (by simp) _).setCell (by simp) _)
          clear hW3 hb18 hS0 hHeld
          have l0 := lt_of_cell y0
          replace y0 := cell_later hB3 y0
          replace y1 := cell_later hB3 y1
          replace y2 := cell_later hB3 y2
          have f0 := frz_later hB3 (YF.out 0) l0
          have f1 := frz_later hB3 (YF.out 1) l0
          have f2 := frz_later hB3 (YF.out 2) l0
          have HB3 := Lib.hid (Below.step HB0.out hB3)
          have HBR3 := Lib.hid (Below.step HBR0.out hB3)
          clear hB3
          go_wp2_with fail
          go_region
          refine q_world (fun W4 hW4 => ?_)
          have v0 : W4.cell? ⟨b16 + 1, 0, none⟩ = some (.int .u64 rv) := by rw [hW4]; exact cell_dr (cell_set_ne (cell_set_eq y0) (Or.inr (by omega)))
          have v1 : W4.cell? ⟨b16 + 1, 1, none⟩ = some (.int .u32 rr) := by rw [hW4]; exact cell_dr (cell_set_eq (cell_set_ne y1 (Or.inr (by omega))))
          have v2 : W4.cell? ⟨b16 + 1, 2, none⟩ = some (.int .u64 0) := by rw [hW4]; exact cell_dr (cell_set_ne (cell_set_ne y2 (Or.inr (by omega))) (Or.inr (by omega)))
          have hk4 : Kept [b16 + 1] W3 W4 := by rw [hW4]; exact (((Kept.refl [b16 + 1] W3).setCell (Or.inl (by simp)) _).setCell (Or.inl (by simp)) _).drew
          have g2 : W4.frozen? ⟨b16 + 1, 2, none⟩ = false := by
            rw [hW4]
            show ((W3.setCell ⟨b16 + 1, 0, none⟩ (.int .u64 rv)).setCell ⟨b16 + 1, 1, none⟩ (.int .u32 rr)).frozen? ⟨b16 + 1, 2, none⟩ = false
            rw [World.frozen?_setCell, World.frozen?_setCell]
            exact f2
          have hbe := HB16.out
          have hsz := HB.out.size
          have hB4 : Below w2.heap.size w2 W4 := HB3.out.trans (hk4.below (fun b hb => by simp at hb; omega) HB3.out.size)
          have o4 : W4.ownsRow w2.heap.size 37 3 u14 k (flatR encS L) := own_kept (own_below HO.out HBR3.out) hk4 (fun b e m => by have := (HO.out.lt b e).2; simp at m; omega)
          have HB4 := Lib.hid hB4
          have O4 := Lib.hid o4
          have HOKW := Lib.hid (show Ch.Ok rv rr (Gs[k]!).2 by
            have h1 := HOKV.out
            have h2 := HCC.out
            have h3 := HWT.out
            rw [← HPW.out]
            rw [show cc = wt by rw [h2]; omega] at h1
            exact h1)
          clear hW4 hk4 hB4 o4 y0 y1 y2 x0 x1 n18 f0 f1 f2 hbe
          by_cases hf : k < l3
          · obtain ⟨b3, o3, rfl, hc3⟩ := N3.out.row (by omega)
            have cf := cell_later HB4.out (cell_later HB2.out (hc3 k hf))
            have bf := wf_u64 (N3.out.fit k hf)
            obtain ⟨fv, hfv⟩ : ∃ x, x = xs3[k]! := ⟨_, rfl⟩
            rw [← hfv] at cf bf
            have hfi : (k : Int) < (l3 : Int) := by omega
            have HSP := Lib.hid (show SpOk Gs k (rv, rr, fv % 4611686018427387904) from ⟨HOKW.out, by simp only; omega, by simp only; omega, fun e => absurd e (by omega)⟩)
            have u0 := cell_set_ne (b' := b16 + 1) (o' := 2) (u := .int .u64 (fv % 4611686018427387904)) v0 (Or.inr (by decide))
            have u1 := cell_set_ne (b' := b16 + 1) (o' := 2) (u := .int .u64 (fv % 4611686018427387904)) v1 (Or.inr (by decide))
            have u2 := cell_set_eq (u := .int .u64 (fv % 4611686018427387904)) v2
            have hks : Kept [b16 + 1] W4 (W4.setCell ⟨b16 + 1, 2, none⟩ (.int .u64 (fv % 4611686018427387904))) := (Kept.refl _ _).setCell (Or.inl (by simp)) _
            have OS := Lib.hid (own_kept O4.out hks (fun b e m => by have := (HO.out.lt b e).2; have := HB16.out; simp at m; omega))
            have BS := Lib.hid (HB4.out.trans (hks.below (fun b hb => by have := HB16.out; simp at hb; omega) HB4.out.size))
            clear hfv hc3 hks
            go_wp2_with (at_builtin; refine wpList_append_own _ rfl _ _ 32 rfl w2.heap.size 37 isp (.agg #[.int .u64 0, .int .u32 0, .int .u64 0]) 3 24 Try.underlying32 hi hz0 hz1 hz2 rfl (by decide) _ k (flatR encS L) rfl (World.ownsRow.alloc (OS.out) _) _ 1 1 (encS (rv, rr, fv % 4611686018427387904)) rfl rfl ?c1 ?c2 ?c3 ?c4 ?c5 ?_)
            case c1 =>
              intro j u hj
              rw [addN]
              exact cellN (by simp) (by simpa [encS] using hj)
            case c2 => exact encS_ok.one _
            case c3 => unfold maxLen; omega
            case c4 => omega
            case c5 => exact (Below.allocS (BS.out) _).size
            intro v' w8 hown8 hgrow8 _
            have hb8 : Below w2.heap.size w2 w8 := (Below.allocS (BS.out) _).grown hgrow8 (Below.allocS (BS.out) _).size (fun j e => (HO.out.lt j e).1)
            have HW8 := Lib.hid (show w8.ownsRow w2.heap.size 37 3 v' (k + 1) (flatR encS (L ++ [(rv, rr, fv % 4611686018427387904)])) by rw [flatR_app]; simpa [flatR] using hown8)
            have HB8 := Lib.hid hb8
            clear hown8 hgrow8 hb8
            go_wp2_with fail
            go_roundw
            case rel => exact ⟨k + 1, L ++ [(rv, rr, fv % 4611686018427387904)], by omega, by go_num, HL.out.snoc HSP.out, HW8.out, HB8.out⟩
            case measure => simp [intOf]; omega
          · have zf : decide ((k : Int) < (l3 : Int)) = false := decide_eq_false (by omega)
            have HSP := Lib.hid (show SpOk Gs k (rv, rr, 0) from ⟨HOKW.out, by simp only; omega, by simp only; omega, fun e => absurd e (by omega)⟩)
            go_wp2_with (at_builtin; refine wpList_append_own _ rfl _ _ 32 rfl w2.heap.size 37 isp (.agg #[.int .u64 0, .int .u32 0, .int .u64 0]) 3 24 Try.underlying32 hi hz0 hz1 hz2 rfl (by decide) _ k (flatR encS L) rfl (World.ownsRow.alloc (O4.out) _) _ 1 1 (encS (rv, rr, 0)) rfl rfl ?c1 ?c2 ?c3 ?c4 ?c5 ?_)
            case c1 =>
              intro j u hj
              rw [addN]
              exact cellN (by simp) (by simpa [encS] using hj)
            case c2 => exact encS_ok.one _
            case c3 => unfold maxLen; omega
            case c4 => omega
            case c5 => exact (Below.allocS (HB4.out) _).size
            intro v' w8 hown8 hgrow8 _
            have hb8 : Below w2.heap.size w2 w8 := (Below.allocS (HB4.out) _).grown hgrow8 (Below.allocS (HB4.out) _).size (fun j e => (HO.out.lt j e).1)
            have HW8 := Lib.hid (show w8.ownsRow w2.heap.size 37 3 v' (k + 1) (flatR encS (L ++ [(rv, rr, 0)])) by rw [flatR_app]; simpa [flatR] using hown8)
            have HB8 := Lib.hid hb8
            clear hown8 hgrow8 hb8
            go_wp2_with fail
            go_roundw
            case rel => exact ⟨k + 1, L ++ [(rv, rr, 0)], by omega, by go_num, HL.out.snoc HSP.out, HW8.out, HB8.out⟩
            case measure => simp [intOf]; omega
        · skip
          go_simp
          refine hK.out _ _ ?_ (fun hHeld15 => ?_)
          · (first | assumption | (refine heldK_2 (by assumption) ?_ (by assumption) (by assumption) ; assumption) | (refine heldK_2 (Kept.of (below_ad _ _)) ?_ (by assumption) (by assumption) ; assumption) | (refine heldK_2 (Kept.of (below_a _ _)) ?_ (by assumption) (by assumption) ; assumption))
          clear hK K
          try simp only [Act.put, List.setIfInBounds_toArray, List.set_cons_zero, List.set_cons_succ]
          refine wpAnyH_ready (rs := [14]) (by kernel_rfl) (by simp) ?_
          refine consH rfl (fun K hK => ?_) (AllReadyH.nil)
          go_simp
          obtain ⟨rr, cc, hok, hre, hcc, hA⟩ := AM.out _ (wrap_u32_in _)
          clear hre
          refine (hA _).mono ?_
          rintro e w13 ⟨rfl, hb13⟩
          have hk13 := Kept.of (S := [W0.heap.size]) hb13
          have HOKV := Lib.hid hok
          have HCC := Lib.hid hcc
          clear hok hcc hA
          have x0 := cell_later hb13 (cell_dr (cell_nw W0 #[.int .u64 0, .int .u32 0, .int .u32 0] 39 0 _ rfl))
          have x1 := cell_later hb13 (cell_dr (cell_nw W0 #[.int .u64 0, .int .u32 0, .int .u32 0] 39 1 _ rfl))
          have x2 := cell_later hb13 (cell_dr (cell_nw W0 #[.int .u64 0, .int .u32 0, .int .u32 0] 39 2 _ rfl))
          have f0 := frz_later hb13 (show (W0.alloc (.cells #[.int .u64 0, .int .u32 0, .int .u32 0] 39)).drew.frozen? ⟨W0.heap.size, 0, none⟩ = false from frz_nw W0 _ _ 0) (by simp)
          have f1 := frz_later hb13 (show (W0.alloc (.cells #[.int .u64 0, .int .u32 0, .int .u32 0] 39)).drew.frozen? ⟨W0.heap.size, 1, none⟩ = false from frz_nw W0 _ _ 1) (by simp)
          have f2 := frz_later hb13 (show (W0.alloc (.cells #[.int .u64 0, .int .u32 0, .int .u32 0] 39)).drew.frozen? ⟨W0.heap.size, 2, none⟩ = false from frz_nw W0 _ _ 2) (by simp)
          have HB13 := Lib.hid (Below.step (Below.allocS (Below.refl W0.heap.size W0) (.cells #[.int .u64 0, .int .u32 0, .int .u32 0] 39)).drew hb13)
          go_wp2_with fail
          refine hK.out _ _ ?_ (fun hHeld14 => ?_)
          · (first | assumption | (refine heldK_2 (by assumption) ?_ (by assumption) (by assumption) ; assumption) | (refine heldK_2 (Kept.of (below_ad _ _)) ?_ (by assumption) (by assumption) ; assumption) | (refine heldK_2 (Kept.of (below_a _ _)) ?_ (by assumption) (by assumption) ; assumption))
          clear hK K
          try simp only [Act.put, List.setIfInBounds_toArray, List.set_cons_zero, List.set_cons_succ]
          refine wpAnyH_ready (rs := [16]) (by kernel_rfl) (by simp) ?_
          refine consH rfl (fun K hK => ?_) (AllReadyH.nil)
          go_simp
          have hk18 := (((Kept.refl [W0.heap.size] w13).setCell (p := ⟨W0.heap.size, 0, none⟩) (Or.inl (by simp)) (.int .u64 rv)).setCell (p := ⟨W0.heap.size, 1, none⟩) (Or.inl (by simp)) (.int .u32 rr)).setCell (p := ⟨W0.heap.size, 2, none⟩) (Or.inl (by simp)) (.int .u32 cc)
          refine hK.out _ _ ?_ (fun hHeld16 => ?_)
          · (first | assumption | (refine heldK_2 (by assumption) ?_ (by assumption) (by assumption) ; assumption) | (refine heldK_2 (Kept.of (below_ad _ _)) ?_ (by assumption) (by assumption) ; assumption) | (refine heldK_2 (Kept.of (below_a _ _)) ?_ (by assumption) (by assumption) ; assumption))
          clear hK K
          try simp only [Act.put, List.setIfInBounds_toArray, List.set_cons_zero, List.set_cons_succ]
          refine wpAnyH_done (by kernel_rfl) ?_ _
          first
            | (obtain ⟨W3, hW3⟩ : ∃ X, X = w13.alloc (.cells #[.int .u64 rv, .int .u32 rr, .int .u32 cc] 39) := ⟨_, rfl⟩
               rw [← hW3]
               obtain ⟨b18, hb18⟩ : ∃ b, b = w13.heap.size := ⟨_, rfl⟩
               rw [← hb18]
               have x0 : W3.cell? ⟨b18, 0, none⟩ = some (.int .u64 rv) := by rw [hW3]; exact cell_nwE hb18 _ _ 0 _ rfl
               have x1 : W3.cell? ⟨b18, 1, none⟩ = some (.int .u32 rr) := by rw [hW3]; exact cell_nwE hb18 _ _ 1 _ rfl
               have n18 : b18 ≠ b16 + 1 := by have := HB13.out.size; have := lt_of_cell y0; omega
               have hB3 : Below W0.heap.size W0 W3 := by rw [hW3]; exact Below.allocS HB13.out _)
            | (obtain ⟨W3, hW3⟩ : ∃ X, X = (((w13.setCell ⟨W0.heap.size, 0, none⟩ (.int .u64 rv)).setCell ⟨W0.heap.size, 1, none⟩ (.int .u32 rr)).setCell ⟨W0.heap.size, 2, none⟩ (.int .u32 cc)) := ⟨_, rfl⟩
               rw [← hW3]
               obtain ⟨b18, hb18⟩ : ∃ b, b = W0.heap.size := ⟨_, rfl⟩
               rw [← hb18]
               have x0 : W3.cell? ⟨b18, 0, none⟩ = some (.int .u64 rv) := by rw [hW3, hb18]; exact cell_set_ne (cell_set_ne (cell_set_eq x0) (Or.inr (by omega))) (Or.inr (by omega))
               have x1 : W3.cell? ⟨b18, 1, none⟩ = some (.int .u32 rr) := by rw [hW3, hb18]; exact cell_set_ne (cell_set_eq (cell_set_ne x1 (Or.inr (by omega)))) (Or.inr (by omega))
               have n18 : b18 ≠ b16 + 1 := by have := lt_of_cell y0; omega
               have hB3 : Below W0.heap.size W0 W3 := by rw [hW3]; exact ((HB13.out.setCell (by simp) _).setCell (by simp) _).setCell (by simp) _)
          clear hW3 hb18 hS0 hHeld
          have l0 := lt_of_cell y0
          replace y0 := cell_later hB3 y0
          replace y1 := cell_later hB3 y1
          replace y2 := cell_later hB3 y2
          have f0 := frz_later hB3 (YF.out 0) l0
          have f1 := frz_later hB3 (YF.out 1) l0
          have f2 := frz_later hB3 (YF.out 2) l0
          have HB3 := Lib.hid (Below.step HB0.out hB3)
          have HBR3 := Lib.hid (Below.step HBR0.out hB3)
          clear hB3
          go_wp2_with fail
          go_region
          refine q_world (fun W4 hW4 => ?_)
          have v0 : W4.cell? ⟨b16 + 1, 0, none⟩ = some (.int .u64 rv) := by rw [hW4]; exact cell_dr (cell_set_ne (cell_set_eq y0) (Or.inr (by omega)))
          have v1 : W4.cell? ⟨b16 + 1, 1, none⟩ = some (.int .u32 rr) := by rw [hW4]; exact cell_dr (cell_set_eq (cell_set_ne y1 (Or.inr (by omega))))
          have v2 : W4.cell? ⟨b16 + 1, 2, none⟩ = some (.int .u64 0) := by rw [hW4]; exact cell_dr (cell_set_ne (cell_set_ne y2 (Or.inr (by omega))) (Or.inr (by omega)))
          have hk4 : Kept [b16 + 1] W3 W4 := by rw [hW4]; exact (((Kept.refl [b16 + 1] W3).setCell (Or.inl (by simp)) _).setCell (Or.inl (by simp)) _).drew
          have g2 : W4.frozen? ⟨b16 + 1, 2, none⟩ = false := by
            rw [hW4]
            show ((W3.setCell ⟨b16 + 1, 0, none⟩ (.int .u64 rv)).setCell ⟨b16 + 1, 1, none⟩ (.int .u32 rr)).frozen? ⟨b16 + 1, 2, none⟩ = false
            rw [World.frozen?_setCell, World.frozen?_setCell]
            exact f2
          have hbe := HB16.out
          have hsz := HB.out.size
          have hB4 : Below w2.heap.size w2 W4 := HB3.out.trans (hk4.below (fun b hb => by simp at hb; omega) HB3.out.size)
          have o4 : W4.ownsRow w2.heap.size 37 3 u14 k (flatR encS L) := own_kept (own_below HO.out HBR3.out) hk4 (fun b e m => by have := (HO.out.lt b e).2; simp at m; omega)
          have HB4 := Lib.hid hB4
          have O4 := Lib.hid o4
          have HOKW := Lib.hid (show Ch.Ok rv rr (Gs[k]!).2 by
            have h1 := HOKV.out
            have h2 := HCC.out
            have h3 := HWT.out
            rw [← HPW.out]
            rw [show cc = wt by rw [h2]; omega] at h1
            exact h1)
          clear hW4 hk4 hB4 o4 y0 y1 y2 x0 x1 n18 f0 f1 f2 hbe
          by_cases hf : k < l3
          · obtain ⟨b3, o3, rfl, hc3⟩ := N3.out.row (by omega)
            have cf := cell_later HB4.out (cell_later HB2.out (hc3 k hf))
            have bf := wf_u64 (N3.out.fit k hf)
            obtain ⟨fv, hfv⟩ : ∃ x, x = xs3[k]! := ⟨_, rfl⟩
            rw [← hfv] at cf bf
            have hfi : (k : Int) < (l3 : Int) := by omega
            have HSP := Lib.hid (show SpOk Gs k (rv, rr, fv % 4611686018427387904) from ⟨HOKW.out, by simp only; omega, by simp only; omega, fun e => absurd e (by omega)⟩)
            have u0 := cell_set_ne (b' := b16 + 1) (o' := 2) (u := .int .u64 (fv % 4611686018427387904)) v0 (Or.inr (by decide))
            have u1 := cell_set_ne (b' := b16 + 1) (o' := 2) (u := .int .u64 (fv % 4611686018427387904)) v1 (Or.inr (by decide))
            have u2 := cell_set_eq (u := .int .u64 (fv % 4611686018427387904)) v2
            have hks : Kept [b16 + 1] W4 (W4.setCell ⟨b16 + 1, 2, none⟩ (.int .u64 (fv % 4611686018427387904))) := (Kept.refl _ _).setCell (Or.inl (by simp)) _
            have OS := Lib.hid (own_kept O4.out hks (fun b e m => by have := (HO.out.lt b e).2; have := HB16.out; simp at m; omega))
            have BS := Lib.hid (HB4.out.trans (hks.below (fun b hb => by have := HB16.out; simp at hb; omega) HB4.out.size))
            clear hfv hc3 hks
            go_wp2_with (at_builtin; refine wpList_append_own _ rfl _ _ 32 rfl w2.heap.size 37 isp (.agg #[.int .u64 0, .int .u32 0, .int .u64 0]) 3 24 Try.underlying32 hi hz0 hz1 hz2 rfl (by decide) _ k (flatR encS L) rfl (World.ownsRow.alloc (OS.out) _) _ 1 1 (encS (rv, rr, fv % 4611686018427387904)) rfl rfl ?c1 ?c2 ?c3 ?c4 ?c5 ?_)
            case c1 =>
              intro j u hj
              rw [addN]
              exact cellN (by simp) (by simpa [encS] using hj)
            case c2 => exact encS_ok.one _
            case c3 => unfold maxLen; omega
            case c4 => omega
            case c5 => exact (Below.allocS (BS.out) _).size
            intro v' w8 hown8 hgrow8 _
            have hb8 : Below w2.heap.size w2 w8 := (Below.allocS (BS.out) _).grown hgrow8 (Below.allocS (BS.out) _).size (fun j e => (HO.out.lt j e).1)
            have HW8 := Lib.hid (show w8.ownsRow w2.heap.size 37 3 v' (k + 1) (flatR encS (L ++ [(rv, rr, fv % 4611686018427387904)])) by rw [flatR_app]; simpa [flatR] using hown8)
            have HB8 := Lib.hid hb8
            clear hown8 hgrow8 hb8
            go_wp2_with fail
            go_roundw
            case rel => exact ⟨k + 1, L ++ [(rv, rr, fv % 4611686018427387904)], by omega, by go_num, HL.out.snoc HSP.out, HW8.out, HB8.out⟩
            case measure => simp [intOf]; omega
          · have zf : decide ((k : Int) < (l3 : Int)) = false := decide_eq_false (by omega)
            have HSP := Lib.hid (show SpOk Gs k (rv, rr, 0) from ⟨HOKW.out, by simp only; omega, by simp only; omega, fun e => absurd e (by omega)⟩)
            go_wp2_with (at_builtin; refine wpList_append_own _ rfl _ _ 32 rfl w2.heap.size 37 isp (.agg #[.int .u64 0, .int .u32 0, .int .u64 0]) 3 24 Try.underlying32 hi hz0 hz1 hz2 rfl (by decide) _ k (flatR encS L) rfl (World.ownsRow.alloc (O4.out) _) _ 1 1 (encS (rv, rr, 0)) rfl rfl ?c1 ?c2 ?c3 ?c4 ?c5 ?_)
            case c1 =>
              intro j u hj
              rw [addN]
              exact cellN (by simp) (by simpa [encS] using hj)
            case c2 => exact encS_ok.one _
            case c3 => unfold maxLen; omega
            case c4 => omega
            case c5 => exact (Below.allocS (HB4.out) _).size
            intro v' w8 hown8 hgrow8 _
            have hb8 : Below w2.heap.size w2 w8 := (Below.allocS (HB4.out) _).grown hgrow8 (Below.allocS (HB4.out) _).size (fun j e => (HO.out.lt j e).1)
            have HW8 := Lib.hid (show w8.ownsRow w2.heap.size 37 3 v' (k + 1) (flatR encS (L ++ [(rv, rr, 0)])) by rw [flatR_app]; simpa [flatR] using hown8)
            have HB8 := Lib.hid hb8
            clear hown8 hgrow8 hb8
            go_wp2_with fail
            go_roundw
            case rel => exact ⟨k + 1, L ++ [(rv, rr, 0)], by omega, by go_num, HL.out.snoc HSP.out, HW8.out, HB8.out⟩
            case measure => simp [intOf]; omega
      · have z1' : ¬ (0 < k ∧ k < l2) := hc
        have HMW := Lib.hid (show SpOk Gs k (0, 0, 0) from ⟨by rw [← HPW.out]; unfold Ch.Ok; simp only; omega, by decide, by decide, fun _ => ⟨rfl, rfl⟩⟩)
        by_cases hf : k < l3
        · obtain ⟨b3, o3, rfl, hc3⟩ := N3.out.row (by omega)
          have cf := cell_later HB.out (cell_later HB2.out (hc3 k hf))
          have bf := wf_u64 (N3.out.fit k hf)
          obtain ⟨fv, hfv⟩ : ∃ x, x = xs3[k]! := ⟨_, rfl⟩
          rw [← hfv] at cf bf
          have cf2 := cell_al (.cells #[.int .u64 0, .int .u32 0, .int .u64 0] 37) (cell_al (.cells #[.int .i64 p, .int .i64 wt] 34) cf)
          have hfi : (k : Int) < (l3 : Int) := by omega
          have HSP := Lib.hid (show SpOk Gs k (0, 0, fv % 4611686018427387904) from ⟨HMW.out.1, by simp only; omega, by simp only; omega, fun _ => ⟨rfl, rfl⟩⟩)
          clear hfv hc3
          by_cases hk0 : k = 0
          · have zk : decide ((k : Int) > 0) = false := decide_eq_false (by omega)
            clear hk0 z1' hc
            have zk2 : decide (0 < k) = false := by simpa using zk
            go_wp2_with (at_builtin; refine wpList_append_own _ rfl _ _ 32 rfl w2.heap.size 37 isp (.agg #[.int .u64 0, .int .u32 0, .int .u64 0]) 3 24 Try.underlying32 hi hz0 hz1 hz2 rfl (by decide) _ k (flatR encS L) rfl (World.ownsRow.alloc (World.ownsRow.alloc (World.ownsRow.alloc HO.out _) _) _) _ 1 1 (encS (0, 0, fv % 4611686018427387904)) rfl rfl ?c1 ?c2 ?c3 ?c4 ?c5 ?_)
            case c1 =>
              intro j u hj
              rw [addN]
              exact cellN (by simp) (by simpa [encS] using hj)
            case c2 => exact encS_ok.one _
            case c3 => unfold maxLen; omega
            case c4 => omega
            case c5 => exact (Below.allocS (Below.allocS (Below.allocS HB.out _) _) _).size
            intro v' w8 hown8 hgrow8 _
            have hb8 : Below w2.heap.size w2 w8 := (Below.allocS (Below.allocS (Below.allocS HB.out _) _) _).grown hgrow8 (Below.allocS (Below.allocS (Below.allocS HB.out _) _) _).size (fun j e => (HO.out.lt j e).1)
            have HW8 := Lib.hid (show w8.ownsRow w2.heap.size 37 3 v' (k + 1) (flatR encS (L ++ [(0, 0, fv % 4611686018427387904)])) by rw [flatR_app]; simpa [flatR] using hown8)
            have HB8 := Lib.hid hb8
            clear hown8 hgrow8 hb8
            go_wp2_with fail
            go_roundw
            case rel => exact ⟨k + 1, L ++ [(0, 0, fv % 4611686018427387904)], by omega, by go_num, HL.out.snoc HSP.out, HW8.out, HB8.out⟩
            case measure => simp [intOf]; omega
          · have hl2 : ¬ k < l2 := fun q => hc ⟨by omega, q⟩
            have zk : decide ((k : Int) > 0) = true := decide_eq_true (by omega)
            have zk2 : decide ((k : Int) < (l2 : Int)) = false := decide_eq_false (by omega)
            go_wp2_with (at_builtin; refine wpList_append_own _ rfl _ _ 32 rfl w2.heap.size 37 isp (.agg #[.int .u64 0, .int .u32 0, .int .u64 0]) 3 24 Try.underlying32 hi hz0 hz1 hz2 rfl (by decide) _ k (flatR encS L) rfl (World.ownsRow.alloc (World.ownsRow.alloc (World.ownsRow.alloc HO.out _) _) _) _ 1 1 (encS (0, 0, fv % 4611686018427387904)) rfl rfl ?c1 ?c2 ?c3 ?c4 ?c5 ?_)
            case c1 =>
              intro j u hj
              rw [addN]
              exact cellN (by simp) (by simpa [encS] using hj)
            case c2 => exact encS_ok.one _
            case c3 => unfold maxLen; omega
            case c4 => omega
            case c5 => exact (Below.allocS (Below.allocS (Below.allocS HB.out _) _) _).size
            intro v' w8 hown8 hgrow8 _
            have hb8 : Below w2.heap.size w2 w8 := (Below.allocS (Below.allocS (Below.allocS HB.out _) _) _).grown hgrow8 (Below.allocS (Below.allocS (Below.allocS HB.out _) _) _).size (fun j e => (HO.out.lt j e).1)
            have HW8 := Lib.hid (show w8.ownsRow w2.heap.size 37 3 v' (k + 1) (flatR encS (L ++ [(0, 0, fv % 4611686018427387904)])) by rw [flatR_app]; simpa [flatR] using hown8)
            have HB8 := Lib.hid hb8
            clear hown8 hgrow8 hb8
            go_wp2_with fail
            go_roundw
            case rel => exact ⟨k + 1, L ++ [(0, 0, fv % 4611686018427387904)], by omega, by go_num, HL.out.snoc HSP.out, HW8.out, HB8.out⟩
            case measure => simp [intOf]; omega
        · have HSP := HMW
          have zf : decide ((k : Int) < (l3 : Int)) = false := decide_eq_false (by omega)
          by_cases hk0 : k = 0
          · have zk : decide ((k : Int) > 0) = false := decide_eq_false (by omega)
            clear hk0 z1' hc
            have zk2 : decide (0 < k) = false := by simpa using zk
            go_wp2_with (at_builtin; refine wpList_append_own _ rfl _ _ 32 rfl w2.heap.size 37 isp (.agg #[.int .u64 0, .int .u32 0, .int .u64 0]) 3 24 Try.underlying32 hi hz0 hz1 hz2 rfl (by decide) _ k (flatR encS L) rfl (World.ownsRow.alloc (World.ownsRow.alloc (World.ownsRow.alloc HO.out _) _) _) _ 1 1 (encS (0, 0, 0)) rfl rfl ?c1 ?c2 ?c3 ?c4 ?c5 ?_)
            case c1 =>
              intro j u hj
              rw [addN]
              exact cellN (by simp) (by simpa [encS] using hj)
            case c2 => exact encS_ok.one _
            case c3 => unfold maxLen; omega
            case c4 => omega
            case c5 => exact (Below.allocS (Below.allocS (Below.allocS HB.out _) _) _).size
            intro v' w8 hown8 hgrow8 _
            have hb8 : Below w2.heap.size w2 w8 := (Below.allocS (Below.allocS (Below.allocS HB.out _) _) _).grown hgrow8 (Below.allocS (Below.allocS (Below.allocS HB.out _) _) _).size (fun j e => (HO.out.lt j e).1)
            have HW8 := Lib.hid (show w8.ownsRow w2.heap.size 37 3 v' (k + 1) (flatR encS (L ++ [(0, 0, 0)])) by rw [flatR_app]; simpa [flatR] using hown8)
            have HB8 := Lib.hid hb8
            clear hown8 hgrow8 hb8
            go_wp2_with fail
            go_roundw
            case rel => exact ⟨k + 1, L ++ [(0, 0, 0)], by omega, by go_num, HL.out.snoc HSP.out, HW8.out, HB8.out⟩
            case measure => simp [intOf]; omega
          · have hl2 : ¬ k < l2 := fun q => hc ⟨by omega, q⟩
            have zk : decide ((k : Int) > 0) = true := decide_eq_true (by omega)
            have zk2 : decide ((k : Int) < (l2 : Int)) = false := decide_eq_false (by omega)
            go_wp2_with (at_builtin; refine wpList_append_own _ rfl _ _ 32 rfl w2.heap.size 37 isp (.agg #[.int .u64 0, .int .u32 0, .int .u64 0]) 3 24 Try.underlying32 hi hz0 hz1 hz2 rfl (by decide) _ k (flatR encS L) rfl (World.ownsRow.alloc (World.ownsRow.alloc (World.ownsRow.alloc HO.out _) _) _) _ 1 1 (encS (0, 0, 0)) rfl rfl ?c1 ?c2 ?c3 ?c4 ?c5 ?_)
            case c1 =>
              intro j u hj
              rw [addN]
              exact cellN (by simp) (by simpa [encS] using hj)
            case c2 => exact encS_ok.one _
            case c3 => unfold maxLen; omega
            case c4 => omega
            case c5 => exact (Below.allocS (Below.allocS (Below.allocS HB.out _) _) _).size
            intro v' w8 hown8 hgrow8 _
            have hb8 : Below w2.heap.size w2 w8 := (Below.allocS (Below.allocS (Below.allocS HB.out _) _) _).grown hgrow8 (Below.allocS (Below.allocS (Below.allocS HB.out _) _) _).size (fun j e => (HO.out.lt j e).1)
            have HW8 := Lib.hid (show w8.ownsRow w2.heap.size 37 3 v' (k + 1) (flatR encS (L ++ [(0, 0, 0)])) by rw [flatR_app]; simpa [flatR] using hown8)
            have HB8 := Lib.hid hb8
            clear hown8 hgrow8 hb8
            go_wp2_with fail
            go_roundw
            case rel => exact ⟨k + 1, L ++ [(0, 0, 0)], by omega, by go_num, HL.out.snoc HSP.out, HW8.out, HB8.out⟩
            case measure => simp [intOf]; omega
    · obtain rfl : k = n := by omega
      have z0 : decide ((k : Int) < (k : Int)) = false := decide_eq_false (by omega)
      have hkn : k = Gs.length := HN.out
      have hL2 : SpsOk Gs L Gs.length := by rw [← hkn]; exact hL
      have HLO := Lib.hid (hL2.lay HRI.out)
      have hll : L.length = k := hL.len
      have hV := own_heldR encS_ok HO.out hll.symm rfl (F := F) (fun b hb' => HT.out.lt b hb')
      have A3 := pLay_at _ L wr (HT.out.below hb) hV hL2.fit
      rw [(lay_does HLO.out).1, (lay_does HLO.out).2] at A3
      have HV := Lib.hid hV
      replace A3 := Lib.hid A3
      clear hV hL hown
      go_wp2_with fail
      refine A3.out.mono ?_; clear A3; rintro e w4 ⟨rfl, F4, hT4, s4⟩
      have HV4 := Lib.hid (HV.out.step s4.kept s4.new)
      have HT4 := Lib.hid hT4
      have hq := (s4.below (B := w.heap.size) (fun b hb' => by have := HF.out b hb'; have := HOG.out.lt bgs rfl; omega) (Nat.le_trans HB2.out.size hb.size))
      have HB4 := Lib.hid (Below.step HB2.out hb |>.trans hq.1)
      have HF4 := Lib.hid hq.2
      obtain ⟨ax, cs, hvs, hc1, hc2, hc3, hc4⟩ := HV4.out
      obtain ⟨bs, off, rfl, ⟨hbF, hbl⟩, hcs⟩ : ∃ b off, ax = some ⟨b, off, none⟩ ∧ (b ∉ F4 ∧ b < w4.heap.size) ∧ ∀ j u, (flatR encS L)[j]? = some u → w4.cell? ⟨b, off + j, none⟩ = some u := by
        rcases hc4 with q | q
        · rw [q] at hll; simp at hll; omega
        · exact q
      subst hvs
      have HCS := Lib.hid hcs
      have HBF := Lib.hid hbF
      have HLL := Lib.hid hll
      rw [hll] at hc1 ⊢
      have HSC := Lib.hid (fun j hj => spot_cells hcs (k := j) hj)
      have HVX := Lib.hid (show HeldR encS F4 w4 (.slice (some ⟨bs, off, none⟩) k cs) L from by have := HV4.out; rw [hll] at this; exact this)
      have HFIT := Lib.hid hL2.fit
      clear hcs hc3 hc4 hT4 s4 hq hbF hkn hL2 hll
      have hk0 : 0 < k := hpos
      go_wp2_with fail
      go_loopw [100] (fun i wx => ∃ j : Nat, j ≤ k ∧ i = .int .i64 j ∧ Below w4.heap.size w4 wx) (fun i _ => k - (intOf i).toNat)
      case atStart => exact ⟨0, Nat.zero_le _, rfl, Below.refl _ _⟩
      case round =>
        obtain ⟨j, hj, rfl, hbj⟩ := hrel
        by_cases hjl : j < k
        · have hji : (j : Int) < (k : Int) := by omega
          have y0 : decide ((j : Int) < (k : Int)) = true := decide_eq_true hji
          have hjg : j < Gs.length := by rw [← HN.out]; exact hjl
          have A5 := pSpot_at (j : Int) wr (HT4.out.below hbj)
          rw [(lay_told HLO.out hjg).1, (lay_told HLO.out hjg).2] at A5
          dsimp only at A5
          replace A5 := Lib.hid A5
          obtain ⟨x0, x1, x2⟩ := spot_cells HCS.out (k := j) (by rw [HLL.out]; exact hjl)
          replace x0 := cell_later hbj x0
          replace x1 := cell_later hbj x1
          replace x2 := cell_later hbj x2
          have HBJ := Lib.hid hbj
          obtain ⟨⟨vv, rr, ff⟩, hvv⟩ : ∃ x, x = L[j]! := ⟨_, rfl⟩
          rw [← hvv] at A5 x0 x1 x2
          dsimp only at A5 x0 x1 x2
          clear hbj hjg hvv
          go_wp2_with fail
          refine A5.out.mono ?_; clear A5; rintro e w5 ⟨rfl, hb5⟩
          have hb6 := Below.allocS hb5 (.cells #[.int .u64 vv, .int .u32 rr, .int .u64 ff] 37)
          have y1 := cell_nw w5 #[.int .u64 vv, .int .u32 rr, .int .u64 ff] 37 0 _ rfl
          have y2 := cell_nw w5 #[.int .u64 vv, .int .u32 rr, .int .u64 ff] 37 1 _ rfl
          have y3 := cell_nw w5 #[.int .u64 vv, .int .u32 rr, .int .u64 ff] 37 2 _ rfl
          replace x0 := cell_later hb6 x0
          replace x1 := cell_later hb6 x1
          replace x2 := cell_later hb6 x2
          have HB6 := Lib.hid (Below.step HBJ.out hb6)
          clear hb5 hb6
          have ye := eqS_same vv rr ff
          go_wp2_with fail
          go_quiet (fail)
          go_wp2_with fail
          go_roundw
          case rel => exact ⟨j + 1, by omega, by go_num, below_drewN HB6.out _⟩
          case measure => simp [intOf]; omega
        · obtain rfl : j = k := by omega
          have y0 : decide ((j : Int) < (j : Int)) = false := decide_eq_false (by omega)
          have HBJ := Lib.hid hbj
          have hjG : j = Gs.length := HN.out
          obtain ⟨gn, hgn⟩ : ∃ g : Nat, g = a4.toNat % j := ⟨_, rfl⟩
          have hgl : gn < Gs.length := by rw [← hjG, hgn]; exact Nat.mod_lt _ (by omega)
          have ha4 := G4.out
          have hmod : Int.tmod a4 (j : Int) = (gn : Int) := by
            rw [Int.tmod_eq_emod_of_nonneg ha4.1, hgn]
            push_cast
            rw [show ((a4.toNat : Nat) : Int) = a4 by omega]
          have w1' : IntKind.i64.wrap a4 = a4 := IntWalk.i64_in _ (by omega)
          have w2' : IntKind.i64.wrap (gn : Int) = (gn : Int) := IntWalk.i64_in _ (by omega)
          obtain ⟨q1, q2, st2, q3, q4, q5, q6, q7⟩ := lay_spawn HLO.out hgl
          have A6 := pSpawn_at 9 (gn : Int) 1 wr (HT4.out.below hbj) rfl (wfI (by omega) (by omega)) rfl
          rw [q1, q2, q3] at A6
          dsimp only at A6
          replace A6 := Lib.hid A6
          have Q4 := Lib.hid q4
          have Q5 := Lib.hid q5
          have Q7 := Lib.hid q7
          have HJG := Lib.hid hjG
          have HGL := Lib.hid hgl
          obtain ⟨x0, x1, x2⟩ := spot_cells HCS.out (k := gn) (by rw [HLL.out, hjG]; exact hgl)
          obtain ⟨ff, hff⟩ : ∃ x, x = (L[gn]!).2.2 := ⟨_, rfl⟩
          rw [← hff] at A6 x2
          clear hff
          have X2 := Lib.hid (cell_later hbj x2)
          have hjz : ((j : Int) = 0) = False := by simp; omega
          have hgji : (gn : Int) < (j : Int) := by omega
          clear hbj x0 x1 x2 q1 q2 q3 q4 q5 q6 q7 hgn ha4 hjG
          go_wp2_with fail
          refine A6.out.mono ?_; clear A6; rintro e w6 ⟨rfl, F6, hT6, s6⟩
          have HT6 := Lib.hid hT6
          have HB6 := Lib.hid (s6.below (B := w.heap.size) (fun b hb' => by
            have := (HB4.out.size)
            exact HF4.out b hb') (Nat.le_trans HB4.out.size HBJ.out.size))
          have nb6 := s6.off HBF.out (Nat.lt_of_lt_of_le (show bs < w4.heap.size from hbl) HBJ.out.size)
          have x2 := s6.cell HBF.out X2.out
          have hV6 := (HVX.out.later (F := F4) HBJ.out).step s6.kept s6.new
          have hbs6 : bs < w6.heap.size := Nat.lt_of_lt_of_le hbl (Nat.le_trans HBJ.out.size s6.kept.size)
          have HLC := Lib.hid (fun (j : Nat) (hj : j < L.length) => And.intro (s6.cell HBF.out (cell_later HBJ.out (HSC.out j hj).1)) (And.intro (s6.cell HBF.out (cell_later HBJ.out (HSC.out j hj).2.1)) (s6.cell HBF.out (cell_later HBJ.out (HSC.out j hj).2.2))))
          have NB6 := Lib.hid nb6
          clear hT6 s6
          go_wp2_with fail
          refine wp_world (fun W7 hW7 => ?_)
          have hb7 : Below w6.heap.size w6 W7 := by rw [hW7]; exact below_a _ _
          obtain ⟨b7, hb7n⟩ : ∃ b, b = w6.heap.size := ⟨_, rfl⟩
          have y0 : W7.cell? ⟨b7, 0, none⟩ = some (.int .u64 ff) := by rw [hW7]; exact cell_nwE hb7n _ _ 0 _ rfl
          replace x2 := cell_later hb7 x2
          have ny : b7 ∉ F6 := fun m => by have := HT6.out.lt _ m; omega
          have A7 := pLay_at _ L W7.drew ((HT6.out.below hb7).below (Below.refl _ _).drew) ((hV6.later hb7).later (Below.refl W7.heap.size W7).drew) HFIT.out
          rw [Q4.out] at A7
          replace A7 := Lib.hid A7
          rw [← hb7n]
          have HB7 := Lib.hid hb7
          have HBN := Lib.hid hb7n
          have V6 := Lib.hid hV6
          clear hW7 hb7 hb7n hV6
          have hS0 : Kept F6 W7 W7.drew ∧ W7.drew.cell? ⟨b7, 0, none⟩ = some (.int .u64 ff) ∧ W7.drew.cell? ⟨bs, off + gn * 3 + 2, none⟩ = some (.int .u64 ff) := ⟨Kept.drew (Kept.refl _ _), cell_dr y0, cell_dr x2⟩
          refine wp_region_held_drew (S := fun w' => Kept F6 W7 w' ∧ w'.cell? ⟨b7, 0, none⟩ = some (.int .u64 ff) ∧ w'.cell? ⟨bs, off + gn * 3 + 2, none⟩ = some (.int .u64 ff)) (by kernel_rfl) hS0 (fun hHeld => ?_)
          refine takeH (i := 0) (v := ?v0_274) rfl (by kernel_rfl) (fun _ _ _ h => h) (by rfl) ?hy0_274 (by assumption) ?rest0_274
          case hy0_274 => (intro w hSw; (try dsimp only at hSw); go_simp; try with_reducible rfl)
          try simp only [Act.put, List.setIfInBounds_toArray, List.set_cons_zero, List.set_cons_succ]
          refine takeH (i := 1) (v := ?v1_275) rfl (by kernel_rfl) (fun _ _ _ h => h) (by rfl) ?hy1_275 (by assumption) ?rest1_275
          case hy1_275 => (intro w hSw; (try dsimp only at hSw); go_simp; try with_reducible rfl)
          try simp only [Act.put, List.setIfInBounds_toArray, List.set_cons_zero, List.set_cons_succ]
          refine takeH (i := 2) (v := ?v2_276) rfl (by kernel_rfl) (fun _ _ _ h => h) (by rfl) ?hy2_276 (by assumption) ?rest2_276
          case hy2_276 => (intro w hSw; (try dsimp only at hSw); go_simp; try with_reducible rfl)
          try simp only [Act.put, List.setIfInBounds_toArray, List.set_cons_zero, List.set_cons_succ]
          refine takeH (i := 3) (v := ?v3_277) rfl (by kernel_rfl) (fun _ _ _ h => h) (by rfl) ?hy3_277 (by assumption) ?rest3_277
          case hy3_277 => (intro w hSw; (try dsimp only at hSw); go_simp; try with_reducible rfl)
          try simp only [Act.put, List.setIfInBounds_toArray, List.set_cons_zero, List.set_cons_succ]
          refine takeH (i := 4) (v := ?v4_278) rfl (by kernel_rfl) (fun _ _ _ h => h) (by rfl) ?hy4_278 (by assumption) ?rest4_278
          case hy4_278 => (intro w hSw; (try dsimp only at hSw); go_simp; try with_reducible rfl)
          try simp only [Act.put, List.setIfInBounds_toArray, List.set_cons_zero, List.set_cons_succ]
          refine takeH (i := 5) (v := ?v5_279) rfl (by kernel_rfl) (fun _ _ _ h => h) (by rfl) ?hy5_279 (by assumption) ?rest5_279
          case hy5_279 => (intro w hSw; (try dsimp only at hSw); go_simp; try with_reducible rfl)
          try simp only [Act.put, List.setIfInBounds_toArray, List.set_cons_zero, List.set_cons_succ]
          refine takeH (i := 6) (v := ?v6_280) rfl (by kernel_rfl) (fun _ _ _ h => h) (by rfl) ?hy6_280 (by assumption) ?rest6_280
          case hy6_280 => (intro w hSw; (try dsimp only at hSw); go_simp; try with_reducible rfl)
          try simp only [Act.put, List.setIfInBounds_toArray, List.set_cons_zero, List.set_cons_succ]
          refine takeH (i := 7) (v := ?v7_281) rfl (by kernel_rfl) (fun _ _ _ h => h) (by rfl) ?hy7_281 (by assumption) ?rest7_281
          case hy7_281 => (intro w hSw; (try dsimp only at hSw); go_simp; try with_reducible rfl)
          try simp only [Act.put, List.setIfInBounds_toArray, List.set_cons_zero, List.set_cons_succ]
          refine takeH (i := 8) (v := ?v8_282) rfl (by kernel_rfl) (fun _ _ _ h => h) (by rfl) ?hy8_282 (by assumption) ?rest8_282
          case hy8_282 => (intro w hSw; (try dsimp only at hSw); go_simp; try with_reducible rfl)
          try simp only [Act.put, List.setIfInBounds_toArray, List.set_cons_zero, List.set_cons_succ]
          refine takeH (i := 9) (v := ?v9_283) rfl (by kernel_rfl) (fun _ _ _ h => h) (by rfl) ?hy9_283 (by assumption) ?rest9_283
          case hy9_283 => (intro w hSw; (try dsimp only at hSw); go_simp; try with_reducible rfl)
          try simp only [Act.put, List.setIfInBounds_toArray, List.set_cons_zero, List.set_cons_succ]
          refine takeH (i := 10) (v := ?v10_284) rfl (by kernel_rfl) (fun _ _ _ h => h) (by rfl) ?hy10_284 (by assumption) ?rest10_284
          case hy10_284 => (intro w hSw; (try dsimp only at hSw); go_simp; try with_reducible rfl)
          try simp only [Act.put, List.setIfInBounds_toArray, List.set_cons_zero, List.set_cons_succ]
          refine takeH (i := 11) (v := ?v11_285) rfl (by kernel_rfl) (fun _ _ _ h => h) (by rfl) ?hy11_285 (by assumption) ?rest11_285
          case hy11_285 => (intro w hSw; (try dsimp only at hSw); go_simp; try with_reducible rfl)
          try simp only [Act.put, List.setIfInBounds_toArray, List.set_cons_zero, List.set_cons_succ]
          refine takeH (i := 12) (v := ?v12_286) rfl (by kernel_rfl) (fun _ _ _ h => h) (by rfl) ?hy12_286 (by assumption) ?rest12_286
          case hy12_286 => (intro w hSw; (try dsimp only at hSw); go_simp; try with_reducible rfl)
          try simp only [Act.put, List.setIfInBounds_toArray, List.set_cons_zero, List.set_cons_succ]
          refine takeH (i := 13) (v := ?v13_287) rfl (by kernel_rfl) (fun _ _ _ h => h) (by rfl) ?hy13_287 (by assumption) ?rest13_287
          case hy13_287 => (intro w hSw; (try dsimp only at hSw); go_simp; try with_reducible rfl)
          try simp only [Act.put, List.setIfInBounds_toArray, List.set_cons_zero, List.set_cons_succ]
          refine takeH (i := 14) (v := ?v14_288) rfl (by kernel_rfl) (fun _ _ _ h => h) (by rfl) ?hy14_288 (by assumption) ?rest14_288
          case hy14_288 => (intro w hSw; (try dsimp only at hSw); go_simp; try with_reducible rfl)
          try simp only [Act.put, List.setIfInBounds_toArray, List.set_cons_zero, List.set_cons_succ]
          refine wpAnyH_ready (rs := [15]) (by kernel_rfl) (by simp) ?_
          refine consH rfl (fun K hK => ?_) (AllReadyH.nil)
          go_simp
          refine A7.out.mono ?_
          rintro e w8 ⟨rfl, F8, hT8, s8⟩
          have hk8 : Kept F6 W7.drew w8 := s8.kept
          go_wp2_with fail
          refine hK.out _ _ ?_ (fun hHeld15 => ?_)
          · (first | assumption | (refine heldK_2 (by assumption) ?_ (by assumption) (by assumption) ; assumption) | (refine heldK_2 (Kept.of (below_ad _ _)) ?_ (by assumption) (by assumption) ; assumption) | (refine heldK_2 (Kept.of (below_a _ _)) ?_ (by assumption) (by assumption) ; assumption))
          clear hK K
          try simp only [Act.put, List.setIfInBounds_toArray, List.set_cons_zero, List.set_cons_succ]
          refine takeH (i := 16) (v := ?v16_289) rfl (by kernel_rfl) (fun _ _ _ h => h) (by rfl) ?hy16_289 (by assumption) ?rest16_289
          case hy16_289 => (intro w hSw; (try dsimp only at hSw); go_simp; try with_reducible rfl)
          try simp only [Act.put, List.setIfInBounds_toArray, List.set_cons_zero, List.set_cons_succ]
          refine takeH (i := 17) (v := ?v17_290) rfl (by kernel_rfl) (fun _ _ _ h => h) (by rfl) ?hy17_290 (by assumption) ?rest17_290
          case hy17_290 => (intro w hSw; (try dsimp only at hSw); go_simp; try with_reducible rfl)
          try simp only [Act.put, List.setIfInBounds_toArray, List.set_cons_zero, List.set_cons_succ]
          refine wpAnyH_done (by kernel_rfl) ?_ _
          skip
          have hS8 : playS st2 L = st2 := by unfold playS; rw [Q4.out]; rfl
          rw [hS8] at hT8
          have nb8 := s8.off NB6.out (Nat.lt_of_lt_of_le hbs6 HB7.out.size)
          have HLC8 := Lib.hid (fun (j : Nat) (hj : j < L.length) => And.intro (s8.cell NB6.out (cell_dr (cell_later HB7.out (HLC.out j hj).1))) (And.intro (s8.cell NB6.out (cell_dr (cell_later HB7.out (HLC.out j hj).2.1))) (s8.cell NB6.out (cell_dr (cell_later HB7.out (HLC.out j hj).2.2)))))
          have hb7d : Below w6.heap.size w6 W7.drew := HB7.out.drew
          have hBw7 : Below w.heap.size w W7.drew := (Below.step (Below.step HB4.out HBJ.out |>.trans HB6.out.1) HB7.out).drew
          have HB8 := Lib.hid (s8.below (B := w.heap.size) (fun b hb' => HB6.out.2 b hb') hBw7.size)
          have HBW8 := Lib.hid (hBw7.trans HB8.out.1)
          have A8 := pLeave_at 9 w8 hT8 rfl
          rw [Q5.out] at A8
          replace A8 := Lib.hid A8
          have NB8 := Lib.hid nb8
          have hbs8 : bs < w8.heap.size := Nat.lt_of_lt_of_le hbs6 (Nat.le_trans HB7.out.size s8.kept.size)
          clear hS0 hHeld hk8 s8 hT8 hS8 nb8 hb7d hBw7 y0 x2 ny
          go_wp2_with fail
          refine A8.out.mono ?_; clear A8; rintro e w10 ⟨rfl, F10, hT10, s10⟩
          have HLC10 := Lib.hid (fun (j : Nat) (hj : j < L.length) => And.intro (s10.cell NB8.out (HLC8.out j hj).1) (And.intro (s10.cell NB8.out (HLC8.out j hj).2.1) (s10.cell NB8.out (HLC8.out j hj).2.2)))
          have HBW10 := Lib.hid (HBW8.out.trans (s10.below (B := w.heap.size) (fun b hb' => HB8.out.2 b hb') HBW8.out.size).1)
          have HT10 := Lib.hid hT10
          clear hT10 s10
          go_wp2_with fail
          go_loopw [156] (fun i wx => ∃ h : Nat, h ≤ j ∧ i = .int .i64 h ∧ Below w10.heap.size w10 wx) (fun i _ => j - (intOf i).toNat)
          case atStart => exact ⟨0, Nat.zero_le _, rfl, Below.refl _ _⟩
          case round =>
            obtain ⟨h, hh, rfl, hbh⟩ := hrel
            by_cases hhl : h < j
            · have hhi : (h : Int) < (j : Int) := by omega
              have y0 : decide ((h : Int) < (j : Int)) = true := decide_eq_true hhi
              have hhg : h < Gs.length := by rw [← HJG.out]; exact hhl
              obtain ⟨fz, v1, v2, v3⟩ := Q7.out h hhg
              have A9 := pSpot_at (h : Int) wr (HT10.out.below hbh)
              rw [v1, v2] at A9
              dsimp only at A9
              obtain ⟨x0, x1, x2⟩ := HLC10.out h (by rw [HLL.out]; exact hhl)
              replace x0 := cell_later hbh x0
              replace x1 := cell_later hbh x1
              replace x2 := cell_later hbh x2
              have HBH := Lib.hid hbh
              obtain ⟨⟨vv, rr, fq⟩, hvv⟩ : ∃ x, x = L[h]! := ⟨_, rfl⟩
              rw [← hvv] at A9 x0 x1 x2 v3
              dsimp only at A9 x0 x1 x2 v3
              replace A9 := Lib.hid A9
              have e1 : (vv != vv) = false := by simp
              have e2 : (rr != rr) = false := by simp
              have e3 : decide (fz < fq) = false := decide_eq_false (by omega)
              have e4 : ¬ fz < fq := by omega
              clear hbh hhg hvv v1 v2 v3
              go_wp2_with fail
              refine A9.out.mono ?_; clear A9; rintro e w11 ⟨rfl, hb11⟩
              have hb12 := Below.allocS hb11 (.cells #[.int .u64 vv, .int .u32 rr, .int .u64 fz] 37)
              have y1 := cell_nw w11 #[.int .u64 vv, .int .u32 rr, .int .u64 fz] 37 0 _ rfl
              have y2 := cell_nw w11 #[.int .u64 vv, .int .u32 rr, .int .u64 fz] 37 1 _ rfl
              have y3 := cell_nw w11 #[.int .u64 vv, .int .u32 rr, .int .u64 fz] 37 2 _ rfl
              replace x0 := cell_later hb12 x0
              replace x1 := cell_later hb12 x1
              replace x2 := cell_later hb12 x2
              have HB12 := Lib.hid (Below.step HBH.out hb12)
              clear hb11 hb12
              go_wp2_with fail
              go_quiet (fail)
              go_wp2_with fail
              go_roundw
              case rel => exact ⟨h + 1, by omega, by go_num, below_drewN HB12.out _⟩
              case measure => simp [intOf]; omega
            · obtain rfl : h = j := by omega
              have y0 : decide ((h : Int) < (h : Int)) = false := decide_eq_false (by omega)
              have HBH := Lib.hid hbh
              have A10 := Lib.hid awake_at
              clear hbh
              go_wp2_with fail
              refine (A10.out _).mono ?_; rintro e w12 ⟨rfl, hb12⟩
              go_wp2_with fail
              go_ret
              exact ⟨rfl, Below.step (Below.step HBW10.out HBH.out) hb12⟩
end Go.Proofs.Ytfgmglghlapbcaa
