/-
  The walk of SchedViews.
-/
import Derived.Test.YtapnaocdehahdaaGreatStC
import Derived.Test.YtapnaocdehahdaaGreatStB
namespace Go.Proofs.YtapnaocdehahdaaGreat
open Go.RowKit Go.Maps Go.IntWalk Go.Lib
set_option linter.unusedVariables false
set_option linter.unusedSimpArgs false
set_option maxRecDepth 100000 in
set_option maxHeartbeats 8000000 in
theorem SchedViews_true (a0_0 : Int) (a0_1 : Int) (a0_2 : Int) (a0_3 : Int) (a0_4 : Int) (a0_5 : Int) (a0_6 : Int) (a0_7 : Int) (a0_8 : Int) (a0_9 : Int) (a0_10 : Int) (a0_11 : Int) (a0_12 : Int) (s1 : Option Addr) (l1 c1 : Nat) (F1 : Nat → Nat → Value) (a2 : Int) (w : World) (g0_0 : (Lit.int .u8 a0_0).wf = true) (g0_1 : (Lit.int .u8 a0_1).wf = true) (g0_2 : (Lit.int .u32 a0_2).wf = true) (g0_3 : (Lit.int .u8 a0_3).wf = true) (g0_4 : (Lit.int .u8 a0_4).wf = true) (g0_5 : (Lit.int .u8 a0_5).wf = true) (g0_6 : (Lit.int .u8 a0_6).wf = true) (g0_7 : (Lit.int .u8 a0_7).wf = true) (g0_8 : (Lit.int .u16 a0_8).wf = true) (g0_9 : (Lit.int .u16 a0_9).wf = true) (g0_10 : (Lit.int .u16 a0_10).wf = true) (g0_11 : (Lit.int .u16 a0_11).wf = true) (g0_12 : (Lit.int .u16 a0_12).wf = true) (g2 : (Lit.int .i64 a2).wf = true) (r1 : PlainRow scK w s1 l1 c1 F1) :
    Calls Tryz.prog 5 #[.agg #[.int .u8 a0_0, .int .u8 a0_1, .int .u32 a0_2, .int .u8 a0_3, .int .u8 a0_4, .int .u8 a0_5, .int .u8 a0_6, .int .u8 a0_7, .int .u16 a0_8, .int .u16 a0_9, .int .u16 a0_10, .int .u16 a0_11, .int .u16 a0_12], .slice s1 l1 c1, .int .i64 a2] w fun e w' => e = .returned (.bool true) ∧ Below w.heap.size w w' := by
  have A1 := Lib.hid fun W => Made5 a0_0 a0_1 a0_2 a0_3 a0_4 a0_5 a0_6 a0_7 a0_8 a0_9 a0_10 a0_11 a0_12 W (wf_u8 g0_0) (wf_u8 g0_1) (xf32 g0_2) ⟨wf_u8 g0_3, wf_u8 g0_4, wf_u8 g0_5, wf_u8 g0_6, wf_u8 g0_7⟩ ⟨xf16 g0_8, xf16 g0_9, xf16 g0_10, xf16 g0_11, xf16 g0_12⟩
  have AW := Lib.hid sawake_at
  have R1 := Lib.hid r1
  have G2 := Lib.hid g2
  obtain ⟨id, hid⟩ : ∃ id, id = a2 := ⟨_, rfl⟩
  rw [← hid] at G2 ⊢
  clear r1 g0_0 g0_1 g0_2 g0_3 g0_4 g0_5 g0_6 g0_7 g0_8 g0_9 g0_10 g0_11 g0_12 g2 hid
  obtain ⟨ii, qi, qz0, qz1, qz2⟩ := info_parts infoI
  go_enter Tryz.func5, Tryz.ntmps5
  go_wp2_with fail
  refine (A1.out _).mono ?_; clear A1; rintro e w1 ⟨Gs, v, C, cr, rfl, hr, hl6, hC1, hC4, hcr, hown, hb1⟩
  obtain ⟨bg, cg, rfl⟩ := own_pos hown hr.pos
  have hb2 := below_a w1 (.cells #[.int .i64 C, .int .u64 cr, .slice (some ⟨bg, 0, none⟩) Gs.length cg] 37)
  have k0 : (w1.alloc (.cells #[.int .i64 C, .int .u64 cr, .slice (some ⟨bg, 0, none⟩) Gs.length cg] 37)).cell? ⟨w1.heap.size, 0, none⟩ = some (.int .i64 C) := cell_nw w1 _ _ 0 _ rfl
  have k1 : (w1.alloc (.cells #[.int .i64 C, .int .u64 cr, .slice (some ⟨bg, 0, none⟩) Gs.length cg] 37)).cell? ⟨w1.heap.size, 1, none⟩ = some (.int .u64 cr) := cell_nw w1 _ _ 1 _ rfl
  have k2 : (w1.alloc (.cells #[.int .i64 C, .int .u64 cr, .slice (some ⟨bg, 0, none⟩) Gs.length cg] 37)).cell? ⟨w1.heap.size, 2, none⟩ = some (.slice (some ⟨bg, 0, none⟩) Gs.length cg) := cell_nw w1 _ _ 2 _ rfl
  have hb1' := Below.step (below_a w _) hb1
  have A2 := Lib.hid (NewX_at (base := w) (C := C) (cr := cr) (Below.step hb1' hb2) (own_recs encG_ok (own_below hown hb2)) hr ⟨hC1, by omega⟩ ⟨hcr.1, by omega⟩)
  have HC := Lib.hid (show 1 ≤ C ∧ C ≤ 4 from ⟨hC1, hC4⟩)
  have H0 := Lib.hid (SOk.begun (C := C) hr ⟨hC1, by omega⟩ (show 0 ≤ cr ∧ cr ≤ 1099511627776 from ⟨hcr.1, by omega⟩))
  obtain ⟨n, hn⟩ : ∃ n, n = Gs.length := ⟨_, rfl⟩
  obtain ⟨W2, hW2⟩ : ∃ W, W = w1.alloc (.cells #[.int .i64 C, .int .u64 cr, .slice (some ⟨bg, 0, none⟩) Gs.length cg] 37) := ⟨_, rfl⟩
  obtain ⟨bc, hbc⟩ : ∃ b, b = w1.heap.size := ⟨_, rfl⟩
  rw [← hW2] at A2 k0 k1 k2
  rw [← hbc, ← hn] at k2
  rw [← hbc] at k0 k1
  rw [← hn] at A2
  have HW2 := Lib.hid hW2
  have HBC := Lib.hid hbc
  rw [← hn] at HW2
  clear hr hl6 hC1 hC4 hcr hown hb1 hb2 hb1' hW2 hbc
  go_upto_region 2 with fail
  rw [← hn, ← HW2.out, ← HBC.out]
  clear hn
  go_wp2_with fail
  refine A2.out.mono ?_; clear A2; rintro e w3 ⟨x, F0, rfl, hX, hb3, hF⟩
  have NB0 := Lib.hid (show bc ∉ F0 from fun m => by have := hF bc m; have := lt_of_cell k0; omega)
  replace k0 := cell_later hb3 k0
  have A4 := Lib.hid (Script_at s1 l1 c1 100 F1 w3 (srow_later R1.out hX.bel) (by decide))
  have HX := Lib.hid hX
  clear hX hb3 hF HW2 k1 k2
  go_wp2_with fail
  refine A4.out.mono ?_; clear A4; rintro e w6 ⟨v6, all, rfl, hwf, hl2, hown2, hb6⟩
  obtain ⟨m, hm⟩ : ∃ m, m = all.length := ⟨_, rfl⟩
  rw [← hm] at hown2 hl2
  have HV0 := Lib.hid (own_heldS (F := F0) hown2 hm rfl (fun b hb => HX.out.lt b hb))
  obtain ⟨a7, c7, rfl⟩ := own_shapeW hown2
  have HX6 := Lib.hid (HX.out.later hb6)
  have K6 := cell_later hb6 k0
  have HMA := Lib.hid hm
  have WF := Lib.hid hwf
  have hm100 : m ≤ 100 := hl2
  clear hown2 hl2 hwf hm HX k0 hb6
  go_wp2_with fail
  go_loopw [50] (fun iv wr => ∃ (k : Nat) (s : SSt) (F : List Nat), k ≤ m ∧ iv = .int .i64 k ∧ Hid (XW w x s wr F) ∧ Hid (SOk s) ∧ Hid (s.C = C) ∧ Hid (HeldR encOl F wr (.slice a7 m c7) all) ∧ Hid (bc ∉ F) ∧ wr.cell? ⟨bc, 0, none⟩ = some (.int .i64 C)) (fun i _ => m - (intOf i).toNat)
  case atStart => exact ⟨0, _, F0, Nat.zero_le _, rfl, HX6, H0, Lib.hid rfl, HV0, NB0, K6⟩
  case round =>
    clear HX6 HV0 NB0 K6 H0
    obtain ⟨k, s, F, hk, rfl, HX, HO, HCs, HV, NB, kc⟩ := hrel
    by_cases hlt : k < m
    · as_aux_lemma =>
      have hki : (k : Int) < (m : Int) := by omega
      have z1 : decide ((k : Int) < (m : Int)) = true := decide_eq_true hki
      obtain ⟨b7, off, rfl, hcc⟩ : ∃ b off, a7 = some ⟨b, off, none⟩ ∧ ∀ j u, (flatR encOl all)[j]? = some u → wr.cell? ⟨b, off + j, none⟩ = some u := by
        obtain ⟨a, cap, e, _, _, _, q⟩ := HV.out
        cases e
        rcases q with q | ⟨b, off, e, _, hc⟩
        · have h9 : all.length = 0 := by rw [q]; rfl
          have := HMA.out
          omega
        · exact ⟨b, off, e, hc⟩
      have hka : k < all.length := by rw [← HMA.out]; exact hlt
      have hx : all[k]? = some all[k]! := by rw [getElem!_pos all k hka]; exact List.getElem?_eq_getElem hka
      have hcell : ∀ j u, (encOl all[k]!)[j]? = some u → wr.cell? ⟨b7, off + k * 8 + j, none⟩ = some u := fun j u hj => by
        have hj8 : j < 8 := (List.getElem?_eq_some_iff.1 hj).1
        have := hcc (k * 8 + j) u ((flatR_at encOw hx j hj8).trans (by rw [← hj]))
        rwa [← Nat.add_assoc] at this
      have hwfo := WF.out all[k]! (by rw [getElem!_pos all k hka]; exact List.getElem_mem hka)
      obtain ⟨o, ho⟩ : ∃ o, o = all[k]! := ⟨_, rfl⟩
      rw [← ho] at hcell hwfo
      clear hcc hx ho
      have u0 : wr.cell? ⟨b7, off + k * 8 + 0, none⟩ = some (.int .u8 o.kind) := hcell 0 _ rfl
      have u1 : wr.cell? ⟨b7, off + k * 8 + 1, none⟩ = some (.int .i64 o.cpu) := hcell 1 _ rfl
      have u2 : wr.cell? ⟨b7, off + k * 8 + 2, none⟩ = some (.int .i64 o.task) := hcell 2 _ rfl
      have u3 : wr.cell? ⟨b7, off + k * 8 + 3, none⟩ = some (.int .i64 o.group) := hcell 3 _ rfl
      have u4 : wr.cell? ⟨b7, off + k * 8 + 4, none⟩ = some (.int .i64 o.weight) := hcell 4 _ rfl
      have u5 : wr.cell? ⟨b7, off + k * 8 + 5, none⟩ = some (.int .i64 o.dst) := hcell 5 _ rfl
      have u6 : wr.cell? ⟨b7, off + k * 8 + 6, none⟩ = some (.int .i64 o.ticks) := hcell 6 _ rfl
      have u7 : wr.cell? ⟨b7, off + k * 8 + 7, none⟩ = some (.int .u64 o.mask) := hcell 7 _ rfl
      rw [Nat.add_zero] at u0
      obtain ⟨W8, hW8⟩ : ∃ W, W = wr.alloc (.cells (cellsO o) 41) := ⟨_, rfl⟩
      have hb8 : Below wr.heap.size wr W8 := by rw [hW8]; exact below_a _ _
      have B8 : OpBox W8 wr.heap.size o := by rw [hW8]; exact OpBox.new _ _ _
      have H8 := Lib.hid (HX.out.later hb8)
      have V8 := Lib.hid (HV.out.later hb8)
      have K8 := cell_later hb8 kc
      obtain ⟨s', hs'⟩ : ∃ s', s' = (doR s o).2.2 := ⟨_, rfl⟩
      have A5 := DoX_at H8.out.inn HO.out hwfo
      rw [← hs'] at A5
      have HO' := Lib.hid (show SOk s' by rw [hs']; exact HO.out.done hwfo)
      have HC' := Lib.hid (show s'.C = C by rw [hs']; exact (opR_C _ o).trans HCs.out)
      replace A5 := Lib.hid A5
      unfold cellsO at hW8
      have HW8 := Lib.hid hW8
      obtain ⟨b8, hb8e⟩ : ∃ b, b = wr.heap.size := ⟨_, rfl⟩
      rw [← hb8e] at B8
      have HB8E := Lib.hid hb8e
      have q0 := B8.c0
      have q1 := B8.c1
      have q2 := B8.c2
      have q3 := B8.c3
      have q4 := B8.c4
      have q5 := B8.c5
      have q6 := B8.c6
      have q7 := B8.c7
      unfold encO at A5
      clear hcell hwfo hW8 hb8 hs' hb8e B8 HX HV kc hka
      go_upto_region 8 with fail
      rw [← HW8.out, ← HB8E.out]
      clear u0 u1 u2 u3 u4 u5 u6 u7
      go_wp2_with fail
      refine A5.out.mono ?_; clear A5; rintro e w9 ⟨rfl, hA⟩
      obtain ⟨F9, x9, t9⟩ := H8.out.step hA
      have H9 := Lib.hid (show XW w x s' w9 F9 from x9)
      have kc' := t9.cell NB.out K8
      have NB9 := Lib.hid (t9.off NB.out (lt_of_cell K8))
      have V9 := Lib.hid (V8.out.step t9.kept t9.new)
      clear hA x9 t9 q0 q1 q2 q3 q4 q5 q6 q7 K8 H8 V8
      go_wp2_with fail
      go_roundw
      case rel => exact ⟨k + 1, s', F9, by omega, by go_num, H9, HO', HC', V9, NB9, kc'⟩
      case measure => simp [intOf]; omega
    · obtain rfl : m = k := by omega
      have z1 : decide ((m : Int) < (m : Int)) = false := decide_eq_false (by omega)
      obtain rfl : s.C = C := HCs.out
      have hC64 : s.C ≤ 64 := HO.out.cpus.2
      have AS := Lib.hid (StateX_at HX.out.inn HO.out HX.out.lt)
      obtain ⟨w10, rfl⟩ : ∃ W : World, W = wr := ⟨_, rfl⟩
      clear HV HMA WF
      go_wp2_with fail
      refine AS.out.mono ?_; clear AS; rintro e w11 ⟨d0, k0, d1, k1, d2, k2, d3, k3, d4, k4, rfl, hSt, hb11⟩
      obtain ⟨W12, hW12⟩ : ∃ W, W = w11.alloc (.cells #[.int .i64 s.C, .int .u64 s.cr, .slice d0 s.n k0, .slice d1 s.C k1, .slice d2 s.C k2, .slice d3 s.c k3, .slice d4 s.n k4] 46) := ⟨_, rfl⟩
      have hb12 := Below.step hb11 (show Below w11.heap.size w11 W12 by rw [hW12]; exact below_a _ _)
      have T12 := Lib.hid (show StB W12 w11.heap.size s.C s.cr (.slice d0 s.n k0) (.slice d1 s.C k1) (.slice d2 s.C k2) (.slice d3 s.c k3) (.slice d4 s.n k4) by rw [hW12]; exact StB.made _ _ _ _ _ _ _ _ _)
      have S12 := Lib.hid (hSt.later (show Below w11.heap.size w11 W12 by rw [hW12]; exact below_a _ _))
      have N12 := Lib.hid (show w11.heap.size ∉ F from fun m => by have := HX.out.lt _ m; have := hb11.size; omega)
      have H12 := Lib.hid (HX.out.later hb12)
      have kc12 := cell_later hb12 kc
      have HW12 := Lib.hid hW12
      obtain ⟨b12, hb12e⟩ : ∃ b, b = w11.heap.size := ⟨_, rfl⟩
      rw [← hb12e] at T12 N12
      have HB12E := Lib.hid hb12e
      have ALn := Lib.hid (LenX_at (H12.out.later (Below.refl _ _).drew).inn HO.out)
      have t1 := T12.out.c3
      have t2 := T12.out.c4
      have t3 := T12.out.c5
      have hz1 : ((s.c : Int) != (s.c : Int)) = false := by simp
      have hz2 : ((s.C : Int) != (s.C : Int)) = false := by simp
      clear hSt hb11 hb12 hW12 hb12e HX kc
      go_upto_region 11 with fail
      rw [← HW12.out, ← HB12E.out]
      clear HW12 HB12E
      go_wp2_with fail
      go_cut [88] (fun s88 wx => s88 = .bool false ∧ Hid (Below W12.heap.size W12 wx))
      case first =>
        refine startA (S := fun w' => Below W12.heap.size W12 w' ∧ w'.cell? ⟨b12, 3, none⟩ = some (.slice d1 s.C k1) ∧ w'.cell? ⟨b12, 4, none⟩ = some (.slice d2 s.C k2) ∧ w'.cell? ⟨b12, 5, none⟩ = some (.slice d3 s.c k3) ∧ w'.cell? ⟨bc, 0, none⟩ = some (.int .i64 s.C)) ⟨Below.refl _ _, t1, t2, t3, kc12⟩ (held_4 (below_dr _)) (fun hS0 hHeld => ?_)
        refine takeA 0 ?_
        refine takeA 1 ?_
        refine takeA 2 ?_
        refine takeA 3 ?_
        refine takeA 5 ?_
        refine takeA 6 ?_
        refine takeA 7 ?_
        refine readyA [4] (consA (fun K hK => ?_) .nil)
        go_simp
        refine ALn.out.mono ?_
        rintro e w_ ⟨rfl, rfl⟩
        go_wp2_with fail
        refine outA hK kp_4 (fun hHeld4 => ?_)
        clear hK K
        refine takeA 8 ?_
        refine takeA 9 ?_
        refine takeA 10 ?_
        refine takeA 11 ?_
        refine takeA 12 ?_
        refine takeA 13 ?_
        refine takeA 14 ?_
        refine takeA 15 ?_
        refine takeA 16 ?_
        refine takeA 17 ?_
        refine takeA 18 ?_
        refine takeA 19 ?_
        refine takeA 20 ?_
        refine takeA 21 ?_
        refine takeA 22 ?_
        refine takeA 23 ?_
        refine takeA 24 ?_
        refine takeA 25 ?_
        refine doneA ?_
        go_wp2_with fail
        go_meet
        case rel => exact ⟨rfl, Lib.hid (Below.refl _ _).drew⟩
      case rest =>
        as_aux_lemma =>
        obtain ⟨rfl, hB13⟩ := hcut
        have T13 := Lib.hid (T12.out.later hB13.out)
        have H13 := Lib.hid (H12.out.later hB13.out)
        have kc13 := cell_later hB13.out kc12
        obtain ⟨_, _, _, _, _, e13, -, cl13, cu13, ts13, -⟩ := (S12.out.later hB13.out).is
        cases e13
        have CL13 := Lib.hid cl13
        have CU13 := Lib.hid cu13
        have TS13 := Lib.hid ts13
        have mk := makes wc hC64 42 3 ii (.int .i64 0) 1 8 Tryz.underlying42 qi qz0 qz1 qz2 (by decide)
        have hb14 := below_a wc (.cells (madeCells #[.int .i64 0] s.C) 3)
        have IL := Lib.hid ((IntsAt.made' wc s.C 3 rfl).congr (g := ldK s 0) (fun k _ => (ldK_zero s k).symm))
        obtain ⟨W14, hW14⟩ : ∃ W, W = wc.alloc (.cells (madeCells #[.int .i64 0] s.C) 3) := ⟨_, rfl⟩
        rw [← hW14] at hb14 IL
        have HW14 := Lib.hid hW14
        obtain ⟨bl, hbl⟩ : ∃ b, b = wc.heap.size := ⟨_, rfl⟩
        rw [← hbl] at IL
        have HBLE := Lib.hid hbl
        have T14 := Lib.hid (T13.out.later hb14)
        have H14 := Lib.hid (H13.out.later hb14)
        have kc14 := cell_later hb14 kc13
        have t14 := T14.out.c5
        have HB14 := Lib.hid hb14
        have hblF : bl ∉ F := fun m => by have := H13.out.lt _ m; have := HBLE.out; omega
        have hblw : w.heap.size ≤ bl := by have := H13.out.bel.size; have := HBLE.out; omega
        have hbc : bc ≠ bl := by have := lt_of_cell kc13; have := HBLE.out; omega
        have hb12n : b12 ≠ bl := by have := T13.out.lt; have := HBLE.out; omega
        clear T12 S12 H12 kc12 cl13 cu13 ts13 hW14 hbl hb14 t1 t2 t3 hB13 T13 H13
        go_upto_region 15 with fail
        rw [← HW14.out, ← HBLE.out]
        clear HW14 mk kc13
        go_wp2_with fail
        go_loopw [13, 95] (fun v13 iv wr => ∃ (k : Nat) (b : Bool), k ≤ s.c ∧ iv = .int .i64 k ∧ v13 = .bool b ∧ Hid (b = true ↔ ∃ j ∈ (keysL s).take k, j = id) ∧ Hid (IntsAt wr bl s.C (ldK s k)) ∧ Hid (Kept [bl] W14 wr)) (fun _ iv _ => s.c - (intOf iv).toNat)
        case atStart => exact ⟨0, false, Nat.zero_le _, rfl, rfl, Lib.hid (by simp), IL, Lib.hid (Kept.refl _ _)⟩
        case round =>
          clear IL
          obtain ⟨k, b, hk, rfl, rfl, hbi, hIL, hKP⟩ := hrel
          have HX := Lib.hid (H14.out.kept hKP.out (by simp; exact hblF) (by simp; exact hblw))
          have kcr : wr.cell? ⟨bc, 0, none⟩ = some (.int .i64 s.C) := hKP.out.cellAt kc14 (by simp; exact hbc)
          by_cases hlt : k < s.c
          · as_aux_lemma =>
            have hki : (k : Int) < (s.c : Int) := by omega
            have z1 : decide ((k : Int) < (s.c : Int)) = true := decide_eq_true hki
            have hkl : k < (keysL s).length := by rw [HO.out.keys_len]; exact hlt
            obtain ⟨ik, hik⟩ : ∃ ik, ik = (keysL s)[k]! := ⟨_, rfl⟩
            have hidx : (keysL s)[k]? = some ik := by rw [hik, getElem!_pos (keysL s) k hkl]; exact List.getElem?_eq_getElem hkl
            have hmem : ik ∈ keysL s := List.mem_of_getElem? hidx
            obtain ⟨t, hT⟩ : ∃ t, s.T ik = some t := Option.isSome_iff_exists.1 ((keysL_mem HO.out ik).1 hmem)
            have htk := (HO.out.task ik t hT).2
            obtain ⟨xe, hxe⟩ : ∃ xe, xe = ranX s ik t := ⟨_, rfl⟩
            have hv : (staOf s).ts[k]? = some ⟨ik, t.g, t.w, t.cpu, t.mask, t.rdy, xe.1, xe.2.1⟩ := by
              rw [staOf_tsE, List.getElem?_map, hidx]
              show some (viewOf s ik) = _
              unfold viewOf
              rw [hT, hxe]
            obtain ⟨bt, off, rfl, ⟨-, hbt⟩, hcc⟩ := cells_held encTl_ok TS13.out hv
            have hbtl : bt ∉ [bl] := by have := HBLE.out; simp; omega
            have u0 : wr.cell? ⟨bt, off + k * 8 + 0, none⟩ = some (.int .i64 ik) := hKP.out.cellAt (cell_later HB14.out (hcc 0 _ rfl)) hbtl
            have u1 : wr.cell? ⟨bt, off + k * 8 + 1, none⟩ = some (.int .i64 t.g) := hKP.out.cellAt (cell_later HB14.out (hcc 1 _ rfl)) hbtl
            have u2 : wr.cell? ⟨bt, off + k * 8 + 2, none⟩ = some (.int .i64 t.w) := hKP.out.cellAt (cell_later HB14.out (hcc 2 _ rfl)) hbtl
            have u3 : wr.cell? ⟨bt, off + k * 8 + 3, none⟩ = some (.int .i64 t.cpu) := hKP.out.cellAt (cell_later HB14.out (hcc 3 _ rfl)) hbtl
            have u4 : wr.cell? ⟨bt, off + k * 8 + 4, none⟩ = some (.int .u64 t.mask) := hKP.out.cellAt (cell_later HB14.out (hcc 4 _ rfl)) hbtl
            have u5 : wr.cell? ⟨bt, off + k * 8 + 5, none⟩ = some (.bool t.rdy) := hKP.out.cellAt (cell_later HB14.out (hcc 5 _ rfl)) hbtl
            have u6 : wr.cell? ⟨bt, off + k * 8 + 6, none⟩ = some (.int .u64 xe.1) := hKP.out.cellAt (cell_later HB14.out (hcc 6 _ rfl)) hbtl
            have u7 : wr.cell? ⟨bt, off + k * 8 + 7, none⟩ = some (.int .u32 xe.2.1) := hKP.out.cellAt (cell_later HB14.out (hcc 7 _ rfl)) hbtl
            rw [Nat.add_zero] at u0
            obtain ⟨W16, hW16⟩ : ∃ W, W = wr.alloc (.cells #[.int .i64 ik, .int .i64 t.g, .int .i64 t.w, .int .i64 t.cpu, .int .u64 t.mask, .bool t.rdy, .int .u64 xe.1, .int .u32 xe.2.1] 59) := ⟨_, rfl⟩
            have y0 : W16.cell? ⟨wr.heap.size, 0, none⟩ = some (.int .i64 ik) := by rw [hW16]; exact cell_nw wr _ _ 0 _ rfl
            have y1 : W16.cell? ⟨wr.heap.size, 1, none⟩ = some (.int .i64 t.g) := by rw [hW16]; exact cell_nw wr _ _ 1 _ rfl
            have y2 : W16.cell? ⟨wr.heap.size, 2, none⟩ = some (.int .i64 t.w) := by rw [hW16]; exact cell_nw wr _ _ 2 _ rfl
            have y3 : W16.cell? ⟨wr.heap.size, 3, none⟩ = some (.int .i64 t.cpu) := by rw [hW16]; exact cell_nw wr _ _ 3 _ rfl
            have y4 : W16.cell? ⟨wr.heap.size, 4, none⟩ = some (.int .u64 t.mask) := by rw [hW16]; exact cell_nw wr _ _ 4 _ rfl
            have y5 : W16.cell? ⟨wr.heap.size, 5, none⟩ = some (.bool t.rdy) := by rw [hW16]; exact cell_nw wr _ _ 5 _ rfl
            have y6 : W16.cell? ⟨wr.heap.size, 6, none⟩ = some (.int .u64 xe.1) := by rw [hW16]; exact cell_nw wr _ _ 6 _ rfl
            have y7 : W16.cell? ⟨wr.heap.size, 7, none⟩ = some (.int .u32 xe.2.1) := by rw [hW16]; exact cell_nw wr _ _ 7 _ rfl
            have hb16 : Below wr.heap.size wr W16 := by rw [hW16]; exact below_a _ _
            have AT := TaskX_at ik (HX.out.later hb16).inn HO.out (wfTask HO.out hT)
            rw [(task_known HO.out hT).1, (task_known HO.out hT).2, ← hxe] at AT
            unfold encTv at AT
            replace AT := Lib.hid AT
            have t14r : wr.cell? ⟨b12, 5, none⟩ = some (.slice (some ⟨bt, off, none⟩) s.c k3) := hKP.out.cellAt t14 (by simp; exact hb12n)
            have HW16 := Lib.hid hW16
            have HB16 := Lib.hid hb16
            obtain ⟨b16, hb16e⟩ : ∃ b, b = wr.heap.size := ⟨_, rfl⟩
            rw [← hb16e] at y0 y1 y2 y3 y4 y5 y6 y7
            have HB16E := Lib.hid hb16e
            have hb16l : b16 ≠ bl := by have := hIL.out.lt; have := HB16E.out; omega
            have kc16 := cell_later hb16 kcr
            have hcl := hIL.out.c t.cpu htk.cpu
            have hfl := hIL.out.z t.cpu
            have hil := hIL.out.lt
            have hld := ldK_in HO.out t.cpu k
            have hfew := HO.out.few
            have hwt := htk.w
            have HWT := Lib.hid (show ∀ c, wtOf s.T c ik = if t.rdy = true ∧ t.cpu = c then t.w else 0 from fun c => by unfold wtOf; rw [hT])
            have HST := Lib.hid fun c => ldK_step (c := c) hidx
            have HBI := Lib.hid (show (keysL s).take (k + 1) = (keysL s).take k ++ [ik] from take_snocL hidx)
            have hcpu := htk.cpu
            clear hik hidx hmem hT htk hxe hv hcc hkl hW16 hb16 hb16e kcr
            go_upto_region 18 with fail
            rw [← HW16.out, ← HB16E.out]
            clear u0 u1 u2 u3 u4 u5 u6 u7 HW16 t14r
            go_wp2_with fail
            refine AT.out.mono ?_; clear AT; rintro e w17 ⟨rfl, hb17⟩
            obtain ⟨W17, hW17⟩ : ∃ W, W = w17.alloc (.cells #[.int .i64 ik, .int .i64 t.g, .int .i64 t.w, .int .i64 t.cpu, .int .u64 t.mask, .bool t.rdy, .int .u64 xe.1, .int .u32 xe.2.1] 59) := ⟨_, rfl⟩
            have v0 : W17.cell? ⟨w17.heap.size, 0, none⟩ = some (.int .i64 ik) := by rw [hW17]; exact cell_nw w17 _ _ 0 _ rfl
            have v1 : W17.cell? ⟨w17.heap.size, 1, none⟩ = some (.int .i64 t.g) := by rw [hW17]; exact cell_nw w17 _ _ 1 _ rfl
            have v2 : W17.cell? ⟨w17.heap.size, 2, none⟩ = some (.int .i64 t.w) := by rw [hW17]; exact cell_nw w17 _ _ 2 _ rfl
            have v3 : W17.cell? ⟨w17.heap.size, 3, none⟩ = some (.int .i64 t.cpu) := by rw [hW17]; exact cell_nw w17 _ _ 3 _ rfl
            have v4 : W17.cell? ⟨w17.heap.size, 4, none⟩ = some (.int .u64 t.mask) := by rw [hW17]; exact cell_nw w17 _ _ 4 _ rfl
            have v5 : W17.cell? ⟨w17.heap.size, 5, none⟩ = some (.bool t.rdy) := by rw [hW17]; exact cell_nw w17 _ _ 5 _ rfl
            have v6 : W17.cell? ⟨w17.heap.size, 6, none⟩ = some (.int .u64 xe.1) := by rw [hW17]; exact cell_nw w17 _ _ 6 _ rfl
            have v7 : W17.cell? ⟨w17.heap.size, 7, none⟩ = some (.int .u32 xe.2.1) := by rw [hW17]; exact cell_nw w17 _ _ 7 _ rfl
            have hbx : Below W16.heap.size W16 W17 := Below.step hb17 (by rw [hW17]; exact below_a _ _)
            replace y0 := cell_later hbx y0
            replace y1 := cell_later hbx y1
            replace y2 := cell_later hbx y2
            replace y3 := cell_later hbx y3
            replace y4 := cell_later hbx y4
            replace y5 := cell_later hbx y5
            replace y6 := cell_later hbx y6
            replace y7 := cell_later hbx y7
            have kc17 := cell_later hbx kc16
            have HB17 := Lib.hid (Below.step HB16.out hbx)
            have HW17 := Lib.hid hW17
            obtain ⟨b17, hb17e⟩ : ∃ b, b = w17.heap.size := ⟨_, rfl⟩
            rw [← hb17e] at v0 v1 v2 v3 v4 v5 v6 v7
            have HB17E := Lib.hid hb17e
            have w1 : decide ((t.cpu : Int) < 0) = false := decide_eq_false (by omega)
            have w2 : decide ((t.cpu : Int) ≥ (s.C : Int)) = false := decide_eq_false (by omega)
            have w2' : decide ((s.C : Int) ≤ (t.cpu : Int)) = false := decide_eq_false (by omega)
            have w2'' : decide (s.C ≤ t.cpu) = false := decide_eq_false (by omega)
            have HCPU := Lib.hid hcpu
            clear hb17 hbx hW17 hb17e kc16 hcpu
            go_upto_region 19 with fail
            rw [← HW17.out, ← HB17E.out]
            clear HW17 HB17E
            go_upto_region 21 with fail
            have HIDX := Lib.hid hbi.out
            go_cut [13] (fun s13 wx => ∃ b' : Bool, s13 = .bool b' ∧ Hid (b' = true ↔ ∃ j ∈ (keysL s).take (k + 1), j = id) ∧ W17 = wx)
            case first =>
              cases b with
              | true =>
                go_wp2_with fail
                go_meet
                case rel => exact ⟨true, rfl, Lib.hid ⟨fun _ => by
                  obtain ⟨j, q, e⟩ := HIDX.out.1 (by first | rfl | trivial)
                  exact ⟨j, by rw [HBI.out]; exact List.mem_append_left _ q, e⟩, fun _ => rfl⟩, rfl⟩
              | false =>
                go_wp2_with fail
                go_meet
                case rel => exact ⟨ik == id, rfl, Lib.hid (by
                  rw [HBI.out]
                  constructor
                  · intro q
                    exact ⟨ik, by simp, beq_iff_eq.1 q⟩
                  · rintro ⟨j, q, e⟩
                    rcases List.mem_append.1 q with q | q
                    · exact absurd (HIDX.out.2 ⟨j, q, e⟩) (by first | simp | trivial)
                    · simp at q
                      rw [← q, e]
                      simp), rfl⟩
            case rest =>
              obtain ⟨b', rfl, hbi', rfl⟩ := hcut
              have HKP := Lib.hid (hKP.out.step HB17.out)
              have hcl2 := cell_later HB17.out hcl
              have hfl2 := frz_later HB17.out hfl hil
              have HIL2 := Lib.hid (hIL.out.kept (G := []) (Kept.of HB17.out) (by simp))
              clear hbi hIL hKP hcl hfl v0 v1 v2 v3 v4 v5 v6 v7 y0 y1 y4 y6 y7 kc17 w1 w2 w2' w2'' HIDX HX
              cases hrd : t.rdy with
              | false =>
                rw [hrd] at y5
                have HIL3 := Lib.hid (HIL2.out.congr (g := ldK s (k + 1)) (fun c _ => by rw [HST.out c, HWT.out c, hrd, if_neg (by simp)]; omega))
                clear hrd hld hwt
                go_wp2_with fail
                go_roundw
                case rel => exact ⟨k + 1, b', by omega, by go_num, rfl, hbi', HIL3, HKP⟩
                case measure => simp [intOf]; omega
              | true =>
                rw [hrd] at y5
                have q1 : IntKind.i64.wrap (ldK s k t.cpu + t.w) = ldK s k t.cpu + t.w := IntWalk.i64_in _ (by omega)
                have q1' : wrap64 (ldK s k t.cpu + t.w) = ldK s k t.cpu + t.w := IntWalk.wrap64_in _ (by omega)
                have hcs : (t.cpu : Int) < (s.C : Int) := by have := HCPU.out; omega
                have HIL3 := Lib.hid ((HIL2.out.set HCPU.out (ldK s k t.cpu + t.w)).congr (g := ldK s (k + 1)) (fun c _ => by
                  rw [HST.out c, HWT.out c, hrd]
                  by_cases e : c = t.cpu
                  · subst e; rw [upd_same, if_pos ⟨rfl, rfl⟩]
                  · rw [upd_other _ _ e, if_neg (fun q => e q.2.symm)]; omega))
                have HKP3 := Lib.hid (HKP.out.setCell (p := ⟨bl, t.cpu, none⟩) (Or.inl (by simp)) (.int .i64 (ldK s k t.cpu + t.w)))
                clear hrd hld hwt HIL2 HKP
                go_wp2_with fail
                have hS0 : Below W17.heap.size W17 W17.drew ∧ W17.drew.cell? ⟨b16, 3, none⟩ = some (.int .i64 t.cpu) ∧ W17.drew.cell? ⟨b16, 2, none⟩ = some (.int .i64 t.w) ∧ W17.drew.cell? ⟨bl, t.cpu, none⟩ = some (.int .i64 (ldK s k t.cpu)) := ⟨Below.drew (Below.refl _ _), cell_dr y3, cell_dr y2, cell_dr hcl2⟩
                refine startU [9] (fun w' => Below W17.heap.size W17 w' ∧ w'.cell? ⟨b16, 3, none⟩ = some (.int .i64 t.cpu) ∧ w'.cell? ⟨b16, 2, none⟩ = some (.int .i64 t.w) ∧ w'.cell? ⟨bl, t.cpu, none⟩ = some (.int .i64 (ldK s k t.cpu))) (by kernel_rfl) hS0 (fun hHeld => ?_)
                refine takeUw (i := 0) (v := ?v0_101) rfl (by kernel_rfl) (fun _ _ _ h => h) (by rfl) ?hy0_101 (by assumption) ?rest0_101
                case hy0_101 => (intro w hSw; (try dsimp only at hSw); go_simp; try with_reducible rfl)
                try simp only [Act.put, List.setIfInBounds_toArray, List.set_cons_zero, List.set_cons_succ]
                refine takeUw (i := 1) (v := ?v1_102) rfl (by kernel_rfl) (fun _ _ _ h => h) (by rfl) ?hy1_102 (by assumption) ?rest1_102
                case hy1_102 => (intro w hSw; (try dsimp only at hSw); go_simp; try with_reducible rfl)
                try simp only [Act.put, List.setIfInBounds_toArray, List.set_cons_zero, List.set_cons_succ]
                refine takeUw (i := 2) (v := ?v2_103) rfl (by kernel_rfl) (fun _ _ _ h => h) (by rfl) ?hy2_103 (by assumption) ?rest2_103
                case hy2_103 => (intro w hSw; (try dsimp only at hSw); go_simp; try with_reducible rfl)
                try simp only [Act.put, List.setIfInBounds_toArray, List.set_cons_zero, List.set_cons_succ]
                refine takeUw (i := 3) (v := ?v3_104) rfl (by kernel_rfl) (fun _ _ _ h => h) (by rfl) ?hy3_104 (by assumption) ?rest3_104
                case hy3_104 => (intro w hSw; (try dsimp only at hSw); go_simp; try with_reducible rfl)
                try simp only [Act.put, List.setIfInBounds_toArray, List.set_cons_zero, List.set_cons_succ]
                refine takeUw (i := 4) (v := ?v4_105) rfl (by kernel_rfl) (fun _ _ _ h => h) (by rfl) ?hy4_105 (by assumption) ?rest4_105
                case hy4_105 => (intro w hSw; (try dsimp only at hSw); go_simp; try with_reducible rfl)
                try simp only [Act.put, List.setIfInBounds_toArray, List.set_cons_zero, List.set_cons_succ]
                refine takeUw (i := 5) (v := ?v5_106) rfl (by kernel_rfl) (fun _ _ _ h => h) (by rfl) ?hy5_106 (by assumption) ?rest5_106
                case hy5_106 => (intro w hSw; (try dsimp only at hSw); go_simp; try with_reducible rfl)
                try simp only [Act.put, List.setIfInBounds_toArray, List.set_cons_zero, List.set_cons_succ]
                refine takeUw (i := 6) (v := ?v6_107) rfl (by kernel_rfl) (fun _ _ _ h => h) (by rfl) ?hy6_107 (by assumption) ?rest6_107
                case hy6_107 => (intro w hSw; (try dsimp only at hSw); go_simp; try with_reducible rfl)
                try simp only [Act.put, List.setIfInBounds_toArray, List.set_cons_zero, List.set_cons_succ]
                refine takeUw (i := 7) (v := ?v7_108) rfl (by kernel_rfl) (fun _ _ _ h => h) (by rfl) ?hy7_108 (by assumption) ?rest7_108
                case hy7_108 => (intro w hSw; (try dsimp only at hSw); go_simp; try with_reducible rfl)
                try simp only [Act.put, List.setIfInBounds_toArray, List.set_cons_zero, List.set_cons_succ]
                refine takeUw (i := 8) (v := ?v8_109) rfl (by kernel_rfl) (fun _ _ _ h => h) (by rfl) ?hy8_109 (by assumption) ?rest8_109
                case hy8_109 => (intro w hSw; (try dsimp only at hSw); go_simp; try with_reducible rfl)
                try simp only [Act.put, List.setIfInBounds_toArray, List.set_cons_zero, List.set_cons_succ]
                refine readyU (rs := [9]) (by kernel_rfl) (by simp) ?_
                refine consV rfl (by kernel_rfl) (fun K hK => ?_) (nilU)
                go_simp
                have f9 : W17.drew.frozen? ⟨bl, t.cpu, none⟩ = false := hfl2
                have e9 : W17.drew.cell? ⟨bl, t.cpu, none⟩ = some (.int .i64 (ldK s k t.cpu)) := cell_dr hcl2
                go_simp
                refine hK.out _ _ ?_
                clear hK K
                try simp only [Act.put, List.setIfInBounds_toArray, List.set_cons_zero, List.set_cons_succ]
                refine doneU (by kernel_rfl) ?_ _
                have hbd : Kept [bl] (W17.setCell ⟨bl, t.cpu, none⟩ (.int .i64 (ldK s k t.cpu + t.w))) (W17.drew.setCell ⟨bl, t.cpu, none⟩ (.int .i64 (ldK s k t.cpu + t.w))) := ⟨rfl, rfl, rfl, Nat.le_refl _, fun _ _ _ => rfl⟩
                have HIL4 := Lib.hid (show IntsAt (W17.drew.setCell ⟨bl, t.cpu, none⟩ (.int .i64 (ldK s k t.cpu + t.w))) bl s.C (ldK s (k + 1)) from ⟨HIL3.out.c, HIL3.out.z, HIL3.out.lt⟩)
                have HKP4 := Lib.hid (HKP3.out.trans hbd)
                clear hbd
                go_wp2_with fail
                go_roundw
                case rel => exact ⟨k + 1, b', by omega, by go_num, rfl, hbi', HIL4, HKP4⟩
                case measure => simp [intOf]; omega
          · as_aux_lemma =>
            obtain rfl : k = s.c := by omega
            have z1 : decide ((s.c : Int) < (s.c : Int)) = false := decide_eq_false (by omega)
            have hall : b = true ↔ (s.T id).isSome = true := hbi.out.trans (any_key HO.out id)
            have ILs := Lib.hid (hIL.out.congr (g := s.ld) (fun c hc => ldK_all HO.out hc))
            have hkb : Kept (bl :: F) W14 wr := hKP.out.mono (by simp)
            have CL18 := Lib.hid ((((CL13.out.add (b := bl) (Nat.le_of_eq HBLE.out.symm)).later HB14.out).kept hkb).step (F' := F) (Kept.refl _ _) (fun b q => Or.inl (List.mem_cons_of_mem _ q)))
            have CU18 := Lib.hid ((((CU13.out.add (b := bl) (Nat.le_of_eq HBLE.out.symm)).later HB14.out).kept hkb).step (F' := F) (Kept.refl _ _) (fun b q => Or.inl (List.mem_cons_of_mem _ q)))
            have T18 := Lib.hid (T14.out.kept hKP.out (by simp; exact hb12n))
            have HXb := Lib.hid hall
            obtain ⟨w18, rfl⟩ : ∃ W : World, W = wr := ⟨_, rfl⟩
            clear hbi hIL hKP hkb hall CL13 CU13 TS13 t14 kc14 HB14 H14 T14
            go_upto_region 25 with fail
            go_cut [20] (fun s20 wx => ∃ e' : Int, s20 = .int .i64 e' ∧ Hid ((b = true ∧ e' = 0) ∨ (b = false ∧ (e' = 6 ∨ e' = 301))) ∧ Hid (Below w18.heap.size w18 wx))
            case first =>
              have AT := TaskX_at id HX.out.inn HO.out G2.out
              cases hT : s.T id with
              | some t =>
                rw [(task_known HO.out hT).1, (task_known HO.out hT).2] at AT
                unfold encTv at AT
                have hbt : b = true := HXb.out.2 (by rw [hT]; rfl)
                have HBT := Lib.hid hbt
                replace AT := Lib.hid AT
                clear hT hbt
                go_wp2_with fail
                refine AT.out.mono ?_; rintro e w19 ⟨rfl, hb19⟩
                have HB19 := Lib.hid hb19
                clear hb19
                go_wp2_with fail
                go_meet
                case rel => exact ⟨0, rfl, Lib.hid (Or.inl ⟨HBT.out, rfl⟩), Lib.hid (Below.step HB19.out (below_a _ _))⟩
              | none =>
                obtain ⟨e1, e2⟩ := task_zero hT
                rw [e1] at AT
                obtain ⟨e', he'⟩ : ∃ e, e = taskC s id := ⟨_, rfl⟩
                rw [← he'] at AT e2
                have hbt : b = false := by
                  cases b with
                  | false => rfl
                  | true => have := HXb.out.1 rfl; rw [hT] at this; cases this
                have HBT := Lib.hid hbt
                have HE2 := Lib.hid e2
                replace AT := Lib.hid AT
                clear hT hbt e1 e2 he'
                go_wp2_with fail
                refine AT.out.mono ?_; rintro e w19 ⟨rfl, hb19⟩
                have HB19 := Lib.hid hb19
                clear hb19
                go_wp2_with fail
                go_meet
                case rel => exact ⟨e', rfl, Lib.hid (Or.inr ⟨HBT.out, HE2.out⟩), Lib.hid (Below.step HB19.out (below_a _ _))⟩
            case rest =>
              obtain ⟨e', rfl, he, hB⟩ := hcut
              have kc19 := cell_later hB.out kcr
              have X19 := Lib.hid (HX.out.later hB.out)
              have C19 := Lib.hid (CL18.out.later hB.out)
              have U19 := Lib.hid (CU18.out.later hB.out)
              have T19 := Lib.hid (T18.out.later hB.out)
              have I19 := Lib.hid (ILs.out.kept (G := []) (Kept.of hB.out) (by simp))
              have N12 := Lib.hid (show b12 ∉ F from N12.out)
              have NBL := Lib.hid hblF
              obtain ⟨w19, rfl⟩ : ∃ W : World, W = wc := ⟨_, rfl⟩
              clear hB HX CL18 CU18 T18 ILs HXb kcr
              go_upto_region 26 with fail
              go_cut [165] (fun s165 wx => s165 = .bool false ∧ w19 = wx)
              case first =>
                rcases he.out with ⟨hb, h0⟩ | ⟨hb, h0 | h0⟩
                all_goals subst hb
                all_goals subst h0
                all_goals go_wp2_with fail
                all_goals go_meet
                all_goals
                  case rel => exact ⟨rfl, rfl⟩
              case rest =>
                obtain ⟨rfl, rfl⟩ := hcut
                clear he
                go_wp2_with fail
                go_loopw [168] (fun iv wr => ∃ (j : Nat) (s' : SSt) (F' : List Nat), j ≤ s.C ∧ iv = .int .i64 j ∧ Hid (PkS s j s') ∧ Hid (XW w x s' wr F') ∧ Hid (HeldR encZ1 F' wr (.slice d1 s.C k1) (staOf s).cl) ∧ Hid (HeldR encZ1 F' wr (.slice d2 s.C k2) (staOf s).cu) ∧ Hid (IntsAt wr bl s.C s.ld) ∧ Hid (bl ∉ F') ∧ Hid (StB wr b12 s.C s.cr (.slice d0 s.n k0) (.slice d1 s.C k1) (.slice d2 s.C k2) (.slice d3 s.c k3) (.slice d4 s.n k4)) ∧ Hid (b12 ∉ F')) (fun iv _ => s.C - (intOf iv).toNat)
                case atStart => exact ⟨0, s, F, Nat.zero_le _, rfl, Lib.hid (PkS.start HO.out), X19, C19, U19, I19, NBL, T19, N12⟩
                case round =>
                  clear X19 C19 U19 T19 I19 NBL N12
                  obtain ⟨j, s', F', hj, rfl, PK, HX, HC, HU, HI, NBL, HT, N12⟩ := hrel
                  by_cases hlt : j < s.C
                  · as_aux_lemma =>
                    have hji : (j : Int) < (s.C : Int) := by omega
                    have z2 : decide ((j : Int) < (s.C : Int)) = true := decide_eq_true hji
                    have hj' : j < s'.C := by rw [PK.out.C]; exact hlt
                    obtain ⟨p1, o1, rfl, ⟨np1, -⟩, h1⟩ := cells_held encZ1_ok HC.out (show (staOf s).cl[j]? = some (s.cl j) by show ((List.range s.C).map s.cl)[j]? = _; rw [List.getElem?_map, List.getElem?_range hlt]; rfl)
                    obtain ⟨p2, o2, rfl, ⟨np2, -⟩, h2⟩ := cells_held encZ1_ok HU.out (show (staOf s).cu[j]? = some (s.cu j) by show ((List.range s.C).map s.cu)[j]? = _; rw [List.getElem?_map, List.getElem?_range hlt]; rfl)
                    have u1 := h1 0 _ rfl
                    have u2 := h2 0 _ rfl
                    rw [Nat.add_zero, Nat.mul_one] at u1 u2
                    have u3 := HI.out.c j hlt
                    have u4 := HT.out.c3
                    have u5 := HT.out.c4
                    have E1 := PK.out.cu j (Nat.le_refl _)
                    have E2 : fstV s' j = fstV s j := by unfold fstV; rw [PK.out.Q]
                    have B1 := Lib.hid fun W (hb : Below wr.heap.size wr W) => (show Calls Tryz.prog 25 #[.pointer (some ⟨x, 0, none⟩), .int .i64 j] W fun e w' => e = .returned (.tuple #[.int .i64 (s.cu j), .int .i64 0]) ∧ Below W.heap.size W w' by rw [← E1]; exact CurrentX_at (HX.out.later hb).inn PK.out.ok hj')
                    have B2 := Lib.hid fun W (hb : Below wr.heap.size wr W) => (show Calls Tryz.prog 26 #[.pointer (some ⟨x, 0, none⟩), .int .i64 j] W fun e w' => e = .returned (.tuple #[.int .i64 (s.cl j), .int .i64 0]) ∧ Below W.heap.size W w' by rw [← PK.out.cl]; exact ClockX_at (HX.out.later hb).inn PK.out.ok hj')
                    have B3 := Lib.hid fun W (hb : Below wr.heap.size wr W) => (show Calls Tryz.prog 27 #[.pointer (some ⟨x, 0, none⟩), .int .i64 j] W fun e w' => e = .returned (.tuple #[.int .i64 (s.ld j), .int .i64 0]) ∧ Below W.heap.size W w' by rw [← PK.out.ld]; exact WeightX_at (HX.out.later hb).inn PK.out.ok hj')
                    have B4 := Lib.hid fun W (hb : Below wr.heap.size wr W) => (show Calls Tryz.prog 28 #[.pointer (some ⟨x, 0, none⟩), .int .i64 j] W fun e w' => e = .returned (.tuple #[.int .i64 (fstV s j), .int .i64 0]) ∧ Below W.heap.size W w' by rw [← E2]; exact FirstX_at (HX.out.later hb).inn PK.out.ok hj')
                    obtain ⟨s2, hs2⟩ : ∃ s2, s2 = (doR s' (pkO j)).2.2 := ⟨_, rfl⟩
                    have hnx := PK.out.next hlt
                    rw [← hs2] at hnx
                    have PK2 := Lib.hid hnx.1
                    have B5 := Lib.hid fun W (hb : Below wr.heap.size wr W) => (show Calls Tryz.prog 17 #[.pointer (some ⟨x, 0, none⟩), .agg #[.int .u8 6, .int .i64 j, .int .i64 0, .int .i64 0, .int .i64 0, .int .i64 0, .int .i64 0, .int .u64 0]] W fun e w' => e = .returned (.tuple #[.int .i64 (fstV s j), .int .i64 0]) ∧ SAfter W x F' s2 w' by
                      have q := DoX_at (HX.out.later hb).inn PK.out.ok (o := pkO j) (pkO_wf (by omega))
                      rw [pk_do hj'] at q
                      rw [hs2, pk_do hj', ← E2]
                      exact q)
                    have B6 := Lib.hid fun W F2 (hX : XW w x s2 W F2) => (show Calls Tryz.prog 25 #[.pointer (some ⟨x, 0, none⟩), .int .i64 j] W fun e w' => e = .returned (.tuple #[.int .i64 (fstV s j), .int .i64 0]) ∧ Below W.heap.size W w' by
                      have q := CurrentX_at (j := j) hX.inn PK2.out.ok (by rw [PK2.out.C]; exact hlt)
                      rw [hnx.2] at q
                      exact q)
                    obtain ⟨bz, zf1, zf2⟩ : ∃ b : Bool, (fstV s j == 0) = b ∧ (s.ld j == 0) = b := by
                      have := first_load HO.out hlt
                      refine ⟨_, rfl, ?_⟩
                      cases e1 : (fstV s j == 0) <;> cases e2 : (s.ld j == 0) <;> simp [e1, e2] at this ⊢
                    have zf : (bz != bz) = false := by simp
                    have zc : (s.cu j != s.cu j) = false := by simp
                    have zl : (s.cl j != s.cl j) = false := by simp
                    have zw : (s.ld j != s.ld j) = false := by simp
                    have zg : (fstV s j != fstV s j) = false := by simp
                    clear h1 h2 E1 E2 hs2 hnx hj' np1 np2
                    go_wp2_with fail
                    refine (B1.out wr (Below.refl _ _)).mono ?_; rintro e w31 ⟨rfl, hb31⟩
                    go_wp2_with fail
                    refine (B2.out w31 hb31).mono ?_; rintro e w32 ⟨rfl, hb32⟩
                    replace hb32 := Below.step hb31 hb32
                    go_wp2_with fail
                    refine (B3.out w32 hb32).mono ?_; rintro e w33 ⟨rfl, hb33⟩
                    replace hb33 := Below.step hb32 hb33
                    go_wp2_with fail
                    refine (B4.out w33 hb33).mono ?_; rintro e w34 ⟨rfl, hb34⟩
                    replace hb34 := Below.step hb33 hb34
                    replace u1 := cell_later hb34 u1
                    replace u2 := cell_later hb34 u2
                    replace u3 := cell_later hb34 u3
                    replace u4 := cell_later hb34 u4
                    replace u5 := cell_later hb34 u5
                    have H34 := Lib.hid (HX.out.later hb34)
                    have HC34 := Lib.hid (HC.out.later hb34)
                    have HU34 := Lib.hid (HU.out.later hb34)
                    have HI34 := Lib.hid (HI.out.kept (G := []) (Kept.of hb34) (by simp))
                    have HT34 := Lib.hid (HT.out.later hb34)
                    have B5' := Lib.hid (B5.out w34 hb34)
                    clear hb31 hb32 hb33 hb34 B1 B2 B3 B4 B5 HX HC HU HI HT
                    go_wp2_with fail
                    refine B5'.out.mono ?_; clear B5'; rintro e w35 ⟨rfl, hA⟩
                    obtain ⟨F9, x9, t9⟩ := H34.out.step hA
                    have HC9 := Lib.hid (HC34.out.step t9.kept t9.new)
                    have HU9 := Lib.hid (HU34.out.step t9.kept t9.new)
                    have HI9 := Lib.hid (HI34.out.kept t9.kept NBL.out)
                    have HT9 := Lib.hid (HT34.out.kept t9.kept N12.out)
                    have NBL9 := Lib.hid (t9.off NBL.out HI34.out.lt)
                    have N129 := Lib.hid (t9.off N12.out HT34.out.lt)
                    have B6' := Lib.hid (B6.out w35 F9 x9)
                    have H9 := Lib.hid x9
                    clear hA x9 t9 B6 u1 u2 u3 u4 u5 H34 HC34 HU34 HI34 HT34
                    go_wp2_with fail
                    refine B6'.out.mono ?_; clear B6'; rintro e w36 ⟨rfl, hb36⟩
                    have HX' := Lib.hid (H9.out.later hb36)
                    have HC' := Lib.hid (HC9.out.later hb36)
                    have HU' := Lib.hid (HU9.out.later hb36)
                    have HI' := Lib.hid (HI9.out.kept (G := []) (Kept.of hb36) (by simp))
                    have HT' := Lib.hid (HT9.out.later hb36)
                    clear hb36 HC9 HU9 HI9 HT9 H9
                    go_wp2_with fail
                    go_roundw
                    case rel => exact ⟨j + 1, s2, F9, by omega, by go_num, PK2, HX', HC', HU', HI', NBL9, HT', N129⟩
                    case measure => simp [intOf]; omega
                  · obtain rfl : j = s.C := by omega
                    have z2 : decide ((s.C : Int) < (s.C : Int)) = false := decide_eq_false (by omega)
                    have HBL := Lib.hid HX.out.bel
                    go_wp2_with fail
                    refine (AW.out wr).mono ?_; rintro e w9 ⟨rfl, hb9⟩
                    have HB9 := Lib.hid (Below.step HBL.out hb9)
                    clear hb9
                    go_wp2_with fail
                    go_ret
                    exact ⟨rfl, HB9.out⟩
end Go.Proofs.YtapnaocdehahdaaGreat
