/-
  The walk of SchedRefused.
-/
import Derived.Test.YtapnaocdehahdaaGreatStB
import Derived.Test.YtapnaocdehahdaaGreatStA
namespace Go.Proofs.YtapnaocdehahdaaGreat
open Go.RowKit Go.Maps Go.IntWalk Go.Lib
set_option linter.unusedVariables false
set_option linter.unusedSimpArgs false
/-- State, as its user sees it -/
theorem StateX_at {w : World} {x : Nat} {F : List Nat} {s : SSt} (h : SIn w x F s) (ho : SOk s) (hF : ∀ b ∈ F, b < w.heap.size) : Calls Tryz.prog 16 #[.pointer (some ⟨x, 0, none⟩)] w fun e w' => ∃ a0 k0 a1 k1 a2 k2 a3 k3 a4 k4, e = .returned (.tuple #[.agg #[.int .i64 s.C, .int .u64 s.cr, .slice a0 s.n k0, .slice a1 s.C k1, .slice a2 s.C k2, .slice a3 s.c k3, .slice a4 s.n k4], .int .i64 0]) ∧ StaH F w' (.agg #[.int .i64 s.C, .int .u64 s.cr, .slice a0 s.n k0, .slice a1 s.C k1, .slice a2 s.C k2, .slice a3 s.c k3, .slice a4 s.n k4]) (staOf s) ∧ Below w.heap.size w w' := by
  obtain ⟨L, q, hL⟩ := h
  refine (State_at q ho).mono ?_
  rintro e w' ⟨v, rfl, h1, h2⟩
  have h3 := h1 F hF
  obtain ⟨vg, vl, vu, vt, vs, e, g1, l1, u1, t1, s1⟩ := h3.is
  obtain ⟨r1, r2, r3, -⟩ := s1.rows
  obtain ⟨a0, k0, e0, -⟩ := g1
  obtain ⟨a1, k1, e1, -⟩ := l1
  obtain ⟨a2, k2, e2, -⟩ := u1
  obtain ⟨a3, k3, e3, -⟩ := t1
  obtain ⟨a4, k4, e4, -⟩ := r3
  rw [staOf_cl] at e1
  rw [staOf_cu] at e2
  rw [staOf_ts ho] at e3
  rw [r2, staOf_sp] at e4
  replace e0 : vg = .slice a0 s.n k0 := e0
  replace e : v = .agg #[.int .i64 s.C, .int .u64 s.cr, vg, vl, vu, vt, vs] := e
  subst e e0 e1 e2 e3 e4
  exact ⟨a0, k0, a1, k1, a2, k2, a3, k3, a4, k4, rfl, h3, h2⟩
theorem refused {s : SSt} (h : SOk s) (o : OpV) (hne : (doR s o).2.1 ≠ 0) : (doR s o).1 = 0 ∧ (doR s o).2.2.wk = 0 ∧ staOf (doR s o).2.2 = staOf s := by
  obtain ⟨h1, h2⟩ := ((h.work 0).refuse o).ok hne
  refine ⟨h1, ?_, ?_⟩
  · rw [show (doR s o).2.2 = { s with wk := 0 } from h2]
  · rw [show (doR s o).2.2 = { s with wk := 0 } from h2]
    exact staOf_wk s 0
theorem no_kind {s : SSt} {o : OpV} (h : ¬ (1 ≤ o.kind ∧ o.kind ≤ 10)) : (doR s o).2.1 = 2 := by
  unfold doR
  rw [opR_0 h]
set_option maxRecDepth 100000 in
set_option maxHeartbeats 8000000 in
theorem SchedRefused_true (a0_0 : Int) (a0_1 : Int) (a0_2 : Int) (a0_3 : Int) (a0_4 : Int) (a0_5 : Int) (a0_6 : Int) (a0_7 : Int) (a0_8 : Int) (a0_9 : Int) (a0_10 : Int) (a0_11 : Int) (a0_12 : Int) (s1 : Option Addr) (l1 c1 : Nat) (F1 : Nat → Nat → Value) (s2 : Option Addr) (l2 c2 : Nat) (F2 : Nat → Nat → Value) (w : World) (g0_0 : (Lit.int .u8 a0_0).wf = true) (g0_1 : (Lit.int .u8 a0_1).wf = true) (g0_2 : (Lit.int .u32 a0_2).wf = true) (g0_3 : (Lit.int .u8 a0_3).wf = true) (g0_4 : (Lit.int .u8 a0_4).wf = true) (g0_5 : (Lit.int .u8 a0_5).wf = true) (g0_6 : (Lit.int .u8 a0_6).wf = true) (g0_7 : (Lit.int .u8 a0_7).wf = true) (g0_8 : (Lit.int .u16 a0_8).wf = true) (g0_9 : (Lit.int .u16 a0_9).wf = true) (g0_10 : (Lit.int .u16 a0_10).wf = true) (g0_11 : (Lit.int .u16 a0_11).wf = true) (g0_12 : (Lit.int .u16 a0_12).wf = true) (r1 : PlainRow scK w s1 l1 c1 F1) (r2 : PlainRow opK w s2 l2 c2 F2) :
    Calls Tryz.prog 3 #[.agg #[.int .u8 a0_0, .int .u8 a0_1, .int .u32 a0_2, .int .u8 a0_3, .int .u8 a0_4, .int .u8 a0_5, .int .u8 a0_6, .int .u8 a0_7, .int .u16 a0_8, .int .u16 a0_9, .int .u16 a0_10, .int .u16 a0_11, .int .u16 a0_12], .slice s1 l1 c1, .slice s2 l2 c2] w fun e w' => e = .returned (.bool true) ∧ Below w.heap.size w w' := by
  have A1 := Lib.hid fun W => Made5 a0_0 a0_1 a0_2 a0_3 a0_4 a0_5 a0_6 a0_7 a0_8 a0_9 a0_10 a0_11 a0_12 W (wf_u8 g0_0) (wf_u8 g0_1) (xf32 g0_2) ⟨wf_u8 g0_3, wf_u8 g0_4, wf_u8 g0_5, wf_u8 g0_6, wf_u8 g0_7⟩ ⟨xf16 g0_8, xf16 g0_9, xf16 g0_10, xf16 g0_11, xf16 g0_12⟩
  have AW := Lib.hid sawake_at
  obtain ⟨io, hi, hz0, hz1, hz2⟩ := info_parts infoOp
  obtain ⟨odd, hodd, hoddwf⟩ := ops_of r2
  obtain ⟨hle, hmax, hnn⟩ := srow_le r2
  have R1 := Lib.hid r1
  have RO := Lib.hid hodd
  have WO := Lib.hid hoddwf
  obtain ⟨m, hm⟩ : ∃ m, m = min l2 10 := ⟨_, rfl⟩
  have e0 : min (l2 : Int) 10 = (m : Int) := by omega
  have hml : m ≤ l2 := by omega
  have hm10 : m ≤ 10 := by omega
  have hmc : (m : Int) ≤ (c2 : Int) := by omega
  have hmc2 : m ≤ c2 := by omega
  clear r1 r2 hodd hoddwf hm g0_0 g0_1 g0_2 g0_3 g0_4 g0_5 g0_6 g0_7 g0_8 g0_9 g0_10 g0_11 g0_12
  go_enter Tryz.func3, Tryz.ntmps3
  go_wp2_with fail
  refine (A1.out _).mono ?_; clear A1; rintro e w1 ⟨Gs, v, C, cr, rfl, hr, hl6, hC1, hC4, hcr, hown, hb1⟩
  obtain ⟨bg, cg, rfl⟩ := own_pos hown hr.pos
  have hb1' := Below.step (below_a w _) hb1
  have A2 := Lib.hid (NewX_at (base := w) (C := C) (cr := cr) hb1' (own_recs encG_ok hown) hr ⟨hC1, by omega⟩ ⟨hcr.1, by omega⟩)
  have H0 := Lib.hid (SOk.begun (C := C) hr ⟨hC1, by omega⟩ (show 0 ≤ cr ∧ cr ≤ 1099511627776 from ⟨hcr.1, by omega⟩))
  clear hr hl6 hC1 hC4 hcr hown hb1 hb1'
  go_wp2_with fail
  refine A2.out.mono ?_; clear A2; rintro e w3 ⟨x, F0, rfl, hX, hb3, hF⟩
  have HX := Lib.hid hX
  have A4 := Lib.hid fun W (hb : Below w.heap.size w W) => Script_at s1 l1 c1 80 F1 W (srow_later R1.out hb) (by decide)
  clear hX hb3 hF
  go_upto_region 4 with fail
  go_cut [36, 37, 38] (fun s36 s37 s38 wx => ∃ a n c all, s36 = .slice a n c ∧ s37 = .int .i64 (n : Nat) ∧ s38 = .int .i64 0 ∧ n ≤ 90 ∧ Hid (∀ o ∈ all, OpV.Wf o) ∧ Hid (n = all.length) ∧ Hid (RecsAt encOl wx (.slice a n c) all) ∧ Hid (HeldR encOl F0 wx (.slice a n c) all) ∧ Hid (XW w x (firstS Gs C cr) wx F0))
  case first =>
    have hol : odd.length = l2 := by obtain ⟨p_, q_, e, _⟩ := RO.out; cases e; rfl
    have htl : (odd.take m).length = m := by rw [List.length_take, hol]; omega
    have hS0 : (fun w' : World => Below w.heap.size w w') (w3.drew) := HX.out.bel.drew
    refine wp_region_held_drew (S := fun w' : World => Below w.heap.size w w') (by kernel_rfl) hS0 (fun hHeld => ?_)
    have hS00 : Below w3.heap.size w3 w3 := Below.refl _ _
    obtain ⟨wc101, hwc101⟩ : ∃ X, X = w3.drew := ⟨_, rfl⟩
    rw [← hwc101] at hHeld ⊢
    have hWc101 : Below w3.heap.size w3 wc101 := by rw [hwc101]; exact (Below.refl _ _).drew
    clear hwc101
    refine takeA 0 ?_
    refine takeA 2 ?_
    refine takeA 3 ?_
    refine takeA 4 ?_
    refine takeA 5 ?_
    refine takeA 6 ?_
    refine takeA 9 ?_
    refine readyA [1] (consA (fun K hK => ?_) .nil)
    go_simp
    refine (A4.out wc101 (Below.step HX.out.bel hWc101)).mono ?_
    rintro e w102 ⟨v6, ops2, rfl, hwf2, hl2, hown2, hb102⟩
    have hW102 := Below.step hWc101 hb102
    have h1 := own_base hown2 (hWc101).size
    go_wp2_with fail
    refine outA hK (Below.step HX.out.bel hW102) (fun hHeld1 => ?_)
    clear hK K
    refine readyA [7] (consA (fun K hK => ?_) .nil)
    refine stepR rfl (.tmp 30) (.tmp 35) 29 rfl w3.heap.size 41 io (.agg #[.int .u8 0, .int .i64 0, .int .i64 0, .int .i64 0, .int .i64 0, .int .i64 0, .int .i64 0, .int .u64 0]) 8 64 encOw Tryz.underlying29 hi hz0 hz1 hz2 rfl _ _ _ rfl h1 _ (odd.take m) rfl ((RO.out.take encOw hml).later (Below.step HX.out.bel hW102)) (by rw [htl]; unfold maxLen; omega) (by rw [htl]; omega) hW102.size ?_
    intro v103 w103 oa hg103 hp103 hn103
    have hWz : Below w3.heap.size w3 w103 := hW102.grown hg103 hW102.size (fun g hg => (h1.lt g hg).1)
    rw [← flatR_app, htl] at oa
    obtain ⟨N, hN⟩ : ∃ N, N = ops2.length + m := ⟨_, rfl⟩
    rw [← hN] at oa
    obtain ⟨a, c, rfl⟩ := own_shapeW oa
    have HN := Lib.hid hN
    clear hN hp103 hn103
    refine outA hK (Below.step HX.out.bel hWz) (fun hHeld7 => ?_)
    clear hK K
    refine takeA 8 ?_
    refine doneA ?_
    have hall : N = (ops2 ++ odd.take m).length := by rw [HN.out, List.length_append, htl]
    have HVc := own_heldR (F := F0) encOw oa hall rfl (fun b hb => HX.out.lt b hb)
    have HXc := HX.out.later hWz
    have hw9 : ∀ o ∈ ops2 ++ odd.take m, OpV.Wf o := fun o ho => by
      rcases List.mem_append.1 ho with q | q
      · exact hwf2 o q
      · exact WO.out o (List.mem_of_mem_take q)
    have hl9 : ops2.length ≤ 80 := hl2
    have hn9 : N ≤ 90 := by have := HN.out; omega
    have hall := Lib.hid hall
    clear oa h1 hl9 hl2 htl hol hS0 hHeld hHeld7
    go_wp2_with fail
    go_meet
    case rel => exact ⟨a, N, c, _, rfl, rfl, rfl, hn9, Lib.hid hw9, hall, Lib.hid HVc.recs, Lib.hid HVc, Lib.hid HXc⟩
  case rest =>
    obtain ⟨a, n, c, all, rfl, rfl, rfl, hn90, hwf, hnl, -, hV, hXc⟩ := hcut
    clear HX A4
    go_wp2_with fail
    go_loopw [38] (fun iv wr => ∃ (k : Nat) (s : SSt) (F : List Nat), k ≤ n ∧ iv = .int .i64 k ∧ Hid (XW w x s wr F) ∧ Hid (SOk s) ∧ Hid (HeldR encOl F wr (.slice a n c) all)) (fun i _ => n - (intOf i).toNat)
    case atStart => exact ⟨0, _, F0, Nat.zero_le _, rfl, hXc, H0, hV⟩
    case round =>
      clear hXc hV H0
      obtain ⟨k, s, F, hk, rfl, HX, HO, HV⟩ := hrel
      by_cases hlt : k < n
      · have hki : (k : Int) < (n : Int) := by omega
        have z1 : decide ((k : Int) < (n : Int)) = true := decide_eq_true hki
        obtain ⟨b7, off, rfl, hcc⟩ : ∃ b off, a = some ⟨b, off, none⟩ ∧ ∀ j u, (flatR encOl all)[j]? = some u → wr.cell? ⟨b, off + j, none⟩ = some u := by
          obtain ⟨a, cap, e, _, _, _, q⟩ := HV.out
          cases e
          rcases q with q | ⟨b, off, e, _, hc⟩
          · have h9 : all.length = 0 := by rw [q]; rfl
            have := hnl.out
            omega
          · exact ⟨b, off, e, hc⟩
        have hka : k < all.length := by rw [← hnl.out]; exact hlt
        have hx : all[k]? = some all[k]! := by rw [getElem!_pos all k hka]; exact List.getElem?_eq_getElem hka
        have hcell : ∀ j u, (encOl all[k]!)[j]? = some u → wr.cell? ⟨b7, off + k * 8 + j, none⟩ = some u := fun j u hj => by
          have hj8 : j < 8 := (List.getElem?_eq_some_iff.1 hj).1
          have := hcc (k * 8 + j) u ((flatR_at encOw hx j hj8).trans (by rw [← hj]))
          rwa [← Nat.add_assoc] at this
        have hwfo := hwf.out all[k]! (by rw [getElem!_pos all k hka]; exact List.getElem_mem hka)
        obtain ⟨o, ho⟩ : ∃ o, o = all[k]! := ⟨_, rfl⟩
        rw [← ho] at hcell hwfo
        clear hcc hx ho
        have u0 : wr.cell? ⟨b7, off + k * 8 + 0, none⟩ = some (.int .u8 o.kind) := hcell 0 _ rfl
        have u1 : wr.cell? ⟨b7, off + k * 8 + 1, none⟩ = some (.int .i64 o.cpu) := hcell 1 _ rfl
        have u2 : wr.cell? ⟨b7, off + k * 8 + 2, none⟩ = some (.int .i64 o.task) := hcell 2 _ rfl
        have u3 : wr.cell? ⟨b7, off + k * 8 + 3, none⟩ = some (.int .i64 o.group) := hcell 3 _ rfl
        have u4 : wr.cell? ⟨b7, off + k * 8 + 4, none⟩ = some (.int .i64 o.weight) := hcell 4 _ rfl
        have u5 : wr.cell? ⟨b7, off + k * 8 + 5, none⟩ = some (.int .i64 o.dst) := hcell 5 _ rfl
        have u6 : wr.cell? ⟨b7, off + k * 8 + 6, none⟩ = some (.int .i64 o.ticks) := hcell 6 _ rfl
        have u7 : wr.cell? ⟨b7, off + k * 8 + 7, none⟩ = some (.int .u64 o.mask) := hcell 7 _ rfl
        rw [Nat.add_zero] at u0
        obtain ⟨W8, hW8⟩ : ∃ W, W = wr.alloc (.cells (cellsO o) 41) := ⟨_, rfl⟩
        have hb8 : Below wr.heap.size wr W8 := by rw [hW8]; exact below_a _ _
        have B8 := Lib.hid (show OpBox W8 wr.heap.size o by rw [hW8]; exact OpBox.new _ _ _)
        have N8 := Lib.hid (show wr.heap.size ∉ F from fun m => by have := HX.out.lt _ m; omega)
        have H8 := Lib.hid (HX.out.later hb8)
        have V8 := Lib.hid (HV.out.later hb8)
        have AS := Lib.hid (StateX_at H8.out.inn HO.out H8.out.lt)
        obtain ⟨s', hs'⟩ : ∃ s', s' = (doR s o).2.2 := ⟨_, rfl⟩
        obtain ⟨gt, hgt⟩ : ∃ g, g = (doR s o).1 := ⟨_, rfl⟩
        obtain ⟨er, her⟩ : ∃ g, g = (doR s o).2.1 := ⟨_, rfl⟩
        have HO' := Lib.hid (show SOk s' by rw [hs']; exact HO.out.done hwfo)
        have HRF := Lib.hid (show er ≠ 0 → gt = 0 ∧ s'.wk = 0 ∧ staOf s' = staOf s by rw [her, hgt, hs']; exact refused HO.out o)
        have HNK := Lib.hid (show ¬ (1 ≤ o.kind ∧ o.kind ≤ 10) → er = 2 by rw [her]; exact no_kind)
        have A5 := Lib.hid fun W (hb : Below W8.heap.size W8 W) => (show Calls Tryz.prog 17 #[.pointer (some ⟨x, 0, none⟩), encO o] W fun e w' => e = .returned (.tuple #[.int .i64 gt, .int .i64 er]) ∧ SAfter W x F s' w' by
          rw [hgt, her, hs']; exact DoX_at (H8.out.later hb).inn HO.out hwfo)
        unfold cellsO at hW8
        have HW8 := Lib.hid hW8
        obtain ⟨b8, hb8e⟩ : ∃ b, b = wr.heap.size := ⟨_, rfl⟩
        rw [← hb8e] at B8 N8
        have HB8E := Lib.hid hb8e
        have hko := hwfo.kind
        unfold encO at A5
        clear hcell hwfo hW8 hb8 hs' hgt her hb8e HX HV hka
        go_upto_region 7 with fail
        rw [← HW8.out, ← HB8E.out]
        clear u0 u1 u2 u3 u4 u5 u6 u7 HW8 HB8E
        go_wp2_with fail
        refine AS.out.mono ?_; clear AS; rintro e w9 ⟨d0, k0, d1, k1, d2, k2, d3, k3, d4, k4, rfl, hSt, hb9⟩
        obtain ⟨W10, hW10⟩ : ∃ W, W = w9.alloc (.cells #[.int .i64 s.C, .int .u64 s.cr, .slice d0 s.n k0, .slice d1 s.C k1, .slice d2 s.C k2, .slice d3 s.c k3, .slice d4 s.n k4] 46) := ⟨_, rfl⟩
        have hb10 := Below.step hb9 (show Below w9.heap.size w9 W10 by rw [hW10]; exact below_a _ _)
        have T10 := Lib.hid (show StB W10 w9.heap.size s.C s.cr (.slice d0 s.n k0) (.slice d1 s.C k1) (.slice d2 s.C k2) (.slice d3 s.c k3) (.slice d4 s.n k4) by rw [hW10]; exact StB.made _ _ _ _ _ _ _ _ _)
        have S10 := Lib.hid (hSt.later (show Below w9.heap.size w9 W10 by rw [hW10]; exact below_a _ _))
        have N10 := Lib.hid (show w9.heap.size ∉ F from fun m => by have := H8.out.lt _ m; have := hb9.size; omega)
        have H10 := Lib.hid (H8.out.later hb10)
        have V10 := Lib.hid (V8.out.later hb10)
        have A6 := Lib.hid (A5.out W10 hb10)
        have B10 := B8.out.later hb10
        have HW10 := Lib.hid hW10
        obtain ⟨b10, hb10e⟩ : ∃ b, b = w9.heap.size := ⟨_, rfl⟩
        rw [← hb10e] at T10 N10
        have HB10E := Lib.hid hb10e
        have q0 := B10.c0
        have q1 := B10.c1
        have q2 := B10.c2
        have q3 := B10.c3
        have q4 := B10.c4
        have q5 := B10.c5
        have q6 := B10.c6
        have q7 := B10.c7
        clear hSt hb9 hb10 hW10 A5 H8 V8 hb10e B10 B8
        go_upto_region 8 with fail
        rw [← HW10.out, ← HB10E.out]
        clear HW10 HB10E
        go_wp2_with fail
        refine A6.out.mono ?_; clear A6; rintro e w11 ⟨rfl, hA⟩
        obtain ⟨F9, x9, t9⟩ := H10.out.step hA
        have H11 := Lib.hid (show XW w x s' w11 F9 from x9)
        have q0' := t9.cell N8.out q0
        have T11 := Lib.hid (T10.out.kept t9.kept N10.out)
        have S11 := Lib.hid (S10.out.step t9.kept t9.new)
        have V11 := Lib.hid (V10.out.step t9.kept t9.new)
        have A7 := Lib.hid (StateX_at H11.out.inn HO'.out H11.out.lt)
        clear hA x9 t9 q0 q1 q2 q3 q4 q5 q6 q7 H10 V10 T10 S10 N8 N10
        go_wp2_with fail
        refine A7.out.mono ?_; clear A7; rintro e w12 ⟨g0, j0, g1, j1, g2, j2, g3, j3, g4, j4, rfl, hSt, hb12⟩
        obtain ⟨W13, hW13⟩ : ∃ W, W = w12.alloc (.cells #[.int .i64 s'.C, .int .u64 s'.cr, .slice g0 s'.n j0, .slice g1 s'.C j1, .slice g2 s'.C j2, .slice g3 s'.c j3, .slice g4 s'.n j4] 46) := ⟨_, rfl⟩
        have hb13 := Below.step hb12 (show Below w12.heap.size w12 W13 by rw [hW13]; exact below_a _ _)
        have T13 := show StB W13 w12.heap.size s'.C s'.cr (.slice g0 s'.n j0) (.slice g1 s'.C j1) (.slice g2 s'.C j2) (.slice g3 s'.c j3) (.slice g4 s'.n j4) by rw [hW13]; exact StB.made _ _ _ _ _ _ _ _ _
        have U13 := T11.out.later hb13
        have S13 := Lib.hid (hSt.later (show Below w12.heap.size w12 W13 by rw [hW13]; exact below_a _ _))
        have P13 := Lib.hid (S11.out.later hb13)
        have H13 := Lib.hid (H11.out.later hb13)
        have V13 := Lib.hid (V11.out.later hb13)
        have p0 := cell_later hb13 q0'
        have HW13 := Lib.hid hW13
        obtain ⟨b13, hb13e⟩ : ∃ b, b = w12.heap.size := ⟨_, rfl⟩
        rw [← hb13e] at T13
        have HB13E := Lib.hid hb13e
        have A8 := Lib.hid (WorkX_at H13.out.inn HO'.out)
        have A9 := Lib.hid fun (he : er ≠ 0) => SameStateS_at _ _ (staOf s) W13 (P13.out.step (F' := []) (Kept.refl _ _) (fun b q => by cases q)) (by rw [← (HRF.out he).2.2]; exact S13.out.step (F' := []) (Kept.refl _ _) (fun b q => by cases q)) (staOf_small HO.out)
        have t0 := T13.c0
        have t1 := T13.c1
        have t2 := T13.c2
        have t3 := T13.c3
        have t4 := T13.c4
        have t5 := T13.c5
        have t6 := T13.c6
        have v0 := U13.c0
        have v1 := U13.c1
        have v2 := U13.c2
        have v3 := U13.c3
        have v4 := U13.c4
        have v5 := U13.c5
        have v6 := U13.c6
        clear hSt hb12 hW13 hb13 T11 S11 H11 V11 q0' hb13e T13 U13
        go_upto_region 10 with fail
        rw [← HW13.out, ← HB13E.out]
        clear HW13 HB13E
        by_cases he : er = 0
        · have hke : 1 ≤ o.kind ∧ o.kind ≤ 10 := Decidable.byContradiction fun q => by have := HNK.out q; omega
          have w1 : decide (o.kind < 1) = false := decide_eq_false (by omega)
          have w2 : decide (o.kind > 10) = false := decide_eq_false (by omega)
          have w2' : decide (10 < o.kind) = false := decide_eq_false (by omega)
          have z5 : (er != 0) = false := by rw [he]; rfl
          clear he hke hko A9
          go_wp2_with fail
          go_roundw
          case rel => exact ⟨k + 1, s', F9, by omega, by go_num, H13, HO', V13⟩
          case measure => simp [intOf]; omega
        · have z5 : (er != 0) = true := bne_iff_ne.2 he
          have hg := (HRF.out he).1
          have hw := (HRF.out he).2.1
          rw [hw] at A8
          have AE := Lib.hid (A9.out he)
          have HG := Lib.hid hg
          have z6 : (gt != 0) = false := by rw [hg]; rfl
          clear he hg hw A9
          by_cases hk1 : o.kind < 1
          · have w1 : decide (o.kind < 1) = true := decide_eq_true hk1
            have he2 := HNK.out (by omega)
            have z7 : (er != 2) = false := by rw [he2]; rfl
            clear he2
            clear hko
            go_wp2_with fail
            refine A8.out.mono ?_; rintro e w_ ⟨rfl, rfl⟩
            go_wp2_with fail
            refine AE.out.mono ?_; rintro e w14 ⟨rfl, hb14⟩
            have p0b := cell_later hb14 p0
            have H14 := Lib.hid (H13.out.later hb14)
            have V14 := Lib.hid (V13.out.later hb14)
            clear hb14 p0 t0 t1 t2 t3 t4 t5 t6 v0 v1 v2 v3 v4 v5 v6
            go_wp2_with fail
            go_roundw
            case rel => exact ⟨k + 1, s', F9, by omega, by go_num, H14, HO', V14⟩
            case measure => simp [intOf]; omega
          · have w1 : decide (o.kind < 1) = false := decide_eq_false hk1
            by_cases hk2 : o.kind > 10
            · have w2 : decide (o.kind > 10) = true := decide_eq_true hk2
              have w2' : decide (10 < o.kind) = true := decide_eq_true hk2
              have he2 := HNK.out (by omega)
              have z7 : (er != 2) = false := by rw [he2]; rfl
              clear he2
              clear hko
              go_wp2_with fail
              refine A8.out.mono ?_; rintro e w_ ⟨rfl, rfl⟩
              go_wp2_with fail
              refine AE.out.mono ?_; rintro e w14 ⟨rfl, hb14⟩
              have p0b := cell_later hb14 p0
              have H14 := Lib.hid (H13.out.later hb14)
              have V14 := Lib.hid (V13.out.later hb14)
              clear hb14 p0 t0 t1 t2 t3 t4 t5 t6 v0 v1 v2 v3 v4 v5 v6
              go_wp2_with fail
              go_roundw
              case rel => exact ⟨k + 1, s', F9, by omega, by go_num, H14, HO', V14⟩
              case measure => simp [intOf]; omega
            · have w2 : decide (o.kind > 10) = false := decide_eq_false hk2
              have w2' : decide (10 < o.kind) = false := decide_eq_false hk2
              clear hk1 hk2 hko
              go_wp2_with fail
              refine A8.out.mono ?_; rintro e w_ ⟨rfl, rfl⟩
              go_wp2_with fail
              refine AE.out.mono ?_; rintro e w14 ⟨rfl, hb14⟩
              have p0b := cell_later hb14 p0
              have H14 := Lib.hid (H13.out.later hb14)
              have V14 := Lib.hid (V13.out.later hb14)
              clear hb14 p0 t0 t1 t2 t3 t4 t5 t6 v0 v1 v2 v3 v4 v5 v6
              go_wp2_with fail
              go_roundw
              case rel => exact ⟨k + 1, s', F9, by omega, by go_num, H14, HO', V14⟩
              case measure => simp [intOf]; omega
      · obtain rfl : n = k := by omega
        have z1 : decide ((n : Int) < (n : Int)) = false := decide_eq_false (by omega)
        have HBL := Lib.hid HX.out.bel
        go_wp2_with fail
        refine (AW.out wr).mono ?_; rintro e w9 ⟨rfl, hb9⟩
        have HB9 := Lib.hid (Below.step HBL.out hb9)
        clear hb9
        go_wp2_with fail
        go_ret
        exact ⟨rfl, HB9.out⟩
end Go.Proofs.YtapnaocdehahdaaGreat
