/-
  QueueOne: what is charged or weighed is what layer 22 makes of it; all others stay.
-/
import Derived.Test.YtekjakmeopolhaaQueueD
namespace Go.Proofs.Ytekjakmeopolhaa
open Go.RowKit Go.Maps Go.IntWalk Go.Lib
set_option linter.unusedVariables false
set_option linter.unusedSimpArgs false
theorem getE_some {M : Mems} {id : Int} {x : Ent} (h : entM M id = some x) : getE M id = x ∧ (entM M id).isSome = true := by unfold getE; rw [h]; exact ⟨rfl, rfl⟩
theorem wf_u32 {x : Int} (h : (Lit.int .u32 x).wf = true) : 0 ≤ x ∧ x ≤ 4294967295 := by
  simp only [Lit.wf, Bool.and_eq_true, decide_eq_true_eq, IntKind.min, IntKind.max, IntKind.bits, IntKind.signed] at h
  simp at h
  omega
theorem out_putM (m : Int × Ent) : ∀ A : Mems, outM (putM A m) m.1 = outM A m.1
  | [] => by simp [putM, outM]
  | y :: r => by
    unfold putM
    split
    · have ih := out_putM m r
      unfold outM at ih ⊢
      rw [List.filter_cons, List.filter_cons, ih]
    · unfold outM
      rw [List.filter_cons]
      simp
theorem filter_ch (M : Mems) (id : Int) (y : Ent) : outM (chM M id y) id = outM M id := by
  unfold chM
  rw [out_putM (id, y)]
  unfold outM
  rw [List.filter_filter]
  simp
/-- a list's others, one more -/
theorem out_take {M : Mems} {k : Nat} (hk : k < M.length) (id : Int) : outM (M.take (k + 1)) id = outM (M.take k) id ++ (if M[k]!.1 = id then [] else [M[k]!]) := by
  rw [List.take_add_one, List.getElem?_eq_getElem hk, getElem!_pos M k hk]
  unfold outM
  rw [List.filter_append]
  by_cases e : M[k].1 = id
  · simp [e]
  · simp [e]
set_option maxRecDepth 100000 in
set_option maxHeartbeats 4000000 in
theorem QueueOne_true (s0 : Option Addr) (l0 c0 : Nat) (F0 : Nat → Nat → Value) (which ticks wt : Int) (weigh : Bool) (w : World) (r0 : PlainRow [some .u16, some .u16, some .u16] w s0 l0 c0 F0) (g1 : (Lit.int .u8 which).wf = true) (g2 : (Lit.int .u32 ticks).wf = true) (g3 : (Lit.int .u32 wt).wf = true) :
    Calls Try.prog 6 #[.slice s0 l0 c0, .int .u8 which, .int .u32 ticks, .int .u32 wt, .bool weigh] w fun e w' => e = .returned (.bool true) ∧ Below w.heap.size w w' := by
  obtain ⟨ii, hi, hz0, hz1, hz2⟩ := info_parts infoMember
  obtain ⟨xs, hx⟩ := small_of r0
  have A1 := filled_any s0 l0 c0 xs w hx
  obtain ⟨m, hm⟩ : ∃ m, m = min l0 30 := ⟨_, rfl⟩
  have hm30 : m ≤ 30 := by omega
  rw [← hm] at A1
  have b1 := wf_u8 g1
  obtain ⟨wi, rfl⟩ : ∃ k : Nat, which = (k : Int) := ⟨which.toNat, by omega⟩
  have hwi0 : (0 : Int) ≤ (wi : Int) := by omega
  have hwi1 : (wi : Int) ≤ 255 := b1.2
  obtain ⟨M, hM⟩ : ∃ M, M = fillM xs m := ⟨_, rfl⟩
  unfold QFilledP at A1
  rw [← hM] at A1
  have HL := Lib.hid (show M.length = m by rw [hM]; exact fillM_len _ _)
  have HE := Lib.hid (show ∀ j : Nat, j < m → ∃ y, entM M (j : Int) = some y by intro j hj; rw [hM]; exact ⟨_, fillM_ent _ _ _ hj⟩)
  have HA1 := Lib.hid A1
  have AW := Lib.hid fun W => awake_any W
  clear A1 hx r0 hm hM b1 g1
  go_enter Try.func6, Try.ntmps6
  go_wp2_with fail
  refine HA1.out.mono ?_
  rintro e w1 ⟨q, F1, fl, rfl, h1⟩
  have H1 := Lib.hid h1
  have HK := Lib.hid h1.inn.ids
  clear h1
  by_cases hm0 : m = 0
  · have zz : ((m : Int) == 0) = true := by simp [hm0]
    go_wp2_with fail
    refine (AW.out w1).mono ?_
    rintro e w9 ⟨rfl, hb9⟩
    have HB9 := Lib.hid (Below.step H1.out.bel hb9)
    clear hb9
    go_wp2_with fail
    go_ret
    exact ⟨rfl, HB9.out⟩
  · have zz : ((m : Int) == 0) = false := by simp; omega
    have hmm : (m : Int) ≠ 0 := by omega
    have hmp : (0 : Int) < (m : Int) := by omega
    have hj := Nat.mod_lt wi (show 0 < m by omega)
    have hje : (wi : Int) % (m : Int) = ((wi % m : Nat) : Int) := (Int.natCast_emod _ _).symm
    generalize wi % m = j at *
    obtain ⟨⟨y1, y2, y3⟩, hy⟩ := HE.out j hj
    have HG := Lib.hid (getE_some hy)
    have HWF := Lib.hid (show (Lit.int .i64 (j : Int)).wf = true from WalkArith.wf_i64 (n := (j : Int)) (by omega))
    have HY := Lib.hid hy
    have HJ := Lib.hid hj
    clear hy hj
    go_wp2_with fail
    refine (Get_at (j : Int) w1 H1.out.inn HWF.out).mono ?_
    rintro e w11 ⟨rfl, hb⟩
    rw [HG.out.1, HG.out.2]
    have t12 : Step F1 w1 F1 w11 := Step.of hb
    have H12 := Lib.hid (H1.out.later hb)
    clear t12
    clear hb
    have hlt := H12.out.inn.lt
    have hb : Below w11.heap.size w11 (w11.alloc (.cells #[.int .u64 y1, .int .u32 y2, .int .u32 y3] 32)) := below_a _ _
    have t14 : Step F1 w11 F1 (w11.alloc (.cells #[.int .u64 y1, .int .u32 y2, .int .u32 y3] 32)) := Step.of hb
    have H14 := Lib.hid (H12.out.later hb)
    clear t14
    have x0 : (w11.alloc (.cells #[.int .u64 y1, .int .u32 y2, .int .u32 y3] 32)).cell? ⟨w11.heap.size, 0, none⟩ = some (.int .u64 y1) := cell_nw _ _ _ 0 _ rfl
    have x1 : (w11.alloc (.cells #[.int .u64 y1, .int .u32 y2, .int .u32 y3] 32)).cell? ⟨w11.heap.size, 1, none⟩ = some (.int .u32 y2) := cell_nw _ _ _ 1 _ rfl
    have x2 : (w11.alloc (.cells #[.int .u64 y1, .int .u32 y2, .int .u32 y3] 32)).cell? ⟨w11.heap.size, 2, none⟩ = some (.int .u32 y3) := cell_nw _ _ _ 2 _ rfl
    have ox : w11.heap.size ∉ F1 := fun m => by have := hlt _ m; omega
    have lx := lt_of_cell x0
    have hS_x := Lib.hid (show (w11.alloc (.cells #[.int .u64 y1, .int .u32 y2, .int .u32 y3] 32)).heap.size = w11.heap.size + 1 by simp)
    clear hb hlt
    go_wp2_with fail
    generalize (w11.alloc (.cells #[.int .u64 y1, .int .u32 y2, .int .u32 y3] 32)) = W13 at *
    generalize w11.heap.size = b_x at *
    go_wp2_with fail
    refine (QAll_at W13 H14.out.inn).mono ?_
    rintro e w15 ⟨v15, rfl, hr15, hb⟩
    have VA := Lib.hid (held_own hr15 hb H14.out.inn.lt)
    obtain ⟨a15, c15, rfl, -⟩ := id VA.out
    clear hr15
    have t16 : Step F1 W13 F1 w15 := Step.of hb
    have H16 := Lib.hid (H14.out.later hb)
    replace x0 := t16.cell ox x0
    replace x1 := t16.cell ox x1
    replace x2 := t16.cell ox x2
    replace ox := t16.off ox lx
    replace lx := lt_of_cell x0
    clear t16
    clear hb
    go_wp2_with fail
    go_loopw [17, 52] (fun o i wr => ∃ k : Nat, k ≤ m ∧ i = .int .i64 k ∧ Below w15.heap.size w15 wr ∧ wr.ownsRow w15.heap.size 43 4 o (outM (M.take k) (j : Int)).length (flatR encMs (outM (M.take k) (j : Int)))) (fun _ i _ => m - (intOf i).toNat)
    case atStart => exact ⟨0, Nat.zero_le _, rfl, Below.refl _ _, World.ownsRow_nil _ _ _ _⟩
    case round =>
      obtain ⟨k, hk, rfl, hB, hR⟩ := hrel
      have HB := Lib.hid hB
      have HR := Lib.hid hR
      clear hB hR
      by_cases hlt : k < m
      · obtain ⟨hkM, b, off, rfl, i0, i1, i2, i3⟩ := VA.out.recs.mem (i := k) (by rw [HL.out]; exact hlt)
        have HT := Lib.hid (out_take hkM (j : Int))
        obtain ⟨x, hx⟩ : ∃ x, x = M[k]! := ⟨_, rfl⟩
        rw [← hx] at i0 i1 i2 i3
        replace i0 := cell_later HB.out i0
        replace i1 := cell_later HB.out i1
        replace i2 := cell_later HB.out i2
        replace i3 := cell_later HB.out i3
        have hk0 : (0 : Int) ≤ (k : Int) := by omega
        have hkm : (k : Int) < (m : Int) := by omega
        have hkl : (k : Int) < (M.length : Int) := by omega
        have HX := Lib.hid hx
        clear hx
        by_cases hid : x.1 = (j : Int)
        · have z0 : (x.1 != (j : Int)) = false := by simp [hid]
          have he : outM (M.take (k + 1)) (j : Int) = outM (M.take k) (j : Int) := by rw [HT.out, ← HX.out, if_pos hid, List.append_nil]
          have HE2 := Lib.hid he
          clear he
          go_wp2_with fail
          go_roundw
          case rel => exact ⟨k + 1, by omega, by go_num, Below.allocS HB.out _, by rw [HE2.out]; exact HR.out.alloc _⟩
          case measure => simp [intOf]; omega
        · have z0 : (x.1 != (j : Int)) = true := by simp [hid]
          have hlen : (outM (M.take k) (j : Int)).length ≤ 30 := by
            have h1 : (outM (M.take k) (j : Int)).length ≤ (M.take k).length := List.length_filter_le _ _
            rw [List.length_take] at h1
            omega
          have hsz := HB.out.size
          go_wp2_with (at_builtin; refine wpList_append_own _ rfl (.tmp 60) (.tmp 62) 28 rfl w15.heap.size 43 ii (.agg #[.int .i64 0, .int .u64 0, .int .u32 0, .int .u32 0]) 4 24 Try.underlying28 hi hz0 hz1 hz2 rfl (by decide) _ _ _ rfl ((HR.out.alloc _).alloc _) ⟨wr.heap.size + 1, 0, none⟩ 1 1 (encMs x) rfl rfl ?c1 (encMs_ok.one x) (by unfold maxLen; omega) (by omega) (by simp; omega) ?_)
          case c1 =>
            intro t u hu
            rw [addr_add, Nat.zero_add]
            exact cell_nwE (by simp) _ _ _ _ (by simpa [encMs] using hu)
          intro v2 w2 hown2 hgrow2 _
          have hb2 : Below w15.heap.size w15 w2 := (Below.allocS (Below.allocS HB.out _) _).grown hgrow2 (by simp; omega) (fun t ht => (HR.out.lt t ht).1)
          have he : flatR encMs (outM (M.take (k + 1)) (j : Int)) = flatR encMs (outM (M.take k) (j : Int)) ++ encMs x ∧ (outM (M.take (k + 1)) (j : Int)).length = (outM (M.take k) (j : Int)).length + 1 := by
            rw [HT.out, ← HX.out, if_neg hid]
            simp [flatR]
          have HE2 := Lib.hid he
          have HO2 := Lib.hid hown2
          have HB2 := Lib.hid hb2
          clear he hown2 hb2 hgrow2
          go_wp2_with fail
          go_roundw
          case rel => exact ⟨k + 1, by omega, by go_num, HB2.out, by rw [HE2.out.1, HE2.out.2]; exact HO2.out⟩
          case measure => simp [intOf]; omega
      · have hkm : k = m := by omega
        have l1 : decide ((k : Int) < (M.length : Int)) = false := decide_eq_false (by rw [HL.out]; omega)
        have l2 : decide (k < M.length) = false := decide_eq_false (by rw [HL.out]; omega)
        have l3 : (k < M.length) = False := eq_false (by rw [HL.out]; omega)
        obtain ⟨wo, rfl⟩ : ∃ wo : World, wo = wr := ⟨_, rfl⟩
        have hall : outM (M.take k) (j : Int) = outM M (j : Int) := by rw [List.take_of_length_le (by rw [HL.out]; omega)]
        have VO := Lib.hid (show HeldR encMs F1 wo _ (outM M (j : Int)) from own_heldR encMs_ok HR.out (by rw [hall]) (by rw [hall]) H16.out.inn.lt)
        have H17 := Lib.hid (H16.out.later HB.out)
        replace x0 := cell_later HB.out x0
        replace x1 := cell_later HB.out x1
        replace x2 := cell_later HB.out x2
        replace lx := lt_of_cell x0
        clear hall hkm hlt hk
        have hoy := HK.out.1.ok _ ((ent_some HK.out.1.nod).1 HY.out)
        have bt := wf_u32 g2
        have bw := wf_u32 g3
        have AD := Lib.hid fun W => Add_ok y1 y2 y3 ticks W hoy bt
        obtain ⟨gg, hgg⟩ : ∃ gg, gg = 1 + wt % 65536 := ⟨_, rfl⟩
        have z8 : (1 + wt.tmod 65536) % 4294967296 = gg := by rw [Int.tmod_eq_emod_of_nonneg bw.1]; omega
        have hg0 : 1 ≤ gg ∧ gg ≤ 65536 := by omega
        have AWG := Lib.hid fun W => Weigh_ok y1 y2 y3 gg W hoy hg0
        have HG0 := Lib.hid hg0
        clear hgg hg0
        have HOY := Lib.hid hoy
        have BT := Lib.hid bt
        have BW := Lib.hid bw
        have hbt0 : 0 ≤ ticks := bt.1
        have hbt1 : ticks ≤ 4294967295 := bt.2
        clear hoy bt bw g2 g3
        generalize hea : Ch.addV y1 y2 y3 ticks = ea at *
        generalize heb : Ch.addR y1 y2 y3 ticks = eb at *
        go_wp2_with fail
        refine (AD.out wo).mono ?_
        rintro e w41 ⟨rfl, hb⟩
        have t42 : Step F1 wo F1 w41 := Step.of hb
        have H42 := Lib.hid (H17.out.later hb)
        replace x0 := t42.cell ox x0
        replace x1 := t42.cell ox x1
        replace x2 := t42.cell ox x2
        replace ox := t42.off ox lx
        replace lx := lt_of_cell x0
        replace VO := Lib.hid (VO.out.step t42.kept t42.new)
        clear t42
        clear hb
        have sx0 := Lib.hid x0
        have sx1 := Lib.hid x1
        have sx2 := Lib.hid x2
        have sVO := VO
        have HEA := Lib.hid (And.intro hea heb)
        clear hea heb
        cases weigh with
        | false =>
          have hlt := H42.out.inn.lt
          have hb : Below w41.heap.size w41 (w41.alloc (.cells #[.int .u64 ea, .int .u32 eb, .int .u32 y3] 32)) := below_a _ _
          have t44 : Step F1 w41 F1 (w41.alloc (.cells #[.int .u64 ea, .int .u32 eb, .int .u32 y3] 32)) := Step.of hb
          have H44 := Lib.hid (H42.out.later hb)
          replace x0 := t44.cell ox x0
          replace x1 := t44.cell ox x1
          replace x2 := t44.cell ox x2
          replace ox := t44.off ox lx
          replace lx := lt_of_cell x0
          replace VO := Lib.hid (VO.out.step t44.kept t44.new)
          clear t44
          have d0 : (w41.alloc (.cells #[.int .u64 ea, .int .u32 eb, .int .u32 y3] 32)).cell? ⟨w41.heap.size, 0, none⟩ = some (.int .u64 ea) := cell_nw _ _ _ 0 _ rfl
          have d1 : (w41.alloc (.cells #[.int .u64 ea, .int .u32 eb, .int .u32 y3] 32)).cell? ⟨w41.heap.size, 1, none⟩ = some (.int .u32 eb) := cell_nw _ _ _ 1 _ rfl
          have d2 : (w41.alloc (.cells #[.int .u64 ea, .int .u32 eb, .int .u32 y3] 32)).cell? ⟨w41.heap.size, 2, none⟩ = some (.int .u32 y3) := cell_nw _ _ _ 2 _ rfl
          have od : w41.heap.size ∉ F1 := fun m => by have := hlt _ m; omega
          have ld := lt_of_cell d0
          have hS_d := Lib.hid (show (w41.alloc (.cells #[.int .u64 ea, .int .u32 eb, .int .u32 y3] 32)).heap.size = w41.heap.size + 1 by simp)
          clear hb hlt
          go_wp2_with fail
          generalize (w41.alloc (.cells #[.int .u64 ea, .int .u32 eb, .int .u32 y3] 32)) = W43 at *
          generalize w41.heap.size = b_d at *
          obtain ⟨p1, p2⟩ := chc_there (has_true (n := 30) (id := (j : Int)) (by omega) (by have := HJ.out; omega)) HY.out (chgX ticks)
          have hX : chgX ticks (y1, y2, y3) = (ea, eb, y3) := by unfold chgX; rw [← HEA.out.1, ← HEA.out.2]
          rw [hX] at p2
          clear hX
          go_wp2_with fail
          refine (Charge_at (j : Int) ticks W43 H44.out.inn HWF.out).mono ?_
          rintro e w45 ⟨rfl, hA⟩
          rw [show decide (tkOk ticks) = true from decide_eq_true BT.out] at *
          rw [p1]
          rw [p2] at hA
          clear p1 p2
          obtain ⟨F46, h46, t46⟩ := H44.out.step hA
          have H46 := Lib.hid (show QW w q 30 (chM M (j : Int) (ea, eb, y3)) _ w45 F46 from h46)
          replace x0 := t46.cell ox x0
          replace x1 := t46.cell ox x1
          replace x2 := t46.cell ox x2
          replace ox := t46.off ox lx
          replace lx := lt_of_cell x0
          replace d0 := t46.cell od d0
          replace d1 := t46.cell od d1
          replace d2 := t46.cell od d2
          replace od := t46.off od ld
          replace ld := lt_of_cell d0
          replace VO := Lib.hid (VO.out.step t46.kept t46.new)
          clear t46 h46 hA
          have HG2 := Lib.hid (getE_some (show entM (chM M (j : Int) (ea, eb, y3)) (j : Int) = some (ea, eb, y3) by rw [ch_ent HK.out.1.nod, if_pos rfl]))
          have z5 : eq3 ea eb y3 ea eb y3 = true := by simp [eq3]
          go_wp2_with fail
          refine (Get_at (j : Int) w45 H46.out.inn HWF.out).mono ?_
          rintro e w47 ⟨rfl, hb⟩
          rw [HG2.out.1, HG2.out.2]
          have t48 : Step F46 w45 F46 w47 := Step.of hb
          have H48 := Lib.hid (H46.out.later hb)
          replace x0 := t48.cell ox x0
          replace x1 := t48.cell ox x1
          replace x2 := t48.cell ox x2
          replace ox := t48.off ox lx
          replace lx := lt_of_cell x0
          replace d0 := t48.cell od d0
          replace d1 := t48.cell od d1
          replace d2 := t48.cell od d2
          replace od := t48.off od ld
          replace ld := lt_of_cell d0
          replace VO := Lib.hid (VO.out.step t48.kept t48.new)
          clear t48
          clear hb
          have hlt := H48.out.inn.lt
          have hb : Below w47.heap.size w47 (w47.alloc (.cells #[.int .u64 ea, .int .u32 eb, .int .u32 y3] 32)) := below_a _ _
          have t50 : Step F46 w47 F46 (w47.alloc (.cells #[.int .u64 ea, .int .u32 eb, .int .u32 y3] 32)) := Step.of hb
          have H50 := Lib.hid (H48.out.later hb)
          replace x0 := t50.cell ox x0
          replace x1 := t50.cell ox x1
          replace x2 := t50.cell ox x2
          replace ox := t50.off ox lx
          replace lx := lt_of_cell x0
          replace d0 := t50.cell od d0
          replace d1 := t50.cell od d1
          replace d2 := t50.cell od d2
          replace od := t50.off od ld
          replace ld := lt_of_cell d0
          replace VO := Lib.hid (VO.out.step t50.kept t50.new)
          clear t50
          have e0 : (w47.alloc (.cells #[.int .u64 ea, .int .u32 eb, .int .u32 y3] 32)).cell? ⟨w47.heap.size, 0, none⟩ = some (.int .u64 ea) := cell_nw _ _ _ 0 _ rfl
          have e1 : (w47.alloc (.cells #[.int .u64 ea, .int .u32 eb, .int .u32 y3] 32)).cell? ⟨w47.heap.size, 1, none⟩ = some (.int .u32 eb) := cell_nw _ _ _ 1 _ rfl
          have e2 : (w47.alloc (.cells #[.int .u64 ea, .int .u32 eb, .int .u32 y3] 32)).cell? ⟨w47.heap.size, 2, none⟩ = some (.int .u32 y3) := cell_nw _ _ _ 2 _ rfl
          have oe : w47.heap.size ∉ F46 := fun m => by have := hlt _ m; omega
          have le := lt_of_cell e0
          have hS_e := Lib.hid (show (w47.alloc (.cells #[.int .u64 ea, .int .u32 eb, .int .u32 y3] 32)).heap.size = w47.heap.size + 1 by simp)
          clear hb hlt
          go_wp2_with fail
          generalize (w47.alloc (.cells #[.int .u64 ea, .int .u32 eb, .int .u32 y3] 32)) = W49 at *
          generalize w47.heap.size = b_e at *
          go_wp2_with fail
          refine (QAll_at W49 H50.out.inn).mono ?_
          rintro e w51 ⟨v51, rfl, hr51, hb⟩
          have VB := Lib.hid (held_own hr51 hb H50.out.inn.lt)
          obtain ⟨a51, c51, rfl, -⟩ := id VB.out
          clear hr51
          have t52 : Step F46 W49 F46 w51 := Step.of hb
          have H52 := Lib.hid (H50.out.later hb)
          replace x0 := t52.cell ox x0
          replace x1 := t52.cell ox x1
          replace x2 := t52.cell ox x2
          replace ox := t52.off ox lx
          replace lx := lt_of_cell x0
          replace d0 := t52.cell od d0
          replace d1 := t52.cell od d1
          replace d2 := t52.cell od d2
          replace od := t52.off od ld
          replace ld := lt_of_cell d0
          replace e0 := t52.cell oe e0
          replace e1 := t52.cell oe e1
          replace e2 := t52.cell oe e2
          replace oe := t52.off oe le
          replace le := lt_of_cell e0
          replace VO := Lib.hid (VO.out.step t52.kept t52.new)
          clear t52
          clear hb
          go_wp2_with fail
          have HL2 := Lib.hid (show (chM M (j : Int) (ea, eb, y3)).length = m by rw [← HL.out]; exact ch_len HK.out.1.nod HY.out _)
          go_loopw [25, 120] (fun o i wr => ∃ k : Nat, k ≤ m ∧ i = .int .i64 k ∧ Below w51.heap.size w51 wr ∧ wr.ownsRow w51.heap.size 43 4 o (outM ((chM M (j : Int) (ea, eb, y3)).take k) (j : Int)).length (flatR encMs (outM ((chM M (j : Int) (ea, eb, y3)).take k) (j : Int)))) (fun _ i _ => m - (intOf i).toNat)
          case atStart => exact ⟨0, Nat.zero_le _, rfl, Below.refl _ _, World.ownsRow_nil _ _ _ _⟩
          case round =>
            obtain ⟨k, hk, rfl, hB, hR⟩ := hrel
            have HB := Lib.hid hB
            have HR := Lib.hid hR
            clear hB hR
            by_cases hlt : k < m
            · obtain ⟨hkM, b, off, rfl, i0, i1, i2, i3⟩ := VB.out.recs.mem (i := k) (by rw [HL2.out]; exact hlt)
              have HT := Lib.hid (out_take hkM (j : Int))
              obtain ⟨x, hx⟩ : ∃ x, x = ((chM M (j : Int) (ea, eb, y3)))[k]! := ⟨_, rfl⟩
              rw [← hx] at i0 i1 i2 i3
              replace i0 := cell_later HB.out i0
              replace i1 := cell_later HB.out i1
              replace i2 := cell_later HB.out i2
              replace i3 := cell_later HB.out i3
              have hk0 : (0 : Int) ≤ (k : Int) := by omega
              have hkm : (k : Int) < (m : Int) := by omega
              have hkl : (k : Int) < (((chM M (j : Int) (ea, eb, y3))).length : Int) := by omega
              have HX := Lib.hid hx
              clear hx
              by_cases hid : x.1 = (j : Int)
              · have z0 : (x.1 != (j : Int)) = false := by simp [hid]
                have he : outM ((chM M (j : Int) (ea, eb, y3)).take (k + 1)) (j : Int) = outM ((chM M (j : Int) (ea, eb, y3)).take k) (j : Int) := by rw [HT.out, ← HX.out, if_pos hid, List.append_nil]
                have HE2 := Lib.hid he
                clear he
                go_wp2_with fail
                go_roundw
                case rel => exact ⟨k + 1, by omega, by go_num, Below.allocS HB.out _, by rw [HE2.out]; exact HR.out.alloc _⟩
                case measure => simp [intOf]; omega
              · have z0 : (x.1 != (j : Int)) = true := by simp [hid]
                have hlen : (outM ((chM M (j : Int) (ea, eb, y3)).take k) (j : Int)).length ≤ 30 := by
                  have h1 : (outM ((chM M (j : Int) (ea, eb, y3)).take k) (j : Int)).length ≤ ((chM M (j : Int) (ea, eb, y3)).take k).length := List.length_filter_le _ _
                  rw [List.length_take] at h1
                  omega
                have hsz := HB.out.size
                go_wp2_with (at_builtin; refine wpList_append_own _ rfl (.tmp 128) (.tmp 130) 28 rfl w51.heap.size 43 ii (.agg #[.int .i64 0, .int .u64 0, .int .u32 0, .int .u32 0]) 4 24 Try.underlying28 hi hz0 hz1 hz2 rfl (by decide) _ _ _ rfl ((HR.out.alloc _).alloc _) ⟨wr.heap.size + 1, 0, none⟩ 1 1 (encMs x) rfl rfl ?c1 (encMs_ok.one x) (by unfold maxLen; omega) (by omega) (by simp; omega) ?_)
                case c1 =>
                  intro t u hu
                  rw [addr_add, Nat.zero_add]
                  exact cell_nwE (by simp) _ _ _ _ (by simpa [encMs] using hu)
                intro v2 w2 hown2 hgrow2 _
                have hb2 : Below w51.heap.size w51 w2 := (Below.allocS (Below.allocS HB.out _) _).grown hgrow2 (by simp; omega) (fun t ht => (HR.out.lt t ht).1)
                have he : flatR encMs (outM ((chM M (j : Int) (ea, eb, y3)).take (k + 1)) (j : Int)) = flatR encMs (outM ((chM M (j : Int) (ea, eb, y3)).take k) (j : Int)) ++ encMs x ∧ (outM ((chM M (j : Int) (ea, eb, y3)).take (k + 1)) (j : Int)).length = (outM ((chM M (j : Int) (ea, eb, y3)).take k) (j : Int)).length + 1 := by
                  rw [HT.out, ← HX.out, if_neg hid]
                  simp [flatR]
                have HE2 := Lib.hid he
                have HO2 := Lib.hid hown2
                have HB2 := Lib.hid hb2
                clear he hown2 hb2 hgrow2
                go_wp2_with fail
                go_roundw
                case rel => exact ⟨k + 1, by omega, by go_num, HB2.out, by rw [HE2.out.1, HE2.out.2]; exact HO2.out⟩
                case measure => simp [intOf]; omega
            · have hkm : k = m := by omega
              have l1 : decide ((k : Int) < (((chM M (j : Int) (ea, eb, y3))).length : Int)) = false := decide_eq_false (by rw [HL2.out]; omega)
              have l2 : decide (k < ((chM M (j : Int) (ea, eb, y3))).length) = false := decide_eq_false (by rw [HL2.out]; omega)
              have l3 : (k < ((chM M (j : Int) (ea, eb, y3))).length) = False := eq_false (by rw [HL2.out]; omega)
              obtain ⟨wo2, rfl⟩ : ∃ wo2 : World, wo2 = wr := ⟨_, rfl⟩
              have hall : outM ((chM M (j : Int) (ea, eb, y3)).take k) (j : Int) = outM M (j : Int) := by rw [List.take_of_length_le (by rw [HL2.out]; omega), filter_ch]
              have VN := Lib.hid (show HeldR encMs F46 wo2 _ (outM M (j : Int)) from own_heldR encMs_ok HR.out (by rw [hall]) (by rw [hall]) H52.out.inn.lt)
              have hBB := HB.out
              have t53 : Step F46 w51 F46 wo2 := Step.of hBB
              have H53 := Lib.hid (H52.out.later hBB)
              replace x0 := t53.cell ox x0
              replace x1 := t53.cell ox x1
              replace x2 := t53.cell ox x2
              replace ox := t53.off ox lx
              replace lx := lt_of_cell x0
              replace d0 := t53.cell od d0
              replace d1 := t53.cell od d1
              replace d2 := t53.cell od d2
              replace od := t53.off od ld
              replace ld := lt_of_cell d0
              replace e0 := t53.cell oe e0
              replace e1 := t53.cell oe e1
              replace e2 := t53.cell oe e2
              replace oe := t53.off oe le
              replace le := lt_of_cell e0
              replace VO := Lib.hid (VO.out.step t53.kept t53.new)
              replace VB := Lib.hid (VB.out.step t53.kept t53.new)
              clear t53
              clear hBB hall hkm hlt hk
              have hlM : (outM M (j : Int)).length ≤ M.length := List.length_filter_le _ _
              have hlM2 := HL.out
              go_wp2_with fail
              refine (alike_any _ _ (outM M (j : Int)) (outM M (j : Int)) wo2 VN.out.recs VO.out.recs (by omega) (by omega)).mono ?_
              rintro e w54 ⟨rfl, hq_⟩
              have hb : Below wo2.heap.size wo2 w54 := by obtain ⟨_, rfl⟩ := hq_; exact below_drewN (Below.refl _ _) _
              clear hq_
              rw [sameM_true rfl]
              have t55 : Step F46 wo2 F46 w54 := Step.of hb
              have H55 := Lib.hid (H53.out.later hb)
              replace x0 := t55.cell ox x0
              replace x1 := t55.cell ox x1
              replace x2 := t55.cell ox x2
              replace ox := t55.off ox lx
              replace lx := lt_of_cell x0
              replace d0 := t55.cell od d0
              replace d1 := t55.cell od d1
              replace d2 := t55.cell od d2
              replace od := t55.off od ld
              replace ld := lt_of_cell d0
              replace e0 := t55.cell oe e0
              replace e1 := t55.cell oe e1
              replace e2 := t55.cell oe e2
              replace oe := t55.off oe le
              replace le := lt_of_cell e0
              replace VO := Lib.hid (VO.out.step t55.kept t55.new)
              replace VB := Lib.hid (VB.out.step t55.kept t55.new)
              replace VN := Lib.hid (VN.out.step t55.kept t55.new)
              clear t55
              clear hb
              clear hlM hlM2
              go_wp2_with fail
              refine (Len_at' w54 H55.out.inn).mono ?_
              rintro e w_ ⟨rfl, rfl⟩
              rw [HL2.out]
              go_wp2_with fail
              refine (AW.out w54).mono ?_
              rintro e w9 ⟨rfl, hb9⟩
              have HB9 := Lib.hid (Below.step H55.out.bel hb9)
              clear hb9
              go_wp2_with fail
              go_ret
              exact ⟨rfl, HB9.out⟩
        | true =>
          have hB0 := below_a w41 (.cells #[.int .u64 ea, .int .u32 eb, .int .u32 y3] 32)
          have fd0 : (w41.alloc (.cells #[.int .u64 ea, .int .u32 eb, .int .u32 y3] 32)).frozen? ⟨w41.heap.size, 0, none⟩ = false := frz_nwE rfl _ _ 0
          have fd1 : (w41.alloc (.cells #[.int .u64 ea, .int .u32 eb, .int .u32 y3] 32)).frozen? ⟨w41.heap.size, 1, none⟩ = false := frz_nwE rfl _ _ 1
          have fd2 : (w41.alloc (.cells #[.int .u64 ea, .int .u32 eb, .int .u32 y3] 32)).frozen? ⟨w41.heap.size, 2, none⟩ = false := frz_nwE rfl _ _ 2
          have hlt := H42.out.inn.lt
          have hb : Below w41.heap.size w41 (w41.alloc (.cells #[.int .u64 ea, .int .u32 eb, .int .u32 y3] 32)) := below_a _ _
          have t44 : Step F1 w41 F1 (w41.alloc (.cells #[.int .u64 ea, .int .u32 eb, .int .u32 y3] 32)) := Step.of hb
          have H44 := Lib.hid (H42.out.later hb)
          replace x0 := t44.cell ox x0
          replace x1 := t44.cell ox x1
          replace x2 := t44.cell ox x2
          replace ox := t44.off ox lx
          replace lx := lt_of_cell x0
          replace VO := Lib.hid (VO.out.step t44.kept t44.new)
          clear t44
          have d0 : (w41.alloc (.cells #[.int .u64 ea, .int .u32 eb, .int .u32 y3] 32)).cell? ⟨w41.heap.size, 0, none⟩ = some (.int .u64 ea) := cell_nw _ _ _ 0 _ rfl
          have d1 : (w41.alloc (.cells #[.int .u64 ea, .int .u32 eb, .int .u32 y3] 32)).cell? ⟨w41.heap.size, 1, none⟩ = some (.int .u32 eb) := cell_nw _ _ _ 1 _ rfl
          have d2 : (w41.alloc (.cells #[.int .u64 ea, .int .u32 eb, .int .u32 y3] 32)).cell? ⟨w41.heap.size, 2, none⟩ = some (.int .u32 y3) := cell_nw _ _ _ 2 _ rfl
          have od : w41.heap.size ∉ F1 := fun m => by have := hlt _ m; omega
          have ld := lt_of_cell d0
          have hS_d := Lib.hid (show (w41.alloc (.cells #[.int .u64 ea, .int .u32 eb, .int .u32 y3] 32)).heap.size = w41.heap.size + 1 by simp)
          clear hb hlt
          go_wp2_with fail
          generalize (w41.alloc (.cells #[.int .u64 ea, .int .u32 eb, .int .u32 y3] 32)) = W43 at *
          generalize hE_d : w41.heap.size = b_d at *
          have HE_d := Lib.hid hE_d
          clear hE_d
          rw [← HE_d.out] at hB0
          go_wp2_with fail
          refine (AWG.out W43).mono ?_
          rintro e w45 ⟨rfl, hb⟩
          have hB1 := Below.step hB0 hb
          replace fd0 := (hb.frozen (p := ⟨b_d, 0, none⟩) ld).trans fd0
          replace fd1 := (hb.frozen (p := ⟨b_d, 1, none⟩) ld).trans fd1
          replace fd2 := (hb.frozen (p := ⟨b_d, 2, none⟩) ld).trans fd2
          have t46 : Step F1 W43 F1 w45 := Step.of hb
          have H46 := Lib.hid (H44.out.later hb)
          replace x0 := t46.cell ox x0
          replace x1 := t46.cell ox x1
          replace x2 := t46.cell ox x2
          replace ox := t46.off ox lx
          replace lx := lt_of_cell x0
          replace d0 := t46.cell od d0
          replace d1 := t46.cell od d1
          replace d2 := t46.cell od d2
          replace od := t46.off od ld
          replace ld := lt_of_cell d0
          replace VO := Lib.hid (VO.out.step t46.kept t46.new)
          clear t46
          clear hb
          clear hB0
          go_wp2_with fail
          have hle : w41.heap.size ≤ b_d := by rw [HE_d.out]; exact Nat.le_refl _
          have hB2 : Below w41.heap.size w41 (((w45.setCell ⟨b_d, 0, none⟩ (.int .u64 y1)).setCell ⟨b_d, 1, none⟩ (.int .u32 0)).setCell ⟨b_d, 2, none⟩ (.int .u32 gg)) := ((hB1.setCell hle _).setCell hle _).setCell hle _
          have hB3 : Below w41.heap.size w41 (((w45.setCell ⟨b_d, 0, none⟩ (.int .u64 y1)).setCell ⟨b_d, 1, none⟩ (.int .u32 0)).setCell ⟨b_d, 2, none⟩ (.int .u32 gg)) := hB2
          replace d0 := cell_set_ne (b' := b_d) (o' := 2) (u := .int .u32 gg) (cell_set_ne (b' := b_d) (o' := 1) (u := .int .u32 0) (cell_set_eq (u := .int .u64 y1) d0) (Or.inr (by decide))) (Or.inr (by decide))
          replace d1 := cell_set_ne (b' := b_d) (o' := 2) (u := .int .u32 gg) (cell_set_eq (u := .int .u32 0) (cell_set_ne (b' := b_d) (o' := 0) (u := .int .u64 y1) d1 (Or.inr (by decide)))) (Or.inr (by decide))
          replace d2 := cell_set_eq (u := .int .u32 gg) (cell_set_ne (b' := b_d) (o' := 1) (u := .int .u32 0) (cell_set_ne (b' := b_d) (o' := 0) (u := .int .u64 y1) d2 (Or.inr (by decide))) (Or.inr (by decide)))
          clear fd0 fd1 fd2
          generalize (((w45.setCell ⟨b_d, 0, none⟩ (.int .u64 y1)).setCell ⟨b_d, 1, none⟩ (.int .u32 0)).setCell ⟨b_d, 2, none⟩ (.int .u32 gg)) = W2 at *
          replace x0 := cell_later hB2 sx0.out
          replace x1 := cell_later hB2 sx1.out
          replace x2 := cell_later hB2 sx2.out
          replace lx := lt_of_cell x0
          replace VO := Lib.hid (sVO.out.step (Step.of hB2).kept (Step.of hB2).new)
          replace ld := lt_of_cell d0
          have H60 := Lib.hid (H42.out.later hB2)
          clear hB1 hB2 hB3 hle
          obtain ⟨p1, p2⟩ := chc_there (has_true (n := 30) (id := (j : Int)) (by omega) (by have := HJ.out; omega)) HY.out (wghX gg)
          have hX : wghX gg (y1, y2, y3) = (y1, 0, gg) := rfl
          rw [hX] at p2
          clear hX
          go_wp2_with fail
          refine (Weigh_at (j : Int) gg W2 H60.out.inn HWF.out).mono ?_
          rintro e w61 ⟨rfl, hA⟩
          rw [show decide (wgOk gg) = true from decide_eq_true HG0.out] at *
          rw [p1]
          rw [p2] at hA
          clear p1 p2
          obtain ⟨F62, h62, t62⟩ := H60.out.step hA
          have H62 := Lib.hid (show QW w q 30 (chM M (j : Int) (y1, 0, gg)) _ w61 F62 from h62)
          replace x0 := t62.cell ox x0
          replace x1 := t62.cell ox x1
          replace x2 := t62.cell ox x2
          replace ox := t62.off ox lx
          replace lx := lt_of_cell x0
          replace d0 := t62.cell od d0
          replace d1 := t62.cell od d1
          replace d2 := t62.cell od d2
          replace od := t62.off od ld
          replace ld := lt_of_cell d0
          replace VO := Lib.hid (VO.out.step t62.kept t62.new)
          clear t62 h62 hA
          have HG2 := Lib.hid (getE_some (show entM (chM M (j : Int) (y1, 0, gg)) (j : Int) = some (y1, 0, gg) by rw [ch_ent HK.out.1.nod, if_pos rfl]))
          have z5 : eq3 y1 0 gg y1 0 gg = true := by simp [eq3]
          go_wp2_with fail
          refine (Get_at (j : Int) w61 H62.out.inn HWF.out).mono ?_
          rintro e w63 ⟨rfl, hb⟩
          rw [HG2.out.1, HG2.out.2]
          have t64 : Step F62 w61 F62 w63 := Step.of hb
          have H64 := Lib.hid (H62.out.later hb)
          replace x0 := t64.cell ox x0
          replace x1 := t64.cell ox x1
          replace x2 := t64.cell ox x2
          replace ox := t64.off ox lx
          replace lx := lt_of_cell x0
          replace d0 := t64.cell od d0
          replace d1 := t64.cell od d1
          replace d2 := t64.cell od d2
          replace od := t64.off od ld
          replace ld := lt_of_cell d0
          replace VO := Lib.hid (VO.out.step t64.kept t64.new)
          clear t64
          clear hb
          have hlt := H64.out.inn.lt
          have hb : Below w63.heap.size w63 (w63.alloc (.cells #[.int .u64 y1, .int .u32 0, .int .u32 gg] 32)) := below_a _ _
          have t66 : Step F62 w63 F62 (w63.alloc (.cells #[.int .u64 y1, .int .u32 0, .int .u32 gg] 32)) := Step.of hb
          have H66 := Lib.hid (H64.out.later hb)
          replace x0 := t66.cell ox x0
          replace x1 := t66.cell ox x1
          replace x2 := t66.cell ox x2
          replace ox := t66.off ox lx
          replace lx := lt_of_cell x0
          replace d0 := t66.cell od d0
          replace d1 := t66.cell od d1
          replace d2 := t66.cell od d2
          replace od := t66.off od ld
          replace ld := lt_of_cell d0
          replace VO := Lib.hid (VO.out.step t66.kept t66.new)
          clear t66
          have e0 : (w63.alloc (.cells #[.int .u64 y1, .int .u32 0, .int .u32 gg] 32)).cell? ⟨w63.heap.size, 0, none⟩ = some (.int .u64 y1) := cell_nw _ _ _ 0 _ rfl
          have e1 : (w63.alloc (.cells #[.int .u64 y1, .int .u32 0, .int .u32 gg] 32)).cell? ⟨w63.heap.size, 1, none⟩ = some (.int .u32 0) := cell_nw _ _ _ 1 _ rfl
          have e2 : (w63.alloc (.cells #[.int .u64 y1, .int .u32 0, .int .u32 gg] 32)).cell? ⟨w63.heap.size, 2, none⟩ = some (.int .u32 gg) := cell_nw _ _ _ 2 _ rfl
          have oe : w63.heap.size ∉ F62 := fun m => by have := hlt _ m; omega
          have le := lt_of_cell e0
          have hS_e := Lib.hid (show (w63.alloc (.cells #[.int .u64 y1, .int .u32 0, .int .u32 gg] 32)).heap.size = w63.heap.size + 1 by simp)
          clear hb hlt
          go_wp2_with fail
          generalize (w63.alloc (.cells #[.int .u64 y1, .int .u32 0, .int .u32 gg] 32)) = W65 at *
          generalize w63.heap.size = b_e at *
          go_wp2_with fail
          refine (QAll_at W65 H66.out.inn).mono ?_
          rintro e w67 ⟨v67, rfl, hr67, hb⟩
          have VB := Lib.hid (held_own hr67 hb H66.out.inn.lt)
          obtain ⟨a67, c67, rfl, -⟩ := id VB.out
          clear hr67
          have t68 : Step F62 W65 F62 w67 := Step.of hb
          have H68 := Lib.hid (H66.out.later hb)
          replace x0 := t68.cell ox x0
          replace x1 := t68.cell ox x1
          replace x2 := t68.cell ox x2
          replace ox := t68.off ox lx
          replace lx := lt_of_cell x0
          replace d0 := t68.cell od d0
          replace d1 := t68.cell od d1
          replace d2 := t68.cell od d2
          replace od := t68.off od ld
          replace ld := lt_of_cell d0
          replace e0 := t68.cell oe e0
          replace e1 := t68.cell oe e1
          replace e2 := t68.cell oe e2
          replace oe := t68.off oe le
          replace le := lt_of_cell e0
          replace VO := Lib.hid (VO.out.step t68.kept t68.new)
          clear t68
          clear hb
          go_wp2_with fail
          have HL2 := Lib.hid (show (chM M (j : Int) (y1, 0, gg)).length = m by rw [← HL.out]; exact ch_len HK.out.1.nod HY.out _)
          go_loopw [25, 120] (fun o i wr => ∃ k : Nat, k ≤ m ∧ i = .int .i64 k ∧ Below w67.heap.size w67 wr ∧ wr.ownsRow w67.heap.size 43 4 o (outM ((chM M (j : Int) (y1, 0, gg)).take k) (j : Int)).length (flatR encMs (outM ((chM M (j : Int) (y1, 0, gg)).take k) (j : Int)))) (fun _ i _ => m - (intOf i).toNat)
          case atStart => exact ⟨0, Nat.zero_le _, rfl, Below.refl _ _, World.ownsRow_nil _ _ _ _⟩
          case round =>
            obtain ⟨k, hk, rfl, hB, hR⟩ := hrel
            have HB := Lib.hid hB
            have HR := Lib.hid hR
            clear hB hR
            by_cases hlt : k < m
            · obtain ⟨hkM, b, off, rfl, i0, i1, i2, i3⟩ := VB.out.recs.mem (i := k) (by rw [HL2.out]; exact hlt)
              have HT := Lib.hid (out_take hkM (j : Int))
              obtain ⟨x, hx⟩ : ∃ x, x = ((chM M (j : Int) (y1, 0, gg)))[k]! := ⟨_, rfl⟩
              rw [← hx] at i0 i1 i2 i3
              replace i0 := cell_later HB.out i0
              replace i1 := cell_later HB.out i1
              replace i2 := cell_later HB.out i2
              replace i3 := cell_later HB.out i3
              have hk0 : (0 : Int) ≤ (k : Int) := by omega
              have hkm : (k : Int) < (m : Int) := by omega
              have hkl : (k : Int) < (((chM M (j : Int) (y1, 0, gg))).length : Int) := by omega
              have HX := Lib.hid hx
              clear hx
              by_cases hid : x.1 = (j : Int)
              · have z0 : (x.1 != (j : Int)) = false := by simp [hid]
                have he : outM ((chM M (j : Int) (y1, 0, gg)).take (k + 1)) (j : Int) = outM ((chM M (j : Int) (y1, 0, gg)).take k) (j : Int) := by rw [HT.out, ← HX.out, if_pos hid, List.append_nil]
                have HE2 := Lib.hid he
                clear he
                go_wp2_with fail
                go_roundw
                case rel => exact ⟨k + 1, by omega, by go_num, Below.allocS HB.out _, by rw [HE2.out]; exact HR.out.alloc _⟩
                case measure => simp [intOf]; omega
              · have z0 : (x.1 != (j : Int)) = true := by simp [hid]
                have hlen : (outM ((chM M (j : Int) (y1, 0, gg)).take k) (j : Int)).length ≤ 30 := by
                  have h1 : (outM ((chM M (j : Int) (y1, 0, gg)).take k) (j : Int)).length ≤ ((chM M (j : Int) (y1, 0, gg)).take k).length := List.length_filter_le _ _
                  rw [List.length_take] at h1
                  omega
                have hsz := HB.out.size
                go_wp2_with (at_builtin; refine wpList_append_own _ rfl (.tmp 128) (.tmp 130) 28 rfl w67.heap.size 43 ii (.agg #[.int .i64 0, .int .u64 0, .int .u32 0, .int .u32 0]) 4 24 Try.underlying28 hi hz0 hz1 hz2 rfl (by decide) _ _ _ rfl ((HR.out.alloc _).alloc _) ⟨wr.heap.size + 1, 0, none⟩ 1 1 (encMs x) rfl rfl ?c1 (encMs_ok.one x) (by unfold maxLen; omega) (by omega) (by simp; omega) ?_)
                case c1 =>
                  intro t u hu
                  rw [addr_add, Nat.zero_add]
                  exact cell_nwE (by simp) _ _ _ _ (by simpa [encMs] using hu)
                intro v2 w2 hown2 hgrow2 _
                have hb2 : Below w67.heap.size w67 w2 := (Below.allocS (Below.allocS HB.out _) _).grown hgrow2 (by simp; omega) (fun t ht => (HR.out.lt t ht).1)
                have he : flatR encMs (outM ((chM M (j : Int) (y1, 0, gg)).take (k + 1)) (j : Int)) = flatR encMs (outM ((chM M (j : Int) (y1, 0, gg)).take k) (j : Int)) ++ encMs x ∧ (outM ((chM M (j : Int) (y1, 0, gg)).take (k + 1)) (j : Int)).length = (outM ((chM M (j : Int) (y1, 0, gg)).take k) (j : Int)).length + 1 := by
                  rw [HT.out, ← HX.out, if_neg hid]
                  simp [flatR]
                have HE2 := Lib.hid he
                have HO2 := Lib.hid hown2
                have HB2 := Lib.hid hb2
                clear he hown2 hb2 hgrow2
                go_wp2_with fail
                go_roundw
                case rel => exact ⟨k + 1, by omega, by go_num, HB2.out, by rw [HE2.out.1, HE2.out.2]; exact HO2.out⟩
                case measure => simp [intOf]; omega
            · have hkm : k = m := by omega
              have l1 : decide ((k : Int) < (((chM M (j : Int) (y1, 0, gg))).length : Int)) = false := decide_eq_false (by rw [HL2.out]; omega)
              have l2 : decide (k < ((chM M (j : Int) (y1, 0, gg))).length) = false := decide_eq_false (by rw [HL2.out]; omega)
              have l3 : (k < ((chM M (j : Int) (y1, 0, gg))).length) = False := eq_false (by rw [HL2.out]; omega)
              obtain ⟨wo2, rfl⟩ : ∃ wo2 : World, wo2 = wr := ⟨_, rfl⟩
              have hall : outM ((chM M (j : Int) (y1, 0, gg)).take k) (j : Int) = outM M (j : Int) := by rw [List.take_of_length_le (by rw [HL2.out]; omega), filter_ch]
              have VN := Lib.hid (show HeldR encMs F62 wo2 _ (outM M (j : Int)) from own_heldR encMs_ok HR.out (by rw [hall]) (by rw [hall]) H68.out.inn.lt)
              have hBB := HB.out
              have t69 : Step F62 w67 F62 wo2 := Step.of hBB
              have H69 := Lib.hid (H68.out.later hBB)
              replace x0 := t69.cell ox x0
              replace x1 := t69.cell ox x1
              replace x2 := t69.cell ox x2
              replace ox := t69.off ox lx
              replace lx := lt_of_cell x0
              replace d0 := t69.cell od d0
              replace d1 := t69.cell od d1
              replace d2 := t69.cell od d2
              replace od := t69.off od ld
              replace ld := lt_of_cell d0
              replace e0 := t69.cell oe e0
              replace e1 := t69.cell oe e1
              replace e2 := t69.cell oe e2
              replace oe := t69.off oe le
              replace le := lt_of_cell e0
              replace VO := Lib.hid (VO.out.step t69.kept t69.new)
              replace VB := Lib.hid (VB.out.step t69.kept t69.new)
              clear t69
              clear hBB hall hkm hlt hk
              have hlM : (outM M (j : Int)).length ≤ M.length := List.length_filter_le _ _
              have hlM2 := HL.out
              go_wp2_with fail
              refine (alike_any _ _ (outM M (j : Int)) (outM M (j : Int)) wo2 VN.out.recs VO.out.recs (by omega) (by omega)).mono ?_
              rintro e w70 ⟨rfl, hq_⟩
              have hb : Below wo2.heap.size wo2 w70 := by obtain ⟨_, rfl⟩ := hq_; exact below_drewN (Below.refl _ _) _
              clear hq_
              rw [sameM_true rfl]
              have t71 : Step F62 wo2 F62 w70 := Step.of hb
              have H71 := Lib.hid (H69.out.later hb)
              replace x0 := t71.cell ox x0
              replace x1 := t71.cell ox x1
              replace x2 := t71.cell ox x2
              replace ox := t71.off ox lx
              replace lx := lt_of_cell x0
              replace d0 := t71.cell od d0
              replace d1 := t71.cell od d1
              replace d2 := t71.cell od d2
              replace od := t71.off od ld
              replace ld := lt_of_cell d0
              replace e0 := t71.cell oe e0
              replace e1 := t71.cell oe e1
              replace e2 := t71.cell oe e2
              replace oe := t71.off oe le
              replace le := lt_of_cell e0
              replace VO := Lib.hid (VO.out.step t71.kept t71.new)
              replace VB := Lib.hid (VB.out.step t71.kept t71.new)
              replace VN := Lib.hid (VN.out.step t71.kept t71.new)
              clear t71
              clear hb
              clear hlM hlM2
              go_wp2_with fail
              refine (Len_at' w70 H71.out.inn).mono ?_
              rintro e w_ ⟨rfl, rfl⟩
              rw [HL2.out]
              go_wp2_with fail
              refine (AW.out w70).mono ?_
              rintro e w9 ⟨rfl, hb9⟩
              have HB9 := Lib.hid (Below.step H71.out.bel hb9)
              clear hb9
              go_wp2_with fail
              go_ret
              exact ⟨rfl, HB9.out⟩
end Go.Proofs.Ytekjakmeopolhaa
