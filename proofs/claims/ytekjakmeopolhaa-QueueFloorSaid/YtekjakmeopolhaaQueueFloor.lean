/-
  QueueFloor: the floor never falls, and is the greatest that the least V has been, or what it was raised to; members lie in order.
-/
import Derived.Test.YtekjakmeopolhaaQueueP
import Derived.Deep.CutBlock
namespace Go.Proofs.Ytekjakmeopolhaa
open Go.RowKit Go.Maps Go.IntWalk Go.Lib
set_option linter.unusedVariables false
set_option linter.unusedSimpArgs false
/-- what a call leaves: the floor that is wanted -/
theorem enter_fl {n : Int} {M : Mems} {id : Int} {x : Ent} {fl : Int} (h0 : 0 ≤ fl) (h : LeF M fl) : enterF n M id x fl = riseF (itemsM (enterM n M id x)) (max fl 0) := by
  rw [show max fl 0 = fl by omega]
  unfold enterF enterM
  split
  · rfl
  · exact h.symm
theorem leave_fl {n : Int} {M : Mems} {id : Int} {fl : Int} (h0 : 0 ≤ fl) (h : LeF M fl) : leaveF n M id fl = riseF (itemsM (leaveM n M id)) (max fl 0) := by
  rw [show max fl 0 = fl by omega]
  unfold leaveF leaveM
  split
  · rfl
  · exact h.symm
theorem ch_fl {b : Bool} {n : Int} {M : Mems} {id : Int} {X : Ent → Ent} {fl : Int} (h0 : 0 ≤ fl) (h : LeF M fl) : chF b n M id X fl = riseF (itemsM (chS b n M id X)) (max fl 0) := by
  rw [show max fl 0 = fl by omega]
  unfold chF chS
  split
  · rfl
  · exact h.symm
theorem raise_fl {M : Mems} {fl x : Int} (h : LeF M fl) : max fl x = riseF (itemsM M) (max fl x) := by
  unfold LeF at h
  unfold riseF at h ⊢
  cases M with
  | nil => rfl
  | cons m r =>
    have h' : max fl m.2.1 = fl := h
    show max fl x = max (max fl x) m.2.1
    omega
/-- of two members that follow each other the first is before the second -/
theorem ord_next {M : Mems} (h : InOrder (itemsM M)) {i : Nat} (h0 : 0 < i) (hi : i < M.length) : M[i - 1]!.2.1 < M[i]!.2.1 ∨ M[i - 1]!.2.1 = M[i]!.2.1 ∧ M[i - 1]!.1 < M[i]!.1 := by
  unfold InOrder itemsM at h
  rw [List.pairwise_map] at h
  have := List.pairwise_iff_getElem.1 h (i - 1) i (by omega) hi (by omega)
  rw [getElem!_pos M (i - 1) (by omega), getElem!_pos M i hi]
  exact this
theorem load_take {M : Mems} {i : Nat} (hi : i < M.length) : loadM (M.take (i + 1)) = loadM (M.take i) + M[i]!.2.2.2 := by
  rw [List.take_add_one, List.getElem?_eq_getElem hi, getElem!_pos M i hi]
  unfold loadM
  rw [List.map_append, List.sum_append]
  simp
theorem first_of {M : Mems} {n : Nat} (hn : M.length = n) (h0 : 0 < n) : firstI M = M[0]!.1 ∧ (!M.isEmpty) = true := by
  cases M with
  | nil => simp at hn; omega
  | cons x r => exact ⟨rfl, rfl⟩
theorem rise_first {M : Mems} {n : Nat} (hn : M.length = n) (h0 : 0 < n) (f : Int) : riseF (itemsM M) f = max f M[0]!.2.1 := by
  cases M with
  | nil => simp at hn; omega
  | cons x r => rfl
/-- behind the switch -/
def FlC (w : World) (q : Nat) (fl : Int) (s13 : Value) (wx : World) : Prop := ∃ (M : Mems) (F : List Nat) (rs : Int), s13 = .int .u64 rs ∧ (0 ≤ rs ∧ rs ≤ 18446744073709551615) ∧ QW w q 30 M (riseF (itemsM M) (max fl rs)) wx F
set_option maxRecDepth 100000 in
set_option maxHeartbeats 4000000 in
theorem QueueFloor_true (s0 : Option Addr) (l0 c0 : Nat) (F0 : Nat → Nat → Value) (s1 : Option Addr) (l1 c1 : Nat) (F1 : Nat → Nat → Value) (w : World) (r0 : PlainRow [some .u16, some .u16, some .u16] w s0 l0 c0 F0) (r1 : PlainRow [some .u8, some .i64, some .u64, some .u32, some .u32, some .i64] w s1 l1 c1 F1) :
    Calls Try.prog 7 #[.slice s0 l0 c0, .slice s1 l1 c1] w fun e w' => e = .returned (.bool true) ∧ Below w.heap.size w w' := by
  obtain ⟨xs, hx⟩ := small_of r0
  have HA1 := Lib.hid (filled_rise s0 l0 c0 xs w hx)
  generalize min l0 30 = m0 at *
  obtain ⟨hle, hmax, hnn⟩ := row_le r1
  obtain ⟨m, hm⟩ : ∃ m, m = min l1 60 := ⟨_, rfl⟩
  have e0 : min (l1 : Int) 60 = (m : Int) := by omega
  have hml : m ≤ l1 := by omega
  have hm60 : m ≤ 60 := by omega
  have hmc : (m : Int) ≤ (c1 : Int) := by omega
  have hmc2 : m ≤ c1 := by omega
  have HPR := Lib.hid r1
  have AW := Lib.hid fun W => awake_any W
  have AM := Lib.hid fun v r n W => Made_any v r n W
  clear hx r0 r1 hm
  go_enter Try.func7, Try.ntmps7
  go_wp2_with fail
  refine HA1.out.mono ?_
  rintro e w1 ⟨q, F1, fl, rfl, h1, hL1⟩
  have H1 := Lib.hid h1
  have HL1 := Lib.hid hL1
  clear h1 hL1 HA1
  go_wp2_with fail
  refine (Floor_at w1 H1.out.inn).mono ?_
  rintro e w_ ⟨rfl, rfl⟩
  go_wp2_with fail
  go_loopw [8, 37] (fun o i wr => ∃ (k : Nat) (M : Mems) (fl : Int) (F : List Nat), k ≤ m ∧ i = .int .i64 k ∧ o = .int .u64 fl ∧ QW w q 30 M fl wr F ∧ LeF M fl) (fun _ i _ => m - (intOf i).toNat)
  case atStart => exact ⟨0, _, _, _, Nat.zero_le _, rfl, rfl, H1.out, HL1.out⟩
  case round =>
    clear HL1 H1
    obtain ⟨k, M, fl, F, hk, rfl, rfl, hI, hL⟩ := hrel
    have HI := Lib.hid hI
    have HLF := Lib.hid hL
    have HK := Lib.hid hI.inn.ids
    clear hI hL
    by_cases hlt : k < m
    · obtain ⟨b, off, kd, ni, v, rr, g, n, rfl, u0, u1, u2, u3, u4, u5, hkd, hid, hv, hr, hg, hn⟩ := qact_cells HPR.out (show k < l1 by omega)
      have hk0 : (0 : Int) ≤ (k : Int) := by omega
      have hkm : (k : Int) < (m : Int) := by omega
      replace u0 := cell_later HI.out.bel u0
      replace u1 := cell_later HI.out.bel u1
      replace u2 := cell_later HI.out.bel u2
      replace u3 := cell_later HI.out.bel u3
      replace u4 := cell_later HI.out.bel u4
      replace u5 := cell_later HI.out.bel u5
      have y0 : (wr.alloc (.cells #[.int .u8 kd, .int .i64 ni, .int .u64 v, .int .u32 rr, .int .u32 g, .int .i64 n] 60)).cell? ⟨wr.heap.size, 0, none⟩ = some (.int .u8 kd) := cell_nw wr _ _ 0 _ rfl
      have y1 : (wr.alloc (.cells #[.int .u8 kd, .int .i64 ni, .int .u64 v, .int .u32 rr, .int .u32 g, .int .i64 n] 60)).cell? ⟨wr.heap.size, 1, none⟩ = some (.int .i64 ni) := cell_nw wr _ _ 1 _ rfl
      have y2 : (wr.alloc (.cells #[.int .u8 kd, .int .i64 ni, .int .u64 v, .int .u32 rr, .int .u32 g, .int .i64 n] 60)).cell? ⟨wr.heap.size, 2, none⟩ = some (.int .u64 v) := cell_nw wr _ _ 2 _ rfl
      have y3 : (wr.alloc (.cells #[.int .u8 kd, .int .i64 ni, .int .u64 v, .int .u32 rr, .int .u32 g, .int .i64 n] 60)).cell? ⟨wr.heap.size, 3, none⟩ = some (.int .u32 rr) := cell_nw wr _ _ 3 _ rfl
      have y4 : (wr.alloc (.cells #[.int .u8 kd, .int .i64 ni, .int .u64 v, .int .u32 rr, .int .u32 g, .int .i64 n] 60)).cell? ⟨wr.heap.size, 4, none⟩ = some (.int .u32 g) := cell_nw wr _ _ 4 _ rfl
      have y5 : (wr.alloc (.cells #[.int .u8 kd, .int .i64 ni, .int .u64 v, .int .u32 rr, .int .u32 g, .int .i64 n] 60)).cell? ⟨wr.heap.size, 5, none⟩ = some (.int .i64 n) := cell_nw wr _ _ 5 _ rfl
      have H2 := Lib.hid (HI.out.later (below_a wr (.cells #[.int .u8 kd, .int .i64 ni, .int .u64 v, .int .u32 rr, .int .u32 g, .int .i64 n] 60)))
      have oy : wr.heap.size ∉ F := fun m => by have := HI.out.inn.lt _ m; omega
      obtain ⟨hi0, hi1, hi2, hi3⟩ := modI_in (x := ni) (m := 30) (by decide)
      obtain ⟨hn0, hn1, hn2, hn3⟩ := modI_in (x := n) (m := 5000) (by decide)
      have e1 : IntKind.i64.wrap (ni.tmod 30) = ni.tmod 30 := IntWalk.i64_in _ (by omega)
      have e2 : IntKind.i64.wrap (ni.tmod 30 + 30) = ni.tmod 30 + 30 := IntWalk.i64_in _ (by omega)
      have e3 : (ni.tmod 30 + 30).tmod 30 = modI ni 30 := rfl
      have e4 : IntKind.i64.wrap (modI ni 30) = modI ni 30 := IntWalk.i64_in _ (by omega)
      have e5 : IntKind.i64.wrap (n.tmod 5000) = n.tmod 5000 := IntWalk.i64_in _ (by omega)
      have e6 : IntKind.i64.wrap (n.tmod 5000 + 5000) = n.tmod 5000 + 5000 := IntWalk.i64_in _ (by omega)
      have e7 : (n.tmod 5000 + 5000).tmod 5000 = modI n 5000 := rfl
      have e8 : IntKind.i64.wrap (modI n 5000) = modI n 5000 := IntWalk.i64_in _ (by omega)
      go_wp2_with fail
      generalize wr.alloc (.cells #[.int .u8 kd, .int .i64 ni, .int .u64 v, .int .u32 rr, .int .u32 g, .int .i64 n] 60) = wa at *
      generalize wr.heap.size = b7 at *
      refine (AM.out v rr g _ hv hr hg).mono ?_
      rintro e w8 ⟨rfl, hb⟩
      have hOk : Ch.Ok v (Ch.madeR v rr g) (1 + g % 65536) := Ch.made_ok hv hr.1 hg.1
      have HOK := Lib.hid hOk
      have HV := Lib.hid hv
      clear hOk hr hg hv hid hn
      generalize Ch.madeR v rr g = xr at *
      generalize 1 + g % 65536 = xw at *
      have hxw0 : 0 ≤ xw := by have := HOK.out; unfold Ch.Ok at this; omega
      have hxw1 : xw ≤ 65536 := by have := HOK.out; unfold Ch.Ok at this; omega
      have e9 : IntKind.i64.wrap xw = xw := IntWalk.i64_in _ (by omega)
      have ly := lt_of_cell y0
      have t21 : Step F wa F w8 := Step.of hb
      have H21 := Lib.hid (H2.out.later hb)
      replace y0 := t21.cell oy y0
      replace y1 := t21.cell oy y1
      replace y2 := t21.cell oy y2
      replace y3 := t21.cell oy y3
      replace y4 := t21.cell oy y4
      replace y5 := t21.cell oy y5
      replace oy := t21.off oy ly
      replace ly := lt_of_cell y0
      clear t21
      clear hb
      have hlt := H21.out.inn.lt
      have hb : Below w8.heap.size w8 (w8.alloc (.cells #[.int .u64 v, .int .u32 xr, .int .u32 xw] 32)) := below_a _ _
      have t23 : Step F w8 F (w8.alloc (.cells #[.int .u64 v, .int .u32 xr, .int .u32 xw] 32)) := Step.of hb
      have H23 := Lib.hid (H21.out.later hb)
      replace y0 := t23.cell oy y0
      replace y1 := t23.cell oy y1
      replace y2 := t23.cell oy y2
      replace y3 := t23.cell oy y3
      replace y4 := t23.cell oy y4
      replace y5 := t23.cell oy y5
      replace oy := t23.off oy ly
      replace ly := lt_of_cell y0
      clear t23
      have x0 : (w8.alloc (.cells #[.int .u64 v, .int .u32 xr, .int .u32 xw] 32)).cell? ⟨w8.heap.size, 0, none⟩ = some (.int .u64 v) := cell_nw _ _ _ 0 _ rfl
      have x1 : (w8.alloc (.cells #[.int .u64 v, .int .u32 xr, .int .u32 xw] 32)).cell? ⟨w8.heap.size, 1, none⟩ = some (.int .u32 xr) := cell_nw _ _ _ 1 _ rfl
      have x2 : (w8.alloc (.cells #[.int .u64 v, .int .u32 xr, .int .u32 xw] 32)).cell? ⟨w8.heap.size, 2, none⟩ = some (.int .u32 xw) := cell_nw _ _ _ 2 _ rfl
      have ox : w8.heap.size ∉ F := fun m => by have := hlt _ m; omega
      have lx := lt_of_cell x0
      have hS_x := Lib.hid (show (w8.alloc (.cells #[.int .u64 v, .int .u32 xr, .int .u32 xw] 32)).heap.size = w8.heap.size + 1 by simp)
      clear hb hlt
      go_upto_block 2 with fail
      generalize (w8.alloc (.cells #[.int .u64 v, .int .u32 xr, .int .u32 xw] 32)) = W22 at *
      generalize w8.heap.size = b_x at *
      go_cut [13, 37] (fun s13 s37 wx => s37 = .int .i64 k ∧ FlC w q fl s13 wx)
      case first =>
        have hkk : kd % 6 = 0 ∨ kd % 6 = 1 ∨ kd % 6 = 2 ∨ kd % 6 = 3 ∨ kd % 6 = 4 ∨ kd % 6 = 5 := by
          have := Int.emod_nonneg kd (show (6 : Int) ≠ 0 by decide)
          have := Int.emod_lt_of_pos kd (show (0 : Int) < 6 by decide)
          omega
        have WFI := Lib.hid (WalkArith.wf_i64 (n := modI ni 30) (by omega))
        have hf0 := HK.out.2.2.2.2.2.1
        have HF0 := Lib.hid hf0
        clear hf0
        rcases hkk with hkk | hkk | hkk | hkk | hkk | hkk
        · have z0 : (kd % 6 == 0) = true := by rw [hkk]; rfl
          have z1 : (kd % 6 == 1) = false := by rw [hkk]; rfl
          have z2 : (kd % 6 == 2) = false := by rw [hkk]; rfl
          have z3 : (kd % 6 == 3) = false := by rw [hkk]; rfl
          have z4 : (kd % 6 == 4) = false := by rw [hkk]; rfl
          have z5 : (kd % 6 == 5) = false := by rw [hkk]; rfl
          clear hkk
          go_wp2_with fail
          refine (Enter_at (modI ni 30) (v, xr, xw) W22 H23.out.inn WFI.out HOK.out.fits).mono ?_
          rintro e w24 ⟨rfl, hA⟩
          obtain ⟨F25, h25, t25⟩ := H23.out.step hA
          have H25 := Lib.hid (show QW w q 30 (enterM 30 M (modI ni 30) (v, xr, xw)) (enterF 30 M (modI ni 30) (v, xr, xw) fl) w24 F25 from h25)
          replace y0 := t25.cell oy y0
          replace y1 := t25.cell oy y1
          replace y2 := t25.cell oy y2
          replace y3 := t25.cell oy y3
          replace y4 := t25.cell oy y4
          replace y5 := t25.cell oy y5
          replace oy := t25.off oy ly
          replace ly := lt_of_cell y0
          replace x0 := t25.cell ox x0
          replace x1 := t25.cell ox x1
          replace x2 := t25.cell ox x2
          replace ox := t25.off ox lx
          replace lx := lt_of_cell x0
          clear t25 h25 hA
          go_wp2_with fail
          go_meet
          case rel => exact ⟨rfl, _, _, 0, rfl, by decide, by rw [← enter_fl HF0.out HLF.out]; exact H25.out⟩
        · have z0 : (kd % 6 == 0) = false := by rw [hkk]; rfl
          have z1 : (kd % 6 == 1) = true := by rw [hkk]; rfl
          have z2 : (kd % 6 == 2) = false := by rw [hkk]; rfl
          have z3 : (kd % 6 == 3) = false := by rw [hkk]; rfl
          have z4 : (kd % 6 == 4) = false := by rw [hkk]; rfl
          have z5 : (kd % 6 == 5) = false := by rw [hkk]; rfl
          clear hkk
          go_wp2_with fail
          refine (Leave_at (modI ni 30) W22 H23.out.inn WFI.out).mono ?_
          rintro e w24 ⟨rfl, hA⟩
          obtain ⟨F25, h25, t25⟩ := H23.out.step hA
          have H25 := Lib.hid (show QW w q 30 (leaveM 30 M (modI ni 30)) (leaveF 30 M (modI ni 30) fl) w24 F25 from h25)
          replace y0 := t25.cell oy y0
          replace y1 := t25.cell oy y1
          replace y2 := t25.cell oy y2
          replace y3 := t25.cell oy y3
          replace y4 := t25.cell oy y4
          replace y5 := t25.cell oy y5
          replace oy := t25.off oy ly
          replace ly := lt_of_cell y0
          replace x0 := t25.cell ox x0
          replace x1 := t25.cell ox x1
          replace x2 := t25.cell ox x2
          replace ox := t25.off ox lx
          replace lx := lt_of_cell x0
          clear t25 h25 hA
          go_wp2_with fail
          go_meet
          case rel => exact ⟨rfl, _, _, 0, rfl, by decide, by rw [← leave_fl HF0.out HLF.out]; exact H25.out⟩
        · have z0 : (kd % 6 == 0) = false := by rw [hkk]; rfl
          have z1 : (kd % 6 == 1) = false := by rw [hkk]; rfl
          have z2 : (kd % 6 == 2) = true := by rw [hkk]; rfl
          have z3 : (kd % 6 == 3) = false := by rw [hkk]; rfl
          have z4 : (kd % 6 == 4) = false := by rw [hkk]; rfl
          have z5 : (kd % 6 == 5) = false := by rw [hkk]; rfl
          clear hkk
          go_wp2_with fail
          refine (Charge_at (modI ni 30) (modI n 5000) W22 H23.out.inn WFI.out).mono ?_
          rintro e w24 ⟨rfl, hA⟩
          obtain ⟨F25, h25, t25⟩ := H23.out.step hA
          have H25 := Lib.hid (show QW w q 30 (chS (decide (tkOk (modI n 5000))) 30 M (modI ni 30) (chgX (modI n 5000))) (chF (decide (tkOk (modI n 5000))) 30 M (modI ni 30) (chgX (modI n 5000)) fl) w24 F25 from h25)
          replace y0 := t25.cell oy y0
          replace y1 := t25.cell oy y1
          replace y2 := t25.cell oy y2
          replace y3 := t25.cell oy y3
          replace y4 := t25.cell oy y4
          replace y5 := t25.cell oy y5
          replace oy := t25.off oy ly
          replace ly := lt_of_cell y0
          replace x0 := t25.cell ox x0
          replace x1 := t25.cell ox x1
          replace x2 := t25.cell ox x2
          replace ox := t25.off ox lx
          replace lx := lt_of_cell x0
          clear t25 h25 hA
          go_wp2_with fail
          go_meet
          case rel => exact ⟨rfl, _, _, 0, rfl, by decide, by rw [← ch_fl HF0.out HLF.out]; exact H25.out⟩
        · have z0 : (kd % 6 == 0) = false := by rw [hkk]; rfl
          have z1 : (kd % 6 == 1) = false := by rw [hkk]; rfl
          have z2 : (kd % 6 == 2) = false := by rw [hkk]; rfl
          have z3 : (kd % 6 == 3) = true := by rw [hkk]; rfl
          have z4 : (kd % 6 == 4) = false := by rw [hkk]; rfl
          have z5 : (kd % 6 == 5) = false := by rw [hkk]; rfl
          clear hkk
          go_wp2_with fail
          refine (Charge_at (modI ni 30) (modI n 5000) W22 H23.out.inn WFI.out).mono ?_
          rintro e w24 ⟨rfl, hA⟩
          obtain ⟨F25, h25, t25⟩ := H23.out.step hA
          have H25 := Lib.hid (show QW w q 30 (chS (decide (tkOk (modI n 5000))) 30 M (modI ni 30) (chgX (modI n 5000))) (chF (decide (tkOk (modI n 5000))) 30 M (modI ni 30) (chgX (modI n 5000)) fl) w24 F25 from h25)
          replace y0 := t25.cell oy y0
          replace y1 := t25.cell oy y1
          replace y2 := t25.cell oy y2
          replace y3 := t25.cell oy y3
          replace y4 := t25.cell oy y4
          replace y5 := t25.cell oy y5
          replace oy := t25.off oy ly
          replace ly := lt_of_cell y0
          replace x0 := t25.cell ox x0
          replace x1 := t25.cell ox x1
          replace x2 := t25.cell ox x2
          replace ox := t25.off ox lx
          replace lx := lt_of_cell x0
          clear t25 h25 hA
          go_wp2_with fail
          go_meet
          case rel => exact ⟨rfl, _, _, 0, rfl, by decide, by rw [← ch_fl HF0.out HLF.out]; exact H25.out⟩
        · have z0 : (kd % 6 == 0) = false := by rw [hkk]; rfl
          have z1 : (kd % 6 == 1) = false := by rw [hkk]; rfl
          have z2 : (kd % 6 == 2) = false := by rw [hkk]; rfl
          have z3 : (kd % 6 == 3) = false := by rw [hkk]; rfl
          have z4 : (kd % 6 == 4) = true := by rw [hkk]; rfl
          have z5 : (kd % 6 == 5) = false := by rw [hkk]; rfl
          clear hkk
          go_wp2_with fail
          refine (Weigh_at (modI ni 30) xw W22 H23.out.inn WFI.out).mono ?_
          rintro e w24 ⟨rfl, hA⟩
          obtain ⟨F25, h25, t25⟩ := H23.out.step hA
          have H25 := Lib.hid (show QW w q 30 (chS (decide (wgOk xw)) 30 M (modI ni 30) (wghX xw)) (chF (decide (wgOk xw)) 30 M (modI ni 30) (wghX xw) fl) w24 F25 from h25)
          replace y0 := t25.cell oy y0
          replace y1 := t25.cell oy y1
          replace y2 := t25.cell oy y2
          replace y3 := t25.cell oy y3
          replace y4 := t25.cell oy y4
          replace y5 := t25.cell oy y5
          replace oy := t25.off oy ly
          replace ly := lt_of_cell y0
          replace x0 := t25.cell ox x0
          replace x1 := t25.cell ox x1
          replace x2 := t25.cell ox x2
          replace ox := t25.off ox lx
          replace lx := lt_of_cell x0
          clear t25 h25 hA
          go_wp2_with fail
          go_meet
          case rel => exact ⟨rfl, _, _, 0, rfl, by decide, by rw [← ch_fl HF0.out HLF.out]; exact H25.out⟩
        · have z0 : (kd % 6 == 0) = false := by rw [hkk]; rfl
          have z1 : (kd % 6 == 1) = false := by rw [hkk]; rfl
          have z2 : (kd % 6 == 2) = false := by rw [hkk]; rfl
          have z3 : (kd % 6 == 3) = false := by rw [hkk]; rfl
          have z4 : (kd % 6 == 4) = false := by rw [hkk]; rfl
          have z5 : (kd % 6 == 5) = true := by rw [hkk]; rfl
          clear hkk
          go_wp2_with fail
          refine (Raise_at v W22 H23.out.inn HV.out).mono ?_
          rintro e w24 ⟨rfl, hA⟩
          obtain ⟨F25, h25, t25⟩ := H23.out.step hA
          have H25 := Lib.hid (show QW w q 30 M (max fl v) w24 F25 from h25)
          replace y0 := t25.cell oy y0
          replace y1 := t25.cell oy y1
          replace y2 := t25.cell oy y2
          replace y3 := t25.cell oy y3
          replace y4 := t25.cell oy y4
          replace y5 := t25.cell oy y5
          replace oy := t25.off oy ly
          replace ly := lt_of_cell y0
          replace x0 := t25.cell ox x0
          replace x1 := t25.cell ox x1
          replace x2 := t25.cell ox x2
          replace ox := t25.off ox lx
          replace lx := lt_of_cell x0
          clear t25 h25 hA
          go_wp2_with fail
          go_meet
          case rel => exact ⟨rfl, _, _, v, rfl, HV.out, by rw [← raise_fl HLF.out]; exact H25.out⟩
      case rest =>
        obtain ⟨rfl, M2, F2, rs, rfl, hrs, hq⟩ := hcut
        clear H2 H23 y0 y1 y2 y3 y4 y5 oy ly x0 x1 x2 ox lx u0 u1 u2 u3 u4 u5 e1 e2 e3 e4 e5 e6 e7 e8 e9
        obtain ⟨f2, hf2⟩ : ∃ f2, f2 = riseF (itemsM M2) (max fl rs) := ⟨_, rfl⟩
        rw [← hf2] at hq
        have HF2 := Lib.hid hf2
        have H30 := Lib.hid hq
        have HK2 := Lib.hid hq.inn.ids
        have HRS := Lib.hid hrs
        obtain ⟨wq, rfl⟩ : ∃ wq : World, wq = wc := ⟨_, rfl⟩
        clear hf2 hq hrs
        go_wp2_with fail
        refine (QAll_at wq H30.out.inn).mono ?_
        rintro e w31 ⟨v31, rfl, hr31, hb⟩
        have VA := Lib.hid (held_own hr31 hb H30.out.inn.lt)
        obtain ⟨a31, c31, rfl, -⟩ := id VA.out
        clear hr31
        have t32 : Step F2 wq F2 w31 := Step.of hb
        have H32 := Lib.hid (H30.out.later hb)
        clear t32
        clear hb
        go_wp2_with fail
        go_loopw [15, 103] (fun o i wr => ∃ j : Nat, j ≤ M2.length ∧ i = .int .i64 j ∧ o = .int .i64 (loadM (M2.take j)) ∧ Below w31.heap.size w31 wr) (fun _ i _ => M2.length - (intOf i).toNat)
        case atStart => exact ⟨0, Nat.zero_le _, rfl, rfl, Below.refl _ _⟩
        case round =>
          obtain ⟨j, hj, rfl, rfl, hB⟩ := hrel
          have HB := Lib.hid hB
          clear hB
          have hll : (M2.length : Int) ≤ 30 := HK2.out.2.2.2.2.1
          by_cases hjl : j < M2.length
          · obtain ⟨-, b2, off2, rfl, i0, i1, i2, i3⟩ := VA.out.recs.mem (i := j) hjl
            have hE := Lib.hid (load_take hjl)
            have hok := HK2.out.1.ok M2[j]! (by rw [getElem!_pos M2 j hjl]; exact List.getElem_mem _)
            have hlo := load_le (M := M2.take j) fun m hm => HK2.out.1.ok m (List.mem_of_mem_take hm)
            have hlt2 : (M2.take j).length ≤ 30 := by rw [List.length_take]; omega
            have hO : 0 < j → M2[j - 1]!.2.1 < M2[j]!.2.1 ∨ M2[j - 1]!.2.1 = M2[j]!.2.1 ∧ M2[j - 1]!.1 < M2[j]!.1 := fun h => ord_next HK2.out.1.ord h hjl
            obtain ⟨x, hx⟩ : ∃ x, x = M2[j]! := ⟨_, rfl⟩
            rw [← hx] at i0 i1 i2 i3 hok hO
            have hEx := Lib.hid (show loadM (M2.take (j + 1)) = loadM (M2.take j) + x.2.2.2 by rw [hE.out, hx])
            generalize loadM (M2.take j) = ld at *
            replace i0 := cell_later HB.out i0
            replace i1 := cell_later HB.out i1
            replace i2 := cell_later HB.out i2
            replace i3 := cell_later HB.out i3
            have hw : 1 ≤ x.2.2.2 ∧ x.2.2.2 ≤ 65536 := by unfold Ch.Ok at hok; omega
            have hw0 : 0 ≤ x.2.2.2 := by omega
            have a1 : IntKind.i64.wrap x.2.2.2 = x.2.2.2 := IntWalk.i64_in _ (by omega)
            have a2 : IntKind.i64.wrap (ld + x.2.2.2) = ld + x.2.2.2 := IntWalk.i64_in _ (by omega)
            have hjn : (j : Int) < (M2.length : Int) := by omega
            have hj0 : (0 : Int) ≤ (j : Int) := by omega
            have HX := Lib.hid hx
            clear hx hok hlo hlt2 hE hw
            by_cases hz : j = 0
            · have q1 : decide ((j : Int) > 0) = false := decide_eq_false (by omega)
              have q2 : decide (0 < j) = false := decide_eq_false (by omega)
              have q3 : (0 < j) = False := eq_false (by omega)
              clear hO hz
              go_wp2_with fail
              go_quiet (fail)
              go_wp2_with fail
              go_roundw
              case rel => exact ⟨j + 1, by omega, by go_num, by rw [hEx.out], below_drewN (Below.allocS HB.out _) _⟩
              case measure => simp [intOf]; omega
            · obtain ⟨p, rfl⟩ : ∃ p, j = p + 1 := ⟨j - 1, by omega⟩
              have hO2 := hO (by omega)
              obtain ⟨-, b3, off3, hbb, k0, k1, k2, k3⟩ := VA.out.recs.mem (i := p) (by omega)
              cases hbb
              rw [show p + 1 - 1 = p from rfl] at hO2
              obtain ⟨y, hy⟩ : ∃ y, y = M2[p]! := ⟨_, rfl⟩
              rw [← hy] at k0 k1 k2 k3 hO2
              replace k0 := cell_later HB.out k0
              replace k1 := cell_later HB.out k1
              replace k2 := cell_later HB.out k2
              replace k3 := cell_later HB.out k3
              have n0 : (wr.alloc (.cells #[.int .i64 x.1, .int .u64 x.2.1, .int .u32 x.2.2.1, .int .u32 x.2.2.2] 43)).cell? ⟨wr.heap.size, 0, none⟩ = some (.int .i64 x.1) := cell_nw wr _ _ 0 _ rfl
              have n1 : (wr.alloc (.cells #[.int .i64 x.1, .int .u64 x.2.1, .int .u32 x.2.2.1, .int .u32 x.2.2.2] 43)).cell? ⟨wr.heap.size, 1, none⟩ = some (.int .u64 x.2.1) := cell_nw wr _ _ 1 _ rfl
              have n2 : (wr.alloc (.cells #[.int .i64 x.1, .int .u64 x.2.1, .int .u32 x.2.2.1, .int .u32 x.2.2.2] 43)).cell? ⟨wr.heap.size, 2, none⟩ = some (.int .u32 x.2.2.1) := cell_nw wr _ _ 2 _ rfl
              have n3 : (wr.alloc (.cells #[.int .i64 x.1, .int .u64 x.2.1, .int .u32 x.2.2.1, .int .u32 x.2.2.2] 43)).cell? ⟨wr.heap.size, 3, none⟩ = some (.int .u32 x.2.2.2) := cell_nw wr _ _ 3 _ rfl
              have l0 := cell_al (.cells #[.int .i64 x.1, .int .u64 x.2.1, .int .u32 x.2.2.1, .int .u32 x.2.2.2] 43) k0
              have l1 := cell_al (.cells #[.int .i64 x.1, .int .u64 x.2.1, .int .u32 x.2.2.1, .int .u32 x.2.2.2] 43) k1
              have l2 := cell_al (.cells #[.int .i64 x.1, .int .u64 x.2.1, .int .u32 x.2.2.1, .int .u32 x.2.2.2] 43) k2
              have l3 := cell_al (.cells #[.int .i64 x.1, .int .u64 x.2.1, .int .u32 x.2.2.1, .int .u32 x.2.2.2] 43) k3
              have HBa := Lib.hid (Below.allocS HB.out (.cells #[.int .i64 x.1, .int .u64 x.2.1, .int .u32 x.2.2.1, .int .u32 x.2.2.2] 43))
              have q0 : ((p + 1 : Nat) : Int) - 1 = (p : Int) := by omega
              have q1 : (p : Int) + 1 - 1 = (p : Int) := by omega
              have q2 : IntKind.i64.wrap (p : Int) = (p : Int) := IntWalk.i64_in _ (by omega)
              have q3 : (p : Int) < (M2.length : Int) := by omega
              have q4 : (0 : Int) ≤ (p : Int) := by omega
              have q5 : p < M2.length := by omega
              have q6 : decide (((p + 1 : Nat) : Int) > 0) = true := decide_eq_true (by omega)
              have q7 : decide ((p : Int) + 1 > 0) = true := decide_eq_true (by omega)
              have q8 : decide ((0 : Int) < (p : Int) + 1) = true := decide_eq_true (by omega)
              have q9 : (0 : Int) < (p : Int) + 1 := by omega
              have qa : (p : Int).toNat = p := by omega
              clear hO hz hy
              go_wp2_with fail
              generalize wr.alloc (.cells #[.int .i64 x.1, .int .u64 x.2.1, .int .u32 x.2.2.1, .int .u32 x.2.2.2] 43) = wz at *
              rcases hO2 with hO2 | ⟨hO2, hO3⟩
              · have d1 : decide (y.2.1 > x.2.1) = false := decide_eq_false (by omega)
                have d2 : (y.2.1 == x.2.1) = false := by simp; omega
                have d3 : decide (x.2.1 < y.2.1) = false := decide_eq_false (by omega)
                go_quiet (fail)
                go_wp2_with fail
                go_roundw
                case rel => exact ⟨(p + 1) + 1, by omega, by go_num, by rw [hEx.out], below_drewN HBa.out _⟩
                case measure => simp [intOf]; omega
              · have d1 : decide (y.2.1 > x.2.1) = false := decide_eq_false (by omega)
                have d2 : (y.2.1 == x.2.1) = true := by simp; omega
                have d3 : decide (x.2.1 < y.2.1) = false := decide_eq_false (by omega)
                have d4 : decide (y.1 ≥ x.1) = false := decide_eq_false (by omega)
                have d5 : decide (x.1 ≤ y.1) = false := decide_eq_false (by omega)
                clear hO2 hO3
                go_quiet (fail)
                go_wp2_with fail
                go_roundw
                case rel => exact ⟨(p + 1) + 1, by omega, by go_num, by rw [hEx.out], below_drewN HBa.out _⟩
                case measure => simp [intOf]; omega
          · obtain rfl : j = M2.length := by omega
            have p1 : decide ((M2.length : Int) < (M2.length : Int)) = false := decide_eq_false (by omega)
            rw [List.take_of_length_le (Nat.le_refl _)]
            obtain ⟨wp, rfl⟩ : ∃ wp : World, wp = wr := ⟨_, rfl⟩
            have hBB := HB.out
            have t33 : Step F2 w31 F2 wp := Step.of hBB
            have H33 := Lib.hid (H32.out.later hBB)
            replace VA := Lib.hid (VA.out.step t33.kept t33.new)
            clear t33
            clear hBB hj hjl HB
            by_cases hnil : M2.length = 0
            · have hM2 : M2 = [] := List.length_eq_zero_iff.1 hnil
              subst hM2
              have hf : f2 = max fl rs := HF2.out
              have z1 : (f2 != max fl rs) = false := by simp [hf]
              have HF := Lib.hid hf
              clear hf hnil
              go_wp2_with fail
              refine (First_at wp H33.out.inn).mono ?_
              rintro e w34 ⟨rfl, hb⟩
              rw [show firstI ([] : Mems) = 0 from rfl, show (!List.isEmpty ([] : Mems)) = false from rfl]
              have t35 : Step F2 wp F2 w34 := Step.of hb
              have H35 := Lib.hid (H33.out.later hb)
              replace VA := Lib.hid (VA.out.step t35.kept t35.new)
              clear t35
              clear hb
              go_wp2_with fail
              refine (Load_at w34 H35.out.inn).mono ?_
              rintro e w_ ⟨rfl, rfl⟩
              go_wp2_with fail
              refine (Floor_at w34 H35.out.inn).mono ?_
              rintro e w_ ⟨rfl, rfl⟩
              go_wp2_with fail
              go_roundw
              case rel => exact ⟨k + 1, _, _, _, by omega, by go_num, by rw [HF.out], H35.out, by rw [HF.out]; rfl⟩
              case measure => simp [intOf]; omega
            · have hpos : 0 < M2.length := by omega
              have HFI := Lib.hid (first_of rfl hpos)
              obtain ⟨-, b2, off2, rfl, i0, i1, i2, i3⟩ := VA.out.recs.mem (i := 0) hpos
              have hf : f2 = max (max fl rs) M2[0]!.2.1 := by rw [HF2.out]; exact rise_first rfl hpos _
              obtain ⟨x, hx⟩ : ∃ x, x = M2[0]! := ⟨_, rfl⟩
              rw [← hx] at i0 i1 i2 i3 hf HFI
              have z1 : (f2 != max (max fl rs) x.2.1) = false := by simp [hf]
              have HF := Lib.hid hf
              have y1 : (x.1 != x.1) = false := by simp
              have y2 : decide ((M2.length : Int) > 0) = true := decide_eq_true (by omega)
              have y3 : decide (0 < M2.length) = true := decide_eq_true (by omega)
              have y4 : (loadM M2 != loadM M2) = false := by simp
              have y5 : (0 : Int) < (M2.length : Int) := by omega
              clear hf hnil hx
              rw [Nat.zero_mul, Nat.add_zero] at i0 i1 i2 i3
              go_wp2_with fail
              refine (First_at wp H33.out.inn).mono ?_
              rintro e w34 ⟨rfl, hb⟩
              rw [HFI.out.1, HFI.out.2]
              replace i0 := cell_later hb i0
              replace i1 := cell_later hb i1
              replace i2 := cell_later hb i2
              replace i3 := cell_later hb i3
              have t35 : Step F2 wp F2 w34 := Step.of hb
              have H35 := Lib.hid (H33.out.later hb)
              replace VA := Lib.hid (VA.out.step t35.kept t35.new)
              clear t35
              clear hb
              go_wp2_with fail
              refine (Load_at w34 H35.out.inn).mono ?_
              rintro e w_ ⟨rfl, rfl⟩
              go_wp2_with fail
              refine (Floor_at w34 H35.out.inn).mono ?_
              rintro e w_ ⟨rfl, rfl⟩
              go_wp2_with fail
              go_roundw
              case rel => exact ⟨k + 1, _, _, _, by omega, by go_num, by rw [HF.out, Int.max_assoc], H35.out, by rw [HF2.out]; exact rise_le _ _⟩
              case measure => simp [intOf]; omega
    · obtain rfl : k = m := by omega
      have p1 : decide ((k : Int) < (k : Int)) = false := decide_eq_false (by omega)
      clear hk hlt
      obtain ⟨wp, rfl⟩ : ∃ wp : World, wp = wr := ⟨_, rfl⟩
      go_wp2_with fail
      refine (AW.out wp).mono ?_
      rintro e w9 ⟨rfl, hb9⟩
      have HB9 := Lib.hid (Below.step HI.out.bel hb9)
      clear hb9
      go_wp2_with fail
      go_ret
      exact ⟨rfl, HB9.out⟩
end Go.Proofs.Ytekjakmeopolhaa
