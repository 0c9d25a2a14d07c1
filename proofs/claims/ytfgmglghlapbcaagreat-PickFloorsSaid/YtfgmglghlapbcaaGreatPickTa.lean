/-
  Layer 25 (pick): Tasks.
-/
import Derived.Test.YtfgmglghlapbcaaGreatPkM
import Derived.Test.YtfgmglghlapbcaaGreatQuB
namespace Go.Proofs.YtfgmglghlapbcaaGreat
open Go.RowKit Go.Maps Go.IntWalk Go.Lib Go.Sort Go.Shelf
set_option linter.unusedVariables false
set_option linter.unusedSimpArgs false
theorem own_shapeT {w : World} {base n size : Nat} {e : TypeId} {v : Value} {xs : List Value} (h : w.ownsRow base e size v n xs) : ∃ a cap, v = .slice a n cap := by
  rcases h.2 with ⟨rfl, h0⟩ | ⟨g, cap, cur, rfl, _⟩
  · exact ⟨none, 0, by rw [h0]⟩
  · exact ⟨_, cap, rfl⟩
/-- the tasks among the members of a queue, in order -/
def tasksM (M : Mems) : List Int := (M.map Prod.fst).filter fun i => decide (i < 65536)
def tasksT (s : TSt) (g : Int) : List Int := if hasV (s.n : Int) g = true then tasksM (s.M g.toNat) else []
def TasksP (w : World) (L : List Int) (e : Ending) (w' : World) : Prop := ∃ v, e = .returned v ∧ w'.ownsRow w.heap.size 3 1 v L.length (intsV L) ∧ Below w.heap.size w w'
theorem tasksM_len (M : Mems) : (tasksM M).length ≤ M.length := by
  unfold tasksM
  exact Nat.le_trans (List.length_filter_le _ _) (by simp)
theorem tasks_snoc (A : Mems) (m : Int × Ent) : tasksM (A ++ [m]) = if m.1 < 65536 then tasksM A ++ [m.1] else tasksM A := by
  unfold tasksM
  rw [List.map_append, List.filter_append]
  by_cases h : m.1 < 65536
  · rw [if_pos h]; simp [h]
  · rw [if_neg h]; simp [h]
theorem own_base {w : World} {base base' n size : Nat} {e : TypeId} {v : Value} {xs : List Value} (h : w.ownsRow base e size v n xs) (hb : base' ≤ base) : w.ownsRow base' e size v n xs :=
  ⟨h.1, h.2.imp id fun ⟨g, c, cur, h1, h2, h3⟩ => ⟨g, c, cur, h1, Nat.le_trans hb h2, h3⟩⟩
theorem take_snoc {M : Mems} {j : Nat} {m : Int × Ent} (h : M[j]? = some m) : M.take (j + 1) = M.take j ++ [m] := by rw [List.take_add_one, h]; rfl
set_option maxRecDepth 100000 in
set_option maxHeartbeats 4000000 in
theorem pTasks_at {t : Nat} {F : List Nat} {s : TSt} (g : Int) (w : World) (h : TreeIn w t F s) : Calls Tryz.prog 15 #[.pointer (some ⟨t, 0, none⟩), .int .i64 g] w (TasksP w (tasksT s g)) := by
  obtain ⟨bg, bq, ba, bm, qp, Fq, hr, rfl⟩ := h
  obtain ⟨i0, hi, hz0, hz1, hz2⟩ := info_parts infoI
  have A1 := Lib.hid (phas_at g hr)
  have hn := hr.pos
  have hlts := hr.lt
  cases hv : hasV (s.n : Int) g with
  | false =>
    have HT := Lib.hid (show tasksT s g = [] by unfold tasksT; rw [hv]; rfl)
    rw [hv] at A1
    clear hr hv
    go_enter Tryz.func15, Tryz.ntmps15
    go_wp2_with fail
    refine A1.out.mono ?_; rintro e w5 ⟨rfl, rfl⟩
    go_wp2_with fail
    go_ret
    exact ⟨_, rfl, by rw [HT.out]; exact World.ownsRow_nil _ _ _ _, Below.refl _ _⟩
  | true =>
    have hvp : 0 ≤ g ∧ g < (s.n : Int) := of_decide_eq_true hv
    obtain ⟨gk, rfl⟩ : ∃ gk : Nat, g = gk := ⟨g.toNat, by omega⟩
    have hgk : gk < s.n := by omega
    have HT := Lib.hid (show tasksT s (gk : Int) = tasksM (s.M gk) by unfold tasksT; rw [hv, if_pos rfl, Int.toNat_natCast])
    obtain ⟨c1, q1⟩ := hr.g1
    have q2 := hr.qc gk hgk
    have A2 := Lib.hid (QAll_at w (hr.q gk hgk))
    have HID := Lib.hid (hr.q gk hgk).ids
    have hml : (s.M gk).length ≤ 131072 := by have := HID.out; omega
    generalize s.M gk = M at *
    rw [hv] at A1
    clear hr hv hvp
    go_enter Tryz.func15, Tryz.ntmps15
    go_wp2_with fail
    refine A1.out.mono ?_; rintro e w5 ⟨rfl, rfl⟩
    go_wp2_with fail
    refine A2.out.mono ?_; rintro e w6 ⟨v, rfl, hown, hb6⟩
    have HO := Lib.hid hown
    have HB6 := Lib.hid hb6
    obtain ⟨mn, hmn⟩ : ∃ k, k = M.length := ⟨_, rfl⟩
    rw [← hmn] at hown hml
    obtain ⟨am, cm, rfl⟩ := own_shapeT hown
    have HMN := Lib.hid hmn
    clear hown hb6 hmn
    go_wp2_with fail
    go_loopw [5, 21] (fun v i wr => ∃ j : Nat, j ≤ mn ∧ i = .int .i64 j ∧ wr.ownsRow w6.heap.size 3 1 v (tasksM (M.take j)).length (intsV (tasksM (M.take j))) ∧ Below w6.heap.size w6 wr) (fun _ i _ => mn - (intOf i).toNat)
    case atStart => exact ⟨0, Nat.zero_le _, rfl, World.ownsRow_nil _ _ _ _, Below.refl _ _⟩
    case round =>
      obtain ⟨j, hj, rfl, hown, hb⟩ := hrel
      have HOW := Lib.hid hown
      have HB := Lib.hid hb
      clear hown
      by_cases hlt : j < mn
      · have hji : (j : Int) < (mn : Int) := by omega
        have z1 : decide ((j : Int) < (mn : Int)) = true := decide_eq_true hji
        have hj0 : (0 : Int) ≤ (j : Int) := by omega
        have hjM : j < M.length := by rw [← HMN.out]; exact hlt
        have hx : M[j]? = some M[j]! := by rw [List.getElem?_eq_getElem hjM, getElem!_pos M j hjM]
        have hw := HO.out
        rw [← HMN.out] at hw
        obtain ⟨m0, hm0⟩ : ∃ m0, mn = m0 + 1 := ⟨mn - 1, by omega⟩
        rw [hm0] at hw
        obtain ⟨g0, c0, e0⟩ := own_some hw
        rw [← hm0] at e0 hw
        clear hm0
        simp only [Value.slice.injEq] at e0
        obtain ⟨rfl, -, rfl⟩ := e0
        obtain ⟨⟨id, x, r, c⟩, hm⟩ : ∃ m, m = M[j]! := ⟨_, rfl⟩
        rw [← hm] at hx
        have HTK := Lib.hid (show tasksM (M.take (j + 1)) = if id < 65536 then tasksM (M.take j) ++ [id] else tasksM (M.take j) by rw [take_snoc hx, tasks_snoc])
        have HLE := Lib.hid (show (tasksM (M.take j)).length ≤ mn from Nat.le_trans (tasksM_len _) (by rw [List.length_take]; omega))
        have y0 := cell_later hb ((hw.cellAt (j * 4 + 0) (by omega)).trans (flatR_at encMs_ok hx 0 (by decide)))
        have y1 := cell_later hb ((hw.cellAt (j * 4 + 1) (by omega)).trans (flatR_at encMs_ok hx 1 (by decide)))
        have y2 := cell_later hb ((hw.cellAt (j * 4 + 2) (by omega)).trans (flatR_at encMs_ok hx 2 (by decide)))
        have y3 := cell_later hb ((hw.cellAt (j * 4 + 3) (by omega)).trans (flatR_at encMs_ok hx 3 (by decide)))
        rw [Nat.add_zero] at y0
        replace y0 : wr.cell? ⟨g0, j * 4, none⟩ = some (.int .i64 id) := y0
        replace y1 : wr.cell? ⟨g0, j * 4 + 1, none⟩ = some (.int .u64 x) := y1
        replace y2 : wr.cell? ⟨g0, j * 4 + 2, none⟩ = some (.int .u32 r) := y2
        replace y3 : wr.cell? ⟨g0, j * 4 + 3, none⟩ = some (.int .u32 c) := y3
        have u0 := cell_nw wr #[.int .i64 id, .int .u64 x, .int .u32 r, .int .u32 c] 106 0 _ rfl
        have u1 := cell_nw wr #[.int .i64 id, .int .u64 x, .int .u32 r, .int .u32 c] 106 1 _ rfl
        have u2 := cell_nw wr #[.int .i64 id, .int .u64 x, .int .u32 r, .int .u32 c] 106 2 _ rfl
        have u3 := cell_nw wr #[.int .i64 id, .int .u64 x, .int .u32 r, .int .u32 c] 106 3 _ rfl
        have HB7 := Lib.hid (Below.allocS hb (.cells #[.int .i64 id, .int .u64 x, .int .u32 r, .int .u32 c] 106))
        have HO7 := Lib.hid (World.ownsRow.alloc HOW.out (.cells #[.int .i64 id, .int .u64 x, .int .u32 r, .int .u32 c] 106))
        clear hb hw hm hx
        by_cases hid : id < 65536
        · have z2 : decide (id < 65536) = true := decide_eq_true hid
          have HSN := Lib.hid (show tasksM (M.take (j + 1)) = tasksM (M.take j) ++ [id] by rw [HTK.out, if_pos hid])
          clear HTK
          go_wp2_with (at_builtin; refine wpList_append_own _ rfl _ _ 37 rfl w6.heap.size 3 i0 (.int .i64 0) 1 8 Tryz.underlying37 hi hz0 hz1 hz2 rfl (by decide) _ (tasksM (M.take j)).length (intsV (tasksM (M.take j))) rfl (World.ownsRow.alloc HO7.out _) _ 1 1 [.int .i64 id] rfl rfl ?c1 ?c2 ?c3 ?c4 ?c5 ?_)
          case c1 =>
            intro q u hq
            rw [addN]
            exact cellN (by simp) (by simpa using hq)
          case c2 =>
            intro u hu
            simp only [List.mem_cons, List.not_mem_nil, or_false] at hu
            subst hu; rfl
          case c3 => have := HLE.out; unfold maxLen; omega
          case c4 => have := HLE.out; omega
          case c5 => exact (Below.allocS HB7.out _).size
          intro v' w8 hown8 hgrow8 _
          have hb8 : Below w6.heap.size w6 w8 := (Below.allocS HB7.out _).grown hgrow8 (Below.allocS HB7.out _).size (fun q e => (HOW.out.lt q e).1)
          have HW8 := Lib.hid (show w8.ownsRow w6.heap.size 3 1 v' (tasksM (M.take (j + 1))).length (intsV (tasksM (M.take (j + 1)))) by rw [HSN.out, List.length_append, ints_snoc]; exact hown8)
          have HB8 := Lib.hid hb8
          clear hown8 hgrow8 hb8
          go_wp2_with fail
          go_roundw
          case rel => exact ⟨j + 1, by omega, by go_num, HW8.out, HB8.out⟩
          case measure => simp [intOf]; omega
        · have z2 : decide (id < 65536) = false := decide_eq_false hid
          have HSN := Lib.hid (show tasksM (M.take (j + 1)) = tasksM (M.take j) by rw [HTK.out, if_neg hid])
          clear HTK
          go_wp2_with fail
          go_roundw
          case rel => exact ⟨j + 1, by omega, by go_num, by rw [HSN.out]; exact HO7.out, HB7.out⟩
          case measure => simp [intOf]; omega
      · have HJ := Lib.hid (show j = mn by omega)
        have z1 : decide ((j : Int) < (mn : Int)) = false := decide_eq_false (by omega)
        have z2 : ¬ (j : Int) < (mn : Int) := by omega
        clear hb hj hlt
        go_wp2_with fail
        go_ret
        refine ⟨_, rfl, ?_, Below.step HB6.out HB.out⟩
        rw [HT.out]
        have := HOW.out
        rw [List.take_of_length_le (by rw [← HMN.out, HJ.out]; exact Nat.le_refl _)] at this
        exact own_base this HB6.out.size
end Go.Proofs.YtfgmglghlapbcaaGreat
