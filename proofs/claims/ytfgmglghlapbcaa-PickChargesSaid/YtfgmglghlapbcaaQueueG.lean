/-
  Layer 24 (queue): New, First, Get, Floor, Load, Len, Raise.
-/
import Derived.Test.YtfgmglghlapbcaaQueueE
namespace Go.Proofs.Ytfgmglghlapbcaa
open Go.RowKit Go.Maps Go.IntWalk Go.Lib
set_option linter.unusedVariables false
set_option linter.unusedSimpArgs false
theorem Floor_at {q : Nat} {F : List Nat} {n : Int} {M : Mems} {fl : Int} (w : World) (h : QIn w q F n M fl) : Calls Try.prog 25 #[.pointer (some ⟨q, 0, none⟩)] w fun e w' => e = .returned (.int .u64 fl) ∧ w = w' := by
  obtain ⟨p, bm, Fh, f, hr, rfl, hfe, hok, hf0, hf1⟩ := h
  have A1 := Lib.hid (qsome_at q n w hr.c1 hr.pos)
  have c3 := hr.c3
  clear hr hfe hok hf0 hf1
  go_enter Try.func25, Try.ntmps25
  go_wp2_with fail
  refine A1.out.mono ?_; rintro e w5 ⟨rfl, rfl⟩
  go_wp2_with fail
  go_ret
  exact ⟨rfl, rfl⟩
theorem Load_at {q : Nat} {F : List Nat} {n : Int} {M : Mems} {fl : Int} (w : World) (h : QIn w q F n M fl) : Calls Try.prog 58 #[.pointer (some ⟨q, 0, none⟩)] w fun e w' => e = .returned (.int .i64 (loadM M)) ∧ w = w' := by
  obtain ⟨p, bm, Fh, f, hr, rfl, hfe, hok, hf0, hf1⟩ := h
  have A1 := Lib.hid (qsome_at q n w hr.c1 hr.pos)
  have c4 := hr.c4
  clear hr hfe hok hf0 hf1
  go_enter Try.func58, Try.ntmps58
  go_wp2_with fail
  refine A1.out.mono ?_; rintro e w5 ⟨rfl, rfl⟩
  go_wp2_with fail
  go_ret
  exact ⟨rfl, rfl⟩
theorem Raise_at {q : Nat} {F : List Nat} {n : Int} {M : Mems} {fl : Int} (x : Int) (w : World) (h : QIn w q F n M fl) (hx : 0 ≤ x ∧ x ≤ 18446744073709551615) : Calls Try.prog 22 #[.pointer (some ⟨q, 0, none⟩), .int .u64 x] w (QDid w q F n (.int .i64 0) M (max fl x)) := by
  obtain ⟨p, bm, Fh, f, hr, rfl, hfe, hok, hf0, hf1⟩ := h
  have A1 := Lib.hid (qsome_at q n w hr.c1 hr.pos)
  have c3 := hr.c3
  have f3 := hr.fr 3
  have HR := Lib.hid hr
  have HK := Lib.hid (And.intro hfe (And.intro hok (And.intro hf0 hf1)))
  clear hr hfe hok hf0 hf1
  go_enter Try.func22, Try.ntmps22
  go_wp2_with fail
  refine A1.out.mono ?_; rintro e w5 ⟨rfl, rfl⟩
  go_wp2_with fail
  go_ret
  obtain ⟨h1, h2⟩ := HR.out.floored (max fl x)
  exact ⟨rfl, q :: bm :: Fh, ⟨p, bm, Fh, f, h1, rfl, HK.out.1, HK.out.2.1, by have := HK.out.2.2; omega, by have := HK.out.2.2; omega⟩, Step.inn h2 (fun b hb => by simp at hb; simp [hb])⟩
theorem Len_at' {q : Nat} {F : List Nat} {n : Int} {M : Mems} {fl : Int} (w : World) (h : QIn w q F n M fl) : Calls Try.prog 32 #[.pointer (some ⟨q, 0, none⟩)] w fun e w' => e = .returned (.int .i64 M.length) ∧ w = w' := by
  obtain ⟨p, bm, Fh, f, hr, rfl, hfe, hok, hf0, hf1⟩ := h
  have A1 := Lib.hid (qsome_at q n w hr.c1 hr.pos)
  have c2 := hr.c2
  have hln := MapG.len (enc := encE) (dat := datE) (R := readE) (ok := fun _ => True) undE hr.map 3
  clear hr hfe hok hf0 hf1
  go_enter Try.func32, Try.ntmps32
  go_wp2_with fail
  refine A1.out.mono ?_; rintro e w5 ⟨rfl, rfl⟩
  go_wp2_with fail
  go_ret
  exact ⟨rfl, rfl⟩
def firstI (M : Mems) : Int := match M with | [] => 0 | x :: _ => x.1
theorem First_at {q : Nat} {F : List Nat} {n : Int} {M : Mems} {fl : Int} (w : World) (h : QIn w q F n M fl) : Calls Try.prog 70 #[.pointer (some ⟨q, 0, none⟩)] w fun e w' => e = .returned (.tuple #[.int .i64 (firstI M), .bool (!M.isEmpty)]) ∧ Below w.heap.size w w' := by
  obtain ⟨p, bm, Fh, f, hr, rfl, hfe, hok, hf0, hf1⟩ := h
  have A1 := Lib.hid (qsome_at q n w hr.c1 hr.pos)
  have c0 := hr.c0
  have A2 := Lib.hid (Least_at w hr.heap)
  clear hr hfe hok hf0 hf1
  cases M with
  | nil =>
    go_enter Try.func70, Try.ntmps70
    go_wp2_with fail
    refine A1.out.mono ?_; rintro e w5 ⟨rfl, rfl⟩
    go_wp2_with fail
    refine A2.out.mono ?_; rintro e w6 ⟨rfl, hg6⟩
    rw [show leastV (itemsM []) = .tuple #[.agg #[.int .i64 0, .int .u64 0], .bool false] from rfl]
    have HB := Lib.hid hg6.below
    clear hg6
    go_wp2_with fail
    refine bodyPost_ret (v := .tuple #[.int .i64 0, .bool false]) (by simp [results, Try.results70, go_sem]) rfl ⟨rfl, ?_⟩
    exact Below.step HB.out (below_a _ _)
  | cons x r =>
    go_enter Try.func70, Try.ntmps70
    go_wp2_with fail
    refine A1.out.mono ?_; rintro e w5 ⟨rfl, rfl⟩
    go_wp2_with fail
    refine A2.out.mono ?_; rintro e w6 ⟨rfl, hg6⟩
    rw [show leastV (itemsM (x :: r)) = .tuple #[.agg #[.int .i64 x.1, .int .u64 x.2.1], .bool true] from rfl]
    have HB := Lib.hid hg6.below
    clear hg6
    go_wp2_with fail
    refine bodyPost_ret (v := .tuple #[.int .i64 x.1, .bool true]) (by simp [results, Try.results70, go_sem]) rfl ⟨rfl, ?_⟩
    exact Below.step HB.out (below_a _ _)
def getE (M : Mems) (id : Int) : Ent := (entM M id).getD (0, 0, 0)
theorem Get_at {q : Nat} {F : List Nat} {n : Int} {M : Mems} {fl : Int} (id : Int) (w : World) (h : QIn w q F n M fl) (hid : (Lit.int .i64 id).wf = true) : Calls Try.prog 41 #[.pointer (some ⟨q, 0, none⟩), .int .i64 id] w fun e w' => e = .returned (.tuple #[.agg #[.int .u64 (getE M id).1, .int .u32 (getE M id).2.1, .int .u32 (getE M id).2.2], .bool (entM M id).isSome]) ∧ Below w.heap.size w w' := by
  have hids := h.ids
  obtain ⟨p, bm, Fh, f, hr, rfl, hfe, hok, hf0, hf1⟩ := h
  obtain ⟨W0, hW0⟩ : ∃ W0, W0 = w.alloc (.cells #[.int .u64 0, .int .u32 0, .int .u32 0] 39) := ⟨_, rfl⟩
  have HB0 := Lib.hid (show Below w.heap.size w W0 by rw [hW0]; exact below_a _ _)
  have z0 : W0.cell? ⟨w.heap.size, 0, none⟩ = some (.int .u64 0) := by rw [hW0]; exact cell_nw _ _ _ 0 _ rfl
  have z1 : W0.cell? ⟨w.heap.size, 1, none⟩ = some (.int .u32 0) := by rw [hW0]; exact cell_nw _ _ _ 1 _ rfl
  have z2 : W0.cell? ⟨w.heap.size, 2, none⟩ = some (.int .u32 0) := by rw [hW0]; exact cell_nw _ _ _ 2 _ rfl
  have g0 : W0.frozen? ⟨w.heap.size, 0, none⟩ = false := by rw [hW0]; exact frz_nw _ _ _ 0
  have g1 : W0.frozen? ⟨w.heap.size, 1, none⟩ = false := by rw [hW0]; exact frz_nw _ _ _ 1
  have g2 : W0.frozen? ⟨w.heap.size, 2, none⟩ = false := by rw [hW0]; exact frz_nw _ _ _ 2
  have HW0 := Lib.hid hW0
  have A1 := Lib.hid (qfind_at id W0 (hr.below HB0.out) hid)
  obtain ⟨x, c, hx, hc, hA⟩ : ∃ (x : Ent) (c : Int), getE M id = x ∧ (entM M id).isSome = (c == 0) ∧ qfindV n f id = (x, c) := by
    unfold qfindV
    rw [hfe]
    cases hm : entM M id with
    | some y =>
      have hv : hasV n id = true := hasV_iff.2 (hids.2.1 _ ((ent_some hids.1.nod).1 hm))
      rw [hv, if_pos rfl]
      exact ⟨y, 0, by unfold getE; rw [hm]; rfl, rfl, rfl⟩
    | none =>
      by_cases hv : hasV n id = true
      · rw [if_pos hv]; exact ⟨(0, 0, 0), 6, by unfold getE; rw [hm]; rfl, rfl, rfl⟩
      · rw [if_neg hv]; exact ⟨(0, 0, 0), 2, by unfold getE; rw [hm]; rfl, rfl, rfl⟩
  rw [hA] at A1
  rw [hx, hc]
  clear hx hc hA hr hfe hok hf0 hf1 hids hW0
  go_enter Try.func41, Try.ntmps41
  go_wp2_with fail
  rw [← HW0.out]
  refine A1.out.mono ?_; rintro e w5 ⟨rfl, hb5⟩
  replace g0 := frz_later (Below.step hb5 (below_a w5 (.cells #[.int .u64 x.1, .int .u32 x.2.1, .int .u32 x.2.2] 39))) g0 (lt_of_cell z0)
  replace z0 := cell_al (.cells #[.int .u64 x.1, .int .u32 x.2.1, .int .u32 x.2.2] 39) (cell_later hb5 z0)
  replace g1 := frz_later (Below.step hb5 (below_a w5 (.cells #[.int .u64 x.1, .int .u32 x.2.1, .int .u32 x.2.2] 39))) g1 (lt_of_cell z1)
  replace z1 := cell_al (.cells #[.int .u64 x.1, .int .u32 x.2.1, .int .u32 x.2.2] 39) (cell_later hb5 z1)
  replace g2 := frz_later (Below.step hb5 (below_a w5 (.cells #[.int .u64 x.1, .int .u32 x.2.1, .int .u32 x.2.2] 39))) g2 (lt_of_cell z2)
  replace z2 := cell_al (.cells #[.int .u64 x.1, .int .u32 x.2.1, .int .u32 x.2.2] 39) (cell_later hb5 z2)
  have HB5 := Lib.hid (Below.step (Below.step HB0.out hb5) (below_a w5 (.cells #[.int .u64 x.1, .int .u32 x.2.1, .int .u32 x.2.2] 39)))
  clear hb5
  go_wp2_with fail
  refine bodyPost_ret (v := .tuple #[.agg #[.int .u64 x.1, .int .u32 x.2.1, .int .u32 x.2.2], .bool (c == 0)]) (by simp [results, Try.results41, go_sem, *]) rfl ⟨rfl, ?_⟩
  exact (((HB5.out.setCell (Nat.le_refl _) _).setCell (Nat.le_refl _) _).setCell (Nat.le_refl _) _)
set_option maxRecDepth 100000 in
theorem New_bad' (n : Int) (w : World) (hn : ¬ (1 ≤ n ∧ n ≤ 131072)) : Calls Try.prog 19 #[.int .i64 n] w fun e w' => e = .returned (.tuple #[.pointer none, .int .i64 2]) ∧ w = w' := by
  by_cases h1 : n < 1
  · have z1 : decide (n < 1) = true := decide_eq_true h1
    clear hn h1
    go_enter Try.func19, Try.ntmps19
    go_wp2_with fail
    exact bodyPost_ret (v := .tuple #[.pointer none, .int .i64 2]) (by simp [results, Try.results19, go_sem]) rfl ⟨rfl, rfl⟩
  · have z1 : decide (n < 1) = false := decide_eq_false h1
    have z2 : decide (n > 131072) = true := decide_eq_true (by omega)
    have z2' : decide (131072 < n) = true := decide_eq_true (by omega)
    clear hn h1
    go_enter Try.func19, Try.ntmps19
    go_wp2_with fail
    exact bodyPost_ret (v := .tuple #[.pointer none, .int .i64 2]) (by simp [results, Try.results19, go_sem]) rfl ⟨rfl, rfl⟩
def QNewP (w : World) (n : Int) (e : Ending) (w' : World) : Prop := ∃ q F, e = .returned (.tuple #[.pointer (some ⟨q, 0, none⟩), .int .i64 0]) ∧ QIn w' q F n [] 0 ∧ (∀ b ∈ F, w.heap.size ≤ b) ∧ Below w.heap.size w w'
set_option maxRecDepth 100000 in
set_option maxHeartbeats 1000000 in
theorem New_at (n : Int) (w : World) (h0 : 1 ≤ n) (h1 : n ≤ 131072) : Calls Try.prog 19 #[.int .i64 n] w (QNewP w n) := by
  have A1 := Lib.hid (New_in n w h0 h1)
  have z1 : decide (n < 1) = false := decide_eq_false (by omega)
  have z2 : decide (n > 131072) = false := decide_eq_false (by omega)
  have z2' : decide (131072 < n) = false := decide_eq_false (by omega)
  clear h0 h1
  go_enter Try.func19, Try.ntmps19
  go_wp2_with fail
  refine A1.out.mono ?_; rintro e w5 ⟨rfl, hh, hb⟩
  have HH := Lib.hid hh
  have HB := Lib.hid hb
  clear hh hb
  have hmm := @run_makeMap Try.prog
  go_wp2_with fail
  go_ret2
  obtain ⟨W6, hW6⟩ : ∃ W, W = w5.alloc (.map #[] 0) := ⟨_, rfl⟩
  have hb6 : Below w5.heap.size w5 W6 := by rw [hW6]; exact below_a _ _
  have hm6 : MapE W6 w5.heap.size (fun _ => none) 0 := by rw [hW6]; exact MapG.made _
  have hs6 : W6.heap.size = w5.heap.size + 1 := by rw [hW6]; simp
  have hlt := HH.out.lt
  rw [← hW6, ← hs6]
  have hB := Below.step (Below.step HB.out hb6) (below_a W6 (.cells #[.pointer (some ⟨w.heap.size + 1, 0, none⟩), .int .i64 n, .map (some w5.heap.size), .int .u64 0, .int .i64 0] 105))
  refine ⟨W6.heap.size, W6.heap.size :: w5.heap.size :: [w.heap.size + 1, w.heap.size], rfl, ⟨w.heap.size + 1, w5.heap.size, [w.heap.size + 1, w.heap.size], fun _ => none, ⟨cell_nw _ _ _ 0 _ rfl, cell_nw _ _ _ 1 _ rfl, cell_nw _ _ _ 2 _ rfl, cell_nw _ _ _ 3 _ rfl, cell_nw _ _ _ 4 _ rfl, fun j => frz_nw _ _ _ j, (HH.out.below hb6).below (below_a _ _), hm6.below (below_a _ _), fun m => by have := hlt _ m; omega, fun m => by have := hlt _ m; omega, by omega⟩, rfl, fun id => rfl, ⟨List.nodup_nil, List.Pairwise.nil, fun m hm => by cases hm⟩, by omega, by omega⟩, fun b hb => ?_, hB⟩
  have h1 := HB.out.size
  simp only [List.mem_cons, List.not_mem_nil, or_false] at hb
  omega
end Go.Proofs.Ytfgmglghlapbcaa
