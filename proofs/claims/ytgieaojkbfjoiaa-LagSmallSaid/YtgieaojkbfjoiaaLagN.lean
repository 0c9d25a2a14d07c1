/-
  The walks of layer 39 (lag): Next.
-/
import Derived.Test.YtgieaojkbfjoiaaLagO
namespace Go.Proofs.Ytgieaojkbfjoiaa
open Go.RowKit Go.Maps Go.IntWalk Go.Lib Go.Sort
set_option linter.unusedVariables false
def minStep (m x : Int × Int × Int) : Int × Int × Int := if leastV' x m < 0 then x else m
def minV (l : List (Int × Int × Int)) (m : Int × Int × Int) (k : Nat) : Int × Int × Int := (l.take k).foldl minStep m
theorem minV_succ {l : List (Int × Int × Int)} {m : Int × Int × Int} {k : Nat} {x : Int × Int × Int} (h : l[k]? = some x) : minV l m (k + 1) = minStep (minV l m k) x := by
  unfold minV
  rw [List.take_add_one, h, Option.toList_some, List.foldl_append]; rfl
theorem leastV'_self (x : Int × Int × Int) : leastV' x x = 0 := by simp [leastV', orV, Lib.compareInt]
theorem minV_one {l : List (Int × Int × Int)} {x : Int × Int × Int} (h : l[0]? = some x) : minV l x 1 = x := by
  rw [minV_succ h]; simp [minV, minStep, leastV'_self]
def RunsAt (w : World) (g : Nat) (l : List (Int × Int × Int)) : Prop := ∀ (k : Nat) (x : Int × Int × Int), l[k]? = some x → w.cell? ⟨g, k * 3, none⟩ = some (.int .i64 x.1) ∧ w.cell? ⟨g, k * 3 + 1, none⟩ = some (.int .i64 x.2.1) ∧ w.cell? ⟨g, k * 3 + 2, none⟩ = some (.int .i64 x.2.2)
def MinP (l : List (Int × Int × Int)) (e : Ending) : Prop := ∃ x, l[0]? = some x ∧ e = .returned (.agg (encR (minV l x l.length)).toArray)
def BoxIs (B : Nat) (m : Int × Int × Int) (w : World) : Prop := w.cell? ⟨B, 0, none⟩ = some (.int .i64 m.1) ∧ w.cell? ⟨B, 1, none⟩ = some (.int .i64 m.2.1) ∧ w.cell? ⟨B, 2, none⟩ = some (.int .i64 m.2.2) ∧ ∀ j, w.frozen? ⟨B, j, none⟩ = false
theorem BoxIs.later {B : Nat} {m : Int × Int × Int} {a b : World} (h : BoxIs B m a) (hb : Below a.heap.size a b) : BoxIs B m b :=
  ⟨cell_later hb h.1, cell_later hb h.2.1, cell_later hb h.2.2.1, fun j => (hb.frozen (p := ⟨B, j, none⟩) (lt_of_cell h.1)).trans (h.2.2.2 j)⟩
theorem BoxIs.new (w : World) (m : Int × Int × Int) (t : TypeId) : BoxIs w.heap.size m (w.alloc (.cells #[.int .i64 m.1, .int .i64 m.2.1, .int .i64 m.2.2] t)) :=
  ⟨cell_nw _ _ _ 0 _ rfl, cell_nw _ _ _ 1 _ rfl, cell_nw _ _ _ 2 _ rfl, fun j => by rw [World.frozen?_alloc_new]⟩
theorem BoxIs.put {B : Nat} {m : Int × Int × Int} {w : World} (h : BoxIs B m w) (u : Int × Int × Int) : BoxIs B u (((w.setCell ⟨B, 0, none⟩ (.int .i64 u.1)).setCell ⟨B, 1, none⟩ (.int .i64 u.2.1)).setCell ⟨B, 2, none⟩ (.int .i64 u.2.2)) := by
  obtain ⟨h0, h1, h2, h3⟩ := h
  refine ⟨cell_set_ne (cell_set_ne (cell_set_eq h0) (Or.inr (by omega))) (Or.inr (by omega)), cell_set_ne (cell_set_eq (cell_set_ne h1 (Or.inr (by omega)))) (Or.inr (by omega)), cell_set_eq (cell_set_ne (cell_set_ne h2 (Or.inr (by omega))) (Or.inr (by omega))), fun j => ?_⟩
  rw [World.frozen?_setCell, World.frozen?_setCell, World.frozen?_setCell]; exact h3 j
theorem BoxIs.other {B B' : Nat} {m : Int × Int × Int} {w : World} (h : BoxIs B m w) (hn : B ≠ B') (u v z : Value) : BoxIs B m (((w.setCell ⟨B', 0, none⟩ u).setCell ⟨B', 1, none⟩ v).setCell ⟨B', 2, none⟩ z) := by
  obtain ⟨h0, h1, h2, h3⟩ := h
  refine ⟨cell_set_ne (cell_set_ne (cell_set_ne h0 (Or.inl hn)) (Or.inl hn)) (Or.inl hn), cell_set_ne (cell_set_ne (cell_set_ne h1 (Or.inl hn)) (Or.inl hn)) (Or.inl hn), cell_set_ne (cell_set_ne (cell_set_ne h2 (Or.inl hn)) (Or.inl hn)) (Or.inl hn), fun j => ?_⟩
  rw [World.frozen?_setCell, World.frozen?_setCell, World.frozen?_setCell]; exact h3 j
set_option maxRecDepth 100000 in
set_option maxHeartbeats 1000000 in
theorem MinFunc_any (g cap n : Nat) (l : List (Int × Int × Int)) (w : World) (h : RunsAt w g l) (hn : l.length = n) (h1 : n ≤ 1024) (h0 : 0 < n) :
    Calls Try.prog 34 #[.slice (some ⟨g, 0, none⟩) n cap, .func (.func 35) #[] #[]] w fun e w' => Below w.heap.size w w' ∧ MinP l e := by
  obtain ⟨⟨x1, x2, x3⟩, hx⟩ : ∃ x, l[0]? = some x := ⟨_, List.getElem?_eq_getElem (by omega)⟩
  obtain ⟨r0, r1, r2⟩ := h 0 _ hx
  simp only at r0 r1 r2
  have r0 := cell_al (.cells #[.int .i64 0, .int .i64 0, .int .i64 0] 64) r0
  have r1 := cell_al (.cells #[.int .i64 0, .int .i64 0, .int .i64 0] 64) r1
  have r2 := cell_al (.cells #[.int .i64 0, .int .i64 0, .int .i64 0] 64) r2
  have HX := Lib.hid hx
  have HN := Lib.hid hn
  have H := Lib.hid h
  have A1 := Lib.hid fun a b c d e f W => least_any a b c d e f W
  clear h hx hn
  go_enter Try.func34, Try.ntmps34
  go_wp2_with fail
  have hb0 : Below w.heap.size w ((w.alloc (.cells #[.int .i64 0, .int .i64 0, .int .i64 0] 64)).alloc (.cells #[.int .i64 x1, .int .i64 x2, .int .i64 x3] 64)) := Below.allocS (Below.allocS (Below.refl _ _) _) _
  have hB0 : BoxIs w.heap.size (0, 0, 0) ((w.alloc (.cells #[.int .i64 0, .int .i64 0, .int .i64 0] 64)).alloc (.cells #[.int .i64 x1, .int .i64 x2, .int .i64 x3] 64)) := (BoxIs.new w (0, 0, 0) 64).later (below_a _ _)
  have hB1 : BoxIs (w.heap.size + 1) (x1, x2, x3) ((w.alloc (.cells #[.int .i64 0, .int .i64 0, .int .i64 0] 64)).alloc (.cells #[.int .i64 x1, .int .i64 x2, .int .i64 x3] 64)) := by
    have := BoxIs.new (w.alloc (.cells #[.int .i64 0, .int .i64 0, .int .i64 0] 64)) (x1, x2, x3) 64
    rwa [World.size_alloc] at this
  generalize (w.alloc (.cells #[.int .i64 0, .int .i64 0, .int .i64 0] 64)).alloc (.cells #[.int .i64 x1, .int .i64 x2, .int .i64 x3] 64) = wo at *
  clear r0 r1 r2
  go_loopw [6] (fun i wr => ∃ k : Nat, 1 ≤ k ∧ k ≤ n ∧ i = .int .i64 k ∧ BoxIs (w.heap.size + 1) (minV l (x1, x2, x3) k) wr ∧ BoxIs w.heap.size (0, 0, 0) wr ∧ Below w.heap.size w wr) (fun i _ => n - (intOf i).toNat)
  case atStart => exact ⟨1, by omega, by omega, rfl, by rw [minV_one HX.out]; exact hB1, hB0, hb0⟩
  case round =>
    rename_i wr _ _
    obtain ⟨k, hk1, hk, rfl, hB1, hB0, hb⟩ := hrel
    clear hb0
    by_cases hlt : k < n
    · obtain ⟨⟨y1, y2, y3⟩, hy⟩ : ∃ x, l[k]? = some x := ⟨_, List.getElem?_eq_getElem (by rw [HN.out]; exact hlt)⟩
      obtain ⟨q0, q1, q2⟩ := H.out k _ hy
      simp only at q0 q1 q2
      replace q0 := cell_later hb q0
      replace q1 := cell_later hb q1
      replace q2 := cell_later hb q2
      have HM := Lib.hid (minV_succ (m := (x1, x2, x3)) hy)
      have hk0 : (0 : Int) ≤ (k : Int) := by omega
      have hkn : (k : Int) < (n : Int) := by omega
      clear hy
      rcases hm : minV l (x1, x2, x3) k with ⟨m1, m2, m3⟩
      rw [hm] at HM hB1
      clear hm
      obtain ⟨z0, z1, z2, z3⟩ := hB1
      simp only at z0 z1 z2
      have HZ3 := Lib.hid z3
      have HB0 := Lib.hid hB0
      clear z3 hB0
      go_wp2_with fail
      have q0_1 := fun o1 => cell_al o1 (q0)
      have q0_2 := fun o1 o2 => cell_al o2 (cell_al o1 (q0))
      have q1_1 := fun o1 => cell_al o1 (q1)
      have q1_2 := fun o1 o2 => cell_al o2 (cell_al o1 (q1))
      have q2_1 := fun o1 => cell_al o1 (q2)
      have q2_2 := fun o1 o2 => cell_al o2 (cell_al o1 (q2))
      have z0_1 := fun o1 => cell_al o1 (z0)
      have z0_2 := fun o1 o2 => cell_al o2 (cell_al o1 (z0))
      have z1_1 := fun o1 => cell_al o1 (z1)
      have z1_2 := fun o1 o2 => cell_al o2 (cell_al o1 (z1))
      have z2_1 := fun o1 => cell_al o1 (z2)
      have z2_2 := fun o1 o2 => cell_al o2 (cell_al o1 (z2))
      clear q0_1 q0_2 q1_1 q1_2 q2_1 q2_2 z0_1 z0_2 z1_1 z1_2 z2_1 z2_2
      have hS0 : Below wr.heap.size wr wr.drew ∧ wr.drew.cell? ⟨g, k * 3, none⟩ = some (.int .i64 y1) ∧ wr.drew.cell? ⟨g, k * 3 + 1, none⟩ = some (.int .i64 y2) ∧ wr.drew.cell? ⟨g, k * 3 + 2, none⟩ = some (.int .i64 y3) ∧ wr.drew.cell? ⟨w.heap.size + 1, 0, none⟩ = some (.int .i64 m1) ∧ wr.drew.cell? ⟨w.heap.size + 1, 1, none⟩ = some (.int .i64 m2) ∧ wr.drew.cell? ⟨w.heap.size + 1, 2, none⟩ = some (.int .i64 m3) := ⟨(Below.drew (Below.refl _ _)), cell_dr q0, cell_dr q1, cell_dr q2, cell_dr z0, cell_dr z1, cell_dr z2⟩
      go_region_held3 (fun w' => Below wr.heap.size wr w' ∧ w'.cell? ⟨g, k * 3, none⟩ = some (.int .i64 y1) ∧ w'.cell? ⟨g, k * 3 + 1, none⟩ = some (.int .i64 y2) ∧ w'.cell? ⟨g, k * 3 + 2, none⟩ = some (.int .i64 y3) ∧ w'.cell? ⟨w.heap.size + 1, 0, none⟩ = some (.int .i64 m1) ∧ w'.cell? ⟨w.heap.size + 1, 1, none⟩ = some (.int .i64 m2) ∧ w'.cell? ⟨w.heap.size + 1, 2, none⟩ = some (.int .i64 m3)) (first | assumption | (refine held_6 (by assumption) ?_; assumption) | (refine held_6 (below_ad _ _) ?_; assumption) | (refine held_6 (below_a _ _) ?_; assumption)) (first | (go_at_call 35; refine (A1.out _ _ _ _ _ _ _).mono ?_; rintro e w5 ⟨rfl, hg5⟩; have hb5 := hg5.below))
      clear hS0
      all_goals
        rename_i hH
        obtain ⟨hbq, q0, q1, q2, z0, z1, z2⟩ := hH
        clear hg5 hb5
      have hbw : Below w.heap.size w w5 := Below.step hb hbq
      have B1 : BoxIs (w.heap.size + 1) (m1, m2, m3) w5 := ⟨z0, z1, z2, fun j => (hbq.frozen (p := ⟨w.heap.size + 1, j, none⟩) (lt_of_cell ‹wr.cell? ⟨w.heap.size + 1, 0, none⟩ = _›)).trans (HZ3.out j)⟩
      have B0 := HB0.out.later hbq
      have HB1 := Lib.hid B1
      have HB0' := Lib.hid B0
      have hf := B1.2.2.2
      clear B1 B0
      by_cases hm : leastV' (y1, y2, y3) (m1, m2, m3) < 0
      · rw [show minStep (m1, m2, m3) (y1, y2, y3) = (y1, y2, y3) from if_pos hm] at HM
        go_wp2_with fail
        go_roundw
        case rel =>
          refine ⟨k + 1, by omega, by omega, by go_num, by rw [HM.out]; exact HB1.out.put (y1, y2, y3), HB0'.out.other (by omega) _ _ _, ?_⟩
          clear hf HB1 HB0'
          repeat (first | exact Below.refl _ _ | refine Below.step ?_ (by assumption) | refine Below.setCell ?_ (by first | (simp; done) | (simp; omega) | omega) _ | refine Below.allocS ?_ _ | refine Below.drew ?_ | refine below_drewN ?_ _)
        case measure => simp [intOf]; omega
      · rw [show minStep (m1, m2, m3) (y1, y2, y3) = (m1, m2, m3) from if_neg hm] at HM
        go_wp2_with fail
        go_roundw
        case rel => exact ⟨k + 1, by omega, by omega, by go_num, by rw [HM.out]; exact HB1.out, HB0'.out, hbw⟩
        case measure => simp [intOf]; omega
    · obtain rfl : k = n := by omega
      have HE := Lib.hid (show MinP l (.returned (.agg (encR (minV l (x1, x2, x3) k)).toArray)) from ⟨_, HX.out, by rw [HN.out]⟩)
      rcases hm : minV l (x1, x2, x3) k with ⟨m1, m2, m3⟩
      rw [hm] at HE hB1
      clear hm
      obtain ⟨z0, z1, z2, z3⟩ := hB1
      obtain ⟨e0, e1, e2, e3⟩ := hB0
      simp only at z0 z1 z2 e0 e1 e2
      go_wp2_with fail
      exact bodyPost_ret (v := .agg #[.int .i64 m1, .int .i64 m2, .int .i64 m3]) (by simp [results, Try.results34, go_sem, e0, e1, e2]) rfl ⟨Below.setCell (Below.setCell (Below.setCell hb (Nat.le_refl _) _) (Nat.le_refl _) _) (Nat.le_refl _) _, HE.out⟩
@[go_sem] theorem run_field_run0 (a b c : Value) (w : World) : Sem.run Try.prog (Instr.field 64 (.agg #[a, b, c]) 0) w = .ok (.agg #[a, b]) w := by kernel_rfl
@[go_sem] theorem run_field_share0 (a b : Value) (w : World) : Sem.run Try.prog (Instr.field 28 (.agg #[a, b]) 0) w = .ok a w := by kernel_rfl
/-- which task runs next -/
def NextP (l : List (Int × Int × Int)) (e : Ending) : Prop := ∃ x, l[0]? = some x ∧ e = .returned (.int .i64 (minV l x l.length).1)
set_option maxRecDepth 100000 in
set_option maxHeartbeats 1000000 in
theorem Next_any (p g bm cap : Nat) (l : List (Int × Int × Int)) (n : Nat) (w : World) (h : MeterAt w p g bm cap l n) :
    Calls Try.prog 19 #[.pointer (some ⟨p, 0, none⟩)] w fun e w' => Below w.heap.size w w' ∧ NextP l e := by
  have A0 := Lib.hid fun W => some_any p g bm cap l n W
  have c0 := h.c0
  have A1 := Lib.hid (MinFunc_any g cap n l w h.runs h.len (by rw [← h.len]; exact h.good.many) h.pos)
  have H := Lib.hid h
  clear h
  go_enter Try.func19, Try.ntmps19
  go_wp2_with fail
  refine (A0.out _ H.out).mono ?_; rintro e w1 ⟨rfl, rfl⟩
  go_wp2_with fail
  refine A1.out.mono ?_; rintro e w1 ⟨hb1, x, hx, rfl⟩
  have HX := Lib.hid (show NextP l (.returned (.int .i64 (minV l x l.length).1)) from ⟨x, hx, rfl⟩)
  rcases hm : minV l x l.length with ⟨m1, m2, m3⟩
  rw [hm] at HX
  simp only [encR]
  clear hm hx
  go_wp2_with fail
  go_ret
  exact ⟨hb1, HX.out⟩
end Go.Proofs.Ytgieaojkbfjoiaa
