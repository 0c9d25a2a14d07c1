/-
  The walks of layer 39 (lag): Run; the readers' answers as functions.
-/
import Derived.Test.YtgieaojkbfjoiaaLagU
import Derived.Test.YtgieaojkbfjoiaaKitK
namespace Go.Proofs.Ytgieaojkbfjoiaa
open Go.RowKit Go.Maps Go.IntWalk
set_option linter.unusedVariables false
/-- a meter stays where its blocks stay -/
theorem MeterAt.frame {w w' : World} {p g bm cap : Nat} {l : List (Int × Int × Int)} {n : Nat} (h : MeterAt w p g bm cap l n) (hp : w'.heap[p]? = w.heap[p]?) (hg : w'.heap[g]? = w.heap[g]?) (hm : w'.heap[bm]? = w.heap[bm]?) : MeterAt w' p g bm cap l n := by
  have c : ∀ o, w'.cell? ⟨p, o, none⟩ = w.cell? ⟨p, o, none⟩ := fun o => World.cell?_of_block (w := w) (a := ⟨p, o, none⟩) hp
  have d : ∀ o, w'.cell? ⟨g, o, none⟩ = w.cell? ⟨g, o, none⟩ := fun o => World.cell?_of_block (w := w) (a := ⟨g, o, none⟩) hg
  have f : ∀ o, w'.frozen? ⟨p, o, none⟩ = w.frozen? ⟨p, o, none⟩ := fun o => World.frozen?_of_block (w := w) (a := ⟨p, o, none⟩) hp
  have f' : ∀ o, w'.frozen? ⟨g, o, none⟩ = w.frozen? ⟨g, o, none⟩ := fun o => World.frozen?_of_block (w := w) (a := ⟨g, o, none⟩) hg
  refine ⟨h.good, h.len, h.ncap, (c _).trans h.c0, (c _).trans h.c1, (c _).trans h.c2, (c _).trans h.c3, fun j => (f _).trans (h.fp j), fun j => (f' _).trans (h.fg j), fun k x hx => ?_, ?_, h.apart⟩
  · obtain ⟨a, b, e⟩ := h.runs k x hx
    exact ⟨(d _).trans a, (d _).trans b, (d _).trans e⟩
  · obtain ⟨m, D, ⟨es, clock, hb, rest⟩, hD⟩ := h.map
    exact ⟨m, D, ⟨es, clock, hm.trans hb, rest⟩, hD⟩
theorem MeterAt.lts {w : World} {p g bm cap : Nat} {l : List (Int × Int × Int)} {n : Nat} (h : MeterAt w p g bm cap l n) : p < w.heap.size ∧ g < w.heap.size ∧ bm < w.heap.size := by
  obtain ⟨m, D, hm, _⟩ := h.map
  refine ⟨lt_of_cell h.c0, ?_, hm.lt⟩
  have hp := h.good.pos
  obtain ⟨a, _, _⟩ := h.runs 0 l[0] (List.getElem?_eq_getElem hp)
  exact lt_of_cell a
theorem MeterAt.kept {w w' : World} {p g bm cap : Nat} {l : List (Int × Int × Int)} {n : Nat} (h : MeterAt w p g bm cap l n) {S : List Nat} (hk : Kept S w w') (hS : p ∉ S ∧ g ∉ S ∧ bm ∉ S) : MeterAt w' p g bm cap l n :=
  h.frame (hk.block _ h.lts.1 hS.1) (hk.block _ h.lts.2.1 hS.2.1) (hk.block _ h.lts.2.2 hS.2.2)
theorem MeterAt.below {w w' : World} {p g bm cap : Nat} {l : List (Int × Int × Int)} {n : Nat} (h : MeterAt w p g bm cap l n) (hb : Below w.heap.size w w') : MeterAt w' p g bm cap l n :=
  h.frame (hb.block _ h.lts.1) (hb.block _ h.lts.2.1) (hb.block _ h.lts.2.2)
theorem MeterAt.ran {w : World} {p g bm cap : Nat} {l : List (Int × Int × Int)} {n : Nat} (h : MeterAt w p g bm cap l n) {k : Nat} {x : Int × Int × Int} {t : Int} (hx : l[k]? = some x) (h0 : 0 ≤ t) (h1 : sumR l + t ≤ 68719476736) :
    MeterAt ((w.setCell ⟨g, k * 3 + 2, none⟩ (.int .i64 (x.2.2 + t))).setCell ⟨p, 2, none⟩ (.int .i64 (sumR l + t))) p g bm cap (bump l x.1 t) n := by
  obtain ⟨a1, a2, a3⟩ := h.apart
  have hi : ∃ y ∈ l, y.1 = x.1 := ⟨x, List.mem_of_getElem? hx, rfl⟩
  refine ⟨h.good.bump hi h0 h1, by rw [bump_len]; exact h.len, h.ncap, ?_, ?_, ?_, ?_, fun j => by rw [World.frozen?_setCell, World.frozen?_setCell]; exact h.fp j, fun j => by rw [World.frozen?_setCell, World.frozen?_setCell]; exact h.fg j, fun j y hy => ?_, ?_, h.apart⟩
  · exact cell_set_ne (cell_set_ne h.c0 (Or.inl a1)) (Or.inr (by omega))
  · exact cell_set_ne (cell_set_ne h.c1 (Or.inl a1)) (Or.inr (by omega))
  · rw [bump_R l _ t h.good.ids hi]
    exact cell_set_eq (cell_set_ne h.c2 (Or.inl a1))
  · rw [bump_W]
    exact cell_set_ne (cell_set_ne h.c3 (Or.inl a1)) (Or.inr (by omega))
  · obtain ⟨z, hz, rfl⟩ := bump_get hy
    obtain ⟨b0, b1, b2⟩ := h.runs j z hz
    by_cases hj : j = k
    · subst hj
      obtain rfl : z = x := by rw [hz] at hx; exact Option.some.inj hx
      rw [if_pos rfl]
      refine ⟨cell_set_ne (cell_set_ne b0 (Or.inr (by omega))) (Or.inl (Ne.symm a1)), cell_set_ne (cell_set_ne b1 (Or.inr (by omega))) (Or.inl (Ne.symm a1)), cell_set_ne (cell_set_eq b2) (Or.inl (Ne.symm a1))⟩
    · have hne : z.1 ≠ x.1 := fun e => by
        have e1 := tsk_at h.good hz
        have e2 := tsk_at h.good hx
        rw [e, e2] at e1
        obtain rfl := Option.some.inj e1
        obtain ⟨lj, ej⟩ := List.getElem?_eq_some_iff.1 hz
        obtain ⟨lk, ek⟩ := List.getElem?_eq_some_iff.1 hx
        have hp := List.pairwise_iff_getElem.1 h.good.ids
        rcases Nat.lt_or_gt_of_ne hj with q | q
        · have := hp j k lj lk q; rw [ej, ek] at this; omega
        · have := hp k j lk lj q; rw [ej, ek] at this; omega
      rw [if_neg hne]
      refine ⟨cell_set_ne (cell_set_ne b0 (Or.inr (by omega))) (Or.inl (Ne.symm a1)), cell_set_ne (cell_set_ne b1 (Or.inr (by omega))) (Or.inl (Ne.symm a1)), cell_set_ne (cell_set_ne b2 (Or.inr (by omega))) (Or.inl (Ne.symm a1))⟩
  · obtain ⟨m, D, ⟨es, clock, hb, rest⟩, hD⟩ := h.map
    refine ⟨m, D, ⟨es, clock, ?_, rest⟩, ?_, fun id hid => ?_⟩
    · rw [heap_set_ne (Ne.symm a2), heap_set_ne (Ne.symm a3)]; exact hb
    · intro j y hy
      obtain ⟨z, hz, rfl⟩ := bump_get hy
      have := hD.1 j z hz
      split <;> exact this
    · refine hD.2 id fun y hy e => ?_
      have : id ∈ l.map (·.1) := List.mem_map.2 ⟨y, hy, e⟩
      rw [← bump_ids l x.1 t, List.mem_map] at this
      obtain ⟨z, hz, e⟩ := this
      exact hid z hz e
/-- what Run does -/
structure RunP (p g bm cap : Nat) (l : List (Int × Int × Int)) (n : Nat) (id t : Int) (w : World) (e : Ending) (w' : World) : Prop where
  ret : e = .returned (.int .i64 (runC l id t))
  meter : MeterAt w' p g bm cap (runL l id t) n
  kept : Kept [p, g] w w'
theorem runP_same {p g bm cap : Nat} {l : List (Int × Int × Int)} {n : Nat} {id t c : Int} {w : World} (h : MeterAt w p g bm cap l n) (hc : runC l id t = c) (h0 : c ≠ 0) : RunP p g bm cap l n id t w (.returned (.int .i64 c)) w :=
  ⟨by rw [hc], by rw [runL, if_neg (by rw [hc]; exact h0)]; exact h, Kept.refl _ _⟩
set_option maxRecDepth 100000 in
set_option maxHeartbeats 1000000 in
theorem Run_any (p g bm cap : Nat) (l : List (Int × Int × Int)) (n : Nat) (id t : Int) (w : World) (h : MeterAt w p g bm cap l n) (hid : (Lit.int .i64 id).wf = true) (ht : (Lit.int .i64 t).wf = true) :
    Calls Try.prog 12 #[.pointer (some ⟨p, 0, none⟩), .int .i64 id, .int .i64 t] w (RunP p g bm cap l n id t w) := by
  have A0 := Lib.hid fun W => some_any p g bm cap l n W
  have A1 := Lib.hid fun W => fun h => find_any p g bm cap l n id W h hid
  have c2 := h.c2
  have H := Lib.hid h
  clear h
  go_enter Try.func12, Try.ntmps12
  go_wp2_with fail
  refine (A1.out _ H.out).mono ?_; rintro e w1 ⟨rfl, ⟨k, ⟨x1, x2, x3⟩, hx, hxe, rfl⟩ | ⟨hno, rfl⟩⟩
  · obtain ⟨r0, r1, r2⟩ := H.out.runs k _ hx
    simp only at r0 r1 r2 hxe
    subst hxe
    have HX := Lib.hid hx
    have HB := H.out.good.bounds hx
    have f1 := H.out.fg (k * 3 + 2)
    have f2 := H.out.fp 2
    have HH := Lib.hid (hasId_iff.2 ⟨_, List.mem_of_getElem? hx, rfl⟩)
    have apart := H.out.apart.1
    obtain ⟨b1, b2, b3, b4, b5, b6, b7, _⟩ := HB
    simp only at b1 b2 b3 b4 b5 b6 b7
    clear hx
    go_wp2_with fail
    refine (A0.out _ H.out).mono ?_; rintro e w1 ⟨rfl, rfl⟩
    by_cases ht0 : t < 0
    · go_wp2_with fail
      go_ret
      exact runP_same H.out (if_pos (Or.inl ht0)) (by decide)
    · by_cases ht1 : 68719476736 < t
      · go_wp2_with fail
        go_ret
        exact runP_same H.out (if_pos (Or.inr ht1)) (by decide)
      · have hs : wrap64 (sumR l + t) = sumR l + t := wrap64_in _ (by omega)
        have hs2 : wrap64 (x3 + t) = x3 + t := wrap64_in _ (by omega)
        by_cases hf : 68719476736 < sumR l + t
        · go_wp2_with fail
          go_ret
          exact runP_same H.out ((if_neg (by omega)).trans ((if_neg (by rw [HH.out]; decide)).trans (if_pos hf))) (by decide)
        · have HC := Lib.hid (show runC l x1 t = 0 from (if_neg (by omega)).trans ((if_neg (by rw [HH.out]; decide)).trans (if_neg hf)))
          have c2' : (w.setCell ⟨g, k * 3 + 2, none⟩ (.int .i64 (x3 + t))).cell? ⟨p, 2, none⟩ = some (.int .i64 (sumR l)) := cell_set_ne c2 (Or.inl apart)
          go_wp2_with fail
          go_ret
          refine ⟨by rw [HC.out]; rfl, ?_, ?_⟩
          · rw [runL, if_pos HC.out]; exact H.out.ran HX.out (by omega) (by omega)
          · exact ((Kept.refl _ _).setCell (Or.inl (by simp)) _).setCell (Or.inl (by simp)) _
  · have HH := Lib.hid (hasId_not hno)
    clear hno
    go_wp2_with fail
    refine (A0.out _ H.out).mono ?_; rintro e w1 ⟨rfl, rfl⟩
    by_cases ht0 : t < 0
    · go_wp2_with fail
      go_ret
      exact runP_same H.out (if_pos (Or.inl ht0)) (by decide)
    · by_cases ht1 : 68719476736 < t
      · go_wp2_with fail
        go_ret
        exact runP_same H.out (if_pos (Or.inr ht1)) (by decide)
      · go_wp2_with fail
        go_ret
        exact runP_same H.out ((if_neg (by omega)).trans (if_pos HH.out)) (by decide)
theorem at_fn {l : List (Int × Int × Int)} {id : Int} {k : Nat} {x : Int × Int × Int} (hg : Good l) (h : At l id k x) : tsk l id = some x ∧ hasId l id = true := by
  obtain ⟨h1, rfl⟩ := h
  exact ⟨tsk_at hg h1, hasId_iff.2 ⟨x, List.mem_of_getElem? h1, rfl⟩⟩
theorem Lag_fn (p g bm cap : Nat) (l : List (Int × Int × Int)) (n : Nat) (id : Int) (w : World) (h : MeterAt w p g bm cap l n) (hid : (Lit.int .i64 id).wf = true) :
    Calls Try.prog 13 #[.pointer (some ⟨p, 0, none⟩), .int .i64 id] w fun e w' => e = .returned (.tuple #[.int .i64 (lagR l id), .bool (hasId l id)]) ∧ Below w.heap.size w w' := by
  refine (Lag_any p g bm cap l n id w h hid).mono ?_
  rintro e w' ⟨hb, ⟨k, x, ha, rfl⟩ | ⟨hn, rfl⟩⟩
  · obtain ⟨h1, h2⟩ := at_fn h.good ha
    exact ⟨by rw [lagR, h1, h2], hb⟩
  · exact ⟨by rw [lagR, tsk_none hn, hasId_not hn], hb⟩
theorem Ran_fn (p g bm cap : Nat) (l : List (Int × Int × Int)) (n : Nat) (id : Int) (w : World) (h : MeterAt w p g bm cap l n) (hid : (Lit.int .i64 id).wf = true) :
    Calls Try.prog 23 #[.pointer (some ⟨p, 0, none⟩), .int .i64 id] w fun e w' => e = .returned (.tuple #[.int .i64 (ranR l id), .bool (hasId l id)]) ∧ w = w' := by
  refine (Ran_any p g bm cap l n id w h hid).mono ?_
  rintro e w' ⟨hb, ⟨k, x, ha, rfl⟩ | ⟨hn, rfl⟩⟩
  · obtain ⟨h1, h2⟩ := at_fn h.good ha
    exact ⟨by rw [ranR, h1, h2], hb⟩
  · exact ⟨by rw [ranR, tsk_none hn, hasId_not hn], hb⟩
theorem Until_fn (p g bm cap : Nat) (l : List (Int × Int × Int)) (n : Nat) (id : Int) (w : World) (h : MeterAt w p g bm cap l n) (hid : (Lit.int .i64 id).wf = true) :
    Calls Try.prog 17 #[.pointer (some ⟨p, 0, none⟩), .int .i64 id] w fun e w' => e = .returned (.tuple #[.int .i64 (untilR l id), .int .i64 (if hasId l id = true then 0 else 6)]) ∧ Below w.heap.size w w' := by
  refine (Until_any p g bm cap l n id w h hid).mono ?_
  rintro e w' ⟨hb, ⟨k, x, ha, rfl⟩ | ⟨hn, rfl⟩⟩
  · obtain ⟨h1, h2⟩ := at_fn h.good ha
    exact ⟨by rw [untilR, h1, h2]; rfl, hb⟩
  · exact ⟨by rw [untilR, tsk_none hn, hasId_not hn]; rfl, hb⟩
end Go.Proofs.Ytgieaojkbfjoiaa
