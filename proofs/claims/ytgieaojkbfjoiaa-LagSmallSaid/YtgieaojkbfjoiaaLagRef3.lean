/-
  The walks of the reference of layer 39: Run.
-/
import Derived.Test.YtgieaojkbfjoiaaLagRef2
namespace Go.Proofs.Ytgieaojkbfjoiaa
open Go.RowKit Go.Maps Go.IntWalk Go.Lib Go.Sort
set_option linter.unusedVariables false
theorem infoTask : (Try.prog.info? 83).map (fun i => (i.zero, i.size, i.bytes)) = some (some (.agg #[.int .i64 0, .int .i64 0, .int .i64 0]), 3, 24) := by kernel_rfl
def RRunP (g0 : Nat) (L : List (Int × Int × Int)) (n : Nat) (id t : Int) (w : World) (e : Ending) (w' : World) : Prop :=
  ∃ g cap, e = .returned (.tuple #[.slice (some ⟨g, 0, none⟩) n cap, .int .i64 (runC L id t)]) ∧ RunsAt w' g (runL L id t) ∧ (g = g0 ∨ w.heap.size ≤ g) ∧ Below w.heap.size w w'
theorem rrun_same {L : List (Int × Int × Int)} {n g cap : Nat} {id t c : Int} {w : World} (h : RunsAt w g L) (hc : runC L id t = c) (h0 : c ≠ 0) : RRunP g L n id t w (.returned (.tuple #[.slice (some ⟨g, 0, none⟩) n cap, .int .i64 c])) w :=
  ⟨g, cap, by rw [hc], by rw [runL, if_neg (by rw [hc]; exact h0)]; exact h, Or.inl rfl, Below.refl _ _⟩
theorem own_runs {w : World} {base g cap n : Nat} {ty : TypeId} {l : List (Int × Int × Int)} (hn : l.length = n) (h : w.ownsRow base ty 3 (.slice (some ⟨g, 0, none⟩) n cap) n (flatR l)) : RunsAt w g l := by
  intro k x hx
  have hk : k < l.length := (List.getElem?_eq_some_iff.1 hx).1
  have key : ∀ r, r < 3 → w.cell? ⟨g, k * 3 + r, none⟩ = some ((encR x)[r]!) := by
    intro r hr
    rw [h.cellAt (k * 3 + r) (by omega), flatR_at _ _ (by omega), show (k * 3 + r) / 3 = k by omega, show (k * 3 + r) % 3 = r by omega]
    rw [getElem!_pos l.toArray k (by simpa using hk)]
    have : l.toArray[k]'(by simpa using hk) = x := by simpa using (List.getElem?_eq_some_iff.1 hx).2
    rw [this]
  exact ⟨key 0 (by omega), key 1 (by omega), key 2 (by omega)⟩
/-- one task's cell rewritten -/
theorem RunsAt.bump {w : World} {g : Nat} {l : List (Int × Int × Int)} (hg : Good l) (h : RunsAt w g l) {k : Nat} {x : Int × Int × Int} (hx : l[k]? = some x) (t : Int) : RunsAt (w.setCell ⟨g, k * 3 + 2, none⟩ (.int .i64 (x.2.2 + t))) g (bump l x.1 t) := by
  intro j y hy
  obtain ⟨z, hz, rfl⟩ := bump_get hy
  obtain ⟨b0, b1, b2⟩ := h j z hz
  by_cases hj : j = k
  · subst hj
    obtain rfl : z = x := by rw [hz] at hx; exact Option.some.inj hx
    rw [if_pos rfl]
    exact ⟨cell_set_ne b0 (Or.inr (by omega)), cell_set_ne b1 (Or.inr (by omega)), cell_set_eq b2⟩
  · have hne : z.1 ≠ x.1 := fun e => by
      obtain ⟨lj, ej⟩ := List.getElem?_eq_some_iff.1 hz
      obtain ⟨lk, ek⟩ := List.getElem?_eq_some_iff.1 hx
      have hp := List.pairwise_iff_getElem.1 hg.ids
      rcases Nat.lt_or_gt_of_ne hj with q | q
      · have := hp j k lj lk q; rw [ej, ek] at this; omega
      · have := hp k j lk lj q; rw [ej, ek] at this; omega
    rw [if_neg hne]
    exact ⟨cell_set_ne b0 (Or.inr (by omega)), cell_set_ne b1 (Or.inr (by omega)), cell_set_ne b2 (Or.inr (by omega))⟩
set_option maxRecDepth 100000 in
set_option maxHeartbeats 1000000 in
theorem rRun_any (g cap n : Nat) (l : List (Int × Int × Int)) (id t : Int) (w : World) (h : RunsAt w g l) (hn : l.length = n) (hg : Good l) :
    Calls Try.prog 39 #[.slice (some ⟨g, 0, none⟩) n cap, .int .i64 id, .int .i64 t] w (RRunP g l n id t w) := by
  obtain ⟨i0, hi, hz0, hz1, hz2⟩ := info_parts infoTask
  have hb : n ≤ 1024 := by rw [← hn]; exact hg.many
  have hpos : 0 < n := by rw [← hn]; exact hg.pos
  have A1 := Lib.hid (rFind_any g cap n l id w h hn (by omega))
  have A2 := Lib.hid (rTotal_any g cap n l w h hn hg)
  have H := Lib.hid h
  have HN := Lib.hid hn
  have HG := Lib.hid hg
  clear h hn hg
  by_cases t0 : t < 0
  · go_enter Try.func39, Try.ntmps39
    go_wp2_with fail
    go_ret2
    exact rrun_same H.out (if_pos (Or.inl t0)) (by decide)
  · by_cases t1 : 68719476736 < t
    · go_enter Try.func39, Try.ntmps39
      go_wp2_with fail
      go_ret2
      exact rrun_same H.out (if_pos (Or.inr t1)) (by decide)
    · go_enter Try.func39, Try.ntmps39
      go_wp2_with fail
      refine A1.out.mono ?_
      rintro e w1 ⟨⟨k, ⟨x1, x2, x3⟩, ⟨hx, hxe⟩, rfl⟩ | ⟨hno, rfl⟩, rfl⟩
      · simp only at hxe
        subst hxe
        have hkn' : k < n := by rw [← HN.out]; exact (List.getElem?_eq_some_iff.1 hx).1
        have hmem := hasId_iff.2 ⟨_, List.mem_of_getElem? hx, (rfl : (x1, x2, x3).1 = x1)⟩
        have hB := HG.out.bounds hx
        have b1 := hB.r1
        have b2 := hB.r2
        have b3 := hB.r3
        simp only at b1 b2
        have HMem := Lib.hid hmem
        have HX := Lib.hid hx
        have hk0 : (0 : Int) ≤ (k : Int) := by omega
        have hkn : (k : Int) < (n : Int) := by omega
        have hw1 : wrap64 (sumR l + t) = sumR l + t := wrap64_in _ (by omega)
        have hw2 : wrap64 (x3 + t) = x3 + t := wrap64_in _ (by omega)
        clear hx hmem hB
        go_wp2_with fail
        refine A2.out.mono ?_
        rintro e w1 ⟨rfl, rfl⟩
        by_cases hf : 68719476736 < sumR l + t
        · go_wp2_with fail
          go_ret2
          exact rrun_same H.out ((if_neg (by omega)).trans ((if_neg (by rw [HMem.out]; decide)).trans (if_pos hf))) (by decide)
        · have HC := Lib.hid (show runC l x1 t = 0 from (if_neg (by omega)).trans ((if_neg (by rw [HMem.out]; decide)).trans (if_neg hf)))
          go_wp2_with (at_builtin; refine wpList_append_own _ rfl (.tmp 28) (.tmp 29) 72 rfl w1.heap.size 83 i0 (.agg #[.int .i64 0, .int .i64 0, .int .i64 0]) 3 24 Try.underlying72 hi hz0 hz1 hz2 rfl (by decide) _ 0 [] rfl (World.ownsRow_lit w1 #[] 0 (Nat.le_refl _) (by unfold maxLen; omega) rfl) ⟨g, 0, none⟩ n cap (flatR l) rfl ?c1 ?c2 flatR_one ?c3 ?c4 ?c5 ?_)
          case c1 => rw [flatR_len, HN.out]
          case c2 => exact fun j u hu => cell_al _ (flatR_cell H.out hu)
          case c3 => unfold maxLen; omega
          case c4 => omega
          case c5 => simp
          intro v' w2 hown hgrow _
          have hbw : Below w1.heap.size w1 w2 := (Below.allocS (Below.refl _ _) _).grown hgrow (by simp) (fun k hk => by cases hk; exact Nat.le_refl _)
          obtain ⟨g', cap', rfl⟩ : ∃ g' cap', v' = .slice (some ⟨g', 0, none⟩) n cap' := by
            rcases hown.2 with ⟨_, h⟩ | ⟨g', cap', _, rfl, _⟩
            · omega
            · exact ⟨g', cap', rfl⟩
          have HO := Lib.hid hown
          have hr := Lib.hid (own_runs HN.out hown)
          have q2 := (hr.out k _ HX.out).2.2
          have f2 := hown.frozenAt (k * 3 + 2)
          have hgl := (hown.lt g' rfl).1
          simp only at q2
          clear hown hgrow
          go_wp2_with fail
          go_ret2
          refine ⟨g', cap', by rw [HC.out]; rfl, ?_, Or.inr hgl, hbw.setCell (p := ⟨g', k * 3 + 2, none⟩) hgl _⟩
          rw [runL, if_pos HC.out]
          exact hr.out.bump HG.out HX.out t
      · have HNo := Lib.hid (hasId_not hno)
        clear hno
        go_wp2_with fail
        go_ret2
        exact rrun_same H.out ((if_neg (by omega)).trans (if_pos HNo.out)) (by decide)
end Go.Proofs.Ytgieaojkbfjoiaa
