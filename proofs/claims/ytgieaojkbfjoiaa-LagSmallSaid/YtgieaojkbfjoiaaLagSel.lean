/-
  The walk of the reference of layer 39: Order.
-/
import Derived.Test.YtgieaojkbfjoiaaLagSelM
namespace Go.Proofs.Ytgieaojkbfjoiaa
open Go.RowKit Go.Maps Go.IntWalk Go.Lib Go.Sort
set_option linter.unusedVariables false
theorem infoBool : (Try.prog.info? 4).map (fun i => (i.zero, i.size, i.bytes)) = some (some (.bool false), 1, 1) := by kernel_rfl
def lenOf : Value → Nat | .slice _ n _ => n | _ => 0
def ROrderP (l : List (Int × Int × Int)) (n : Nat) (w : World) (e : Ending) (w' : World) : Prop :=
  ∃ a cap out, e = .returned (.slice a n cap) ∧ RowAt .i64 w' a n out ∧ IdsOrder (lagR l) (idsL l) out ∧ Below w.heap.size w w'
theorem own_rowA {w : World} {base n cap : Nat} {a : Option Addr} {e : TypeId} {xs : List Int} (h : w.ownsRow base e 1 (.slice a n cap) n (intsV xs)) : RowAt .i64 w a n xs := by
  rcases h.2 with ⟨h1, h2⟩ | ⟨g, cap', cur, h1, h2, h3, h4, h5, h6, h7⟩
  · subst h2
    have : xs = [] := by have := h.1; simpa [intsV] using this
    subst this
    exact ⟨rfl, fun h => absurd h (by omega)⟩
  · simp only [Value.slice.injEq] at h1
    obtain ⟨rfl, _, rfl⟩ := h1
    exact own_row h
set_option maxRecDepth 100000 in
set_option maxHeartbeats 2000000 in
theorem rOrder_any (g cap n : Nat) (l : List (Int × Int × Int)) (w : World) (h : RunsAt w g l) (hn : l.length = n) (hg : Good l) :
    Calls Try.prog 47 #[.slice (some ⟨g, 0, none⟩) n cap] w (ROrderP l n w) := by
  obtain ⟨i0, hi, hz0, hz1, hz2⟩ := info_parts infoBool
  obtain ⟨j0, ji, jz0, jz1, jz2⟩ := info_parts infoInt
  have hb : n ≤ 1024 := by rw [← hn]; exact hg.many
  have hpos : 0 < n := by rw [← hn]; exact hg.pos
  have H := Lib.hid h
  have HN := Lib.hid hn
  have HG := Lib.hid hg
  clear h hn hg
  go_enter Try.func47, Try.ntmps47
  go_wp2_with (at_make; refine wpList_make_full _ rfl _ _ 98 rfl w.heap.size 4 i0 (.bool false) 1 Try.underlying98 hi hz0 hz1 _ _ _ _ n rfl rfl rfl rfl ?c1 ?c2 (Nat.le_refl _) ?_)
  case c1 => rw [hz2]; omega
  case c2 => unfold maxLen; omega
  intro w1 hown hgrow
  have hb1 : Below w.heap.size w w1 := (Below.refl _ _).grown hgrow (Nat.le_refl _) (fun k hk => by cases hk)
  simp only [toList_madeCells_one] at hown
  have htk : w1.ownsRow w.heap.size 4 1 (.slice (some ⟨w.heap.size, 0, none⟩) n n) n (tkV l []) := by rw [tkV_start, HN.out]; exact hown
  have hbt := (hown.lt w.heap.size rfl).2
  have HTK := Lib.hid htk
  clear hown hgrow htk
  go_wp2_with fail
  go_loopw [3] (fun s wr => ∃ (os : List Int) (a : Option Addr) (c : Nat), s = .slice a os.length c ∧ os.length ≤ n ∧ wr.ownsRow (w.heap.size + 1) 3 1 (.slice a os.length c) os.length (intsV os) ∧ wr.ownsRow w.heap.size 4 1 (.slice (some ⟨w.heap.size, 0, none⟩) n n) n (tkV l os) ∧ SelI l os ∧ Below w.heap.size w wr) (fun s _ => n - lenOf s)
  case atStart => exact ⟨[], none, 0, rfl, Nat.zero_le _, World.ownsRow_nil _ _ _ _, HTK.out, sel_start l, hb1⟩
  case round =>
    obtain ⟨os, a, c, rfl, hos, hown, htk, hsel, hbr⟩ := hrel
    clear hb1
    have HO := Lib.hid hown
    have HT := Lib.hid htk
    have HS := Lib.hid hsel
    have hbs := hbr.size
    have htl := (htk.lt w.heap.size rfl).2
    clear hown htk hsel
    by_cases hlt : os.length < n
    · obtain ⟨wo, rfl⟩ : ∃ wo : World, wo = wr := ⟨_, rfl⟩
      go_wp2_with fail
      go_loopw [5, 6] (fun b i wr => ∃ (k q : Nat) (bb : Int), k ≤ n ∧ i = .int .i64 k ∧ b = .int .i64 bb ∧ BestP l os k bb ∧ wr = wo.drewN q) (fun _ i _ => n - (intOf i).toNat)
      case atStart => exact ⟨0, 0, -1, Nat.zero_le _, rfl, rfl, best_start l os, rfl⟩
      case round =>
        obtain ⟨k, q, bb, hk, rfl, rfl, hbest, rfl⟩ := hrel
        by_cases hlt2 : k < n
        · obtain ⟨x, hx⟩ : ∃ x, l[k]? = some x := ⟨_, List.getElem?_eq_getElem (by rw [HN.out]; exact hlt2)⟩
          have q0 : wo.cell? ⟨w.heap.size, k, none⟩ = some (.bool (decide (x.1 ∈ os))) := by rw [HT.out.cellAt k (by omega)]; exact tkV_at hx
          have hk0 : (0 : Int) ≤ (k : Int) := by omega
          have hkn : (k : Int) < (n : Int) := by omega
          have HX := Lib.hid hx
          have HB := Lib.hid hbest
          by_cases hm : x.1 ∈ os
          · have HB2 := Lib.hid (best_taken hbest hx hm)
            rw [decide_eq_true hm] at q0
            clear hx hbest
            go_wp2_with fail
            go_roundw
            case rel => exact ⟨k + 1, q, bb, by omega, by go_num, rfl, HB2.out, rfl⟩
            case measure => simp [intOf]; omega
          · rw [decide_eq_false hm] at q0
            by_cases hbn : bb < 0
            · have HB2 := Lib.hid (best_first hbest hbn hx hm)
              clear hx hbest
              go_wp2_with fail
              go_roundw
              case rel => exact ⟨k + 1, q, k, by omega, by go_num, rfl, HB2.out, rfl⟩
              case measure => simp [intOf]; omega
            · obtain ⟨j, y, hbj, hjn, hy⟩ : ∃ (j : Nat) (y : Int × Int × Int), bb = j ∧ j < n ∧ l[j]? = some y := by
                rcases hbest with ⟨e, _⟩ | ⟨j, y, e, hj, hy, _⟩
                · omega
                · exact ⟨j, y, e, by omega, hy⟩
              subst hbj
              have A1 := Lib.hid fun nq => rLag_any g n n l k x (wo.drewN nq) ((H.out.later hbr).drewN nq) HN.out HG.out hx
              have A2 := Lib.hid fun nq => rLag_any g n n l j y (wo.drewN nq) ((H.out.later hbr).drewN nq) HN.out HG.out hy
              have A1' := Lib.hid fun nq => rLag_any g cap n l k x (wo.drewN nq) ((H.out.later hbr).drewN nq) HN.out HG.out hx
              have A2' := Lib.hid fun nq => rLag_any g cap n l j y (wo.drewN nq) ((H.out.later hbr).drewN nq) HN.out HG.out hy
              have hj0 : (0 : Int) ≤ (j : Int) := by omega
              by_cases hc : lagV l y < lagV l x
              · have HB2 := Lib.hid (best_new HG.out hbest hy hx hm hc)
                clear hx hbest hy
                go_wp2_with fail
                refine (A1'.out q).mono ?_
                rintro e w5 ⟨rfl, q1, rfl⟩
                go_wp2_with fail
                refine (A2'.out _).mono ?_
                rintro e w5 ⟨rfl, q2, rfl⟩
                go_wp2_with fail
                go_roundw
                case rel => exact ⟨k + 1, _, k, by omega, by go_num, rfl, HB2.out, rfl⟩
                case measure => simp [intOf]; omega
              · have HB2 := Lib.hid (best_keep HG.out hbest hy hx hc)
                clear hx hbest hy
                go_wp2_with fail
                refine (A1'.out q).mono ?_
                rintro e w5 ⟨rfl, q1, rfl⟩
                go_wp2_with fail
                refine (A2'.out _).mono ?_
                rintro e w5 ⟨rfl, q2, rfl⟩
                go_wp2_with fail
                go_roundw
                case rel => exact ⟨k + 1, _, j, by omega, by go_num, rfl, HB2.out, rfl⟩
                case measure => simp [intOf]; omega
        · obtain rfl : k = n := by omega
          rw [← HN.out] at hbest
          obtain ⟨j, x, rfl, hx, hsel2, hno⟩ := sel_best HG.out HS.out (by rw [HN.out]; exact hlt) hbest
          have hjn : j < k := by rw [← HN.out]; exact (List.getElem?_eq_some_iff.1 hx).1
          have hT0 : (wo.drewN q).ownsRow w.heap.size 4 1 (.slice (some ⟨w.heap.size, 0, none⟩) k k) k (tkV l os) := HT.out
          have hO0 : (wo.drewN q).ownsRow (w.heap.size + 1) 3 1 (.slice a os.length c) os.length (intsV os) := HO.out
          have hbq : Below w.heap.size w (wo.drewN q) := below_drewN hbr q
          have hsq : w.heap.size + 1 ≤ (wo.drewN q).heap.size := htl
          clear HT HO hbr hbs htl
          generalize wo.drewN q = wq at *
          have q0 : wq.cell? ⟨w.heap.size, j, none⟩ = some (.bool (decide (x.1 ∈ os))) := by rw [hT0.cellAt j (by omega)]; exact tkV_at hx
          have f0 : wq.frozen? ⟨w.heap.size, j, none⟩ = false := hT0.frozenAt j
          have r0 := cell_later hbq (H.out j _ hx).1
          have hj0 : (0 : Int) ≤ (j : Int) := by omega
          have hjk : (j : Int) < (k : Int) := by omega
          have HX := Lib.hid hx
          have HS2 := Lib.hid hsel2
          have hgw : g ≠ w.heap.size := by have := lt_of_cell (H.out j _ hx).1; omega
          have r1 := cell_set_ne (b' := w.heap.size) (o' := j) (u := .bool true) r0 (Or.inl hgw)
          have hT1 := (hT0.stored j (.bool true)).1
          rw [tkV_set HG.out hx] at hT1
          have hO1 := hO0.kept (hT0.stored j (.bool true)).2 (Or.inr (by
            intro e
            have := hO0.lt w.heap.size e
            omega))
          have hb2 := hbq.setCell (p := ⟨w.heap.size, j, none⟩) (Nat.le_refl _) (.bool true)
          have hs2 : w.heap.size + 1 ≤ (wq.setCell ⟨w.heap.size, j, none⟩ (.bool true)).heap.size := by simpa [World.setCell] using hsq
          have HT1 := Lib.hid hT1
          have HO1 := Lib.hid hO1
          have hos2 : os.length + 1 ≤ 1024 := by omega
          clear hx hsel2 hT1 hO1 hbest hT0 hO0
          go_wp2_with (at_builtin; refine wpList_append_own _ rfl (.tmp 43) (.tmp 49) 35 rfl (w.heap.size + 1) 3 j0 (.int .i64 0) 1 8 Try.underlying35 ji jz0 jz1 jz2 rfl (by decide) _ _ _ rfl (HO1.out.alloc _) ⟨wq.heap.size, 0, none⟩ 1 1 [.int .i64 x.1] rfl rfl ?d1 ?d2 ?d3 ?d4 ?d5 ?_)
          case d1 =>
            intro i u hi
            match i, hi with
            | 0, hi => simp at hi; subst hi; go_simp
            | i + 1, hi => simp at hi
          case d2 => intro u hu; simp at hu; subst hu; rfl
          case d3 => unfold maxLen; omega
          case d4 => omega
          case d5 => simp [World.setCell]; omega
          intro v' w5 hown5 hgrow5 _
          obtain ⟨g5, c5, rfl⟩ := own_some hown5
          have hT5 := (HT1.out.alloc (.cells #[.int .i64 x.1] 3)).kept hgrow5 (Or.inr (by
            intro e
            have := HO1.out.lt w.heap.size e.symm
            omega))
          have hb5 : Below w.heap.size w w5 := (Below.allocS hb2 _).grown hgrow5 (by simp [World.setCell]; omega) (fun i hi => by have := (HO1.out.lt i hi).1; omega)
          have HO5 := Lib.hid (show w5.ownsRow (w.heap.size + 1) 3 1 (.slice (some ⟨g5, 0, none⟩) (os ++ [x.1]).length c5) (os ++ [x.1]).length (intsV (os ++ [x.1])) by
            rw [List.length_append]
            unfold intsV
            rw [List.map_append]
            exact hown5)
          have HT5 := Lib.hid hT5
          clear hown5 hgrow5 hT5
          go_wp2_with fail
          go_roundw
          case rel => exact ⟨os ++ [x.1], some ⟨g5, 0, none⟩, c5, by rw [List.length_append]; rfl, by rw [List.length_append]; simp only [List.length_singleton]; omega, HO5.out, HT5.out, HS2.out, hb5⟩
          case measure => simp [lenOf]; omega
    · have hln : os.length = n := by omega
      have hord := sel_end HG.out HS.out (by rw [HN.out]; exact hln)
      have hr := own_rowA HO.out
      have HR := Lib.hid hr
      have HORD := Lib.hid hord
      clear hr hord HT HO hbs htl
      go_wp2_with fail
      go_ret
      exact ⟨a, c, os, by rw [hln]; rfl, by rw [← hln]; exact HR.out, HORD.out, hbr⟩
end Go.Proofs.Ytgieaojkbfjoiaa
