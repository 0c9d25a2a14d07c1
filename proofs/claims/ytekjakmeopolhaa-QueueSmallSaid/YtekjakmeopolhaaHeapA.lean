/-
  Layer 18 (heap): slices.AppendSeq, Collect, SortedFunc at items; All.
-/
import Derived.Test.YtekjakmeopolhaaHeapI
namespace Go.Proofs.Ytekjakmeopolhaa
open Go.RowKit Go.Maps Go.IntWalk Go.Lib Go.Sort Go.Shelf
set_option linter.unusedVariables false
attribute [local go_sem] Oper.semAt_some
theorem own_flat {n₀ B : Nat} : Own (fun (pre : Items) W => ∃ v, Boxed W B 109 v ∧ W.ownsRow n₀ 90 2 v pre.length (flatI pre) ∧ True) :=
  holdsRow_own n₀ B 109 90 2 (fun pre => pre.length) flatI (fun _ _ => True)
def ColP (w : World) (L : Items) (e : Ending) (W' : World) : Prop := ∃ v, e = .returned v ∧ W'.ownsRow w.heap.size 90 2 v L.length (flatI L) ∧ Below w.heap.size w W'
def BoxI (w : World) (x : Int × Int) (Bs : Nat) (a' : Act) (W : World) : Prop := ∃ Bx, (w.heap.size < Bx ∧ W.cell? ⟨Bx, 0, none⟩ = some (.int .i64 x.1) ∧ W.cell? ⟨Bx, 1, none⟩ = some (.int .u64 x.2)) ∧
  a' = { tmps := #[.slice none 0 0, .func (.func 76) #[] #[.pointer (some ⟨Bs, 0, none⟩)], .pointer (some ⟨w.heap.size, 0, none⟩), undef, .slice none 0 0, .pointer (some ⟨Bx, 0, none⟩), .func (.func 76) #[] #[.pointer (some ⟨Bs, 0, none⟩)], encI x, undef, undef, undef, undef, undef], defers := [] }
set_option maxRecDepth 100000 in
set_option maxHeartbeats 2000000 in
theorem AppendSeq_at (Bs : Nat) (sv : Value) (L : Items) (hlen : L.length ≤ 1000000) (w : World) (hc : w.cell? ⟨Bs, 0, none⟩ = some sv) (hI : ItemsAt w sv L) (hlt : ∀ b off cap, sv = .slice (some ⟨b, off, none⟩) L.length cap → b < w.heap.size) :
    Calls Try.prog 80 #[.slice none 0 0, .func (.func 76) #[] #[.pointer (some ⟨Bs, 0, none⟩)]] w (ColP w L) := by
  obtain ⟨i0, hi, hz0, hz1, hz2⟩ := info_parts infoItem
  refine (callsIn_wide (n := 3)).1 ?_
  have hf : Fence.wide.fn 80 := trivial
  have hro : Fence.wide.round = none := rfl
  have HI := Lib.hid hI
  have HLT := Lib.hid hlt
  have hBs := lt_of_cell hc
  have HC := Lib.hid hc
  clear hI hlt hc
  refine callsIn_of_wp_marks Try.func80 rfl hf ?_ hro
  simp only [Try.ntmps80, List.size_toArray, List.length_cons, List.length_nil, Nat.reduceAdd, Nat.reduceSub, Array.replicate_succ, Array.replicate_zero, List.push_toArray, List.append_toArray, List.nil_append, List.cons_append]
  gi_wp2
  have bO := Boxed.new w 109 (.slice none 0 0)
  obtain ⟨W0, hW0⟩ : ∃ W0, w.alloc (.cells #[.slice none 0 0] 109) = W0 := ⟨_, rfl⟩
  have hB0 : Below w.heap.size w W0 := by rw [← hW0]; exact below_a _ _
  have hsz : W0.heap.size = w.heap.size + 1 := by rw [← hW0]; simp
  rw [hW0] at bO ⊢
  refine wpIn_rangeFunc_ownH hro (by decide) (gf := 76) (lb := #[.pointer (some ⟨Bs, 0, none⟩)]) rfl trivial (enters_of Try.func76 (by kernel_rfl) rfl)
    (values_stops Fence.wide (3 - 1) trivial hro (by decide) Bs w.heap.size sv L hlen W0 (by omega) (by omega) ((hB0.cell (p := ⟨Bs, 0, none⟩) hBs).trans HC.out) (HI.out.below hB0 HLT.out) HLT.out) belowK_t (belowK_b (by omega)) (Below.refl _ _) (fun _ => rfl)
    (fun pre W => (∃ v, Boxed W w.heap.size 109 v ∧ W.ownsRow w.heap.size 90 2 v pre.length (flatI pre) ∧ True) ∧ Below w.heap.size w W)
    (fun _ _ _ => False)
    (OwnFrom.and (Own.from own_flat _) (ownFrom_below (Nat.le_refl _) (by omega)))
    (fun _ _ _ _ _ hs _ _ => hs)
    ⟨⟨_, bO, World.ownsRow_nil _ _ _ _, trivial⟩, hB0⟩
    (fun x a' W => BoxI w x Bs a' W)
    (fun x a' s X Y row hs hg hr => by
      obtain ⟨Bx, ⟨h1, h2, h3⟩, h4⟩ := hs
      exact ⟨Bx, ⟨h1, cell_kept h2 hg (fun r e => (hr r e).2), cell_kept h3 hg (fun r e => (hr r e).2)⟩, h4⟩)
    ?assign ?body ?done ?stop
  case assign =>
    rintro l pre x W K ⟨⟨v, hv, hrow, _⟩, hB⟩ hK
    dsimp only [encI]
    gi_wp2
    refine hK _ _ ((KeepsOthers.alloc _ _).from _) ((Below.refl _ W).alloc hB.size _) ⟨⟨v, hv.alloc _, hrow.alloc _, trivial⟩, hB.alloc hB.size _⟩ ⟨W.heap.size, ⟨hv.lt, cell_nw _ _ _ 0 _ rfl, cell_nw _ _ _ 1 _ rfl⟩, rfl⟩
  case body =>
    rintro l pre x a' W hl hr ⟨⟨v, hv, hrow, _⟩, hB⟩ ⟨Bx, ⟨x0, x1, x2⟩, rfl⟩ hlt
    have hc := hv.cell
    have hpl : pre.length ≤ 1000000 := by omega
    gi_wp2_with (gi_at_builtin; refine wpListIn_append_own _ rfl _ _ 109 rfl w.heap.size 90 i0 (.agg #[.int .i64 0, .int .u64 0]) 2 16 Try.underlying109 hi hz0 hz1 hz2 rfl (by decide) _ _ _ rfl (hrow.alloc _) ⟨W.heap.size, 0, none⟩ 1 1 [.int .i64 x.1, .int .u64 x.2] rfl rfl ?c1 (by simp [Value.oneCell']) (by unfold maxLen; omega) (by omega) (by have := hB.size; simp; omega) ?_)
    case c1 =>
      intro j u hj
      match j, hj with
      | 0, hj => simp at hj; subst hj; exact cell_nw _ _ _ 0 _ rfl
      | 1, hj => simp at hj; subst hj; exact cell_nw _ _ _ 1 _ rfl
      | j + 2, hj => simp at hj
    intro v' w1 hown' hgrow _
    obtain ⟨g', cap', rfl⟩ := ownsRow_succ hown'
    obtain ⟨hv1, hv2, hr2, hk2, hb2⟩ := hv.appended (by decide) hrow hB.size (Nat.le_refl _) hown' hgrow
    have hc1 := hv1.cell
    have hf1 := hv1.frozen
    gi_wp2
    exact ⟨hk2.from _, hb2, ⟨_, hv2, by rw [flatI_app, List.length_append]; exact hr2, trivial⟩, hB.trans hb2⟩
  case done =>
    rintro D ys W hD rfl ⟨⟨v, hv, hrow, _⟩, hB⟩ hK
    have hc := hv.cell
    gi_wp2
    refine ⟨by simp, .inl ⟨_, _, rfl, run_takeDeferred hK, ?_⟩⟩
    exact ⟨_, results_tmp rfl _ _ _, v, rfl, ownsRow_putObj hrow _ hK rfl, hB.trans (belowK_b (w := w) (Nat.le_refl _) W D _ _ (by omega) hK rfl rfl)⟩
  case stop =>
    rintro D c pre W _ _ h _
    exact h.elim
end Go.Proofs.Ytekjakmeopolhaa
