/-
  Layer 24 (queue): All.
-/
import Derived.Test.YtekjakmeopolhaaQueueI
namespace Go.Proofs.Ytekjakmeopolhaa
open Go.RowKit Go.Maps Go.IntWalk Go.Lib Go.Sort Go.Shelf
set_option linter.unusedVariables false
set_option linter.unusedSimpArgs false
attribute [local go_sem] Oper.semAt_some
def encMs (m : Int × Ent) : List Value := [.int .i64 m.1, .int .u64 m.2.1, .int .u32 m.2.2.1, .int .u32 m.2.2.2]
theorem encMs_ok : Enc encMs 4 := ⟨fun _ => rfl, fun x u hu => by simp [encMs] at hu; rcases hu with rfl | rfl | rfl | rfl <;> rfl, by decide⟩
theorem infoMember : (Try.prog.info? 43).map (fun i => (i.zero, i.size, i.bytes)) = some (some (.agg #[.int .i64 0, .int .u64 0, .int .u32 0, .int .u32 0]), 4, 24) := by kernel_rfl
theorem members_at (q : Addr) (w : World) : Calls Try.prog 34 #[.pointer (some q)] w fun e w' => e = .returned (.func (.func 53) #[] #[.pointer (some ⟨w.heap.size, 0, none⟩)]) ∧ w' = w.alloc (.cells #[.pointer (some q)] 25) := by
  go_enter Try.func34, Try.ntmps34
  go_wp2
  go_ret
  exact ⟨rfl, rfl⟩
theorem own_flatM {n₀ B : Nat} : Own (fun (pre : Mems) W => ∃ v, Boxed W B 28 v ∧ W.ownsRow n₀ 43 4 v pre.length (flatR encMs pre) ∧ (pre = [] → v = .slice none 0 0)) :=
  holdsRow_own n₀ B 28 43 4 (fun pre => pre.length) (flatR encMs) (fun pre v => pre = [] → v = .slice none 0 0)
def QAllP (w : World) (M : Mems) (e : Ending) (W' : World) : Prop := ∃ v, e = .returned v ∧ W'.ownsRow w.heap.size 43 4 v M.length (flatR encMs M) ∧ Below w.heap.size w W'
theorem kpi_t {n₀ Bq : Nat} {A B C : World} (h : KpI n₀ Bq A B) (k : KpI n₀ Bq B C) : KpI n₀ Bq A C := h.t k
theorem kpi_b {n₀ Bq : Nat} {w : World} (hn : n₀ ≤ w.heap.size) (hb : Bq < w.heap.size) (W : World) (l : Nat) (o o' : Obj) (hl : w.heap.size ≤ l) (h : W.heap[l]? = some o) (hc : o.isCells = false) (hw : o.isWalk = false) : KpI n₀ Bq W (W.putObj l o') := by
  have hg := grownBy_putObj' W l o'
  refine ⟨belowK_b hn W l o o' hl h hc hw, fun k i hk => ?_, fun hl' => hg.block _ hl' (fun e => by cases e; omega)⟩
  refine hg.block k (lt_of_cell hk) (fun e => ?_)
  cases e
  obtain ⟨o2, h2, h3⟩ := cells_of_cell hk
  rw [show W.heap[l]? = some o from h] at h2
  cases h2
  rw [hc] at h3
  cases h3
theorem members_stops (n : Nat) (hn : 1 ≤ n) (Bq n₀ q : Nat) (Fq : List Nat) (N fl : Int) (M : Mems) (hFq : ∀ b ∈ Fq, b < n₀) (w : World) (hQ : QIn w q Fq N M fl) (hc : w.cell? ⟨Bq, 0, none⟩ = some (.pointer (some ⟨q, 0, none⟩))) (hn0 : n₀ ≤ w.heap.size) :
    SeqStopsK Fence.wide n Try.prog 53 #[.pointer (some ⟨Bq, 0, none⟩)] (fun m : Int × Ent => #[encM m]) (KpI n₀ Bq) (fun ys => ys = M) (fun pre => pre <+: M) M.length w := fun l J Jx W hW hJ _ hY h0 =>
  membersF_in n hn l Bq n₀ q Fq N fl M hFq J Jx hY W (hQ.below hW) (cell_later hW hc) (Nat.le_trans hn0 hW.size) (fun s A B h hb => hJ s A B none h (grow_below hb) (fun r e => by cases e)) h0
def QBox (w : World) (m : Int × Ent) (q Bq : Nat) (a' : Act) (W : World) : Prop := ∃ Bx, (w.heap.size < Bx ∧ W.cell? ⟨Bx, 0, none⟩ = some (.int .i64 m.1) ∧ W.cell? ⟨Bx, 1, none⟩ = some (.int .u64 m.2.1) ∧ W.cell? ⟨Bx, 2, none⟩ = some (.int .u32 m.2.2.1) ∧ W.cell? ⟨Bx, 3, none⟩ = some (.int .u32 m.2.2.2)) ∧
  a' = { tmps := #[.pointer (some ⟨q, 0, none⟩), undef, .slice none 0 0, .pointer (some ⟨w.heap.size, 0, none⟩), .pointer (some ⟨Bx, 0, none⟩), .pointer (some ⟨q, 0, none⟩), .bool true, .bool false, .pointer (some ⟨q, 0, none⟩), .func (.func 53) #[] #[.pointer (some ⟨Bq, 0, none⟩)], encM m, undef, undef, undef, undef, undef], defers := [] }
set_option maxRecDepth 100000 in
set_option maxHeartbeats 4000000 in
theorem QAll_at {q : Nat} {F : List Nat} {n : Int} {M : Mems} {fl : Int} (w : World) (h : QIn w q F n M fl) :
    Calls Try.prog 11 #[.pointer (some ⟨q, 0, none⟩)] w (QAllP w M) := by
  obtain ⟨i0, hi, hz0, hz1, hz2⟩ := info_parts infoMember
  refine (callsIn_wide (n := 3)).1 ?_
  have hf : Fence.wide.fn 11 := trivial
  have hro : Fence.wide.round = none := rfl
  have HQ := Lib.hid h
  have hlen : M.length ≤ 131072 := by have := h.ids; omega
  have A1 := Lib.hid (show Calls Try.prog 33 #[.pointer (some ⟨q, 0, none⟩)] w fun e w' => e = .returned (.bool true) ∧ w = w' by
    obtain ⟨p, bm, Fh, f, hr, rfl, _⟩ := h
    exact qsome_at q n w hr.c1 hr.pos)
  clear h
  refine callsIn_of_wp_marks Try.func11 rfl hf ?_ hro
  simp only [Try.ntmps11, List.size_toArray, List.length_cons, List.length_nil, Nat.reduceAdd, Nat.reduceSub, Array.replicate_succ, Array.replicate_zero, List.push_toArray, List.append_toArray, List.nil_append, List.cons_append]
  gi_wp2
  refine ⟨trivial, callsIn_wide.2 (A1.out.mono ?_)⟩
  rintro e w1 ⟨rfl, rfl⟩
  gi_wp2
  refine ⟨trivial, callsIn_wide.2 ((members_at ⟨q, 0, none⟩ _).mono ?_)⟩
  rintro e w2 ⟨rfl, rfl⟩
  gi_wp2
  have bO := (Boxed.new w 28 (.slice none 0 0)).alloc (.cells #[.pointer (some ⟨q, 0, none⟩)] 25)
  obtain ⟨W0, hW0⟩ : ∃ W0, W0 = (w.alloc (.cells #[.slice none 0 0] 28)).alloc (.cells #[.pointer (some ⟨q, 0, none⟩)] 25) := ⟨_, rfl⟩
  have hB0 : Below w.heap.size w W0 := by rw [hW0]; exact Below.allocS (Below.allocS (Below.refl _ _) _) _
  have hsz : W0.heap.size = w.heap.size + 2 := by rw [hW0]; simp
  have hbq : W0.cell? ⟨w.heap.size + 1, 0, none⟩ = some (.pointer (some ⟨q, 0, none⟩)) := by rw [hW0]; exact cell_nwE (by simp) _ _ 0 _ rfl
  rw [← hW0] at bO ⊢
  clear hW0
  have hpk : ∀ (s : Mems) (X Y : World) (row : Option Nat), X.cell? ⟨w.heap.size + 1, 0, none⟩ = some (.pointer (some ⟨q, 0, none⟩)) → X.grownBy Y row → (∀ r, row = some r → W0.heap.size ≤ r ∧ ∃ o : Obj, X.heap[r]? = some o ∧ o.isCells = false) → Y.cell? ⟨w.heap.size + 1, 0, none⟩ = some (.pointer (some ⟨q, 0, none⟩)) := fun s X Y row hs hg hr => cell_kept hs hg (fun r e => (hr r e).2)
  refine wpIn_rangeFunc_ownH hro (by decide) (gf := 53) (lb := #[.pointer (some ⟨w.heap.size + 1, 0, none⟩)]) rfl trivial (enters_of Try.func53 (by kernel_rfl) rfl)
    (members_stops (3 - 1) (by decide) (w.heap.size + 1) w.heap.size q F n fl M HQ.out.lt W0 (HQ.out.below hB0) hbq (by omega)) kpi_t (kpi_b (by omega) (by omega)) (Below.refl _ _) (fun _ => rfl)
    (fun pre W => ((∃ v, Boxed W w.heap.size 28 v ∧ W.ownsRow w.heap.size 43 4 v pre.length (flatR encMs pre) ∧ (pre = [] → v = .slice none 0 0)) ∧ Below w.heap.size w W) ∧ W.cell? ⟨w.heap.size + 1, 0, none⟩ = some (.pointer (some ⟨q, 0, none⟩)))
    (fun _ _ _ => False)
    (OwnFrom.and (OwnFrom.and (Own.from own_flatM _) (ownFrom_below (Nat.le_refl _) (by omega))) hpk)
    (fun _ _ _ _ _ hs _ _ => hs)
    ⟨⟨⟨_, bO, World.ownsRow_nil _ _ _ _, fun _ => rfl⟩, hB0⟩, hbq⟩
    (fun x a' W => QBox w x q (w.heap.size + 1) a' W)
    (fun x a' s X Y row hs hg hr => by
      obtain ⟨Bx, ⟨h1, h2, h3, h4, h5⟩, h6⟩ := hs
      exact ⟨Bx, ⟨h1, cell_kept h2 hg (fun r e => (hr r e).2), cell_kept h3 hg (fun r e => (hr r e).2), cell_kept h4 hg (fun r e => (hr r e).2), cell_kept h5 hg (fun r e => (hr r e).2)⟩, h6⟩)
    ?assign ?body ?done ?stop
  case assign =>
    rintro l pre x W K ⟨⟨⟨v, hv, hrow, hnil⟩, hB⟩, hq⟩ hK
    dsimp only [encM]
    gi_wp2
    refine hK _ _ ((KeepsOthers.alloc _ _).from _) (KpI.of (below_a W _) hB.size) ⟨⟨⟨v, hv.alloc _, hrow.alloc _, hnil⟩, hB.alloc hB.size _⟩, cell_al _ hq⟩ ⟨W.heap.size, ⟨hv.lt, cell_nw _ _ _ 0 _ rfl, cell_nw _ _ _ 1 _ rfl, cell_nw _ _ _ 2 _ rfl, cell_nw _ _ _ 3 _ rfl⟩, rfl⟩
  case body =>
    rintro l pre x a' W hl hr ⟨⟨⟨v, hv, hrow, hnil⟩, hB⟩, hq⟩ ⟨Bx, ⟨x0, x1, x2, x3, x4⟩, rfl⟩ hlt
    have hc := hv.cell
    have hpl : pre.length ≤ 131072 := by omega
    gi_wp2_with (gi_at_builtin; refine wpListIn_append_own _ rfl _ _ 28 rfl w.heap.size 43 i0 (.agg #[.int .i64 0, .int .u64 0, .int .u32 0, .int .u32 0]) 4 24 Try.underlying28 hi hz0 hz1 hz2 rfl (by decide) _ _ _ rfl (hrow.alloc _) ⟨W.heap.size, 0, none⟩ 1 1 (encMs x) rfl rfl ?c1 (encMs_ok.one x) (by unfold maxLen; omega) (by omega) (by have := hB.size; simp; omega) ?_)
    case c1 =>
      intro j u hj
      rw [addr_add, Nat.zero_add]
      exact cell_nw _ _ _ _ _ (by simpa [encMs] using hj)
    intro v' w1 hown' hgrow _
    obtain ⟨g', cap', rfl⟩ := ownsRow_succ hown'
    obtain ⟨hv1, hv2, hr2, hk2, hb2⟩ := hv.appended (by decide) hrow hB.size (Nat.le_refl _) hown' hgrow
    have hc1 := hv1.cell
    have hf1 := hv1.frozen
    gi_wp2
    have hkeep : ∀ k, k < W.heap.size → k ≠ w.heap.size → some k ≠ v.ownBlock → (w1.setCell ⟨w.heap.size, 0, none⟩ (.slice (some ⟨g', 0, none⟩) (pre.length + 1) cap')).heap[k]? = W.heap[k]? := fun k hk h1 h2 => by
      rw [heap_set_ne h1, hgrow.block k (by simp; omega) h2]
      exact Below.heap_alloc _ _ _ (by omega)
    have hcells : ∀ k, some k = v.ownBlock → (∃ i, W.cell? ⟨k, 0, none⟩ = some (.int .i64 i)) ∧ ∃ i, W.cell? ⟨k, 2, none⟩ = some (.int .u32 i) := fun k hk => by
      cases pre with
      | nil => rw [hnil rfl] at hk; cases hk
      | cons y r =>
        rcases hrow.2 with ⟨rfl, _⟩ | ⟨g, cap, cur, rfl, _⟩
        · cases hk
        · cases hk
          exact ⟨⟨y.1, (hrow.cellAt 0 (by simp)).trans rfl⟩, ⟨y.2.2.1, (hrow.cellAt 2 (by simp; omega)).trans rfl⟩⟩
    have hkp : KpI w.heap.size (w.heap.size + 1) W (w1.setCell ⟨w.heap.size, 0, none⟩ (.slice (some ⟨g', 0, none⟩) (pre.length + 1) cap')) := by
      refine ⟨hb2, fun k i hk => hkeep k (lt_of_cell hk) (fun e => ?_) (fun e => ?_), fun hl => hkeep _ hl (by omega) (fun e => ?_)⟩
      · subst e
        have : W.cell? ⟨w.heap.size, 2, none⟩ = none := by
          unfold World.cell?
          rw [show W.heap[w.heap.size]? = _ from hv]
          rfl
        rw [this] at hk
        cases hk
      · obtain ⟨_, j, hj⟩ := hcells k e
        rw [hj] at hk
        cases hk
      · obtain ⟨⟨j, hj⟩, _⟩ := hcells _ e
        rw [hj] at hq
        cases hq
    refine ⟨hk2.from _, hkp, ⟨⟨_, hv2, ?_, fun e => by simp at e⟩, hB.trans hb2⟩, ?_⟩
    · rw [flatR_app, List.length_append]
      have e : flatR encMs [x] = encMs x := by simp [flatR]
      rw [e]
      exact hr2
    · exact (World.cell?_of_block (w := W) (a := ⟨w.heap.size + 1, 0, none⟩) (hkp.2.2 (lt_of_cell hq))).trans hq
  case done =>
    rintro D ys W hD rfl ⟨⟨⟨v, hv, hrow, _⟩, hB⟩, _⟩ hK
    have hc := hv.cell
    gi_wp2
    refine ⟨by simp, .inl ⟨_, _, rfl, run_takeDeferred hK, ?_⟩⟩
    exact ⟨_, results_tmp rfl _ _ _, v, rfl, ownsRow_putObj hrow _ hK rfl, hB.trans (belowK_b (w := w) (Nat.le_refl _) W D _ _ (by omega) hK rfl rfl)⟩
  case stop =>
    rintro D c pre W _ _ h _
    exact h.elim
end Go.Proofs.Ytekjakmeopolhaa
