/-
  Layer 18 (heap): slices.Values and slices.AppendSeq at items.
  Layer 18 (heap): slices.AppendSeq, Collect, SortedFunc at items; All.
  Layer 18 (heap): slices.SortFunc at items; SortedFunc; All.
  Layer 18 (heap): New; from call to call.
-/
import Derived.Test.YtfgmglghlapbcaaGreatHpP
import Derived.RangeFuncNested
import Derived.RangeFuncBound
import Derived.RangeFuncCalls
import Derived.RangeFuncLeaves
import Derived.RangeFuncBox
import Derived.Shelf.Abstract
import Derived.Shelf.RegionOpen
import Derived.OwnWalkIn
import Derived.TacticsInMore
import Derived.LoopNIn
import Derived.LoopIn
import Derived.Maps.AppendAt
import Derived.Test.YtfgmglghlapbcaaGreatKtB
namespace Go.Proofs.YtfgmglghlapbcaaGreat
open Go.RowKit Go.Maps Go.IntWalk Go.Lib Go.Sort Go.Shelf
set_option linter.unusedVariables false
attribute [local go_sem] Oper.semAt_some
def encI (x : Int × Int) : Value := .agg #[.int .i64 x.1, .int .u64 x.2]
/-- a slice of items in memory -/
def ItemsAt (w : World) (v : Value) (L : Items) : Prop := ∃ a cap, v = .slice a L.length cap ∧ (L = [] ∨ ∃ b off, a = some ⟨b, off, none⟩ ∧ ∀ k, k < L.length → w.cell? ⟨b, off + k * 2, none⟩ = some (.int .i64 L[k]!.1) ∧ w.cell? ⟨b, off + k * 2 + 1, none⟩ = some (.int .u64 L[k]!.2))
theorem take_succ_at {L : Items} {k : Nat} (hk : k < L.length) : L.take (k + 1) = L.take k ++ [L[k]!] := by
  rw [List.take_succ_eq_append_getElem hk, getElem!_pos L k hk]
set_option maxRecDepth 100000 in
set_option maxHeartbeats 2000000 in
theorem values1_in (F : Fence) (n : Nat) (hf : F.fn 131) (hro : F.round = none) (hn : 1 ≤ n) (l Bs n₀ b off len cap : Nat) (L : Items) (hl : L.length = len) (hlen : len ≤ 1000000) (hb : b < n₀) (J Jx : Items → World → Prop)
    (hY : ∀ pre x W, J pre W → pre.length < len → YieldAt F (n - 1) Tryz.prog l #[encI x] W fun e W' =>
      (e = .returned (.bool true) ∧ J (pre ++ [x]) W' ∧ Below n₀ W W') ∨ (e = .returned (.bool false) ∧ Jx (pre ++ [x]) W'))
    (W : World) (hBs : W.cell? ⟨Bs, 0, none⟩ = some (.slice (some ⟨b, off, none⟩) len cap)) (hc : ∀ k, k < len → W.cell? ⟨b, off + k * 2, none⟩ = some (.int .i64 L[k]!.1) ∧ W.cell? ⟨b, off + k * 2 + 1, none⟩ = some (.int .u64 L[k]!.2)) (hn0 : n₀ ≤ W.heap.size) (hJA : ∀ s A o, J s A → J s (A.alloc o)) (h0 : J [] W) :
    CallsIn F n Tryz.prog 131 #[.func (.yield l) #[] #[], .pointer (some ⟨Bs, 0, none⟩)] W fun e W' => (∃ v, e = .returned v) ∧
      ((∃ ys, ys = L ∧ J ys W') ∨ (∃ pre, pre <+: L ∧ Jx pre W')) := by
  have HY := Lib.hid hY
  have HC := Lib.hid hc
  have HL := Lib.hid hl
  clear hY hc hl
  refine callsIn_of_wp Tryz.func131 rfl hf ?_ hro
  simp only [Tryz.ntmps131, List.size_toArray, List.length_cons, List.length_nil, Nat.reduceAdd, Nat.reduceSub, Array.replicate_succ, Array.replicate_zero, List.push_toArray, List.append_toArray, List.nil_append, List.cons_append]
  gi_wp2
  gi_loopw [7] (fun i wr => ∃ k : Nat, k ≤ len ∧ i = .int .i64 k ∧ J (L.take k) wr ∧ Below n₀ W wr)
    (fun i _ => len - (intOf i).toNat)
  case atStart => exact ⟨0, Nat.zero_le _, rfl, h0, Below.refl _ _⟩
  case round =>
    obtain ⟨k, hk, rfl, hJs, hnx⟩ := hrel
    by_cases hlt : k < len
    · obtain ⟨x, hx⟩ : ∃ x, x = L[k]! := ⟨_, rfl⟩
      obtain ⟨i0, i1⟩ := HC.out k hlt
      rw [← hx] at i0 i1
      have c0 : wr.cell? ⟨b, off + k * 2, none⟩ = some (.int .i64 x.1) := (hnx.cell (p := ⟨b, off + k * 2, none⟩) hb).trans i0
      have c1 : wr.cell? ⟨b, off + k * 2 + 1, none⟩ = some (.int .u64 x.2) := (hnx.cell (p := ⟨b, off + k * 2 + 1, none⟩) hb).trans i1
      have hz0 : (0 : Int) ≤ (k : Int) := by omega
      have hz1 : (k : Int) < (len : Int) := by omega
      have hJ1 : J (L.take k) (wr.alloc (.cells #[.int .i64 x.1, .int .u64 x.2] 173)) := hJA _ _ _ hJs
      have hbw := hnx.size
      have HB1 := Lib.hid (show Below n₀ W (wr.alloc (.cells #[.int .i64 x.1, .int .u64 x.2] 173)) from hnx.alloc (Nat.le_trans hn0 hbw) _)
      obtain ⟨fn, tmps, assign, body, hy, hR⟩ := HY.out _ x _ hJ1 (by rw [List.length_take]; omega)
      dsimp only [encI] at hy
      have HR := Lib.hid hR
      have HX := Lib.hid hx
      clear hJs hJ1 hnx i0 i1 hx hbw hR
      gi_wp2
      refine HR.out.mono ?_
      rintro e W3 (⟨rfl, hJ3, hk3⟩ | ⟨rfl, hJx3⟩)
      · gi_wp2
        go_roundw
        case rel => exact ⟨k + 1, by omega, by simp, by rw [take_succ_at (by rw [HL.out]; exact hlt), ← HX.out]; exact hJ3, HB1.out.trans hk3⟩
        case measure => simp [intOf]; omega
      · gi_wp2
        refine bodyPost_ret (results_none rfl _ _ _) rfl ?_
        exact ⟨⟨_, rfl⟩, .inr ⟨_, by rw [HX.out, ← take_succ_at (by rw [HL.out]; exact hlt)]; exact List.take_prefix _ _, hJx3⟩⟩
    · obtain rfl : k = len := by omega
      gi_wp2
      go_end0
      exact ⟨⟨_, rfl⟩, .inl ⟨_, by rw [← HL.out, List.take_length], hJs⟩⟩
set_option maxRecDepth 100000 in
set_option maxHeartbeats 1000000 in
theorem values1_nil (F : Fence) (n : Nat) (hf : F.fn 131) (hro : F.round = none) (l Bs : Nat) (a : Option Addr) (cap : Nat) (J : Items → World → Prop) (W : World) (hBs : W.cell? ⟨Bs, 0, none⟩ = some (.slice a 0 cap)) (h0 : J [] W) :
    CallsIn F n Tryz.prog 131 #[.func (.yield l) #[] #[], .pointer (some ⟨Bs, 0, none⟩)] W fun e W' => (∃ v, e = .returned v) ∧ J [] W' := by
  refine callsIn_of_wp Tryz.func131 rfl hf ?_ hro
  simp only [Tryz.ntmps131, List.size_toArray, List.length_cons, List.length_nil, Nat.reduceAdd, Nat.reduceSub, Array.replicate_succ, Array.replicate_zero, List.push_toArray, List.append_toArray, List.nil_append, List.cons_append]
  gi_wp2
  gi_loopw [7] (fun i wr => i = .int .i64 0 ∧ J [] wr) (fun _ _ => 0)
  case atStart => exact ⟨rfl, h0⟩
  case round =>
    obtain ⟨rfl, hJs⟩ := hrel
    gi_wp2
    go_end0
    exact ⟨⟨_, rfl⟩, hJs⟩
theorem ItemsAt.below {n₀ : Nat} {A B : World} {v : Value} {L : Items} (h : ItemsAt A v L) (hb : Below n₀ A B) (hl : ∀ b off cap, v = .slice (some ⟨b, off, none⟩) L.length cap → b < n₀) : ItemsAt B v L := by
  obtain ⟨a, cap, rfl, h⟩ := h
  refine ⟨a, cap, rfl, ?_⟩
  rcases h with h | ⟨b, off, rfl, hc⟩
  · exact Or.inl h
  · have hb' := hl b off cap rfl
    exact Or.inr ⟨b, off, rfl, fun k hk => ⟨(hb.cell (p := ⟨b, off + k * 2, none⟩) hb').trans (hc k hk).1, (hb.cell (p := ⟨b, off + k * 2 + 1, none⟩) hb').trans (hc k hk).2⟩⟩
/-- slices.Values at items -/
theorem values_stops (F : Fence) (n : Nat) (hf : F.fn 131) (hro : F.round = none) (hn : 1 ≤ n) (Bs n₀ : Nat) (sv : Value) (L : Items) (hlen : L.length ≤ 1000000) (w : World) (hBs : Bs < w.heap.size) (hn₀ : n₀ ≤ w.heap.size)
    (hc : w.cell? ⟨Bs, 0, none⟩ = some sv) (hI : ItemsAt w sv L) (hl : ∀ b off cap, sv = .slice (some ⟨b, off, none⟩) L.length cap → b < n₀) :
    SeqStopsK F n Tryz.prog 131 #[.pointer (some ⟨Bs, 0, none⟩)] (fun x : Int × Int => #[encI x]) (Below n₀) (fun ys => ys = L) (fun pre => pre <+: L) L.length w := fun l J Jx W hW hJ _ hY h0 => by
  have hc' := (hW.cell (p := ⟨Bs, 0, none⟩) hBs).trans hc
  obtain ⟨a, cap, rfl, hI'⟩ := hI.below (hW.mono hn₀) hl
  rcases hI' with rfl | ⟨b, off, rfl, hcs⟩
  · exact (values1_nil F n hf hro l Bs a cap J W hc' h0).mono fun e W' ⟨he, hj⟩ => ⟨he, .inl ⟨_, rfl, hj⟩⟩
  · exact values1_in F n hf hro hn l Bs n₀ b off L.length cap L rfl hlen (hl b off cap rfl) J Jx hY W hc' hcs (Nat.le_trans hn₀ hW.size) (fun s A o h => hJ s A _ none h (World.grownBy_alloc A o none) (fun r e => by cases e)) h0
set_option maxHeartbeats 1000000 in
theorem values_at (a : Option Addr) (len cap : Nat) (w : World) :
    Calls Tryz.prog 123 #[.slice a len cap] w fun e w' => e = .returned (.func (.func 131) #[] #[.pointer (some ⟨w.heap.size, 0, none⟩)]) ∧ w' = w.alloc (.cells #[.slice a len cap] 177) := by
  go_enter Tryz.func123, Tryz.ntmps123
  go_wp2
  go_ret
  exact ⟨rfl, rfl⟩
end Go.Proofs.YtfgmglghlapbcaaGreat
namespace Go.Proofs.YtfgmglghlapbcaaGreat
open Go.RowKit Go.Maps Go.IntWalk Go.Lib Go.Sort Go.Shelf
set_option linter.unusedVariables false
attribute [local go_sem] Oper.semAt_some
theorem own_flat {n₀ B : Nat} : Own (fun (pre : Items) W => ∃ v, Boxed W B 177 v ∧ W.ownsRow n₀ 173 2 v pre.length (flatI pre) ∧ True) :=
  holdsRow_own n₀ B 177 173 2 (fun pre => pre.length) flatI (fun _ _ => True)
def ColP (w : World) (L : Items) (e : Ending) (W' : World) : Prop := ∃ v, e = .returned v ∧ W'.ownsRow w.heap.size 173 2 v L.length (flatI L) ∧ Below w.heap.size w W'
def BoxI (w : World) (x : Int × Int) (Bs : Nat) (a' : Act) (W : World) : Prop := ∃ Bx, (w.heap.size < Bx ∧ W.cell? ⟨Bx, 0, none⟩ = some (.int .i64 x.1) ∧ W.cell? ⟨Bx, 1, none⟩ = some (.int .u64 x.2)) ∧
  a' = { tmps := #[.slice none 0 0, .func (.func 131) #[] #[.pointer (some ⟨Bs, 0, none⟩)], .pointer (some ⟨w.heap.size, 0, none⟩), undef, .slice none 0 0, .pointer (some ⟨Bx, 0, none⟩), .func (.func 131) #[] #[.pointer (some ⟨Bs, 0, none⟩)], encI x, undef, undef, undef, undef, undef], defers := [] }
set_option maxRecDepth 100000 in
set_option maxHeartbeats 2000000 in
theorem AppendSeq_at (Bs : Nat) (sv : Value) (L : Items) (hlen : L.length ≤ 1000000) (w : World) (hc : w.cell? ⟨Bs, 0, none⟩ = some sv) (hI : ItemsAt w sv L) (hlt : ∀ b off cap, sv = .slice (some ⟨b, off, none⟩) L.length cap → b < w.heap.size) :
    Calls Tryz.prog 136 #[.slice none 0 0, .func (.func 131) #[] #[.pointer (some ⟨Bs, 0, none⟩)]] w (ColP w L) := by
  obtain ⟨i0, hi, hz0, hz1, hz2⟩ := info_parts infoItem
  refine (callsIn_wide (n := 3)).1 ?_
  have hf : Fence.wide.fn 136 := trivial
  have hro : Fence.wide.round = none := rfl
  have HI := Lib.hid hI
  have HLT := Lib.hid hlt
  have hBs := lt_of_cell hc
  have HC := Lib.hid hc
  clear hI hlt hc
  refine callsIn_of_wp_marks Tryz.func136 rfl hf ?_ hro
  simp only [Tryz.ntmps136, List.size_toArray, List.length_cons, List.length_nil, Nat.reduceAdd, Nat.reduceSub, Array.replicate_succ, Array.replicate_zero, List.push_toArray, List.append_toArray, List.nil_append, List.cons_append]
  gi_wp2
  have bO := Boxed.new w 177 (.slice none 0 0)
  obtain ⟨W0, hW0⟩ : ∃ W0, w.alloc (.cells #[.slice none 0 0] 177) = W0 := ⟨_, rfl⟩
  have hB0 : Below w.heap.size w W0 := by rw [← hW0]; exact below_a _ _
  have hsz : W0.heap.size = w.heap.size + 1 := by rw [← hW0]; simp
  rw [hW0] at bO ⊢
  refine wpIn_rangeFunc_ownH hro (by decide) (gf := 131) (lb := #[.pointer (some ⟨Bs, 0, none⟩)]) rfl trivial (enters_of Tryz.func131 (by kernel_rfl) rfl)
    (values_stops Fence.wide (3 - 1) trivial hro (by decide) Bs w.heap.size sv L hlen W0 (by omega) (by omega) ((hB0.cell (p := ⟨Bs, 0, none⟩) hBs).trans HC.out) (HI.out.below hB0 HLT.out) HLT.out) belowK_t (belowK_b (by omega)) (Below.refl _ _) (fun _ => rfl)
    (fun pre W => (∃ v, Boxed W w.heap.size 177 v ∧ W.ownsRow w.heap.size 173 2 v pre.length (flatI pre) ∧ True) ∧ Below w.heap.size w W)
    (fun _ _ _ => False)
    (OwnFrom.and (Own.from own_flat _) (ownFrom_below (Nat.le_refl _) (by omega)))
    (fun _ _ _ _ _ hs _ _ => hs)
    ⟨⟨_, bO, World.ownsRow_nil _ _ _ _, trivial⟩, hB0⟩
    (fun x a' W => BoxI w x Bs a' W)
    (fun x a' s X Y row hs hg hr => by
      obtain ⟨Bx, ⟨h1, h2, h3⟩, h4⟩ := hs
      exact ⟨Bx, ⟨h1, cell_kept h2 hg (fun r e => (hr r e).2), cell_kept h3 hg (fun r e => (hr r e).2)⟩, h4⟩)
    ?assign ?body ?done ?stop
  case assign =>
    rintro l pre x W K ⟨⟨v, hv, hrow, _⟩, hB⟩ hK
    dsimp only [encI]
    gi_wp2
    refine hK _ _ ((KeepsOthers.alloc _ _).from _) ((Below.refl _ W).alloc hB.size _) ⟨⟨v, hv.alloc _, hrow.alloc _, trivial⟩, hB.alloc hB.size _⟩ ⟨W.heap.size, ⟨hv.lt, cell_nw _ _ _ 0 _ rfl, cell_nw _ _ _ 1 _ rfl⟩, rfl⟩
  case body =>
    rintro l pre x a' W hl hr ⟨⟨v, hv, hrow, _⟩, hB⟩ ⟨Bx, ⟨x0, x1, x2⟩, rfl⟩ hlt
    have hc := hv.cell
    have hpl : pre.length ≤ 1000000 := by omega
    gi_wp2_with (gi_at_builtin; refine wpListIn_append_own _ rfl _ _ 177 rfl w.heap.size 173 i0 (.agg #[.int .i64 0, .int .u64 0]) 2 16 Tryz.underlying177 hi hz0 hz1 hz2 rfl (by decide) _ _ _ rfl (hrow.alloc _) ⟨W.heap.size, 0, none⟩ 1 1 [.int .i64 x.1, .int .u64 x.2] rfl rfl ?c1 (by simp [Value.oneCell']) (by unfold maxLen; omega) (by omega) (by have := hB.size; simp; omega) ?_)
    case c1 =>
      intro j u hj
      match j, hj with
      | 0, hj => simp at hj; subst hj; exact cell_nw _ _ _ 0 _ rfl
      | 1, hj => simp at hj; subst hj; exact cell_nw _ _ _ 1 _ rfl
      | j + 2, hj => simp at hj
    intro v' w1 hown' hgrow _
    obtain ⟨g', cap', rfl⟩ := ownsRow_succ hown'
    obtain ⟨hv1, hv2, hr2, hk2, hb2⟩ := hv.appended (by decide) hrow hB.size (Nat.le_refl _) hown' hgrow
    have hc1 := hv1.cell
    have hf1 := hv1.frozen
    gi_wp2
    exact ⟨hk2.from _, hb2, ⟨_, hv2, by rw [flatI_app, List.length_append]; exact hr2, trivial⟩, hB.trans hb2⟩
  case done =>
    rintro D ys W hD rfl ⟨⟨v, hv, hrow, _⟩, hB⟩ hK
    have hc := hv.cell
    gi_wp2
    refine ⟨by simp, .inl ⟨_, _, rfl, run_takeDeferred hK, ?_⟩⟩
    exact ⟨_, results_tmp rfl _ _ _, v, rfl, ownsRow_putObj hrow _ hK rfl, hB.trans (belowK_b (w := w) (Nat.le_refl _) W D _ _ (by omega) hK rfl rfl)⟩
  case stop =>
    rintro D c pre W _ _ h _
    exact h.elim
end Go.Proofs.YtfgmglghlapbcaaGreat
namespace Go.Proofs.YtfgmglghlapbcaaGreat
open Go.RowKit Go.Maps Go.IntWalk Go.Lib Go.Sort Go.Shelf
set_option linter.unusedVariables false
def encR2 (x : Int × Int) : List Value := [.int .i64 x.1, .int .u64 x.2]
theorem isAggItem (w : World) : (isAgg 173).run Tryz.prog w = .ok true w := by kernel_rfl
theorem sizeOfItem (w : World) : (Go.sizeOf 173).run Tryz.prog w = .ok 2 w := by kernel_rfl
theorem orV_lt (a b : Int) : orV a b < 0 ↔ a < 0 ∨ a = 0 ∧ b < 0 := by unfold orV; split <;> omega
theorem ordV_lt (x y : Int × Int) : ltOf ordV x y = decide (ltI x y) := by
  unfold ltOf
  rw [decide_eq_decide]
  exact ordV_neg
theorem ordV_swo : SWO (ltOf ordV) where
  irrefl x := by rw [ordV_lt]; simpa using ltI_irrefl x
  trans x y z h1 h2 := by
    rw [ordV_lt] at *
    simp only [decide_eq_true_eq] at *
    exact ltI_trans h1 h2
  ntrans x y z h1 h2 := by
    rw [ordV_lt] at *
    simp only [decide_eq_false_iff_not] at *
    unfold ltI at *
    omega
theorem flat_at {L : Items} {j : Nat} (hj : j < L.length * 2) : (flatI L)[j]? = some (encR2 L[j / 2]!)[j % 2]! := by
  obtain ⟨h0, h1⟩ := flatI_at (at_get (L := L) (i := j / 2) (by omega))
  rcases Nat.mod_two_eq_zero_or_one j with e | e
  · rw [e]; rw [show j / 2 * 2 = j by omega] at h0; exact h0
  · rw [e]; rw [show j / 2 * 2 + 1 = j by omega] at h1; exact h1
theorem own_holds2 {w : World} {base g cap : Nat} {L : Items} (h : w.ownsRow base 173 2 (.slice (some ⟨g, 0, none⟩) L.length cap) L.length (flatI L)) : HoldsK encR2 2 w g 0 L.toArray := by
  intro j hj
  simp only [size_flatK, List.size_toArray] at hj
  rw [Nat.zero_add]
  refine ⟨?_, h.frozenAt j⟩
  rw [h.cellAt j hj, flat_at hj, get_flatK _ _ _ _ (by simp only [List.size_toArray]; omega)]
  have : L.toArray[j / 2]! = L[j / 2]! := by
    rw [getElem!_pos L.toArray _ (by simp; omega), getElem!_pos L _ (by omega)]
    simp
  rw [this]
  rfl
/-- what a call hands back: items in a new row -/
def RowI (w : World) (base : Nat) (v : Value) (S : Items) : Prop := ∃ a cap, v = .slice a S.length cap ∧ (S = [] ∨ ∃ g, a = some ⟨g, 0, none⟩ ∧ base ≤ g ∧ ∀ k, k < S.length → (w.cell? ⟨g, k * 2, none⟩ = some (.int .i64 S[k]!.1) ∧ w.cell? ⟨g, k * 2 + 1, none⟩ = some (.int .u64 S[k]!.2)) ∧ w.frozen? ⟨g, k * 2, none⟩ = false ∧ w.frozen? ⟨g, k * 2 + 1, none⟩ = false)
theorem holds_row {w : World} {g cap base : Nat} {S : Items} (h : HoldsK encR2 2 w g 0 S.toArray) (hb : base ≤ g) : RowI w base (.slice (some ⟨g, 0, none⟩) S.length cap) S := by
  refine ⟨_, cap, rfl, Or.inr ⟨g, rfl, hb, fun k hk => ?_⟩⟩
  have hd : S.toArray[k]! = S[k]! := by
    rw [getElem!_pos S.toArray k (by simpa using hk), getElem!_pos S k hk]
    simp
  have key : ∀ j, j < 2 → w.cell? ⟨g, k * 2 + j, none⟩ = some (encR2 S[k]!)[j]! ∧ w.frozen? ⟨g, k * 2 + j, none⟩ = false := by
    intro j hj
    have h1 := h (k * 2 + j) (by simp only [size_flatK, List.size_toArray]; omega)
    rw [Nat.zero_add] at h1
    refine ⟨?_, h1.2⟩
    rw [h1.1, get_flatK _ _ _ _ (by simp only [List.size_toArray]; omega), show (k * 2 + j) / 2 = k by omega, show (k * 2 + j) % 2 = j by omega, hd]
    rfl
  exact ⟨⟨(key 0 (by omega)).1, (key 1 (by omega)).1⟩, (key 0 (by omega)).2, (key 1 (by omega)).2⟩
theorem RowI.later {w w' : World} {base : Nat} {v : Value} {S : Items} (h : RowI w base v S) (hb : Below w.heap.size w w') : RowI w' base v S := by
  obtain ⟨a, cap, rfl, h⟩ := h
  refine ⟨a, cap, rfl, ?_⟩
  rcases h with h | ⟨g, rfl, hg, hc⟩
  · exact Or.inl h
  · refine Or.inr ⟨g, rfl, hg, fun k hk => ?_⟩
    obtain ⟨⟨q1, q2⟩, q3, q4⟩ := hc k hk
    exact ⟨⟨cell_later hb q1, cell_later hb q2⟩, (hb.frozen (p := ⟨g, k * 2, none⟩) (lt_of_cell q1)).trans q3, (hb.frozen (p := ⟨g, k * 2 + 1, none⟩) (lt_of_cell q2)).trans q4⟩
def SortP (g cap : Nat) (S : Items) (w : World) (e : Ending) (w' : World) : Prop :=
  e = .returned (.tuple #[]) ∧ RowI w' g (.slice (some ⟨g, 0, none⟩) S.length cap) S ∧ Kept [g] w w'
theorem sorted_order {d : Items} (hs : d.Pairwise fun x y => ltOf ordV y x = false) (hn : d.Nodup) : InOrder d := by
  have h := List.Pairwise.and hs hn
  refine h.imp fun ⟨h1, h2⟩ => ?_
  rw [ordV_lt] at h1
  simp only [decide_eq_false_iff_not] at h1
  exact ltI_total' (Ne.symm h2) h1
theorem Sort_any (g cap base : Nat) (L S : Items) (w : World) (h : w.ownsRow base 173 2 (.slice (some ⟨g, 0, none⟩) L.length cap) L.length (flatI L)) (hp : S.Perm L) (ho : InOrder S) (hl : L.length < 4611686018427387904) :
    Calls Tryz.prog 130 #[.slice (some ⟨g, 0, none⟩) L.length cap, .func (.func 124) #[] #[]] w (SortP g cap S w) := by
  have eg : ∀ args w, (callFunc 124 args).run Tryz.prog w = .ok (.enter 124 args) w := enters_of Tryz.func124 (by kernel_rfl) rfl
  have hg : g < w.heap.size := (h.lt g rfl).2
  have hH := own_holds2 h
  have hcon := AnyQ.slices_SortFunc YtfgmglghlapbcaaGreat.sortRun 2 isAggItem sizeOfItem encR2 (fun _ => rfl) (fun x v hv => by simp [encR2] at hv; rcases hv with rfl | rfl <;> rfl) ordV ordV_swo 124 #[] g 0 cap L.toArray w eg
    (fun m os dk hs x y => order_any x.1 x.2 y.1 y.2 _) hH hg (by simpa using hl)
  change Calls Tryz.prog 130 _ _ _ at hcon
  refine hcon.mono ?_
  rintro e w' ⟨rfl, d', n, os, hp', hs, rfl⟩
  have hpd : d'.toList.Perm L := by have := perm_of _ _ hp'; simpa using this
  have hS : d'.toList = S := by
    refine order_unique (sorted_order (sorted_of _ _ _ hp'.1.symm hs) ?_) ho (hpd.trans hp.symm)
    exact (hpd.trans hp.symm).nodup_iff.2 (order_apart ho)
  have hH' := holdsK_sortWorldK encR2 2 w g 0 n L.toArray d' os hg hH hp'.1
  refine ⟨rfl, ?_, sortWorldK_kept _ _ _ _ _ _ _ _⟩
  have e : d' = S.toArray := by rw [← hS]
  rw [e] at hH' ⊢
  exact holds_row hH' (Nat.le_refl _)
def AllP (w : World) (S : Items) (e : Ending) (w' : World) : Prop := ∃ v, e = .returned v ∧ RowI w' w.heap.size v S ∧ Below w.heap.size w w'
set_option maxHeartbeats 1000000 in
theorem Collect_at (Bs : Nat) (sv : Value) (L : Items) (hlen : L.length ≤ 1000000) (w : World) (hc : w.cell? ⟨Bs, 0, none⟩ = some sv) (hI : ItemsAt w sv L) (hlt : ∀ b off cap, sv = .slice (some ⟨b, off, none⟩) L.length cap → b < w.heap.size) :
    Calls Tryz.prog 129 #[.func (.func 131) #[] #[.pointer (some ⟨Bs, 0, none⟩)]] w (ColP w L) := by
  have A1 := Lib.hid (AppendSeq_at Bs sv L hlen w hc hI hlt)
  clear hc hI hlt
  go_enter Tryz.func129, Tryz.ntmps129
  go_wp2_with fail
  refine A1.out.mono ?_
  rintro e w5 ⟨v, rfl, ho, hb⟩
  have HO := Lib.hid ho
  have HB := Lib.hid hb
  clear ho hb
  go_wp2_with fail
  go_ret
  exact ⟨v, rfl, HO.out, HB.out⟩
set_option maxHeartbeats 1000000 in
theorem SortedFunc_at (Bs : Nat) (sv : Value) (L S : Items) (h0 : 0 < L.length) (hlen : L.length ≤ 1000000) (w : World) (hc : w.cell? ⟨Bs, 0, none⟩ = some sv) (hI : ItemsAt w sv L) (hlt : ∀ b off cap, sv = .slice (some ⟨b, off, none⟩) L.length cap → b < w.heap.size) (hp : S.Perm L) (ho : InOrder S) :
    Calls Tryz.prog 122 #[.func (.func 131) #[] #[.pointer (some ⟨Bs, 0, none⟩)], .func (.func 124) #[] #[]] w (AllP w S) := by
  have A1 := Lib.hid (Collect_at Bs sv L hlen w hc hI hlt)
  have HP := Lib.hid hp
  have HO := Lib.hid ho
  clear hc hI hlt hp ho
  go_enter Tryz.func122, Tryz.ntmps122
  go_wp2_with fail
  refine A1.out.mono ?_
  rintro e w5 ⟨v, rfl, hown, hb⟩
  obtain ⟨m, hm⟩ : ∃ m, L.length = m + 1 := ⟨L.length - 1, by omega⟩
  have hown' := hown
  rw [hm] at hown'
  obtain ⟨g, cap, rfl⟩ := own_some hown'
  rw [← hm] at hown ⊢
  have hgl := hown.lt g rfl
  have A2 := Lib.hid (Sort_any g cap _ L S w5 hown HP.out HO.out (by omega))
  have HB := Lib.hid hb
  have HGL := Lib.hid hgl
  have HM := Lib.hid hm
  clear hown hown' hb hgl hm
  go_wp2_with fail
  refine A2.out.mono ?_
  rintro e w7 ⟨rfl, hr, hk⟩
  have HR := Lib.hid hr
  have HK := Lib.hid hk
  clear hr hk
  go_wp2_with fail
  go_ret
  refine ⟨_, rfl, ?_, Kept.stepB HB.out (Nat.le_refl _) HK.out (by simp; exact HGL.out.1)⟩
  obtain ⟨a, c, e, h⟩ := HR.out
  rw [HP.out.length_eq] at e
  refine ⟨a, c, by rw [HP.out.length_eq]; exact e, ?_⟩
  rcases h with h | ⟨g', ea, hg', hc⟩
  · exact Or.inl h
  · exact Or.inr ⟨g', ea, Nat.le_trans HGL.out.1 hg', hc⟩
set_option maxRecDepth 100000 in
set_option maxHeartbeats 1000000 in
theorem All_at {p : Nat} {F : List Nat} {n : Int} {S : Items} (w : World) (h : HeapIn w p F n S) :
    Calls Tryz.prog 111 #[.pointer (some ⟨p, 0, none⟩)] w (AllP w S) := by
  have A1 := Lib.hid (LenH_at w h)
  have hI := h.ids
  by_cases h0 : S.length = 0
  · have hz : ((S.length : Int) == 0) = true := by simp [h0]
    have hS := Lib.hid (List.eq_nil_of_length_eq_zero h0)
    clear h hI h0
    go_enter Tryz.func111, Tryz.ntmps111
    go_wp2_with fail
    refine A1.out.mono ?_; rintro e w5 ⟨rfl, rfl⟩
    go_wp2_with fail
    go_ret
    exact ⟨_, rfl, ⟨none, 0, by rw [hS.out]; rfl, Or.inl hS.out⟩, Below.refl _ _⟩
  · have hz : ((S.length : Int) == 0) = false := by simp; intro e; rw [e] at h0; exact h0 rfl
    obtain ⟨a, cap, bm, V, f, hg, rfl, hp, ho⟩ := h
    have hl := hp.length_eq
    obtain ⟨g, rfl⟩ := hg.raw.row (by omega)
    have c0 := hg.raw.c0
    unfold rowV at c0
    simp only [Option.map_some] at c0
    have hgl := hg.raw.glt rfl
    have hit : ItemsAt w (.slice (some ⟨g, 0, none⟩) V.length cap) V := ⟨_, cap, rfl, Or.inr ⟨g, 0, rfl, fun k hk => by simpa using hg.raw.item hk⟩⟩
    have A2 := Lib.hid (values_at (some ⟨g, 0, none⟩) V.length cap w)
    have hB1 : Below w.heap.size w (w.alloc (.cells #[.slice (some ⟨g, 0, none⟩) V.length cap] 177)) := below_a _ _
    have A3 := Lib.hid (SortedFunc_at w.heap.size (.slice (some ⟨g, 0, none⟩) V.length cap) V S (by omega) (by have := hI.2.2.2.2.1; have := hI.2.2.2.2.2; omega) (w.alloc (.cells #[.slice (some ⟨g, 0, none⟩) V.length cap] 177))
      (cell_nw _ _ _ 0 _ rfl) (hit.below hB1 (fun b off cap e => by cases e; exact hgl)) (fun b off cap e => by cases e; simp; omega) hp ho)
    clear hg hp ho hI hl hgl hit h0 hB1
    go_enter Tryz.func111, Tryz.ntmps111
    go_wp2_with fail
    refine A1.out.mono ?_; rintro e w5 ⟨rfl, rfl⟩
    go_wp2_with fail
    refine A2.out.mono ?_; rintro e w5 ⟨rfl, rfl⟩
    go_wp2_with fail
    refine A3.out.mono ?_
    rintro e w7 ⟨v, rfl, hr, hb⟩
    have HR := Lib.hid hr
    have HB := Lib.hid hb
    clear hr hb
    go_wp2_with fail
    go_ret
    refine ⟨v, rfl, ?_, Below.step (below_a _ _) HB.out⟩
    obtain ⟨a, c, e, h⟩ := HR.out
    refine ⟨a, c, e, ?_⟩
    rcases h with h | ⟨g', ea, hg', hc⟩
    · exact Or.inl h
    · exact Or.inr ⟨g', ea, Nat.le_trans (by simp) hg', hc⟩
end Go.Proofs.YtfgmglghlapbcaaGreat
namespace Go.Proofs.YtfgmglghlapbcaaGreat
open Go.RowKit Go.Maps Go.IntWalk Go.Lib
set_option linter.unusedVariables false
theorem New_in (n : Int) (w : World) (h0 : 1 ≤ n) (h1 : n ≤ 131072) : Calls Tryz.prog 93 #[.int .i64 n] w fun e w' => e = .returned (.tuple #[.pointer (some ⟨w.heap.size + 1, 0, none⟩), .int .i64 0]) ∧ HeapIn w' (w.heap.size + 1) [w.heap.size + 1, w.heap.size] n [] ∧ Below w.heap.size w w' := by
  refine (New_raw n w h0 h1).mono ?_
  rintro e w' ⟨rfl, hr, hb⟩
  refine ⟨rfl, ⟨none, 0, w.heap.size, [], fun _ => none, ⟨hr, fun i _ h => by simp at h, fun i j h => by simp at h, fun id q => ?_⟩, rfl, List.Perm.refl _, List.Pairwise.nil⟩, hb⟩
  constructor
  · intro h; cases h
  · rintro ⟨j, h, _⟩; simp at h
theorem ItemsAt.later {w w' : World} {v : Value} {L : Items} (h : ItemsAt w v L) (hb : Below w.heap.size w w') : ItemsAt w' v L := by
  obtain ⟨a, cap, rfl, h⟩ := h
  refine ⟨a, cap, rfl, ?_⟩
  rcases h with h | ⟨b, off, rfl, hc⟩
  · exact Or.inl h
  · exact Or.inr ⟨b, off, rfl, fun k hk => ⟨cell_later hb (hc k hk).1, cell_later hb (hc k hk).2⟩⟩
theorem RowI.items {w : World} {base : Nat} {v : Value} {S : Items} (h : RowI w base v S) : ItemsAt w v S := by
  obtain ⟨a, cap, rfl, h⟩ := h
  refine ⟨a, cap, rfl, ?_⟩
  rcases h with h | ⟨g, rfl, _, hc⟩
  · exact Or.inl h
  · exact Or.inr ⟨g, 0, rfl, fun k hk => by simpa using (hc k hk).1⟩
theorem own_items {w : World} {base : Nat} {e : TypeId} {v : Value} {S : Items} (h : w.ownsRow base e 2 v S.length (flatI S)) : ItemsAt w v S := by
  rcases h.2 with ⟨rfl, h0⟩ | ⟨g, cap, cur, rfl, _⟩
  · exact ⟨none, 0, by rw [h0], Or.inl (List.eq_nil_of_length_eq_zero h0)⟩
  · refine ⟨_, cap, rfl, Or.inr ⟨g, 0, rfl, fun k hk => ?_⟩⟩
    have e := flatI_at (at_get hk)
    rw [Nat.zero_add]
    exact ⟨(h.cellAt (k * 2) (by omega)).trans e.1, (h.cellAt (k * 2 + 1) (by omega)).trans e.2⟩
/-- from one world to another: the heap's blocks and new ones alone change -/
structure Step (F : List Nat) (w : World) (F' : List Nat) (w' : World) : Prop where
  kept : Kept F w w'
  new : ∀ b ∈ F', b ∈ F ∨ w.heap.size ≤ b
theorem Step.cell {F F' : List Nat} {w w' : World} (h : Step F w F' w') {b o : Nat} {v : Value} (hb : b ∉ F) (hc : w.cell? ⟨b, o, none⟩ = some v) : w'.cell? ⟨b, o, none⟩ = some v := h.kept.cellAt hc hb
theorem Step.off {F F' : List Nat} {w w' : World} (h : Step F w F' w') {b : Nat} (hb : b ∉ F) (hl : b < w.heap.size) : b ∉ F' := fun m => by
  rcases h.new b m with q | q
  · exact hb q
  · omega
theorem Step.of {F : List Nat} {w w' : World} (h : Below w.heap.size w w') : Step F w F w' := ⟨Kept.of h, fun b hb => Or.inl hb⟩
theorem Step.trans {F F' F2 : List Nat} {a b c : World} (h : Step F a F' b) (k : Step F' b F2 c) : Step F a F2 c := by
  refine ⟨⟨k.kept.os.trans h.kept.os, k.kept.tape.trans h.kept.tape, k.kept.output.trans h.kept.output, Nat.le_trans h.kept.size k.kept.size, fun i hi hn => ?_⟩, fun x hx => ?_⟩
  · rw [k.kept.block i (Nat.lt_of_lt_of_le hi h.kept.size) (h.off hn hi)]
    exact h.kept.block i hi hn
  · rcases k.new x hx with q | q
    · exact h.new x q
    · exact Or.inr (Nat.le_trans h.kept.size q)
theorem Step.below {F F' : List Nat} {w w' : World} {B : Nat} (h : Step F w F' w') (hF : ∀ b ∈ F, B ≤ b) (hB : B ≤ w.heap.size) : Below B w w' ∧ ∀ b ∈ F', B ≤ b := ⟨h.kept.below hF hB, fun b hb => by rcases h.new b hb with q | q; exact hF b q; omega⟩
theorem After.split {w w' : World} {p : Nat} {F : List Nat} {n : Int} {S : Items} (h : After w p F n S w') : ∃ F', HeapIn w' p F' n S ∧ Step F w F' w' := by
  obtain ⟨F', h1, h2, h3⟩ := h
  exact ⟨F', h1, h2, h3⟩
/-- items in memory that no heap's block holds -/
def Held (F : List Nat) (w : World) (v : Value) (S : Items) : Prop := ∃ a cap, v = .slice a S.length cap ∧ (S = [] ∨ ∃ b off, a = some ⟨b, off, none⟩ ∧ b ∉ F ∧ ∀ k, k < S.length → w.cell? ⟨b, off + k * 2, none⟩ = some (.int .i64 S[k]!.1) ∧ w.cell? ⟨b, off + k * 2 + 1, none⟩ = some (.int .u64 S[k]!.2))
theorem Held.items {F : List Nat} {w : World} {v : Value} {S : Items} (h : Held F w v S) : ItemsAt w v S := by
  obtain ⟨a, cap, e, h⟩ := h
  exact ⟨a, cap, e, h.imp id fun ⟨b, off, h1, _, h2⟩ => ⟨b, off, h1, h2⟩⟩
theorem Held.step {F F' : List Nat} {w w' : World} {v : Value} {S : Items} (h : Held F w v S) (hs : Step F w F' w') : Held F' w' v S := by
  obtain ⟨a, cap, e, h⟩ := h
  refine ⟨a, cap, e, ?_⟩
  rcases h with h | ⟨b, off, h1, hb, h2⟩
  · exact Or.inl h
  · by_cases h0 : S.length = 0
    · exact Or.inl (List.eq_nil_of_length_eq_zero h0)
    · have hl := lt_of_cell (h2 0 (by omega)).1
      exact Or.inr ⟨b, off, h1, hs.off hb hl, fun k hk => ⟨hs.cell hb (h2 k hk).1, hs.cell hb (h2 k hk).2⟩⟩
theorem RowI.held {F : List Nat} {w : World} {base : Nat} {v : Value} {S : Items} (h : RowI w base v S) (hF : ∀ b ∈ F, b < base) : Held F w v S := by
  obtain ⟨a, cap, rfl, h⟩ := h
  refine ⟨a, cap, rfl, ?_⟩
  rcases h with h | ⟨g, rfl, hg, hc⟩
  · exact Or.inl h
  · exact Or.inr ⟨g, 0, rfl, fun m => by have := hF g m; omega, fun k hk => by simpa using (hc k hk).1⟩
end Go.Proofs.YtfgmglghlapbcaaGreat
