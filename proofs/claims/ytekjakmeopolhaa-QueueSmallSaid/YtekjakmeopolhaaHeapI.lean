/-
  Layer 18 (heap): slices.Values and slices.AppendSeq at items.
-/
import Derived.Test.YtekjakmeopolhaaHeapU
import Derived.RangeFuncNested
import Derived.RangeFuncBound
import Derived.RangeFuncCalls
import Derived.RangeFuncLeaves
import Derived.RangeFuncBox
import Derived.Shelf.Abstract
import Derived.Shelf.RegionOpen
import Derived.OwnWalkIn
import Derived.TacticsInMore
import Derived.LoopNIn
import Derived.LoopIn
import Derived.Maps.AppendAt
namespace Go.Proofs.Ytekjakmeopolhaa
open Go.RowKit Go.Maps Go.IntWalk Go.Lib Go.Sort Go.Shelf
set_option linter.unusedVariables false
attribute [local go_sem] Oper.semAt_some
def encI (x : Int × Int) : Value := .agg #[.int .i64 x.1, .int .u64 x.2]
/-- a slice of items in memory -/
def ItemsAt (w : World) (v : Value) (L : Items) : Prop := ∃ a cap, v = .slice a L.length cap ∧ (L = [] ∨ ∃ b off, a = some ⟨b, off, none⟩ ∧ ∀ k, k < L.length → w.cell? ⟨b, off + k * 2, none⟩ = some (.int .i64 L[k]!.1) ∧ w.cell? ⟨b, off + k * 2 + 1, none⟩ = some (.int .u64 L[k]!.2))
theorem take_succ_at {L : Items} {k : Nat} (hk : k < L.length) : L.take (k + 1) = L.take k ++ [L[k]!] := by
  rw [List.take_succ_eq_append_getElem hk, getElem!_pos L k hk]
set_option maxRecDepth 100000 in
set_option maxHeartbeats 2000000 in
theorem values1_in (F : Fence) (n : Nat) (hf : F.fn 76) (hro : F.round = none) (hn : 1 ≤ n) (l Bs n₀ b off len cap : Nat) (L : Items) (hl : L.length = len) (hlen : len ≤ 1000000) (hb : b < n₀) (J Jx : Items → World → Prop)
    (hY : ∀ pre x W, J pre W → pre.length < len → YieldAt F (n - 1) Try.prog l #[encI x] W fun e W' =>
      (e = .returned (.bool true) ∧ J (pre ++ [x]) W' ∧ Below n₀ W W') ∨ (e = .returned (.bool false) ∧ Jx (pre ++ [x]) W'))
    (W : World) (hBs : W.cell? ⟨Bs, 0, none⟩ = some (.slice (some ⟨b, off, none⟩) len cap)) (hc : ∀ k, k < len → W.cell? ⟨b, off + k * 2, none⟩ = some (.int .i64 L[k]!.1) ∧ W.cell? ⟨b, off + k * 2 + 1, none⟩ = some (.int .u64 L[k]!.2)) (hn0 : n₀ ≤ W.heap.size) (hJA : ∀ s A o, J s A → J s (A.alloc o)) (h0 : J [] W) :
    CallsIn F n Try.prog 76 #[.func (.yield l) #[] #[], .pointer (some ⟨Bs, 0, none⟩)] W fun e W' => (∃ v, e = .returned v) ∧
      ((∃ ys, ys = L ∧ J ys W') ∨ (∃ pre, pre <+: L ∧ Jx pre W')) := by
  have HY := Lib.hid hY
  have HC := Lib.hid hc
  have HL := Lib.hid hl
  clear hY hc hl
  refine callsIn_of_wp Try.func76 rfl hf ?_ hro
  simp only [Try.ntmps76, List.size_toArray, List.length_cons, List.length_nil, Nat.reduceAdd, Nat.reduceSub, Array.replicate_succ, Array.replicate_zero, List.push_toArray, List.append_toArray, List.nil_append, List.cons_append]
  gi_wp2
  gi_loopw [7] (fun i wr => ∃ k : Nat, k ≤ len ∧ i = .int .i64 k ∧ J (L.take k) wr ∧ Below n₀ W wr)
    (fun i _ => len - (intOf i).toNat)
  case atStart => exact ⟨0, Nat.zero_le _, rfl, h0, Below.refl _ _⟩
  case round =>
    obtain ⟨k, hk, rfl, hJs, hnx⟩ := hrel
    by_cases hlt : k < len
    · obtain ⟨x, hx⟩ : ∃ x, x = L[k]! := ⟨_, rfl⟩
      obtain ⟨i0, i1⟩ := HC.out k hlt
      rw [← hx] at i0 i1
      have c0 : wr.cell? ⟨b, off + k * 2, none⟩ = some (.int .i64 x.1) := (hnx.cell (p := ⟨b, off + k * 2, none⟩) hb).trans i0
      have c1 : wr.cell? ⟨b, off + k * 2 + 1, none⟩ = some (.int .u64 x.2) := (hnx.cell (p := ⟨b, off + k * 2 + 1, none⟩) hb).trans i1
      have hz0 : (0 : Int) ≤ (k : Int) := by omega
      have hz1 : (k : Int) < (len : Int) := by omega
      have hJ1 : J (L.take k) (wr.alloc (.cells #[.int .i64 x.1, .int .u64 x.2] 90)) := hJA _ _ _ hJs
      have hbw := hnx.size
      have HB1 := Lib.hid (show Below n₀ W (wr.alloc (.cells #[.int .i64 x.1, .int .u64 x.2] 90)) from hnx.alloc (Nat.le_trans hn0 hbw) _)
      obtain ⟨fn, tmps, assign, body, hy, hR⟩ := HY.out _ x _ hJ1 (by rw [List.length_take]; omega)
      dsimp only [encI] at hy
      have HR := Lib.hid hR
      have HX := Lib.hid hx
      clear hJs hJ1 hnx i0 i1 hx hbw hR
      gi_wp2
      refine HR.out.mono ?_
      rintro e W3 (⟨rfl, hJ3, hk3⟩ | ⟨rfl, hJx3⟩)
      · gi_wp2
        go_roundw
        case rel => exact ⟨k + 1, by omega, by simp, by rw [take_succ_at (by rw [HL.out]; exact hlt), ← HX.out]; exact hJ3, HB1.out.trans hk3⟩
        case measure => simp [intOf]; omega
      · gi_wp2
        refine bodyPost_ret (results_none rfl _ _ _) rfl ?_
        exact ⟨⟨_, rfl⟩, .inr ⟨_, by rw [HX.out, ← take_succ_at (by rw [HL.out]; exact hlt)]; exact List.take_prefix _ _, hJx3⟩⟩
    · obtain rfl : k = len := by omega
      gi_wp2
      go_end0
      exact ⟨⟨_, rfl⟩, .inl ⟨_, by rw [← HL.out, List.take_length], hJs⟩⟩
set_option maxRecDepth 100000 in
set_option maxHeartbeats 1000000 in
theorem values1_nil (F : Fence) (n : Nat) (hf : F.fn 76) (hro : F.round = none) (l Bs : Nat) (a : Option Addr) (cap : Nat) (J : Items → World → Prop) (W : World) (hBs : W.cell? ⟨Bs, 0, none⟩ = some (.slice a 0 cap)) (h0 : J [] W) :
    CallsIn F n Try.prog 76 #[.func (.yield l) #[] #[], .pointer (some ⟨Bs, 0, none⟩)] W fun e W' => (∃ v, e = .returned v) ∧ J [] W' := by
  refine callsIn_of_wp Try.func76 rfl hf ?_ hro
  simp only [Try.ntmps76, List.size_toArray, List.length_cons, List.length_nil, Nat.reduceAdd, Nat.reduceSub, Array.replicate_succ, Array.replicate_zero, List.push_toArray, List.append_toArray, List.nil_append, List.cons_append]
  gi_wp2
  gi_loopw [7] (fun i wr => i = .int .i64 0 ∧ J [] wr) (fun _ _ => 0)
  case atStart => exact ⟨rfl, h0⟩
  case round =>
    obtain ⟨rfl, hJs⟩ := hrel
    gi_wp2
    go_end0
    exact ⟨⟨_, rfl⟩, hJs⟩
theorem ItemsAt.below {n₀ : Nat} {A B : World} {v : Value} {L : Items} (h : ItemsAt A v L) (hb : Below n₀ A B) (hl : ∀ b off cap, v = .slice (some ⟨b, off, none⟩) L.length cap → b < n₀) : ItemsAt B v L := by
  obtain ⟨a, cap, rfl, h⟩ := h
  refine ⟨a, cap, rfl, ?_⟩
  rcases h with h | ⟨b, off, rfl, hc⟩
  · exact Or.inl h
  · have hb' := hl b off cap rfl
    exact Or.inr ⟨b, off, rfl, fun k hk => ⟨(hb.cell (p := ⟨b, off + k * 2, none⟩) hb').trans (hc k hk).1, (hb.cell (p := ⟨b, off + k * 2 + 1, none⟩) hb').trans (hc k hk).2⟩⟩
/-- slices.Values at items -/
theorem values_stops (F : Fence) (n : Nat) (hf : F.fn 76) (hro : F.round = none) (hn : 1 ≤ n) (Bs n₀ : Nat) (sv : Value) (L : Items) (hlen : L.length ≤ 1000000) (w : World) (hBs : Bs < w.heap.size) (hn₀ : n₀ ≤ w.heap.size)
    (hc : w.cell? ⟨Bs, 0, none⟩ = some sv) (hI : ItemsAt w sv L) (hl : ∀ b off cap, sv = .slice (some ⟨b, off, none⟩) L.length cap → b < n₀) :
    SeqStopsK F n Try.prog 76 #[.pointer (some ⟨Bs, 0, none⟩)] (fun x : Int × Int => #[encI x]) (Below n₀) (fun ys => ys = L) (fun pre => pre <+: L) L.length w := fun l J Jx W hW hJ _ hY h0 => by
  have hc' := (hW.cell (p := ⟨Bs, 0, none⟩) hBs).trans hc
  obtain ⟨a, cap, rfl, hI'⟩ := hI.below (hW.mono hn₀) hl
  rcases hI' with rfl | ⟨b, off, rfl, hcs⟩
  · exact (values1_nil F n hf hro l Bs a cap J W hc' h0).mono fun e W' ⟨he, hj⟩ => ⟨he, .inl ⟨_, rfl, hj⟩⟩
  · exact values1_in F n hf hro hn l Bs n₀ b off L.length cap L rfl hlen (hl b off cap rfl) J Jx hY W hc' hcs (Nat.le_trans hn₀ hW.size) (fun s A o h => hJ s A _ none h (World.grownBy_alloc A o none) (fun r e => by cases e)) h0
set_option maxHeartbeats 1000000 in
theorem values_at (a : Option Addr) (len cap : Nat) (w : World) :
    Calls Try.prog 68 #[.slice a len cap] w fun e w' => e = .returned (.func (.func 76) #[] #[.pointer (some ⟨w.heap.size, 0, none⟩)]) ∧ w' = w.alloc (.cells #[.slice a len cap] 109) := by
  go_enter Try.func68, Try.ntmps68
  go_wp2
  go_ret
  exact ⟨rfl, rfl⟩
end Go.Proofs.Ytekjakmeopolhaa
