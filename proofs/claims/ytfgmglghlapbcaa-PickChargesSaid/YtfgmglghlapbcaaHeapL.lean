/-
  Layer 18 (heap): New, Len, lay.
-/
import Derived.Test.YtfgmglghlapbcaaHeapS
namespace Go.Proofs.Ytfgmglghlapbcaa
open Go.RowKit Go.Maps Go.IntWalk Go.Lib Go.Sort
set_option linter.unusedVariables false
theorem Raw.made (w : World) {n : Int} (h0 : 1 ≤ n) (h1 : n ≤ 131072) : Raw ((w.alloc (.map #[] 0)).alloc (.cells #[.slice none 0 0, .map (some w.heap.size), .int .i64 n] 118)) (w.heap.size + 1) none 0 w.heap.size n [] (fun _ => none) 0 := by
  have e : (w.alloc (.map #[] 0)).heap.size = w.heap.size + 1 := by simp
  refine ⟨?_, ?_, ?_, fun j => ?_, World.ownsRow_nil _ _ _ _, fun g h => (by cases h), by omega, (MapF.made w).below (below_a _ _), fun x hx => (by cases hx), h1, h0⟩
  · rw [← e]; exact cell_nw _ _ _ 0 _ rfl
  · rw [← e]; exact cell_nw _ _ _ 1 _ rfl
  · rw [← e]; exact cell_nw _ _ _ 2 _ rfl
  · rw [← e, World.frozen?_alloc_new]
def NewC (n : Int) : Int := if 1 ≤ n ∧ n ≤ 131072 then 0 else 2
set_option maxRecDepth 100000 in
set_option maxHeartbeats 400000 in
theorem New_bad (n : Int) (w : World) (hn : ¬ (1 ≤ n ∧ n ≤ 131072)) : Calls Try.prog 46 #[.int .i64 n] w fun e w' => e = .returned (.tuple #[.pointer none, .int .i64 2]) ∧ w = w' := by
  by_cases h1 : n < 1
  · go_enter Try.func46, Try.ntmps46
    go_wp2
    go_ret2
    exact ⟨rfl, rfl⟩
  · have h2 : 131072 < n := by omega
    clear hn
    go_enter Try.func46, Try.ntmps46
    go_wp2
    go_ret2
    exact ⟨rfl, rfl⟩
set_option maxRecDepth 100000 in
set_option maxHeartbeats 400000 in
theorem New_raw (n : Int) (w : World) (h0 : 1 ≤ n) (h1 : n ≤ 131072) : Calls Try.prog 46 #[.int .i64 n] w fun e w' => e = .returned (.tuple #[.pointer (some ⟨w.heap.size + 1, 0, none⟩), .int .i64 0]) ∧ Raw w' (w.heap.size + 1) none 0 w.heap.size n [] (fun _ => none) 0 ∧ Below w.heap.size w w' := by
  have hmm := @run_makeMap Try.prog
  have HM := Lib.hid (Raw.made w h0 h1)
  have a1 : ¬ n < 1 := by omega
  have a2 : ¬ 131072 < n := by omega
  go_enter Try.func46, Try.ntmps46
  go_wp2
  go_ret2
  exact ⟨rfl, HM.out, Below.allocS (Below.allocS (Below.refl _ _) _) _⟩
/-- what lay leaves -/
theorem Raw.stored {w : World} {p g cap bm : Nat} {n : Int} {L : Items} {f : Int → Option Int} {c : Nat} (h : Raw w p (some g) cap bm n L f c) {k : Nat} (hk : k < L.length) {x : Int × Int} (hx : (0 ≤ x.1 ∧ x.1 < n) ∧ 0 ≤ x.2 ∧ x.2 ≤ 18446744073709551615) :
    Raw ((w.setCell ⟨g, k * 2, none⟩ (.int .i64 x.1)).setCell ⟨g, k * 2 + 1, none⟩ (.int .u64 x.2)) p (some g) cap bm n (L.set k x) f c := by
  obtain ⟨n1, n2⟩ := h.na g rfl
  have o := h.own
  change w.ownsRow (max p bm + 1) 122 2 (.slice (some ⟨g, 0, none⟩) L.length cap) L.length (flatI L) at o
  obtain ⟨o1, _⟩ := o.stored (k * 2) (.int .i64 x.1)
  obtain ⟨o2, _⟩ := o1.stored (k * 2 + 1) (.int .u64 x.2)
  have hl : (L.set k x).length = L.length := by simp
  refine ⟨?_, cell_set_ne (cell_set_ne h.c1 (Or.inl (Ne.symm n1))) (Or.inl (Ne.symm n1)), cell_set_ne (cell_set_ne h.c2 (Or.inl (Ne.symm n1))) (Or.inl (Ne.symm n1)), fun j => by rw [World.frozen?_setCell, World.frozen?_setCell]; exact h.fp j, ?_, h.na, h.pb, (h.map.setCell (Ne.symm n2) _).setCell (Ne.symm n2) _, fun y hy => ?_, h.small, h.pos⟩
  · rw [hl]; exact cell_set_ne (cell_set_ne h.c0 (Or.inl (Ne.symm n1))) (Or.inl (Ne.symm n1))
  · rw [hl, flatI_set hk]; exact o2
  · rcases List.mem_or_eq_of_mem_set hy with q | rfl
    · exact h.fits y q
    · exact hx
theorem Raw.mapped {w w' : World} {p : Nat} {a : Option Nat} {cap bm : Nat} {n : Int} {L : Items} {f f' : Int → Option Int} {c c' : Nat} (h : Raw w p a cap bm n L f c) (hg : w.grownBy w' (some bm)) (hm : MapF w' bm f' c') : Raw w' p a cap bm n L f' c' := by
  have e : w'.heap[p]? = w.heap[p]? := hg.block _ h.plt (by simpa using h.pb)
  have o : ∀ g, a = some g → w'.heap[g]? = w.heap[g]? := fun g q => hg.block _ (h.glt q) (by simpa using (h.na g q).2)
  have c : ∀ j, w'.cell? ⟨p, j, none⟩ = w.cell? ⟨p, j, none⟩ := fun j => World.cell?_of_block (a := ⟨p, j, none⟩) e
  refine ⟨(c 0).trans h.c0, (c 1).trans h.c1, (c 2).trans h.c2, fun j => (World.frozen?_of_block (a := ⟨p, j, none⟩) e).trans (h.fp j), h.own.kept hg ?_, h.na, h.pb, hm, h.fits, h.small, h.pos⟩
  cases a with
  | none => exact Or.inl rfl
  | some g => exact Or.inr (by simpa [rowV, Value.ownBlock] using (h.na g rfl).2)
set_option maxRecDepth 100000 in
set_option maxHeartbeats 1000000 in
theorem lay_at {p g cap bm : Nat} {n : Int} {L : Items} {f : Int → Option Int} {c : Nat} (k : Nat) (x y : Int) (w : World) (h : Raw w p (some g) cap bm n L f c) (hk : k < L.length) (hx : (0 ≤ x ∧ x < n) ∧ 0 ≤ y ∧ y ≤ 18446744073709551615) (hL : L.length ≤ 131072) (hc : c ≤ 131072) :
    Calls Try.prog 79 #[.pointer (some ⟨p, 0, none⟩), .int .i64 k, .agg #[.int .i64 x, .int .u64 y]] w fun e w' => e = .returned (.tuple #[]) ∧ Raw w' p (some g) cap bm n (L.set k (x, y)) (setF f x (some (k : Int))) (putC (f x) c) ∧ Kept [p, bm, g] w w' := by
  have hb := h.below (below_a w (.cells #[.int .i64 x, .int .u64 y] 122))
  have z0 : (w.alloc (.cells #[.int .i64 x, .int .u64 y] 122)).cell? ⟨w.heap.size, 0, none⟩ = some (.int .i64 x) := cell_nw w #[.int .i64 x, .int .u64 y] 122 0 _ rfl
  have z1 : (w.alloc (.cells #[.int .i64 x, .int .u64 y] 122)).cell? ⟨w.heap.size, 1, none⟩ = some (.int .u64 y) := cell_nw w #[.int .i64 x, .int .u64 y] 122 1 _ rfl
  have hgw := h.glt rfl
  have hsm := h.small
  have hk0 := (Kept.refl [p, bm, g] w).alloc (.cells #[.int .i64 x, .int .u64 y] 122)
  go_enter Try.func79, Try.ntmps79
  go_wp2_with fail
  generalize hW : w.alloc (.cells #[.int .i64 x, .int .u64 y] 122) = wo at *
  have c0 := hb.c0
  unfold rowV at c0
  simp only [Option.map_some] at c0
  have i0 := (hb.item hk).1
  have i1 := (hb.item hk).2
  have fg0 := hb.fg (k * 2)
  have fg1 := hb.fg (k * 2 + 1)
  have hS := hb.stored hk (x := (x, y)) hx
  have ne : w.heap.size ≠ g := by omega
  have i1' := cell_set_ne (b' := g) (o' := k * 2) (u := .int .i64 x) i1 (Or.inr (by omega))
  have fg1' : (wo.setCell ⟨g, k * 2, none⟩ (.int .i64 x)).frozen? ⟨g, k * 2 + 1, none⟩ = false := by rw [World.frozen?_setCell]; exact fg1
  have z0' := cell_set_ne (b' := g) (o' := k * 2 + 1) (u := .int .u64 y) (cell_set_ne (b' := g) (o' := k * 2) (u := .int .i64 x) z0 (Or.inl ne)) (Or.inl ne)
  have hk1 := (hk0.setCell (p := ⟨g, k * 2, none⟩) (Or.inl (by simp)) (.int .i64 x)).setCell (p := ⟨g, k * 2 + 1, none⟩) (Or.inl (by simp)) (.int .u64 y)
  have hkl : (k : Int) < (L.length : Int) := by omega
  have hk0' : (0 : Int) ≤ (k : Int) := by omega
  have H := Lib.hid h
  have HS := Lib.hid (show Raw ((wo.setCell ⟨g, k * 2, none⟩ (.int .i64 x)).setCell ⟨g, k * 2 + 1, none⟩ (.int .u64 y)).drew p (some g) cap bm n (L.set k (x, y)) f c from hS.of_heap rfl rfl fun _ _ => rfl)
  have HK1 := Lib.hid hk1.drew
  replace z0' := cell_dr z0'
  have HX := Lib.hid hx
  clear h hb hS hk0 hk1 hx hW
  go_region
  clear c0 i0 i1 fg0 fg1 i1' fg1' z0 z1
  generalize hwS : ((wo.setCell ⟨g, k * 2, none⟩ (.int .i64 x)).setCell ⟨g, k * 2 + 1, none⟩ (.int .u64 y)).drew = wS at *
  clear hwS
  have hS := HS.out
  have hxx := HX.out
  have hm : MapF wS.drew bm f c := hS.map.of_heap rfl
  obtain ⟨w3, hrun, hM, hg⟩ := hm.put (by unfold maxLen; omega) (WalkArith.wf_i64 (n := x) (by omega)) (WalkArith.wf_i64 (n := (k : Int)) (by omega))
  have hg' : wS.grownBy w3 (some bm) := ⟨hg.os, hg.tape, hg.output, hg.size, hg.block⟩
  have HR := Lib.hid (hS.mapped hg' hM)
  have HK := Lib.hid (HK1.out.grown hg' (fun q e => by cases e; exact Or.inl (by simp)))
  have c1 := hS.c1
  clear hS hxx hm hM hg hg'
  go_wp2_with fail
  go_region
  clear hrun c1 z0'
  go_wp2_with fail
  go_end0
  exact ⟨rfl, HR.out, HK.out⟩
end Go.Proofs.Ytfgmglghlapbcaa
