/-
  Frames: all blocks but some are as they were.
-/
import Derived.Test.YtfgmglghlapbcaaKit
namespace Go.Proofs.Ytfgmglghlapbcaa
open Go.RowKit
set_option linter.unusedVariables false
/-- all old blocks but those of S are as they were -/
structure Kept (S : List Nat) (w w' : World) : Prop where
  os : w'.os = w.os
  tape : w'.tape = w.tape
  output : w'.output = w.output
  size : w.heap.size ≤ w'.heap.size
  block : ∀ k, k < w.heap.size → k ∉ S → w'.heap[k]? = w.heap[k]?
theorem Kept.refl (S : List Nat) (w : World) : Kept S w w := ⟨rfl, rfl, rfl, Nat.le_refl _, fun _ _ _ => rfl⟩
theorem Kept.trans {S : List Nat} {a b c : World} (h : Kept S a b) (k : Kept S b c) : Kept S a c :=
  ⟨k.os.trans h.os, k.tape.trans h.tape, k.output.trans h.output, Nat.le_trans h.size k.size, fun i hi hn => (k.block i (Nat.lt_of_lt_of_le hi h.size) hn).trans (h.block i hi hn)⟩
theorem Kept.mono {S T : List Nat} {a b : World} (h : Kept S a b) (hs : ∀ k ∈ S, k ∈ T) : Kept T a b := ⟨h.os, h.tape, h.output, h.size, fun i hi hn => h.block i hi (fun m => hn (hs i m))⟩
theorem Kept.of {S : List Nat} {w w' : World} (h : Below w.heap.size w w') : Kept S w w' := ⟨h.os, h.tape, h.output, h.size, fun k hk _ => h.block k hk⟩
theorem Kept.step {S : List Nat} {a w w' : World} (h : Kept S a w) (hb : Below w.heap.size w w') : Kept S a w' := h.trans (Kept.of hb)
theorem Kept.setCell {S : List Nat} {a w : World} (h : Kept S a w) {p : Addr} (hp : p.block ∈ S ∨ a.heap.size ≤ p.block) (u : Value) : Kept S a (w.setCell p u) :=
  ⟨h.os, h.tape, h.output, by have := h.size; simp [World.setCell]; omega, fun k hk hn => by
    rw [Below.heap_setCell _ _ _ _ (by rcases hp with hp | hp; exact fun e => hn (e ▸ hp); omega)]; exact h.block k hk hn⟩
theorem Kept.alloc {S : List Nat} {a w : World} (h : Kept S a w) (o : Obj) : Kept S a (w.alloc o) := h.trans (Kept.of (Below.allocS (Below.refl _ _) o))
theorem Kept.drew {S : List Nat} {a w : World} (h : Kept S a w) : Kept S a w.drew := ⟨h.os, h.tape, h.output, h.size, h.block⟩
theorem Kept.grown {S : List Nat} {a w w' : World} {row : Option Nat} (h : Kept S a w) (hg : w.grownBy w' row) (hr : ∀ k, row = some k → k ∈ S ∨ a.heap.size ≤ k) : Kept S a w' :=
  ⟨hg.os.trans h.os, hg.tape.trans h.tape, hg.output.trans h.output, Nat.le_trans h.size hg.size, fun k hk hn => (hg.block k (Nat.lt_of_lt_of_le hk h.size) (fun e => by rcases hr k e.symm with q | q; exact hn q; omega)).trans (h.block k hk hn)⟩
theorem Kept.below {S : List Nat} {B : Nat} {w w' : World} (h : Kept S w w') (hS : ∀ k ∈ S, B ≤ k) (hB : B ≤ w.heap.size) : Below B w w' :=
  ⟨h.os, h.tape, h.output, h.size, fun k hk => h.block k (by omega) (fun m => by have := hS k m; omega)⟩
theorem Kept.cell {S : List Nat} {w w' : World} (h : Kept S w w') {b o : Nat} (hb : b < w.heap.size) (hn : b ∉ S) : w'.cell? ⟨b, o, none⟩ = w.cell? ⟨b, o, none⟩ := World.cell?_of_block (w := w) (a := ⟨b, o, none⟩) (h.block b hb hn)
theorem Kept.cellAt {S : List Nat} {w w' : World} (h : Kept S w w') {b o : Nat} {v : Value} (hc : w.cell? ⟨b, o, none⟩ = some v) (hn : b ∉ S) : w'.cell? ⟨b, o, none⟩ = some v := (h.cell (lt_of_cell hc) hn).trans hc
theorem Kept.stepB {S : List Nat} {B : Nat} {a w w' : World} (hB : Below B a w) (hBs : B ≤ a.heap.size) (h : Kept S w w') (hS : ∀ k ∈ S, B ≤ k) : Below B a w' := hB.trans (h.below hS (Nat.le_trans hBs hB.size))
theorem cell_set_ne {w : World} {b o b' o' : Nat} {v u : Value} (h : w.cell? ⟨b, o, none⟩ = some v) (hn : b ≠ b' ∨ o ≠ o') : (w.setCell ⟨b', o', none⟩ u).cell? ⟨b, o, none⟩ = some v := by
  rw [World.cell?_setCell_other]; exact h
  intro e; cases e; rcases hn with q | q <;> exact q rfl
theorem cell_set_eq {w : World} {b o : Nat} {v u : Value} (h : w.cell? ⟨b, o, none⟩ = some v) : (w.setCell ⟨b, o, none⟩ u).cell? ⟨b, o, none⟩ = some u := World.cell?_setCell_same' _ _ _ (by rw [h]; rfl)
theorem heap_set_ne {w : World} {b b' o' : Nat} {u : Value} (hn : b ≠ b') : (w.setCell ⟨b', o', none⟩ u).heap[b]? = w.heap[b]? := Below.heap_setCell _ _ _ _ hn
end Go.Proofs.Ytfgmglghlapbcaa
