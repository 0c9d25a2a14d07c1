/-
  Layer 18 (heap), law.go: the reference's heap in a variable.
-/
import Derived.Test.YtpbaegdmjmickaaHeapAf
namespace Go.Proofs.Ytpbaegdmjmickaa
open Go.RowKit Go.Maps Go.IntWalk Go.Lib
set_option linter.unusedVariables false
/-- a variable that holds the reference's heap -/
structure RBox (w : World) (b : Nat) (n : Int) (a : Option Addr) (m cap : Nat) : Prop where
  c0 : w.cell? ⟨b, 0, none⟩ = some (.int .i64 n)
  c1 : w.cell? ⟨b, 1, none⟩ = some (.slice a m cap)
  f0 : w.frozen? ⟨b, 0, none⟩ = false
  f1 : w.frozen? ⟨b, 1, none⟩ = false
  no : ∀ j, 2 ≤ j → w.cell? ⟨b, j, none⟩ = none
theorem RBox.kept {w w' : World} {b m cap : Nat} {n : Int} {a : Option Addr} {G : List Nat} (h : RBox w b n a m cap) (hk : Kept G w w') (hn : b ∉ G) : RBox w' b n a m cap :=
  ⟨hk.cellAt h.c0 hn, hk.cellAt h.c1 hn, hk.frz h.f0 (lt_of_cell h.c0) hn, hk.frz h.f1 (lt_of_cell h.c0) hn, fun j hj => (hk.cell (lt_of_cell h.c0) hn).trans (h.no j hj)⟩
theorem RBox.later {w w' : World} {b m cap : Nat} {n : Int} {a : Option Addr} (h : RBox w b n a m cap) (hb : Below w.heap.size w w') : RBox w' b n a m cap := h.kept (G := []) (Kept.of hb) (by simp)
theorem RBox.set {w : World} {b m cap m' cap' : Nat} {n : Int} {a a' : Option Addr} (h : RBox w b n a m cap) : RBox ((w.setCell ⟨b, 0, none⟩ (.int .i64 n)).setCell ⟨b, 1, none⟩ (.slice a' m' cap')) b n a' m' cap' :=
  ⟨cell_set_ne (cell_set_eq h.c0) (by simp), cell_set_eq (cell_set_ne h.c1 (by simp)), by rw [World.frozen?_setCell, World.frozen?_setCell]; exact h.f0, by rw [World.frozen?_setCell, World.frozen?_setCell]; exact h.f1, fun j hj => by
    rw [World.cell?_setCell_other, World.cell?_setCell_other]
    · exact h.no j hj
    · intro e; cases e; omega
    · intro e; cases e; omega⟩
theorem RBox.new (w : World) (n : Int) (t : TypeId) (a : Option Addr) (m cap : Nat) : RBox (w.alloc (.cells #[.int .i64 n, .slice a m cap] t)) w.heap.size n a m cap :=
  ⟨cell_nw _ _ _ 0 _ rfl, cell_nw _ _ _ 1 _ rfl, frz_nw _ _ _ 0, frz_nw _ _ _ 1, fun j hj => by rw [World.cell?_alloc_new]; simp; omega⟩
/-- records do not lie in such a variable -/
theorem HeldR.offBox {F : List Nat} {w : World} {v : Value} {S : Items} {b m cap : Nat} {n : Int} {a : Option Addr} (h : HeldR encQ F w v S) (hb : RBox w b n a m cap) : HeldR encQ (b :: F) w v S := by
  obtain ⟨a', cap', e, h1, h2, h3, h⟩ := h
  refine ⟨a', cap', e, h1, h2, h3, ?_⟩
  cases S with
  | nil => exact Or.inl rfl
  | cons x r =>
    obtain ⟨g, off, e', ⟨q1, q2⟩, hc⟩ := h.resolve_left (by simp)
    refine Or.inr ⟨g, off, e', ⟨fun m => ?_, q2⟩, hc⟩
    rcases List.mem_cons.1 m with rfl | m
    · have i0 := hc 0 _ rfl
      have i1 := hc 1 _ rfl
      match off, i0, i1 with
      | 0, i0, i1 => rw [Nat.zero_add, hb.c1] at i1; cases i1
      | 1, i0, i1 => rw [Nat.add_zero, hb.c1] at i0; cases i0
      | o + 2, i0, i1 => rw [Nat.add_zero, hb.no _ (by omega)] at i0; cases i0
    · exact q1 m
/-- both heaps, from round to round -/
structure Both (w : World) (p : Nat) (b : Nat) (n : Int) (wr : World) (a : Option Addr) (cap : Nat) (S : Items) (F : List Nat) : Prop where
  inn : HeapIn wr p F n S
  box : RBox wr b n a S.length cap
  off : b ∉ F
  recs : HeldR encQ (b :: F) wr (.slice a S.length cap) S
  own : ∀ x ∈ F, w.heap.size ≤ x
  new : w.heap.size ≤ b
  bel : Below w.heap.size w wr
theorem Both.later {w wr w' : World} {p b cap : Nat} {n : Int} {a : Option Addr} {S : Items} {F : List Nat} (h : Both w p b n wr a cap S F) (hb : Below wr.heap.size wr w') : Both w p b n w' a cap S F :=
  ⟨h.inn.below hb, h.box.later hb, h.off, h.recs.later hb, h.own, h.new, Below.step h.bel hb⟩
theorem HeldR.tail {F : List Nat} {b : Nat} {w : World} {v : Value} {S : Items} (h : HeldR encQ (b :: F) w v S) : HeldR encQ F w v S := h.sub fun x hx => by simp [hx]
/-- behind act, and what it returns stored -/
theorem Both.acted {w wr w1 w2 : World} {p b cap cap' : Nat} {n : Int} {a a' : Option Addr} {S S' : Items} {F F' : List Nat} (h : Both w p b n wr a cap S F) (hH : HeapIn w1 p F' n S') (hR : HeldR encQ F' w1 (.slice a' S'.length cap') S') (hS : Step F wr F' w1) (hb : Below w1.heap.size w1 w2) :
    RBox w2 b n a S.length cap ∧ Both w p b n ((w2.setCell ⟨b, 0, none⟩ (.int .i64 n)).setCell ⟨b, 1, none⟩ (.slice a' S'.length cap')) a' cap' S' F' := by
  have hlb : b < wr.heap.size := lt_of_cell h.box.c0
  have hn : b ∉ F' := hS.off h.off hlb
  have hx := (h.box.kept hS.kept h.off).later hb
  have KF : Kept [b] w2 ((w2.setCell ⟨b, 0, none⟩ (.int .i64 n)).setCell ⟨b, 1, none⟩ (.slice a' S'.length cap')) := ((Kept.refl _ _).setCell (Or.inl (by simp)) _).setCell (Or.inl (by simp)) _
  have hs := hS.below h.own h.bel.size
  refine ⟨hx, ⟨(hH.below hb).kept KF (fun x hxF m => ?_), hx.set, hn, ((hR.later hb).offBox hx).kept (KF.mono (fun x hx => by simp at hx; simp [hx])), hs.2, h.new, ?_⟩⟩
  · simp at m; subst m; exact hn hxF
  · exact Kept.stepB (Below.step (h.bel.trans hs.1) hb) (Nat.le_refl _) KF (fun x hx => by simp at hx; subst hx; exact h.new)
end Go.Proofs.Ytpbaegdmjmickaa
