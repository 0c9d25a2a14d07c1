/-
  Layer 24 (queue): a queue in memory.
-/
import Derived.Test.YtfgmglghlapbcaaQueueM
import Derived.Test.YtfgmglghlapbcaaKitE
import Derived.Test.YtfgmglghlapbcaaHeapSt
import Derived.Test.YtfgmglghlapbcaaChargeAw
namespace Go.Proofs.Ytfgmglghlapbcaa
open Go.RowKit Go.Maps Go.IntWalk Go.Lib
set_option linter.unusedVariables false
set_option linter.unusedSimpArgs false
/-! entities as a map's values -/
def encE (x : Ent) : Value := .agg #[.int .u64 x.1, .int .u32 x.2.1, .int .u32 x.2.2]
def datE (x : Ent) : DataW Unit := .agg [.lit (.int .u64 x.1), .lit (.int .u32 x.2.1), .lit (.int .u32 x.2.2)]
def readE : Value → Option (DataW Unit × List MemPlace)
  | .agg ⟨[.int .u64 a, .int .u32 b, .int .u32 c]⟩ => some (datE (a, b, c), [])
  | _ => none
theorem elemE : ElemG encE datE readE (fun _ => True) := by
  refine ⟨fun x _ => rfl, fun v z h => ?_, fun x y h => ?_⟩
  · unfold readE at h
    split at h
    · cases h; exact ⟨(_, _, _), trivial, rfl, rfl⟩
    · cases h
  · unfold datE at h
    simp only [DataW.agg.injEq, List.cons.injEq, DataW.lit.injEq, Lit.int.injEq, true_and, and_true] at h
    exact Prod.ext h.1 (Prod.ext h.2.1 h.2.2)
abbrev MapE := MapG encE datE readE (fun _ => True)
theorem undE : Try.prog.underlying 103 = some (.map 3 39) := by kernel_rfl
theorem zeroE (w : World) : (zeroValue 39).run Try.prog w = .ok (encE (0, 0, 0)) w := by kernel_rfl
/-- A QUEUE IN MEMORY, its parts apart: the block q, the heap p with its blocks Fh and items S, the map bm as a function f of c numbers, floor and load -/
structure QRaw (w : World) (q p bm : Nat) (Fh : List Nat) (n : Int) (S : Items) (f : Int → Option Ent) (c : Nat) (fl ld : Int) : Prop where
  c0 : w.cell? ⟨q, 0, none⟩ = some (.pointer (some ⟨p, 0, none⟩))
  c1 : w.cell? ⟨q, 1, none⟩ = some (.int .i64 n)
  c2 : w.cell? ⟨q, 2, none⟩ = some (.map (some bm))
  c3 : w.cell? ⟨q, 3, none⟩ = some (.int .u64 fl)
  c4 : w.cell? ⟨q, 4, none⟩ = some (.int .i64 ld)
  fr : ∀ j, w.frozen? ⟨q, j, none⟩ = false
  heap : HeapIn w p Fh n S
  map : MapE w bm f c
  nq : q ∉ Fh
  nb : bm ∉ Fh
  qb : q ≠ bm
theorem QRaw.plt {w : World} {q p bm : Nat} {Fh : List Nat} {n : Int} {S : Items} {f : Int → Option Ent} {c : Nat} {fl ld : Int} (h : QRaw w q p bm Fh n S f c fl ld) : q < w.heap.size := lt_of_cell h.c0
theorem QRaw.kept {w w' : World} {q p bm : Nat} {Fh : List Nat} {n : Int} {S : Items} {f : Int → Option Ent} {c : Nat} {fl ld : Int} {G : List Nat} (h : QRaw w q p bm Fh n S f c fl ld) (hk : Kept G w w') (hG : ∀ b ∈ q :: bm :: Fh, b ∉ G) : QRaw w' q p bm Fh n S f c fl ld :=
  have hq := hG q (by simp)
  ⟨hk.cellAt h.c0 hq, hk.cellAt h.c1 hq, hk.cellAt h.c2 hq, hk.cellAt h.c3 hq, hk.cellAt h.c4 hq, fun j => hk.frz (h.fr j) h.plt hq, h.heap.kept hk (fun b hb => hG b (by simp [hb])), h.map.kept hk (hG bm (by simp)), h.nq, h.nb, h.qb⟩
theorem QRaw.below {w w' : World} {q p bm : Nat} {Fh : List Nat} {n : Int} {S : Items} {f : Int → Option Ent} {c : Nat} {fl ld : Int} (h : QRaw w q p bm Fh n S f c fl ld) (hb : Below w.heap.size w w') : QRaw w' q p bm Fh n S f c fl ld := h.kept (G := []) (Kept.of hb) (fun _ _ => by simp)
/-- behind a call on the heap -/
theorem QRaw.heaped {w w' : World} {q p bm : Nat} {Fh Fh' : List Nat} {n : Int} {S S' : Items} {f : Int → Option Ent} {c : Nat} {fl ld : Int} (h : QRaw w q p bm Fh n S f c fl ld) (hs : Step Fh w Fh' w') (hH : HeapIn w' p Fh' n S') : QRaw w' q p bm Fh' n S' f c fl ld :=
  ⟨hs.cell h.nq h.c0, hs.cell h.nq h.c1, hs.cell h.nq h.c2, hs.cell h.nq h.c3, hs.cell h.nq h.c4, fun j => hs.kept.frz (h.fr j) h.plt h.nq, hH, h.map.kept hs.kept h.nb, hs.off h.nq h.plt, hs.off h.nb h.map.lt, h.qb⟩
/-- behind a change of the map -/
theorem QRaw.mapped {w w' : World} {q p bm : Nat} {Fh : List Nat} {n : Int} {S : Items} {f f' : Int → Option Ent} {c c' : Nat} {fl ld : Int} (h : QRaw w q p bm Fh n S f c fl ld) (hg : w.grownBy w' (some bm)) (hm : MapE w' bm f' c') : QRaw w' q p bm Fh n S f' c' fl ld ∧ Kept [bm] w w' := by
  have hk : Kept [bm] w w' := ⟨hg.os, hg.tape, hg.output, hg.size, fun k hk hn => hg.block k hk (fun e => by cases e; exact hn (by simp))⟩
  have hq : q ∉ [bm] := by simpa using h.qb
  exact ⟨⟨hk.cellAt h.c0 hq, hk.cellAt h.c1 hq, hk.cellAt h.c2 hq, hk.cellAt h.c3 hq, hk.cellAt h.c4 hq, fun j => hk.frz (h.fr j) h.plt hq, h.heap.kept hk (fun b hb m => by simp at m; subst m; exact h.nb hb), hm, h.nq, h.nb, h.qb⟩, hk⟩
theorem QRaw.floored {w : World} {q p bm : Nat} {Fh : List Nat} {n : Int} {S : Items} {f : Int → Option Ent} {c : Nat} {fl ld : Int} (h : QRaw w q p bm Fh n S f c fl ld) (x : Int) : QRaw (w.setCell ⟨q, 3, none⟩ (.int .u64 x)) q p bm Fh n S f c x ld ∧ Kept [q] w (w.setCell ⟨q, 3, none⟩ (.int .u64 x)) := by
  have hk : Kept [q] w (w.setCell ⟨q, 3, none⟩ (.int .u64 x)) := (Kept.refl _ _).setCell (Or.inl (by simp)) _
  exact ⟨⟨cell_set_ne h.c0 (by simp), cell_set_ne h.c1 (by simp), cell_set_ne h.c2 (by simp), cell_set_eq h.c3, cell_set_ne h.c4 (by simp), fun j => by rw [World.frozen?_setCell]; exact h.fr j, h.heap.kept hk (fun b hb m => by simp at m; subst m; exact h.nq hb), h.map.kept hk (by simpa using (Ne.symm h.qb)), h.nq, h.nb, h.qb⟩, hk⟩
theorem QRaw.loaded {w : World} {q p bm : Nat} {Fh : List Nat} {n : Int} {S : Items} {f : Int → Option Ent} {c : Nat} {fl ld : Int} (h : QRaw w q p bm Fh n S f c fl ld) (x : Int) : QRaw (w.setCell ⟨q, 4, none⟩ (.int .i64 x)) q p bm Fh n S f c fl x ∧ Kept [q] w (w.setCell ⟨q, 4, none⟩ (.int .i64 x)) := by
  have hk : Kept [q] w (w.setCell ⟨q, 4, none⟩ (.int .i64 x)) := (Kept.refl _ _).setCell (Or.inl (by simp)) _
  exact ⟨⟨cell_set_ne h.c0 (by simp), cell_set_ne h.c1 (by simp), cell_set_ne h.c2 (by simp), cell_set_ne h.c3 (by simp), cell_set_eq h.c4, fun j => by rw [World.frozen?_setCell]; exact h.fr j, h.heap.kept hk (fun b hb m => by simp at m; subst m; exact h.nq hb), h.map.kept hk (by simpa using (Ne.symm h.qb)), h.nq, h.nb, h.qb⟩, hk⟩
/-- A QUEUE, as its user sees it: its block q, all its blocks F, how many numbers n, the members M in their order, the floor. -/
def QIn (w : World) (q : Nat) (F : List Nat) (n : Int) (M : Mems) (fl : Int) : Prop :=
  ∃ p bm Fh f, QRaw w q p bm Fh n (itemsM M) f M.length fl (loadM M) ∧ F = q :: bm :: Fh ∧ (∀ id, f id = entM M id) ∧ MemsOk M ∧ 0 ≤ fl ∧ fl ≤ 18446744073709551615
theorem QIn.kept {w w' : World} {q : Nat} {F G : List Nat} {n : Int} {M : Mems} {fl : Int} (h : QIn w q F n M fl) (hk : Kept G w w') (hd : ∀ b ∈ F, b ∉ G) : QIn w' q F n M fl := by
  obtain ⟨p, bm, Fh, f, hr, rfl, k⟩ := h
  exact ⟨p, bm, Fh, f, hr.kept hk hd, rfl, k⟩
theorem QIn.below {w w' : World} {q : Nat} {F : List Nat} {n : Int} {M : Mems} {fl : Int} (h : QIn w q F n M fl) (hb : Below w.heap.size w w') : QIn w' q F n M fl := h.kept (G := []) (Kept.of hb) (fun _ _ => by simp)
theorem QIn.lt {w : World} {q : Nat} {F : List Nat} {n : Int} {M : Mems} {fl : Int} (h : QIn w q F n M fl) : ∀ b ∈ F, b < w.heap.size := by
  obtain ⟨p, bm, Fh, f, hr, rfl, k⟩ := h
  intro b hb
  simp only [List.mem_cons] at hb
  rcases hb with rfl | rfl | hb
  · exact hr.plt
  · exact hr.map.lt
  · exact hr.heap.lt b hb
theorem QIn.ids {w : World} {q : Nat} {F : List Nat} {n : Int} {M : Mems} {fl : Int} (h : QIn w q F n M fl) : MemsOk M ∧ (∀ m ∈ M, 0 ≤ m.1 ∧ m.1 < n) ∧ 1 ≤ n ∧ n ≤ 131072 ∧ (M.length : Int) ≤ n ∧ 0 ≤ fl ∧ fl ≤ 18446744073709551615 := by
  obtain ⟨p, bm, Fh, f, hr, rfl, _, ho, h0, h1⟩ := h
  have i := hr.heap.ids
  refine ⟨ho, fun m hm => ?_, i.2.2.2.1, i.2.2.2.2.1, by rw [← items_len]; exact i.2.2.2.2.2, h0, h1⟩
  exact (i.2.2.1 (kM m) (List.mem_map.2 ⟨m, hm, rfl⟩)).1
/-- what a call leaves -/
def QAfter (w : World) (q : Nat) (F : List Nat) (n : Int) (M : Mems) (fl : Int) (w' : World) : Prop := ∃ F', QIn w' q F' n M fl ∧ Step F w F' w'
def QDid (w : World) (q : Nat) (F : List Nat) (n : Int) (r : Value) (M : Mems) (fl : Int) (e : Ending) (w' : World) : Prop := e = .returned r ∧ QAfter w q F n M fl w'
theorem QAfter.same {w w' : World} {q : Nat} {F : List Nat} {n : Int} {M : Mems} {fl : Int} (h : QIn w q F n M fl) (hb : Below w.heap.size w w') : QAfter w q F n M fl w' := ⟨F, h.below hb, Step.of hb⟩
end Go.Proofs.Ytfgmglghlapbcaa
