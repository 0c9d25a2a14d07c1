/-
  Layer 18 (heap): the state in memory, and the small methods.
-/
import Derived.Test.YtfgmglghlapbcaaHeapW
import Derived.Test.YtfgmglghlapbcaaHeapM
import Derived.Test.YtfgmglghlapbcaaKitM
import Derived.Test.YtfgmglghlapbcaaKitA
import Derived.BigRegion
namespace Go.Proofs.Ytfgmglghlapbcaa
open Go.RowKit Go.Maps Go.IntWalk Go.Lib Go.Sort
set_option linter.unusedVariables false
def flatI : Items → List Value
  | [] => []
  | x :: r => .int .i64 x.1 :: .int .u64 x.2 :: flatI r
theorem flatI_len (L : Items) : (flatI L).length = L.length * 2 := by
  induction L with
  | nil => rfl
  | cons x r ih => simp only [flatI, List.length_cons, ih]; omega
theorem flatI_app (L M : Items) : flatI (L ++ M) = flatI L ++ flatI M := by
  induction L with
  | nil => rfl
  | cons x r ih => simp [flatI, ih]
theorem flatI_at {L : Items} {k : Nat} {x : Int × Int} (h : L[k]? = some x) : (flatI L)[k * 2]? = some (.int .i64 x.1) ∧ (flatI L)[k * 2 + 1]? = some (.int .u64 x.2) := by
  induction L generalizing k with
  | nil => cases h
  | cons y r ih =>
    cases k with
    | zero => cases h; exact ⟨rfl, rfl⟩
    | succ k =>
      have := ih (k := k) (by simpa using h)
      rw [show (k + 1) * 2 = k * 2 + 1 + 1 by omega]
      exact this
theorem flatI_set {L : Items} {k : Nat} {x : Int × Int} (hk : k < L.length) : flatI (L.set k x) = ((flatI L).set (k * 2) (.int .i64 x.1)).set (k * 2 + 1) (.int .u64 x.2) := by
  induction L generalizing k with
  | nil => simp at hk
  | cons y r ih =>
    cases k with
    | zero => rfl
    | succ k =>
      have := ih (k := k) (by simpa using hk)
      rw [show (k + 1) * 2 = k * 2 + 1 + 1 by omega]
      simp only [List.set_cons_succ, flatI, this]
/-- what items there can be -/
def Fits (n : Int) (L : Items) : Prop := ∀ x ∈ L, (0 ≤ x.1 ∧ x.1 < n) ∧ 0 ≤ x.2 ∧ x.2 ≤ 18446744073709551615
def rowV (a : Option Nat) (n cap : Nat) : Value := .slice (a.map fun g => ⟨g, 0, none⟩) n cap
/-- A HEAP IN MEMORY: its block p, the row's block a, the map's block bm. -/
structure Raw (w : World) (p : Nat) (a : Option Nat) (cap bm : Nat) (n : Int) (L : Items) (f : Int → Option Int) (c : Nat) : Prop where
  c0 : w.cell? ⟨p, 0, none⟩ = some (rowV a L.length cap)
  c1 : w.cell? ⟨p, 1, none⟩ = some (.map (some bm))
  c2 : w.cell? ⟨p, 2, none⟩ = some (.int .i64 n)
  fp : ∀ j, w.frozen? ⟨p, j, none⟩ = false
  own : w.ownsRow (max p bm + 1) 122 2 (rowV a L.length cap) L.length (flatI L)
  na : ∀ g, a = some g → g ≠ p ∧ g ≠ bm
  pb : p ≠ bm
  map : MapF w bm f c
  fits : Fits n L
  small : n ≤ 131072
  pos : 1 ≤ n
theorem Raw.row {w : World} {p : Nat} {a : Option Nat} {cap bm : Nat} {n : Int} {L : Items} {f : Int → Option Int} {c : Nat} (h : Raw w p a cap bm n L f c) (h0 : 0 < L.length) : ∃ g, a = some g := by
  rcases h.own.2 with ⟨_, e⟩ | ⟨g, cap', cur, e, _⟩
  · omega
  · cases a with
    | none => simp [rowV] at e
    | some g => exact ⟨g, rfl⟩
theorem Raw.item {w : World} {p g : Nat} {cap bm : Nat} {n : Int} {L : Items} {f : Int → Option Int} {c : Nat} (h : Raw w p (some g) cap bm n L f c) {k : Nat} (hk : k < L.length) :
    w.cell? ⟨g, k * 2, none⟩ = some (.int .i64 L[k]!.1) ∧ w.cell? ⟨g, k * 2 + 1, none⟩ = some (.int .u64 L[k]!.2) := by
  have e := flatI_at (at_get hk)
  have o := h.own
  change w.ownsRow (max p bm + 1) 122 2 (.slice (some ⟨g, 0, none⟩) L.length cap) L.length (flatI L) at o
  exact ⟨(o.cellAt (k * 2) (by omega)).trans e.1, (o.cellAt (k * 2 + 1) (by omega)).trans e.2⟩
theorem Raw.fg {w : World} {p g : Nat} {cap bm : Nat} {n : Int} {L : Items} {f : Int → Option Int} {c : Nat} (h : Raw w p (some g) cap bm n L f c) : ∀ j, w.frozen? ⟨g, j, none⟩ = false := fun j => World.ownsRow.frozenAt (show w.ownsRow (max p bm + 1) 122 2 (.slice (some ⟨g, 0, none⟩) L.length cap) L.length (flatI L) from h.own) j
theorem Raw.of_heap {w w' : World} {p : Nat} {a : Option Nat} {cap bm : Nat} {n : Int} {L : Items} {f : Int → Option Int} {c : Nat} (h : Raw w p a cap bm n L f c) (hp : w'.heap[p]? = w.heap[p]?) (hb : w'.heap[bm]? = w.heap[bm]?) (ha : ∀ g, a = some g → w'.heap[g]? = w.heap[g]?) : Raw w' p a cap bm n L f c := by
  have e : ∀ j, w'.cell? ⟨p, j, none⟩ = w.cell? ⟨p, j, none⟩ := fun j => World.cell?_of_block (a := ⟨p, j, none⟩) hp
  refine ⟨(e 0).trans h.c0, (e 1).trans h.c1, (e 2).trans h.c2, fun j => (World.frozen?_of_block (a := ⟨p, j, none⟩) hp).trans (h.fp j), ⟨h.own.1, ?_⟩, h.na, h.pb, h.map.of_heap hb, h.fits, h.small, h.pos⟩
  rcases h.own.2 with q | ⟨g, cap', cur, ev, h0, hg, r⟩
  · exact Or.inl q
  · refine Or.inr ⟨g, cap', cur, ev, h0, ?_, r⟩
    cases a with
    | none => simp [rowV] at ev
    | some g' =>
      simp only [rowV, Option.map_some, Value.slice.injEq, Option.some.injEq, Addr.mk.injEq, and_true] at ev
      rw [ha g (by rw [ev.1])]; exact hg
theorem Raw.plt {w : World} {p : Nat} {a : Option Nat} {cap bm : Nat} {n : Int} {L : Items} {f : Int → Option Int} {c : Nat} (h : Raw w p a cap bm n L f c) : p < w.heap.size := lt_of_cell h.c0
theorem Raw.glt {w : World} {p : Nat} {a : Option Nat} {cap bm : Nat} {n : Int} {L : Items} {f : Int → Option Int} {c : Nat} (h : Raw w p a cap bm n L f c) {g : Nat} (e : a = some g) : g < w.heap.size := by
  subst e; exact (h.own.lt g rfl).2
theorem Raw.below {w w' : World} {p : Nat} {a : Option Nat} {cap bm : Nat} {n : Int} {L : Items} {f : Int → Option Int} {c : Nat} (h : Raw w p a cap bm n L f c) (hk : Below w.heap.size w w') : Raw w' p a cap bm n L f c :=
  h.of_heap (hk.block _ h.plt) (hk.block _ h.map.lt) (fun g e => hk.block _ (h.glt e))
/-- the blocks of a heap -/
def blocks (p : Nat) (a : Option Nat) (bm : Nat) : List Nat := p :: bm :: a.toList
theorem Raw.kept {w w' : World} {p : Nat} {a : Option Nat} {cap bm : Nat} {n : Int} {L : Items} {f : Int → Option Int} {c : Nat} {S : List Nat} (h : Raw w p a cap bm n L f c) (hk : Kept S w w') (hS : ∀ b ∈ blocks p a bm, b ∉ S) : Raw w' p a cap bm n L f c :=
  h.of_heap (hk.block _ h.plt (hS _ (by simp [blocks]))) (hk.block _ h.map.lt (hS _ (by simp [blocks]))) (fun g e => hk.block _ (h.glt e) (hS _ (by simp [blocks, e])))
theorem Raw.nlen {w : World} {p : Nat} {a : Option Nat} {cap bm : Nat} {n : Int} {L : Items} {f : Int → Option Int} {c : Nat} (h : Raw w p a cap bm n L f c) (hA : Apart L) : (L.length : Int) ≤ n := by
  have e := holes_le n.toNat (L.map Prod.fst) (apart_nodup hA) (fun x hx => by
    obtain ⟨y, hy, rfl⟩ := List.mem_map.1 hx
    have := (h.fits y hy).1
    omega)
  rw [List.length_map] at e
  have := h.pos
  omega
set_option maxHeartbeats 400000 in
theorem some_at (p : Nat) (n : Int) (w : World) (c2 : w.cell? ⟨p, 2, none⟩ = some (.int .i64 n)) :
    Calls Try.prog 76 #[.pointer (some ⟨p, 0, none⟩)] w fun e w' => e = .returned (.bool (decide (0 < n))) ∧ w = w' := by
  by_cases hn : 0 < n
  · rw [show decide (0 < n) = true by simpa using hn]
    go_enter Try.func76, Try.ntmps76
    go_wp2
    go_ret
    exact ⟨rfl, rfl⟩
  · rw [show decide (0 < n) = false by simpa using hn]
    go_enter Try.func76, Try.ntmps76
    go_wp2
    go_ret
    exact ⟨rfl, rfl⟩
set_option maxHeartbeats 400000 in
theorem some_nil (w : World) : Calls Try.prog 76 #[.pointer none] w fun e w' => e = .returned (.bool false) ∧ w = w' := by
  go_enter Try.func76, Try.ntmps76
  go_wp2
  go_ret
  exact ⟨rfl, rfl⟩
def hasV (n id : Int) : Bool := decide (0 ≤ id ∧ id < n)
set_option maxHeartbeats 400000 in
theorem has_at (p : Nat) (n id : Int) (w : World) (c2 : w.cell? ⟨p, 2, none⟩ = some (.int .i64 n)) (hn : 1 ≤ n) :
    Calls Try.prog 77 #[.pointer (some ⟨p, 0, none⟩), .int .i64 id] w fun e w' => e = .returned (.bool (hasV n id)) ∧ w = w' := by
  have A1 := Lib.hid (some_at p n w c2)
  have e1 : decide (0 < n) = true := by simp; omega
  rw [e1] at A1
  unfold hasV
  by_cases h1 : 0 ≤ id
  · by_cases h2 : id < n
    · rw [show decide (0 ≤ id ∧ id < n) = true by simp; omega]
      go_enter Try.func77, Try.ntmps77
      go_wp2_with fail
      refine A1.out.mono ?_; rintro e w1 ⟨rfl, rfl⟩
      go_wp2_with fail
      go_ret
      exact ⟨rfl, rfl⟩
    · rw [show decide (0 ≤ id ∧ id < n) = false by simp; omega]
      have z : decide (id < n) = false := by simpa using h2
      go_enter Try.func77, Try.ntmps77
      go_wp2_with fail
      refine A1.out.mono ?_; rintro e w1 ⟨rfl, rfl⟩
      go_wp2_with fail
      go_ret
      exact ⟨rfl, rfl⟩
  · rw [show decide (0 ≤ id ∧ id < n) = false by simp; omega]
    go_enter Try.func77, Try.ntmps77
    go_wp2_with fail
    refine A1.out.mono ?_; rintro e w1 ⟨rfl, rfl⟩
    go_wp2_with fail
    go_ret
    exact ⟨rfl, rfl⟩
/-- what find answers -/
def findV (n : Int) (f : Int → Option Int) (id : Int) : Int × Int := if hasV n id then (match f id with | some k => (k, 0) | none => (0, 6)) else (0, 2)
set_option maxRecDepth 100000 in
set_option maxHeartbeats 400000 in
theorem find_at {p : Nat} {a : Option Nat} {cap bm : Nat} {n : Int} {L : Items} {f : Int → Option Int} {c : Nat} (id : Int) (w : World) (h : Raw w p a cap bm n L f c) (hid : (Lit.int .i64 id).wf = true) :
    Calls Try.prog 67 #[.pointer (some ⟨p, 0, none⟩), .int .i64 id] w fun e w' => e = .returned (.tuple #[.int .i64 (findV n f id).1, .int .i64 (findV n f id).2]) ∧ w = w' := by
  have c1 := h.c1
  have A1 := Lib.hid (some_at p n w h.c2)
  rw [show decide (0 < n) = true by have := h.pos; simp; omega] at A1
  have A2 := Lib.hid (has_at p n id w h.c2 h.pos)
  have hlk := h.map.look hid
  clear h
  unfold findV
  cases hh : hasV n id
  · rw [hh] at A2
    go_enter Try.func67, Try.ntmps67
    go_wp2_with (first | (go_at_call 76; refine A1.out.mono ?_; rintro e w1 ⟨rfl, rfl⟩) | (go_at_call 77; refine A2.out.mono ?_; rintro e w1 ⟨rfl, rfl⟩))
    go_ret2
    exact ⟨rfl, rfl⟩
  · rw [hh] at A2
    cases hf : f id with
    | none =>
      rw [hf] at hlk
      simp only [Option.getD_none, Option.isSome_none] at hlk
      go_enter Try.func67, Try.ntmps67
      go_wp2_with (first | (go_at_call 76; refine A1.out.mono ?_; rintro e w1 ⟨rfl, rfl⟩) | (go_at_call 77; refine A2.out.mono ?_; rintro e w1 ⟨rfl, rfl⟩))
      go_ret2
      exact ⟨rfl, rfl⟩
    | some k =>
      rw [hf] at hlk
      simp only [Option.getD_some, Option.isSome_some] at hlk
      go_enter Try.func67, Try.ntmps67
      go_wp2_with (first | (go_at_call 76; refine A1.out.mono ?_; rintro e w1 ⟨rfl, rfl⟩) | (go_at_call 77; refine A2.out.mono ?_; rintro e w1 ⟨rfl, rfl⟩))
      go_ret2
      exact ⟨rfl, rfl⟩
end Go.Proofs.Ytfgmglghlapbcaa
