/-
  Layer 25's statements: rows of rows of ints, and rows of bools, that a law keeps beside a tree.
-/
import Derived.Test.YtfgmglghlapbcaaGreatPickBu
import Derived.Test.YtfgmglghlapbcaaGreatPickBk
namespace Go.Proofs.YtfgmglghlapbcaaGreat
open Go.RowKit Go.Maps Go.IntWalk Go.Lib Go.Sort Go.Shelf
set_option linter.unusedVariables false
set_option linter.unusedSimpArgs false
def encJ (x : Int) : List Value := [.int .i64 x]
theorem encJ_ok : Enc encJ 1 := ⟨fun _ => rfl, fun x u hu => by simp [encJ] at hu; subst hu; rfl, by decide⟩
theorem flatJ : ∀ L : List Int, flatR encJ L = intsV L
  | [] => rfl
  | x :: r => by
    have := flatJ r
    unfold flatR intsV at this ⊢
    rw [List.flatMap_cons, List.map_cons, this]
    rfl
theorem infoIs : (Tryz.prog.info? 37).map (fun i => (i.zero, i.size, i.bytes)) = some (some (.slice none 0 0), 1, 24) := by kernel_rfl
/-- two rows of different types do not share their block -/
theorem own_apart {w : World} {b1 b2 e1 e2 k1 k2 n1 n2 : Nat} {v1 v2 : Value} {x1 x2 : List Value} (h1 : w.ownsRow b1 e1 k1 v1 n1 x1) (h2 : w.ownsRow b2 e2 k2 v2 n2 x2) (he : e1 ≠ e2) : v1.ownBlock = none ∨ v1.ownBlock ≠ v2.ownBlock := by
  rcases h1.2 with ⟨rfl, _⟩ | ⟨g1, c1, u1, rfl, _, a1, _⟩
  · exact Or.inl rfl
  · rcases h2.2 with ⟨rfl, _⟩ | ⟨g2, c2, u2, rfl, _, a2, _⟩
    · right; simp [Value.ownBlock]
    · right
      simp only [Value.ownBlock, ne_eq, Option.some.injEq]
      intro e
      rw [e, a2] at a1
      simp only [Option.some.injEq, Obj.cells.injEq] at a1
      exact he a1.2.1.symm
theorem held_row {F : List Nat} {w : World} {v : Value} {L : List Int} (h : HeldR encJ F w v L) : ∃ a c, v = .slice a L.length c ∧ RowAt .i64 w a L.length L := by
  obtain ⟨a, c, e, h1, h2, h3, h⟩ := h
  refine ⟨a, c, e, rfl, fun h0 => ?_⟩
  rcases h with rfl | ⟨b, off, e2, _, hc⟩
  · simp at h0
  · refine ⟨b, off, e2, fun i x hx => hc i _ ?_⟩
    rw [flatJ]
    unfold intsV
    rw [List.getElem?_map, hx]
    rfl
theorem own_rowJ {w : World} {base n : Nat} {v : Value} {L : List Int} (h : w.ownsRow base 3 1 v n (intsV L)) (hn : n = L.length) : ∃ a c, v = .slice a L.length c ∧ RowAt .i64 w a L.length L :=
  held_row (F := []) (own_heldR encJ_ok h hn (flatJ L).symm fun b hb => by cases hb)
structure LstC (w : World) (F : List Nat) (b n : Nat) (V : Nat → Value) (L : Nat → List Int) : Prop where
  off : b ∉ F
  lt : b < w.heap.size
  cell : ∀ j, j < n → w.cell? ⟨b, j, none⟩ = some (V j)
  rows : ∀ j, j < n → HeldR encJ F w (V j) (L j)
theorem LstC.step {w w' : World} {F F' : List Nat} {b n : Nat} {V : Nat → Value} {L : Nat → List Int} (h : LstC w F b n V L) (hk : Kept F w w') (hn : ∀ b ∈ F', b ∈ F ∨ w.heap.size ≤ b) : LstC w' F' b n V L :=
  ⟨fun m => by rcases hn b m with q | q; exact h.off q; have := h.lt; omega, Nat.lt_of_lt_of_le h.lt hk.size, fun j hj => hk.cellAt (h.cell j hj) h.off, fun j hj => (h.rows j hj).step hk hn⟩
theorem LstC.later {w w' : World} {F : List Nat} {b n : Nat} {V : Nat → Value} {L : Nat → List Int} (h : LstC w F b n V L) (hb : Below w.heap.size w w') : LstC w' F b n V L := h.step (Kept.of hb) fun b hb => Or.inl hb
structure BolC (w : World) (F : List Nat) (b n : Nat) (B : Nat → Bool) : Prop where
  off : b ∉ F
  lt : b < w.heap.size
  cell : BoolC w b n B
theorem BolC.step {w w' : World} {F F' : List Nat} {b n : Nat} {B : Nat → Bool} (h : BolC w F b n B) (hk : Kept F w w') (hn : ∀ b ∈ F', b ∈ F ∨ w.heap.size ≤ b) : BolC w' F' b n B :=
  ⟨fun m => by rcases hn b m with q | q; exact h.off q; have := h.lt; omega, Nat.lt_of_lt_of_le h.lt hk.size, fun j hj => hk.cellAt (h.cell j hj) h.off⟩
theorem BolC.later {w w' : World} {F : List Nat} {b n : Nat} {B : Nat → Bool} (h : BolC w F b n B) (hb : Below w.heap.size w w') : BolC w' F b n B := h.step (Kept.of hb) fun b hb => Or.inl hb
theorem BusyP.held {w w' : World} {F : List Nat} {s : TSt} {b : Nat} (h1 : w.heap.size ≤ b) (h2 : b < w'.heap.size) (h3 : BoolC w' b s.n (nonE s)) (hF : ∀ b ∈ F, b < w.heap.size) : BolC w' F b s.n (nonE s) := ⟨fun m => by have := hF b m; omega, h2, h3⟩
end Go.Proofs.YtfgmglghlapbcaaGreat
