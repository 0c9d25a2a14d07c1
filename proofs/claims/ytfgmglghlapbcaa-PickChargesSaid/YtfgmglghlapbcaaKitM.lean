/-
  Maps from numbers to numbers, as functions.
-/
import Derived.Test.YtfgmglghlapbcaaKitK
import Derived.Test.YtfgmglghlapbcaaRows
import Derived.Maps.OwnOps
import Derived.Maps.OwnSet
namespace Go.Proofs.Ytfgmglghlapbcaa
open Go.RowKit Go.Maps
set_option linter.unusedVariables false
theorem zeroI (w : World) : (zeroValue 3).run Try.prog w = .ok (.int .i64 0) w := by kernel_rfl
theorem lawI : Keyed Try.prog 3 := int_keyed Try.underlying3
def setF {α : Type} (f : Int → Option α) (id : Int) (p : Option α) : Int → Option α := fun j => if j = id then p else f j
theorem setF_same {α : Type} (f : Int → Option α) (id : Int) (p : Option α) : setF f id p id = p := if_pos rfl
theorem setF_other {α : Type} (f : Int → Option α) {id j : Int} (p : Option α) (h : j ≠ id) : setF f id p j = f j := if_neg h
/-- a map of c numbers, as a function -/
def MapF (w : World) (b : Nat) (f : Int → Option Int) (c : Nat) : Prop :=
  ∃ D : DataW Unit, w.ownsMap Try.prog 3 (plainElem Try.prog 3) b c D ∧ Maps.size D = c ∧ (∀ id, has D (.int .i64 id) = (f id).isSome) ∧ (∀ id p, f id = some p → D.atKey (.int .i64 id) (.lit (.int .i64 0)) = .lit (.int .i64 p))
def putC (o : Option Int) (c : Nat) : Nat := if o.isSome then c else c + 1
def delC (o : Option Int) (c : Nat) : Nat := if o.isSome then c - 1 else c
theorem MapF.made (w : World) : MapF (w.alloc (.map #[] 0)) w.heap.size (fun _ => none) 0 :=
  ⟨.map [], World.ownsMap_made w _ _ _, rfl, fun _ => rfl, fun _ _ h => by cases h⟩
theorem MapF.lt {w : World} {b : Nat} {f : Int → Option Int} {c : Nat} (h : MapF w b f c) : b < w.heap.size := by obtain ⟨D, h, _⟩ := h; exact h.lt
theorem MapF.of_heap {w w' : World} {b : Nat} {f : Int → Option Int} {c : Nat} (h : MapF w b f c) (e : w'.heap[b]? = w.heap[b]?) : MapF w' b f c := by
  obtain ⟨D, ⟨es, clock, hb, r⟩, k⟩ := h
  exact ⟨D, ⟨es, clock, by rw [e]; exact hb, r⟩, k⟩
theorem MapF.kept {w w' : World} {b : Nat} {f : Int → Option Int} {c : Nat} {S : List Nat} (h : MapF w b f c) (hk : Kept S w w') (hS : b ∉ S) : MapF w' b f c := h.of_heap (hk.block b h.lt hS)
theorem MapF.below {w w' : World} {b : Nat} {f : Int → Option Int} {c : Nat} (h : MapF w b f c) (hk : Below w.heap.size w w') : MapF w' b f c := h.of_heap (hk.block b h.lt)
theorem MapF.setCell {w : World} {b : Nat} {f : Int → Option Int} {c : Nat} (h : MapF w b f c) {a : Addr} (ha : b ≠ a.block) (u : Value) : MapF (w.setCell a u) b f c := h.of_heap (Below.heap_setCell _ _ _ _ ha)
theorem MapF.put {w : World} {b : Nat} {f : Int → Option Int} {c : Nat} (h : MapF w b f c) (hc : c < maxLen) {id p : Int} (hid : (Lit.int .i64 id).wf = true) (hp : (Lit.int .i64 p).wf = true) :
    ∃ w', (Instr.mapUpdate 64 (.map (some b)) (.int .i64 id) (.int .i64 p)).run Try.prog w = .ok () w' ∧ MapF w' b (setF f id (some p)) (putC (f id) c) ∧ w.grownBy w' (some b) := by
  obtain ⟨D, hD, hs, hh, ha⟩ := h
  obtain ⟨w', hr, hM, hg⟩ := World.ownsMap.update (t := 64) (key := .int .i64 id) (val := .int .i64 p) hD lawI Try.underlying64 hc (keyOf_int_mk Try.underlying3 hid) (plainElem_int Try.underlying3 hp)
  have hI : IsMap D := hD.isMap
  have hsz : Maps.size (D.put (.int .i64 id) (.lit (.int .i64 p))) = putC (f id) c := by
    unfold putC
    rw [Maps.size_put (hD.tidy lawI), hh, hs]
  refine ⟨w', hr, ⟨_, ?_, hsz, fun j => ?_, fun j q hj => ?_⟩, hg⟩
  · obtain ⟨es, clock, e1, e2, e3, e4⟩ := hM
    refine ⟨es, clock, e1, e2, ?_, e4⟩
    rw [e4] at hsz
    simp only [Maps.size, length_sorted, List.length_map, Array.length_toList] at hsz
    omega
  · by_cases e : j = id
    · subst e; rw [has_put_same hI (by trivial), setF_same]; rfl
    · rw [has_put_other (fun q => e (Lit.int.inj q).2), hh, setF_other _ _ e]
  · by_cases e : j = id
    · subst e
      rw [setF_same] at hj
      cases hj
      rw [atKey_put_same hI (by trivial)]
    · rw [setF_other _ _ e] at hj
      rw [atKey_put_other (fun q => e (Lit.int.inj q).2)]
      exact ha j q hj
theorem MapF.del {w : World} {b : Nat} {f : Int → Option Int} {c : Nat} (h : MapF w b f c) {id : Int} (hid : (Lit.int .i64 id).wf = true) (ty : TypeId) :
    ∃ w', (Builtin.delete_ #[64, 3] ty #[.map (some b), .int .i64 id]).run Try.prog w = .ok (.tuple #[]) w' ∧ MapF w' b (setF f id none) (delC (f id) c) ∧ w.grownBy w' (some b) := by
  obtain ⟨D, hD, hs, hh, ha⟩ := h
  obtain ⟨w', hr, hM, hg⟩ := World.ownsMap.drop (t := 64) (key := .int .i64 id) hD lawI Try.underlying64 (keyOf_int_mk Try.underlying3 hid) ty
  have hsz : Maps.size (D.del (.int .i64 id)) = delC (f id) c := by
    unfold delC
    have := Maps.size_del (k := .int .i64 id) (hD.tidy lawI)
    rw [hh, hs] at this
    by_cases e : (f id).isSome = true
    · rw [if_pos e] at this ⊢; omega
    · rw [if_neg e] at this ⊢; omega
  refine ⟨w', hr, ⟨_, ?_, hsz, fun j => ?_, fun j q hj => ?_⟩, hg.grown⟩
  · obtain ⟨es, clock, e1, e2, e3, e4⟩ := hM
    refine ⟨es, clock, e1, e2, ?_, e4⟩
    rw [e4] at hsz
    simp only [Maps.size, length_sorted, List.length_map, Array.length_toList] at hsz
    omega
  · by_cases e : j = id
    · subst e; rw [has_del_same, setF_same]; rfl
    · rw [has_del_other (fun q => e (Lit.int.inj q).2), hh, setF_other _ _ e]
  · by_cases e : j = id
    · subst e
      rw [setF_same] at hj
      cases hj
    · rw [setF_other _ _ e] at hj
      rw [atKey_del_other (fun q => e (Lit.int.inj q).2)]
      exact ha j q hj
theorem MapF.look {w : World} {b : Nat} {f : Int → Option Int} {c : Nat} (h : MapF w b f c) {id : Int} (hid : (Lit.int .i64 id).wf = true) :
    (Instr.lookup 64 (.map (some b)) (.int .i64 id) true).run Try.prog w = .ok (.tuple #[.int .i64 ((f id).getD 0), .bool (f id).isSome]) w := by
  obtain ⟨D, hD, hs, hh, ha⟩ := h
  obtain ⟨v, ps, hr, hv⟩ := World.ownsMap.look_ok (t := 64) (key := .int .i64 id) hD lawI Try.underlying64 (zeroI w) (plainElem_int (a := 0) Try.underlying3 (by decide)) (keyOf_int_mk Try.underlying3 hid)
  obtain ⟨q, rfl, hq, _⟩ := plainElem_int_inv Try.underlying3 hv
  simp only [Prod.mk.injEq] at hq
  rw [hr, hh]
  have e : q = (f id).getD 0 := by
    cases e : f id with
    | none =>
      have h0 : has D (.int .i64 id) = false := by rw [hh, e]; rfl
      have h1 := (atKey_of_not_has h0 (.lit (.int .i64 0))).symm.trans hq.1
      exact ((Lit.int.inj (DataW.lit.inj h1)).2).symm
    | some p => exact ((Lit.int.inj (DataW.lit.inj ((ha id p e).symm.trans hq.1))).2).symm
  rw [e]
end Go.Proofs.Ytfgmglghlapbcaa
