/-
  Maps from numbers to values of any kind that reads and writes, as functions.
-/
import Derived.Test.YtfgmglghlapbcaaKitM
namespace Go.Proofs.Ytfgmglghlapbcaa
open Go.RowKit Go.Maps
set_option linter.unusedVariables false
section
variable {α : Type}
/-- how a map's values are laid and read -/
structure ElemG (enc : α → Value) (dat : α → DataW Unit) (R : Value → Option (DataW Unit × List MemPlace)) (ok : α → Prop) : Prop where
  wr : ∀ x, ok x → R (enc x) = some (dat x, [])
  inv : ∀ v z, R v = some z → ∃ x, ok x ∧ v = enc x ∧ z.1 = dat x
  inj : ∀ x y, dat x = dat y → x = y
/-- a map of c numbers, as a function -/
def MapG (enc : α → Value) (dat : α → DataW Unit) (R : Value → Option (DataW Unit × List MemPlace)) (ok : α → Prop) (w : World) (b : Nat) (f : Int → Option α) (c : Nat) : Prop :=
  ∃ D : DataW Unit, w.ownsMap Try.prog 3 R b c D ∧ Maps.size D = c ∧ (∀ id, has D (.int .i64 id) = (f id).isSome) ∧ (∀ id p, f id = some p → ok p ∧ ∀ z, D.atKey (.int .i64 id) z = dat p)
variable {enc : α → Value} {dat : α → DataW Unit} {R : Value → Option (DataW Unit × List MemPlace)} {ok : α → Prop}
theorem MapG.made (w : World) : MapG enc dat R ok (w.alloc (.map #[] 0)) w.heap.size (fun _ => none) 0 :=
  ⟨.map [], World.ownsMap_made w _ _ _, rfl, fun _ => rfl, fun _ _ h => by cases h⟩
theorem MapG.lt {w : World} {b : Nat} {f : Int → Option α} {c : Nat} (h : MapG enc dat R ok w b f c) : b < w.heap.size := by obtain ⟨D, h, _⟩ := h; exact h.lt
theorem MapG.of_heap {w w' : World} {b : Nat} {f : Int → Option α} {c : Nat} (h : MapG enc dat R ok w b f c) (e : w'.heap[b]? = w.heap[b]?) : MapG enc dat R ok w' b f c := by
  obtain ⟨D, ⟨es, clock, hb, r⟩, k⟩ := h
  exact ⟨D, ⟨es, clock, by rw [e]; exact hb, r⟩, k⟩
theorem MapG.kept {w w' : World} {b : Nat} {f : Int → Option α} {c : Nat} {S : List Nat} (h : MapG enc dat R ok w b f c) (hk : Kept S w w') (hS : b ∉ S) : MapG enc dat R ok w' b f c := h.of_heap (hk.block b h.lt hS)
theorem MapG.below {w w' : World} {b : Nat} {f : Int → Option α} {c : Nat} (h : MapG enc dat R ok w b f c) (hk : Below w.heap.size w w') : MapG enc dat R ok w' b f c := h.of_heap (hk.block b h.lt)
theorem MapG.setCell {w : World} {b : Nat} {f : Int → Option α} {c : Nat} (h : MapG enc dat R ok w b f c) {a : Addr} (ha : b ≠ a.block) (u : Value) : MapG enc dat R ok (w.setCell a u) b f c := h.of_heap (Below.heap_setCell _ _ _ _ ha)
theorem MapG.put (hE : ElemG enc dat R ok) {T E : TypeId} (hT : Try.prog.underlying T = some (.map 3 E)) {w : World} {b : Nat} {f : Int → Option α} {c : Nat} (h : MapG enc dat R ok w b f c) (hc : c < maxLen) {id : Int} {p : α} (hid : (Lit.int .i64 id).wf = true) (hp : ok p) :
    ∃ w', (Instr.mapUpdate T (.map (some b)) (.int .i64 id) (enc p)).run Try.prog w = .ok () w' ∧ MapG enc dat R ok w' b (setF f id (some p)) (putC (f id |>.map fun _ => (0 : Int)) c) ∧ w.grownBy w' (some b) := by
  obtain ⟨D, hD, hs, hh, ha⟩ := h
  obtain ⟨w', hr, hM, hg⟩ := World.ownsMap.update (t := T) (key := .int .i64 id) (val := enc p) hD lawI hT hc (keyOf_int_mk Try.underlying3 hid) (hE.wr p hp)
  have hI : IsMap D := hD.isMap
  have hsz : Maps.size (D.put (.int .i64 id) (dat p)) = putC (f id |>.map fun _ => (0 : Int)) c := by
    unfold putC
    rw [Maps.size_put (hD.tidy lawI), hh, hs]
    cases f id <;> rfl
  refine ⟨w', hr, ⟨_, ?_, hsz, fun j => ?_, fun j q hj => ?_⟩, hg⟩
  · obtain ⟨es, clock, e1, e2, e3, e4⟩ := hM
    refine ⟨es, clock, e1, e2, ?_, e4⟩
    rw [e4] at hsz
    simp only [Maps.size, length_sorted, List.length_map, Array.length_toList] at hsz
    omega
  · by_cases e : j = id
    · subst e; rw [has_put_same hI (by trivial), setF_same]; rfl
    · rw [has_put_other (fun q => e (Lit.int.inj q).2), hh, setF_other _ _ e]
  · by_cases e : j = id
    · subst e
      rw [setF_same] at hj
      cases hj
      exact ⟨hp, fun z => by rw [atKey_put_same hI (by trivial)]⟩
    · rw [setF_other _ _ e] at hj
      exact ⟨(ha j q hj).1, fun z => by rw [atKey_put_other (fun q => e (Lit.int.inj q).2)]; exact (ha j q hj).2 z⟩
theorem MapG.del {T E : TypeId} (hT : Try.prog.underlying T = some (.map 3 E)) {w : World} {b : Nat} {f : Int → Option α} {c : Nat} (h : MapG enc dat R ok w b f c) {id : Int} (hid : (Lit.int .i64 id).wf = true) (ty : TypeId) :
    ∃ w', (Builtin.delete_ #[T, 3] ty #[.map (some b), .int .i64 id]).run Try.prog w = .ok (.tuple #[]) w' ∧ MapG enc dat R ok w' b (setF f id none) (delC (f id |>.map fun _ => (0 : Int)) c) ∧ w.grownBy w' (some b) := by
  obtain ⟨D, hD, hs, hh, ha⟩ := h
  obtain ⟨w', hr, hM, hg⟩ := World.ownsMap.drop (t := T) (key := .int .i64 id) hD lawI hT (keyOf_int_mk Try.underlying3 hid) ty
  have hsz : Maps.size (D.del (.int .i64 id)) = delC (f id |>.map fun _ => (0 : Int)) c := by
    unfold delC
    have := Maps.size_del (k := .int .i64 id) (hD.tidy lawI)
    rw [hh, hs] at this
    cases e : f id with
    | none => rw [e] at this; simpa using this
    | some x => rw [e] at this; simp at this ⊢; omega
  refine ⟨w', hr, ⟨_, ?_, hsz, fun j => ?_, fun j q hj => ?_⟩, hg.grown⟩
  · obtain ⟨es, clock, e1, e2, e3, e4⟩ := hM
    refine ⟨es, clock, e1, e2, ?_, e4⟩
    rw [e4] at hsz
    simp only [Maps.size, length_sorted, List.length_map, Array.length_toList] at hsz
    omega
  · by_cases e : j = id
    · subst e; rw [has_del_same, setF_same]; rfl
    · rw [has_del_other (fun q => e (Lit.int.inj q).2), hh, setF_other _ _ e]
  · by_cases e : j = id
    · subst e
      rw [setF_same] at hj
      cases hj
    · rw [setF_other _ _ e] at hj
      exact ⟨(ha j q hj).1, fun z => by rw [atKey_del_other (fun q => e (Lit.int.inj q).2)]; exact (ha j q hj).2 z⟩
theorem MapG.len {T E : TypeId} (hT : Try.prog.underlying T = some (.map 3 E)) {w : World} {b : Nat} {f : Int → Option α} {c : Nat} (h : MapG enc dat R ok w b f c) (ty : TypeId) : (Builtin.len_ #[T] ty #[.map (some b)]).run Try.prog w = .ok (.int .i64 c) w := by
  obtain ⟨D, hD, hs, _⟩ := h
  rw [← hs]
  exact hD.len hT ty
theorem MapG.look (hE : ElemG enc dat R ok) {T E : TypeId} (hT : Try.prog.underlying T = some (.map 3 E)) {z0 : α} (hz : ok z0) (hz0 : ∀ w, (zeroValue E).run Try.prog w = .ok (enc z0) w) {w : World} {b : Nat} {f : Int → Option α} {c : Nat} (h : MapG enc dat R ok w b f c) {id : Int} (hid : (Lit.int .i64 id).wf = true) :
    (Instr.lookup T (.map (some b)) (.int .i64 id) true).run Try.prog w = .ok (.tuple #[enc ((f id).getD z0), .bool (f id).isSome]) w ∧
    (Instr.lookup T (.map (some b)) (.int .i64 id) false).run Try.prog w = .ok (enc ((f id).getD z0)) w := by
  obtain ⟨D, hD, hs, hh, ha⟩ := h
  have key : ∀ x : α, ok x → dat x = D.atKey (.int .i64 id) (dat z0) → x = (f id).getD z0 := fun x hx hq => by
    refine hE.inj _ _ ?_
    rw [hq]
    cases e : f id with
    | none => exact atKey_of_not_has (by rw [hh, e]; rfl) (dat z0)
    | some p => exact (ha id p e).2 _
  constructor
  · obtain ⟨v, ps, hr, hv⟩ := World.ownsMap.look_ok (t := T) (key := .int .i64 id) hD lawI hT (hz0 w) (hE.wr z0 hz) (keyOf_int_mk Try.underlying3 hid)
    obtain ⟨x, hx, rfl, hq⟩ := hE.inv _ _ hv
    rw [hr, hh, key x hx hq.symm]
  · obtain ⟨v, ps, hr, hv⟩ := World.ownsMap.lookup (t := T) (key := .int .i64 id) hD lawI hT (hz0 w) (hE.wr z0 hz) (keyOf_int_mk Try.underlying3 hid)
    obtain ⟨x, hx, rfl, hq⟩ := hE.inv _ _ hv
    rw [hr, key x hx hq.symm]
end
end Go.Proofs.Ytfgmglghlapbcaa
