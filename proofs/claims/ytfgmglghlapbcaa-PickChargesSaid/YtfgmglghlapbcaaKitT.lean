/-
  Slices of records: lists in memory; append of such.
-/
import Derived.Test.YtfgmglghlapbcaaKitB
import Derived.Test.YtfgmglghlapbcaaKitH
import Derived.Test.YtfgmglghlapbcaaKitO
import Derived.Laws.OwnMore
namespace Go.Proofs.Ytfgmglghlapbcaa
open Go.RowKit
set_option linter.unusedVariables false
theorem own_below {w w' : World} {base e size : Nat} {v : Value} {n : Nat} {xs : List Value} (h : w.ownsRow base e size v n xs) (hb : Below w.heap.size w w') : w'.ownsRow base e size v n xs := by
  refine ⟨h.1, ?_⟩
  rcases h.2 with h2 | ⟨g, cap, cur, h1, h2, h3, h4⟩
  · exact Or.inl h2
  · have hg : g < w.heap.size := by
      rcases Nat.lt_or_ge g w.heap.size with q | q
      · exact q
      · rw [Array.getElem?_eq_none q] at h3; cases h3
    exact Or.inr ⟨g, cap, cur, h1, h2, by rw [hb.block g hg]; exact h3, h4⟩
section
variable {α : Type}
/-- the cells of records, one after the other -/
def flatR (enc : α → List Value) (L : List α) : List Value := L.flatMap enc
/-- how a type's records are laid: so many cells each -/
structure Enc (enc : α → List Value) (k : Nat) : Prop where
  len : ∀ x, (enc x).length = k
  one : ∀ x, ∀ u ∈ enc x, u.oneCell' = true
  pos : 0 < k
variable {enc : α → List Value} {k : Nat}
theorem flatR_app (L M : List α) : flatR enc (L ++ M) = flatR enc L ++ flatR enc M := by simp [flatR]
theorem flatR_len (h : Enc enc k) (L : List α) : (flatR enc L).length = L.length * k := by
  induction L with
  | nil => simp [flatR]
  | cons x r ih =>
    have e : flatR enc (x :: r) = enc x ++ flatR enc r := rfl
    rw [e, List.length_append, h.len, ih, List.length_cons, Nat.add_mul]; omega
theorem flatR_one (h : Enc enc k) (L : List α) : ∀ u ∈ flatR enc L, u.oneCell' = true := by
  intro u hu
  simp only [flatR, List.mem_flatMap] at hu
  obtain ⟨x, _, hx⟩ := hu
  exact h.one x u hx
theorem flatR_at (h : Enc enc k) : ∀ {L : List α} {i : Nat} {x : α}, L[i]? = some x → ∀ j, j < k → (flatR enc L)[i * k + j]? = (enc x)[j]?
  | [], i, x, hx, j, hj => by simp at hx
  | y :: r, 0, x, hx, j, hj => by
    simp only [List.getElem?_cons_zero, Option.some.injEq] at hx
    subst hx
    have e : flatR enc (y :: r) = enc y ++ flatR enc r := rfl
    rw [e, Nat.zero_mul, Nat.zero_add, List.getElem?_append_left (by rw [h.len]; exact hj)]
  | y :: r, i + 1, x, hx, j, hj => by
    have e : flatR enc (y :: r) = enc y ++ flatR enc r := rfl
    rw [e, List.getElem?_append_right (by rw [h.len, Nat.add_mul]; omega), h.len, show (i + 1) * k + j - k = i * k + j by rw [Nat.add_mul]; omega]
    exact flatR_at h (by simpa using hx) j hj
theorem flatR_take (h : Enc enc k) (L : List α) (m : Nat) : flatR enc (L.take m) = (flatR enc L).take (m * k) := by
  by_cases hm : m ≤ L.length
  · have e : flatR enc L = flatR enc (L.take m) ++ flatR enc (L.drop m) := by rw [← flatR_app, List.take_append_drop]
    have hl : (flatR enc (L.take m)).length = m * k := by rw [flatR_len h, List.length_take, Nat.min_eq_left hm]
    rw [e, List.take_append_of_le_length (Nat.le_of_eq hl.symm), List.take_of_length_le (Nat.le_of_eq hl)]
  · rw [List.take_of_length_le (by omega), List.take_of_length_le (by rw [flatR_len h]; exact Nat.mul_le_mul_right _ (by omega))]
/-- a slice that reads as a list of records -/
def RecsAt (enc : α → List Value) (w : World) (v : Value) (L : List α) : Prop := ∃ a cap, v = .slice a L.length cap ∧ L.length ≤ cap ∧ cap ≤ 9223372036854775807 ∧ (a = none → cap = 0) ∧ (L = [] ∨ ∃ b off, a = some ⟨b, off, none⟩ ∧ ∀ j u, (flatR enc L)[j]? = some u → w.cell? ⟨b, off + j, none⟩ = some u)
theorem RecsAt.later {w w' : World} {v : Value} {L : List α} (h : RecsAt enc w v L) (hb : Below w.heap.size w w') : RecsAt enc w' v L := by
  obtain ⟨a, cap, e, h1, h2, h3, h⟩ := h
  exact ⟨a, cap, e, h1, h2, h3, h.imp id fun ⟨b, off, e, hc⟩ => ⟨b, off, e, fun j u hu => cell_later hb (hc j u hu)⟩⟩
theorem RecsAt.nil (w : World) : RecsAt enc w (.slice none 0 0) [] := ⟨none, 0, rfl, Nat.le_refl _, by omega, fun _ => rfl, Or.inl rfl⟩
/-- one record's cells -/
theorem RecsAt.at (he : Enc enc k) {w : World} {a : Option Addr} {n cap : Nat} {L : List α} (h : RecsAt enc w (.slice a n cap) L) {i : Nat} {x : α} (hx : L[i]? = some x) : n = L.length ∧ ∃ b off, a = some ⟨b, off, none⟩ ∧ ∀ j u, (enc x)[j]? = some u → w.cell? ⟨b, off + i * k + j, none⟩ = some u := by
  obtain ⟨a', cap', e, _, _, _, h⟩ := h
  cases e
  refine ⟨rfl, ?_⟩
  have hi := (List.getElem?_eq_some_iff.1 hx).1
  rcases h with h | ⟨b, off, rfl, hc⟩
  · subst h; simp at hi
  · refine ⟨b, off, rfl, fun j u hu => ?_⟩
    have hj : j < k := by rw [← he.len x]; exact (List.getElem?_eq_some_iff.1 hu).1
    rw [Nat.add_assoc]
    exact hc _ u ((flatR_at he hx j hj).trans hu)
/-- records of a row of the call's own -/
theorem own_recs (he : Enc enc k) {w : World} {base e : Nat} {v : Value} {L : List α} (h : w.ownsRow base e k v L.length (flatR enc L)) : RecsAt enc w v L := by
  have hk := he.pos
  rcases h.2 with ⟨rfl, h0⟩ | ⟨g, cap, cur, rfl, _, _, h5, h6, _⟩
  · have : L = [] := List.eq_nil_of_length_eq_zero h0; subst this; exact RecsAt.nil w
  · refine ⟨some ⟨g, 0, none⟩, cap, rfl, h5, by unfold maxLen at h6; omega, (fun q => by cases q), Or.inr ⟨g, 0, rfl, fun j u hu => ?_⟩⟩
    have hj : j < L.length * k := by rw [← flatR_len he]; exact (List.getElem?_eq_some_iff.1 hu).1
    rw [Nat.zero_add, h.cellAt j hj]
    exact hu
theorem RecsAt.take (he : Enc enc k) {w : World} {a : Option Addr} {n cap m : Nat} {L : List α} (h : RecsAt enc w (.slice a n cap) L) (hm : m ≤ n) : RecsAt enc w (.slice a m cap) (L.take m) := by
  obtain ⟨a', cap', e, h1, h2, h3, h⟩ := h
  cases e
  have hl : (L.take m).length = m := by rw [List.length_take, Nat.min_eq_left hm]
  refine ⟨a, cap, by rw [hl], by rw [hl]; omega, h2, h3, ?_⟩
  rcases h with h | ⟨b, off, rfl, hc⟩
  · subst h; exact Or.inl (by simp)
  · refine Or.inr ⟨b, off, rfl, fun j u hu => hc j u ?_⟩
    rw [flatR_take he, List.getElem?_take] at hu
    split at hu
    · exact hu
    · cases hu
theorem RecsAt.drop (he : Enc enc k) {w : World} {b off n cap m : Nat} {L : List α} (h : RecsAt enc w (.slice (some ⟨b, off, none⟩) n cap) L) (hm : m ≤ n) (hc : cap ≠ m) : RecsAt enc w (.slice (some ⟨b, off + m * k, none⟩) (n - m) (cap - m)) (L.drop m) := by
  obtain ⟨a', cap', e, h1, h2, h3, h⟩ := h
  cases e
  have hl : (L.drop m).length = L.length - m := by simp
  refine ⟨_, _, by rw [hl], by rw [hl]; omega, by omega, (fun q => by cases q), ?_⟩
  rcases h with h | ⟨b', off', e', hc'⟩
  · subst h; exact Or.inl (by simp)
  · cases e'
    refine Or.inr ⟨b, off + m * k, rfl, fun j u hu => ?_⟩
    rw [Nat.add_assoc]
    refine hc' _ u ?_
    have e2 : flatR enc L = flatR enc (L.take m) ++ flatR enc (L.drop m) := by rw [← flatR_app, List.take_append_drop]
    rw [e2, List.getElem?_append_right (by rw [flatR_len he, List.length_take, Nat.min_eq_left hm]; omega), flatR_len he, List.length_take, Nat.min_eq_left hm, Nat.add_sub_cancel_left]
    exact hu
theorem RecsAt.end_ {w : World} {a : Option Addr} {n cap : Nat} {L : List α} (h : RecsAt enc w (.slice a n cap) L) : RecsAt enc w (.slice a 0 0) [] := by
  obtain ⟨a', cap', e, h1, h2, h3, h⟩ := h
  cases e
  exact ⟨a, 0, rfl, Nat.le_refl _, by omega, fun _ => rfl, Or.inl rfl⟩
/-- records of a literal -/
theorem lit_recs (he : Enc enc k) (w : World) (L : List α) (t : TypeId) (h : L.length ≤ 9223372036854775807) : RecsAt enc (w.alloc (.cells (flatR enc L).toArray t)) (.slice (some ⟨w.heap.size, 0, none⟩) L.length L.length) L :=
  ⟨_, _, rfl, Nat.le_refl _, h, (fun q => by cases q), Or.inr ⟨w.heap.size, 0, rfl, fun j u hu => by rw [Nat.zero_add]; exact cell_nw _ _ _ _ _ (by simpa using hu)⟩⟩
end
section
variable {α : Type} {enc : α → List Value} {P : Program} {w : World} (base : Nat) (t ty e : TypeId) (i : TypeInfo) (z : Value) (size bytes : Nat)
/-- append of records to a row of the call's own -/
theorem run_append_recs (he : Enc enc size) (ht : P.underlying t = some (.slice e)) (hi : P.info? e = some i) (hz : i.zero = some z) (hsize : i.size = size) (hby : i.bytes = bytes) (hzs : z.cells.size = size)
    (v : Value) (n : Nat) (xs : List Value) (hown : w.ownsRow base e size v n xs) (s : Value) (L : List α) (hs : RecsAt enc w s L)
    (h63 : n + L.length ≤ maxLen) (hbytes : (n + L.length) * bytes ≤ 140737488355328) (hbase : base ≤ w.heap.size) :
    ∃ v' w', (Builtin.append_ #[t, t] ty #[v, s]).run P w = .ok v' w' ∧ w'.ownsRow base e size v' (n + L.length) (xs ++ flatR enc L) ∧ w.grownBy w' v.ownBlock ∧ (L ≠ [] → v'.ownBlock = v.ownBlock ∨ v'.ownBlock = some w.heap.size) ∧ (L = [] → v' = v) := by
  obtain ⟨a, cap, rfl, h1, h2, h3, h⟩ := hs
  cases a with
  | none =>
    have hc : cap = 0 := h3 rfl
    subst hc
    have hl : L.length = 0 := by omega
    have hL : L = [] := List.eq_nil_of_length_eq_zero hl
    subst hL
    refine ⟨v, w, run_append_owned_none (P := P) (w := w) base t ty e i size ht hi v n xs hown, by simpa [flatR] using hown, ⟨rfl, rfl, rfl, Nat.le_refl _, fun _ _ _ => rfl⟩, fun q => absurd rfl q, fun _ => rfl⟩
  | some ad =>
    have hnews : ∀ j u, (flatR enc L)[j]? = some u → w.cell? (ad.add j) = some u := by
      rcases h with h | ⟨b, off, e', hc⟩
      · subst h; intro j u hu; simp [flatR] at hu
      · cases e'; exact fun j u hu => by rw [addr_add]; exact hc j u hu
    obtain ⟨v', w', hr, q1, q2, q3⟩ := run_append_own (P := P) w base t ty e i z size bytes ht hi hz hsize hby hzs he.pos v n xs hown ad L.length cap (flatR enc L) (flatR_len he L) hnews (flatR_one he L) h63 hbytes hbase
    refine ⟨v', w', hr, q1, q2, fun hne => ?_, fun hL => ?_⟩
    · exact run_append_place (P := P) (w := w) base t ty e i z size bytes ht hi hz hsize hby hzs he.pos v n xs hown ad L.length cap (flatR enc L) (flatR_len he L) hnews (flatR_one he L) h63 hbytes (by cases L with | nil => exact absurd rfl hne | cons _ _ => simp) hr
    · subst hL
      have hs := he.pos
      subst hsize
      rcases hown.2 with ⟨rfl, rfl⟩ | ⟨g, cap', cur, rfl, _, hg, h5, h6, h7, h8⟩
      · exact (q3.2 ⟨rfl, rfl⟩)
      · rw [List.length_nil] at hr
        rw [run_append_room (P := P) w t ty e i ht hi g n cap' cur hg ad 0 cap [] (by simp) (fun j u hu => by simp at hu) (fun u hu => by cases hu) (by omega) (by rw [h7, List.length_nil, Nat.add_zero]; exact Nat.mul_le_mul_right _ h5)] at hr
        cases hr
        rfl
/-- append of records to an empty row without room: nothing that was there changes -/
theorem run_append_fresh (he : Enc enc size) (ht : P.underlying t = some (.slice e)) (hi : P.info? e = some i) (hz : i.zero = some z) (hsize : i.size = size) (hby : i.bytes = bytes) (hzs : z.cells.size = size)
    (g : Nat) (hown : w.ownsRow base e size (.slice (some ⟨g, 0, none⟩) 0 0) 0 []) (s : Value) (L : List α) (hs : RecsAt enc w s L)
    (h63 : L.length ≤ maxLen) (hbytes : L.length * bytes ≤ 140737488355328) (hbase : base ≤ w.heap.size) :
    ∃ v' w', (Builtin.append_ #[t, t] ty #[.slice (some ⟨g, 0, none⟩) 0 0, s]).run P w = .ok v' w' ∧ w'.ownsRow base e size v' L.length (flatR enc L) ∧ Below w.heap.size w w' ∧ ((L = [] ∧ v' = .slice (some ⟨g, 0, none⟩) 0 0) ∨ v'.ownBlock = some w.heap.size) := by
  obtain ⟨v', w', hr, q1, q2, q3, q4⟩ := run_append_recs (P := P) (w := w) base t ty e i z size bytes he ht hi hz hsize hby hzs _ 0 [] hown s L hs (by omega) (by rw [Nat.zero_add]; exact hbytes) hbase
  have q1' := q1
  rw [Nat.zero_add, List.nil_append] at q1'
  have hg : g < w.heap.size := (hown.lt g rfl).2
  have hbelow : Below w.heap.size w w' ∧ ((L = [] ∧ v' = .slice (some ⟨g, 0, none⟩) 0 0) ∨ v'.ownBlock = some w.heap.size) := by
    obtain ⟨a, cap, rfl, h1, h2, h3, h⟩ := hs
    cases a with
    | none =>
      have hc : cap = 0 := h3 rfl
      subst hc
      have hl : L.length = 0 := by omega
      have hL : L = [] := List.eq_nil_of_length_eq_zero hl
      subst hL
      have := run_append_owned_none (P := P) (w := w) base t ty e i size ht hi _ 0 [] hown
      rw [List.length_nil, this] at hr
      cases hr
      exact ⟨Below.refl _ _, Or.inl ⟨rfl, rfl⟩⟩
    | some ad =>
      have hnews : ∀ j u, (flatR enc L)[j]? = some u → w.cell? (ad.add j) = some u := by
        rcases h with h | ⟨b, off, e', hc⟩
        · subst h; intro j u hu; simp [flatR] at hu
        · cases e'; exact fun j u hu => by rw [addr_add]; exact hc j u hu
      by_cases hL : L = []
      · subst hL
        subst hsize
        rcases hown.2 with ⟨q, _⟩ | ⟨g', cap', cur, eg, _, hgc, h5, h6, h7, h8⟩
        · cases q
        · cases eg
          have hcur : cur = #[] := by
            rw [Nat.zero_mul] at h7
            exact Array.eq_empty_of_size_eq_zero h7
          rw [List.length_nil, run_append_room (P := P) w t ty e i ht hi g 0 0 cur hgc ad 0 cap [] (by simp) (fun j u hu => by simp at hu) (fun u hu => by cases hu) (by omega) (by simp)] at hr
          cases hr
          refine ⟨⟨rfl, rfl, rfl, by simp [World.setRow], fun j hj => ?_⟩, Or.inl ⟨rfl, rfl⟩⟩
          subst hcur
          by_cases hjg : g = j
          · subst hjg; rw [setRow_heap _ _ _ _ _ _ hgc, hgc]; simp
          · show (w.heap.modify g _)[j]? = _
            rw [Array.getElem?_modify, if_neg hjg]
      · have hpos : 0 < L.length := by cases L with | nil => exact absurd rfl hL | cons _ _ => simp
        subst hsize
        subst hby
        rw [run_append_grow (P := P) w t ty e i z ht hi hz ⟨g, 0, none⟩ 0 0 [] (by simp) (fun j u hu => by simp at hu) ad L.length cap (flatR enc L) (flatR_len he L) hnews (by omega) (by unfold maxLen at h63; omega) (growslice_fits (by omega) (by rw [Nat.zero_add]; exact hbytes))] at hr
        cases hr
        exact ⟨Below.allocS (Below.refl _ _).drew _, Or.inr rfl⟩
  exact ⟨v', w', hr, q1', hbelow.1, hbelow.2⟩
end
section
variable {α : Type} {enc : α → List Value} {P : Program} {ops : Array Oper} {o : Oper} {a : Act} {w : World} {K : Act → World → Prop} {Q : Exit → Act → World → Prop} {E : Prop} {rest : List Oper}
/-- append of records to an own row, as a step of a region -/
theorem stepR (hg : o.guard = none) (s x : Operand) (t : TypeId) (hop : o.op = Op.call { callee := Callee.builtin Builtin.append, args := #[s, x], argTypes := #[t, t] })
    (base : Nat) (e : TypeId) (i : TypeInfo) (z : Value) (size bytes : Nat) (he : Enc enc size) (ht : P.underlying t = some (.slice e)) (hi : P.info? e = some i) (hz : i.zero = some z) (hsize : i.size = size) (hby : i.bytes = bytes) (hzs : z.cells.size = size)
    (v : Value) (n : Nat) (xs : List Value) (hs : a.eval s = v) (hown : w.ownsRow base e size v n xs) (s' : Value) (L : List α) (hx : a.eval x = s') (hr : RecsAt enc w s' L)
    (h63 : n + L.length ≤ maxLen) (hbytes : (n + L.length) * bytes ≤ 140737488355328) (hbase : base ≤ w.heap.size)
    (hK : ∀ v' w', w'.ownsRow base e size v' (n + L.length) (xs ++ flatR enc L) → w.grownBy w' v.ownBlock → (L ≠ [] → v'.ownBlock = v.ownBlock ∨ v'.ownBlock = some w.heap.size) → (L = [] → v' = v) → K (a.put o.dst v') w') :
    if Region.wanted o (yielded ops a.tmps) = true then Oper.wp P o a w K Q else E := by
  have hw : Region.wanted o (yielded ops a.tmps) = true := by simp [Region.wanted, hg]
  rw [if_pos hw]
  obtain ⟨v', w', hrun, r1, r2, r3, r4⟩ := run_append_recs (P := P) (w := w) base t o.type e i z size bytes he ht hi hz hsize hby hzs v n xs hown s' L hr h63 hbytes hbase
  unfold Oper.wp
  simp [execOp, hop, resolve, invoke, builtin, hs, hx, hrun, Result.andThen]
  exact hK v' w' r1 r2 r3 r4
/-- append of records to an empty literal, as a step of a region -/
theorem stepF (hg : o.guard = none) (s x : Operand) (t : TypeId) (hop : o.op = Op.call { callee := Callee.builtin Builtin.append, args := #[s, x], argTypes := #[t, t] })
    (base : Nat) (e : TypeId) (i : TypeInfo) (z : Value) (size bytes : Nat) (he : Enc enc size) (ht : P.underlying t = some (.slice e)) (hi : P.info? e = some i) (hz : i.zero = some z) (hsize : i.size = size) (hby : i.bytes = bytes) (hzs : z.cells.size = size)
    (g : Nat) (hs : a.eval s = .slice (some ⟨g, 0, none⟩) 0 0) (hown : w.ownsRow base e size (.slice (some ⟨g, 0, none⟩) 0 0) 0 []) (s' : Value) (L : List α) (hx : a.eval x = s') (hr : RecsAt enc w s' L)
    (h63 : L.length ≤ maxLen) (hbytes : L.length * bytes ≤ 140737488355328) (hbase : base ≤ w.heap.size)
    (hK : ∀ v' w', w'.ownsRow base e size v' L.length (flatR enc L) → Below w.heap.size w w' → ((L = [] ∧ v' = .slice (some ⟨g, 0, none⟩) 0 0) ∨ v'.ownBlock = some w.heap.size) → K (a.put o.dst v') w') :
    if Region.wanted o (yielded ops a.tmps) = true then Oper.wp P o a w K Q else E := by
  have hw : Region.wanted o (yielded ops a.tmps) = true := by simp [Region.wanted, hg]
  rw [if_pos hw]
  obtain ⟨v', w', hrun, r1, r2, r3⟩ := run_append_fresh (P := P) (w := w) base t o.type e i z size bytes he ht hi hz hsize hby hzs g hown s' L hr h63 hbytes hbase
  unfold Oper.wp
  simp [execOp, hop, resolve, invoke, builtin, hs, hx, hrun, Result.andThen]
  exact hK v' w' r1 r2 r3
/-- the same in a list of operations -/
theorem listR (hg : o.guard = none) (s x : Operand) (t : TypeId) (hop : o.op = Op.call { callee := Callee.builtin Builtin.append, args := #[s, x], argTypes := #[t, t] })
    (base : Nat) (e : TypeId) (i : TypeInfo) (z : Value) (size bytes : Nat) (he : Enc enc size) (ht : P.underlying t = some (.slice e)) (hi : P.info? e = some i) (hz : i.zero = some z) (hsize : i.size = size) (hby : i.bytes = bytes) (hzs : z.cells.size = size)
    (v : Value) (n : Nat) (xs : List Value) (hs : a.eval s = v) (hown : w.ownsRow base e size v n xs) (s' : Value) (L : List α) (hx : a.eval x = s') (hr : RecsAt enc w s' L)
    (h63 : n + L.length ≤ maxLen) (hbytes : (n + L.length) * bytes ≤ 140737488355328) (hbase : base ≤ w.heap.size)
    (hK : ∀ v' w', w'.ownsRow base e size v' (n + L.length) (xs ++ flatR enc L) → w.grownBy w' v.ownBlock → (L ≠ [] → v'.ownBlock = v.ownBlock ∨ v'.ownBlock = some w.heap.size) → (L = [] → v' = v) → wpList P ops Q rest (a.put o.dst v') w') :
    wpList P ops Q (o :: rest) a w :=
  wpList_plain hg fun _ hK' => by
    obtain ⟨v', w', hrun, r1, r2, r3, r4⟩ := run_append_recs (P := P) (w := w) base t o.type e i z size bytes he ht hi hz hsize hby hzs v n xs hown s' L hr h63 hbytes hbase
    unfold Oper.wp execOp
    simp only [hop, resolve, invoke, builtin, Sem.run_bind, Sem.run_pure, Result.andThen_ok, List.map_toArray, List.map_cons, List.map_nil, hs, hx, hrun]
    exact hK' _ _ (hK v' w' r1 r2 r3 r4)
theorem RecsAt.len {w : World} {a : Option Addr} {n cap : Nat} {L : List α} (h : RecsAt enc w (.slice a n cap) L) : n = L.length ∧ n ≤ cap ∧ cap ≤ 9223372036854775807 := by
  obtain ⟨a', cap', e, h1, h2, _⟩ := h
  cases e
  exact ⟨rfl, h1, h2⟩
/-- a slice from a place on, up to a place -/
theorem sliced_drop {size : Nat} (he : Enc enc size) {ad : Option Addr} {n cap m : Nat} {L : List α} (h : RecsAt enc w (.slice ad n cap) L) (hm : m ≤ n) : RecsAt enc w (sliced ad m n cap size) (L.drop m) := by
  have hl := h.len
  unfold sliced
  by_cases hc : cap = m
  · have hn : n = m := by omega
    subst hc
    subst hn
    rw [if_pos rfl, Nat.sub_self, List.drop_of_length_le (by omega)]
    exact h.end_
  · rw [if_neg hc]
    cases ad with
    | none =>
      obtain ⟨a', cap', e, h1, h2, h3, _⟩ := h
      cases e
      have := h3 rfl
      omega
    | some p =>
      have h' := h
      obtain ⟨a', cap', e, h1, h2, h3, h4⟩ := h'
      cases e
      rcases h4 with h4 | ⟨b, off, e4, _⟩
      · subst h4
        simp only [List.length_nil] at hm hc ⊢
        exact ⟨some (p.add (m * size)), cap - m, by simp, by simp, by omega, (fun q => by cases q), Or.inl (by simp)⟩
      · cases e4
        have := h.drop he hm hc
        simpa [addr_add] using this
theorem sliced_take {size : Nat} (he : Enc enc size) {ad : Option Addr} {n cap m : Nat} {L : List α} (h : RecsAt enc w (.slice ad n cap) L) (hm : m ≤ n) : RecsAt enc w (sliced ad 0 m cap size) (L.take m) := by
  have ht := h.take he hm
  unfold sliced
  by_cases hc : cap = 0
  · rw [if_pos hc]; subst hc; simpa using ht
  · rw [if_neg hc]
    have e : Option.map (fun x : Addr => x.add (0 * size)) ad = ad := by
      cases ad with
      | none => rfl
      | some p => simp [Addr.add]
    rw [e]; simpa using ht
theorem run_drop (t : TypeId) (x lo : Operand) (hop : o.op = .slice t x (some lo) none none) {ad : Option Addr} {n cap m : Nat} {k : IntKind} (ht : P.underlying t = some (.slice (P.elem t))) {size : Nat} (hs : ∀ w, (Go.sizeOf (P.elem t)).run P w = .ok size w) (hx : a.eval x = .slice ad n cap) (hlo : a.eval lo = .int k m) (hm : m ≤ n) :
    (execOp a.eval o).run P w = .ok (.value (sliced ad m n cap size)) w := by
  unfold execOp
  simp only [hop, Option.map_some, Option.map_none, hx, hlo, Sem.run_bind, Sem.run_pure, run_sliceAt_slice w t _ _ _ _ ht, run_slice_l w t ad n cap ht k (m : Int) (by omega) (by omega), hs, Result.andThen_ok, Int.toNat_natCast]
theorem run_take (t : TypeId) (x hi : Operand) (hop : o.op = .slice t x none (some hi) none) {ad : Option Addr} {n cap m : Nat} {k : IntKind} (ht : P.underlying t = some (.slice (P.elem t))) {size : Nat} (hs : ∀ w, (Go.sizeOf (P.elem t)).run P w = .ok size w) (hx : a.eval x = .slice ad n cap) (hlo : a.eval hi = .int k m) (hm : m ≤ cap) :
    (execOp a.eval o).run P w = .ok (.value (sliced ad 0 m cap size)) w := by
  unfold execOp
  simp only [hop, Option.map_some, Option.map_none, hx, hlo, Sem.run_bind, Sem.run_pure, run_sliceAt_slice w t _ _ _ _ ht, run_slice_h w t ad n cap ht k (m : Int) (by omega) (by omega), hs, Result.andThen_ok, Int.toNat_natCast]
end
end Go.Proofs.Ytfgmglghlapbcaa
