/-
  How a law's plain arguments are opened: a struct by value, and a row of plain elements.
-/
import Derived.Test.YtapnaocdehahdaaKtA
namespace Go.Proofs.Ytapnaocdehahdaa
open Go.RowKit Go.WideShapes
set_option linter.unusedVariables false
set_option linter.unusedSimpArgs false
def joinPieces (K : TypeId → Option (List (Option IntKind))) (size : TypeId → Nat) : List (Nat × TypeId) → Nat → Option (List (Option IntKind))
  | [], _ => some []
  | p :: r, o => if p.1 = o then
      match K p.2 with
      | some k => if size p.2 = k.length then (joinPieces K size r (o + k.length)).map (k ++ ·) else none
      | none => none
    else none
def plainKinds (P : Program) : Nat → TypeId → Option (List (Option IntKind))
  | 0, _ => none
  | n + 1, t =>
    match P.underlying t with
    | some (.int k) => some [some k]
    | some .bool => some [none]
    | some (.struct fs) => joinPieces (plainKinds P n) P.cellsOf (fs.toList.map fun f => (f.offset, f.type)) 0
    | some (.array m e) => joinPieces (plainKinds P n) P.cellsOf ((List.range m).map fun i => (i * P.cellsOf e, e)) 0
    | _ => none
def FitsAt (ks : List (Option IntKind)) (cs : List Value) : Prop := ∀ (j : Nat) (k : Option IntKind), ks[j]? = some k → ∃ v, cs[j]? = some v ∧ CellFit k v

theorem join_fits {K : TypeId → Option (List (Option IntKind))} {size : TypeId → Nat} {cs : List Value} : ∀ (ps : List (Nat × TypeId)) (o : Nat) (ks : List (Option IntKind)),
    joinPieces K size ps o = some ks → (∀ p ∈ ps, ∀ k, K p.2 = some k → FitsAt k ((cs.drop p.1).take (size p.2))) → FitsAt ks (cs.drop o) := by
  intro ps
  induction ps with
  | nil =>
    intro o ks h _ j k hj
    simp only [joinPieces, Option.some.injEq] at h
    subst h
    simp at hj
  | cons p r ih =>
    intro o ks h hp
    unfold joinPieces at h
    by_cases ho : p.1 = o
    · rw [if_pos ho] at h
      cases hk : K p.2 with
      | none => rw [hk] at h; cases h
      | some k =>
        rw [hk] at h
        by_cases hs : size p.2 = k.length
        · simp only [hs, if_true, Option.map_eq_some_iff] at h
          obtain ⟨rest, hr, rfl⟩ := h
          intro j kj hj
          by_cases hlt : j < k.length
          · rw [List.getElem?_append_left hlt] at hj
            obtain ⟨v, hv, hf⟩ := hp p (by simp) k hk j kj hj
            refine ⟨v, ?_, hf⟩
            rw [List.getElem?_take, if_pos (by omega), ho] at hv
            exact hv
          · rw [List.getElem?_append_right (by omega)] at hj
            obtain ⟨v, hv, hf⟩ := ih (o + k.length) rest hr (fun q hq => hp q (by simp [hq])) (j - k.length) kj hj
            refine ⟨v, ?_, hf⟩
            rw [List.getElem?_drop] at hv ⊢
            rw [show o + j = o + k.length + (j - k.length) by omega]
            exact hv
        · simp only [hs, if_false] at h; cases h
    · rw [if_neg ho] at h; cases h

section
variable {H : Type} {enc : TypeId × Value → H} {P : Program} {w : World} {base : Nat} {spare : Nat → Bool} {held : Bool}
theorem plain_fits : ∀ (n : Nat) (t : TypeId) (ks : List (Option IntKind)) (fuel : Nat) (cs : List Value) (x : DataW H × List MemPlace),
    plainKinds P n t = some ks → DataW.trod enc P w base spare held fuel t cs = some x → FitsAt ks cs := by
  intro n
  induction n with
  | zero => intro t ks fuel cs x h; cases h
  | succ n ih =>
    intro t ks fuel cs x h hd
    unfold plainKinds at h
    cases hu : P.underlying t with
    | none => rw [hu] at h; cases h
    | some d =>
      rw [hu] at h
      cases d with
      | int k =>
        simp only [Option.some.injEq] at h
        subst h
        obtain ⟨a, rfl, _, wa⟩ := DataW.trod_int hu hd
        intro j kj hj
        cases j with
        | zero => simp at hj; subst hj; exact ⟨_, rfl, a, rfl, wa⟩
        | succ j => simp at hj
      | bool =>
        simp only [Option.some.injEq] at h
        subst h
        obtain ⟨b, rfl, _⟩ := DataW.trod_bool hu hd
        intro j kj hj
        cases j with
        | zero => simp at hj; subst hj; exact ⟨_, rfl, b, rfl⟩
        | succ j => simp at hj
      | struct fs =>
        obtain ⟨xs, m, _, _, _, hl, hx⟩ := DataW.trod_struct hu hd
        have := join_fits (cs := cs) _ 0 ks h (by
          intro p hp k hk
          simp only [List.mem_map] at hp
          obtain ⟨f, hf, rfl⟩ := hp
          obtain ⟨i, hi, hfi⟩ := List.getElem_of_mem hf
          have hi' : i < fs.size := by simpa using hi
          have h1 := hx i f (by rw [← hfi]; simp [hi'])
          rw [List.getElem?_eq_getElem (by omega)] at h1
          exact ih f.type k m _ _ hk h1)
        simpa using this
      | array m e =>
        obtain ⟨xs, q, _, _, _, hl, hx⟩ := DataW.trod_array hu hd
        have := join_fits (cs := cs) _ 0 ks h (by
          intro p hp k hk
          simp only [List.mem_map, List.mem_range] at hp
          obtain ⟨i, hi, rfl⟩ := hp
          have h1 := hx i hi
          rw [List.getElem?_eq_getElem (by omega)] at h1
          exact ih e k q _ _ hk h1)
        simpa using this
      | _ => cases h

/-- An argument of a plain type, by value: a struct or an array. -/
theorem open_plain {r : Reach} {b0 : Nat} {t : TypeId} {ks : List (Option IntKind)} {v : Value} {d : DataW H} {p : List MemPlace} (n : Nat) (hk : plainKinds P n t = some ks) (hl : P.cellsOf t = ks.length)
    (ha : (match P.underlying t with | some (.struct _) => true | some (.array _ _) => true | _ => false) = true)
    (hv : Value.okWide P w r b0 t v) (h : DataW.Trod enc P w base spare held t v d p) : ∃ cs : Array Value, v = .agg cs ∧ cs.size = ks.length ∧ FitsAt ks cs.toList := by
  have h1 : ∃ cs, v = .agg cs ∧ cs.size = P.cellsOf t := by
    unfold Value.okWide at hv
    cases hu : P.underlying t with
    | none => rw [hu] at ha; cases ha
    | some d =>
      rw [hu] at ha hv
      cases d with
      | struct fs => obtain ⟨cs, h1, h2, _⟩ := hv; exact ⟨cs, h1, h2⟩
      | array m e => obtain ⟨cs, h1, h2, _⟩ := hv; exact ⟨cs, h1, h2⟩
      | _ => cases ha
  obtain ⟨cs, rfl, hs⟩ := h1
  obtain ⟨fuel, hf⟩ := h
  exact ⟨cs, rfl, hs.trans hl, plain_fits n t ks fuel _ _ hk (by simpa [Value.cells] using hf)⟩

theorem open_rows {t e : TypeId} {ks : List (Option IntKind)} {a : Option Addr} {len cap : Nat} {d : DataW H} {p : List MemPlace} (n : Nat) (ht : P.underlying t = some (.slice e)) (hk : plainKinds P n e = some ks) (hl : P.cellsOf e = ks.length) (hpos : 0 < ks.length)
    (h : DataW.Trod enc P w base spare held t (.slice a len cap) d p) : ∃ F, PlainRow ks w a len cap F := by
  obtain ⟨fuel, hf⟩ := h
  rcases Deep.open_slice ht hf with ⟨hcs, _⟩ | ⟨x, l, c, m, q, D, Pl, hcs, _, hlc, hm, hmm, _, hel⟩
  · simp [Value.cells] at hcs
    obtain ⟨rfl, rfl, rfl⟩ := hcs
    exact ⟨fun _ _ => .nilIface, Or.inl ⟨rfl, rfl, rfl⟩⟩
  · simp [Value.cells] at hcs
    obtain ⟨rfl, rfl, rfl⟩ := hcs
    have hlm : len ≤ m := by rw [hmm]; split <;> omega
    have key : ∀ i, i < len → ∃ cs', (∀ j, j < ks.length → w.cell? ((x.add (i * ks.length)).add j) = cs'[j]?) ∧ FitsAt ks cs' := by
      intro i hi
      obtain ⟨cs', h1, h2⟩ := hel i (by omega)
      rw [hl] at h1
      obtain ⟨_, h3, h4⟩ := World.cells?_some h1
      exact ⟨cs', h4, plain_fits n e ks q cs' _ hk h2⟩
    obtain ⟨b, off, spot⟩ := x
    by_cases h0 : len = 0
    · subst h0; exact ⟨fun _ _ => .nilIface, Or.inr (Or.inl ⟨rfl, hm, _, rfl⟩)⟩
    · have hs : spot = none := by
        obtain ⟨cs', h4, h5⟩ := key 0 (by omega)
        obtain ⟨k, hk0⟩ : ∃ k, ks[0]? = some k := ⟨_, List.getElem?_eq_getElem hpos⟩
        obtain ⟨v, hv, _⟩ := h5 0 k hk0
        have := h4 0 hpos
        rw [hv] at this
        simpa [Addr.add] using World.cell?_spot this
      subst hs
      refine ⟨fun i j => (w.cell? ⟨b, off + i * ks.length + j, none⟩).getD .nilIface, Or.inr (Or.inr ⟨by omega, hlc, hm, b, off, rfl, ?_⟩)⟩
      intro i hi j k hj
      obtain ⟨cs', h4, h5⟩ := key i hi
      obtain ⟨v, hv, hf⟩ := h5 j k hj
      have hjl : j < ks.length := by
        rcases Nat.lt_or_ge j ks.length with h | h
        · exact h
        · rw [List.getElem?_eq_none h] at hj; cases hj
      have h6 := h4 j hjl
      rw [hv] at h6
      have h7 : w.cell? ⟨b, off + i * ks.length + j, none⟩ = some v := by rw [addr_add, addr_add] at h6; exact h6
      simp only [h7, Option.getD_some, true_and]
      exact hf
end
theorem cells_13 {cs : Array Value} (h : cs.size = 13) : ∃ c0 c1 c2 c3 c4 c5 c6 c7 c8 c9 c10 c11 c12, cs = #[c0, c1, c2, c3, c4, c5, c6, c7, c8, c9, c10, c11, c12] := by
  obtain ⟨l⟩ := cs
  match l, h with
  | [c0, c1, c2, c3, c4, c5, c6, c7, c8, c9, c10, c11, c12], _ => exact ⟨c0, c1, c2, c3, c4, c5, c6, c7, c8, c9, c10, c11, c12, rfl⟩
end Go.Proofs.Ytapnaocdehahdaa
