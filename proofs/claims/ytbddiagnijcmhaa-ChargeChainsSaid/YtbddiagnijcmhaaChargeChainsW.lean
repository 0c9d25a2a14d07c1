/-
  ChargeChains: the walk of the law, by the contracts of the package.
-/
import Derived.Test.YtbddiagnijcmhaaChargeC
import Derived.Test.YtbddiagnijcmhaaKitO
import Derived.Deep.DeepCutAuto
namespace Go.Proofs.Ytbddiagnijcmhaa
open Go.RowKit Go.Shelf
set_option linter.unusedVariables false
theorem fits_ofC {v r c : Int} (g0 : (Lit.int .u64 v).wf = true) (g1 : (Lit.int .u32 r).wf = true) (g2 : (Lit.int .u32 c).wf = true) : Ch.Fits v r c := by
  have := bounds_u64 g0
  have := bounds_u32 g1
  have := bounds_u32 g2
  unfold Ch.Fits
  omega
/-- the argument as a list of entities -/
theorem plain_list {w : World} {s : Option Addr} {len cap : Nat} {F : Nat → Nat → Value} (h : PlainRow [some .u64, some .u32, some .u32] w s len cap F) :
    ∃ l : List (Int × Int × Int), l.length = len ∧ FitsE l ∧ RdE w s l := by
  rcases h with ⟨_, h0, _⟩ | ⟨h0, _, _⟩ | ⟨h0, _, _, b, off, rfl, hc⟩
  · exact ⟨[], h0.symm, fun x hx => absurd hx List.not_mem_nil, Or.inl rfl⟩
  · exact ⟨[], h0.symm, fun x hx => absurd hx List.not_mem_nil, Or.inl rfl⟩
  · have key : ∀ i, i < len → ∃ x : Int × Int × Int, Ch.Fits x.1 x.2.1 x.2.2 ∧ F i 0 = .int .u64 x.1 ∧ F i 1 = .int .u32 x.2.1 ∧ F i 2 = .int .u32 x.2.2 := by
      intro i hi
      obtain ⟨_, a, ha, wa⟩ := hc i hi 0 _ rfl
      obtain ⟨_, b, hb, wb⟩ := hc i hi 1 _ rfl
      obtain ⟨_, c, hc', wc⟩ := hc i hi 2 _ rfl
      exact ⟨(a, b, c), fits_ofC wa wb wc, ha, hb, hc'⟩
    have key2 : ∃ f : Nat → Int × Int × Int, ∀ i, i < len → Ch.Fits (f i).1 (f i).2.1 (f i).2.2 ∧ F i 0 = .int .u64 (f i).1 ∧ F i 1 = .int .u32 (f i).2.1 ∧ F i 2 = .int .u32 (f i).2.2 :=
      ⟨fun i => (intOf (F i 0), intOf (F i 1), intOf (F i 2)), fun i hi => by
        obtain ⟨x, h1, h2, h3, h4⟩ := key i hi
        simp only [h2, h3, h4, intOf]
        exact ⟨h1, by simp, by simp, by simp⟩⟩
    obtain ⟨f, hf⟩ := key2
    refine ⟨(List.range len).map f, by simp, fun x hx => ?_, Or.inr ⟨b, off, rfl, fun k x hk => ?_⟩⟩
    · simp only [List.mem_map, List.mem_range] at hx
      obtain ⟨i, hi, rfl⟩ := hx
      exact (hf i hi).1
    · rw [List.getElem?_map, Option.map_eq_some_iff] at hk
      obtain ⟨i, hi, rfl⟩ := hk
      have hlt : k < len := by
        have := List.getElem?_eq_some_iff.1 hi
        simpa using this.1
      have e : i = k := by
        have := List.getElem?_eq_some_iff.1 hi
        obtain ⟨_, h2⟩ := this
        simpa using h2.symm
      subst e
      obtain ⟨_, h2, h3, h4⟩ := hf i hlt
      exact ⟨by rw [← h2]; exact (hc i hlt 0 _ rfl).1, by rw [← h3]; exact (hc i hlt 1 _ rfl).1, by rw [← h4]; exact (hc i hlt 2 _ rfl).1⟩
theorem infoEntC : (Try.prog.info? 25).map (fun i => (i.zero, i.size, i.bytes)) = some (some (.agg #[.int .u64 0, .int .u32 0, .int .u32 0]), 3, 16) := by kernel_rfl
theorem cellsE_get {l : List (Int × Int × Int)} {k : Nat} {x : Int × Int × Int} (h : l[k]? = some x) : (cellsE l)[k * 3]? = some (.int .u64 x.1) ∧ (cellsE l)[k * 3 + 1]? = some (.int .u32 x.2.1) ∧ (cellsE l)[k * 3 + 2]? = some (.int .u32 x.2.2) := by
  induction l generalizing k with
  | nil => simp at h
  | cons y r ih =>
    cases k with
    | zero => simp at h; subst h; simp [cellsE]
    | succ k =>
      simp only [List.getElem?_cons_succ] at h
      have := ih h
      simp only [cellsE, List.flatMap_cons] at this ⊢
      have e : ∀ j, (k + 1) * 3 + j = 3 + (k * 3 + j) := fun j => by omega
      have g : ∀ j, ([Value.int .u64 y.1, .int .u32 y.2.1, .int .u32 y.2.2] ++ r.flatMap fun x => [.int .u64 x.1, .int .u32 x.2.1, .int .u32 x.2.2])[3 + j]? = (r.flatMap fun x => [Value.int .u64 x.1, .int .u32 x.2.1, .int .u32 x.2.2])[j]? := fun j => by
        rw [List.getElem?_append_right (by simp)]; simp
      have e0 := e 0
      simp only [Nat.add_zero] at e0
      rw [e0, show 3 + k * 3 + 1 = 3 + (k * 3 + 1) by omega, show 3 + k * 3 + 2 = 3 + (k * 3 + 2) by omega, g, g, g]
      exact this
theorem cellsE_at {w : World} {b off : Nat} {l : List (Int × Int × Int)} (h : ∀ (k : Nat) (x : Int × Int × Int), l[k]? = some x → w.cell? ⟨b, off + k * 3, none⟩ = some (.int .u64 x.1) ∧ w.cell? ⟨b, off + k * 3 + 1, none⟩ = some (.int .u32 x.2.1) ∧ w.cell? ⟨b, off + k * 3 + 2, none⟩ = some (.int .u32 x.2.2))
    {j : Nat} {u : Value} (hj : (cellsE l)[j]? = some u) : w.cell? ⟨b, off + j, none⟩ = some u := by
  have hlt : j < (cellsE l).length := (List.getElem?_eq_some_iff.1 hj).1
  rw [cellsE_len] at hlt
  have hk : j / 3 < l.length := by omega
  have hx := List.getElem?_eq_getElem hk
  obtain ⟨a0, a1, a2⟩ := h _ _ hx
  obtain ⟨c0, c1, c2⟩ := cellsE_get hx
  have hm : j % 3 = 0 ∨ j % 3 = 1 ∨ j % 3 = 2 := by omega
  rcases hm with hm | hm | hm
  · have e : j = j / 3 * 3 := by omega
    rw [← e] at c0 a0; rw [c0] at hj; cases hj; exact a0
  · have e : j = j / 3 * 3 + 1 := by omega
    rw [← e] at c1; rw [Nat.add_assoc, ← e] at a1; rw [c1] at hj; cases hj; exact a1
  · have e : j = j / 3 * 3 + 2 := by omega
    rw [← e] at c2; rw [Nat.add_assoc, ← e] at a2; rw [c2] at hj; cases hj; exact a2
theorem cellsE_one (l : List (Int × Int × Int)) : ∀ u ∈ cellsE l, u.oneCell' = true := by
  intro u hu
  simp only [cellsE, List.mem_flatMap] at hu
  obtain ⟨x, _, hx⟩ := hu
  simp only [List.mem_cons, List.not_mem_nil, or_false] at hx
  rcases hx with rfl | rfl | rfl <;> rfl
/-- what an owned slice of entities is: its cells, and that they may be written -/
theorem owns_cells {w : World} {base : Nat} {e : TypeId} {v : Value} {l : List (Int × Int × Int)} (h : w.ownsRow base e 3 v l.length (cellsE l)) :
    (l = [] ∧ v = .slice none 0 0) ∨ ∃ g cap, v = .slice (some ⟨g, 0, none⟩) l.length cap ∧ base ≤ g ∧ g < w.heap.size ∧ l.length ≤ cap ∧ cap ≤ maxLen ∧ (∀ j, w.frozen? ⟨g, j, none⟩ = false) ∧
      ∀ (k : Nat) (x : Int × Int × Int), l[k]? = some x → w.cell? ⟨g, k * 3, none⟩ = some (.int .u64 x.1) ∧ w.cell? ⟨g, k * 3 + 1, none⟩ = some (.int .u32 x.2.1) ∧ w.cell? ⟨g, k * 3 + 2, none⟩ = some (.int .u32 x.2.2) := by
  have h0 := h
  obtain ⟨h1, h2 | ⟨g, cap, cur, hv, hg, hh, hn, hcap, r⟩⟩ := h
  · exact Or.inl ⟨List.eq_nil_of_length_eq_zero h2.2, h2.1⟩
  · subst hv
    refine Or.inr ⟨g, cap, rfl, hg, ?_, hn, hcap, fun j => h0.frozenAt j, fun k x hk => ?_⟩
    · rcases Nat.lt_or_ge g w.heap.size with k | k
      · exact k
      · rw [Array.getElem?_eq_none k] at hh; cases hh
    · have hlt := (List.getElem?_eq_some_iff.1 hk).1
      obtain ⟨c0, c1, c2⟩ := cellsE_get hk
      exact ⟨(h0.cellAt _ (by omega)).trans c0, (h0.cellAt _ (by omega)).trans c1, (h0.cellAt _ (by omega)).trans c2⟩
/-- entities from the k-th on in a block -/
def CellsFrom (w : World) (g k : Nat) (m : List (Int × Int × Int)) : Prop := ∀ (i : Nat) (x : Int × Int × Int), k ≤ i → m[i]? = some x → w.cell? ⟨g, i * 3, none⟩ = some (.int .u64 x.1) ∧ w.cell? ⟨g, i * 3 + 1, none⟩ = some (.int .u32 x.2.1) ∧ w.cell? ⟨g, i * 3 + 2, none⟩ = some (.int .u32 x.2.2)
theorem CellsFrom.carry {w w' : World} {g k : Nat} {m : List (Int × Int × Int)} (h : CellsFrom w g k m) (hb : Below w.heap.size w w') : CellsFrom w' g k m := fun i x hi hx => by
  obtain ⟨a, b, c⟩ := h i x hi hx
  exact ⟨cell_later hb a, cell_later hb b, cell_later hb c⟩
theorem CellsFrom.same {w w' : World} {g k : Nat} {m : List (Int × Int × Int)} (h : CellsFrom w g k m) (he : ∀ j, k * 3 ≤ j → w'.cell? ⟨g, j, none⟩ = w.cell? ⟨g, j, none⟩) : CellsFrom w' g k m := fun i x hi hx => by
  obtain ⟨a, b, c⟩ := h i x hi hx
  have : k * 3 ≤ i * 3 := Nat.mul_le_mul_right 3 hi
  exact ⟨(he _ (by omega)).trans a, (he _ (by omega)).trans b, (he _ (by omega)).trans c⟩
theorem CellsFrom.drew {w : World} {g k : Nat} {m : List (Int × Int × Int)} (h : CellsFrom w g k m) (q : Nat) : CellsFrom (w.drewN q) g k m := h.same (fun _ _ => rfl)
theorem cell_sc' {w : World} {p a : Addr} {v : Value} (hne : p ≠ a) : (w.setCell p v).cell? a = w.cell? a := World.cell?_setCell_other w p a v hne
theorem own_shape {w : World} {base : Nat} {e : TypeId} {v : Value} {m : List (Int × Int × Int)} {n : Nat} (hn : m.length = n) (h0 : 0 < n) (h : w.ownsRow base e 3 v n (cellsE m)) :
    ∃ g cap, v = .slice (some ⟨g, 0, none⟩) n cap ∧ base ≤ g ∧ g < w.heap.size ∧ n ≤ cap ∧ cap ≤ maxLen ∧ (∀ j, w.frozen? ⟨g, j, none⟩ = false) ∧ CellsFrom w g 0 m := by
  subst hn
  rcases owns_cells h with ⟨h, _⟩ | ⟨g, cap, h1, h2, h3, h4, h5, h6, h7⟩
  · rw [h] at h0; simp at h0
  · exact ⟨g, cap, h1, h2, h3, h4, h5, h6, fun i x _ hx => h7 i x hx⟩
/-- what the loop over the results keeps -/
def LoopA (w : World) (ga gb g6 : Nat) (m l : List (Int × Int × Int)) (k : Nat) (wr : World) : Prop :=
  Below w.heap.size w wr ∧ (∀ j, wr.frozen? ⟨ga, j, none⟩ = false) ∧ CellsFrom wr ga k m ∧ CellsFrom wr gb 0 m ∧ CellsFrom wr g6 0 l
theorem LoopA.step {w : World} {ga gb g6 : Nat} {m l : List (Int × Int × Int)} {k : Nat} {wr : World} (h : LoopA w ga gb g6 m l k wr) (hw : w.heap.size ≤ ga) (hb : ga ≠ gb) (h6 : ga ≠ g6) (q : Nat) (v : Value) : LoopA w ga gb g6 m l (k + 1) ((wr.drewN q).setCell ⟨ga, k * 3 + 2, none⟩ v) := by
  obtain ⟨h1, h2, h3, h4, h5⟩ := h
  refine ⟨Below.setCell (below_drewN h1 q) hw _, fun j => by rw [World.frozen?_setCell]; exact h2 j, ?_, ?_, ?_⟩
  · refine CellsFrom.same (w := wr) (fun i x hi hx => h3 i x (by omega) hx) (fun j hj => cell_sc' (fun e => ?_))
    have := congrArg Addr.off e
    simp only at this
    omega
  · exact CellsFrom.same h4 (fun j _ => cell_sc' (fun e => hb (congrArg Addr.block e)))
  · exact CellsFrom.same h5 (fun j _ => cell_sc' (fun e => h6 (congrArg Addr.block e)))
set_option maxRecDepth 100000 in
set_option maxHeartbeats 4000000 in
theorem chains_many (s : Option Addr) (cap : Nat) (l : List (Int × Int × Int)) (t : Int) (w : World) (hl : 300 < l.length) (hm : l.length ≤ 9223372036854775807) :
    Calls Try.prog 10 #[.slice s l.length cap, .int .i64 t] w fun e w' => e = .returned (.bool true) ∧ Below w.heap.size w w' := by
  generalize l.length = n at hl hm
  go_enter Try.func10, Try.ntmps10
  go_wp2_with fail
  refine (awake_any _).mono ?_; rintro e w9 ⟨rfl, hb9⟩
  go_wp2_with fail
  go_ret
  exact ⟨rfl, hb9⟩
set_option maxRecDepth 100000 in
set_option maxHeartbeats 4000000 in
theorem chains_some (b off cap : Nat) (l : List (Int × Int × Int)) (t : Int) (w : World) (hl : l.length ≤ 300) (h0 : 0 < l.length) (hf : FitsE l) (hr : RdE w (some ⟨b, off, none⟩) l) (bt : -9223372036854775808 ≤ t ∧ t ≤ 9223372036854775807) :
    Calls Try.prog 10 #[.slice (some ⟨b, off, none⟩) l.length cap, .int .i64 t] w fun e w' => e = .returned (.bool true) ∧ Below w.heap.size w w' := by
  obtain ⟨i0, hi, hz0, hz1, hz2⟩ := info_parts infoEntC
  obtain ⟨i1, hi', hz0', hz1', hz2'⟩ := info_parts inforEnt
  have hc : ∀ (k : Nat) (x : Int × Int × Int), l[k]? = some x → w.cell? ⟨b, off + k * 3, none⟩ = some (.int .u64 x.1) ∧ w.cell? ⟨b, off + k * 3 + 1, none⟩ = some (.int .u32 x.2.1) ∧ w.cell? ⟨b, off + k * 3 + 2, none⟩ = some (.int .u32 x.2.2) := by
    rcases hr with h | ⟨b', off', he, hc⟩
    · subst h; simp at h0
    · cases he; exact hc
  have hbb : b < w.heap.size := lt_of_cell (hc 0 _ (List.getElem?_eq_getElem h0)).1
  generalize hn : l.length = n at hl h0
  have HN := Lib.hid hn
  have HC := Lib.hid hc
  have HF := Lib.hid hf
  clear hn hc hf hr
  have zz : decide ((300 : Int) < (n : Int)) = false := by simp; omega
  go_enter Try.func10, Try.ntmps10
  go_wp2_with (at_builtin; refine wpList_append_own _ rfl (.tmp 19) (.tmp 20) 50 rfl w.heap.size 25 i0 (.agg #[.int .u64 0, .int .u32 0, .int .u32 0]) 3 16 Try.underlying50 hi hz0 hz1 hz2 rfl (by decide) _ 0 [] rfl (World.ownsRow_lit w #[] 0 (Nat.le_refl _) (by unfold maxLen; omega) rfl) ⟨b, off, none⟩ n cap (cellsE l) rfl ?c0 ?c1 ?c2 ?c3 ?c4 ?c5 ?_)
  case c0 => rw [cellsE_len, HN.out]
  case c1 =>
    intro j u hj
    rw [addr_none]
    exact cell_al _ (cellsE_at HC.out hj)
  case c2 => exact cellsE_one _
  case c3 => unfold maxLen; omega
  case c4 => omega
  case c5 => simp
  intro v6 w1 hown hg1 _
  have hb1 : Below w.heap.size w w1 := (Below.allocS (Below.refl _ _) _).grown hg1 (by simp) (fun k hk => by simp [Value.ownBlock] at hk; omega)
  clear hg1
  obtain ⟨g6, cap6, rfl, hg6, hg6', hcap6, hcm6, -, o6⟩ : ∃ g cap, v6 = .slice (some ⟨g, 0, none⟩) n cap ∧ w.heap.size ≤ g ∧ g < w1.heap.size ∧ n ≤ cap ∧ cap ≤ maxLen ∧ (∀ j, w1.frozen? ⟨g, j, none⟩ = false) ∧
      ∀ (k : Nat) (x : Int × Int × Int), l[k]? = some x → w1.cell? ⟨g, k * 3, none⟩ = some (.int .u64 x.1) ∧ w1.cell? ⟨g, k * 3 + 1, none⟩ = some (.int .u32 x.2.1) ∧ w1.cell? ⟨g, k * 3 + 2, none⟩ = some (.int .u32 x.2.2) := by
    have h := hown
    try simp only [Nat.zero_add, List.nil_append] at h
    rw [← HN.out] at h
    rcases owns_cells h with ⟨h, _⟩ | h
    · have := HN.out; rw [h] at this; simp at this; omega
    · rw [← HN.out]; exact h
  have O6 := Lib.hid o6
  clear hown o6
  go_wp2_with fail
  obtain ⟨wo, rfl⟩ : ∃ wo : World, wo = w1 := ⟨_, rfl⟩
  go_loopw [5, 24] (fun v s wr => ∃ k : Nat, k ≤ n ∧ s = .int .i64 k ∧ wr.ownsRow wo.heap.size 52 3 v k (cellsE (l.take k)) ∧ Below wo.heap.size wo wr) (fun _ s _ => n - (intOf s).toNat)
  case atStart => exact ⟨0, Nat.zero_le _, rfl, by simpa [cellsE] using World.ownsRow_nil _ _ _ _, Below.refl _ _⟩
  case round =>
    obtain ⟨k, hk, rfl, hor, hbr⟩ := hrel
    by_cases hlt : k < n
    · have z0 : decide ((k : Int) < (n : Int)) = true := by simp; omega
      have hkl : k < l.length := by rw [HN.out]; exact hlt
      obtain ⟨⟨x1, x2, x3⟩, hx⟩ : ∃ x, l[k]? = some x := ⟨_, List.getElem?_eq_getElem hkl⟩
      have c0 := cell_later hbr (cell_later hb1 (HC.out k _ hx).1)
      have c1 := cell_later hbr (cell_later hb1 (HC.out k _ hx).2.1)
      have c2 := cell_later hbr (cell_later hb1 (HC.out k _ hx).2.2)
      have he : cellsE (l.take (k + 1)) = cellsE (l.take k) ++ [.int .u64 x1, .int .u32 x2, .int .u32 x3] := by
        rw [List.take_add_one, hx]
        simp [cellsE]
      have HE := Lib.hid he
      clear hx hkl he
      simp only at c0 c1 c2
      have hsz := hbr.size
      go_wp2_with (at_builtin; refine wpList_append_own _ rfl (.tmp 28) (.tmp 30) 51 rfl wo.heap.size 52 i1 (.agg #[.int .u64 0, .int .u32 0, .int .u32 0]) 3 16 Try.underlying51 hi' hz0' hz1' hz2' rfl (by decide) _ _ _ rfl ((hor.alloc _).alloc _) ⟨wr.heap.size + 1, 0, none⟩ 1 1 [.int .u64 x1, .int .u32 x2, .int .u32 x3] rfl rfl ?c1 ?c2 ?c3 ?c4 ?c5 ?_)
      case c1 =>
        intro j u hj
        rw [addr_none]
        exact cell_at (by simp) (by simpa using hj)
      case c2 =>
        intro u hu
        simp only [List.mem_cons, List.not_mem_nil, or_false] at hu
        rcases hu with rfl | rfl | rfl <;> rfl
      case c3 => unfold maxLen; omega
      case c4 => omega
      case c5 => simp; omega
      intro v' w2 hown2 hgrow2 _
      have hb2 : Below wo.heap.size wo w2 := (Below.allocS (Below.allocS hbr _) _).grown hgrow2 (by simp; omega) (fun k hk => (hor.lt k hk).1)
      clear hor hgrow2 c0 c1 c2
      go_wp2_with fail
      go_roundw
      case rel => exact ⟨k + 1, by omega, by go_num, by rw [HE.out]; exact hown2, hb2⟩
      case measure => simp [intOf]; omega
    · have hkn : k = n := by omega
      have e : l.take k = l := List.take_of_length_le (by rw [HN.out, hkn]; exact Nat.le_refl _)
      rw [e, hkn, ← HN.out] at hor
      obtain ⟨g5, cap5, rfl, hg5, hg5', hcap5, hcm5, -, o5⟩ : ∃ g cap, u5 = .slice (some ⟨g, 0, none⟩) n cap ∧ wo.heap.size ≤ g ∧ g < wr.heap.size ∧ n ≤ cap ∧ cap ≤ maxLen ∧ (∀ j, wr.frozen? ⟨g, j, none⟩ = false) ∧
          ∀ (k : Nat) (x : Int × Int × Int), l[k]? = some x → wr.cell? ⟨g, k * 3, none⟩ = some (.int .u64 x.1) ∧ wr.cell? ⟨g, k * 3 + 1, none⟩ = some (.int .u32 x.2.1) ∧ wr.cell? ⟨g, k * 3 + 2, none⟩ = some (.int .u32 x.2.2) := by
        rcases owns_cells hor with ⟨h, _⟩ | h
        · have := HN.out; rw [h] at this; simp at this; omega
        · rw [← HN.out]; exact h
      have rd6 : RdE wr (some ⟨g6, 0, none⟩) l := Or.inr ⟨g6, 0, rfl, fun k x hx => by
        obtain ⟨a, b, c⟩ := O6.out k x hx
        simp only [Nat.zero_add]
        exact ⟨cell_later hbr a, cell_later hbr b, cell_later hbr c⟩⟩
      have rd5 : RdE wr (some ⟨g5, 0, none⟩) l := Or.inr ⟨g5, 0, rfl, fun k x hx => by
        simp only [Nat.zero_add]
        exact o5 k x hx⟩
      have A1 : ∀ W, RdE W (some ⟨g6, 0, none⟩) l → Calls Try.prog 21 #[.slice (some ⟨g6, 0, none⟩) n cap6, .int .i64 t] W (ChainPost l t 25 W) := fun W h => by
        have := Chain_any l t (some ⟨g6, 0, none⟩) cap6 W (by rw [HN.out]; omega) HF.out h
        rwa [HN.out] at this
      have A2 : ∀ W, RdE W (some ⟨g5, 0, none⟩) l → Calls Try.prog 22 #[.slice (some ⟨g5, 0, none⟩) n cap5, .int .i64 t] W (ChainPost l t 52 W) := fun W h => by
        have := rChain_any l t (some ⟨g5, 0, none⟩) cap5 W (by rw [HN.out]; omega) HF.out h bt
        rwa [HN.out] at this
      have B1 := Lib.hid A1
      have B2 := Lib.hid A2
      have R6 := Lib.hid rd6
      have R5 := Lib.hid rd5
      have hge : (n : Int) ≤ (k : Int) := by omega
      clear A1 A2 rd6 rd5 o5 hor e hkn
      go_wp2_with fail
      refine (B1.out _ R6.out).mono ?_
      rintro e w2 ⟨hb2, hp⟩
      have hsz2 := hb2.size
      rcases hp with ⟨hA, va, rfl, oa⟩ | ⟨hA, rfl⟩
      · have HA := Lib.hid hA
        clear hA
        have hml : (l.map (chg t)).length = n := by rw [List.length_map, HN.out]
        rw [HN.out] at oa
        obtain ⟨ga, capa, rfl, hga, hga', hcapa, hcma, fa, ca⟩ := own_shape hml h0 oa
        have FA := Lib.hid fa
        have CA := Lib.hid ca
        have HML := Lib.hid hml
        clear oa fa ca hml
        go_wp2_with fail
        refine (B2.out _ (R5.out.carry hb2)).mono ?_
        rintro e w3 ⟨hb3, hp⟩
        rcases hp with ⟨hA, vb, rfl, ob⟩ | ⟨hA, rfl⟩
        · clear hA
          rw [HN.out] at ob
          obtain ⟨gb, capb, rfl, hgb, hgb', hcapb, hcmb, -, cb⟩ := own_shape HML.out h0 ob
          have L0 : Hid (LoopA w ga gb g6 (l.map (chg t)) l 0 w3) := Lib.hid ⟨Below.trans (Below.trans (Below.trans hb1 (hbr.mono hb1.size)) (hb2.mono (by have := hbr.size; have := hb1.size; omega))) (hb3.mono (by have := hbr.size; have := hb1.size; omega)), fun j => (hb3.frozen (p := ⟨ga, j, none⟩) hga').trans (FA.out j), CA.out.carry hb3, cb, fun i x _ hx => by
            obtain ⟨a, b, c⟩ := O6.out i x hx
            exact ⟨cell_later hb3 (cell_later hb2 (cell_later hbr a)), cell_later hb3 (cell_later hb2 (cell_later hbr b)), cell_later hb3 (cell_later hb2 (cell_later hbr c))⟩⟩
          have hab : ga ≠ gb := by omega
          have ha6 : ga ≠ g6 := by have := hbr.size; omega
          have hwa : w.heap.size ≤ ga := by have := hbr.size; have := hb1.size; omega
          clear ob cb
          go_wp2_with fail
          go_loopw [57] (fun s wr => ∃ k : Nat, k ≤ n ∧ s = .int .i64 k ∧ LoopA w ga gb g6 (l.map (chg t)) l k wr) (fun s _ => n - (intOf s).toNat)
          case atStart => exact ⟨0, Nat.zero_le _, rfl, L0.out⟩
          case round =>
            obtain ⟨i, hi, rfl, hL⟩ := hrel
            by_cases hlt : i < n
            · have z1 : decide ((i : Int) < (n : Int)) = true := by simp; omega
              have hil : i < l.length := by rw [HN.out]; exact hlt
              obtain ⟨x, hx⟩ : ∃ x, l[i]? = some x := ⟨_, List.getElem?_eq_getElem hil⟩
              have hok := (HA.out.1 x (List.mem_of_getElem? hx)).1
              have hmx : (l.map (chg t))[i]? = some (chg t x) := by rw [List.getElem?_map, hx]; rfl
              obtain ⟨y1, y2, y3, hy⟩ : ∃ y1 y2 y3 : Int, chg t x = (y1, y2, y3) := ⟨_, _, _, rfl⟩
              have hy3 : 0 ≤ y3 ∧ y3 ≤ 65536 := by
                have e : y3 = x.2.2 := by have := congrArg (fun z => z.2.2) hy; simpa [chg] using this.symm
                have := hok.2.2.2.2
                omega
              obtain ⟨a0, a1, a2⟩ := hL.2.2.1 i _ (Nat.le_refl _) hmx
              obtain ⟨d0, d1, d2⟩ := hL.2.2.2.1 i _ (Nat.zero_le _) hmx
              have hfa := hL.2.1
              rw [hy] at a0 a1 a2 d0 d1 d2
              simp only at a0 a1 a2 d0 d1 d2
              have HLr := Lib.hid hL
              have zi : (i : Int) < (n : Int) := by omega
              clear hx hok hmx hy hL hil
              go_wp2_with fail
              go_quiet (fail)
              go_wp2_with fail
              go_roundw
              case rel => exact ⟨i + 1, by omega, by go_num, HLr.out.step hwa hab ha6 _ _⟩
              case measure => simp [intOf]; omega
            · have HLr := Lib.hid hL
              have zi : (n : Int) ≤ (i : Int) := by omega
              clear hL
              go_wp2_with fail
              go_loopw [80] (fun s wr => ∃ k : Nat, k ≤ n ∧ s = .int .i64 k ∧ Below w.heap.size w wr ∧ CellsFrom wr g6 0 l) (fun s _ => n - (intOf s).toNat)
              case atStart => exact ⟨0, Nat.zero_le _, rfl, HLr.out.1, HLr.out.2.2.2.2⟩
              case round =>
                obtain ⟨p, hp, rfl, hBw, hOw⟩ := hrel
                by_cases hlp : p < n
                · have zp : (p : Int) < (n : Int) := by omega
                  have hpl : p < l.length := by rw [HN.out]; exact hlp
                  obtain ⟨⟨x1, x2, x3⟩, hx⟩ : ∃ x, l[p]? = some x := ⟨_, List.getElem?_eq_getElem hpl⟩
                  obtain ⟨a0, a1, a2⟩ := hOw p _ (Nat.zero_le _) hx
                  have d0 := cell_later hBw (HC.out p _ hx).1
                  have d1 := cell_later hBw (HC.out p _ hx).2.1
                  have d2 := cell_later hBw (HC.out p _ hx).2.2
                  simp only at a0 a1 a2 d0 d1 d2
                  have HB := Lib.hid hBw
                  have HO := Lib.hid hOw
                  clear hx hpl hBw hOw
                  go_wp2_with fail
                  go_quiet (fail)
                  go_wp2_with fail
                  go_roundw
                  case rel => exact ⟨p + 1, by omega, by go_num, below_drewN HB.out _, HO.out.drew _⟩
                  case measure => simp [intOf]; omega
                · have zp : (n : Int) ≤ (p : Int) := by omega
                  have HB := Lib.hid hBw
                  clear hBw hOw
                  go_wp2_with fail
                  refine (awake_any _).mono ?_; rintro e w9 ⟨rfl, hb9⟩
                  go_wp2_with fail
                  go_ret
                  exact ⟨rfl, HB.out.trans (hb9.mono HB.out.size)⟩
        · exact absurd HA.out hA
      · have HA := Lib.hid hA
        clear hA
        go_wp2_with fail
        refine (B2.out _ (R5.out.carry hb2)).mono ?_
        rintro e w3 ⟨hb3, hp⟩
        rcases hp with ⟨hA, _⟩ | ⟨hA, rfl⟩
        · exact absurd hA HA.out
        · clear hA
          have hbz : Below w.heap.size w w3 := Below.trans (Below.trans (Below.trans hb1 (hbr.mono hb1.size)) (hb2.mono (by have := hbr.size; have := hb1.size; omega))) (hb3.mono (by have := hbr.size; have := hb1.size; omega))
          have hoz : CellsFrom w3 g6 0 l := fun i x _ hx => by
            obtain ⟨a, b, c⟩ := O6.out i x hx
            exact ⟨cell_later hb3 (cell_later hb2 (cell_later hbr a)), cell_later hb3 (cell_later hb2 (cell_later hbr b)), cell_later hb3 (cell_later hb2 (cell_later hbr c))⟩
          have HBZ := Lib.hid hbz
          have HOZ := Lib.hid hoz
          clear hbz hoz
          go_wp2_with fail
          go_loopw [57] (fun s wr => s = .int .i64 0 ∧ wr = w3) (fun s _ => 0)
          case atStart => exact ⟨rfl, rfl⟩
          case round =>
            obtain ⟨rfl, rfl⟩ := hrel
            go_wp2_with fail
            go_loopw [80] (fun s wr => ∃ k : Nat, k ≤ n ∧ s = .int .i64 k ∧ Below w.heap.size w wr ∧ CellsFrom wr g6 0 l) (fun s _ => n - (intOf s).toNat)
            case atStart => exact ⟨0, Nat.zero_le _, rfl, HBZ.out, HOZ.out⟩
            case round =>
              obtain ⟨p, hp, rfl, hBw, hOw⟩ := hrel
              by_cases hlp : p < n
              · have zp : (p : Int) < (n : Int) := by omega
                have hpl : p < l.length := by rw [HN.out]; exact hlp
                obtain ⟨⟨x1, x2, x3⟩, hx⟩ : ∃ x, l[p]? = some x := ⟨_, List.getElem?_eq_getElem hpl⟩
                obtain ⟨a0, a1, a2⟩ := hOw p _ (Nat.zero_le _) hx
                have d0 := cell_later hBw (HC.out p _ hx).1
                have d1 := cell_later hBw (HC.out p _ hx).2.1
                have d2 := cell_later hBw (HC.out p _ hx).2.2
                simp only at a0 a1 a2 d0 d1 d2
                have HB := Lib.hid hBw
                have HO := Lib.hid hOw
                clear hx hpl hBw hOw
                go_wp2_with fail
                go_quiet (fail)
                go_wp2_with fail
                go_roundw
                case rel => exact ⟨p + 1, by omega, by go_num, below_drewN HB.out _, HO.out.drew _⟩
                case measure => simp [intOf]; omega
              · have zp : (n : Int) ≤ (p : Int) := by omega
                have HB := Lib.hid hBw
                clear hBw hOw
                go_wp2_with fail
                refine (awake_any _).mono ?_; rintro e w9 ⟨rfl, hb9⟩
                go_wp2_with fail
                go_ret
                exact ⟨rfl, HB.out.trans (hb9.mono HB.out.size)⟩
/-! a slice of no entities -/
def chE (t : Int) : Int := if 0 ≤ t ∧ t ≤ 4294967295 then 0 else 2
theorem post_nil {t : Int} {E : TypeId} {w w' : World} {e : Ending} (h : ChainPost [] t E w e w') : Below w.heap.size w w' ∧ ∃ a c, e = .returned (.tuple #[.slice a 0 c, .int .i64 (chE t)]) := by
  obtain ⟨hb, h | h⟩ := h
  · obtain ⟨h1, v, rfl, ho⟩ := h
    refine ⟨hb, ?_⟩
    have e1 : chE t = 0 := if_pos h1.2
    rw [e1]
    rcases owns_cells (l := ([] : List (Int × Int × Int)).map (chg t)) (by simpa using ho) with ⟨_, rfl⟩ | ⟨g, cap, rfl, _⟩
    · exact ⟨none, 0, rfl⟩
    · exact ⟨some ⟨g, 0, none⟩, cap, rfl⟩
  · obtain ⟨h1, rfl⟩ := h
    have e1 : chE t = 2 := if_neg fun h => h1 ⟨fun x hx => absurd hx List.not_mem_nil, h⟩
    rw [e1]
    exact ⟨hb, none, 0, rfl⟩
theorem Chain_nil (a : Option Addr) (cap : Nat) (t : Int) (W : World) : Calls Try.prog 21 #[.slice a 0 cap, .int .i64 t] W fun e w' => Below W.heap.size W w' ∧ ∃ a c, e = .returned (.tuple #[.slice a 0 c, .int .i64 (chE t)]) :=
  (Chain_any [] t a cap W (by simp) (fun x hx => absurd hx List.not_mem_nil) (Or.inl rfl)).mono fun _ _ h => post_nil h
theorem rChain_nil (a : Option Addr) (cap : Nat) (t : Int) (W : World) (bt : -9223372036854775808 ≤ t ∧ t ≤ 9223372036854775807) : Calls Try.prog 22 #[.slice a 0 cap, .int .i64 t] W fun e w' => Below W.heap.size W w' ∧ ∃ a c, e = .returned (.tuple #[.slice a 0 c, .int .i64 (chE t)]) :=
  (rChain_any [] t a cap W (by simp) (fun x hx => absurd hx List.not_mem_nil) (Or.inl rfl) bt).mono fun _ _ h => post_nil h
set_option maxRecDepth 100000 in
set_option maxHeartbeats 4000000 in
theorem chains_none (s : Option Addr) (cap : Nat) (t : Int) (w : World) (hsc : s = none → cap = 0) (bt : -9223372036854775808 ≤ t ∧ t ≤ 9223372036854775807) :
    Calls Try.prog 10 #[.slice s 0 cap, .int .i64 t] w fun e w' => e = .returned (.bool true) ∧ Below w.heap.size w w' := by
  obtain ⟨i0, hi, hz0, hz1, hz2⟩ := info_parts infoEntC
  have C1 := Lib.hid Chain_nil
  have C2 := Lib.hid fun a c W => rChain_nil a c t W bt
  cases s with
  | none =>
    obtain rfl := hsc rfl
    go_enter Try.func10, Try.ntmps10
    go_wp2_with (at_builtin; refine wpList_append_own_none rfl (.tmp 19) (.tmp 20) 50 rfl w.heap.size 25 i0 3 rfl hi _ 0 [] rfl (World.ownsRow_lit w #[] 0 (Nat.le_refl _) (by unfold maxLen; omega) rfl) rfl ?_)
    obtain ⟨o, ho⟩ : ∃ o : Obj, o = .cells #[] 25 := ⟨_, rfl⟩
    have hb1 : Below w.heap.size w (w.alloc (.cells #[] 25)) := Below.allocS (Below.refl _ _) _
    obtain ⟨w1, hw1⟩ : ∃ W : World, W = w.alloc (.cells #[] 25) := ⟨_, rfl⟩
    rw [← hw1] at hb1 ⊢
    clear ho hw1
    go_wp2_with fail
    go_loopw [5, 24] (fun v s wr => v = .slice none 0 0 ∧ s = .int .i64 0 ∧ wr = w1) (fun _ s _ => 0)
    case atStart => exact ⟨rfl, rfl, rfl⟩
    case round =>
      obtain ⟨rfl, rfl, rfl⟩ := hrel
      go_wp2_with fail
      refine (C1.out _ _ _ _).mono ?_
      rintro e w2 ⟨hb2, a, ca, rfl⟩
      go_wp2_with fail
      refine (C2.out _ _ _).mono ?_
      rintro e w3 ⟨hb3, b, cb, rfl⟩
      have hbz : Below w.heap.size w w3 := (hb1.trans (hb2.mono hb1.size)).trans (hb3.mono (Nat.le_trans hb1.size hb2.size))
      go_wp2_with fail
      go_loopw [57] (fun s wr => s = .int .i64 0 ∧ wr = w3) (fun s _ => 0)
      case atStart => exact ⟨rfl, rfl⟩
      case round =>
        obtain ⟨rfl, rfl⟩ := hrel
        go_wp2_with fail
        go_loopw [80] (fun s wz => s = .int .i64 0 ∧ wz = wr) (fun s _ => 0)
        case atStart => exact ⟨rfl, rfl⟩
        case round =>
          obtain ⟨rfl, rfl⟩ := hrel
          go_wp2_with fail
          refine (awake_any _).mono ?_; rintro e w9 ⟨rfl, hb9⟩
          go_wp2_with fail
          go_ret
          exact ⟨rfl, hbz.trans (hb9.mono hbz.size)⟩
  | some ad =>
    go_enter Try.func10, Try.ntmps10
    go_wp2_with (at_builtin; refine wpList_append_own _ rfl (.tmp 19) (.tmp 20) 50 rfl w.heap.size 25 i0 (.agg #[.int .u64 0, .int .u32 0, .int .u32 0]) 3 16 Try.underlying50 hi hz0 hz1 hz2 rfl (by decide) _ 0 [] rfl (World.ownsRow_lit w #[] 0 (Nat.le_refl _) (by unfold maxLen; omega) rfl) ad 0 cap [] rfl rfl ?c1 ?c2 ?c3 ?c4 ?c5 ?_)
    case c1 => intro j u hj; simp at hj
    case c2 => intro u hu; simp at hu
    case c3 => unfold maxLen; omega
    case c4 => omega
    case c5 => simp
    intro v6 w1 hown hg1 _
    have hb1 : Below w.heap.size w w1 := (Below.allocS (Below.refl _ _) _).grown hg1 (by simp) (fun k hk => by simp [Value.ownBlock] at hk; omega)
    clear hg1
    obtain ⟨a6, c6, rfl⟩ : ∃ a c, v6 = .slice a 0 c := by
      rcases owns_cells (l := []) (by simpa [cellsE] using hown) with ⟨_, rfl⟩ | ⟨g, cap, rfl, _⟩
      · exact ⟨none, 0, rfl⟩
      · exact ⟨some ⟨g, 0, none⟩, cap, rfl⟩
    clear hown
    go_wp2_with fail
    go_loopw [5, 24] (fun v s wr => v = .slice none 0 0 ∧ s = .int .i64 0 ∧ wr = w1) (fun _ s _ => 0)
    case atStart => exact ⟨rfl, rfl, rfl⟩
    case round =>
      obtain ⟨rfl, rfl, rfl⟩ := hrel
      go_wp2_with fail
      refine (C1.out _ _ _ _).mono ?_
      rintro e w2 ⟨hb2, a, ca, rfl⟩
      go_wp2_with fail
      refine (C2.out _ _ _).mono ?_
      rintro e w3 ⟨hb3, b, cb, rfl⟩
      have hbz : Below w.heap.size w w3 := (hb1.trans (hb2.mono hb1.size)).trans (hb3.mono (Nat.le_trans hb1.size hb2.size))
      go_wp2_with fail
      go_loopw [57] (fun s wr => s = .int .i64 0 ∧ wr = w3) (fun s _ => 0)
      case atStart => exact ⟨rfl, rfl⟩
      case round =>
        obtain ⟨rfl, rfl⟩ := hrel
        go_wp2_with fail
        go_loopw [80] (fun s wz => s = .int .i64 0 ∧ wz = wr) (fun s _ => 0)
        case atStart => exact ⟨rfl, rfl⟩
        case round =>
          obtain ⟨rfl, rfl⟩ := hrel
          go_wp2_with fail
          refine (awake_any _).mono ?_; rintro e w9 ⟨rfl, hb9⟩
          go_wp2_with fail
          go_ret
          exact ⟨rfl, hbz.trans (hb9.mono hbz.size)⟩
/-- THE LAW: any slice, any number of ticks -/
theorem ChargeChains_true (s : Option Addr) (len cap : Nat) (F : Nat → Nat → Value) (t : Int) (w : World) (r : PlainRow [some .u64, some .u32, some .u32] w s len cap F) (g : (Lit.int .i64 t).wf = true) :
    Calls Try.prog 10 #[.slice s len cap, .int .i64 t] w fun e w' => e = .returned (.bool true) ∧ Below w.heap.size w w' := by
  have bt := bounds_i64 g
  have hlm : len ≤ 9223372036854775807 := by
    rcases r with ⟨_, h, _⟩ | ⟨h, _⟩ | ⟨_, h1, h2, _⟩
    · omega
    · omega
    · unfold maxLen at h2; omega
  obtain ⟨l, hl, hf, hr⟩ := plain_list r
  subst hl
  rcases Nat.lt_or_ge 300 l.length with h | h
  · exact chains_many s cap l t w h hlm
  · rcases Nat.eq_zero_or_pos l.length with h0 | h0
    · rw [h0]
      refine chains_none s cap t w (fun e => ?_) bt
      rcases r with ⟨_, _, h⟩ | ⟨_, _, x, hx⟩ | ⟨h, _⟩
      · exact h
      · rw [e] at hx; cases hx
      · omega
    · rcases hr with hn | ⟨b, off, rfl, hc⟩
      · rw [hn] at h0; simp at h0
      · exact chains_some b off cap l t w h h0 hf (Or.inr ⟨b, off, rfl, hc⟩) bt
end Go.Proofs.Ytbddiagnijcmhaa
