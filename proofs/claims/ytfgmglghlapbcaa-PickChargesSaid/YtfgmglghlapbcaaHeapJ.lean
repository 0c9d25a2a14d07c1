/-
  Layer 18 (heap): a scope with two labels; what settle keeps true.
-/
import Derived.Test.YtfgmglghlapbcaaHeapL
import Derived.Scope
namespace Go.Proofs.Ytfgmglghlapbcaa
open Go.RowKit Go.Maps Go.IntWalk Go.Lib Go.Sort
set_option linter.unusedVariables false
/-- what holds at a jump to a label -/
def jumps (J : Nat → Act → World → Prop) (Q : Exit → Act → World → Prop) : Exit → Act → World → Prop
  | .goto l, a, w => J l a w
  | e, a, w => Q e a w
theorem jumps_mono {J J' : Nat → Act → World → Prop} {Q : Exit → Act → World → Prop} (h : ∀ l a w, J l a w → J' l a w) : ∀ e a w, jumps J Q e a w → jumps J' Q e a w := fun e a w q => by
  cases e <;> first | exact h _ _ _ q | exact q
@[go_sem] theorem jumps_normal {J : Nat → Act → World → Prop} {Q : Exit → Act → World → Prop} {a : Act} {w : World} : jumps J Q .normal a w = Q .normal a w := rfl
@[go_sem] theorem jumps_ret {J : Nat → Act → World → Prop} {Q : Exit → Act → World → Prop} {a : Act} {w : World} : jumps J Q .ret a w = Q .ret a w := rfl
theorem wp_scope_labels {P : Program} {a : Act} {w : World} {Q : Exit → Act → World → Prop} {c : Code} (J : Nat → Act → World → Prop) (μ : Nat → Act → World → Nat)
    (pass : ∀ l a w, J l a w → ∃ rest, findLabel c l = some rest ∧ rest.wp P (jumps (fun l' a' w' => J l' a' w' ∧ μ l' a' w' < μ l a w) Q) a w)
    (first : c.wp P (jumps J Q) a w) : (Code.scope c).wp P Q a w := by
  intro b k cs
  have key : ∀ n l a w, μ l a w = n → J l a w → ∃ rest, findLabel c l = some rest ∧ ∃ e a' w', Q e a' w' ∧ Arrives P (lone (b.at a (.code rest :: .inScope c :: k)) cs w) b k cs e a' w' := by
    intro n
    induction n using Nat.strongRecOn with
    | _ n ih =>
      intro l a w hn hJ
      obtain ⟨rest, hf, hp⟩ := pass l a w hJ
      refine ⟨rest, hf, ?_⟩
      obtain ⟨e, a₁, w₁, hq, harr⟩ := hp b (.inScope c :: k) cs
      cases e with
      | normal => exact ⟨.normal, a₁, w₁, hq, Steps.trans harr (.one step_inScope)⟩
      | exit id => exact ⟨.exit id, a₁, w₁, hq, fun k' hk => harr k' (by simp [exitTo, hk])⟩
      | goto l' =>
        obtain ⟨hJ', hlt⟩ := hq
        obtain ⟨rest', hf', e₂, a₂, w₂, hq₂, harr₂⟩ := ih _ (by omega) l' a₁ w₁ rfl hJ'
        have hg : gotoIn l' (.inScope c :: k) = some (.code rest' :: .inScope c :: k) := by simp [gotoIn, hf']
        exact ⟨e₂, a₂, w₂, hq₂, .of_steps (harr _ hg) harr₂⟩
      | ret => exact ⟨_, a₁, w₁, hq, harr⟩
      | panic ch => exact ⟨_, a₁, w₁, hq, harr⟩
      | outgrown => exact ⟨_, a₁, w₁, hq, harr⟩
  obtain ⟨e, a₁, w₁, hq, harr⟩ := first b (.inScope c :: k) cs
  cases e with
  | normal => exact ⟨.normal, a₁, w₁, hq, .head step_scope (Steps.trans harr (.one step_inScope))⟩
  | exit id => exact ⟨.exit id, a₁, w₁, hq, fun k' hk => .head step_scope (harr k' (by simp [exitTo, hk]))⟩
  | goto l' =>
    obtain ⟨rest', hf', e₂, a₂, w₂, hq₂, harr₂⟩ := key _ l' a₁ w₁ rfl hq
    have hg : gotoIn l' (.inScope c :: k) = some (.code rest' :: .inScope c :: k) := by simp [gotoIn, hf']
    exact ⟨e₂, a₂, w₂, hq₂, .of_steps (.head step_scope (harr _ hg)) harr₂⟩
  | ret => exact ⟨_, a₁, w₁, hq, .of_steps (.one step_scope) harr⟩
  | panic ch => exact ⟨_, a₁, w₁, hq, .of_steps (.one step_scope) harr⟩
  | outgrown => exact ⟨_, a₁, w₁, hq, .of_steps (.one step_scope) harr⟩
theorem skip_seq {P : Program} {a : Act} {w : World} {Q : Exit → Act → World → Prop} {c : Code} (h : c.wp P Q a w) : (Code.seq .skip c).wp P Q a w := wp_seq (wp_skip h)
theorem K_inl {K : Nat → Act → World → Prop} {A : Act → World → Prop} {B : Nat → Act → World → Prop} (h : K = fun l a' w' => (l = 0 ∧ A a' w') ∨ B l a' w') {a : Act} {w : World} (q : A a w) : K 0 a w := by rw [h]; exact Or.inl ⟨rfl, q⟩
/-- two labels; the code behind the second one stands at the end of that behind the first one -/
theorem wp_scope_two {P : Program} {a : Act} {w : World} {Q : Exit → Act → World → Prop} {c r0 r1 : Code} (J0 J1 : Act → World → Prop) (μ0 μ1 : Act → World → Nat) (h0 : findLabel c 0 = some (.seq .skip r0)) (h1 : findLabel c 1 = some (.seq .skip r1)) (B : Nat) (hB : ∀ a w, J1 a w → μ1 a w < B)
    (p1 : ∀ a w, J1 a w → r1.wp P (jumps (fun l a' w' => l = 1 ∧ J1 a' w' ∧ μ1 a' w' < μ1 a w) Q) a w)
    (p0 : ∀ a w, J0 a w → (∀ a w, J1 a w → r1.wp P (jumps (fun l a' w' => l = 1 ∧ J1 a' w') Q) a w) → ∀ K, (K = fun l a' w' => (l = 0 ∧ J0 a' w' ∧ μ0 a' w' < μ0 a w) ∨ (l = 1 ∧ J1 a' w')) → r0.wp P (jumps K Q) a w)
    (first : (∀ a w, J0 a w → ∀ K, (K = fun l a' w' => (l = 0 ∧ J0 a' w') ∨ (l = 1 ∧ J1 a' w')) → r0.wp P (jumps K Q) a w) → ∀ K, (K = fun l a' w' => (l = 0 ∧ J0 a' w') ∨ (l = 1 ∧ J1 a' w')) → c.wp P (jumps K Q) a w) : (Code.scope c).wp P Q a w := by
  have p1' : ∀ a w, J1 a w → r1.wp P (jumps (fun l a' w' => l = 1 ∧ J1 a' w') Q) a w := fun a w j => Code.wp_mono (jumps_mono fun l a w h => ⟨h.1, h.2.1⟩) (p1 a w j)
  refine wp_scope_labels (fun l a w => (l = 0 ∧ J0 a w) ∨ (l = 1 ∧ J1 a w)) (fun l a w => if l = 0 then B + μ0 a w else μ1 a w) ?_ ?_
  · rintro l a w (⟨rfl, j⟩ | ⟨rfl, j⟩)
    · refine ⟨_, h0, skip_seq <| Code.wp_mono (jumps_mono ?_) (p0 a w j p1' _ rfl)⟩
      rintro l a w (⟨rfl, j, hm⟩ | ⟨rfl, j⟩)
      · exact ⟨Or.inl ⟨rfl, j⟩, by simp; omega⟩
      · exact ⟨Or.inr ⟨rfl, j⟩, by have := hB a w j; simp; omega⟩
    · refine ⟨_, h1, skip_seq <| Code.wp_mono (jumps_mono ?_) (p1 a w j)⟩
      rintro l a w ⟨rfl, j, hm⟩
      exact ⟨Or.inr ⟨rfl, j⟩, by simpa using hm⟩
  · refine first (fun a w j K hK => Code.wp_mono (jumps_mono ?_) (p0 a w j p1' _ rfl)) _ rfl
    rintro l a w h
    subst hK
    rcases h with ⟨rfl, j, hm⟩ | ⟨rfl, j⟩
    · exact Or.inl ⟨rfl, j⟩
    · exact Or.inr ⟨rfl, j⟩
/-- where the items stand, but for one -/
def PlacedBut (V : Items) (f : Int → Option Int) (x : Int) : Prop := ∀ id, id ≠ x → ∀ q, f id = some q ↔ ∃ j : Nat, j < V.length ∧ V[j]!.1 = id ∧ q = j
def Placed (V : Items) (f : Int → Option Int) : Prop := ∀ id q, f id = some q ↔ ∃ j : Nat, j < V.length ∧ V[j]!.1 = id ∧ q = j
/-- a heap as it is between two calls -/
structure Good (w : World) (p : Nat) (a : Option Nat) (cap bm : Nat) (n : Int) (V : Items) (f : Int → Option Int) : Prop where
  raw : Raw w p a cap bm n V f V.length
  heaped : Heaped V
  apart : Apart V
  placed : Placed V f
/-- while settle moves: the item x belongs at the place k -/
structure Mid (w : World) (p g cap bm : Nat) (n : Int) (L : Items) (f : Int → Option Int) (c : Nat) (V0 : Items) (x : Int × Int) (k : Nat) : Prop where
  raw : Raw w p (some g) cap bm n L f c
  lt : k < L.length
  hole : Hole (L.set k x) k
  apart : Apart (L.set k x)
  perm : (L.set k x).Perm V0
  pl : PlacedBut (L.set k x) f x.1
  cn : putC (f x.1) c = L.length
  fx : (0 ≤ x.1 ∧ x.1 < n) ∧ 0 ≤ x.2 ∧ x.2 ≤ 18446744073709551615
theorem Mid.of_raw {w w' : World} {p g cap bm : Nat} {n : Int} {L : Items} {f : Int → Option Int} {c : Nat} {V0 : Items} {x : Int × Int} {k : Nat} (h : Mid w p g cap bm n L f c V0 x k) (r : Raw w' p (some g) cap bm n L f c) : Mid w' p g cap bm n L f c V0 x k := { h with raw := r }
theorem Mid.len {w : World} {p g cap bm : Nat} {n : Int} {L : Items} {f : Int → Option Int} {c : Nat} {V0 : Items} {x : Int × Int} {k : Nat} (h : Mid w p g cap bm n L f c V0 x k) : L.length ≤ 131072 ∧ c ≤ 131072 := by
  have e := holes_le n.toNat ((L.set k x).map Prod.fst) (apart_nodup h.apart) (fun y hy => by
    obtain ⟨z, hz, rfl⟩ := List.mem_map.1 hy
    rcases List.mem_or_eq_of_mem_set hz with q | rfl
    · have := (h.raw.fits z q).1; omega
    · have := h.fx; omega)
  rw [List.length_map, List.length_set] at e
  have := h.raw.pos
  have := h.raw.small
  have q := h.cn
  unfold putC at q
  split at q <;> omega
/-- the item at j moves to k -/
theorem Mid.move {w w' : World} {p g cap bm : Nat} {n : Int} {L : Items} {f : Int → Option Int} {c : Nat} {V0 : Items} {x : Int × Int} {k j : Nat} (h : Mid w p g cap bm n L f c V0 x k) (hj : j < L.length) (hjk : j ≠ k)
    (r : Raw w' p (some g) cap bm n (L.set k L[j]!) (setF f L[j]!.1 (some (k : Int))) (putC (f L[j]!.1) c)) (hh : Hole (swapL (L.set k x) k j) j) :
    Mid w' p g cap bm n (L.set k L[j]!) (setF f L[j]!.1 (some (k : Int))) (putC (f L[j]!.1) c) V0 x j := by
  have hk := h.lt
  have hkV : k < (L.set k x).length := by simpa using hk
  have hjV : j < (L.set k x).length := by simpa using hj
  have vk : (L.set k x)[k]! = x := by rw [set_at hk, if_pos rfl]
  have vj : (L.set k x)[j]! = L[j]! := by rw [set_at hk, if_neg (Ne.symm hjk)]
  have e : (L.set k L[j]!).set j x = swapL (L.set k x) k j := by
    unfold swapL
    rw [vk, vj]
    simp [List.set_set]
  have ne : L[j]!.1 ≠ x.1 := fun q => hjk (h.apart j k hjV hkV (by rw [vj, vk]; exact q))
  have fj : f L[j]!.1 = some (j : Int) := (h.pl _ ne _).2 ⟨j, hjV, by rw [vj], rfl⟩
  refine ⟨r, by simpa using hj, e ▸ hh, by rw [e]; exact swap_apart hkV hjV h.apart, by rw [e]; exact (swap_perm hkV hjV).trans h.perm, ?_, ?_, h.fx⟩
  · rw [e]
    intro id hid q
    rw [swap_len]
    by_cases hi : id = L[j]!.1
    · subst hi
      rw [setF_same]
      constructor
      · intro hq
        cases hq
        refine ⟨k, hkV, ?_, rfl⟩
        rw [swap_at hkV hjV, if_neg hjk, if_pos rfl, vj]
      · rintro ⟨i, il, hi, rfl⟩
        have : i = k := by
          have A := swap_apart hkV hjV h.apart
          refine A i k (by rw [swap_len]; exact il) (by rw [swap_len]; exact hkV) ?_
          rw [hi, swap_at hkV hjV, if_neg hjk, if_pos rfl, vj]
        rw [this]
    · rw [setF_other _ _ hi, h.pl id hid q]
      constructor
      · rintro ⟨i, il, hi', rfl⟩
        refine ⟨i, il, ?_, rfl⟩
        rw [swap_at hkV hjV]
        have i1 : j ≠ i := fun q => hi (by rw [← hi', ← q, vj])
        have i2 : k ≠ i := fun q => hid (by rw [← hi', ← q, vk])
        rw [if_neg i1, if_neg i2, hi']
      · rintro ⟨i, il, hi', rfl⟩
        refine ⟨i, il, ?_, rfl⟩
        rw [swap_at hkV hjV] at hi'
        by_cases i1 : j = i
        · rw [if_pos i1, vk] at hi'; exact absurd hi'.symm hid
        · rw [if_neg i1] at hi'
          by_cases i2 : k = i
          · rw [if_pos i2, vj] at hi'; exact absurd hi'.symm hi
          · rw [if_neg i2] at hi'; exact hi'
  · rw [setF_other _ _ (Ne.symm ne), List.length_set, ← h.cn]
    have : putC (f L[j]!.1) c = c := by rw [fj]; rfl
    rw [this]
theorem Mid.up {w w' : World} {p g cap bm : Nat} {n : Int} {L : Items} {f : Int → Option Int} {c : Nat} {V0 : Items} {x : Int × Int} {k : Nat} (h : Mid w p g cap bm n L f c V0 x k) (k0 : 0 < k)
    (r : Raw w' p (some g) cap bm n (L.set k L[par k]!) (setF f L[par k]!.1 (some (k : Int))) (putC (f L[par k]!.1) c)) :
    Mid w' p g cap bm n (L.set k L[par k]!) (setF f L[par k]!.1 (some (k : Int))) (putC (f L[par k]!.1) c) V0 x (par k) :=
  h.move (by have := h.lt; unfold par; omega) (by unfold par; omega) r (hole_up (by have := h.lt; simpa using this) k0 h.hole)
/-- what is above the place is before the item -/
def Above (L : Items) (x : Int × Int) (k : Nat) : Prop := 0 < k → ltI L[par k]! x
theorem Mid.down {w w' : World} {p g cap bm : Nat} {n : Int} {L : Items} {f : Int → Option Int} {c : Nat} {V0 : Items} {x : Int × Int} {k j : Nat} (h : Mid w p g cap bm n L f c V0 x k) (hj : j < L.length) (j0 : 0 < j) (hp : par j = k) (hs : ∀ i, 0 < i → i < L.length → par i = k → i ≠ j → ltI L[j]! L[i]!)
    (r : Raw w' p (some g) cap bm n (L.set k L[j]!) (setF f L[j]!.1 (some (k : Int))) (putC (f L[j]!.1) c)) :
    Mid w' p g cap bm n (L.set k L[j]!) (setF f L[j]!.1 (some (k : Int))) (putC (f L[j]!.1) c) V0 x j := by
  have hk := h.lt
  have pk : ∀ i, 0 < i → par i = k → i ≠ k := by intro i hi q; unfold par at q; omega
  refine h.move hj (pk j j0 hp) r (hole_down (by simpa using hj) j0 hp h.hole fun i i0 il hi hn => ?_)
  rw [set_at hk, set_at hk, if_neg (Ne.symm (pk j j0 hp)), if_neg (Ne.symm (pk i i0 hi))]
  exact hs i i0 (by simpa using il) hi hn
theorem Above.down {L : Items} {x : Int × Int} {k j : Nat} (hk : k < L.length) (hp : par j = k) (hl : ltI L[j]! x) : Above (L.set k L[j]!) x j := by
  intro _
  rw [hp, set_at hk, if_pos rfl]
  exact hl
theorem Mid.done {w w' : World} {p g cap bm : Nat} {n : Int} {L : Items} {f : Int → Option Int} {c : Nat} {V0 : Items} {x : Int × Int} {k : Nat} (h : Mid w p g cap bm n L f c V0 x k) (ha : Above L x k) (hk : ∀ i, 0 < i → i < L.length → par i = k → ltI x L[i]!)
    (r : Raw w' p (some g) cap bm n (L.set k x) (setF f x.1 (some (k : Int))) (putC (f x.1) c)) :
    Good w' p (some g) cap bm n (L.set k x) (setF f x.1 (some (k : Int))) ∧ (L.set k x).Perm V0 := by
  have hl := h.lt
  have vk : (L.set k x)[k]! = x := by rw [set_at hl, if_pos rfl]
  refine ⟨⟨?_, hole_done h.hole (fun k0 _ => ?_) (fun i i0 il hi => ?_), h.apart, fun id q => ?_⟩, h.perm⟩
  · rw [h.cn] at r
    rw [List.length_set]; exact r
  · have hpa : par k < k := by unfold par; omega
    rw [set_at hl, set_at hl, if_neg (by omega), if_pos rfl]
    exact ha k0
  · have hne : k ≠ i := by unfold par at hi; omega
    rw [set_at hl, set_at hl, if_pos rfl, if_neg hne]
    exact hk i i0 (by simpa using il) hi
  · by_cases hid : id = x.1
    · subst hid
      rw [setF_same]
      constructor
      · intro hq; cases hq; exact ⟨k, by simpa using hl, by rw [vk], rfl⟩
      · rintro ⟨j, jl, hj, rfl⟩
        rw [h.apart j k jl (by simpa using hl) (by rw [hj, vk])]
    · rw [setF_other _ _ hid]; exact h.pl id hid q
theorem Mid.at {w : World} {p g cap bm : Nat} {n : Int} {L : Items} {f : Int → Option Int} {c : Nat} {V0 : Items} {x : Int × Int} {k j : Nat} (h : Mid w p g cap bm n L f c V0 x k) (hj : j < L.length) (hjk : j ≠ k) : L[j]! ≠ x := by
  intro e
  refine hjk (h.apart j k (by simpa using hj) (by simpa using h.lt) ?_)
  rw [set_at h.lt, set_at h.lt, if_neg (Ne.symm hjk), if_pos rfl, e]
theorem Mid.ne {w : World} {p g cap bm : Nat} {n : Int} {L : Items} {f : Int → Option Int} {c : Nat} {V0 : Items} {x : Int × Int} {k i j : Nat} (h : Mid w p g cap bm n L f c V0 x k) (hi : i < L.length) (hj : j < L.length) (hik : i ≠ k) (hjk : j ≠ k) (hij : i ≠ j) : L[i]! ≠ L[j]! := by
  intro e
  refine hij (h.apart i j (by simpa using hi) (by simpa using hj) ?_)
  rw [set_at h.lt, set_at h.lt, if_neg (Ne.symm hik), if_neg (Ne.symm hjk), e]
theorem ordV_neg {a b : Int × Int} : ordV a b < 0 ↔ ltI a b := by
  unfold ordV ltI orV Lib.compareInt
  repeat split
  all_goals first | omega | (constructor <;> intro h <;> first | omega | (rcases h with h | h <;> omega))
end Go.Proofs.Ytfgmglghlapbcaa
