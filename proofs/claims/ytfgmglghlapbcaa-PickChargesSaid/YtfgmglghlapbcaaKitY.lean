/-
  Inside a round of a range over a function: a region that draws its order, walked as everywhere (fence wide).
-/
import Derived.Test.YtfgmglghlapbcaaKitX
import Derived.Test.YtfgmglghlapbcaaKitH
import Derived.OrdersIn
import Derived.RangeFuncCalls
namespace Go.Proofs.Ytfgmglghlapbcaa
open Go Go.RowKit Go.Lib
set_option linter.unusedVariables false
section
variable {P : Program} {n l : Nat} {ops : Array Oper}
theorem rowsIn_round {row : String} {args : Array Value} {w : World} {R : Value → World → Prop} (h : Rows P row args w R) : RowsIn (Fence.wide.inRound l) n P row args w R := fun c cs _ => by
  obtain ⟨v, w', r, s⟩ := h c cs
  exact ⟨v, w', r, stepsIn_wide.2 s⟩
theorem callsIn_round {f : FuncId} {args : Array Value} {w : World} {R : Ending → World → Prop} (h : Calls P f args w R) : CallsIn (Fence.wide.inRound l) n P f args w R := CallsIn.inRound l (callsIn_wide.2 h)
theorem wpInR_of_wp {o : Oper} {a : Act} {w : World} {next : Act → World → Prop} {Q : Exit → Act → World → Prop} (hd : ∀ c, o.op ≠ .defer c) (h : o.wp P a w next Q) : o.wpIn (Fence.wide.inRound l) n P a w next Q := by
  refine ⟨fun _ _ => trivial, ?_⟩
  rw [Oper.semAt_eq _ _ _ hd]
  unfold Oper.wp at h
  generalize (execOp a.eval o).run P w = r at h ⊢
  cases r with
  | ok v w' =>
    cases v with
    | value v => exact h
    | skip => exact h
    | defer d => exact h
    | enter f args => exact ⟨fun q => absurd q (by simp [Fence.inRound, Fence.wide]), callsIn_round h⟩
    | row row args => exact ⟨fun q => absurd q (by simp [Fence.inRound, Fence.wide]), rowsIn_round h⟩
    | _ => exact h.elim
  | halt x w' =>
    cases x with
    | panic v => exact h
    | _ => exact h.elim
def noDefer (ops : Array Oper) : Bool := ops.all fun o => match o.op with | .defer _ => false | _ => true
theorem noDefer_at (h : noDefer ops = true) {i : Nat} {o : Oper} (ho : ops[i]? = some o) : ∀ c, o.op ≠ .defer c := fun c e => by
  obtain ⟨hi, hx⟩ := Array.getElem?_eq_some_iff.1 ho
  have := (Array.all_eq_true.1 h) i hi
  rw [hx, e] at this
  cases this
theorem wpAnyIn_of_wpAny {Q : Exit → Act → World → Prop} (hL : ¬ LetsOut Q) (hd : noDefer ops = true) (md : Region.Mode) : ∀ (fuel : Nat) (listed : Array Bool) (a : Act) (w : World), wpAny P md ops Q fuel listed a w → wpAnyIn (Fence.wide.inRound l) n P md ops Q fuel listed a w
  | 0, _, _, _, h => h
  | fuel + 1, listed, a, w, h => ⟨h.1, fun i hi => by
      have hh := h.2 i hi
      unfold wpOp at hh
      unfold wpOpIn
      cases ho : ops[i]? with
      | none =>
        rw [ho] at hh
        exact wpAnyIn_of_wpAny hL hd md fuel _ a w hh
      | some o =>
        rw [ho] at hh
        simp only at hh ⊢
        by_cases hw : Region.wanted o (yielded ops a.tmps) = true
        · rw [if_pos hw] at hh ⊢
          rcases hh with hh | ⟨_, hh⟩
          · exact Oper.wpIn_mono (fun a w => wpAnyIn_of_wpAny hL hd md fuel _ a w) (wpInR_of_wp (noDefer_at hd ho) hh)
          · exact absurd hh hL
        · rw [if_neg hw] at hh ⊢
          exact ⟨fun _ _ => trivial, wpAnyIn_of_wpAny hL hd md fuel _ _ w hh⟩⟩
end
section
variable {P : Program} {n l : Nat} {ops : Array Oper} {Q : Exit → Act → World → Prop} {S : World → Prop}
theorem wpAny_of_H : ∀ (fuel : Nat) (listed : Array Bool) (a : Act) (w : World), wpAnyH P .any ops Q S fuel listed a w → wpAny P .any ops Q fuel listed a w
  | 0, _, _, _, h => h
  | fuel + 1, _, _, _, h => ⟨h.1, fun i hi => wpOp_mono (fun a' w' h' => wpAny_of_H fuel _ a' w' h'.2) (h.2 i hi)⟩
theorem not_letout {K : Act → World → Prop} : ¬ LetsOut (Exit.then K fun _ _ _ => False) := fun ⟨_, _, h⟩ => h
/-- as 'wp_region_held_drew', in a round -/
theorem wpIn_region_held_drew {id : Nat} {a : Act} {w : World} (hd : noDefer ops = true) (hm : P.follows .mixedOrders = true) (hS : S w.drew)
    (h : S w.drew → wpAnyH P .any ops (Exit.then (Q .normal) fun _ _ _ => False) S ops.size (Array.replicate ops.size false) a w.drew) : (Code.region id ops true).wpIn (Fence.wide.inRound l) n P Q a w :=
  wpIn_mono (wpIn_region_any hm (wpAnyIn_of_wpAny not_letout hd _ _ _ _ _ (wpAny_of_H _ _ _ _ (h hS)))) fun e a w h => by
    cases e with
    | normal => exact h
    | _ => exact h.elim
end
section
variable {P : Program} {ops : Array Oper} {Q : Exit → Act → World → Prop} {S : World → Prop}
/-- as 'wp_region_held_drew', where nothing is said of a panic -/
theorem wp_region_held_drew0 {id : Nat} {a : Act} {w : World} (hm : P.follows .mixedOrders = true) (hS : S w.drew)
    (h : S w.drew → wpAnyH P .any ops (Exit.then (Q .normal) fun _ _ _ => False) S ops.size (Array.replicate ops.size false) a w.drew) : (Code.region id ops true).wp P Q a w :=
  Code.wp_mono (fun e a w h => by
    cases e with
    | normal => exact h
    | _ => exact h.elim) (wp_region_held_drew hm hS h)
end
/-! ### a region that draws, inside a fence: with a word S that holds up to the operations U -/
section
variable {F : Fence} {n : Nat} {P : Program} {ops : Array Oper} {Q : Exit → Act → World → Prop} {md : Region.Mode} {S : World → Prop} {U : List Nat}
/-- yields v where S holds, and calls nothing -/
def YI (P : Program) (ops : Array Oper) (S : World → Prop) (o : Oper) (v : Value) (a : Act) : Prop := YieldsIf P ops S o v a ∧ ∀ w, o.about P w a.eval = none
theorem YI.op {i : Nat} {o : Oper} {v : Value} {a : Act} {K : Act → World → Prop} {w : World} (hro : F.round = none) (hi : ops[i]? = some o) (hy : YI P ops S o v a) (hS : S w) (h : K (a.put o.dst v) w) : wpOpIn F n P ops Q i K a w := by
  have hab : ∀ f, o.about P w a.eval = some f → F.fn f := fun f hf => by rw [hy.2 w] at hf; cases hf
  unfold wpOpIn
  simp only [hi]
  obtain ⟨hw, hv⟩ | ⟨hw, hv⟩ := hy.1
  · rw [if_pos hw]
    unfold Oper.wpIn
    rw [hro, Oper.semAt_none, hv w hS]
    exact ⟨hab, h⟩
  · rw [if_neg (by rw [hw]; decide), ← hv]
    exact ⟨hab, h⟩
theorem YI.later {oi oj : Oper} {v : Value} {a : Act} (hsi : ∀ cs b, oi.op ≠ .select cs b) (h3 : ∀ d, oj.dst = some d → d ∉ oi.looksAt ops) (hy : YI P ops S oi v a) (u : Value) : YI P ops S oi v (a.put oj.dst u) :=
  ⟨hy.1.of_same (execOp_put oi hsi a oj.dst u h3) (wanted_put oi a oj.dst u h3), fun w => (about_put oi w a oj.dst u h3).trans (hy.2 w)⟩
/-- what yields may be taken ahead of an operation that is apart from it -/
theorem YI.swap {j : Nat} {oi oj : Oper} {v : Value} (hro : F.round = none) (hj : ops[j]? = some oj) (hap : oi.apart ops oj = true) (hsi : ∀ cs b, oi.op ≠ .select cs b) (hsj : ∀ cs b, oj.op ≠ .select cs b)
    (hQ : ∀ c a w, Q (.panic c) (a.put oi.dst v) w → Q (.panic c) a w) {K : Act → World → Prop} {a : Act} {w : World} (hy : YI P ops S oi v a) (h : wpOpIn F n P ops Q j K (a.put oi.dst v) w) :
    wpOpIn F n P ops Q j (fun a' w' => YI P ops S oi v a' ∧ K (a'.put oi.dst v) w') a w := by
  obtain ⟨h1, h2, h3⟩ := Oper.apart_spec hap
  have keep := fun a (q : YI P ops S oi v a) u => YI.later (oj := oj) hsi h3 q u
  have back : ∀ (b : Act) u w', K ((b.put oi.dst v).put oj.dst u) w' → K ((b.put oj.dst u).put oi.dst v) w' := fun b u w' q => by rw [← Act.put_comm b v u h2]; exact q
  unfold wpOpIn at h ⊢
  rw [hj] at h ⊢
  simp only at h ⊢
  rw [wanted_put oj a oi.dst v h1] at h
  by_cases hw : Region.wanted oj (yielded ops a.tmps) = true
  · rw [if_pos hw] at h ⊢
    unfold Oper.wpIn at h ⊢
    rw [about_put oj w a oi.dst v h1, hro, Oper.semAt_none, execOp_put oj hsj a oi.dst v h1] at h
    rw [hro, Oper.semAt_none]
    refine ⟨h.1, ?_⟩
    have h := h.2
    generalize (execOp a.eval oj).run P w = r at h ⊢
    cases r with
    | ok x w' =>
      cases x with
      | value u => exact ⟨keep a hy u, back a u w' h⟩
      | skip => exact ⟨keep a hy _, back a undef w' h⟩
      | defer d =>
        refine ⟨keep { a with defers := d :: a.defers } ⟨hy.1.of_same rfl rfl, hy.2⟩ _, back { a with defers := d :: a.defers } undef w' ?_⟩
        have h' : K (({ (a.put oi.dst v) with defers := d :: (a.put oi.dst v).defers }).put oj.dst undef) w' := h
        rw [← Act.put_defers]
        exact h'
      | enter f args =>
        refine ⟨h.1, CallsIn.mono h.2 fun e w'' he => ?_⟩
        cases e with
        | returned u => exact ⟨keep a hy u, back a u w'' he⟩
        | panicked c => exact hQ _ _ _ he
        | outgrown => exact he
      | row row args => exact ⟨h.1, RowsIn.mono h.2 fun u w'' he => ⟨keep a hy u, back a u w'' he⟩⟩
      | round l f tmps assign body =>
        refine ⟨h.1, RoundIn.mono h.2 fun e w'' he => ?_⟩
        cases e with
        | returned u => exact ⟨keep a hy u, back a u w'' he⟩
        | panicked c => exact hQ _ _ _ he
        | outgrown => exact he
      | _ => exact h.elim
    | halt x w' =>
      cases x with
      | panic u => exact hQ _ _ _ h
      | _ => exact h.elim
  · rw [if_neg hw] at h ⊢
    rw [about_put oj w a oi.dst v h1] at h
    exact ⟨h.1, keep a hy _, back a undef w h.2⟩
/-- as 'wpAnyIn'; S holds behind each operation but those of U -/
def wpV (F : Fence) (n : Nat) (P : Program) (md : Region.Mode) (ops : Array Oper) (Q : Exit → Act → World → Prop) (S : World → Prop) (U : List Nat) : Nat → Array Bool → Act → World → Prop
  | 0, listed, a, w => Region.ready md ops listed = [] ∧ Q .normal a w
  | fuel + 1, listed, a, w =>
    (Region.ready md ops listed = [] → Q .normal a w) ∧
    ∀ i ∈ Region.ready md ops listed, wpOpIn F n P ops Q i (fun a' w' => (i ∈ U ∨ S w') ∧ wpV F n P md ops Q S U fuel (listed.setIfInBounds i true) a' w') a w
theorem wpAnyIn_of_V : ∀ (fuel : Nat) (listed : Array Bool) (a : Act) (w : World), wpV F n P md ops Q S U fuel listed a w → wpAnyIn F n P md ops Q fuel listed a w
  | 0, _, _, _, h => h
  | fuel + 1, _, _, _, h => ⟨h.1, fun i hi => wpOpIn_mono (fun a' w' h' => wpAnyIn_of_V fuel _ a' w' h'.2) (h.2 i hi)⟩
/-- what an operation waits for, by way of others too -/
def reaches (md : Region.Mode) (ops : Array Oper) : Nat → Nat → Nat → Bool
  | 0, _, _ => false
  | f + 1, j, i => ((ops[j]?).map fun o => o.after.toList.any fun e => Region.binds md e && (e.on == i || reaches md ops f e.on i)).getD false
def ClosedL (md : Region.Mode) (ops : Array Oper) (listed : Array Bool) : Prop := ∀ j o, ops[j]? = some o → listed.getD j false = true → ∀ e ∈ o.after, Region.binds md e = true → listed.getD e.on false = true
def closedB (md : Region.Mode) (ops : Array Oper) (listed : Array Bool) : Bool := (List.range ops.size).all fun j => !(listed.getD j false) || ((ops[j]?).map fun o => o.after.toList.all fun e => !(Region.binds md e) || listed.getD e.on false).getD true
theorem closedB_spec {listed : Array Bool} (h : closedB md ops listed = true) : ClosedL md ops listed := fun j o ho hj e he hb => by
  have hlt : j < ops.size := (Array.getElem?_eq_some_iff.1 ho).1
  have := List.all_eq_true.1 h j (List.mem_range.2 hlt)
  rw [hj, ho] at this
  simp only [Bool.not_true, Bool.false_or, Option.map_some, Option.getD_some, List.all_eq_true] at this
  have := this e (by simpa using he)
  rw [hb] at this
  simpa using this
theorem reaches_listed {listed : Array Bool} (hc : ClosedL md ops listed) {i : Nat} : ∀ (f j : Nat) (o : Oper), ops[j]? = some o → (∀ e ∈ o.after, Region.binds md e = true → listed.getD e.on false = true) → reaches md ops f j i = true → listed.getD i false = true
  | 0, _, _, _, _, h => by cases h
  | f + 1, j, o, ho, hall, h => by
    unfold reaches at h
    rw [ho] at h
    simp only [Option.map_some, Option.getD_some, List.any_eq_true, Bool.and_eq_true, Bool.or_eq_true, beq_iff_eq] at h
    obtain ⟨e, he, hb, q⟩ := h
    have hl := hall e (by simpa using he) hb
    rcases q with q | q
    · rw [← q]; exact hl
    · cases ho' : ops[e.on]? with
      | none =>
        cases f with
        | zero => cases q
        | succ f => unfold reaches at q; rw [ho'] at q; cases q
      | some o' => exact reaches_listed hc f e.on o' ho' (hc e.on o' ho' hl) q
theorem ClosedL.step {listed : Array Bool} (hc : ClosedL md ops listed) {j : Nat} {o : Oper} (ho : ops[j]? = some o) (hall : ∀ e ∈ o.after, Region.binds md e = true → listed.getD e.on false = true) : ClosedL md ops (listed.setIfInBounds j true) := fun k ok hk hl e he hb => by
  by_cases hjk : j = k
  · subst hjk
    rw [ho] at hk
    cases hk
    exact getD_set_true (hall e he hb)
  · rw [getD_set_ne false hjk] at hl
    exact getD_set_true (hc k ok hk hl e he hb)
theorem wpV_first {i : Nat} {oi : Oper} {v : Value} (hro : F.round = none) (hi : ops[i]? = some oi) (hsel : ∀ (j : Nat) (o : Oper) cs b, ops[j]? = some o → o.op ≠ .select cs b)
    (hQ : ∀ c a w, Q (.panic c) (a.put oi.dst v) w → Q (.panic c) a w) (hU : ∀ j, j ∈ U → j ≠ i → reaches md ops ops.size j i = true) :
    ∀ (fuel : Nat) (listed : Array Bool) (a : Act) (w : World), ClosedL md ops listed →
      (∀ j oj, ops[j]? = some oj → j ≠ i → listed.getD j true = false → (∀ e ∈ oj.after, Region.binds md e = true → e.on ≠ i) → oi.apart ops oj = true) →
      i ∈ Region.ready md ops listed → YI P ops S oi v a → S w →
      wpV F n P md ops Q S U fuel (listed.setIfInBounds i true) (a.put oi.dst v) w → wpV F n P md ops Q S U (fuel + 1) listed a w := by
  intro fuel
  induction fuel with
  | zero =>
    intro listed a w _ _ hr hy hS H
    refine ⟨fun h => (by rw [h] at hr; cases hr), fun j hj => ?_⟩
    by_cases hji : j = i
    · subst hji; exact hy.op hro hi hS ⟨Or.inr hS, H⟩
    · have := ready_mono hj hji
      rw [H.1] at this
      cases this
  | succ fuel ih =>
    intro listed a w hcl hfree hr hy hS H
    refine ⟨fun h => (by rw [h] at hr; cases hr), fun j hj => ?_⟩
    by_cases hji : j = i
    · subst hji; exact hy.op hro hi hS ⟨Or.inr hS, H⟩
    · obtain ⟨hjun, oj, hoj, hall⟩ := mem_ready.1 hj
      have hnot : ∀ e ∈ oj.after, Region.binds md e = true → e.on ≠ i := fun e he hb heq => by
        have q1 := hall e he hb
        have q0 := (mem_ready.1 hr).1
        rw [heq] at q1
        rcases Nat.lt_or_ge i listed.size with h' | h'
        · simp [h'] at q0 q1; rw [q0] at q1; cases q1
        · simp [Array.getElem?_eq_none h'] at q1
      have hjU : j ∉ U := fun q => by
        have q1 := reaches_listed hcl _ j oj hoj hall (hU j q hji)
        have q0 := (mem_ready.1 hr).1
        rcases Nat.lt_or_ge i listed.size with h' | h'
        · simp [h'] at q0 q1; rw [q0] at q1; cases q1
        · simp [Array.getElem?_eq_none h'] at q1
      have h2 := YI.swap hro hoj (hfree j oj hoj hji hjun hnot) (fun cs b => hsel i oi cs b hi) (fun cs b => hsel j oj cs b hoj) hQ hy (H.2 j (ready_mono hj hji))
      refine wpOpIn_mono (fun a' w' h3 => ?_) h2
      have hS' : S w' := h3.2.1.resolve_left hjU
      refine ⟨Or.inr hS', ih (listed.setIfInBounds j true) a' w' (hcl.step hoj hall) (fun k ok hk hki hun hno => hfree k ok hk hki ?_ hno) (ready_mono hr (Ne.symm hji)) h3.1 hS' ?_⟩
      · by_cases hjk : j = k
        · subst hjk; exact hjun
        · rw [getD_set_ne true hjk] at hun; exact hun
      · rw [Array.setIfInBounds_comm _ _ hji]
        exact h3.2.2
def takeOkV (md : Region.Mode) (ops : Array Oper) (U : List Nat) (listed : Array Bool) (i : Nat) : Bool :=
  takeOk md ops listed i && (U.all (fun j => j == i || reaches md ops ops.size j i) && closedB md ops listed)
theorem takeV {i : Nat} {oi : Oper} {r : List Oper} {v : Value} {fuel : Nat} {listed : Array Bool} {a : Act} {w : World} (hro : F.round = none) (hi : ops.toList.drop i = oi :: r) (hk : takeOkV md ops U listed i = true)
    (hQ : ∀ c a w, Q (.panic c) (a.put oi.dst v) w → Q (.panic c) a w) (hw : Region.wanted oi (yielded ops a.tmps) = true) (hy : ∀ w, S w → (execOp a.eval oi).run P w = .ok (.value v) w) (hab : ∀ w, oi.about P w a.eval = none) (hS : S w)
    (h : wpV F n P md ops Q S U fuel (listed.setIfInBounds i true) (a.put oi.dst v) w) : wpV F n P md ops Q S U (fuel + 1) listed a w := by
  unfold takeOkV takeOk at hk
  simp only [Bool.and_eq_true] at hk
  obtain ⟨⟨h1, h2, h3⟩, h4, h5⟩ := hk
  refine wpV_first hro (at_drop hi) (Region.noSelect_spec h1) hQ (fun j hu hji => ?_) fuel listed a w (closedB_spec h5) (Region.free_spec (at_drop hi) h2) (by simpa using h3) ⟨Or.inl ⟨hw, hy⟩, hab⟩ hS h
  have := List.all_eq_true.1 h4 j hu
  simp only [Bool.or_eq_true, beq_iff_eq] at this
  exact this.resolve_left hji
theorem startV {id : Nat} {a : Act} {w : World} (U : List Nat) (S : World → Prop) (hm : P.follows .mixedOrders = true) (hS : S w.drew)
    (h : S w.drew → wpV F n P .any ops Q S U ops.size (Array.replicate ops.size false) a w.drew) : (Code.region id ops true).wpIn F n P Q a w := wpIn_region_any hm (wpAnyIn_of_V _ _ _ _ (h hS))
theorem doneV {listed : Array Bool} {a : Act} {w : World} (hr : Region.ready md ops listed = []) (h : Q .normal a w) : ∀ fuel, wpV F n P md ops Q S U fuel listed a w
  | 0 => ⟨hr, h⟩
  | _ + 1 => ⟨fun _ => h, by rw [hr]; simp⟩
/-- the one operation that comes up next, of U -/
theorem oneV {fuel : Nat} {listed : Array Bool} {a : Act} {w : World} {i : Nat} {o : Oper} {r : List Oper} (hr : Region.ready md ops listed = [i]) (ho : ops.toList.drop i = o :: r) (hu : U.contains i = true)
    (h : ∀ K' : Act → World → Prop, Shut (∀ a w, wpV F n P md ops Q S U fuel (listed.setIfInBounds i true) a w → K' a w) → if Region.wanted o (yielded ops a.tmps) = true then Oper.wpIn F n P o a w K' Q else (∀ f, o.about P w a.eval = some f → F.fn f) ∧ K' (a.put o.dst undef) w) : wpV F n P md ops Q S U (fuel + 1) listed a w :=
  ⟨fun h0 => absurd (hr ▸ h0) (by simp), fun j hj => by
    rw [hr] at hj
    obtain rfl : j = i := by simpa using hj
    exact wpOpIn_step (at_drop ho) (fun K' hK => h K' (fun a w hW => hK a w ⟨Or.inl (by simpa using hu), hW⟩))⟩
end
end Go.Proofs.Ytfgmglghlapbcaa
