/-
  A range over a function whose iterator writes a box of its own (a variable that its function literal holds) between two rounds.
-/
import Derived.Test.YtfgmglghlapbcaaKitK
import Derived.RangeFuncNested
import Derived.RangeFuncBound
import Derived.RangeFuncBox
namespace Go.Proofs.Ytfgmglghlapbcaa
open Go Go.RowKit Go.Lib
set_option linter.unusedVariables false
variable {F : Fence} {n : Nat} {P : Program} {w : World}
/-- the caller's word stands when the iterator's box is written -/
def BoxFree {β : Type} (Bg : Nat) (J : β → World → Prop) : Prop := ∀ s A v, J s A → J s (A.setCell ⟨Bg, 0, none⟩ v)
/-- what is said of worlds abides a new block, and the turn of a block from B on that is a loop's record (neither cells nor a map) -/
structure OwnLoop {β : Type} (B : Nat) (I : β → World → Prop) : Prop where
  alloc : ∀ {s : β} {W : World} (o : Obj), I s W → I s (W.alloc o)
  drew : ∀ {s : β} {W : World}, I s W → I s W.drew
  putObj : ∀ {s : β} {W : World} {l : Nat} {o : Obj} (o' : Obj), I s W → B ≤ l → W.heap[l]? = some o → o.isCells = false → o.isWalk = false → I s (W.putObj l o')
theorem OwnFrom.loop {β : Type} {B : Nat} {I : β → World → Prop} (h : OwnFrom B I) : OwnLoop B I := ⟨fun o hs => h.alloc o hs, fun {s W} hs => h s W W.drew none hs ⟨rfl, rfl, rfl, Nat.le_refl _, fun _ _ _ => rfl⟩ (fun r e => by cases e), fun o' hs hB hl ho _ => h.putObj o' hs hB hl ho⟩
theorem OwnLoop.and {β : Type} {B : Nat} {I I' : β → World → Prop} (h : OwnLoop B I) (h' : OwnLoop B I') : OwnLoop B (fun s W => I s W ∧ I' s W) :=
  ⟨fun o hs => ⟨h.alloc o hs.1, h'.alloc o hs.2⟩, fun hs => ⟨h.drew hs.1, h'.drew hs.2⟩, fun o' hs hB hl ho hw => ⟨h.putObj o' hs.1 hB hl ho hw, h'.putObj o' hs.2 hB hl ho hw⟩⟩
theorem ownLoop_pure {β : Type} {B : Nat} (p : β → Prop) : OwnLoop B (fun s (_ : World) => p s) := ⟨fun _ hs => hs, fun hs => hs, fun _ hs _ _ _ _ => hs⟩
/-- the contract of an iterator that writes the box Bg -/
def SeqBox {α : Type} (F : Fence) (n : Nat) (P : Program) (g : Nat) (lb : Array Value) (encs : α → Array Value) (Kp : World → World → Prop) (Bg : Nat) (S Sp : List α → Prop) (w : World) : Prop :=
  ∀ (l : Nat) (J Jx : List α → World → Prop) (W : World), Below w.heap.size w W → BoxFree Bg J → BoxFree Bg Jx → (∀ s A, J s A → J s A.drew) →
    (∀ pre x W1, J pre W1 → Sp (pre ++ [x]) → YieldAt F (n - 1) P l (encs x) W1 fun e W' =>
      (e = .returned (.bool true) ∧ J (pre ++ [x]) W' ∧ Kp W1 W') ∨ (e = .returned (.bool false) ∧ Jx (pre ++ [x]) W')) →
    J [] W →
    CallsIn F n P g (#[.func (.yield l) #[] #[]] ++ lb) W fun e W' => (∃ v, e = .returned v) ∧ ((∃ xs, S xs ∧ J xs W') ∨ (∃ pre, Sp pre ∧ Jx pre W'))
/-- what a round keeps: whatever is neither cells nor a map, from B on, lies as it lay -/
structure KeepsLoop (B : Nat) (W W' : World) : Prop where
  size : W.heap.size ≤ W'.heap.size
  same : ∀ (k : Nat) (o : Obj), B ≤ k → W.heap[k]? = some o → o.isCells = false → o.isWalk = false → W'.heap[k]? = some o
theorem keeps_loop {B : Nat} {W W' : World} (h : KeepsFrom B W W') : KeepsLoop B W W' := ⟨h.size, fun k o hB hk ho _ => h.same k o hB hk ho⟩
theorem KeepsLoop.refl (B : Nat) (W : World) : KeepsLoop B W W := keeps_loop (KeepsFrom.refl B W)
theorem KeepsLoop.trans {B : Nat} {X Y Z : World} (h : KeepsLoop B X Y) (k : KeepsLoop B Y Z) : KeepsLoop B X Z := ⟨Nat.le_trans h.size k.size, fun i o hB hi ho hw => k.same i o hB (h.same i o hB hi ho hw) ho hw⟩
theorem KeepsLoop.below {B : Nat} {W W' : World} (h : Below W.heap.size W W') : KeepsLoop B W W' := ⟨h.size, fun k o _ hk _ _ => (h.block k (Array.getElem?_eq_some_iff.1 hk).1).trans hk⟩
theorem KeepsLoop.kept {B : Nat} {G : List Nat} {W W' : World} (h : Kept G W W') (hG : ∀ b ∈ G, ∃ x : Obj, W.heap[b]? = some x ∧ (x.isCells = true ∨ x.isWalk = true)) : KeepsLoop B W W' := ⟨h.size, fun k o _ hk ho hw => by
  refine (h.block k (Array.getElem?_eq_some_iff.1 hk).1 fun m => ?_).trans hk
  obtain ⟨x, hx, q⟩ := hG k m
  rw [hk] at hx
  cases hx
  rw [ho, hw] at q
  simp at q⟩
def ownPostL {α : Type} (B : Nat) (Kp : World → World → Prop) (I : List α → World → Prop) (Ix : Code → List α → World → Prop) (xs : List α) (W : World) : Exit → Act → World → Prop
  | .normal, _, W' => KeepsLoop B W W' ∧ Kp W W' ∧ I xs W'
  | .ret, _, W' => KeepsLoop B W W' ∧ Ix .ret xs W'
  | .exit id, _, W' => KeepsLoop B W W' ∧ Ix (.exit id) xs W'
  | .goto t, _, W' => KeepsLoop B W W' ∧ Ix (.goto t) xs W'
  | .panic _, _, _ => False
  | .outgrown, _, _ => False
/-- the statement's own two blocks: the rounds' deferred calls, and the record -/
def Rec2 (D : Nat) (r : Loop) (W : World) : Prop := W.heap[D + 1]? = some (.loop r) ∧ W.heap[D]? = some (.deferred (some []))
theorem Rec2.lt {D : Nat} {r : Loop} {W : World} (h : Rec2 D r W) : D + 1 < W.heap.size := (Array.getElem?_eq_some_iff.1 h.1).1
theorem Rec2.grown {D : Nat} {r : Loop} {A B : World} {row : Option Nat} (h : Rec2 D r A) (hg : A.grownBy B row) (hr : ∀ k, row = some k → ∃ o : Obj, A.heap[k]? = some o ∧ o.isWalk = true) : Rec2 D r B :=
  ⟨(grownBy_keeps hg hr h.1 rfl).trans h.1, (grownBy_keeps hg hr h.2 rfl).trans h.2⟩
theorem Rec2.set {D Bg : Nat} {r : Loop} {A : World} (h : Rec2 D r A) (hB : Bg < D) (v : Value) : Rec2 D r (A.setCell ⟨Bg, 0, none⟩ v) :=
  ⟨(heap_set_ne (by omega)).trans h.1, (heap_set_ne (by omega)).trans h.2⟩
theorem Rec2.kept {D : Nat} {r : Loop} {A B : World} (h : Rec2 D r A) (hk : KeepsLoop D A B) : Rec2 D r B := ⟨hk.same _ _ (by omega) h.1 rfl rfl, hk.same _ _ (Nat.le_refl _) h.2 rfl rfl⟩
theorem Rec2.put {D : Nat} {r r' : Loop} {A : World} (h : Rec2 D r A) : Rec2 D r' (A.putObj (D + 1) (.loop r')) := ⟨World.putObj_heap_same h.lt, (World.putObj_heap_other (by omega)).trans h.2⟩
/-- **the statement** -/
theorem range_box {α : Type} {g : Operand} {ps : Array Tmp} {assign body : Code} {Q : Exit → Act → World → Prop} {a : Act}
    (hro : F.round = none) (h1 : 1 ≤ n) {gf : Nat} {lb : Array Value} (hg : a.eval g = .func (.func gf) #[] lb) (hFg : F.fn gf) (eg : ∀ args w, (callFunc gf args).run P w = .ok (.enter gf args) w)
    {encs : α → Array Value} {Kp : World → World → Prop} {Bg : Nat} {S Sp : List α → Prop} {w0 : World} (hBg : Bg < w.heap.size) (hseq : SeqBox F (n - 1) P gf lb encs Kp Bg S Sp w0)
    (hKt : ∀ {A B C : World}, Kp A B → Kp B C → Kp A C) (hKb : ∀ (W : World) (l : Nat) (o o' : Obj), w.heap.size ≤ l → W.heap[l]? = some o → o.isCells = false → o.isWalk = false → Kp W (W.putObj l o')) (hb0 : Below w0.heap.size w0 w) (hps : ∀ x, (encs x).size = ps.size)
    (I : List α → World → Prop) (Ix : Code → List α → World → Prop) (hI : OwnLoop w.heap.size I) (hIx : ∀ c, OwnLoop w.heap.size (Ix c)) (hIb : BoxFree Bg I) (hIxb : ∀ c, BoxFree Bg (Ix c)) (h0 : I [] w) (Ax : α → Act → World → Prop) (hAx : ∀ x a', OwnLoop w.heap.size (fun (_ : Unit) W => Ax x a' W))
    (hassign : ∀ (l : Nat) (pre : List α) (x : α) (W : World) (K : Act → World → Prop), I pre W → (∀ a' W', KeepsLoop w.heap.size W W' → Kp W W' → I pre W' → Ax x a' W' → K a' W') →
      assign.wpIn (F.inRound l) (n - 1 - 1) P (Exit.then K (fun _ _ _ => False)) { tmps := (ps.zip (encs x)).foldl (fun t (p, v) => t.setIfInBounds p v) a.tmps, defers := [] } W)
    (hbody : ∀ (l : Nat) (pre : List α) (x : α) (a' : Act) (W : World), w.heap.size ≤ l → (∃ r, W.heap[l]? = some (.loop r)) → I pre W → Ax x a' W → Sp (pre ++ [x]) → body.wpIn (F.inRound l) (n - 1 - 1) P (ownPostL w.heap.size Kp I Ix (pre ++ [x]) W) a' W)
    (hdone : ∀ (D : Nat) (xs : List α) (W : World), w.heap.size ≤ D → S xs → I xs W → W.heap[D]? = some (.deferred (some [])) → Q .normal { a with defers := { target := .collected D, args := #[] } :: a.defers } W)
    (hstop : ∀ (D : Nat) (c : Code) (pre : List α) (W : World), w.heap.size ≤ D → Sp pre → Ix c pre W → W.heap[D]? = some (.deferred (some [])) → c.wpIn F n P Q { a with defers := { target := .collected D, args := #[] } :: a.defers } W) :
    (Code.rangeFunc g ps assign body).wpIn F n P Q a w := by
  refine wpIn_rangeFunc fun fn hfn => ?_
  rw [hro]
  -- the record, by its state and what is pending
  have mk : ∃ R : LoopState → Option Code → Loop, (∀ s p, (R s p).state = s) ∧ (∀ s p, (R s p).pending = p) ∧ (∀ s p s' p', ({ R s p with state := s', pending := p' } : Loop) = R s' p') ∧ (∀ s p s', ({ R s p with state := s' } : Loop) = R s' p) ∧ (∀ s p, (R s p).params = ps) ∧ (∀ s p, (R s p).fn = fn) ∧ (∀ s p, (R s p).tmps = a.tmps) ∧ (∀ s p, (R s p).assign = assign) ∧ (∀ s p, (R s p).body = body) ∧ R .ready none = { state := .ready, pending := none, fn := fn, tmps := a.tmps, params := ps, assign := assign, body := body, defers := w.heap.size } :=
    ⟨fun s p => { state := s, pending := p, fn := fn, tmps := a.tmps, params := ps, assign := assign, body := body, defers := w.heap.size }, fun _ _ => rfl, fun _ _ => rfl, fun _ _ _ _ => rfl, fun _ _ _ => rfl, fun _ _ => rfl, fun _ _ => rfl, fun _ _ => rfl, fun _ _ => rfl, fun _ _ => rfl, rfl⟩
  obtain ⟨R, rs, rp, rr, rq, rps, rfn, rt, ra, rb, r0⟩ := mk
  obtain ⟨W1, e1⟩ : ∃ X, X = (w.alloc (.deferred (some []))).alloc (.loop (R .ready none)) := ⟨_, rfl⟩
  have hT : Rec2 w.heap.size (R .ready none) W1 := by
    rw [e1]
    refine ⟨?_, (Below.heap_alloc _ _ _ (by simp)).trans (World.alloc_heap_new w _)⟩
    have := World.alloc_heap_new (w.alloc (.deferred (some []))) (.loop (R .ready none))
    rwa [World.size_alloc] at this
  have hsz : W1.heap.size = w.heap.size + 2 := by rw [e1]; simp
  have hb1 : Below w0.heap.size w0 W1 := hb0.trans (by rw [e1]; exact (((Below.refl _ w).alloc (Nat.le_refl _) _).alloc (by simp) _).mono hb0.size)
  have hI1 : I [] W1 := by rw [e1]; exact hI.alloc _ (hI.alloc _ h0)
  have call : ∀ args w, (callFunc gf args).run P w = .ok (.enter gf args) w := eg
  refine ⟨w.heap.size + 1, [{ target := .collected w.heap.size, args := #[] }], W1, { target := .fn (.func gf) lb, args := #[.func (.yield (w.heap.size + 1)) #[] #[]] }, W1, gf, #[.func (.yield (w.heap.size + 1)) #[] #[]] ++ lb, W1, ?_, ?_, ?_, ?_, fun _ => h1, ?_⟩
  · rw [e1, r0]; exact run_enterLoop_outer _ _ _ _ _
  · simp only [resolve, hg]
    simp [go_sem]
  · intro f' hf'
    simp [Target.leads] at hf'
    subst hf'
    exact hFg
  · simp [invoke, go_sem, call]
  have keyJ : CallsIn F (n - 1) P gf (#[.func (.yield (w.heap.size + 1)) #[] #[]] ++ lb) W1 fun e W' => (∃ v, e = .returned v) ∧ ((∃ xs, S xs ∧ (I xs W' ∧ Rec2 w.heap.size (R .ready none) W')) ∨ (∃ pre, Sp pre ∧ ∃ c, Ix c pre W' ∧ Rec2 w.heap.size (R .done (some c)) W')) := by
    refine hseq (w.heap.size + 1) (fun pre W => I pre W ∧ Rec2 w.heap.size (R .ready none) W) (fun pre W => ∃ c, Ix c pre W ∧ Rec2 w.heap.size (R .done (some c)) W) W1 hb1 ?_ ?_ (fun s A h => ⟨hI.drew h.1, h.2⟩) ?_ ⟨hI1, hT⟩
    · rintro s A v ⟨q1, q2⟩
      exact ⟨hIb s A v q1, q2.set hBg v⟩
    · rintro s A v ⟨c, q1, q2⟩
      exact ⟨c, hIxb c s A v q1, q2.set hBg v⟩
    rintro pre x W ⟨hi, ht⟩ hlen
    have hy := run_yield (P := P) (args := encs x) ht.1 (by rw [rps]; exact hps x)
    rw [rps, rfn, rt, ra, rb] at hy
    refine ⟨fn, _, assign, body, hy, roundIn_of_wpIn hfn (hassign _ pre x W _ hi ?_)⟩
    intro a' Wa hka hpa hia hax
    have hta := ht.kept hka
    refine ⟨_, run_beginRound hta.1 (rs _ _), ?_⟩
    rw [rq]
    have htb : Rec2 w.heap.size (R .busy none) (Wa.putObj (w.heap.size + 1) (.loop (R .busy none))) := hta.put
    have hpb : Kp Wa (Wa.putObj (w.heap.size + 1) (.loop (R .busy none))) := hKb _ _ _ _ (by omega) hta.1 rfl rfl
    refine wpIn_mono (hbody _ pre x a' _ (by omega) ⟨_, htb.1⟩ (hI.putObj _ hia (by omega) hta.1 rfl rfl) ((hAx x a').putObj (s := ()) _ hax (by omega) hta.1 rfl rfl) hlen) ?_
    have fin : ∀ (j : Option Code) (W3 : World), KeepsLoop w.heap.size (Wa.putObj (w.heap.size + 1) (.loop (R .busy none))) W3 →
        Rec2 w.heap.size (R .busy none) W3 ∧ (Instr.endRound (w.heap.size + 1) j).run P W3 = .ok (.bool j.isNone) (W3.putObj (w.heap.size + 1) (.loop (R (if j.isNone then .ready else .done) j))) := fun j W3 hk3 => by
      have h3 := htb.kept hk3
      have h4 := run_endRound (P := P) j h3.1
      rw [rr] at h4
      exact ⟨h3, h4⟩
    have out : ∀ (c : Code) (W3 : World), KeepsLoop w.heap.size (Wa.putObj (w.heap.size + 1) (.loop (R .busy none))) W3 → Ix c (pre ++ [x]) W3 →
        ∃ v w', (Instr.endRound (w.heap.size + 1) (some c)).run P W3 = .ok v w' ∧ (((.returned v : Ending) = .returned (.bool true) ∧ (I (pre ++ [x]) w' ∧ Rec2 w.heap.size (R .ready none) w') ∧ Kp W w') ∨ ((.returned v : Ending) = .returned (.bool false) ∧ ∃ c, Ix c (pre ++ [x]) w' ∧ Rec2 w.heap.size (R .done (some c)) w')) := fun c W3 hk3 hi3 => by
      obtain ⟨h3, h4⟩ := fin (some c) W3 hk3
      exact ⟨_, _, h4, Or.inr ⟨rfl, c, (hIx c).putObj _ hi3 (by omega) h3.1 rfl rfl, h3.put⟩⟩
    rintro e a3 W3 hp
    cases e with
    | normal =>
      obtain ⟨hk3, hp3, hi3⟩ := hp
      obtain ⟨h3, h4⟩ := fin none W3 hk3
      exact ⟨_, _, h4, Or.inl ⟨rfl, ⟨hI.putObj _ hi3 (by omega) h3.1 rfl rfl, h3.put⟩, hKt hpa (hKt hpb (hKt hp3 (hKb _ _ _ _ (by omega) h3.1 rfl rfl)))⟩⟩
    | ret => exact out _ W3 hp.1 hp.2
    | exit id => exact out _ W3 hp.1 hp.2
    | goto t => exact out _ W3 hp.1 hp.2
    | panic ch => exact hp.elim
    | outgrown => exact hp.elim
  refine keyJ.mono ?_
  rintro e W2 ⟨⟨v, rfl⟩, (⟨xs, hS, hi, ht⟩ | ⟨pre, hSp, c, hi, ht⟩)⟩
  · refine ⟨none, _, by have := run_endLoop (P := P) ht.1 (by rw [rs]; decide); rwa [rp] at this, ?_⟩
    exact hdone _ xs _ (Nat.le_refl _) hS (hI.putObj _ hi (by omega) ht.1 rfl rfl) ((World.putObj_heap_other (by omega)).trans ht.2)
  · refine ⟨some c, _, by have := run_endLoop (P := P) ht.1 (by rw [rs]; decide); rwa [rp] at this, ?_⟩
    exact hstop _ c pre _ (Nat.le_refl _) hSp ((hIx c).putObj _ hi (by omega) ht.1 rfl rfl) ((World.putObj_heap_other (by omega)).trans ht.2)
/-- the same, where what the round begins with hangs on what came alone -/
theorem range_boxF {α : Type} {g : Operand} {ps : Array Tmp} {assign body : Code} {Q : Exit → Act → World → Prop} {a : Act}
    (hro : F.round = none) (h1 : 1 ≤ n) {gf : Nat} {lb : Array Value} (hg : a.eval g = .func (.func gf) #[] lb) (hFg : F.fn gf) (eg : ∀ args w, (callFunc gf args).run P w = .ok (.enter gf args) w)
    {encs : α → Array Value} {Kp : World → World → Prop} {Bg : Nat} {S Sp : List α → Prop} {w0 : World} (hBg : Bg < w.heap.size) (hseq : SeqBox F (n - 1) P gf lb encs Kp Bg S Sp w0)
    (hKt : ∀ {A B C : World}, Kp A B → Kp B C → Kp A C) (hKr : ∀ A, Kp A A) (hKb : ∀ (W : World) (l : Nat) (o o' : Obj), w.heap.size ≤ l → W.heap[l]? = some o → o.isCells = false → o.isWalk = false → Kp W (W.putObj l o')) (hb0 : Below w0.heap.size w0 w) (hps : ∀ x, (encs x).size = ps.size)
    (I : List α → World → Prop) (Ix : Code → List α → World → Prop) (hI : OwnLoop w.heap.size I) (hIx : ∀ c, OwnLoop w.heap.size (Ix c)) (hIb : BoxFree Bg I) (hIxb : ∀ c, BoxFree Bg (Ix c)) (h0 : I [] w) (a₁ : α → Act)
    (hassign : ∀ (l : Nat) (pre : List α) (x : α) (W : World) (K : Act → World → Prop), I pre W → K (a₁ x) W →
      assign.wpIn (F.inRound l) (n - 1 - 1) P (Exit.then K (fun _ _ _ => False)) { tmps := (ps.zip (encs x)).foldl (fun t (p, v) => t.setIfInBounds p v) a.tmps, defers := [] } W)
    (hbody : ∀ (l : Nat) (pre : List α) (x : α) (W : World), w.heap.size ≤ l → (∃ r, W.heap[l]? = some (.loop r)) → I pre W → Sp (pre ++ [x]) → body.wpIn (F.inRound l) (n - 1 - 1) P (ownPostL w.heap.size Kp I Ix (pre ++ [x]) W) (a₁ x) W)
    (hdone : ∀ (D : Nat) (xs : List α) (W : World), w.heap.size ≤ D → S xs → I xs W → W.heap[D]? = some (.deferred (some [])) → Q .normal { a with defers := { target := .collected D, args := #[] } :: a.defers } W)
    (hstop : ∀ (D : Nat) (c : Code) (pre : List α) (W : World), w.heap.size ≤ D → Sp pre → Ix c pre W → W.heap[D]? = some (.deferred (some [])) → c.wpIn F n P Q { a with defers := { target := .collected D, args := #[] } :: a.defers } W) :
    (Code.rangeFunc g ps assign body).wpIn F n P Q a w :=
  range_box hro h1 hg hFg eg hBg hseq hKt hKb hb0 hps I Ix hI hIx hIb hIxb h0 (fun x a' _ => a' = a₁ x) (fun x a' => ownLoop_pure _)
    (fun l pre x W K hI hK => hassign l pre x W K hI (hK _ _ (KeepsLoop.refl _ _) (hKr _) hI rfl)) (fun l pre x a' W hl hr hI ha hpx => ha ▸ hbody l pre x W hl hr hI hpx) hdone hstop
end Go.Proofs.Ytfgmglghlapbcaa
