/-
  Layer 25 (pick): what a charge changes (plain).
  Layer 25 (pick): rows of entities and of bools in cells.
-/
import Derived.Test.YtfgmglghlapbcaaGreatPkY
namespace Go.Proofs.YtfgmglghlapbcaaGreat
open Go.RowKit Go.Maps Go.IntWalk Go.Lib Go.Sort Go.Shelf
set_option linter.unusedVariables false
set_option linter.unusedSimpArgs false
theorem chgQ_ent {s : TSt} {tk : Int} {g : Nat} {id : Int} (h : TOk s) (ht : tkOk tk) (hi : 0 ≤ id ∧ id < 65792) (k : Nat) (j : Int) : entM ((chgQ tk s g id).M k) j = if k = g ∧ j = id then (entM (s.M k) j).map (chgX tk) else entM (s.M k) j := by
  show entM (upd s.M g (chS (decide (tkOk tk)) qN (s.M g) id (chgX tk)) k) j = _
  by_cases q : k = g
  · rw [q, upd_same, ch_is hi (h.core.mok g)]
    by_cases q' : j = id
    · rw [if_pos ⟨decide_eq_true ht, q'⟩, if_pos ⟨rfl, q'⟩]
    · rw [if_neg fun z => q' z.2, if_neg fun z => q' z.2]
  · rw [upd_other _ _ q, if_neg fun z => q z.1]
/-- no member comes or goes, and none has less -/
def UpM (M N : Mems) : Prop := ∀ j, (entM M j = none ∧ entM N j = none) ∨ ∃ y z, entM M j = some y ∧ entM N j = some z ∧ y.1 ≤ z.1
theorem UpM.refl (M : Mems) : UpM M M := fun j => by
  cases e : entM M j with
  | none => exact Or.inl ⟨rfl, rfl⟩
  | some y => exact Or.inr ⟨y, y, rfl, rfl, Int.le_refl _⟩
theorem UpM.trans {A B C : Mems} (h : UpM A B) (h2 : UpM B C) : UpM A C := fun j => by
  rcases h j with ⟨a, b⟩ | ⟨y, z, a, b, c⟩
  · rcases h2 j with ⟨a', b'⟩ | ⟨y', z', a', b', c'⟩
    · exact Or.inl ⟨a, b'⟩
    · rw [b] at a'; cases a'
  · rcases h2 j with ⟨a', b'⟩ | ⟨y', z', a', b', c'⟩
    · rw [b] at a'; cases a'
    · rw [b] at a'; cases a'
      exact Or.inr ⟨y, z', a, b', Int.le_trans c c'⟩
theorem chgQ_up {s : TSt} {tk : Int} {g : Nat} {id : Int} (h : TOk s) (ht : tkOk tk) (hi : 0 ≤ id ∧ id < 65792) (k : Nat) : UpM (s.M k) ((chgQ tk s g id).M k) := fun j => by
  rw [chgQ_ent h ht hi]
  cases e : entM (s.M k) j with
  | none => left; exact ⟨rfl, by split <;> rfl⟩
  | some y =>
    right
    by_cases q : k = g ∧ j = id
    · rw [if_pos q]
      exact ⟨y, chgX tk y, rfl, rfl, Ch.addV_ge ((h.core.mok k).ent e) ht.1⟩
    · rw [if_neg q]
      exact ⟨y, y, rfl, rfl, Int.le_refl _⟩
structure ChgR (s s' : TSt) (l : List Nat) : Prop where
  ok : TOk s'
  Gs : s'.Gs = s.Gs
  A : s'.A = s.A
  T : s'.T = s.T
  c : s'.c = s.c
  low : ∀ k j, j < 65536 → entM (s'.M k) j = entM (s.M k) j
  off : ∀ k (h : Nat), h ∉ l → entM (s'.M k) (65536 + (h : Int)) = entM (s.M k) (65536 + (h : Int))
  up : ∀ k, UpM (s.M k) (s'.M k)
theorem chgUp_is {tk : Int} {P : Nat → Nat} (ht : tkOk tk) : ∀ (l : List Nat) (s : TSt), TOk s → (∀ o ∈ l, o < 256) → ChgR s (chgUp tk P s l) l := by
  intro l
  induction l with
  | nil => intro s h _; exact ⟨h, rfl, rfl, rfl, rfl, fun _ _ _ => rfl, fun _ _ _ => rfl, fun _ => UpM.refl _⟩
  | cons o r ih =>
    intro s h ho
    have h1 := ho o List.mem_cons_self
    have hi : 0 ≤ 65536 + (o : Int) ∧ 65536 + (o : Int) < 65792 := by omega
    have i := ih (chgQ tk s (P o) (65536 + (o : Int))) (chgQ_ok h hi) fun x hx => ho x (List.mem_cons_of_mem _ hx)
    refine ⟨i.ok, i.Gs, i.A, i.T, i.c, fun k j hj => ?_, fun k g hg => ?_, fun k => (chgQ_up h ht hi k).trans (i.up k)⟩
    · exact (i.low k j hj).trans (by rw [chgQ_ent h ht hi, if_neg (by omega)])
    · have h2 : g ≠ o := fun e => hg (by rw [e]; exact List.mem_cons_self)
      exact (i.off k g fun m => hg (List.mem_cons_of_mem _ m)).trans (by rw [chgQ_ent h ht hi, if_neg (by omega)])
/-- what a task has that is there, and one that is not -/
theorem get_ok {s : TSt} (h : TOk s) (j : Int) : (findC s j = 0 → EntOk (pgetX s j)) ∧ (findC s j ≠ 0 → pgetX s j = (0, 0, 0)) := by
  refine ⟨fun hC => ?_, fun hC => by unfold pgetX; rw [if_neg hC]⟩
  unfold pgetX
  rw [if_pos hC]
  obtain ⟨g, hT, hG⟩ := findC_zero hC
  obtain ⟨k, rfl, hk, hi⟩ := h.core.task j g hT
  obtain ⟨y, hy⟩ := inM_some hi
  rw [hG, Int.toNat_natCast]
  unfold getE
  rw [hy]
  exact (h.core.mok k).ent hy
/-- a charge to a task that is there -/
theorem chg_there {s : TSt} {id tk : Int} (h : TOk s) (ht : tkOk tk) (hC : findC s id = 0) :
    (∀ j, findC (pchgS s id tk) j = findC s j ∧ findG (pchgS s id tk) j = findG s j) ∧ (∀ j, pgetX (pchgS s id tk) j = if j = id then chgX tk (pgetX s j) else pgetX s j) ∧
    (∀ g : Nat, g < s.n → pSpotC (pchgS s id tk) (g : Int) = 0 ∧ (g ∉ pathT (parG s.Gs) (findG s id).toNat → (pSpotV (pchgS s id tk) (g : Int)).1 = (pSpotV s (g : Int)).1 ∧ (pSpotV (pchgS s id tk) (g : Int)).2.1 = (pSpotV s (g : Int)).2.1) ∧ (pSpotV s (g : Int)).1 ≤ (pSpotV (pchgS s id tk) (g : Int)).1) := by
  obtain ⟨g, hT, hG⟩ := findC_zero hC
  obtain ⟨k, rfl, hk, hin⟩ := h.core.task id g hT
  have h1 := h.core.tid id (by rw [hT]; simp)
  have hP : pchgC s id tk = 0 := by unfold pchgC; rw [if_pos ht]; exact hC
  have hi : 0 ≤ id ∧ id < 65792 := by omega
  have hlen := h.core.right.le
  have r := chgUp_is (P := parG s.Gs) ht (pathT (parG s.Gs) k) (chgQ tk s k id) (chgQ_ok h hi) fun o ho => by
    have := pathT_mem k ho
    unfold TSt.n at hk
    omega
  obtain ⟨s', hs'⟩ : ∃ s', s' = chgUp tk (parG s.Gs) (chgQ tk s k id) (pathT (parG s.Gs) k) := ⟨_, rfl⟩
  have hS : pchgS s id tk = s' := by unfold pchgS; rw [if_pos hP, hG, Int.toNat_natCast, hs']
  rw [← hs'] at r
  rw [hS]
  have hGs : s'.Gs = s.Gs := r.Gs
  have hA : s'.A = s.A := r.A
  have hTT : s'.T = s.T := r.T
  have hF : ∀ j, findC s' j = findC s j ∧ findG s' j = findG s j := fun j => by unfold findC findG; rw [hTT]; exact ⟨rfl, rfl⟩
  have hup : ∀ k, UpM (s.M k) (s'.M k) := fun j => (chgQ_up h ht hi j).trans (r.up j)
  have hoff : ∀ j (c : Nat), c ∉ pathT (parG s.Gs) k → entM (s'.M j) (65536 + (c : Int)) = entM (s.M j) (65536 + (c : Int)) := fun j c hc => (r.off j c hc).trans (by rw [chgQ_ent h ht hi, if_neg (by omega)])
  refine ⟨hF, fun j => ?_, fun c hc => ?_⟩
  · unfold pgetX
    rw [(hF j).1, (hF j).2]
    by_cases hj : findC s j = 0
    · rw [if_pos hj]
      obtain ⟨g', hT', hG'⟩ := findC_zero hj
      obtain ⟨k', rfl, hk', hin'⟩ := h.core.task j g' hT'
      have h1' := h.core.tid j (by rw [hT']; simp)
      obtain ⟨y, hy⟩ := inM_some hin'
      rw [hG', Int.toNat_natCast]
      unfold getE
      rw [r.low k' j (by omega), chgQ_ent h ht hi]
      by_cases q : j = id
      · have hkk : k' = k := by
          rw [q, hT] at hT'
          simp only [Option.some.injEq, Int.natCast_inj] at hT'
          exact hT'.symm
        rw [if_pos ⟨hkk, q⟩, if_pos q, if_pos hj, hy]
        rfl
      · rw [if_neg fun z => q z.2, if_neg q, if_pos hj]
    · have q : j ≠ id := fun e => hj (by rw [e]; exact hC)
      rw [if_neg hj, if_neg q, if_neg hj]
  · have hn' : s'.n = s.n := by unfold TSt.n; rw [hGs]
    have hv : hasV (s.n : Int) (c : Int) = true := decide_eq_true (by omega)
    have hspot : (c ∉ pathT (parG s.Gs) k → spotX s' c = spotX s c) ∧ (spotX s c).1 ≤ (spotX s' c).1 := by
      unfold spotX
      rw [hGs, hA]
      refine ⟨fun hc => ?_, ?_⟩
      · unfold getE
        rw [hoff _ c hc]
      · rcases hup (parG s.Gs c) (65536 + (c : Int)) with ⟨a, b⟩ | ⟨y, z, a, b, le⟩
        · rw [a, b, if_neg (by simp), if_neg (by simp)]
          exact Int.le_refl _
        · unfold getE
          rw [a, b]
          by_cases q : 0 < c
          · rw [if_pos ⟨rfl, q⟩, if_pos ⟨rfl, q⟩]; exact le
          · rw [if_neg fun e => q e.2, if_neg fun e => q e.2]; exact Int.le_refl _
    unfold pSpotC pSpotV
    rw [hn', hv, if_pos rfl, if_pos rfl, if_pos rfl, Int.toNat_natCast, hG, Int.toNat_natCast]
    refine ⟨rfl, fun hc => ?_, hspot.2⟩
    rw [hspot.1 hc]
    exact ⟨rfl, rfl⟩
end Go.Proofs.YtfgmglghlapbcaaGreat
namespace Go.Proofs.YtfgmglghlapbcaaGreat
open Go.RowKit Go.Maps Go.IntWalk Go.Lib Go.Sort Go.Shelf
set_option linter.unusedVariables false
set_option linter.unusedSimpArgs false
theorem plain_later {ks : List (Option IntKind)} {w w' : World} {a : Option Addr} {n c : Nat} {F : Nat → Nat → Value} (h : PlainRow ks w a n c F) (hb : Below w.heap.size w w') : PlainRow ks w' a n c F := by
  rcases h with h | h | ⟨h0, hl, hm, b, off, rfl, hc⟩
  · exact Or.inl h
  · exact Or.inr (Or.inl h)
  · exact Or.inr (Or.inr ⟨h0, hl, hm, b, off, rfl, fun i hi j k hk => ⟨cell_later hb (hc i hi j k hk).1, (hc i hi j k hk).2⟩⟩)
theorem row_num {K : IntKind} {w : World} {a : Option Addr} {n c : Nat} {xs : List Int} (h : NumsIn K w a n c xs) : RowAt K w a n xs := by
  refine ⟨h.len, fun h0 => ?_⟩
  obtain ⟨b, off, e, hc⟩ := h.row h0
  refine ⟨b, off, e, fun i x hx => ?_⟩
  have hi : i < n := by rw [← h.len]; exact (List.getElem?_eq_some_iff.1 hx).1
  have := hc i hi
  rw [getElem!_pos xs i (by rw [h.len]; exact hi)] at this
  rw [this, ← (List.getElem?_eq_some_iff.1 hx).2]
theorem fit_num {K : IntKind} {w : World} {a : Option Addr} {n c : Nat} {xs : List Int} (h : NumsIn K w a n c xs) : ∀ x ∈ xs, (Lit.int K x).wf = true := fun x hx => by
  obtain ⟨i, hi, rfl⟩ := List.getElem_of_mem hx
  have := h.fit i (by rw [← h.len]; exact hi)
  rwa [getElem!_pos xs i hi] at this
theorem infoB : (Tryz.prog.info? 4).map (fun i => (i.zero, i.size, i.bytes)) = some (some (.bool false), 1, 1) := by kernel_rfl
/-- n entities in cells -/
def EntC (w : World) (b n : Nat) (X : Nat → Ent) : Prop := ∀ j, j < n → w.cell? ⟨b, j * 3, none⟩ = some (.int .u64 (X j).1) ∧ w.cell? ⟨b, j * 3 + 1, none⟩ = some (.int .u32 (X j).2.1) ∧ w.cell? ⟨b, j * 3 + 2, none⟩ = some (.int .u32 (X j).2.2)
def BoolC (w : World) (b n : Nat) (B : Nat → Bool) : Prop := ∀ j, j < n → w.cell? ⟨b, j, none⟩ = some (.bool (B j))
def FrzC (w : World) (b : Nat) : Prop := ∀ j, w.frozen? ⟨b, j, none⟩ = false
theorem EntC.later {w w' : World} {b n : Nat} {X : Nat → Ent} (h : EntC w b n X) (hb : Below w.heap.size w w') : EntC w' b n X := fun j hj => ⟨cell_later hb (h j hj).1, cell_later hb (h j hj).2.1, cell_later hb (h j hj).2.2⟩
theorem BoolC.later {w w' : World} {b n : Nat} {B : Nat → Bool} (h : BoolC w b n B) (hb : Below w.heap.size w w') : BoolC w' b n B := fun j hj => cell_later hb (h j hj)
theorem FrzC.later {w w' : World} {b : Nat} (h : FrzC w b) (hb : Below w.heap.size w w') (hl : b < w.heap.size) : FrzC w' b := fun j => frz_later hb (h j) hl
theorem EntC.step {F F' : List Nat} {w w' : World} {b n : Nat} {X : Nat → Ent} (h : EntC w b n X) (s : Step F w F' w') (hb : b ∉ F) : EntC w' b n X := fun j hj => ⟨s.cell hb (h j hj).1, s.cell hb (h j hj).2.1, s.cell hb (h j hj).2.2⟩
theorem BoolC.step {F F' : List Nat} {w w' : World} {b n : Nat} {B : Nat → Bool} (h : BoolC w b n B) (s : Step F w F' w') (hb : b ∉ F) : BoolC w' b n B := fun j hj => s.cell hb (h j hj)
theorem FrzC.set {w : World} {b : Nat} (h : FrzC w b) (a : Addr) (v : Value) : FrzC (w.setCell a v) b := fun j => by rw [World.frozen?_setCell]; exact h j
theorem EntC.set {w : World} {b n k : Nat} {X : Nat → Ent} (h : EntC w b n X) (hk : k < n) (x : Ent) :
    EntC (((w.setCell ⟨b, k * 3, none⟩ (.int .u64 x.1)).setCell ⟨b, k * 3 + 1, none⟩ (.int .u32 x.2.1)).setCell ⟨b, k * 3 + 2, none⟩ (.int .u32 x.2.2)) b n (fun j => if j = k then x else X j) := fun j hj => by
  obtain ⟨h0, h1, h2⟩ := h j hj
  by_cases q : j = k
  · subst q
    simp only [↓reduceIte]
    exact ⟨cell_set_ne (cell_set_ne (cell_set_eq h0) (Or.inr (by omega))) (Or.inr (by omega)), cell_set_ne (cell_set_eq (cell_set_ne h1 (Or.inr (by omega)))) (Or.inr (by omega)), cell_set_eq (cell_set_ne (cell_set_ne h2 (Or.inr (by omega))) (Or.inr (by omega)))⟩
  · simp only [if_neg q]
    exact ⟨cell_set_ne (cell_set_ne (cell_set_ne h0 (Or.inr (by omega))) (Or.inr (by omega))) (Or.inr (by omega)), cell_set_ne (cell_set_ne (cell_set_ne h1 (Or.inr (by omega))) (Or.inr (by omega))) (Or.inr (by omega)), cell_set_ne (cell_set_ne (cell_set_ne h2 (Or.inr (by omega))) (Or.inr (by omega))) (Or.inr (by omega))⟩
theorem BoolC.set {w : World} {b n k : Nat} {B : Nat → Bool} (h : BoolC w b n B) (hk : k < n) (x : Bool) : BoolC (w.setCell ⟨b, k, none⟩ (.bool x)) b n (fun j => if j = k then x else B j) := fun j hj => by
  by_cases q : j = k
  · subst q
    simp only [↓reduceIte]
    exact cell_set_eq (h j hj)
  · simp only [if_neg q]
    exact cell_set_ne (h j hj) (Or.inr q)
theorem BoolC.congr {w : World} {b n : Nat} {B C : Nat → Bool} (h : BoolC w b n B) (e : ∀ j, j < n → C j = B j) : BoolC w b n C := fun j hj => by rw [e j hj]; exact h j hj
theorem EntC.congr {w : World} {b n : Nat} {X Y : Nat → Ent} (h : EntC w b n X) (e : ∀ j, j < n → Y j = X j) : EntC w b n Y := fun j hj => by rw [e j hj]; exact h j hj
def zero39 : Array Value := #[.int .u64 0, .int .u32 0, .int .u32 0, .int .u64 0, .int .u32 0, .int .u32 0, .int .u64 0, .int .u32 0, .int .u32 0, .int .u64 0, .int .u32 0, .int .u32 0, .int .u64 0, .int .u32 0, .int .u32 0, .int .u64 0, .int .u32 0, .int .u32 0, .int .u64 0, .int .u32 0, .int .u32 0, .int .u64 0, .int .u32 0, .int .u32 0, .int .u64 0, .int .u32 0, .int .u32 0, .int .u64 0, .int .u32 0, .int .u32 0, .int .u64 0, .int .u32 0, .int .u32 0, .int .u64 0, .int .u32 0, .int .u32 0, .int .u64 0, .int .u32 0, .int .u32 0]
theorem zero39_at : ∀ j : Nat, j < 13 → zero39[j * 3]? = some (.int .u64 0) ∧ zero39[j * 3 + 1]? = some (.int .u32 0) ∧ zero39[j * 3 + 2]? = some (.int .u32 0) := fun j hj => by
  obtain rfl | rfl | rfl | rfl | rfl | rfl | rfl | rfl | rfl | rfl | rfl | rfl | rfl : j = 0 ∨ j = 1 ∨ j = 2 ∨ j = 3 ∨ j = 4 ∨ j = 5 ∨ j = 6 ∨ j = 7 ∨ j = 8 ∨ j = 9 ∨ j = 10 ∨ j = 11 ∨ j = 12 := by omega
  all_goals exact ⟨rfl, rfl, rfl⟩
theorem ents_new {w w' : World} {b : Nat} {ty : TypeId} (hw : w' = w.alloc (.cells zero39 ty)) (hb : b = w.heap.size) : EntC w' b 13 (fun _ => (0, 0, 0)) ∧ FrzC w' b := by
  subst hw
  exact ⟨fun j hj => ⟨cell_nwE hb _ _ _ _ (zero39_at j hj).1, cell_nwE hb _ _ _ _ (zero39_at j hj).2.1, cell_nwE hb _ _ _ _ (zero39_at j hj).2.2⟩, fun j => frz_nwE hb _ _ j⟩
theorem own_ents {w : World} {base e g n c : Nat} {X : Nat → Ent} (h : w.ownsRow base e 3 (.slice (some ⟨g, 0, none⟩) n c) n (flatR encX3 ((List.range n).map X))) : EntC w g n X := fun j hj => by
  have hx : ((List.range n).map X)[j]? = some (X j) := by rw [List.getElem?_map, List.getElem?_range hj]; rfl
  exact ⟨(h.cellAt (j * 3) (by omega)).trans (flatR_at encX3_ok hx 0 (by decide)), (h.cellAt (j * 3 + 1) (by omega)).trans (flatR_at encX3_ok hx 1 (by decide)), (h.cellAt (j * 3 + 2) (by omega)).trans (flatR_at encX3_ok hx 2 (by decide))⟩
theorem own_pos {w : World} {base e size : Nat} {v : Value} {n : Nat} {xs : List Value} (h : w.ownsRow base e size v n xs) (h0 : 0 < n) : ∃ g c, v = .slice (some ⟨g, 0, none⟩) n c := by
  obtain ⟨m, rfl⟩ : ∃ m, n = m + 1 := ⟨n - 1, by omega⟩
  exact own_some h
/-! ### two entities compared -/
def eqE (b c d b' c' d' : Int) : Bool := decide (b = b' ∧ c = c' ∧ d = d')
theorem eqE_same (b c d : Int) : eqE b c d b c d = true := by unfold eqE; simp
theorem eqIn_ent (D : Nat) (w : World) (b c d b' c' d' : Int) : (Op.equalIn (D + 3) 40 (.agg #[.int .u64 b, .int .u32 c, .int .u32 d]) (.agg #[.int .u64 b', .int .u32 c', .int .u32 d'])).run Tryz.prog w = .ok (eqE b c d b' c' d') w := by
  rw [run_equalIn_agg w (D + 2) _ _ _ (by kernel_rfl) (by kernel_rfl)]
  simp [go_sem, Tryz.underlying40]
  unfold eqE
  by_cases h1 : b = b' <;> by_cases h2 : c = c' <;> by_cases h3 : d = d' <;> simp [h1, h2, h3]
@[go_sem] theorem eg_ent : Tryz.prog.eqGuardType Tryz.prog.depth 40 = false := by kernel_rfl
@[go_sem high] theorem run_neq_ent (w : World) (b c d b' c' d' : Int) : (binOp .neq 40 (.agg #[.int .u64 b, .int .u32 c, .int .u32 d]) (.agg #[.int .u64 b', .int .u32 c', .int .u32 d'])).run Tryz.prog w = .ok (.bool (!(eqE b c d b' c' d'))) w := by
  rw [run_neq_struct, eqIn_ent 9997]
  rfl
/-! ### what is told of a spot -/
def befX (s : TSt) (g : Nat) : Ent := ((pSpotV s (g : Int)).1, (pSpotV s (g : Int)).2.1, 0)
theorem arr_next {s : TSt} {j : Nat} {p : Ent} (hp : p = pgetX s (j : Int)) (i : Nat) : (if i < j + 1 then pgetX s (i : Int) else (0, 0, 0)) = (if i = j then p else if i < j then pgetX s (i : Int) else (0, 0, 0)) := by
  by_cases q : i = j
  · subst q; rw [if_pos (by omega), if_pos rfl, hp]
  · rw [if_neg q]
    by_cases q2 : i < j
    · rw [if_pos (by omega), if_pos q2]
    · rw [if_neg (by omega), if_neg q2]
theorem bools_new {w : World} {base e g n : Nat} (h : w.ownsRow base e 1 (.slice (some ⟨g, 0, none⟩) n n) n (List.replicate n (.bool false))) : BoolC w g n (fun _ => false) ∧ FrzC w g :=
  ⟨fun j hj => (h.cellAt j (by omega)).trans (by rw [List.getElem?_replicate, if_pos hj]), fun j => h.frozenAt j⟩
theorem find_no {s : TSt} {id : Int} (h : findC s id ≠ 0) (hn : 1 ≤ id ∧ id ≤ 65535) : findC s id = 6 ∧ findG s id = 0 := by
  have hv : nameV id = true := decide_eq_true hn
  unfold findC at h ⊢
  unfold findG
  rw [hv] at h ⊢
  simp only [if_true] at h ⊢
  cases e : s.T id with
  | none => exact ⟨rfl, rfl⟩
  | some g => rw [e] at h; exact absurd rfl h
end Go.Proofs.YtfgmglghlapbcaaGreat
