/-
  Layer 25 (pick): a tree in memory.
  Layers 23 and 25 (place, pick): the small functions.
-/
import Derived.Test.YtfgmglghlapbcaaGreatPkA
import Derived.Test.YtfgmglghlapbcaaGreatKtB
import Derived.Test.YtfgmglghlapbcaaGreatQuB
import Derived.Test.YtfgmglghlapbcaaGreatQuA
import Derived.Test.YtfgmglghlapbcaaGreatKtA
namespace Go.Proofs.YtfgmglghlapbcaaGreat
open Go.RowKit Go.Maps Go.IntWalk Go.Lib
set_option linter.unusedVariables false
set_option linter.unusedSimpArgs false
def upd {α : Type} (f : Nat → α) (g : Nat) (x : α) : Nat → α := fun k => if k = g then x else f k
theorem upd_same {α : Type} (f : Nat → α) (g : Nat) (x : α) : upd f g x g = x := if_pos rfl
theorem upd_other {α : Type} (f : Nat → α) {g k : Nat} (x : α) (h : k ≠ g) : upd f g x k = f k := if_neg h
theorem upd_id {α : Type} (f : Nat → α) (g : Nat) : upd f g (f g) = f := funext fun k => by unfold upd; split <;> simp [*]
theorem MapF.len {w : World} {b : Nat} {f : Int → Option Int} {c : Nat} (h : MapF w b f c) (ty : TypeId) : (Builtin.len_ #[88] ty #[.map (some b)]).run Tryz.prog w = .ok (.int .i64 c) w := by
  obtain ⟨D, hD, hs, hh, ha⟩ := h
  have := World.ownsMap.len (t := 88) hD Tryz.underlying88 ty
  rw [this, hs]
/-- how many numbers there are in a queue of a tree -/
abbrev qN : Int := 65792
/-- A TREE, as its user sees it: the groups, each queue's members and floor, what lies aside, each task's group, how many tasks, the credit -/
structure TSt where
  Gs : Grps
  M : Nat → Mems
  fl : Nat → Int
  A : Nat → Ent
  T : Int → Option Int
  c : Nat
  cr : Int
def TSt.n (s : TSt) : Nat := s.Gs.length
/-- A TREE IN MEMORY, its parts apart -/
structure TRaw (w : World) (t bg bq ba bm : Nat) (qp : Nat → Nat) (Fq : Nat → List Nat) (s : TSt) : Prop where
  g0 : ∃ c, w.cell? ⟨t, 0, none⟩ = some (.slice (some ⟨bg, 0, none⟩) s.n c)
  g1 : ∃ c, w.cell? ⟨t, 1, none⟩ = some (.slice (some ⟨bq, 0, none⟩) s.n c)
  g2 : ∃ c, w.cell? ⟨t, 2, none⟩ = some (.slice (some ⟨ba, 0, none⟩) s.n c)
  g3 : w.cell? ⟨t, 3, none⟩ = some (.map (some bm))
  g4 : w.cell? ⟨t, 4, none⟩ = some (.int .u64 s.cr)
  gc : ∀ k, k < s.n → w.cell? ⟨bg, k * 2, none⟩ = some (.int .i64 s.Gs[k]!.1) ∧ w.cell? ⟨bg, k * 2 + 1, none⟩ = some (.int .i64 s.Gs[k]!.2)
  gz : ∀ j, w.frozen? ⟨bg, j, none⟩ = false
  qc : ∀ k, k < s.n → w.cell? ⟨bq, k, none⟩ = some (.pointer (some ⟨qp k, 0, none⟩))
  qz : ∀ j, w.frozen? ⟨bq, j, none⟩ = false
  ac : ∀ k, k < s.n → w.cell? ⟨ba, k * 3, none⟩ = some (.int .u64 (s.A k).1) ∧ w.cell? ⟨ba, k * 3 + 1, none⟩ = some (.int .u32 (s.A k).2.1) ∧ w.cell? ⟨ba, k * 3 + 2, none⟩ = some (.int .u32 (s.A k).2.2)
  az : ∀ j, w.frozen? ⟨ba, j, none⟩ = false
  map : MapF w bm s.T s.c
  q : ∀ k, k < s.n → QIn w (qp k) (Fq k) qN (s.M k) (s.fl k)
  nod : [t, bg, bq, ba, bm].Nodup
  off : ∀ k, k < s.n → ∀ b ∈ Fq k, b ∉ [t, bg, bq, ba, bm]
  dis : ∀ i j, i < s.n → j < s.n → i ≠ j → ∀ b ∈ Fq i, b ∉ Fq j
  right : RightG s.Gs
  cr0 : 0 ≤ s.cr ∧ s.cr ≤ 18446744073709551615
  aok : ∀ k, k < s.n → Ch.Fits (s.A k).1 (s.A k).2.1 (s.A k).2.2
  tok : ∀ id g, s.T id = some g → 0 ≤ g ∧ g < (s.n : Int)
  keys : ∃ L : List Int, L.Nodup ∧ L.length = s.c ∧ ∀ id, id ∈ L ↔ s.T id ≠ none
  tid : ∀ id, s.T id ≠ none → 1 ≤ id ∧ id ≤ 65535
def TF (t bg bq ba bm : Nat) (Fq : Nat → List Nat) (n : Nat) : List Nat := [t, bg, bq, ba, bm] ++ (List.range n).flatMap Fq
def TreeIn (w : World) (t : Nat) (F : List Nat) (s : TSt) : Prop := ∃ bg bq ba bm qp Fq, TRaw w t bg bq ba bm qp Fq s ∧ F = TF t bg bq ba bm Fq s.n
theorem tf_queue {t bg bq ba bm n k : Nat} {Fq : Nat → List Nat} (hk : k < n) {b : Nat} (h : b ∈ Fq k) : b ∈ TF t bg bq ba bm Fq n := List.mem_append_right _ (List.mem_flatMap.2 ⟨k, List.mem_range.2 hk, h⟩)
theorem tf_own {t bg bq ba bm n : Nat} {Fq : Nat → List Nat} {b : Nat} (h : b ∈ [t, bg, bq, ba, bm]) : b ∈ TF t bg bq ba bm Fq n := List.mem_append_left _ h
theorem tf_mem {t bg bq ba bm n : Nat} {Fq : Nat → List Nat} {b : Nat} (h : b ∈ TF t bg bq ba bm Fq n) : b ∈ [t, bg, bq, ba, bm] ∨ ∃ k, k < n ∧ b ∈ Fq k := by
  rcases List.mem_append.1 h with h | h
  · exact Or.inl h
  · obtain ⟨k, hk, hb⟩ := List.mem_flatMap.1 h
    exact Or.inr ⟨k, List.mem_range.1 hk, hb⟩
section
variable {w w' : World} {t bg bq ba bm : Nat} {qp : Nat → Nat} {Fq : Nat → List Nat} {s : TSt}
theorem TRaw.pos (h : TRaw w t bg bq ba bm qp Fq s) : 0 < s.n ∧ s.n ≤ 256 := ⟨h.right.pos, h.right.le⟩
theorem TRaw.lt (h : TRaw w t bg bq ba bm qp Fq s) : t < w.heap.size ∧ bg < w.heap.size ∧ bq < w.heap.size ∧ ba < w.heap.size ∧ bm < w.heap.size :=
  have p := h.pos
  ⟨lt_of_cell h.g3, lt_of_cell (h.gc 0 p.1).1, lt_of_cell (h.qc 0 p.1), lt_of_cell (h.ac 0 p.1).1, h.map.lt⟩
theorem TRaw.ne (h : TRaw w t bg bq ba bm qp Fq s) : t ≠ bg ∧ t ≠ bq ∧ t ≠ ba ∧ t ≠ bm ∧ bg ≠ bq ∧ bg ≠ ba ∧ bg ≠ bm ∧ bq ≠ ba ∧ bq ≠ bm ∧ ba ≠ bm := by
  have := h.nod
  simp only [List.nodup_cons, List.mem_cons, List.not_mem_nil, or_false, not_or] at this
  omega
theorem TRaw.ltF (h : TRaw w t bg bq ba bm qp Fq s) : ∀ b ∈ TF t bg bq ba bm Fq s.n, b < w.heap.size := fun b hb => by
  rcases tf_mem hb with hb | ⟨k, hk, hb⟩
  · have := h.lt
    simp only [List.mem_cons, List.not_mem_nil, or_false] at hb
    omega
  · exact (h.q k hk).lt b hb
/-- the five blocks, and the queues, where nothing is written -/
theorem TRaw.kept {G : List Nat} (h : TRaw w t bg bq ba bm qp Fq s) (hk : Kept G w w') (hG : ∀ b ∈ TF t bg bq ba bm Fq s.n, b ∉ G) : TRaw w' t bg bq ba bm qp Fq s := by
  have i := h.lt
  have e0 := hG t (tf_own (by simp))
  have e1 := hG bg (tf_own (by simp))
  have e2 := hG bq (tf_own (by simp))
  have e3 := hG ba (tf_own (by simp))
  have e4 := hG bm (tf_own (by simp))
  exact { h with
    g0 := h.g0.imp fun c q => hk.cellAt q e0, g1 := h.g1.imp fun c q => hk.cellAt q e0, g2 := h.g2.imp fun c q => hk.cellAt q e0, g3 := hk.cellAt h.g3 e0, g4 := hk.cellAt h.g4 e0
    gc := fun k hl => ⟨hk.cellAt (h.gc k hl).1 e1, hk.cellAt (h.gc k hl).2 e1⟩, gz := fun j => hk.frz (h.gz j) i.2.1 e1
    qc := fun k hl => hk.cellAt (h.qc k hl) e2, qz := fun j => hk.frz (h.qz j) i.2.2.1 e2
    ac := fun k hl => ⟨hk.cellAt (h.ac k hl).1 e3, hk.cellAt (h.ac k hl).2.1 e3, hk.cellAt (h.ac k hl).2.2 e3⟩, az := fun j => hk.frz (h.az j) i.2.2.2.1 e3
    map := h.map.kept hk e4
    q := fun k hl => (h.q k hl).kept hk fun b hb => hG b (tf_queue hl hb) }
theorem TRaw.below (h : TRaw w t bg bq ba bm qp Fq s) (hb : Below w.heap.size w w') : TRaw w' t bg bq ba bm qp Fq s := h.kept (G := []) (Kept.of hb) (fun _ _ => by simp)
/-- behind a call on one queue -/
theorem TRaw.queue {g : Nat} {M : Mems} {fl : Int} (h : TRaw w t bg bq ba bm qp Fq s) (hg : g < s.n) {F' : List Nat} (hq : QIn w' (qp g) F' qN M fl) (hs : Step (Fq g) w F' w') :
    TRaw w' t bg bq ba bm qp (upd Fq g F') { s with M := upd s.M g M, fl := upd s.fl g fl } ∧ Step (TF t bg bq ba bm Fq s.n) w (TF t bg bq ba bm (upd Fq g F') s.n) w' := by
  have i := h.lt
  have hk := hs.kept
  have o := h.off g hg
  have e : ∀ b ∈ [t, bg, bq, ba, bm], b ∉ Fq g := fun b hb m => o b m hb
  have e0 := e t (by simp)
  have e1 := e bg (by simp)
  have e2 := e bq (by simp)
  have e3 := e ba (by simp)
  have e4 := e bm (by simp)
  refine ⟨{ h with
    g0 := h.g0.imp fun c q => hk.cellAt q e0, g1 := h.g1.imp fun c q => hk.cellAt q e0, g2 := h.g2.imp fun c q => hk.cellAt q e0, g3 := hk.cellAt h.g3 e0, g4 := hk.cellAt h.g4 e0
    gc := fun k hl => ⟨hk.cellAt (h.gc k hl).1 e1, hk.cellAt (h.gc k hl).2 e1⟩, gz := fun j => hk.frz (h.gz j) i.2.1 e1
    qc := fun k hl => hk.cellAt (h.qc k hl) e2, qz := fun j => hk.frz (h.qz j) i.2.2.1 e2
    ac := fun k hl => ⟨hk.cellAt (h.ac k hl).1 e3, hk.cellAt (h.ac k hl).2.1 e3, hk.cellAt (h.ac k hl).2.2 e3⟩, az := fun j => hk.frz (h.az j) i.2.2.2.1 e3
    map := h.map.kept hk e4
    q := fun k hl => ?_, off := fun k hl b hb => ?_, dis := fun i j hi hj hij b hb => ?_ }, ⟨hk.mono fun b hb => tf_queue hg hb, fun b hb => ?_⟩⟩
  · by_cases e : k = g
    · subst e; simp only [upd_same]; exact hq
    · simp only [upd_other _ _ e]
      exact (h.q k hl).kept hk fun b hb => h.dis k g hl hg e b hb
  · by_cases e : k = g
    · subst e
      rw [upd_same] at hb
      rcases hs.new b hb with q | q
      · exact o b q
      · simp only [List.mem_cons, List.not_mem_nil, or_false]; omega
    · rw [upd_other _ _ e] at hb
      exact h.off k hl b hb
  · by_cases e : i = g
    · subst e
      rw [upd_same] at hb
      rw [upd_other _ _ (Ne.symm hij)]
      rcases hs.new b hb with q | q
      · exact h.dis _ j hi hj hij b q
      · exact fun m => by have := (h.q j hj).lt b m; omega
    · rw [upd_other _ _ e] at hb
      by_cases e' : j = g
      · subst e'
        rw [upd_same]
        intro m
        rcases hs.new b m with q | q
        · exact h.dis i _ hi hj hij b hb q
        · have := (h.q i hi).lt b hb; omega
      · rw [upd_other _ _ e']
        exact h.dis i j hi hj hij b hb
  · rcases tf_mem hb with hb | ⟨k, hk', hb⟩
    · exact Or.inl (tf_own hb)
    · by_cases e : k = g
      · subst e
        rw [upd_same] at hb
        rcases hs.new b hb with q | q
        · exact Or.inl (tf_queue hg q)
        · exact Or.inr q
      · rw [upd_other _ _ e] at hb
        exact Or.inl (tf_queue hk' hb)
end
theorem TreeIn.kept {w w' : World} {t : Nat} {F G : List Nat} {s : TSt} (h : TreeIn w t F s) (hk : Kept G w w') (hd : ∀ b ∈ F, b ∉ G) : TreeIn w' t F s := by
  obtain ⟨bg, bq, ba, bm, qp, Fq, hr, rfl⟩ := h
  exact ⟨bg, bq, ba, bm, qp, Fq, hr.kept hk hd, rfl⟩
theorem TreeIn.below {w w' : World} {t : Nat} {F : List Nat} {s : TSt} (h : TreeIn w t F s) (hb : Below w.heap.size w w') : TreeIn w' t F s := h.kept (G := []) (Kept.of hb) (fun _ _ => by simp)
theorem TreeIn.lt {w : World} {t : Nat} {F : List Nat} {s : TSt} (h : TreeIn w t F s) : ∀ b ∈ F, b < w.heap.size := by
  obtain ⟨bg, bq, ba, bm, qp, Fq, hr, rfl⟩ := h
  exact hr.ltF
/-- what a call leaves -/
def TAfter (w : World) (t : Nat) (F : List Nat) (s : TSt) (w' : World) : Prop := ∃ F', TreeIn w' t F' s ∧ Step F w F' w'
def TDid (w : World) (t : Nat) (F : List Nat) (r : Value) (s : TSt) (e : Ending) (w' : World) : Prop := e = .returned r ∧ TAfter w t F s w'
theorem TAfter.same {w w' : World} {t : Nat} {F : List Nat} {s : TSt} (h : TreeIn w t F s) (hb : Below w.heap.size w w') : TAfter w t F s w' := ⟨F, h.below hb, Step.of hb⟩
/-! ### blocks and their objects: what a loop's record is not -/
theorem cells_not {w : World} {b o : Nat} {v : Value} (h : w.cell? ⟨b, o, none⟩ = some v) : ∃ x : Obj, w.heap[b]? = some x ∧ (x.isCells = true ∨ x.isWalk = true) := by
  obtain ⟨x, h1, h2⟩ := cells_of_cell h
  exact ⟨x, h1, Or.inl h2⟩
theorem MapF.obj {w : World} {b : Nat} {f : Int → Option Int} {c : Nat} (h : MapF w b f c) : ∃ x : Obj, w.heap[b]? = some x ∧ (x.isCells = true ∨ x.isWalk = true) := by
  obtain ⟨D, ⟨es, clock, hb, r⟩, _⟩ := h
  exact ⟨_, hb, Or.inr rfl⟩
theorem MapG.obj {α : Type} {enc : α → Value} {dat : α → DataW Unit} {R : Value → Option (DataW Unit × List MemPlace)} {ok : α → Prop} {w : World} {b : Nat} {f : Int → Option α} {c : Nat} (h : MapG enc dat R ok w b f c) : ∃ x : Obj, w.heap[b]? = some x ∧ (x.isCells = true ∨ x.isWalk = true) := by
  obtain ⟨D, ⟨es, clock, hb, r⟩, _⟩ := h
  exact ⟨_, hb, Or.inr rfl⟩
theorem HeapIn.obj {w : World} {p : Nat} {F : List Nat} {n : Int} {S : Items} (h : HeapIn w p F n S) : ∀ b ∈ F, ∃ x : Obj, w.heap[b]? = some x ∧ (x.isCells = true ∨ x.isWalk = true) := by
  obtain ⟨a, cap, bm, V, f, hg, rfl, _, _⟩ := h
  have hr := hg.raw
  intro b hb
  cases a with
  | none =>
    simp [blocks] at hb
    rcases hb with rfl | rfl
    · exact cells_not hr.c1
    · exact hr.map.obj
  | some g =>
    simp [blocks] at hb
    rcases hb with rfl | rfl | rfl
    · exact cells_not hr.c1
    · exact hr.map.obj
    · rcases hr.own.2 with ⟨e, _⟩ | ⟨g', cap', cur, e, _, hg', _⟩
      · cases e
      · cases e
        exact ⟨_, hg', Or.inl rfl⟩
theorem QIn.obj {w : World} {q : Nat} {F : List Nat} {n : Int} {M : Mems} {fl : Int} (h : QIn w q F n M fl) : ∀ b ∈ F, ∃ x : Obj, w.heap[b]? = some x ∧ (x.isCells = true ∨ x.isWalk = true) := by
  obtain ⟨p, bm, Fh, f, hr, rfl, _⟩ := h
  intro b hb
  simp only [List.mem_cons] at hb
  rcases hb with rfl | rfl | hb
  · exact cells_not hr.c0
  · exact hr.map.obj
  · exact hr.heap.obj b hb
theorem TreeIn.obj {w : World} {t : Nat} {F : List Nat} {s : TSt} (h : TreeIn w t F s) : ∀ b ∈ F, ∃ x : Obj, w.heap[b]? = some x ∧ (x.isCells = true ∨ x.isWalk = true) := by
  obtain ⟨bg, bq, ba, bm, qp, Fq, hr, rfl⟩ := h
  have p := hr.pos
  intro b hb
  rcases tf_mem hb with hb | ⟨k, hk, hb⟩
  · simp only [List.mem_cons, List.not_mem_nil, or_false] at hb
    rcases hb with rfl | rfl | rfl | rfl | rfl
    · exact cells_not hr.g3
    · exact cells_not (hr.gc 0 p.1).1
    · exact cells_not (hr.qc 0 p.1)
    · exact cells_not (hr.ac 0 p.1).1
    · exact hr.map.obj
  · exact (hr.q k hk).obj b hb
/-- a tree abides the turn of a loop's record -/
theorem TreeIn.putObj {w : World} {t : Nat} {F : List Nat} {s : TSt} (h : TreeIn w t F s) {l : Nat} {o : Obj} (o' : Obj) (hl : w.heap[l]? = some o) (hc : o.isCells = false) (hw : o.isWalk = false) : TreeIn (w.putObj l o') t F s ∧ Kept [l] w (w.putObj l o') ∧ l ∉ F := by
  have hg := grownBy_putObj' w l o'
  have hk : Kept [l] w (w.putObj l o') := ⟨hg.os, hg.tape, hg.output, hg.size, fun k hk hn => hg.block k hk (fun e => by cases e; exact hn (by simp))⟩
  have hn : l ∉ F := fun m => by
    obtain ⟨x, h1, h2⟩ := h.obj l m
    rw [hl] at h1
    cases h1
    rw [hc, hw] at h2
    simp at h2
  exact ⟨h.kept hk fun b hb m => by simp at m; subst m; exact hn hb, hk, hn⟩
theorem Step.putObj {F F' : List Nat} {w W : World} (h : Step F w F' W) {l : Nat} (o' : Obj) (hl : w.heap.size ≤ l) : Step F w F' (W.putObj l o') := by
  have hg := grownBy_putObj' W l o'
  have hk : Kept [l] W (W.putObj l o') := ⟨hg.os, hg.tape, hg.output, hg.size, fun k hk hn => hg.block k hk (fun e => by cases e; exact hn (by simp))⟩
  exact h.set hk fun b hb => by simp at hb; subst hb; exact hl
end Go.Proofs.YtfgmglghlapbcaaGreat
namespace Go.Proofs.YtfgmglghlapbcaaGreat
open Go.RowKit Go.Maps Go.IntWalk Go.Lib
set_option linter.unusedVariables false
set_option linter.unusedSimpArgs false
section
variable {w : World} {t bg bq ba bm : Nat} {qp : Nat → Nat} {Fq : Nat → List Nat} {s : TSt}
theorem psome_at (h : TRaw w t bg bq ba bm qp Fq s) : Calls Tryz.prog 41 #[.pointer (some ⟨t, 0, none⟩)] w fun e w' => e = .returned (.bool true) ∧ w = w' := by
  obtain ⟨c, c1⟩ := h.g1
  have hp : (0 : Int) < (s.n : Int) := by have := h.pos; omega
  clear h
  generalize s.n = n at *
  go_enter Tryz.func41, Tryz.ntmps41
  go_wp2_with fail
  go_ret
  exact ⟨by simp; omega, rfl⟩
theorem phas_at (g : Int) (h : TRaw w t bg bq ba bm qp Fq s) : Calls Tryz.prog 45 #[.pointer (some ⟨t, 0, none⟩), .int .i64 g] w fun e w' => e = .returned (.bool (hasV (s.n : Int) g)) ∧ w = w' := by
  obtain ⟨c, c0⟩ := h.g0
  have A1 := Lib.hid (psome_at h)
  clear h
  unfold hasV
  generalize s.n = n at *
  by_cases h1 : 0 ≤ g
  · have z1 : decide (g ≥ 0) = true := decide_eq_true h1
    have z2 : decide (0 ≤ g ∧ g < (n : Int)) = decide (g < (n : Int)) := by simp [h1]
    rw [z2]
    clear z2
    go_enter Tryz.func45, Tryz.ntmps45
    go_wp2_with fail
    refine A1.out.mono ?_; rintro e w5 ⟨rfl, rfl⟩
    go_wp2_with fail
    go_ret
    exact ⟨rfl, rfl⟩
  · have z1 : decide (g ≥ 0) = false := decide_eq_false h1
    have z2 : decide (0 ≤ g ∧ g < (n : Int)) = false := by simp [h1]
    rw [z2]
    clear z2
    go_enter Tryz.func45, Tryz.ntmps45
    go_wp2_with fail
    refine A1.out.mono ?_; rintro e w5 ⟨rfl, rfl⟩
    go_wp2_with fail
    go_ret
    exact ⟨rfl, rfl⟩
end
def nameV (id : Int) : Bool := decide (1 ≤ id ∧ id ≤ 65535)
theorem named_at (id : Int) (w : World) : Calls Tryz.prog 85 #[.int .i64 id] w fun e w' => e = .returned (.bool (nameV id)) ∧ w = w' := by
  unfold nameV
  by_cases h1 : 1 ≤ id
  · have z1 : decide (id ≥ 1) = true := decide_eq_true h1
    have z2 : decide (1 ≤ id ∧ id ≤ 65535) = decide (id ≤ 65535) := by simp [h1]
    rw [z2]
    clear z2
    go_enter Tryz.func85, Tryz.ntmps85
    go_wp2_with fail
    go_ret
    exact ⟨rfl, rfl⟩
  · have z1 : decide (id ≥ 1) = false := decide_eq_false h1
    have z2 : decide (1 ≤ id ∧ id ≤ 65535) = false := by simp [h1]
    rw [z2]
    clear z2
    go_enter Tryz.func85, Tryz.ntmps85
    go_wp2_with fail
    go_ret
    exact ⟨rfl, rfl⟩
def findC (s : TSt) (id : Int) : Int := if nameV id then (if (s.T id).isSome then 0 else 6) else 2
def findG (s : TSt) (id : Int) : Int := if nameV id then (s.T id).getD 0 else 0
set_option maxRecDepth 100000 in
theorem pfind_at {w : World} {t bg bq ba bm : Nat} {qp : Nat → Nat} {Fq : Nat → List Nat} {s : TSt} (id : Int) (h : TRaw w t bg bq ba bm qp Fq s) (hid : (Lit.int .i64 id).wf = true) :
    Calls Tryz.prog 50 #[.pointer (some ⟨t, 0, none⟩), .int .i64 id] w fun e w' => e = .returned (.tuple #[.int .i64 (findG s id), .int .i64 (findC s id)]) ∧ w = w' := by
  have A1 := Lib.hid (psome_at h)
  have A2 := Lib.hid (named_at id w)
  have c3 := h.g3
  have hl := h.map.look hid
  clear h
  unfold findG findC
  by_cases h1 : nameV id = true
  · rw [if_pos h1, if_pos h1]
    rw [h1] at A2
    clear h1
    cases hm : s.T id with
    | none =>
      rw [hm] at hl
      go_enter Tryz.func50, Tryz.ntmps50
      go_wp2_with fail
      refine A1.out.mono ?_; rintro e w5 ⟨rfl, rfl⟩
      go_wp2_with fail
      refine A2.out.mono ?_; rintro e w5 ⟨rfl, rfl⟩
      go_wp2_with fail
      exact bodyPost_ret (v := .tuple #[.int .i64 0, .int .i64 6]) (by simp [results, Tryz.results50, go_sem]) rfl ⟨rfl, rfl⟩
    | some g =>
      rw [hm] at hl
      go_enter Tryz.func50, Tryz.ntmps50
      go_wp2_with fail
      refine A1.out.mono ?_; rintro e w5 ⟨rfl, rfl⟩
      go_wp2_with fail
      refine A2.out.mono ?_; rintro e w5 ⟨rfl, rfl⟩
      go_wp2_with fail
      exact bodyPost_ret (v := .tuple #[.int .i64 g, .int .i64 0]) (by simp [results, Tryz.results50, go_sem]) rfl ⟨rfl, rfl⟩
  · have h1 : nameV id = false := by simpa using h1
    rw [h1] at A2
    rw [h1]
    clear h1 hl
    go_enter Tryz.func50, Tryz.ntmps50
    go_wp2_with fail
    refine A1.out.mono ?_; rintro e w5 ⟨rfl, rfl⟩
    go_wp2_with fail
    refine A2.out.mono ?_; rintro e w5 ⟨rfl, rfl⟩
    go_wp2_with fail
    exact bodyPost_ret (v := .tuple #[.int .i64 0, .int .i64 2]) (by simp [results, Tryz.results50, go_sem]) rfl ⟨rfl, rfl⟩
theorem pless_at (a b : Int) (w : World) (ha : 0 ≤ a ∧ a ≤ 18446744073709551615) (hb : 0 ≤ b) : Calls Tryz.prog 106 #[.int .u64 a, .int .u64 b] w fun e w' => e = .returned (.int .u64 (a - min a b)) ∧ w = w' := by
  have z : IntKind.u64.wrap (a - min a b) = a - min a b := IntWalk.u64_in _ (by omega)
  clear ha hb
  go_enter Tryz.func106, Tryz.ntmps106
  go_wp2_with fail
  go_ret
  exact ⟨by simp [z], rfl⟩
/-- place.New -/
def newX (fl k : Int) : Ent := if 1 ≤ k ∧ k ≤ 65536 then (fl, 0, k) else (0, 0, 0)
def newC (k : Int) : Int := if 1 ≤ k ∧ k ≤ 65536 then 0 else 2
def PlP (w : World) (x : Ent) (c : Int) (e : Ending) (w' : World) : Prop := e = .returned (.tuple #[.agg #[.int .u64 x.1, .int .u32 x.2.1, .int .u32 x.2.2], .int .i64 c]) ∧ Below w.heap.size w w'
set_option maxRecDepth 100000 in
theorem plNew_at (fl k : Int) (w : World) (hf : 0 ≤ fl ∧ fl ≤ 18446744073709551615) (hk : (Lit.int .i64 k).wf = true) : Calls Tryz.prog 73 #[.int .u64 fl, .int .i64 k] w (PlP w (newX fl k) (newC k)) := by
  have b := wf_i64 hk
  obtain ⟨u, hu⟩ : ∃ u, IntKind.u32.wrap k = u := ⟨_, rfl⟩
  have hu0 : 0 ≤ u ∧ u ≤ 4294967295 := by rw [← hu, IntKind.wrap_u32]; omega
  have huk : u = k ↔ 0 ≤ k ∧ k ≤ 4294967295 := by rw [← hu, IntKind.wrap_u32]; omega
  have hui : IntKind.i64.wrap u = u := IntWalk.i64_in _ (by omega)
  have A1 := Lib.hid fun W => right_any fl 0 u W (by unfold Ch.Fits; omega)
  unfold newX newC
  clear hk
  by_cases h1 : u = k
  · have z1 : (u != k) = false := by simp [h1]
    by_cases h2 : 1 ≤ k ∧ k ≤ 65536
    · have HO := Lib.hid (Ch.okB_t (show Ch.Ok fl 0 u by unfold Ch.Ok; omega))
      rw [if_pos h2, if_pos h2]
      have HU := Lib.hid h1
      clear h1 h2 huk b hf hu0
      go_enter Tryz.func73, Tryz.ntmps73
      go_wp2_with fail
      refine (A1.out _).mono ?_; rintro e w5 ⟨rfl, hb5⟩; rw [HO.out]
      have z0 : w5.cell? ⟨w.heap.size, 0, none⟩ = some (.int .u64 0) := cell_later hb5 (cell_al (.cells #[.int .u64 fl, .int .u32 0, .int .u32 u] 40) (cell_nw w #[.int .u64 0, .int .u32 0, .int .u32 0] 40 0 _ rfl))
      have f0 : w5.frozen? ⟨w.heap.size, 0, none⟩ = false := frz_later hb5 (frz_later (below_a _ (.cells #[.int .u64 fl, .int .u32 0, .int .u32 u] 40)) (frz_nw w #[.int .u64 0, .int .u32 0, .int .u32 0] 40 0) (by simp)) (by simp; omega)
      have z1 : w5.cell? ⟨w.heap.size, 1, none⟩ = some (.int .u32 0) := cell_later hb5 (cell_al (.cells #[.int .u64 fl, .int .u32 0, .int .u32 u] 40) (cell_nw w #[.int .u64 0, .int .u32 0, .int .u32 0] 40 1 _ rfl))
      have f1 : w5.frozen? ⟨w.heap.size, 1, none⟩ = false := frz_later hb5 (frz_later (below_a _ (.cells #[.int .u64 fl, .int .u32 0, .int .u32 u] 40)) (frz_nw w #[.int .u64 0, .int .u32 0, .int .u32 0] 40 1) (by simp)) (by simp; omega)
      have z2 : w5.cell? ⟨w.heap.size, 2, none⟩ = some (.int .u32 0) := cell_later hb5 (cell_al (.cells #[.int .u64 fl, .int .u32 0, .int .u32 u] 40) (cell_nw w #[.int .u64 0, .int .u32 0, .int .u32 0] 40 2 _ rfl))
      have f2 : w5.frozen? ⟨w.heap.size, 2, none⟩ = false := frz_later hb5 (frz_later (below_a _ (.cells #[.int .u64 fl, .int .u32 0, .int .u32 u] 40)) (frz_nw w #[.int .u64 0, .int .u32 0, .int .u32 0] 40 2) (by simp)) (by simp; omega)
      have y0 : w5.cell? ⟨w.heap.size + 1, 0, none⟩ = some (.int .u64 fl) := cell_later hb5 (cell_nwE (b := w.heap.size + 1) (by simp) #[.int .u64 fl, .int .u32 0, .int .u32 u] 40 0 _ rfl)
      have y1 : w5.cell? ⟨w.heap.size + 1, 1, none⟩ = some (.int .u32 0) := cell_later hb5 (cell_nwE (b := w.heap.size + 1) (by simp) #[.int .u64 fl, .int .u32 0, .int .u32 u] 40 1 _ rfl)
      have y2 : w5.cell? ⟨w.heap.size + 1, 2, none⟩ = some (.int .u32 u) := cell_later hb5 (cell_nwE (b := w.heap.size + 1) (by simp) #[.int .u64 fl, .int .u32 0, .int .u32 u] 40 2 _ rfl)
      have HB5 := Lib.hid (Below.step (Below.allocS (below_a w (.cells #[.int .u64 0, .int .u32 0, .int .u32 0] 40)) (.cells #[.int .u64 fl, .int .u32 0, .int .u32 u] 40)) hb5)
      clear hb5
      go_wp2_with fail
      rw [← HU.out]
      refine bodyPost_ret (v := .tuple #[.agg #[.int .u64 fl, .int .u32 0, .int .u32 u], .int .i64 0]) (by simp [results, Tryz.results73, go_sem, *]) rfl ⟨rfl, ?_⟩
      exact ((HB5.out.setCell (by simp) _).setCell (by simp) _).setCell (by simp) _
    · have HO := Lib.hid (Ch.okB_f (show ¬ Ch.Ok fl 0 u by unfold Ch.Ok; omega))
      rw [if_neg h2, if_neg h2]
      have HU := Lib.hid h1
      clear h1 h2 huk b hf hu0
      go_enter Tryz.func73, Tryz.ntmps73
      go_wp2_with fail
      refine (A1.out _).mono ?_; rintro e w5 ⟨rfl, hb5⟩; rw [HO.out]
      have z0 : w5.cell? ⟨w.heap.size, 0, none⟩ = some (.int .u64 0) := cell_later hb5 (cell_al (.cells #[.int .u64 fl, .int .u32 0, .int .u32 u] 40) (cell_nw w #[.int .u64 0, .int .u32 0, .int .u32 0] 40 0 _ rfl))
      have f0 : w5.frozen? ⟨w.heap.size, 0, none⟩ = false := frz_later hb5 (frz_later (below_a _ (.cells #[.int .u64 fl, .int .u32 0, .int .u32 u] 40)) (frz_nw w #[.int .u64 0, .int .u32 0, .int .u32 0] 40 0) (by simp)) (by simp; omega)
      have z1 : w5.cell? ⟨w.heap.size, 1, none⟩ = some (.int .u32 0) := cell_later hb5 (cell_al (.cells #[.int .u64 fl, .int .u32 0, .int .u32 u] 40) (cell_nw w #[.int .u64 0, .int .u32 0, .int .u32 0] 40 1 _ rfl))
      have f1 : w5.frozen? ⟨w.heap.size, 1, none⟩ = false := frz_later hb5 (frz_later (below_a _ (.cells #[.int .u64 fl, .int .u32 0, .int .u32 u] 40)) (frz_nw w #[.int .u64 0, .int .u32 0, .int .u32 0] 40 1) (by simp)) (by simp; omega)
      have z2 : w5.cell? ⟨w.heap.size, 2, none⟩ = some (.int .u32 0) := cell_later hb5 (cell_al (.cells #[.int .u64 fl, .int .u32 0, .int .u32 u] 40) (cell_nw w #[.int .u64 0, .int .u32 0, .int .u32 0] 40 2 _ rfl))
      have f2 : w5.frozen? ⟨w.heap.size, 2, none⟩ = false := frz_later hb5 (frz_later (below_a _ (.cells #[.int .u64 fl, .int .u32 0, .int .u32 u] 40)) (frz_nw w #[.int .u64 0, .int .u32 0, .int .u32 0] 40 2) (by simp)) (by simp; omega)
      have y0 : w5.cell? ⟨w.heap.size + 1, 0, none⟩ = some (.int .u64 fl) := cell_later hb5 (cell_nwE (b := w.heap.size + 1) (by simp) #[.int .u64 fl, .int .u32 0, .int .u32 u] 40 0 _ rfl)
      have y1 : w5.cell? ⟨w.heap.size + 1, 1, none⟩ = some (.int .u32 0) := cell_later hb5 (cell_nwE (b := w.heap.size + 1) (by simp) #[.int .u64 fl, .int .u32 0, .int .u32 u] 40 1 _ rfl)
      have y2 : w5.cell? ⟨w.heap.size + 1, 2, none⟩ = some (.int .u32 u) := cell_later hb5 (cell_nwE (b := w.heap.size + 1) (by simp) #[.int .u64 fl, .int .u32 0, .int .u32 u] 40 2 _ rfl)
      have HB5 := Lib.hid (Below.step (Below.allocS (below_a w (.cells #[.int .u64 0, .int .u32 0, .int .u32 0] 40)) (.cells #[.int .u64 fl, .int .u32 0, .int .u32 u] 40)) hb5)
      clear hb5
      go_wp2_with fail
      refine bodyPost_ret (v := .tuple #[.agg #[.int .u64 0, .int .u32 0, .int .u32 0], .int .i64 2]) (by simp [results, Tryz.results73, go_sem, *]) rfl ⟨rfl, ?_⟩
      exact ((HB5.out.setCell (by simp) _).setCell (by simp) _).setCell (by simp) _
  · have z1 : (u != k) = true := by simp [h1]
    have h2 : ¬ (1 ≤ k ∧ k ≤ 65536) := by omega
    rw [if_neg h2, if_neg h2]
    clear h1 h2 huk b hf hu0
    go_enter Tryz.func73, Tryz.ntmps73
    go_wp2_with fail
    refine bodyPost_ret (v := .tuple #[.agg #[.int .u64 0, .int .u32 0, .int .u32 0], .int .i64 2]) (by simp [results, Tryz.results73, go_sem]) rfl ⟨rfl, ?_⟩
    repeat (first | exact Below.refl _ _ | refine Below.step ?_ (by assumption) | refine Below.setCell ?_ (by first | (simp; done) | (simp; omega) | omega) _ | refine Below.allocS ?_ _ | refine Below.drew ?_ | refine below_drewN ?_ _)
/-- place.Woken -/
def wokenX (x : Ent) (fl cr : Int) : Ent := if Ch.Ok x.1 x.2.1 x.2.2 then (if x.1 < fl - min fl cr then (fl - min fl cr, 0, x.2.2) else x) else (0, 0, 0)
def wokenC (x : Ent) : Int := if Ch.Ok x.1 x.2.1 x.2.2 then 0 else 2
set_option maxRecDepth 100000 in
theorem plWoken_at (v r k fl cr : Int) (w : World) (hx : Ch.Fits v r k) (hf : 0 ≤ fl ∧ fl ≤ 18446744073709551615) (hc : 0 ≤ cr ∧ cr ≤ 18446744073709551615) :
    Calls Tryz.prog 75 #[.agg #[.int .u64 v, .int .u32 r, .int .u32 k], .int .u64 fl, .int .u64 cr] w (PlP w (wokenX (v, r, k) fl cr) (wokenC (v, r, k))) := by
  have A1 := Lib.hid fun W => right_any v r k W hx
  have A2 := Lib.hid fun W => pless_at fl cr W hf hc.1
  unfold wokenX wokenC
  by_cases h1 : Ch.Ok v r k
  · have HO := Lib.hid (Ch.okB_t h1)
    rw [if_pos h1, if_pos h1]
    clear h1 hf hc hx
    generalize fl - min fl cr = d at *
    by_cases h2 : v < d
    · rw [if_pos h2]
      have z1 : decide (d > v) = true := decide_eq_true h2
      go_enter Tryz.func75, Tryz.ntmps75
      go_wp2_with fail
      refine (A1.out _).mono ?_; rintro e w5 ⟨rfl, hb5⟩; rw [HO.out]
      have x0 : w5.cell? ⟨w.heap.size, 0, none⟩ = some (.int .u64 v) := cell_later hb5 (cell_al (.cells #[.int .u64 0, .int .u32 0, .int .u32 0] 40) (cell_nw w #[.int .u64 v, .int .u32 r, .int .u32 k] 40 0 _ rfl))
      have x1 : w5.cell? ⟨w.heap.size, 1, none⟩ = some (.int .u32 r) := cell_later hb5 (cell_al (.cells #[.int .u64 0, .int .u32 0, .int .u32 0] 40) (cell_nw w #[.int .u64 v, .int .u32 r, .int .u32 k] 40 1 _ rfl))
      have x2 : w5.cell? ⟨w.heap.size, 2, none⟩ = some (.int .u32 k) := cell_later hb5 (cell_al (.cells #[.int .u64 0, .int .u32 0, .int .u32 0] 40) (cell_nw w #[.int .u64 v, .int .u32 r, .int .u32 k] 40 2 _ rfl))
      have y0 : w5.cell? ⟨w.heap.size + 1, 0, none⟩ = some (.int .u64 0) := cell_later hb5 (cell_nwE (b := w.heap.size + 1) (by simp) #[.int .u64 0, .int .u32 0, .int .u32 0] 40 0 _ rfl)
      have y1 : w5.cell? ⟨w.heap.size + 1, 1, none⟩ = some (.int .u32 0) := cell_later hb5 (cell_nwE (b := w.heap.size + 1) (by simp) #[.int .u64 0, .int .u32 0, .int .u32 0] 40 1 _ rfl)
      have y2 : w5.cell? ⟨w.heap.size + 1, 2, none⟩ = some (.int .u32 0) := cell_later hb5 (cell_nwE (b := w.heap.size + 1) (by simp) #[.int .u64 0, .int .u32 0, .int .u32 0] 40 2 _ rfl)
      have f0 : w5.frozen? ⟨w.heap.size + 1, 0, none⟩ = false := frz_later hb5 (frz_nwE (b := w.heap.size + 1) (by simp) #[.int .u64 0, .int .u32 0, .int .u32 0] 40 0) (by simp)
      have f1 : w5.frozen? ⟨w.heap.size + 1, 1, none⟩ = false := frz_later hb5 (frz_nwE (b := w.heap.size + 1) (by simp) #[.int .u64 0, .int .u32 0, .int .u32 0] 40 1) (by simp)
      have f2 : w5.frozen? ⟨w.heap.size + 1, 2, none⟩ = false := frz_later hb5 (frz_nwE (b := w.heap.size + 1) (by simp) #[.int .u64 0, .int .u32 0, .int .u32 0] 40 2) (by simp)
      have HB5 := Lib.hid (Below.step (Below.allocS (below_a w (.cells #[.int .u64 v, .int .u32 r, .int .u32 k] 40)) (.cells #[.int .u64 0, .int .u32 0, .int .u32 0] 40)) hb5)
      clear hb5
      go_wp2_with fail
      refine (A2.out _).mono ?_; rintro e w6 ⟨rfl, rfl⟩
      go_wp2_with fail
      refine bodyPost_ret (v := .tuple #[.agg #[.int .u64 d, .int .u32 0, .int .u32 k], .int .i64 0]) (by simp [results, Tryz.results75, go_sem, *]) rfl ⟨rfl, ?_⟩
      exact ((HB5.out.setCell (by simp) _).setCell (by simp) _).setCell (by simp) _
    · rw [if_neg h2]
      have z1 : decide (d > v) = false := decide_eq_false h2
      go_enter Tryz.func75, Tryz.ntmps75
      go_wp2_with fail
      refine (A1.out _).mono ?_; rintro e w5 ⟨rfl, hb5⟩; rw [HO.out]
      have x0 : w5.cell? ⟨w.heap.size, 0, none⟩ = some (.int .u64 v) := cell_later hb5 (cell_al (.cells #[.int .u64 0, .int .u32 0, .int .u32 0] 40) (cell_nw w #[.int .u64 v, .int .u32 r, .int .u32 k] 40 0 _ rfl))
      have x1 : w5.cell? ⟨w.heap.size, 1, none⟩ = some (.int .u32 r) := cell_later hb5 (cell_al (.cells #[.int .u64 0, .int .u32 0, .int .u32 0] 40) (cell_nw w #[.int .u64 v, .int .u32 r, .int .u32 k] 40 1 _ rfl))
      have x2 : w5.cell? ⟨w.heap.size, 2, none⟩ = some (.int .u32 k) := cell_later hb5 (cell_al (.cells #[.int .u64 0, .int .u32 0, .int .u32 0] 40) (cell_nw w #[.int .u64 v, .int .u32 r, .int .u32 k] 40 2 _ rfl))
      have y0 : w5.cell? ⟨w.heap.size + 1, 0, none⟩ = some (.int .u64 0) := cell_later hb5 (cell_nwE (b := w.heap.size + 1) (by simp) #[.int .u64 0, .int .u32 0, .int .u32 0] 40 0 _ rfl)
      have y1 : w5.cell? ⟨w.heap.size + 1, 1, none⟩ = some (.int .u32 0) := cell_later hb5 (cell_nwE (b := w.heap.size + 1) (by simp) #[.int .u64 0, .int .u32 0, .int .u32 0] 40 1 _ rfl)
      have y2 : w5.cell? ⟨w.heap.size + 1, 2, none⟩ = some (.int .u32 0) := cell_later hb5 (cell_nwE (b := w.heap.size + 1) (by simp) #[.int .u64 0, .int .u32 0, .int .u32 0] 40 2 _ rfl)
      have f0 : w5.frozen? ⟨w.heap.size + 1, 0, none⟩ = false := frz_later hb5 (frz_nwE (b := w.heap.size + 1) (by simp) #[.int .u64 0, .int .u32 0, .int .u32 0] 40 0) (by simp)
      have f1 : w5.frozen? ⟨w.heap.size + 1, 1, none⟩ = false := frz_later hb5 (frz_nwE (b := w.heap.size + 1) (by simp) #[.int .u64 0, .int .u32 0, .int .u32 0] 40 1) (by simp)
      have f2 : w5.frozen? ⟨w.heap.size + 1, 2, none⟩ = false := frz_later hb5 (frz_nwE (b := w.heap.size + 1) (by simp) #[.int .u64 0, .int .u32 0, .int .u32 0] 40 2) (by simp)
      have HB5 := Lib.hid (Below.step (Below.allocS (below_a w (.cells #[.int .u64 v, .int .u32 r, .int .u32 k] 40)) (.cells #[.int .u64 0, .int .u32 0, .int .u32 0] 40)) hb5)
      clear hb5
      go_wp2_with fail
      refine (A2.out _).mono ?_; rintro e w6 ⟨rfl, rfl⟩
      go_wp2_with fail
      refine bodyPost_ret (v := .tuple #[.agg #[.int .u64 v, .int .u32 r, .int .u32 k], .int .i64 0]) (by simp [results, Tryz.results75, go_sem, *]) rfl ⟨rfl, ?_⟩
      exact ((HB5.out.setCell (by simp) _).setCell (by simp) _).setCell (by simp) _
  · have HO := Lib.hid (Ch.okB_f h1)
    rw [if_neg h1, if_neg h1]
    clear h1 hf hc hx
    go_enter Tryz.func75, Tryz.ntmps75
    go_wp2_with fail
    refine (A1.out _).mono ?_; rintro e w5 ⟨rfl, hb5⟩; rw [HO.out]
    have x0 : w5.cell? ⟨w.heap.size, 0, none⟩ = some (.int .u64 v) := cell_later hb5 (cell_al (.cells #[.int .u64 0, .int .u32 0, .int .u32 0] 40) (cell_nw w #[.int .u64 v, .int .u32 r, .int .u32 k] 40 0 _ rfl))
    have x1 : w5.cell? ⟨w.heap.size, 1, none⟩ = some (.int .u32 r) := cell_later hb5 (cell_al (.cells #[.int .u64 0, .int .u32 0, .int .u32 0] 40) (cell_nw w #[.int .u64 v, .int .u32 r, .int .u32 k] 40 1 _ rfl))
    have x2 : w5.cell? ⟨w.heap.size, 2, none⟩ = some (.int .u32 k) := cell_later hb5 (cell_al (.cells #[.int .u64 0, .int .u32 0, .int .u32 0] 40) (cell_nw w #[.int .u64 v, .int .u32 r, .int .u32 k] 40 2 _ rfl))
    have y0 : w5.cell? ⟨w.heap.size + 1, 0, none⟩ = some (.int .u64 0) := cell_later hb5 (cell_nwE (b := w.heap.size + 1) (by simp) #[.int .u64 0, .int .u32 0, .int .u32 0] 40 0 _ rfl)
    have y1 : w5.cell? ⟨w.heap.size + 1, 1, none⟩ = some (.int .u32 0) := cell_later hb5 (cell_nwE (b := w.heap.size + 1) (by simp) #[.int .u64 0, .int .u32 0, .int .u32 0] 40 1 _ rfl)
    have y2 : w5.cell? ⟨w.heap.size + 1, 2, none⟩ = some (.int .u32 0) := cell_later hb5 (cell_nwE (b := w.heap.size + 1) (by simp) #[.int .u64 0, .int .u32 0, .int .u32 0] 40 2 _ rfl)
    have f0 : w5.frozen? ⟨w.heap.size + 1, 0, none⟩ = false := frz_later hb5 (frz_nwE (b := w.heap.size + 1) (by simp) #[.int .u64 0, .int .u32 0, .int .u32 0] 40 0) (by simp)
    have f1 : w5.frozen? ⟨w.heap.size + 1, 1, none⟩ = false := frz_later hb5 (frz_nwE (b := w.heap.size + 1) (by simp) #[.int .u64 0, .int .u32 0, .int .u32 0] 40 1) (by simp)
    have f2 : w5.frozen? ⟨w.heap.size + 1, 2, none⟩ = false := frz_later hb5 (frz_nwE (b := w.heap.size + 1) (by simp) #[.int .u64 0, .int .u32 0, .int .u32 0] 40 2) (by simp)
    have HB5 := Lib.hid (Below.step (Below.allocS (below_a w (.cells #[.int .u64 v, .int .u32 r, .int .u32 k] 40)) (.cells #[.int .u64 0, .int .u32 0, .int .u32 0] 40)) hb5)
    clear hb5
    go_wp2_with fail
    refine bodyPost_ret (v := .tuple #[.agg #[.int .u64 0, .int .u32 0, .int .u32 0], .int .i64 2]) (by simp [results, Tryz.results75, go_sem, *]) rfl ⟨rfl, ?_⟩
    exact ((HB5.out.setCell (by simp) _).setCell (by simp) _).setCell (by simp) _
end Go.Proofs.YtfgmglghlapbcaaGreat
