/-
  Layer 39 (lag): the order of the IDs is one list; what New takes as one contract.
-/
import Derived.Test.YtgieaojkbfjoiaaLagNew
import Derived.Test.YtgieaojkbfjoiaaKitI
namespace Go.Proofs.Ytgieaojkbfjoiaa
open Go.RowKit Go.Maps Go.IntWalk Go.Lib Go.Sort
set_option linter.unusedVariables false
/-- IDs in order: greater values first, lesser IDs first -/
def IdsOrder (f : Int → Int) (ids out : List Int) : Prop := out.Perm ids ∧ out.Pairwise fun i j => f j < f i ∨ f i = f j ∧ i < j
theorem ids_unique {f : Int → Int} {ids out out' : List Int} (h : IdsOrder f ids out) (h' : IdsOrder f ids out') : out = out' :=
  List.Perm.eq_of_pairwise (le := fun i j => f j < f i ∨ f i = f j ∧ i < j) (fun a b _ _ h1 h2 => by omega) h.2 h'.2 (h.1.trans h'.1.symm)
theorem ids_congr {f g : Int → Int} {ids out : List Int} (h : IdsOrder f ids out) (hf : ∀ i ∈ ids, f i = g i) : IdsOrder g ids out := by
  refine ⟨h.1, h.2.imp_of_mem fun {a b} ha hb hab => ?_⟩
  rw [← hf a (h.1.mem_iff.1 ha), ← hf b (h.1.mem_iff.1 hb)]; exact hab
def idsL (l : List (Int × Int × Int)) : List Int := l.map (·.1)
theorem lagW_eq {l : List (Int × Int × Int)} (h : Good l) {x : Int × Int × Int} (hx : x ∈ l) : lagW (sumR l) (sumW l) x = lagR l x.1 := by
  obtain ⟨k, hk⟩ := List.getElem?_of_mem hx
  obtain ⟨_, _, _, _, _, _, _, a1, a2, b1, b2, _⟩ := h.bounds hk
  rw [lagR, tsk_at h hk]
  unfold lagW
  show _ = lagV l x
  unfold lagV
  rw [wrap64_in (sumR l * x.2.1) (by omega), wrap64_in (x.2.2 * sumW l) (by omega), wrap64_in _ (by omega)]
theorem isOrder_ids {l d : List (Int × Int × Int)} (hg : Good l) (h : IsOrder l d) : IdsOrder (lagR l) (idsL l) (idsL d) := by
  refine ⟨h.1.map _, ?_⟩
  unfold idsL
  rw [List.pairwise_map]
  have hn : (d.map (·.1)).Pairwise (· ≠ ·) := by
    have h1 : (l.map (·.1)).Pairwise (· ≠ ·) := by
      rw [List.pairwise_map]
      exact hg.ids.imp fun h => by omega
    exact (List.Perm.pairwise_iff (fun h => Ne.symm h) (h.1.map _)).2 h1
  rw [List.pairwise_map] at hn
  refine (List.pairwise_and_iff.2 ⟨h.2, hn⟩).imp_of_mem fun {a b} ha hb hab => ?_
  have h1 := hab.1
  rw [orderC_lt] at h1
  have h2 := of_decide_eq_false h1
  rw [lagW_eq hg (h.1.mem_iff.1 ha), lagW_eq hg (h.1.mem_iff.1 hb)] at h2
  have h3 := hab.2
  omega

theorem idsV_eq (d : List (Int × Int × Int)) : idsV d = intsV (idsL d) := by simp [idsV, intsV, idsL]
/-- what Order returns -/
def OrderQ (l : List (Int × Int × Int)) (n : Nat) (w : World) (e : Ending) (w' : World) : Prop :=
  ∃ b out, e = .returned (.slice (some ⟨b, 0, none⟩) n n) ∧ w'.ownsRow w.heap.size 3 1 (.slice (some ⟨b, 0, none⟩) n n) n (intsV out) ∧ IdsOrder (lagR l) (idsL l) out ∧ Below w.heap.size w w'
theorem Order_fn (p g bm cap : Nat) (l : List (Int × Int × Int)) (n : Nat) (w : World) (h : MeterAt w p g bm cap l n) : Calls Try.prog 15 #[.pointer (some ⟨p, 0, none⟩)] w (OrderQ l n w) := by
  refine (Order_any p g bm cap l n w h).mono ?_
  rintro e w' ⟨b, d, rfl, ho, hd, hb⟩
  exact ⟨b, idsL d, rfl, by rw [← idsV_eq]; exact ho, isOrder_ids h.good hd, hb⟩
/-- what New takes: a slice of pairs -/
def PairsIn (w : World) (v : Value) (l : List (Int × Int)) : Prop := ∃ a cap, v = .slice a l.length cap ∧ (l = [] ∨ ∃ b off, a = some ⟨b, off, none⟩ ∧ PairsAt w b off l)
theorem New_any (v : Value) (l : List (Int × Int)) (w : World) (h : PairsIn w v l) (h1 : l.length ≤ 2000) : Calls Try.prog 22 #[v] w (NewP l w) := by
  obtain ⟨a, cap, rfl, h⟩ := h
  by_cases h0 : l = []
  · subst h0; exact New_nil a cap w
  · rcases h with h | ⟨b, off, rfl, h⟩
    · exact absurd h h0
    · exact New_some b off cap l.length l w h rfl (List.length_pos_iff.2 h0) h1
theorem PairsIn.later {w w' : World} {v : Value} {l : List (Int × Int)} (h : PairsIn w v l) (hb : Below w.heap.size w w') : PairsIn w' v l := by
  obtain ⟨a, cap, e, h⟩ := h
  refine ⟨a, cap, e, h.imp id ?_⟩
  rintro ⟨b, off, e, h⟩
  exact ⟨b, off, e, h.later hb⟩
end Go.Proofs.Ytgieaojkbfjoiaa
