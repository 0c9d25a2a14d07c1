/-
  Layer 24 (queue): what the calls answer in each case; lists of members; small members that came in.
-/
import Derived.Test.YtekjakmeopolhaaQueueY
import Derived.Test.YtekjakmeopolhaaQueueZ
import Derived.Test.YtekjakmeopolhaaKitU
namespace Go.Proofs.Ytekjakmeopolhaa
open Go.RowKit Go.Maps Go.IntWalk Go.Lib
set_option linter.unusedVariables false
set_option linter.unusedSimpArgs false
theorem mems_nodup {A : Mems} (h : (A.map Prod.fst).Nodup) : A.Nodup := (List.pairwise_map.1 h).imp fun q e => q (by rw [e])
theorem mems_eq {A B : Mems} (hA : MemsOk A) (hB : MemsOk B) (h : ∀ id, entM A id = entM B id) : A = B := by
  have hp : A.Perm B := (List.perm_ext_iff_of_nodup (mems_nodup hA.nod) (mems_nodup hB.nod)).2 fun x => by
    obtain ⟨i, k⟩ := x
    rw [← ent_some hA.nod, ← ent_some hB.nod, h]
  have hi : itemsM A = itemsM B := order_unique hA.ord hB.ord (hp.map kM)
  have hl : A.length = B.length := hp.length_eq
  refine mems_ext hl fun i hiA => ?_
  have hiB : i < B.length := by omega
  have e0 : (itemsM A)[i]? = (itemsM B)[i]? := by rw [hi]
  unfold itemsM at e0
  rw [List.getElem?_map, List.getElem?_map, List.getElem?_eq_getElem hiA, List.getElem?_eq_getElem hiB] at e0
  have e2 : kM A[i] = kM B[i] := Option.some.inj e0
  have e1 : A[i].1 = B[i].1 := by have := congrArg Prod.fst e2; exact this
  have hmA : entM A A[i].1 = some A[i].2 := (ent_some hA.nod).2 (List.getElem_mem hiA)
  have hmB : entM B B[i].1 = some B[i].2 := (ent_some hB.nod).2 (List.getElem_mem hiB)
  rw [h, e1, hmB] at hmA
  rw [getElem!_pos A i hiA, getElem!_pos B i hiB]
  exact Prod.ext e1 (Option.some.inj hmA).symm
theorem put_out {M : Mems} {id : Int} {x : Ent} (hn : (M.map Prod.fst).Nodup) (hE : entM M id = some x) (j : Int) : entM (putM (outM M id) (id, x)) j = entM M j := by
  rw [ent_put (out_nodup hn id) (by rw [ent_out hn]; simp), ent_out hn]
  by_cases e : j = id
  · rw [if_pos e, e, hE]
  · rw [if_neg e, if_neg e]
theorem out_put {M : Mems} {id : Int} {x : Ent} (hn : (M.map Prod.fst).Nodup) (hE : entM M id = none) (j : Int) : entM (outM (putM M (id, x)) id) j = entM M j := by
  rw [ent_out (put_nodup hn hE), ent_put hn hE]
  by_cases e : j = id
  · rw [if_pos e, e, hE]
  · rw [if_neg e, if_neg e]
theorem has_true {n id : Int} (h0 : 0 ≤ id) (h1 : id < n) : hasV n id = true := decide_eq_true ⟨h0, h1⟩
/-! each case -/
theorem enter_new {n : Int} {M : Mems} {id : Int} {x : Ent} (h : hasV n id = true) (ho : Ch.Ok x.1 x.2.1 x.2.2) (hE : entM M id = none) : enterC n M id x = 0 ∧ enterM n M id x = putM M (id, x) := by
  have e : enterC n M id x = 0 := by unfold enterC; rw [if_pos h, if_pos ho, hE]; rfl
  exact ⟨e, by unfold enterM; rw [if_pos e]⟩
theorem enter_no {n : Int} {M : Mems} {id : Int} {x : Ent} {c : Int} (e : enterC n M id x = c) (hc : c ≠ 0) : enterM n M id x = M ∧ ∀ fl, enterF n M id x fl = fl := by
  unfold enterM enterF
  rw [e, if_neg hc]
  exact ⟨rfl, fun fl => by rw [if_neg hc]⟩
theorem enter_bad {n : Int} {M : Mems} {id : Int} {x : Ent} (h : hasV n id = false) : enterC n M id x = 2 := by unfold enterC; rw [h]; rfl
theorem enter_wrong {n : Int} {M : Mems} {id : Int} {x : Ent} (ho : ¬ Ch.Ok x.1 x.2.1 x.2.2) : enterC n M id x = 2 := by unfold enterC; rw [if_neg ho]; split <;> rfl
theorem enter_there {n : Int} {M : Mems} {id : Int} {x y : Ent} (h : hasV n id = true) (ho : Ch.Ok x.1 x.2.1 x.2.2) (hE : entM M id = some y) : enterC n M id x = 240 := by unfold enterC; rw [if_pos h, if_pos ho, hE]; rfl
theorem leave_there {n : Int} {M : Mems} {id : Int} {x : Ent} (h : hasV n id = true) (hE : entM M id = some x) : leaveC n M id = 0 ∧ leaveE n M id = x ∧ leaveM n M id = outM M id := by
  have e : leaveC n M id = 0 := by unfold leaveC; rw [if_pos h, hE]; rfl
  exact ⟨e, by unfold leaveE; rw [if_pos e, hE]; rfl, by unfold leaveM; rw [if_pos e]⟩
theorem leave_no {n : Int} {M : Mems} {id : Int} {c : Int} (e : leaveC n M id = c) (hc : c ≠ 0) : leaveM n M id = M ∧ leaveE n M id = (0, 0, 0) ∧ ∀ fl, leaveF n M id fl = fl := by
  unfold leaveM leaveE leaveF
  rw [e, if_neg hc, if_neg hc]
  exact ⟨rfl, rfl, fun fl => by rw [if_neg hc]⟩
theorem leave_bad {n : Int} {M : Mems} {id : Int} (h : hasV n id = false) : leaveC n M id = 2 := by unfold leaveC; rw [h]; rfl
theorem chc_bad {b : Bool} {n : Int} {M : Mems} {id : Int} (h : hasV n id = false) : chC b n M id = 2 := by unfold chC; rw [h]; rfl
theorem chc_wrong {n : Int} {M : Mems} {id : Int} : chC false n M id = 2 := by unfold chC; split <;> rfl
theorem chc_none {n : Int} {M : Mems} {id : Int} (h : hasV n id = true) (hE : entM M id = none) : chC true n M id = 6 := by unfold chC; rw [if_pos h, hE]; rfl
theorem chc_there {n : Int} {M : Mems} {id : Int} {x : Ent} (h : hasV n id = true) (hE : entM M id = some x) (X : Ent → Ent) : chC true n M id = 0 ∧ chS true n M id X = chM M id (X x) := by
  have e : chC true n M id = 0 := by unfold chC; rw [if_pos h, hE]; rfl
  exact ⟨e, by unfold chS; rw [if_pos e, hE]; rfl⟩
/-- a row that All has made lies off the queue's blocks -/
theorem held_own {w w' : World} {v : Value} {M : Mems} {F : List Nat} (h : w'.ownsRow w.heap.size 43 4 v M.length (flatR encMs M)) (hb : Below w.heap.size w w') (hF : ∀ b ∈ F, b < w.heap.size) : HeldR encMs F w' v M := own_heldR encMs_ok h rfl rfl hF
/-- small members that came in -/
theorem small_of {w : World} {s : Option Addr} {l c : Nat} {F : Nat → Nat → Value} (h : PlainRow [some .u16, some .u16, some .u16] w s l c F) : ∃ xs, SmallsIn w s l c xs := by
  rcases h with ⟨rfl, rfl, rfl⟩ | ⟨rfl, hc, x, rfl⟩ | ⟨h0, hl, hm, b, off, rfl, hc⟩
  · exact ⟨[], rfl, fun h => absurd h (by omega), Nat.le_refl _, by omega, fun _ => rfl, fun i hi => by omega⟩
  · exact ⟨[], rfl, fun h => absurd h (by omega), Nat.zero_le _, by unfold maxLen at hc; omega, (fun h => by cases h), fun i hi => by omega⟩
  · have e : ∀ i, i < l → ((List.range l).map fun i => ((intOf (F i 0), intOf (F i 1), intOf (F i 2)) : Ent))[i]! = (intOf (F i 0), intOf (F i 1), intOf (F i 2)) := fun i hi => by
      rw [getElem!_pos _ i (by simpa using hi)]
      simp
    have u : ∀ {x : Int}, (Lit.int .u16 x).wf = true → 0 ≤ x ∧ x ≤ 65535 := fun {x} h => by
      simp only [Lit.wf, Bool.and_eq_true, decide_eq_true_eq, IntKind.min, IntKind.max, IntKind.bits, IntKind.signed] at h
      simp at h
      omega
    have g : ∀ i, i < l → ∃ a0 a1 a2, F i 0 = .int .u16 a0 ∧ F i 1 = .int .u16 a1 ∧ F i 2 = .int .u16 a2 ∧ w.cell? ⟨b, off + i * 3, none⟩ = some (.int .u16 a0) ∧ w.cell? ⟨b, off + i * 3 + 1, none⟩ = some (.int .u16 a1) ∧ w.cell? ⟨b, off + i * 3 + 2, none⟩ = some (.int .u16 a2) ∧ (0 ≤ a0 ∧ a0 ≤ 65535) ∧ (0 ≤ a1 ∧ a1 ≤ 65535) ∧ 0 ≤ a2 ∧ a2 ≤ 65535 := fun i hi => by
      obtain ⟨e0, a0, q0, w0⟩ := hc i hi 0 (some .u16) rfl
      obtain ⟨e1, a1, q1, w1⟩ := hc i hi 1 (some .u16) rfl
      obtain ⟨e2, a2, q2, w2⟩ := hc i hi 2 (some .u16) rfl
      rw [q0] at e0
      rw [q1] at e1
      rw [q2] at e2
      exact ⟨a0, a1, a2, q0, q1, q2, e0, e1, e2, u w0, u w1, u w2⟩
    refine ⟨(List.range l).map fun i => ((intOf (F i 0), intOf (F i 1), intOf (F i 2)) : Ent), by simp, fun _ => ⟨b, off, rfl, fun i hi => ?_⟩, hl, by unfold maxLen at hm; omega, (fun h => by cases h), fun i hi => ?_⟩
    · obtain ⟨a0, a1, a2, q0, q1, q2, e0, e1, e2, b0, b1, b2⟩ := g i hi
      rw [e i hi, q0, q1, q2]
      exact ⟨e0, e1, e2⟩
    · obtain ⟨a0, a1, a2, q0, q1, q2, e0, e1, e2, b0, b1, b2⟩ := g i hi
      rw [e i hi, q0, q1, q2]
      exact ⟨b0, b1, b2⟩
end Go.Proofs.Ytekjakmeopolhaa
