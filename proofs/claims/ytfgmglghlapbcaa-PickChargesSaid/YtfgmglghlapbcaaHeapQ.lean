/-
  Layer 18 (heap): Set, Out.
-/
import Derived.Test.YtfgmglghlapbcaaHeapP
namespace Go.Proofs.Ytfgmglghlapbcaa
open Go.RowKit Go.Maps Go.IntWalk Go.Lib Go.Sort
set_option linter.unusedVariables false
theorem flatI_key {L : Items} {k : Nat} {key : Int} (hk : k < L.length) : flatI (L.set k (L[k]!.1, key)) = (flatI L).set (k * 2 + 1) (.int .u64 key) := by
  rw [flatI_set hk]
  have h := (flatI_at (at_get hk)).1
  have : (flatI L).set (k * 2) (.int .i64 L[k]!.1) = flatI L := by
    apply List.ext_getElem?
    intro i
    rw [List.getElem?_set]
    split
    · rename_i e
      subst e
      split
      · exact h.symm
      · rename_i q; rw [List.getElem?_eq_none (by omega)]
    · rfl
  simp only [this]
/-- another key for an item -/
theorem Raw.rekey {w : World} {p g cap bm : Nat} {n : Int} {L : Items} {f : Int → Option Int} {c : Nat} (h : Raw w p (some g) cap bm n L f c) {k : Nat} (hk : k < L.length) {key : Int} (hx : 0 ≤ key ∧ key ≤ 18446744073709551615) :
    Raw (w.setCell ⟨g, k * 2 + 1, none⟩ (.int .u64 key)) p (some g) cap bm n (L.set k (L[k]!.1, key)) f c := by
  obtain ⟨n1, n2⟩ := h.na g rfl
  have o := h.own
  change w.ownsRow (max p bm + 1) 122 2 (.slice (some ⟨g, 0, none⟩) L.length cap) L.length (flatI L) at o
  obtain ⟨o1, _⟩ := o.stored (k * 2 + 1) (.int .u64 key)
  have hl : (L.set k (L[k]!.1, key)).length = L.length := by simp
  refine ⟨?_, cell_set_ne h.c1 (Or.inl (Ne.symm n1)), cell_set_ne h.c2 (Or.inl (Ne.symm n1)), fun j => by rw [World.frozen?_setCell]; exact h.fp j, ?_, h.na, h.pb, h.map.setCell (Ne.symm n2) _, fun y hy => ?_, h.small, h.pos⟩
  · rw [hl]; exact cell_set_ne h.c0 (Or.inl (Ne.symm n1))
  · rw [hl, flatI_key hk]; exact o1
  · rcases List.mem_or_eq_of_mem_set hy with q | rfl
    · exact h.fits y q
    · exact ⟨(h.fits _ (at_mem hk)).1, hx⟩
theorem set_ids {V : Items} {k : Nat} (hk : k < V.length) (key : Int) (i : Nat) : (V.set k (V[k]!.1, key))[i]!.1 = V[i]!.1 := by
  rw [set_at hk]
  split
  · rename_i e; rw [e]
  · rfl
theorem Good.rekeyed {w w2 : World} {p g : Nat} {cap bm : Nat} {n : Int} {V : Items} {f : Int → Option Int} (h : Good w p (some g) cap bm n V f) {k : Nat} (hk : k < V.length) {key : Int} (hx : 0 ≤ key ∧ key ≤ 18446744073709551615)
    (r : Raw w2 p (some g) cap bm n (V.set k (V[k]!.1, key)) f V.length) : Mid w2 p g cap bm n (V.set k (V[k]!.1, key)) f V.length (V.set k (V[k]!.1, key)) (V.set k (V[k]!.1, key))[k]! k := by
  have hl : (V.set k (V[k]!.1, key)).length = V.length := by simp
  have e0 : (V.set k (V[k]!.1, key))[k]! = (V[k]!.1, key) := by rw [set_at hk, if_pos rfl]
  have e1 : (V.set k (V[k]!.1, key)).set k (V[k]!.1, key) = V.set k (V[k]!.1, key) := by simp
  have fk : f V[k]!.1 = some (k : Int) := (h.placed _ _).2 ⟨k, hk, rfl, rfl⟩
  rw [e0]
  refine ⟨r, by omega, by rw [e1]; exact hole_set _ hk h.heaped, ?_, by rw [e1], ?_, by rw [fk, hl]; rfl, (h.raw.fits _ (at_mem hk)).1, hx⟩
  · rw [e1]
    intro i j hi hj e
    rw [hl] at hi hj
    rw [set_ids hk, set_ids hk] at e
    exact h.apart i j hi hj e
  · rw [e1]
    intro id hid q
    rw [h.placed id q]
    constructor
    · rintro ⟨j, jl, hj, rfl⟩
      exact ⟨j, by omega, by rw [set_ids hk]; exact hj, rfl⟩
    · rintro ⟨j, jl, hj, rfl⟩
      rw [set_ids hk] at hj
      exact ⟨j, by omega, hj, rfl⟩
theorem rekey_perm {S V : Items} {k : Nat} {key : Int} (hp : S.Perm V) (hn : (V.map Prod.fst).Nodup) (hk : k < V.length) : (putL (outL S V[k]!.1) (V[k]!.1, key)).Perm (V.set k (V[k]!.1, key)) := by
  refine (putL_perm _ _).trans ?_
  refine ((outL_perm hp _).cons _).trans ?_
  rw [← erase_outL hk hn]
  have hk' : k < (V.set k (V[k]!.1, key)).length := by simpa using hk
  have q := erase_perm hk'
  rw [set_at hk, if_pos rfl, List.eraseIdx_set_eq] at q
  exact q.symm
def setRes (n : Int) (S : Items) (id : Int) : Int := if hasV n id then (if (keyL S id).isSome then 0 else 6) else 2
def setS (n : Int) (S : Items) (id key : Int) : Items := if setRes n S id = 0 then putL (outL S id) (id, key) else S
theorem not_out {S : Items} {id key : Int} : (id, key) ∉ outL S id := by unfold outL; simp
/-- the blocks of a heap are those that they were -/
theorem After.of_kept {w w' : World} {p g cap bm : Nat} {n : Int} {S V : Items} {f : Int → Option Int} (hk : Kept (blocks p (some g) bm) w w') (hg : Good w' p (some g) cap bm n V f) (hp : S.Perm V) (ho : InOrder S) : After w p (blocks p (some g) bm) n S w' :=
  ⟨blocks p (some g) bm, ⟨some g, cap, bm, V, f, hg, rfl, hp, ho⟩, hk, fun b hb => Or.inl hb⟩
set_option maxRecDepth 100000 in
set_option maxHeartbeats 1000000 in
theorem Set_at {p : Nat} {F : List Nat} {n : Int} {S : Items} (id key : Int) (w : World) (h : HeapIn w p F n S) (hid : (Lit.int .i64 id).wf = true) (hk : 0 ≤ key ∧ key ≤ 18446744073709551615) :
    Calls Try.prog 74 #[.pointer (some ⟨p, 0, none⟩), .int .i64 id, .int .u64 key] w (Did w p F n (.int .i64 (setRes n S id)) (setS n S id key)) := by
  have HS := Lib.hid h
  obtain ⟨a, cap, bm, V, f, hg, rfl, hp, ho⟩ := h
  have A1 := Lib.hid (find_at id w hg.raw hid)
  have hfd := hg.find hp id
  unfold findV at A1
  unfold setS setRes
  cases hv : hasV n id with
  | false =>
    rw [hv] at A1
    clear hfd hg hp ho
    go_enter Try.func74, Try.ntmps74
    go_wp2_with fail
    refine A1.out.mono ?_; rintro e w5 ⟨rfl, rfl⟩
    go_wp2_with fail
    go_ret
    exact ⟨rfl, After.same HS.out (Below.refl _ _)⟩
  | true =>
    rw [hv] at A1
    cases hf : f id with
    | none =>
      rw [hf] at A1 hfd
      rw [← hfd.1]
      clear hfd hg hp ho
      go_enter Try.func74, Try.ntmps74
      go_wp2_with fail
      refine A1.out.mono ?_; rintro e w5 ⟨rfl, rfl⟩
      go_wp2_with fail
      go_ret
      exact ⟨rfl, After.same HS.out (Below.refl _ _)⟩
    | some q =>
      rw [hf] at A1 hfd
      rw [← hfd.1]
      obtain ⟨k, rfl, kl, hki, hkk⟩ := hfd.2 q rfl
      obtain ⟨g, rfl⟩ := hg.raw.row (by omega)
      have HG := Lib.hid hg
      have HP := Lib.hid hp
      have HO := Lib.hid ho
      have HKL := Lib.hid kl
      have HKI := Lib.hid hki
      have hlen := hg.raw.nlen hg.apart
      have hsm := hg.raw.small
      have c0 := hg.raw.c0
      unfold rowV at c0
      simp only [Option.map_some] at c0
      obtain ⟨i0, i1⟩ := hg.raw.item kl
      have fg1 := hg.raw.fg (k * 2 + 1)
      have l1 : (k : Int) < (V.length : Int) := by omega
      have l3 : (0 : Int) ≤ (k : Int) := by omega
      have hr := hg.raw.rekey kl hk
      have HR := Lib.hid hr
      have HKY := Lib.hid hk
      clear hfd hkk hg hp ho hlen hsm hki hr
      go_enter Try.func74, Try.ntmps74
      go_wp2_with fail
      refine A1.out.mono ?_; rintro e w5 ⟨rfl, rfl⟩
      go_wp2_with fail
      refine (settle_at _ k _ (HG.out.rekeyed HKL.out HKY.out HR.out)).mono ?_
      rintro e w7 ⟨rfl, hS⟩
      have HSS := Lib.hid hS
      clear hS i0 i1 c0 fg1
      go_wp2_with fail
      go_ret
      obtain ⟨V', f', hg', hp', hk'⟩ := HSS.out
      have hk0 : Kept [p, bm, g] w (w.setCell ⟨g, k * 2 + 1, none⟩ (.int .u64 key)) := (Kept.refl _ w).setCell (Or.inl (by simp)) _
      have hpp := rekey_perm (key := key) HP.out (apart_nodup HG.out.apart) HKL.out
      rw [HKI.out] at hpp hp'
      exact ⟨rfl, After.of_kept (hk0.trans hk') hg' (hpp.trans hp'.symm) (putL_order (outL_order HO.out id) not_out)⟩
end Go.Proofs.Ytfgmglghlapbcaa
