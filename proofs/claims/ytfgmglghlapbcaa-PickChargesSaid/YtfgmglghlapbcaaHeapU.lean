/-
  Layer 18 (heap): Least, Pop, Key, Len.
-/
import Derived.Test.YtfgmglghlapbcaaHeapR
namespace Go.Proofs.Ytfgmglghlapbcaa
open Go.RowKit Go.Maps Go.IntWalk Go.Lib Go.Sort
set_option linter.unusedVariables false
theorem first_least {V S : Items} (h : Heaped V) (hp : S.Perm V) (ho : InOrder S) (h0 : 0 < V.length) : ∃ r, S = V[0]! :: r := by
  cases S with
  | nil => have := hp.length_eq; simp at this; omega
  | cons x r =>
    refine ⟨r, ?_⟩
    obtain ⟨h1, h2⟩ := List.pairwise_cons.1 ho
    obtain ⟨j, jl, hj⟩ := mem_at ((hp.mem_iff (a := x)).1 (by simp))
    rcases Nat.eq_zero_or_pos j with e | e
    · rw [← hj, e]
    · have q := heaped_first h j e jl
      rw [hj] at q
      rcases List.mem_cons.1 ((hp.mem_iff (a := V[0]!)).2 (at_mem h0)) with m | m
      · rw [m]
      · exact absurd (ltI_trans q (h1 _ m)) (ltI_irrefl _)
def leastI (S : Items) : Int × Int := S.headD (0, 0)
def leastV (S : Items) : Value := .tuple #[.agg #[.int .i64 (leastI S).1, .int .u64 (leastI S).2], .bool (!S.isEmpty)]
set_option maxRecDepth 100000 in
set_option maxHeartbeats 1000000 in
theorem Least_at {p : Nat} {F : List Nat} {n : Int} {S : Items} (w : World) (h : HeapIn w p F n S) :
    Calls Try.prog 69 #[.pointer (some ⟨p, 0, none⟩)] w fun e w' => e = .returned (leastV S) ∧ Grows w w' := by
  obtain ⟨a, cap, bm, V, f, hg, rfl, hp, ho⟩ := h
  have c0 := hg.raw.c0
  by_cases h0 : V.length = 0
  · have hS : S = [] := List.eq_nil_of_length_eq_zero (by rw [hp.length_eq]; exact h0)
    have HC := Lib.hid (show leastV S = .tuple #[.agg #[.int .i64 0, .int .u64 0], .bool false] by rw [hS]; rfl)
    unfold rowV at c0
    rw [h0] at c0
    have c0' := cell_al (.cells #[.int .i64 0, .int .u64 0] 122) c0
    clear hg hp ho hS h0
    go_enter Try.func69, Try.ntmps69
    go_wp2_with fail
    rw [HC.out]
    refine bodyPost_ret (v := .tuple #[.agg #[.int .i64 0, .int .u64 0], .bool false]) (by simp [results, Try.results69, go_sem]) rfl ⟨rfl, ?_⟩
    exact grows_a _ _
  · obtain ⟨g, rfl⟩ := hg.raw.row (by omega)
    obtain ⟨r, hS⟩ := first_least hg.heaped hp ho (by omega)
    obtain ⟨i0, i1⟩ := hg.raw.item (k := 0) (by omega)
    obtain ⟨x, hx⟩ : ∃ x, x = V[0]! := ⟨_, rfl⟩
    rw [← hx] at i0 i1 hS
    have HC := Lib.hid (show leastV S = .tuple #[.agg #[.int .i64 x.1, .int .u64 x.2], .bool true] by rw [hS]; rfl)
    unfold rowV at c0
    simp only [Option.map_some] at c0
    simp only [Nat.zero_mul, Nat.zero_add] at i0 i1
    have z : ((V.length : Int) == 0) = false := by simp; intro e; rw [e] at h0; exact h0 rfl
    have z1 : (0 : Int) < (V.length : Int) := by omega
    have z2 : 0 < V.length := by omega
    have c0' := cell_al (.cells #[.int .i64 0, .int .u64 0] 122) c0
    have i0' := cell_al (.cells #[.int .i64 0, .int .u64 0] 122) i0
    have i1' := cell_al (.cells #[.int .i64 0, .int .u64 0] 122) i1
    clear hg hp ho hS hx h0
    go_enter Try.func69, Try.ntmps69
    go_wp2_with fail
    rw [HC.out]
    refine bodyPost_ret (v := .tuple #[.agg #[.int .i64 x.1, .int .u64 x.2], .bool true]) (by simp [results, Try.results69, go_sem]) rfl ⟨rfl, ?_⟩
    exact grows_a _ _
/-- what Key answers -/
def keyV (n : Int) (S : Items) (id : Int) : Value := if hasV n id then (match keyL S id with | some k => .tuple #[.int .u64 k, .bool true] | none => .tuple #[.int .u64 0, .bool false]) else .tuple #[.int .u64 0, .bool false]
def popE (S : Items) : Int := if S.isEmpty then 6 else 0
def popV (S : Items) : Value := .tuple #[.agg #[.int .i64 (leastI S).1, .int .u64 (leastI S).2], .int .i64 (popE S)]
theorem HeapIn.ids {w : World} {p : Nat} {F : List Nat} {n : Int} {S : Items} (h : HeapIn w p F n S) : (S.map Prod.fst).Nodup ∧ InOrder S ∧ (∀ x ∈ S, (0 ≤ x.1 ∧ x.1 < n) ∧ 0 ≤ x.2 ∧ x.2 ≤ 18446744073709551615) ∧ 1 ≤ n ∧ n ≤ 131072 ∧ (S.length : Int) ≤ n := by
  obtain ⟨a, cap, bm, V, f, hg, rfl, hp, ho⟩ := h
  exact ⟨ids_nodup_perm hp.symm (apart_nodup hg.apart), ho, fun x hx => hg.raw.fits x (hp.mem_iff.1 hx), hg.raw.pos, hg.raw.small, by rw [hp.length_eq]; exact hg.raw.nlen hg.apart⟩
theorem some_in {p : Nat} {F : List Nat} {n : Int} {S : Items} (w : World) (h : HeapIn w p F n S) : Calls Try.prog 76 #[.pointer (some ⟨p, 0, none⟩)] w fun e w' => e = .returned (.bool true) ∧ w = w' := by
  obtain ⟨a, cap, bm, V, f, hg, rfl, hp, ho⟩ := h
  have := some_at p n w hg.raw.c2
  rwa [show decide (0 < n) = true by have := hg.raw.pos; simp; omega] at this
theorem outRes_ok {n : Int} {S : Items} {x : Int × Int} (hx : x ∈ S) (hn : (S.map Prod.fst).Nodup) (h0 : 0 ≤ x.1 ∧ x.1 < n) : outRes n S x.1 = 0 ∧ keyL S x.1 = some x.2 := by
  have hk : keyL S x.1 = some x.2 := (keyL_some hn).2 hx
  unfold outRes
  rw [hasV_iff.2 h0, hk]
  exact ⟨rfl, rfl⟩
theorem outL_head {x : Int × Int} {r : Items} (h : ((x :: r).map Prod.fst).Nodup) : outL (x :: r) x.1 = r := by
  rw [outL_cons_same]
  refine outL_none fun y hy e => ?_
  simp only [List.map_cons, List.nodup_cons] at h
  exact h.1 (List.mem_map.2 ⟨y, hy, e⟩)
end Go.Proofs.Ytfgmglghlapbcaa
