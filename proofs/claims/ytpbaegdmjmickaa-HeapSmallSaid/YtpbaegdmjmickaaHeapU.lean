/-
  Layer 18 (heap): Least, Pop, Key, Len.
-/
import Derived.Test.YtpbaegdmjmickaaHeapR
namespace Go.Proofs.Ytpbaegdmjmickaa
open Go.RowKit Go.Maps Go.IntWalk Go.Lib Go.Sort
set_option linter.unusedVariables false
theorem first_least {V S : Items} (h : Heaped V) (hp : S.Perm V) (ho : InOrder S) (h0 : 0 < V.length) : ∃ r, S = V[0]! :: r := by
  cases S with
  | nil => have := hp.length_eq; simp at this; omega
  | cons x r =>
    refine ⟨r, ?_⟩
    obtain ⟨h1, h2⟩ := List.pairwise_cons.1 ho
    obtain ⟨j, jl, hj⟩ := mem_at ((hp.mem_iff (a := x)).1 (by simp))
    rcases Nat.eq_zero_or_pos j with e | e
    · rw [← hj, e]
    · have q := heaped_first h j e jl
      rw [hj] at q
      rcases List.mem_cons.1 ((hp.mem_iff (a := V[0]!)).2 (at_mem h0)) with m | m
      · rw [m]
      · exact absurd (ltI_trans q (h1 _ m)) (ltI_irrefl _)
def leastI (S : Items) : Int × Int := S.headD (0, 0)
def leastV (S : Items) : Value := .tuple #[.agg #[.int .i64 (leastI S).1, .int .u64 (leastI S).2], .bool (!S.isEmpty)]
set_option maxRecDepth 100000 in
set_option maxHeartbeats 1000000 in
theorem Least_at {p : Nat} {F : List Nat} {n : Int} {S : Items} (w : World) (h : HeapIn w p F n S) :
    Calls Try.prog 19 #[.pointer (some ⟨p, 0, none⟩)] w fun e w' => e = .returned (leastV S) ∧ Grows w w' := by
  obtain ⟨a, cap, bm, V, f, hg, rfl, hp, ho⟩ := h
  have c0 := hg.raw.c0
  by_cases h0 : V.length = 0
  · have hS : S = [] := List.eq_nil_of_length_eq_zero (by rw [hp.length_eq]; exact h0)
    have HC := Lib.hid (show leastV S = .tuple #[.agg #[.int .i64 0, .int .u64 0], .bool false] by rw [hS]; rfl)
    unfold rowV at c0
    rw [h0] at c0
    have c0' := cell_al (.cells #[.int .i64 0, .int .u64 0] 28) c0
    clear hg hp ho hS h0
    go_enter Try.func19, Try.ntmps19
    go_wp2_with fail
    rw [HC.out]
    refine bodyPost_ret (v := .tuple #[.agg #[.int .i64 0, .int .u64 0], .bool false]) (by simp [results, Try.results19, go_sem]) rfl ⟨rfl, ?_⟩
    exact grows_a _ _
  · obtain ⟨g, rfl⟩ := hg.raw.row (by omega)
    obtain ⟨r, hS⟩ := first_least hg.heaped hp ho (by omega)
    obtain ⟨i0, i1⟩ := hg.raw.item (k := 0) (by omega)
    obtain ⟨x, hx⟩ : ∃ x, x = V[0]! := ⟨_, rfl⟩
    rw [← hx] at i0 i1 hS
    have HC := Lib.hid (show leastV S = .tuple #[.agg #[.int .i64 x.1, .int .u64 x.2], .bool true] by rw [hS]; rfl)
    unfold rowV at c0
    simp only [Option.map_some] at c0
    simp only [Nat.zero_mul, Nat.zero_add] at i0 i1
    have z : ((V.length : Int) == 0) = false := by simp; intro e; rw [e] at h0; exact h0 rfl
    have z1 : (0 : Int) < (V.length : Int) := by omega
    have z2 : 0 < V.length := by omega
    have c0' := cell_al (.cells #[.int .i64 0, .int .u64 0] 28) c0
    have i0' := cell_al (.cells #[.int .i64 0, .int .u64 0] 28) i0
    have i1' := cell_al (.cells #[.int .i64 0, .int .u64 0] 28) i1
    clear hg hp ho hS hx h0
    go_enter Try.func19, Try.ntmps19
    go_wp2_with fail
    rw [HC.out]
    refine bodyPost_ret (v := .tuple #[.agg #[.int .i64 x.1, .int .u64 x.2], .bool true]) (by simp [results, Try.results19, go_sem]) rfl ⟨rfl, ?_⟩
    exact grows_a _ _
/-- what Key answers -/
def keyV (n : Int) (S : Items) (id : Int) : Value := if hasV n id then (match keyL S id with | some k => .tuple #[.int .u64 k, .bool true] | none => .tuple #[.int .u64 0, .bool false]) else .tuple #[.int .u64 0, .bool false]
set_option maxRecDepth 100000 in
set_option maxHeartbeats 1000000 in
theorem Key_at {p : Nat} {F : List Nat} {n : Int} {S : Items} (id : Int) (w : World) (h : HeapIn w p F n S) (hid : (Lit.int .i64 id).wf = true) :
    Calls Try.prog 16 #[.pointer (some ⟨p, 0, none⟩), .int .i64 id] w fun e w' => e = .returned (keyV n S id) ∧ w = w' := by
  obtain ⟨a, cap, bm, V, f, hg, rfl, hp, ho⟩ := h
  have A1 := Lib.hid (find_at id w hg.raw hid)
  have hfd := hg.find hp id
  unfold findV at A1
  unfold keyV
  cases hv : hasV n id with
  | false =>
    rw [hv] at A1
    clear hfd hg hp ho
    simp only [Bool.false_eq_true, if_false]
    go_enter Try.func16, Try.ntmps16
    go_wp2_with fail
    refine A1.out.mono ?_; rintro e w5 ⟨rfl, rfl⟩
    go_wp2_with fail
    go_ret2
    exact ⟨rfl, rfl⟩
  | true =>
    rw [hv] at A1
    cases hf : f id with
    | none =>
      rw [hf] at A1 hfd
      have hk : keyL S id = none := by
        have := hfd.1
        cases e : keyL S id with
        | none => rfl
        | some k => rw [e] at this; cases this
      rw [hk]
      clear hfd hg hp ho hk
      simp only [if_true]
      go_enter Try.func16, Try.ntmps16
      go_wp2_with fail
      refine A1.out.mono ?_; rintro e w5 ⟨rfl, rfl⟩
      go_wp2_with fail
      go_ret2
      exact ⟨rfl, rfl⟩
    | some q =>
      rw [hf] at A1 hfd
      obtain ⟨k, rfl, kl, hki, hkk⟩ := hfd.2 q rfl
      obtain ⟨g, rfl⟩ := hg.raw.row (by omega)
      have hlen := hg.raw.nlen hg.apart
      have hsm := hg.raw.small
      obtain ⟨i0, i1⟩ := hg.raw.item kl
      obtain ⟨x, hx⟩ : ∃ x, x = V[k]! := ⟨_, rfl⟩
      rw [← hx] at i1 hkk
      rw [hkk]
      have c0 := hg.raw.c0
      unfold rowV at c0
      simp only [Option.map_some] at c0
      have l1 : (k : Int) < (V.length : Int) := by omega
      have l3 : (0 : Int) ≤ (k : Int) := by omega
      clear hfd hg hp ho hx i0 hkk hki hlen hsm
      simp only [if_true]
      go_enter Try.func16, Try.ntmps16
      go_wp2_with fail
      refine A1.out.mono ?_; rintro e w5 ⟨rfl, rfl⟩
      go_wp2_with fail
      go_ret2
      exact ⟨rfl, rfl⟩
theorem LenH_at {p : Nat} {F : List Nat} {n : Int} {S : Items} (w : World) (h : HeapIn w p F n S) : Calls Try.prog 22 #[.pointer (some ⟨p, 0, none⟩)] w fun e w' => e = .returned (.int .i64 S.length) ∧ w = w' := by
  obtain ⟨a, cap, bm, V, f, hg, rfl, hp, ho⟩ := h
  rw [hp.length_eq]
  exact Len_at p _ V.length cap w hg.raw.c0
def popE (S : Items) : Int := if S.isEmpty then 6 else 0
def popV (S : Items) : Value := .tuple #[.agg #[.int .i64 (leastI S).1, .int .u64 (leastI S).2], .int .i64 (popE S)]
theorem HeapIn.ids {w : World} {p : Nat} {F : List Nat} {n : Int} {S : Items} (h : HeapIn w p F n S) : (S.map Prod.fst).Nodup ∧ InOrder S ∧ (∀ x ∈ S, (0 ≤ x.1 ∧ x.1 < n) ∧ 0 ≤ x.2 ∧ x.2 ≤ 18446744073709551615) ∧ 1 ≤ n ∧ n ≤ 131072 ∧ (S.length : Int) ≤ n := by
  obtain ⟨a, cap, bm, V, f, hg, rfl, hp, ho⟩ := h
  exact ⟨ids_nodup_perm hp.symm (apart_nodup hg.apart), ho, fun x hx => hg.raw.fits x (hp.mem_iff.1 hx), hg.raw.pos, hg.raw.small, by rw [hp.length_eq]; exact hg.raw.nlen hg.apart⟩
theorem some_in {p : Nat} {F : List Nat} {n : Int} {S : Items} (w : World) (h : HeapIn w p F n S) : Calls Try.prog 35 #[.pointer (some ⟨p, 0, none⟩)] w fun e w' => e = .returned (.bool true) ∧ w = w' := by
  obtain ⟨a, cap, bm, V, f, hg, rfl, hp, ho⟩ := h
  have := some_at p n w hg.raw.c2
  rwa [show decide (0 < n) = true by have := hg.raw.pos; simp; omega] at this
theorem outRes_ok {n : Int} {S : Items} {x : Int × Int} (hx : x ∈ S) (hn : (S.map Prod.fst).Nodup) (h0 : 0 ≤ x.1 ∧ x.1 < n) : outRes n S x.1 = 0 ∧ keyL S x.1 = some x.2 := by
  have hk : keyL S x.1 = some x.2 := (keyL_some hn).2 hx
  unfold outRes
  rw [hasV_iff.2 h0, hk]
  exact ⟨rfl, rfl⟩
theorem outL_head {x : Int × Int} {r : Items} (h : ((x :: r).map Prod.fst).Nodup) : outL (x :: r) x.1 = r := by
  rw [outL_cons_same]
  refine outL_none fun y hy e => ?_
  simp only [List.map_cons, List.nodup_cons] at h
  exact h.1 (List.mem_map.2 ⟨y, hy, e⟩)
set_option maxRecDepth 100000 in
set_option maxHeartbeats 1000000 in
theorem Pop_at {p : Nat} {F : List Nat} {n : Int} {S : Items} (w : World) (h : HeapIn w p F n S) :
    Calls Try.prog 20 #[.pointer (some ⟨p, 0, none⟩)] w (Did w p F n (popV S) S.tail) := by
  obtain ⟨wo, hwo⟩ : ∃ wo, wo = w.alloc (.cells #[.int .i64 0, .int .u64 0] 28) := ⟨_, rfl⟩
  have hbo : Below w.heap.size w wo := by rw [hwo]; exact below_a _ _
  have h1 := h.below hbo
  have HS := Lib.hid h
  have hI := h.ids
  have A1 := Lib.hid (some_in wo h1)
  have A2 := Lib.hid (Least_at wo h1)
  have r0 : wo.cell? ⟨w.heap.size, 0, none⟩ = some (.int .i64 0) := by rw [hwo]; exact cell_nw _ _ _ 0 _ rfl
  have r1 : wo.cell? ⟨w.heap.size, 1, none⟩ = some (.int .u64 0) := by rw [hwo]; exact cell_nw _ _ _ 1 _ rfl
  have f0 : ∀ j, wo.frozen? ⟨w.heap.size, j, none⟩ = false := fun j => by rw [hwo, World.frozen?_alloc_new]
  have HWO := Lib.hid hwo
  have HBO := Lib.hid hbo
  have HI := Lib.hid hI
  cases S with
  | nil =>
    clear hI h h1
    have z : leastV ([] : Items) = .tuple #[.agg #[.int .i64 0, .int .u64 0], .bool false] := rfl
    rw [z] at A2
    have hv : popV ([] : Items) = .tuple #[.agg #[.int .i64 0, .int .u64 0], .int .i64 6] := rfl
    rw [hv]
    clear z hv hbo
    go_enter Try.func20, Try.ntmps20
    go_wp2_with fail
    rw [← HWO.out]
    clear hwo
    refine A1.out.mono ?_; rintro e w5 ⟨rfl, rfl⟩
    go_wp2_with fail
    refine A2.out.mono ?_; rintro e w5 ⟨rfl, hg5⟩
    have HG5 := Lib.hid hg5
    have hB : w.heap.size < wo.heap.size := lt_of_cell r0
    have q0 := cell_al (.cells #[.int .i64 0, .int .u64 0] 28) (grows_cell hg5 r0)
    have q1 := cell_al (.cells #[.int .i64 0, .int .u64 0] 28) (grows_cell hg5 r1)
    have k0 : (w5.alloc (.cells #[.int .i64 0, .int .u64 0] 28)).frozen? ⟨w.heap.size, 0, none⟩ = false := (((hg5.alloc _).below).frozen (p := ⟨w.heap.size, 0, none⟩) hB).trans (f0 0)
    have k1 : (w5.alloc (.cells #[.int .i64 0, .int .u64 0] 28)).frozen? ⟨w.heap.size, 1, none⟩ = false := (((hg5.alloc _).below).frozen (p := ⟨w.heap.size, 1, none⟩) hB).trans (f0 1)
    have HB7 := Lib.hid (show Below w.heap.size w (w5.alloc (.cells #[.int .i64 0, .int .u64 0] 28)) from Below.step HBO.out (hg5.alloc _).below)
    clear hg5 f0 r0 r1 hB
    have q1' := cell_set_ne (b' := w.heap.size) (o' := 0) (u := .int .i64 0) q1 (Or.inr (by omega))
    have k1' : ((w5.alloc (.cells #[.int .i64 0, .int .u64 0] 28)).setCell ⟨w.heap.size, 0, none⟩ (.int .i64 0)).frozen? ⟨w.heap.size, 1, none⟩ = false := by rw [World.frozen?_setCell]; exact k1
    have q0'' := cell_set_ne (b' := w.heap.size) (o' := 1) (u := .int .u64 0) (cell_set_eq (u := .int .i64 0) q0) (Or.inr (by omega))
    have q1'' := cell_set_eq (u := .int .u64 0) q1'
    go_wp2_with fail
    refine bodyPost_ret (v := .tuple #[.agg #[.int .i64 0, .int .u64 0], .int .i64 6]) (by simp [results, Try.results20, go_sem, q0'', q1'']) rfl ⟨rfl, ?_⟩
    exact After.same HS.out ((HB7.out.setCell (p := ⟨w.heap.size, 0, none⟩) (Nat.le_refl _) _).setCell (p := ⟨w.heap.size, 1, none⟩) (Nat.le_refl _) _)
  | cons x r =>
    have z : leastV (x :: r) = .tuple #[.agg #[.int .i64 x.1, .int .u64 x.2], .bool true] := rfl
    rw [z] at A2
    have hv : popV (x :: r) = .tuple #[.agg #[.int .i64 x.1, .int .u64 x.2], .int .i64 0] := rfl
    rw [hv]
    have hout := outRes_ok (x := x) (by simp) hI.1 (hI.2.2.1 x (by simp)).1
    have hwf : (Lit.int .i64 x.1).wf = true := WalkArith.wf_i64 (n := x.1) (by have := (hI.2.2.1 x (by simp)).1; have := hI.2.2.2.2.1; omega)
    have A3 := Lib.hid fun W (g : HeapIn W p F n (x :: r)) => Out_at x.1 W g hwf
    have hoS : outS n (x :: r) x.1 = r := by unfold outS; rw [if_pos hout.1]; exact outL_head hI.1
    have HOS := Lib.hid hoS
    have HX1 := Lib.hid h1
    clear hI h1 z hv hbo hout hoS hwf
    go_enter Try.func20, Try.ntmps20
    go_wp2_with fail
    rw [← HWO.out]
    clear hwo
    refine A1.out.mono ?_; rintro e w5 ⟨rfl, rfl⟩
    go_wp2_with fail
    refine A2.out.mono ?_; rintro e w5 ⟨rfl, hg5⟩
    go_wp2_with fail
    have h6 : HeapIn (w5.alloc (.cells #[.int .i64 x.1, .int .u64 x.2] 28)) p F n (x :: r) := HX1.out.below (hg5.alloc _).below
    refine (A3.out _ h6).mono ?_
    rintro e w7 ⟨rfl, hA⟩
    rw [HOS.out] at hA
    have hlt := h.lt
    have hnF : w.heap.size ∉ F := fun m => by have := hlt _ m; omega
    have hnF2 : w5.heap.size ∉ F := fun m => by have := hlt _ m; have := (Below.step HBO.out hg5.below).size; omega
    have hAA := hA
    obtain ⟨F', hH, hk, hF⟩ := hA
    have hB : w.heap.size < wo.heap.size := lt_of_cell r0
    have q0 := hk.cellAt (cell_al (.cells #[.int .i64 x.1, .int .u64 x.2] 28) (grows_cell hg5 r0)) hnF
    have q1 := hk.cellAt (cell_al (.cells #[.int .i64 x.1, .int .u64 x.2] 28) (grows_cell hg5 r1)) hnF
    have b0 := hk.cellAt (cell_nw w5 #[.int .i64 x.1, .int .u64 x.2] 28 0 _ rfl) hnF2
    have b1 := hk.cellAt (cell_nw w5 #[.int .i64 x.1, .int .u64 x.2] 28 1 _ rfl) hnF2
    have hfz : ∀ j, w7.frozen? ⟨w.heap.size, j, none⟩ = false := fun j => by
      have e1 := (((hg5.alloc (.cells #[.int .i64 x.1, .int .u64 x.2] 28)).below).frozen (p := ⟨w.heap.size, j, none⟩) hB).trans (f0 j)
      have e2 := World.frozen?_of_block (a := ⟨w.heap.size, j, none⟩) (hk.block w.heap.size (Nat.lt_of_lt_of_le hB (hg5.alloc _).below.size) hnF)
      exact e2.trans e1
    have k0 := hfz 0
    have k1 := hfz 1
    have HA := Lib.hid hAA
    have HG5 := Lib.hid hg5
    have hne : w5.heap.size ≠ w.heap.size := by have := hg5.below.size; omega
    have q1' := cell_set_ne (b' := w.heap.size) (o' := 0) (u := .int .i64 x.1) q1 (Or.inr (by omega))
    have k1' : (w7.setCell ⟨w.heap.size, 0, none⟩ (.int .i64 x.1)).frozen? ⟨w.heap.size, 1, none⟩ = false := by rw [World.frozen?_setCell]; exact k1
    have q0'' := cell_set_ne (b' := w.heap.size) (o' := 1) (u := .int .u64 x.2) (cell_set_eq (u := .int .i64 x.1) q0) (Or.inr (by omega))
    have q1'' := cell_set_eq (u := .int .u64 x.2) q1'
    have HN := Lib.hid hnF
    clear hfz hAA hH hk hF hnF hnF2 hB hg5 f0 r0 r1 h6 h hlt
    go_wp2_with fail
    refine bodyPost_ret (v := .tuple #[.agg #[.int .i64 x.1, .int .u64 x.2], .int .i64 0]) (by simp [results, Try.results20, go_sem, q0'', q1'']) rfl ⟨rfl, ?_⟩
    have hAA := HA.out
    have hwB : Below w.heap.size w (w5.alloc (.cells #[.int .i64 x.1, .int .u64 x.2] 28)) := Below.step HBO.out (HG5.out.alloc _).below
    obtain ⟨F', hH, hk, hF⟩ := hAA
    have hsz := hwB.size
    have hSlt := HS.out.lt
    have hnot : ∀ b ∈ F', b ∉ [w.heap.size] := fun b hb e => by
      simp only [List.mem_singleton] at e
      rcases hF b hb with q | q
      · exact HN.out (e ▸ q)
      · have h1 : w.heap.size < wo.heap.size := by rw [HWO.out]; simp
        have h2 := HG5.out.below.size
        simp only [World.size_alloc] at q
        omega
    have hkk := ((Kept.refl [w.heap.size] w7).setCell (p := ⟨w.heap.size, 0, none⟩) (Or.inl (by simp)) (.int .i64 x.1)).setCell (p := ⟨w.heap.size, 1, none⟩) (Or.inl (by simp)) (.int .u64 x.2)
    refine ⟨F', hH.kept hkk hnot, ?_, fun b hb => ?_⟩
    · refine ((((Kept.of hwB).trans hk).setCell (p := ⟨w.heap.size, 0, none⟩) (Or.inr (Nat.le_refl _)) _).setCell (p := ⟨w.heap.size, 1, none⟩) (Or.inr (Nat.le_refl _)) _)
    · rcases hF b hb with q | q
      · exact Or.inl q
      · exact Or.inr (by omega)
end Go.Proofs.Ytpbaegdmjmickaa
