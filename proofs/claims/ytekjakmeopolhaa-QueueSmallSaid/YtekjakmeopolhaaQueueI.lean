/-
  Layer 24 (queue): members.
-/
import Derived.Test.YtekjakmeopolhaaQueueG
import Derived.Stop.RegionWithIn
namespace Go.Proofs.Ytekjakmeopolhaa
open Go.RowKit Go.Maps Go.IntWalk Go.Lib Go.Sort Go.Shelf
set_option linter.unusedVariables false
set_option linter.unusedSimpArgs false
attribute [local go_sem] Oper.semAt_some
def encM (m : Int × Ent) : Value := .agg #[.int .i64 m.1, .int .u64 m.2.1, .int .u32 m.2.2.1, .int .u32 m.2.2.2]
theorem grow_below {A B : World} (h : Below A.heap.size A B) : A.grownBy B none := ⟨h.os, h.tape, h.output, h.size, fun k hk _ => h.block k hk⟩
theorem mems_succ {L : Mems} {k : Nat} (hk : k < L.length) : L.take (k + 1) = L.take k ++ [L[k]!] := by
  rw [List.take_succ_eq_append_getElem hk, getElem!_pos L k hk]
/-- what a round keeps: what lay below, the block Bq, and blocks whose third cell is an integer -/
def KpI (n₀ Bq : Nat) (A B : World) : Prop := Below n₀ A B ∧ (∀ k i, A.cell? ⟨k, 2, none⟩ = some (.int .i64 i) → B.heap[k]? = A.heap[k]?) ∧ (Bq < A.heap.size → B.heap[Bq]? = A.heap[Bq]?)
theorem KpI.t {n₀ Bq : Nat} {A B C : World} (h : KpI n₀ Bq A B) (k : KpI n₀ Bq B C) : KpI n₀ Bq A C :=
  ⟨h.1.trans k.1, fun b i hc => by
    have e := h.2.1 b i hc
    rw [k.2.1 b i ((World.cell?_of_block (w := A) (w' := B) (a := ⟨b, 2, none⟩) e).trans hc), e], fun hl => (k.2.2 (Nat.lt_of_lt_of_le hl h.1.size)).trans (h.2.2 hl)⟩
theorem KpI.of {n₀ Bq : Nat} {A B : World} (h : Below A.heap.size A B) (hn : n₀ ≤ A.heap.size) : KpI n₀ Bq A B := ⟨h.mono hn, fun k i hc => h.block k (lt_of_cell hc), fun hl => h.block _ hl⟩
theorem below_keptL {n₀ : Nat} {A B : World} (h : Below n₀ A B) : Kept ((List.range A.heap.size).filter fun k => decide (n₀ ≤ k)) A B :=
  ⟨h.os, h.tape, h.output, h.size, fun k hk hn => h.block k (by
    rcases Nat.lt_or_ge k n₀ with q | q
    · exact q
    · exact absurd (List.mem_filter.2 ⟨List.mem_range.2 hk, by simpa using q⟩) hn)⟩
theorem QRaw.belowN {w w' : World} {q p bm n₀ : Nat} {Fh : List Nat} {n : Int} {S : Items} {f : Int → Option Ent} {c : Nat} {fl ld : Int} (h : QRaw w q p bm Fh n S f c fl ld) (hb : Below n₀ w w') (hF : ∀ b ∈ q :: bm :: Fh, b < n₀) : QRaw w' q p bm Fh n S f c fl ld :=
  h.kept (below_keptL hb) (fun b hb m => by
    have h1 := hF b hb
    have h2 := (List.mem_filter.1 m).2
    simp at h2
    omega)
/-- items in a row from its block's beginning on -/
def RowZ (w : World) (v : Value) (S : Items) : Prop := ∃ a cap, v = .slice a S.length cap ∧ (S = [] ∨ ∃ g, a = some ⟨g, 0, none⟩ ∧ ∀ k, k < S.length → w.cell? ⟨g, k * 2, none⟩ = some (.int .i64 S[k]!.1) ∧ w.cell? ⟨g, k * 2 + 1, none⟩ = some (.int .u64 S[k]!.2))
theorem RowI.rowZ {w : World} {base : Nat} {v : Value} {S : Items} (h : RowI w base v S) : RowZ w v S := by
  obtain ⟨a, cap, e, h⟩ := h
  exact ⟨a, cap, e, h.imp id fun ⟨g, e, _, hc⟩ => ⟨g, e, fun k hk => (hc k hk).1⟩⟩
theorem RowZ.at {w : World} {a : Option Addr} {n c : Nat} {S : Items} (h : RowZ w (.slice a n c) S) {k : Nat} (hk : k < S.length) : ∃ g, a = some ⟨g, 0, none⟩ ∧ w.cell? ⟨g, k * 2, none⟩ = some (.int .i64 S[k]!.1) ∧ w.cell? ⟨g, k * 2 + 1, none⟩ = some (.int .u64 S[k]!.2) := by
  obtain ⟨a', c', e, h⟩ := h
  cases e
  obtain ⟨g, e, hc⟩ := h.resolve_left (fun q => by rw [q] at hk; simp at hk)
  exact ⟨g, e, hc k hk⟩
theorem RowZ.later {w w' : World} {v : Value} {S : Items} (h : RowZ w v S) (hb : Below w.heap.size w w') : RowZ w' v S := by
  obtain ⟨a, cap, e, h⟩ := h
  exact ⟨a, cap, e, h.imp id fun ⟨g, e, hc⟩ => ⟨g, e, fun k hk => ⟨cell_later hb (hc k hk).1, cell_later hb (hc k hk).2⟩⟩⟩
theorem RowZ.kp {n₀ Bq : Nat} {w w' : World} {v : Value} {S : Items} (h : RowZ w v S) (hk : KpI n₀ Bq w w') (h2 : 2 ≤ S.length) : RowZ w' v S := by
  obtain ⟨a, cap, e, h⟩ := h
  refine ⟨a, cap, e, h.imp id fun ⟨g, e, hc⟩ => ?_⟩
  have hb := hk.2.1 g _ (hc 1 (by omega)).1
  exact ⟨g, e, fun k hk => ⟨(World.cell?_of_block (w := w) (w' := w') (a := ⟨g, k * 2, none⟩) hb).trans (hc k hk).1, (World.cell?_of_block (w := w) (w' := w') (a := ⟨g, k * 2 + 1, none⟩) hb).trans (hc k hk).2⟩⟩
set_option maxRecDepth 100000 in
set_option maxHeartbeats 4000000 in
theorem membersF_in (n : Nat) (hn : 1 ≤ n) (l Bq n₀ q : Nat) (Fq : List Nat) (N fl : Int) (M : Mems) (hFq : ∀ b ∈ Fq, b < n₀) (J Jx : Mems → World → Prop)
    (hY : ∀ pre x W, J pre W → pre.length < M.length → YieldAt Fence.wide (n - 1) Try.prog l #[encM x] W fun e W' =>
      (e = .returned (.bool true) ∧ J (pre ++ [x]) W' ∧ KpI n₀ Bq W W') ∨ (e = .returned (.bool false) ∧ Jx (pre ++ [x]) W'))
    (W : World) (hQ : QIn W q Fq N M fl) (hc : W.cell? ⟨Bq, 0, none⟩ = some (.pointer (some ⟨q, 0, none⟩))) (hn0 : n₀ ≤ W.heap.size) (hJA : ∀ s A B, J s A → Below A.heap.size A B → J s B) (h0 : J [] W) :
    CallsIn Fence.wide n Try.prog 53 #[.func (.yield l) #[] #[], .pointer (some ⟨Bq, 0, none⟩)] W fun e W' => (∃ v, e = .returned v) ∧
      ((∃ ys, ys = M ∧ J ys W') ∨ (∃ pre, pre <+: M ∧ Jx pre W')) := by
  have hf : Fence.wide.fn 53 := trivial
  have hro : Fence.wide.round = none := rfl
  have HY := Lib.hid hY
  have HQ := Lib.hid hQ
  obtain ⟨p, bm, Fh, f, hr, rfl, hfe, hok, hf0, hf1⟩ := hQ
  have HR := Lib.hid hr
  have HFE := Lib.hid hfe
  have HFQ := Lib.hid hFq
  have HJA := Lib.hid hJA
  have HOK := Lib.hid hok
  have H0 := Lib.hid h0
  have HC := Lib.hid hc
  have c0 := hr.c0
  clear hY hr hfe hFq hJA hok hf0 hf1 h0
  refine callsIn_of_wp Try.func53 rfl hf ?_ hro
  simp only [Try.ntmps53, List.size_toArray, List.length_cons, List.length_nil, Nat.reduceAdd, Nat.reduceSub, Array.replicate_succ, Array.replicate_zero, List.push_toArray, List.append_toArray, List.nil_append, List.cons_append]
  gi_wp2
  refine ⟨trivial, callsIn_wide.2 ((All_at W HR.out.heap).mono ?_)⟩
  rintro e w2 ⟨v2, rfl, hr2, hb2⟩
  have HB2 := Lib.hid hb2
  have hZ := hr2.rowZ
  obtain ⟨a, cap, rfl, -⟩ := hr2
  obtain ⟨len, hlen⟩ : ∃ m, m = M.length := ⟨_, rfl⟩
  have HLEN := Lib.hid hlen
  have HZ := Lib.hid hZ
  rw [items_len, ← hlen] at HZ ⊢
  have hbq := cell_later hb2 hc
  have hl9 : len ≤ 131072 := by rw [hlen, ← items_len]; have := HR.out.heap.ids; omega
  clear hb2 c0 hlen hZ hc
  gi_wp2
  gi_loopw [12] (fun i wr => ∃ k : Nat, k ≤ len ∧ i = .int .i64 k ∧ J (M.take k) wr ∧ Below n₀ W wr ∧ wr.cell? ⟨Bq, 0, none⟩ = some (.pointer (some ⟨q, 0, none⟩)) ∧ (k < len → RowZ wr (.slice a len cap) (itemsM M))) (fun i _ => len - (intOf i).toNat)
  case atStart => exact ⟨0, Nat.zero_le _, rfl, HJA.out _ _ _ H0.out HB2.out, HB2.out.mono hn0, hbq, fun _ => HZ.out⟩
  case round =>
    obtain ⟨k, hk, rfl, hJs, hnx, hqc, hrz⟩ := hrel
    by_cases hlt : k < len
    · have hkI : k < (itemsM M).length := by rw [items_len, ← HLEN.out]; exact hlt
      have hkM : k < M.length := by rw [← HLEN.out]; exact hlt
      have HRZ := Lib.hid (hrz hlt)
      obtain ⟨m, hm⟩ : ∃ m, m = M[k]! := ⟨_, rfl⟩
      have hmm : m ∈ M := by rw [hm, getElem!_pos M k hkM]; exact List.getElem_mem hkM
      have hit : (itemsM M)[k]! = kM m := by
        rw [getElem!_pos _ k hkI, hm, getElem!_pos M k hkM]
        simp [itemsM]
      obtain ⟨g, rfl, i0, i1⟩ := (hrz hlt).at hkI
      rw [hit] at i0 i1
      simp only [kM] at i0 i1
      have hz0 : (0 : Int) ≤ (k : Int) := by omega
      have hz1 : (k : Int) < (len : Int) := by omega
      have HBW := Lib.hid (show Below n₀ W (wr.alloc (.cells #[.int .i64 m.1, .int .u64 m.2.1] 90)) from hnx.alloc (Nat.le_trans hn0 hnx.size) _)
      have HNX := Lib.hid hnx
      have HJS := Lib.hid (HJA.out _ _ _ hJs (Below.drew (below_a wr (.cells #[.int .i64 m.1, .int .u64 m.2.1] 90))))
      have hRr := (HR.out.belowN HBW.out HFQ.out).below (Below.refl _ _).drew
      have hwf : (Lit.int .i64 m.1).wf = true := by
        have hb := HR.out.heap.ids.2.2.1 (kM m) (List.mem_map.2 ⟨m, hmm, rfl⟩)
        have hn := HR.out.heap.ids
        have hm1 : (kM m).1 = m.1 := rfl
        rw [hm1] at hb
        simp only [Lit.wf, IntKind.min, IntKind.max, IntKind.bits, IntKind.signed]
        simp
        omega
      have hlk := (hRr.map.look elemE undE trivial zeroE hwf).2
      rw [HFE.out, (ent_some HOK.out.nod).2 hmm] at hlk
      simp only [Option.getD_some, encE] at hlk
      have c2 := hRr.c2
      have qc : (wr.alloc (.cells #[.int .i64 m.1, .int .u64 m.2.1] 90)).cell? ⟨Bq, 0, none⟩ = some (.pointer (some ⟨q, 0, none⟩)) := cell_al _ hqc
      have y0 : (wr.alloc (.cells #[.int .i64 m.1, .int .u64 m.2.1] 90)).cell? ⟨wr.heap.size, 0, none⟩ = some (.int .i64 m.1) := cell_nw wr _ _ 0 _ rfl
      obtain ⟨fn, tmps, assign, body, hy, hR⟩ := HY.out _ m _ HJS.out (by rw [List.length_take]; omega)
      dsimp only [encM] at hy
      have HM := Lib.hid hm
      have HRY := Lib.hid (hR.mono (R' := fun e W' => ∃ bb, e = .returned (.bool bb) ∧ ((bb = true ∧ J (M.take k ++ [m]) W' ∧ KpI n₀ Bq (wr.alloc (.cells #[.int .i64 m.1, .int .u64 m.2.1] 90)).drew W') ∨ (bb = false ∧ Jx (M.take k ++ [m]) W')))
        (fun e W' h => by
          rcases h with ⟨rfl, h1, h2⟩ | ⟨rfl, h1⟩
          · exact ⟨true, rfl, Or.inl ⟨rfl, h1, h2⟩⟩
          · exact ⟨false, rfl, Or.inr ⟨rfl, h1⟩⟩))
      have HKM := Lib.hid hkM
      have HWA := Lib.hid (below_a wr (.cells #[.int .i64 m.1, .int .u64 m.2.1] 90))
      clear hJs hnx hrz hRr hwf hR hm hmm hit hkM
      gi_wp2
      generalize wr.alloc (.cells #[.int .i64 m.1, .int .u64 m.2.1] 90) = wa at *
      have HKA := Lib.hid (show Below wr.heap.size wr wa.drew from HWA.out.drew)
      have HLN := Lib.hid hkI
      gi_region_with (refine HRY.out.mono ?_; rintro e W3 ⟨bb, rfl, h3⟩)
      all_goals
        simp only [Act.put, List.getElem_toArray, List.getElem_cons_succ, List.getElem_cons_zero, List.setIfInBounds_toArray, List.set_cons_zero, List.set_cons_succ, Bool.not_true, Bool.not_false]
        rcases h3 with ⟨rfl, h1, h2⟩ | ⟨rfl, h1⟩
        · gi_wp2
          go_roundw
          case rel => exact ⟨k + 1, by omega, by go_num, by rw [mems_succ HKM.out, ← HM.out]; exact h1, HBW.out.trans ((Below.refl n₀ wa).drew.trans h2.1), (World.cell?_of_block (w := wa.drew) (w' := W3) (a := ⟨Bq, 0, none⟩) (h2.2.2 (lt_of_cell (cell_dr qc)))).trans (cell_dr qc), fun hk1 => (HRZ.out.later HKA.out).kp h2 (by rw [items_len, ← HLEN.out]; omega)⟩
          case measure => simp [intOf]; omega
        · gi_wp2
          refine bodyPost_ret (results_none rfl _ _ _) rfl ?_
          exact ⟨⟨_, rfl⟩, .inr ⟨_, by rw [HM.out, ← mems_succ HKM.out]; exact List.take_prefix _ _, h1⟩⟩
    · obtain rfl : k = len := by omega
      gi_wp2
      go_end0
      exact ⟨⟨_, rfl⟩, .inl ⟨_, by rw [HLEN.out, List.take_length], hJs⟩⟩
end Go.Proofs.Ytekjakmeopolhaa
