/-
  Layer 18 (heap): Below.
-/
import Derived.Test.YtpbaegdmjmickaaHeapG
import Derived.Test.YtpbaegdmjmickaaHeapNs
import Derived.Laws.EntriesVeiled
namespace Go.Proofs.Ytpbaegdmjmickaa
open Go.RowKit Go.Maps Go.IntWalk Go.Lib Go.Sort
set_option linter.unusedVariables false
set_option maxRecDepth 100000 in
set_option maxHeartbeats 1000000 in
theorem Below_at {p : Nat} {F : List Nat} {n : Int} {S : Items} (x : Int × Int) (w : World) (h : HeapIn w p F n S) :
    Calls Try.prog 12 #[.pointer (some ⟨p, 0, none⟩), .agg #[.int .i64 x.1, .int .u64 x.2]] w (AllP w (belowL S x)) := by
  obtain ⟨a, cap, bm, V, f, hg, rfl, hp, ho⟩ := h
  obtain ⟨W, hW⟩ : ∃ W, (((w.alloc (.cells #[.pointer (some ⟨p, 0, none⟩)] 24)).alloc (.cells #[.int .i64 x.1, .int .u64 x.2] 28)).alloc (.cells #[.slice none 0 0] 29)).alloc
      (.cells #[.func (.func 31) #[] #[.pointer (some ⟨w.heap.size, 0, none⟩), .pointer (some ⟨w.heap.size + 1, 0, none⟩), .pointer (some ⟨w.heap.size + 1 + 1, 0, none⟩), .pointer (some ⟨w.heap.size + 1 + 1 + 1, 0, none⟩)]] 75) = W := ⟨_, rfl⟩
  have hgr : Grows w W := by rw [← hW]; exact ((((Grows.refl w).alloc _).alloc _).alloc _).alloc _
  have hsz : W.heap.size = w.heap.size + 4 := by rw [← hW]; simp
  have hr := hg.raw.below hgr.below
  have hlen : V.length ≤ 131072 := by have := hg.raw.nlen hg.apart; have := hg.raw.small; omega
  have hpl := hg.raw.plt
  have k0 : W.cell? ⟨w.heap.size, 0, none⟩ = some (.pointer (some ⟨p, 0, none⟩)) := by
    rw [← hW]; exact cell_al _ (cell_al _ (cell_al _ (cell_nw w _ _ 0 _ rfl)))
  have k1 : W.cell? ⟨w.heap.size + 1, 0, none⟩ = some (.int .i64 x.1) := by
    rw [← hW]
    have e : (w.alloc (.cells #[.pointer (some ⟨p, 0, none⟩)] 24)).heap.size = w.heap.size + 1 := by simp
    rw [← e]; exact cell_al _ (cell_al _ (cell_nw _ _ _ 0 _ rfl))
  have k1' : W.cell? ⟨w.heap.size + 1, 1, none⟩ = some (.int .u64 x.2) := by
    rw [← hW]
    have e : (w.alloc (.cells #[.pointer (some ⟨p, 0, none⟩)] 24)).heap.size = w.heap.size + 1 := by simp
    rw [← e]; exact cell_al _ (cell_al _ (cell_nw _ _ _ 1 _ rfl))
  have k2 : W.cell? ⟨w.heap.size + 1 + 1, 0, none⟩ = some (.slice none 0 0) ∧ W.frozen? ⟨w.heap.size + 1 + 1, 0, none⟩ = false := by
    rw [← hW]
    have e : ((w.alloc (.cells #[.pointer (some ⟨p, 0, none⟩)] 24)).alloc (.cells #[.int .i64 x.1, .int .u64 x.2] 28)).heap.size = w.heap.size + 1 + 1 := by simp
    rw [← e]
    refine ⟨cell_al _ (cell_nw _ _ _ 0 _ rfl), ?_⟩
    refine ((below_a _ _).frozen (p := ⟨_, 0, none⟩) (by simp)).trans ?_
    rw [World.frozen?_alloc_new]
  have k3 : W.cell? ⟨w.heap.size + 1 + 1 + 1, 0, none⟩ = some (.func (.func 31) #[] #[.pointer (some ⟨w.heap.size, 0, none⟩), .pointer (some ⟨w.heap.size + 1, 0, none⟩), .pointer (some ⟨w.heap.size + 1 + 1, 0, none⟩), .pointer (some ⟨w.heap.size + 1 + 1 + 1, 0, none⟩)]) := by
    rw [← hW]
    have e : (((w.alloc (.cells #[.pointer (some ⟨p, 0, none⟩)] 24)).alloc (.cells #[.int .i64 x.1, .int .u64 x.2] 28)).alloc (.cells #[.slice none 0 0] 29)).heap.size = w.heap.size + 1 + 1 + 1 := by simp
    rw [← e]; exact cell_nw _ _ _ 0 _ rfl
  obtain ⟨g, hgg⟩ : ∃ g, (0 < V.length → a.map (fun g => (⟨g, 0, none⟩ : Addr)) = some ⟨g, 0, none⟩) ∧ g < w.heap.size ∧ (∀ k, k < V.length → W.cell? ⟨g, k * 2, none⟩ = some (.int .i64 V[k]!.1) ∧ W.cell? ⟨g, k * 2 + 1, none⟩ = some (.int .u64 V[k]!.2)) := by
    by_cases h0 : 0 < V.length
    · obtain ⟨g, rfl⟩ := hg.raw.row h0
      exact ⟨g, fun _ => rfl, hg.raw.glt rfl, fun k hk => hr.item hk⟩
    · exact ⟨p, fun h => absurd h h0, hpl, fun k hk => by omega⟩
  have hF := Lib.hid (show GFix W (a.map fun g => ⟨g, 0, none⟩) p g cap w.heap.size (w.heap.size + 1) (w.heap.size + 1 + 1) (w.heap.size + 1 + 1 + 1) (w.heap.size + 4) V x from
    ⟨k0, hr.c0, hgg.1, hgg.2.2, k1, k1', k3, by omega, by omega, hlen⟩)
  have hS0 : GS W (w.heap.size + 4) (w.heap.size + 1 + 1) W [] := ⟨rfl, rfl, rfl, Nat.le_refl _, fun _ _ _ => rfl, _, k2.1, k2.2, World.ownsRow_nil _ _ _ _, fun _ => rfl⟩
  have hgl : (gatherL V x V.length 0).length ≤ 1000000 := by
    rw [(gather_perm hg.heaped x).length_eq]
    have : (belowL V x).length ≤ V.length := List.length_filter_le _ _
    omega
  have hA1 := gather_at hF V.length 0 [] W (by omega) (by omega) (by simpa using hgl) hS0
  rw [show ((0 : Nat) : Int) = 0 from rfl] at hA1
  have A1 := Lib.hid hA1
  have HPM := Lib.hid (show (belowL S x).Perm (gatherL V x V.length 0) from (below_perm hp x).trans (gather_perm hg.heaped x).symm)
  have HO := Lib.hid (below_order ho x)
  have HW := Lib.hid hW
  have HGR := Lib.hid hgr
  have HSZ := Lib.hid hsz
  have HGL := Lib.hid hgl
  clear hg hp ho hr hgr hsz hlen hpl k0 k1 k1' k2 k3 hgg hS0 hgl hA1 hW
  go_enter Try.func12, Try.ntmps12
  go_wp2_with fail
  rw [HW.out]
  refine A1.out.mono ?_
  rintro e w5 ⟨rfl, hG⟩
  obtain ⟨v, cv, fv, ov, nv⟩ := hG.box
  rw [List.nil_append] at ov
  have HG := Lib.hid hG
  have hbw : Below w.heap.size w w5 := by
    have hz := HSZ.out
    refine ⟨hG.os.trans HGR.out.below.os, hG.tape.trans HGR.out.below.tape, hG.output.trans HGR.out.below.output, by have := hG.size; omega, fun k hk => (hG.block k (by omega) (by omega)).trans (HGR.out.below.block k hk)⟩
  have HB := Lib.hid hbw
  by_cases h0 : (gatherL V x V.length 0).length = 0
  · have hnil := List.eq_nil_of_length_eq_zero h0
    have hv := nv (by rw [List.nil_append]; exact hnil)
    subst hv
    have hS : belowL S x = [] := by have := HPM.out.length_eq; rw [h0] at this; exact List.eq_nil_of_length_eq_zero this
    have HS := Lib.hid hS
    have A2 := Lib.hid (SortFunc_nil w5)
    clear hG ov nv fv hnil hS h0 hbw
    go_wp2_with fail
    refine A2.out.mono ?_
    rintro e w7 ⟨rfl, hb⟩
    have cv7 := cell_later hb cv
    have HB7 := Lib.hid (Below.step HB.out hb)
    clear hb
    go_wp2_with fail
    go_ret
    exact ⟨_, rfl, ⟨none, 0, by rw [HS.out]; rfl, Or.inl HS.out⟩, HB7.out⟩
  · obtain ⟨m, hm⟩ : ∃ m, (gatherL V x V.length 0).length = m + 1 := ⟨(gatherL V x V.length 0).length - 1, by omega⟩
    have ov' := ov
    rw [hm] at ov'
    obtain ⟨g', cap', rfl⟩ := own_some ov'
    rw [← hm] at ov cv
    have hgl := ov.lt g' rfl
    have A2 := Lib.hid (Sort_any g' cap' _ _ (belowL S x) w5 ov HPM.out HO.out (by have := HGL.out; omega))
    have HOV := Lib.hid ov
    have HGLL := Lib.hid hgl
    have hne : w.heap.size + 1 + 1 ≠ g' := by omega
    clear hG ov ov' nv fv h0 hm hbw hgl
    go_wp2_with fail
    refine A2.out.mono ?_
    rintro e w7 ⟨rfl, hr, hk⟩
    have cv7 := hk.cellAt cv (by simpa using hne)
    have HR := Lib.hid hr
    have HK := Lib.hid hk
    clear hr hk
    go_wp2_with fail
    go_ret
    have hz := HGLL.out.1
    refine ⟨_, rfl, ?_, Kept.stepB HB.out (Nat.le_refl _) HK.out (by simp; omega)⟩
    obtain ⟨a, c, e, h⟩ := HR.out
    rw [HPM.out.length_eq] at e
    refine ⟨a, c, by rw [HPM.out.length_eq]; exact e, ?_⟩
    rcases h with h | ⟨g2, ea, hg', hc⟩
    · exact Or.inl h
    · exact Or.inr ⟨g2, ea, by omega, hc⟩
end Go.Proofs.Ytpbaegdmjmickaa
