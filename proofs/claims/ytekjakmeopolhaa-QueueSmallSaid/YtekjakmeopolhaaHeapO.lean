/-
  Layer 18 (heap): slices.SortFunc at items; SortedFunc; All.
-/
import Derived.Test.YtekjakmeopolhaaHeapA
import Derived.Test.YtekjakmeopolhaaKitS
namespace Go.Proofs.Ytekjakmeopolhaa
open Go.RowKit Go.Maps Go.IntWalk Go.Lib Go.Sort Go.Shelf
set_option linter.unusedVariables false
def encR2 (x : Int × Int) : List Value := [.int .i64 x.1, .int .u64 x.2]
theorem isAggItem (w : World) : (isAgg 90).run Try.prog w = .ok true w := by kernel_rfl
theorem sizeOfItem (w : World) : (Go.sizeOf 90).run Try.prog w = .ok 2 w := by kernel_rfl
theorem orV_lt (a b : Int) : orV a b < 0 ↔ a < 0 ∨ a = 0 ∧ b < 0 := by unfold orV; split <;> omega
theorem ordV_lt (x y : Int × Int) : ltOf ordV x y = decide (ltI x y) := by
  unfold ltOf
  rw [decide_eq_decide]
  exact ordV_neg
theorem ordV_swo : SWO (ltOf ordV) where
  irrefl x := by rw [ordV_lt]; simpa using ltI_irrefl x
  trans x y z h1 h2 := by
    rw [ordV_lt] at *
    simp only [decide_eq_true_eq] at *
    exact ltI_trans h1 h2
  ntrans x y z h1 h2 := by
    rw [ordV_lt] at *
    simp only [decide_eq_false_iff_not] at *
    unfold ltI at *
    omega
theorem flat_at {L : Items} {j : Nat} (hj : j < L.length * 2) : (flatI L)[j]? = some (encR2 L[j / 2]!)[j % 2]! := by
  obtain ⟨h0, h1⟩ := flatI_at (at_get (L := L) (i := j / 2) (by omega))
  rcases Nat.mod_two_eq_zero_or_one j with e | e
  · rw [e]; rw [show j / 2 * 2 = j by omega] at h0; exact h0
  · rw [e]; rw [show j / 2 * 2 + 1 = j by omega] at h1; exact h1
theorem own_holds2 {w : World} {base g cap : Nat} {L : Items} (h : w.ownsRow base 90 2 (.slice (some ⟨g, 0, none⟩) L.length cap) L.length (flatI L)) : HoldsK encR2 2 w g 0 L.toArray := by
  intro j hj
  simp only [size_flatK, List.size_toArray] at hj
  rw [Nat.zero_add]
  refine ⟨?_, h.frozenAt j⟩
  rw [h.cellAt j hj, flat_at hj, get_flatK _ _ _ _ (by simp only [List.size_toArray]; omega)]
  have : L.toArray[j / 2]! = L[j / 2]! := by
    rw [getElem!_pos L.toArray _ (by simp; omega), getElem!_pos L _ (by omega)]
    simp
  rw [this]
  rfl
/-- what a call hands back: items in a new row -/
def RowI (w : World) (base : Nat) (v : Value) (S : Items) : Prop := ∃ a cap, v = .slice a S.length cap ∧ (S = [] ∨ ∃ g, a = some ⟨g, 0, none⟩ ∧ base ≤ g ∧ ∀ k, k < S.length → (w.cell? ⟨g, k * 2, none⟩ = some (.int .i64 S[k]!.1) ∧ w.cell? ⟨g, k * 2 + 1, none⟩ = some (.int .u64 S[k]!.2)) ∧ w.frozen? ⟨g, k * 2, none⟩ = false ∧ w.frozen? ⟨g, k * 2 + 1, none⟩ = false)
theorem holds_row {w : World} {g cap base : Nat} {S : Items} (h : HoldsK encR2 2 w g 0 S.toArray) (hb : base ≤ g) : RowI w base (.slice (some ⟨g, 0, none⟩) S.length cap) S := by
  refine ⟨_, cap, rfl, Or.inr ⟨g, rfl, hb, fun k hk => ?_⟩⟩
  have hd : S.toArray[k]! = S[k]! := by
    rw [getElem!_pos S.toArray k (by simpa using hk), getElem!_pos S k hk]
    simp
  have key : ∀ j, j < 2 → w.cell? ⟨g, k * 2 + j, none⟩ = some (encR2 S[k]!)[j]! ∧ w.frozen? ⟨g, k * 2 + j, none⟩ = false := by
    intro j hj
    have h1 := h (k * 2 + j) (by simp only [size_flatK, List.size_toArray]; omega)
    rw [Nat.zero_add] at h1
    refine ⟨?_, h1.2⟩
    rw [h1.1, get_flatK _ _ _ _ (by simp only [List.size_toArray]; omega), show (k * 2 + j) / 2 = k by omega, show (k * 2 + j) % 2 = j by omega, hd]
    rfl
  exact ⟨⟨(key 0 (by omega)).1, (key 1 (by omega)).1⟩, (key 0 (by omega)).2, (key 1 (by omega)).2⟩
theorem RowI.later {w w' : World} {base : Nat} {v : Value} {S : Items} (h : RowI w base v S) (hb : Below w.heap.size w w') : RowI w' base v S := by
  obtain ⟨a, cap, rfl, h⟩ := h
  refine ⟨a, cap, rfl, ?_⟩
  rcases h with h | ⟨g, rfl, hg, hc⟩
  · exact Or.inl h
  · refine Or.inr ⟨g, rfl, hg, fun k hk => ?_⟩
    obtain ⟨⟨q1, q2⟩, q3, q4⟩ := hc k hk
    exact ⟨⟨cell_later hb q1, cell_later hb q2⟩, (hb.frozen (p := ⟨g, k * 2, none⟩) (lt_of_cell q1)).trans q3, (hb.frozen (p := ⟨g, k * 2 + 1, none⟩) (lt_of_cell q2)).trans q4⟩
def SortP (g cap : Nat) (S : Items) (w : World) (e : Ending) (w' : World) : Prop :=
  e = .returned (.tuple #[]) ∧ RowI w' g (.slice (some ⟨g, 0, none⟩) S.length cap) S ∧ Kept [g] w w'
theorem sorted_order {d : Items} (hs : d.Pairwise fun x y => ltOf ordV y x = false) (hn : d.Nodup) : InOrder d := by
  have h := List.Pairwise.and hs hn
  refine h.imp fun ⟨h1, h2⟩ => ?_
  rw [ordV_lt] at h1
  simp only [decide_eq_false_iff_not] at h1
  exact ltI_total' (Ne.symm h2) h1
theorem Sort_any (g cap base : Nat) (L S : Items) (w : World) (h : w.ownsRow base 90 2 (.slice (some ⟨g, 0, none⟩) L.length cap) L.length (flatI L)) (hp : S.Perm L) (ho : InOrder S) (hl : L.length < 4611686018427387904) :
    Calls Try.prog 75 #[.slice (some ⟨g, 0, none⟩) L.length cap, .func (.func 69) #[] #[]] w (SortP g cap S w) := by
  have eg : ∀ args w, (callFunc 69 args).run Try.prog w = .ok (.enter 69 args) w := enters_of Try.func69 (by kernel_rfl) rfl
  have hg : g < w.heap.size := (h.lt g rfl).2
  have hH := own_holds2 h
  have hcon := AnyQ.slices_SortFunc Ytekjakmeopolhaa.sortRun 2 isAggItem sizeOfItem encR2 (fun _ => rfl) (fun x v hv => by simp [encR2] at hv; rcases hv with rfl | rfl <;> rfl) ordV ordV_swo 69 #[] g 0 cap L.toArray w eg
    (fun m os dk hs x y => order_any x.1 x.2 y.1 y.2 _) hH hg (by simpa using hl)
  change Calls Try.prog 75 _ _ _ at hcon
  refine hcon.mono ?_
  rintro e w' ⟨rfl, d', n, os, hp', hs, rfl⟩
  have hpd : d'.toList.Perm L := by have := perm_of _ _ hp'; simpa using this
  have hS : d'.toList = S := by
    refine order_unique (sorted_order (sorted_of _ _ _ hp'.1.symm hs) ?_) ho (hpd.trans hp.symm)
    exact (hpd.trans hp.symm).nodup_iff.2 (order_apart ho)
  have hH' := holdsK_sortWorldK encR2 2 w g 0 n L.toArray d' os hg hH hp'.1
  refine ⟨rfl, ?_, sortWorldK_kept _ _ _ _ _ _ _ _⟩
  have e : d' = S.toArray := by rw [← hS]
  rw [e] at hH' ⊢
  exact holds_row hH' (Nat.le_refl _)
def AllP (w : World) (S : Items) (e : Ending) (w' : World) : Prop := ∃ v, e = .returned v ∧ RowI w' w.heap.size v S ∧ Below w.heap.size w w'
set_option maxHeartbeats 1000000 in
theorem Collect_at (Bs : Nat) (sv : Value) (L : Items) (hlen : L.length ≤ 1000000) (w : World) (hc : w.cell? ⟨Bs, 0, none⟩ = some sv) (hI : ItemsAt w sv L) (hlt : ∀ b off cap, sv = .slice (some ⟨b, off, none⟩) L.length cap → b < w.heap.size) :
    Calls Try.prog 74 #[.func (.func 76) #[] #[.pointer (some ⟨Bs, 0, none⟩)]] w (ColP w L) := by
  have A1 := Lib.hid (AppendSeq_at Bs sv L hlen w hc hI hlt)
  clear hc hI hlt
  go_enter Try.func74, Try.ntmps74
  go_wp2_with fail
  refine A1.out.mono ?_
  rintro e w5 ⟨v, rfl, ho, hb⟩
  have HO := Lib.hid ho
  have HB := Lib.hid hb
  clear ho hb
  go_wp2_with fail
  go_ret
  exact ⟨v, rfl, HO.out, HB.out⟩
set_option maxHeartbeats 1000000 in
theorem SortedFunc_at (Bs : Nat) (sv : Value) (L S : Items) (h0 : 0 < L.length) (hlen : L.length ≤ 1000000) (w : World) (hc : w.cell? ⟨Bs, 0, none⟩ = some sv) (hI : ItemsAt w sv L) (hlt : ∀ b off cap, sv = .slice (some ⟨b, off, none⟩) L.length cap → b < w.heap.size) (hp : S.Perm L) (ho : InOrder S) :
    Calls Try.prog 67 #[.func (.func 76) #[] #[.pointer (some ⟨Bs, 0, none⟩)], .func (.func 69) #[] #[]] w (AllP w S) := by
  have A1 := Lib.hid (Collect_at Bs sv L hlen w hc hI hlt)
  have HP := Lib.hid hp
  have HO := Lib.hid ho
  clear hc hI hlt hp ho
  go_enter Try.func67, Try.ntmps67
  go_wp2_with fail
  refine A1.out.mono ?_
  rintro e w5 ⟨v, rfl, hown, hb⟩
  obtain ⟨m, hm⟩ : ∃ m, L.length = m + 1 := ⟨L.length - 1, by omega⟩
  have hown' := hown
  rw [hm] at hown'
  obtain ⟨g, cap, rfl⟩ := own_some hown'
  rw [← hm] at hown ⊢
  have hgl := hown.lt g rfl
  have A2 := Lib.hid (Sort_any g cap _ L S w5 hown HP.out HO.out (by omega))
  have HB := Lib.hid hb
  have HGL := Lib.hid hgl
  have HM := Lib.hid hm
  clear hown hown' hb hgl hm
  go_wp2_with fail
  refine A2.out.mono ?_
  rintro e w7 ⟨rfl, hr, hk⟩
  have HR := Lib.hid hr
  have HK := Lib.hid hk
  clear hr hk
  go_wp2_with fail
  go_ret
  refine ⟨_, rfl, ?_, Kept.stepB HB.out (Nat.le_refl _) HK.out (by simp; exact HGL.out.1)⟩
  obtain ⟨a, c, e, h⟩ := HR.out
  rw [HP.out.length_eq] at e
  refine ⟨a, c, by rw [HP.out.length_eq]; exact e, ?_⟩
  rcases h with h | ⟨g', ea, hg', hc⟩
  · exact Or.inl h
  · exact Or.inr ⟨g', ea, Nat.le_trans HGL.out.1 hg', hc⟩
set_option maxRecDepth 100000 in
set_option maxHeartbeats 1000000 in
theorem All_at {p : Nat} {F : List Nat} {n : Int} {S : Items} (w : World) (h : HeapIn w p F n S) :
    Calls Try.prog 54 #[.pointer (some ⟨p, 0, none⟩)] w (AllP w S) := by
  have A1 := Lib.hid (LenH_at w h)
  have hI := h.ids
  by_cases h0 : S.length = 0
  · have hz : ((S.length : Int) == 0) = true := by simp [h0]
    have hS := Lib.hid (List.eq_nil_of_length_eq_zero h0)
    clear h hI h0
    go_enter Try.func54, Try.ntmps54
    go_wp2_with fail
    refine A1.out.mono ?_; rintro e w5 ⟨rfl, rfl⟩
    go_wp2_with fail
    go_ret
    exact ⟨_, rfl, ⟨none, 0, by rw [hS.out]; rfl, Or.inl hS.out⟩, Below.refl _ _⟩
  · have hz : ((S.length : Int) == 0) = false := by simp; intro e; rw [e] at h0; exact h0 rfl
    obtain ⟨a, cap, bm, V, f, hg, rfl, hp, ho⟩ := h
    have hl := hp.length_eq
    obtain ⟨g, rfl⟩ := hg.raw.row (by omega)
    have c0 := hg.raw.c0
    unfold rowV at c0
    simp only [Option.map_some] at c0
    have hgl := hg.raw.glt rfl
    have hit : ItemsAt w (.slice (some ⟨g, 0, none⟩) V.length cap) V := ⟨_, cap, rfl, Or.inr ⟨g, 0, rfl, fun k hk => by simpa using hg.raw.item hk⟩⟩
    have A2 := Lib.hid (values_at (some ⟨g, 0, none⟩) V.length cap w)
    have hB1 : Below w.heap.size w (w.alloc (.cells #[.slice (some ⟨g, 0, none⟩) V.length cap] 109)) := below_a _ _
    have A3 := Lib.hid (SortedFunc_at w.heap.size (.slice (some ⟨g, 0, none⟩) V.length cap) V S (by omega) (by have := hI.2.2.2.2.1; have := hI.2.2.2.2.2; omega) (w.alloc (.cells #[.slice (some ⟨g, 0, none⟩) V.length cap] 109))
      (cell_nw _ _ _ 0 _ rfl) (hit.below hB1 (fun b off cap e => by cases e; exact hgl)) (fun b off cap e => by cases e; simp; omega) hp ho)
    clear hg hp ho hI hl hgl hit h0 hB1
    go_enter Try.func54, Try.ntmps54
    go_wp2_with fail
    refine A1.out.mono ?_; rintro e w5 ⟨rfl, rfl⟩
    go_wp2_with fail
    refine A2.out.mono ?_; rintro e w5 ⟨rfl, rfl⟩
    go_wp2_with fail
    refine A3.out.mono ?_
    rintro e w7 ⟨v, rfl, hr, hb⟩
    have HR := Lib.hid hr
    have HB := Lib.hid hb
    clear hr hb
    go_wp2_with fail
    go_ret
    refine ⟨v, rfl, ?_, Below.step (below_a _ _) HB.out⟩
    obtain ⟨a, c, e, h⟩ := HR.out
    refine ⟨a, c, e, ?_⟩
    rcases h with h | ⟨g', ea, hg', hc⟩
    · exact Or.inl h
    · exact Or.inr ⟨g', ea, Nat.le_trans (by simp) hg', hc⟩
end Go.Proofs.Ytekjakmeopolhaa
