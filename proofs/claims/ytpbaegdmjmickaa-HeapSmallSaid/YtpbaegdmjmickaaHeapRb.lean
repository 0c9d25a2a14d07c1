/-
  Layer 18 (heap), the reference: with.
-/
import Derived.Test.YtpbaegdmjmickaaHeapRa
import Derived.Test.YtpbaegdmjmickaaKitU
namespace Go.Proofs.Ytpbaegdmjmickaa
open Go.RowKit Go.Maps Go.IntWalk Go.Lib
set_option linter.unusedVariables false
set_option linter.unusedSimpArgs false
/-- where an item belongs -/
def cutI (S : Items) (x : Int × Int) : Nat := (S.takeWhile fun y => befB y x).length
theorem putL_cut (S : Items) (x : Int × Int) : putL S x = S.take (cutI S x) ++ x :: S.drop (cutI S x) := by
  induction S with
  | nil => rfl
  | cons y r ih =>
    unfold putL cutI
    by_cases h : ltI y x
    · have hb : befB y x = true := decide_eq_true h
      rw [if_pos h, List.takeWhile_cons, if_pos hb, ih]; rfl
    · have hb : befB y x = false := bef_no h
      rw [if_neg h, List.takeWhile_cons, if_neg (by rw [hb]; simp)]; rfl
theorem cutI_le (S : Items) (x : Int × Int) : cutI S x ≤ S.length := (List.takeWhile_sublist _).length_le
theorem cutI_bef {S : Items} {x : Int × Int} : ∀ {k : Nat}, k < S.length → (k < cutI S x → befB S[k]! x = true) ∧ (k = cutI S x → befB S[k]! x = false) := by
  induction S with
  | nil => intro k hk; simp at hk
  | cons y r ih =>
    intro k hk
    unfold cutI
    rw [List.takeWhile_cons]
    cases hb : befB y x with
    | true =>
      rw [if_pos rfl, List.length_cons]
      cases k with
      | zero => exact ⟨fun _ => by simpa using hb, fun h => by omega⟩
      | succ k =>
        have := ih (k := k) (by simpa using hk)
        have e : (y :: r)[k + 1]! = r[k]! := by simp
        rw [e]
        exact ⟨fun h => this.1 (by unfold cutI; omega), fun h => this.2 (by unfold cutI; omega)⟩
    | false =>
      rw [if_neg (by simp)]
      refine ⟨fun h => by simp at h, fun h => ?_⟩
      simp only [List.length_nil] at h
      subst h
      simpa using hb
/-- what with leaves -/
def WithP (w : World) (S : Items) (x : Int × Int) (e : Ending) (w' : World) : Prop := ∃ a cap, e = .returned (.slice a (putL S x).length cap) ∧ (∀ F : List Nat, (∀ b ∈ F, b < w.heap.size) → HeldR encQ F w' (.slice a (putL S x).length cap) (putL S x)) ∧ Below w.heap.size w w'
theorem own_shapeQ {w : World} {base n size : Nat} {e : TypeId} {v : Value} {xs : List Value} (h : w.ownsRow base e size v n xs) : ∃ a cap, v = .slice a n cap := by
  rcases h.2 with ⟨rfl, h0⟩ | ⟨g, cap, cur, rfl, _⟩
  · exact ⟨none, 0, by rw [h0]⟩
  · exact ⟨_, cap, rfl⟩
theorem with_done {w wN : World} {S : Items} {x : Int × Int} {v : Value} {n B : Nat} {e : TypeId} {xs : List Value} (own : wN.ownsRow B e 2 v n xs) (hn : n = (putL S x).length) (hx : xs = flatR encQ (putL S x)) (hb : Below w.heap.size w wN) (hB : w.heap.size ≤ B) : WithP w S x (.returned v) wN := by
  subst hn
  subst hx
  obtain ⟨a, cap, rfl⟩ := own_shapeQ own
  exact ⟨a, cap, rfl, fun F hF => own_heldR encQ_ok own rfl rfl (fun b q => by have := hF b q; omega), hb⟩
set_option maxRecDepth 100000 in
set_option maxHeartbeats 4000000 in
theorem rwith_any (a : Option Addr) (cap : Nat) (S : Items) (x : Int × Int) (w : World) (h : RecsAt encQ w (.slice a S.length cap) S) (hl : S.length ≤ 500000) :
    Calls Try.prog 50 #[.slice a S.length cap, .agg #[.int .i64 x.1, .int .u64 x.2]] w (WithP w S x) := by
  obtain ⟨i0, hi, hz0, hz1, hz2⟩ := info_parts infoRItem
  have hlen := h.len
  obtain ⟨M, hM⟩ : ∃ M, M = S.length := ⟨_, rfl⟩
  have HM := Lib.hid hM.symm
  have hM6 : M ≤ 500000 := by rw [hM]; exact hl
  have HCL := Lib.hid (cutI_le S x)
  rw [← hM] at hlen h ⊢
  obtain ⟨-, hcM, hc9⟩ := hlen
  have bw := below_a w (.cells #[.int .i64 x.1, .int .u64 x.2] 77)
  have RW := Lib.hid (h.later bw)
  have HBW := Lib.hid (grows_a w (.cells #[.int .i64 x.1, .int .u64 x.2] 77))
  clear h hM hl bw
  have x0 := cell_nw w #[.int .i64 x.1, .int .u64 x.2] 77 0 _ rfl
  have x1 := cell_nw w #[.int .i64 x.1, .int .u64 x.2] 77 1 _ rfl
  go_enter Try.func50, Try.ntmps50
  go_wp2_with fail
  generalize w.heap.size = bx at *
  generalize w.alloc (.cells #[.int .i64 x.1, .int .u64 x.2] 77) = W at *
  go_loopw [5] (fun i wr => ∃ k : Nat, k ≤ cutI S x ∧ i = .int .i64 k ∧ Below W.heap.size W wr) (fun i _ => cutI S x - (intOf i).toNat)
  case atStart => exact ⟨0, Nat.zero_le _, rfl, Below.refl _ _⟩
  case round =>
    obtain ⟨k, hk, rfl, hbr⟩ := hrel
    have HBR := Lib.hid hbr
    replace x0 := cell_later hbr x0
    replace x1 := cell_later hbr x1
    clear hbr
    have hcl := HCL.out
    rw [HM.out] at hcl
    have A9 := Lib.hid fun (y : Int × Int) (W : World) => rBefore_any y x W
    by_cases hlt : k < cutI S x
    · have hkM : k < M := by omega
      obtain ⟨-, b, off, rfl, i0', i1'⟩ := (recs_items (RW.out.later HBR.out)).cells (k := k) (by rw [HM.out]; exact hkM)
      have hbb := (cutI_bef (x := x) (by rw [HM.out]; exact hkM : k < S.length)).1 hlt
      obtain ⟨y, hy⟩ : ∃ y, y = S[k]! := ⟨_, rfl⟩
      rw [← hy] at i0' i1' hbb
      have hk0 : (0 : Int) ≤ (k : Int) := by omega
      have hkm : (k : Int) < (M : Int) := by omega
      have l2 : decide (k < M) = true := decide_eq_true hkM
      have HLT := Lib.hid hlt
      clear hy hlt hcl hk
      obtain ⟨wo, rfl⟩ : ∃ wo : World, wo = wr := ⟨_, rfl⟩
      go_wp2_with fail
      have hS0 : Below wo.heap.size wo wo.drew ∧ wo.drew.cell? ⟨bx, 0, none⟩ = some (.int .i64 x.1) ∧ wo.drew.cell? ⟨bx, 1, none⟩ = some (.int .u64 x.2) ∧ wo.drew.cell? ⟨b, off + k * 2, none⟩ = some (.int .i64 y.1) ∧ wo.drew.cell? ⟨b, off + k * 2 + 1, none⟩ = some (.int .u64 y.2) := ⟨Below.drew (Below.refl _ _), cell_dr x0, cell_dr x1, cell_dr i0', cell_dr i1'⟩
      refine wp_region_held_drew (S := fun w' => Below wo.heap.size wo w' ∧ w'.cell? ⟨bx, 0, none⟩ = some (.int .i64 x.1) ∧ w'.cell? ⟨bx, 1, none⟩ = some (.int .u64 x.2) ∧ w'.cell? ⟨b, off + k * 2, none⟩ = some (.int .i64 y.1) ∧ w'.cell? ⟨b, off + k * 2 + 1, none⟩ = some (.int .u64 y.2)) (by kernel_rfl) hS0 (fun hHeld => ?_)
      refine takeH (i := 0) (v := ?v0_1) rfl (by kernel_rfl) (fun _ _ _ h => h) (by rfl) ?hy0_1 (by assumption) ?rest0_1
      case hy0_1 => (intro w hSw; (try dsimp only at hSw); go_simp; try with_reducible rfl)
      try simp only [Act.put, List.setIfInBounds_toArray, List.set_cons_zero, List.set_cons_succ]
      refine takeH (i := 1) (v := ?v1_2) rfl (by kernel_rfl) (fun _ _ _ h => h) (by rfl) ?hy1_2 (by assumption) ?rest1_2
      case hy1_2 => (intro w hSw; (try dsimp only at hSw); go_simp; try with_reducible rfl)
      try simp only [Act.put, List.setIfInBounds_toArray, List.set_cons_zero, List.set_cons_succ]
      refine takeH (i := 2) (v := ?v2_3) rfl (by kernel_rfl) (fun _ _ _ h => h) (by rfl) ?hy2_3 (by assumption) ?rest2_3
      case hy2_3 => (intro w hSw; (try dsimp only at hSw); go_simp; try with_reducible rfl)
      try simp only [Act.put, List.setIfInBounds_toArray, List.set_cons_zero, List.set_cons_succ]
      refine takeH (i := 3) (v := ?v3_4) rfl (by kernel_rfl) (fun _ _ _ h => h) (by rfl) ?hy3_4 (by assumption) ?rest3_4
      case hy3_4 => (intro w hSw; (try dsimp only at hSw); go_simp; try with_reducible rfl)
      try simp only [Act.put, List.setIfInBounds_toArray, List.set_cons_zero, List.set_cons_succ]
      refine takeH (i := 4) (v := ?v4_5) rfl (by kernel_rfl) (fun _ _ _ h => h) (by rfl) ?hy4_5 (by assumption) ?rest4_5
      case hy4_5 => (intro w hSw; (try dsimp only at hSw); go_simp; try with_reducible rfl)
      try simp only [Act.put, List.setIfInBounds_toArray, List.set_cons_zero, List.set_cons_succ]
      refine takeH (i := 5) (v := ?v5_6) rfl (by kernel_rfl) (fun _ _ _ h => h) (by rfl) ?hy5_6 (by assumption) ?rest5_6
      case hy5_6 => (intro w hSw; (try dsimp only at hSw); go_simp; try with_reducible rfl)
      try simp only [Act.put, List.setIfInBounds_toArray, List.set_cons_zero, List.set_cons_succ]
      refine takeH (i := 6) (v := ?v6_7) rfl (by kernel_rfl) (fun _ _ _ h => h) (by rfl) ?hy6_7 (by assumption) ?rest6_7
      case hy6_7 => (intro w hSw; (try dsimp only at hSw); go_simp; try with_reducible rfl)
      try simp only [Act.put, List.setIfInBounds_toArray, List.set_cons_zero, List.set_cons_succ]
      refine takeH (i := 7) (v := ?v7_8) rfl (by kernel_rfl) (fun _ _ _ h => h) (by rfl) ?hy7_8 (by assumption) ?rest7_8
      case hy7_8 => (intro w hSw; (try dsimp only at hSw); go_simp; try with_reducible rfl)
      try simp only [Act.put, List.setIfInBounds_toArray, List.set_cons_zero, List.set_cons_succ]
      refine takeH (i := 8) (v := ?v8_9) rfl (by kernel_rfl) (fun _ _ _ h => h) (by rfl) ?hy8_9 (by assumption) ?rest8_9
      case hy8_9 => (intro w hSw; (try dsimp only at hSw); go_simp; try with_reducible rfl)
      try simp only [Act.put, List.setIfInBounds_toArray, List.set_cons_zero, List.set_cons_succ]
      refine takeH (i := 9) (v := ?v9_10) rfl (by kernel_rfl) (fun _ _ _ h => h) (by rfl) ?hy9_10 (by assumption) ?rest9_10
      case hy9_10 => (intro w hSw; (try dsimp only at hSw); go_simp; try with_reducible rfl)
      try simp only [Act.put, List.setIfInBounds_toArray, List.set_cons_zero, List.set_cons_succ]
      refine wpAnyH_ready (rs := [10]) (by kernel_rfl) (by simp) ?_
      refine consH rfl (fun K hK => ?_) (AllReadyH.nil)
      go_simp
      refine (A9.out y _).mono ?_
      rintro e w9 ⟨rfl, hg9⟩
      have hb9 := hg9.below
      go_wp2_with fail
      refine hK.out _ _ ?_ (fun hHeld10 => ?_)
      · (first | assumption | (refine held_4 (by assumption) ?_; assumption) | (refine held_4 (below_ad _ _) ?_; assumption) | (refine held_4 (below_a _ _) ?_; assumption))
      clear hK K
      try simp only [Act.put, List.setIfInBounds_toArray, List.set_cons_zero, List.set_cons_succ]
      refine takeH (i := 11) (v := ?v11_11) rfl (by kernel_rfl) (fun _ _ _ h => h) (by rfl) ?hy11_11 (by assumption) ?rest11_11
      case hy11_11 => (intro w hSw; (try dsimp only at hSw); go_simp; try with_reducible rfl)
      try simp only [Act.put, List.setIfInBounds_toArray, List.set_cons_zero, List.set_cons_succ]
      refine wpAnyH_done (by kernel_rfl) ?_ _
      clear hS0
      have HB9 := Lib.hid (Below.step HBR.out hHeld10.1)
      go_wp2_with fail
      go_roundw
      case rel => exact ⟨k + 1, by have := HLT.out; omega, by go_num, HB9.out⟩
      case measure => have := HLT.out; simp [intOf]; omega
    · have HC := Lib.hid (show k = cutI S x by omega)
      by_cases hkM : k < M
      · obtain ⟨-, b, off, rfl, i0', i1'⟩ := (recs_items (RW.out.later HBR.out)).cells (k := k) (by rw [HM.out]; exact hkM)
        have hbb := (cutI_bef (x := x) (by rw [HM.out]; exact hkM : k < S.length)).2 HC.out
        obtain ⟨y, hy⟩ : ∃ y, y = S[k]! := ⟨_, rfl⟩
        rw [← hy] at i0' i1' hbb
        have hk0 : (0 : Int) ≤ (k : Int) := by omega
        have hkm : (k : Int) < (M : Int) := by omega
        have l2 : decide (k < M) = true := decide_eq_true hkM
        clear hy hlt hcl hk
        obtain ⟨wp, rfl⟩ : ∃ wp : World, wp = wr := ⟨_, rfl⟩
        go_wp2_with fail
        have hS0 : Below wp.heap.size wp wp.drew ∧ wp.drew.cell? ⟨bx, 0, none⟩ = some (.int .i64 x.1) ∧ wp.drew.cell? ⟨bx, 1, none⟩ = some (.int .u64 x.2) ∧ wp.drew.cell? ⟨b, off + k * 2, none⟩ = some (.int .i64 y.1) ∧ wp.drew.cell? ⟨b, off + k * 2 + 1, none⟩ = some (.int .u64 y.2) := ⟨Below.drew (Below.refl _ _), cell_dr x0, cell_dr x1, cell_dr i0', cell_dr i1'⟩
        refine wp_region_held_drew (S := fun w' => Below wp.heap.size wp w' ∧ w'.cell? ⟨bx, 0, none⟩ = some (.int .i64 x.1) ∧ w'.cell? ⟨bx, 1, none⟩ = some (.int .u64 x.2) ∧ w'.cell? ⟨b, off + k * 2, none⟩ = some (.int .i64 y.1) ∧ w'.cell? ⟨b, off + k * 2 + 1, none⟩ = some (.int .u64 y.2)) (by kernel_rfl) hS0 (fun hHeld => ?_)
        refine takeH (i := 0) (v := ?v0_12) rfl (by kernel_rfl) (fun _ _ _ h => h) (by rfl) ?hy0_12 (by assumption) ?rest0_12
        case hy0_12 => (intro w hSw; (try dsimp only at hSw); go_simp; try with_reducible rfl)
        try simp only [Act.put, List.setIfInBounds_toArray, List.set_cons_zero, List.set_cons_succ]
        refine takeH (i := 1) (v := ?v1_13) rfl (by kernel_rfl) (fun _ _ _ h => h) (by rfl) ?hy1_13 (by assumption) ?rest1_13
        case hy1_13 => (intro w hSw; (try dsimp only at hSw); go_simp; try with_reducible rfl)
        try simp only [Act.put, List.setIfInBounds_toArray, List.set_cons_zero, List.set_cons_succ]
        refine takeH (i := 2) (v := ?v2_14) rfl (by kernel_rfl) (fun _ _ _ h => h) (by rfl) ?hy2_14 (by assumption) ?rest2_14
        case hy2_14 => (intro w hSw; (try dsimp only at hSw); go_simp; try with_reducible rfl)
        try simp only [Act.put, List.setIfInBounds_toArray, List.set_cons_zero, List.set_cons_succ]
        refine takeH (i := 3) (v := ?v3_15) rfl (by kernel_rfl) (fun _ _ _ h => h) (by rfl) ?hy3_15 (by assumption) ?rest3_15
        case hy3_15 => (intro w hSw; (try dsimp only at hSw); go_simp; try with_reducible rfl)
        try simp only [Act.put, List.setIfInBounds_toArray, List.set_cons_zero, List.set_cons_succ]
        refine takeH (i := 4) (v := ?v4_16) rfl (by kernel_rfl) (fun _ _ _ h => h) (by rfl) ?hy4_16 (by assumption) ?rest4_16
        case hy4_16 => (intro w hSw; (try dsimp only at hSw); go_simp; try with_reducible rfl)
        try simp only [Act.put, List.setIfInBounds_toArray, List.set_cons_zero, List.set_cons_succ]
        refine takeH (i := 5) (v := ?v5_17) rfl (by kernel_rfl) (fun _ _ _ h => h) (by rfl) ?hy5_17 (by assumption) ?rest5_17
        case hy5_17 => (intro w hSw; (try dsimp only at hSw); go_simp; try with_reducible rfl)
        try simp only [Act.put, List.setIfInBounds_toArray, List.set_cons_zero, List.set_cons_succ]
        refine takeH (i := 6) (v := ?v6_18) rfl (by kernel_rfl) (fun _ _ _ h => h) (by rfl) ?hy6_18 (by assumption) ?rest6_18
        case hy6_18 => (intro w hSw; (try dsimp only at hSw); go_simp; try with_reducible rfl)
        try simp only [Act.put, List.setIfInBounds_toArray, List.set_cons_zero, List.set_cons_succ]
        refine takeH (i := 7) (v := ?v7_19) rfl (by kernel_rfl) (fun _ _ _ h => h) (by rfl) ?hy7_19 (by assumption) ?rest7_19
        case hy7_19 => (intro w hSw; (try dsimp only at hSw); go_simp; try with_reducible rfl)
        try simp only [Act.put, List.setIfInBounds_toArray, List.set_cons_zero, List.set_cons_succ]
        refine takeH (i := 8) (v := ?v8_20) rfl (by kernel_rfl) (fun _ _ _ h => h) (by rfl) ?hy8_20 (by assumption) ?rest8_20
        case hy8_20 => (intro w hSw; (try dsimp only at hSw); go_simp; try with_reducible rfl)
        try simp only [Act.put, List.setIfInBounds_toArray, List.set_cons_zero, List.set_cons_succ]
        refine takeH (i := 9) (v := ?v9_21) rfl (by kernel_rfl) (fun _ _ _ h => h) (by rfl) ?hy9_21 (by assumption) ?rest9_21
        case hy9_21 => (intro w hSw; (try dsimp only at hSw); go_simp; try with_reducible rfl)
        try simp only [Act.put, List.setIfInBounds_toArray, List.set_cons_zero, List.set_cons_succ]
        refine wpAnyH_ready (rs := [10]) (by kernel_rfl) (by simp) ?_
        refine consH rfl (fun K hK => ?_) (AllReadyH.nil)
        go_simp
        refine (A9.out y _).mono ?_
        rintro e wr ⟨rfl, hg9⟩
        have hb9 := hg9.below
        go_wp2_with fail
        refine hK.out _ _ ?_ (fun hHeld10 => ?_)
        · (first | assumption | (refine held_4 (by assumption) ?_; assumption) | (refine held_4 (below_ad _ _) ?_; assumption) | (refine held_4 (below_a _ _) ?_; assumption))
        clear hK K
        try simp only [Act.put, List.setIfInBounds_toArray, List.set_cons_zero, List.set_cons_succ]
        refine takeH (i := 11) (v := ?v11_22) rfl (by kernel_rfl) (fun _ _ _ h => h) (by rfl) ?hy11_22 (by assumption) ?rest11_22
        case hy11_22 => (intro w hSw; (try dsimp only at hSw); go_simp; try with_reducible rfl)
        try simp only [Act.put, List.setIfInBounds_toArray, List.set_cons_zero, List.set_cons_succ]
        refine wpAnyH_done (by kernel_rfl) ?_ _
        clear hS0
        obtain ⟨hb9, x0, x1, -⟩ := hHeld10
        have HBR := Lib.hid (Below.step HBR.out hb9)
        clear hb9 i0' i1' hbb
        have hcut := putL_cut S x
        have RT := Lib.hid (sliced_take (m := cutI S x) encQ_ok (RW.out.later HBR.out) (by have := HCL.out; rw [HM.out] at this; exact this))
        have RD := Lib.hid (sliced_drop (m := cutI S x) encQ_ok (RW.out.later HBR.out) (by have := HCL.out; rw [HM.out] at this; exact this))
        rw [← HC.out] at RT RD hcut
        have HCUT := Lib.hid hcut
        have hlT := Lib.hid (show (S.take k).length ≤ 1000000 by have h1 := List.length_take_le' k S; rw [HM.out] at h1; omega)
        have hlD := Lib.hid (show (S.drop k).length ≤ 1000000 by rw [List.length_drop, HM.out]; omega)
        have hkMm : k ≤ M := by have := HCL.out; rw [HM.out] at this; have := HC.out; omega
        have hkC : k ≤ cap := by omega
        obtain ⟨vT, hvT⟩ : ∃ v, v = sliced (some ⟨b, off, none⟩) 0 k cap 2 := ⟨_, rfl⟩
        obtain ⟨vD, hvD⟩ : ∃ v, v = sliced (some ⟨b, off, none⟩) k M cap 2 := ⟨_, rfl⟩
        rw [← hvT] at RT
        rw [← hvD] at RD
        have HVT := Lib.hid hvT
        have HVD := Lib.hid hvD
        clear hvT hvD hcut
        go_wp2_with fail
        obtain ⟨wo, rfl⟩ : ∃ wo : World, wo = wr := ⟨_, rfl⟩
        have hS0 : Below wo.heap.size wo wo.drew ∧ wo.drew.cell? ⟨bx, 0, none⟩ = some (.int .i64 x.1) ∧ wo.drew.cell? ⟨bx, 1, none⟩ = some (.int .u64 x.2) := ⟨Below.drew (Below.refl _ _), cell_dr x0, cell_dr x1⟩
        refine wp_region_held_drew (S := fun w' => Below wo.heap.size wo w' ∧ w'.cell? ⟨bx, 0, none⟩ = some (.int .i64 x.1) ∧ w'.cell? ⟨bx, 1, none⟩ = some (.int .u64 x.2)) (by kernel_rfl) hS0 (fun hHeld => ?_)
        have hS00 : Below wo.heap.size wo wo ∧ wo.cell? ⟨bx, 0, none⟩ = some (.int .i64 x.1) ∧ wo.cell? ⟨bx, 1, none⟩ = some (.int .u64 x.2) := ⟨Below.refl _ _, x0, x1⟩
        obtain ⟨wc29, hwc29⟩ : ∃ X, X = wo.drew := ⟨_, rfl⟩
        rw [← hwc29] at hHeld ⊢
        have hWc29 : Below wo.heap.size wo wc29 := by rw [hwc29]; exact (Below.refl _ _).drew
        clear hwc29
        refine takeH (i := 1) (v := ?v1_30) rfl (by kernel_rfl) (fun _ _ _ h => h) (by rfl) ?hy1_30 (by assumption) ?rest1_30
        case hy1_30 => (intro w hSw; (try dsimp only at hSw); go_simp; try with_reducible rfl)
        try simp only [Act.put, List.setIfInBounds_toArray, List.set_cons_zero, List.set_cons_succ]
        refine takeH (i := 2) (v := ?v2_31) rfl (by kernel_rfl) (fun _ _ _ h => h) (by rfl) ?hy2_31 (by assumption) ?rest2_31
        case hy2_31 => (intro w hSw; (try dsimp only at hSw); go_simp; try with_reducible rfl)
        try simp only [Act.put, List.setIfInBounds_toArray, List.set_cons_zero, List.set_cons_succ]
        refine takeH (i := 3) (v := vT) rfl (by kernel_rfl) (fun _ _ _ h => h) (by rfl) (fun w _ => by rw [HVT.out]; exact run_take 56 (.tmp 21) (.tmp 22) rfl undRItems sizeRItem rfl rfl hkC) (by assumption) ?_
        try simp only [Act.put, List.setIfInBounds_toArray, List.set_cons_zero, List.set_cons_succ]
        refine takeH (i := 5) (v := ?v5_32) rfl (by kernel_rfl) (fun _ _ _ h => h) (by rfl) ?hy5_32 (by assumption) ?rest5_32
        case hy5_32 => (intro w hSw; (try dsimp only at hSw); go_simp; try with_reducible rfl)
        try simp only [Act.put, List.setIfInBounds_toArray, List.set_cons_zero, List.set_cons_succ]
        refine takeH (i := 8) (v := ?v8_33) rfl (by kernel_rfl) (fun _ _ _ h => h) (by rfl) ?hy8_33 (by assumption) ?rest8_33
        case hy8_33 => (intro w hSw; (try dsimp only at hSw); go_simp; try with_reducible rfl)
        try simp only [Act.put, List.setIfInBounds_toArray, List.set_cons_zero, List.set_cons_succ]
        refine takeH (i := 9) (v := ?v9_34) rfl (by kernel_rfl) (fun _ _ _ h => h) (by rfl) ?hy9_34 (by assumption) ?rest9_34
        case hy9_34 => (intro w hSw; (try dsimp only at hSw); go_simp; try with_reducible rfl)
        try simp only [Act.put, List.setIfInBounds_toArray, List.set_cons_zero, List.set_cons_succ]
        refine takeH (i := 10) (v := vD) rfl (by kernel_rfl) (fun _ _ _ h => h) (by rfl) (fun w _ => by rw [HVD.out]; exact run_drop 56 (.tmp 28) (.tmp 29) rfl undRItems sizeRItem rfl rfl hkMm) (by assumption) ?_
        try simp only [Act.put, List.setIfInBounds_toArray, List.set_cons_zero, List.set_cons_succ]
        refine wpAnyH_ready (rs := [0, 6]) (by kernel_rfl) (by simp) ?_
        refine consH rfl (fun K hK => ?_) (consH rfl (fun K hK => ?_) (AllReadyH.nil))
        · skip
          go_simp
          obtain ⟨w35, hw35⟩ : ∃ X, X = wc29.alloc (.cells #[] 77) := ⟨_, rfl⟩
          rw [← hw35]
          have hb35 : Below wc29.heap.size wc29 w35 := by rw [hw35]; exact below_a _ _
          have hW35 := Below.step hWc29 hb35
          have o0 : w35.ownsRow wo.heap.size 77 2 (.slice (some ⟨wc29.heap.size, 0, none⟩) 0 0) 0 [] := by rw [hw35]; exact World.ownsRow_lit _ #[] 0 hWc29.size (by unfold maxLen; omega) rfl
          clear hw35
          refine hK.out _ _ (held_2 hW35 hS00) (fun hHeld0 => ?_)
          clear hK K
          try simp only [Act.put, List.setIfInBounds_toArray, List.set_cons_zero, List.set_cons_succ]
          refine wpAnyH_ready (rs := [4, 6]) (by kernel_rfl) (by simp) ?_
          refine consH rfl (fun K hK => ?_) (consH rfl (fun K hK => ?_) (AllReadyH.nil))
          · skip
            refine stepF rfl (.tmp 20) (.tmp 23) 56 rfl wo.heap.size 77 i0 (.agg #[.int .i64 0, .int .u64 0]) 2 16 encQ_ok Try.underlying56 hi hz0 hz1 hz2 rfl _ rfl o0 _ _ rfl (RT.out.later hW35) (by have := hlT.out; unfold maxLen; omega) (by have := hlT.out; omega) hW35.size ?_
            intro v36 w36 o4 hb36 hp36
            have hW36 := Below.step hW35 hb36
            refine hK.out _ _ (held_2 hW36 hS00) (fun hHeld4 => ?_)
            clear hK K
            try simp only [Act.put, List.setIfInBounds_toArray, List.set_cons_zero, List.set_cons_succ]
            refine wpAnyH_ready (rs := [6]) (by kernel_rfl) (by simp) ?_
            refine consH rfl (fun K hK => ?_) (AllReadyH.nil)
            go_simp
            obtain ⟨w37, hw37⟩ : ∃ X, X = w36.alloc (.cells #[.int .i64 x.1, .int .u64 x.2] 77) := ⟨_, rfl⟩
            rw [← hw37]
            have hb37 : Below w36.heap.size w36 w37 := by rw [hw37]; exact below_a _ _
            have hW37 := Below.step hW36 hb37
            replace o4 := own_below o4 hb37
            have rx : RecsAt encQ w37 (.slice (some ⟨w36.heap.size, 0, none⟩) 1 1) [x] := by rw [hw37]; exact lit_recs encQ_ok _ [x] _ (by simp)
            clear hw37
            refine hK.out _ _ (held_2 hW37 hS00) (fun hHeld6 => ?_)
            clear hK K
            try simp only [Act.put, List.setIfInBounds_toArray, List.set_cons_zero, List.set_cons_succ]
            refine wpAnyH_ready (rs := [7]) (by kernel_rfl) (by simp) ?_
            refine consH rfl (fun K hK => ?_) (AllReadyH.nil)
            refine stepR rfl (.tmp 24) (.tmp 26) 56 rfl wo.heap.size 77 i0 (.agg #[.int .i64 0, .int .u64 0]) 2 16 encQ_ok Try.underlying56 hi hz0 hz1 hz2 rfl _ _ _ rfl o4 _ _ rfl (rx) (by have := hlT.out; simp; unfold maxLen; omega) (by have := hlT.out; simp; omega) hW37.size ?_
            intro v38 w38 o7 hg38 hp38 hn38
            have hW38 : Below wo.heap.size wo w38 := hW37.grown hg38 hW37.size (fun g hg => (o4.lt g hg).1)
            refine hK.out _ _ (held_2 hW38 hS00) (fun hHeld7 => ?_)
            clear hK K
            try simp only [Act.put, List.setIfInBounds_toArray, List.set_cons_zero, List.set_cons_succ]
            refine wpAnyH_ready (rs := [11]) (by kernel_rfl) (by simp) ?_
            refine consH rfl (fun K hK => ?_) (AllReadyH.nil)
            refine stepR rfl (.tmp 27) (.tmp 30) 56 rfl wo.heap.size 77 i0 (.agg #[.int .i64 0, .int .u64 0]) 2 16 encQ_ok Try.underlying56 hi hz0 hz1 hz2 rfl _ _ _ rfl o7 _ _ rfl (RD.out.later hW38) (by have := hlT.out; have := hlD.out; simp only [List.length_cons, List.length_nil]; unfold maxLen; omega) (by have := hlT.out; have := hlD.out; simp only [List.length_cons, List.length_nil]; omega) hW38.size ?_
            intro v39 w39 o11 hg39 hp39 hn39
            have hW39 : Below wo.heap.size wo w39 := hW38.grown hg39 hW38.size (fun g hg => (o7.lt g hg).1)
            refine hK.out _ _ (held_2 hW39 hS00) (fun hHeld11 => ?_)
            clear hK K
            try simp only [Act.put, List.setIfInBounds_toArray, List.set_cons_zero, List.set_cons_succ]
            refine takeH (i := 12) (v := ?v12_40) rfl (by kernel_rfl) (fun _ _ _ h => h) (by rfl) ?hy12_40 (by assumption) ?rest12_40
            case hy12_40 => (intro w hSw; (try dsimp only at hSw); go_simp; try with_reducible rfl)
            try simp only [Act.put, List.setIfInBounds_toArray, List.set_cons_zero, List.set_cons_succ]
            refine wpAnyH_done (by kernel_rfl) ?_ _
            go_wp2_with fail
            go_ret
            exact with_done o11 (by rw [HCUT.out]; simp; omega) (by rw [HCUT.out, show S.take k ++ x :: S.drop k = (S.take k ++ [x]) ++ S.drop k by simp, flatR_app, flatR_app]) (Below.step (Below.step HBW.out.below HBR.out) hW39) (Below.step HBW.out.below HBR.out).size
          · skip
            go_simp
            obtain ⟨w41, hw41⟩ : ∃ X, X = w35.alloc (.cells #[.int .i64 x.1, .int .u64 x.2] 77) := ⟨_, rfl⟩
            rw [← hw41]
            have hb41 : Below w35.heap.size w35 w41 := by rw [hw41]; exact below_a _ _
            have hW41 := Below.step hW35 hb41
            replace o0 := own_below o0 hb41
            have rx : RecsAt encQ w41 (.slice (some ⟨w35.heap.size, 0, none⟩) 1 1) [x] := by rw [hw41]; exact lit_recs encQ_ok _ [x] _ (by simp)
            clear hw41
            refine hK.out _ _ (held_2 hW41 hS00) (fun hHeld6 => ?_)
            clear hK K
            try simp only [Act.put, List.setIfInBounds_toArray, List.set_cons_zero, List.set_cons_succ]
            refine wpAnyH_ready (rs := [4]) (by kernel_rfl) (by simp) ?_
            refine consH rfl (fun K hK => ?_) (AllReadyH.nil)
            refine stepF rfl (.tmp 20) (.tmp 23) 56 rfl wo.heap.size 77 i0 (.agg #[.int .i64 0, .int .u64 0]) 2 16 encQ_ok Try.underlying56 hi hz0 hz1 hz2 rfl _ rfl o0 _ _ rfl (RT.out.later hW41) (by have := hlT.out; unfold maxLen; omega) (by have := hlT.out; omega) hW41.size ?_
            intro v42 w42 o4 hb42 hp42
            have hW42 := Below.step hW41 hb42
            replace rx := rx.later hb42
            refine hK.out _ _ (held_2 hW42 hS00) (fun hHeld4 => ?_)
            clear hK K
            try simp only [Act.put, List.setIfInBounds_toArray, List.set_cons_zero, List.set_cons_succ]
            refine wpAnyH_ready (rs := [7]) (by kernel_rfl) (by simp) ?_
            refine consH rfl (fun K hK => ?_) (AllReadyH.nil)
            refine stepR rfl (.tmp 24) (.tmp 26) 56 rfl wo.heap.size 77 i0 (.agg #[.int .i64 0, .int .u64 0]) 2 16 encQ_ok Try.underlying56 hi hz0 hz1 hz2 rfl _ _ _ rfl o4 _ _ rfl (rx) (by have := hlT.out; simp; unfold maxLen; omega) (by have := hlT.out; simp; omega) hW42.size ?_
            intro v43 w43 o7 hg43 hp43 hn43
            have hW43 : Below wo.heap.size wo w43 := hW42.grown hg43 hW42.size (fun g hg => (o4.lt g hg).1)
            refine hK.out _ _ (held_2 hW43 hS00) (fun hHeld7 => ?_)
            clear hK K
            try simp only [Act.put, List.setIfInBounds_toArray, List.set_cons_zero, List.set_cons_succ]
            refine wpAnyH_ready (rs := [11]) (by kernel_rfl) (by simp) ?_
            refine consH rfl (fun K hK => ?_) (AllReadyH.nil)
            refine stepR rfl (.tmp 27) (.tmp 30) 56 rfl wo.heap.size 77 i0 (.agg #[.int .i64 0, .int .u64 0]) 2 16 encQ_ok Try.underlying56 hi hz0 hz1 hz2 rfl _ _ _ rfl o7 _ _ rfl (RD.out.later hW43) (by have := hlT.out; have := hlD.out; simp only [List.length_cons, List.length_nil]; unfold maxLen; omega) (by have := hlT.out; have := hlD.out; simp only [List.length_cons, List.length_nil]; omega) hW43.size ?_
            intro v44 w44 o11 hg44 hp44 hn44
            have hW44 : Below wo.heap.size wo w44 := hW43.grown hg44 hW43.size (fun g hg => (o7.lt g hg).1)
            refine hK.out _ _ (held_2 hW44 hS00) (fun hHeld11 => ?_)
            clear hK K
            try simp only [Act.put, List.setIfInBounds_toArray, List.set_cons_zero, List.set_cons_succ]
            refine takeH (i := 12) (v := ?v12_45) rfl (by kernel_rfl) (fun _ _ _ h => h) (by rfl) ?hy12_45 (by assumption) ?rest12_45
            case hy12_45 => (intro w hSw; (try dsimp only at hSw); go_simp; try with_reducible rfl)
            try simp only [Act.put, List.setIfInBounds_toArray, List.set_cons_zero, List.set_cons_succ]
            refine wpAnyH_done (by kernel_rfl) ?_ _
            go_wp2_with fail
            go_ret
            exact with_done o11 (by rw [HCUT.out]; simp; omega) (by rw [HCUT.out, show S.take k ++ x :: S.drop k = (S.take k ++ [x]) ++ S.drop k by simp, flatR_app, flatR_app]) (Below.step (Below.step HBW.out.below HBR.out) hW44) (Below.step HBW.out.below HBR.out).size
        · skip
          go_simp
          obtain ⟨w46, hw46⟩ : ∃ X, X = wc29.alloc (.cells #[.int .i64 x.1, .int .u64 x.2] 77) := ⟨_, rfl⟩
          rw [← hw46]
          have hb46 : Below wc29.heap.size wc29 w46 := by rw [hw46]; exact below_a _ _
          have hW46 := Below.step hWc29 hb46
          have rx : RecsAt encQ w46 (.slice (some ⟨wc29.heap.size, 0, none⟩) 1 1) [x] := by rw [hw46]; exact lit_recs encQ_ok _ [x] _ (by simp)
          clear hw46
          refine hK.out _ _ (held_2 hW46 hS00) (fun hHeld6 => ?_)
          clear hK K
          try simp only [Act.put, List.setIfInBounds_toArray, List.set_cons_zero, List.set_cons_succ]
          refine wpAnyH_ready (rs := [0]) (by kernel_rfl) (by simp) ?_
          refine consH rfl (fun K hK => ?_) (AllReadyH.nil)
          go_simp
          obtain ⟨w47, hw47⟩ : ∃ X, X = w46.alloc (.cells #[] 77) := ⟨_, rfl⟩
          rw [← hw47]
          have hb47 : Below w46.heap.size w46 w47 := by rw [hw47]; exact below_a _ _
          have hW47 := Below.step hW46 hb47
          replace rx := rx.later hb47
          have o0 : w47.ownsRow wo.heap.size 77 2 (.slice (some ⟨w46.heap.size, 0, none⟩) 0 0) 0 [] := by rw [hw47]; exact World.ownsRow_lit _ #[] 0 hW46.size (by unfold maxLen; omega) rfl
          clear hw47
          refine hK.out _ _ (held_2 hW47 hS00) (fun hHeld0 => ?_)
          clear hK K
          try simp only [Act.put, List.setIfInBounds_toArray, List.set_cons_zero, List.set_cons_succ]
          refine wpAnyH_ready (rs := [4]) (by kernel_rfl) (by simp) ?_
          refine consH rfl (fun K hK => ?_) (AllReadyH.nil)
          refine stepF rfl (.tmp 20) (.tmp 23) 56 rfl wo.heap.size 77 i0 (.agg #[.int .i64 0, .int .u64 0]) 2 16 encQ_ok Try.underlying56 hi hz0 hz1 hz2 rfl _ rfl o0 _ _ rfl (RT.out.later hW47) (by have := hlT.out; unfold maxLen; omega) (by have := hlT.out; omega) hW47.size ?_
          intro v48 w48 o4 hb48 hp48
          have hW48 := Below.step hW47 hb48
          replace rx := rx.later hb48
          refine hK.out _ _ (held_2 hW48 hS00) (fun hHeld4 => ?_)
          clear hK K
          try simp only [Act.put, List.setIfInBounds_toArray, List.set_cons_zero, List.set_cons_succ]
          refine wpAnyH_ready (rs := [7]) (by kernel_rfl) (by simp) ?_
          refine consH rfl (fun K hK => ?_) (AllReadyH.nil)
          refine stepR rfl (.tmp 24) (.tmp 26) 56 rfl wo.heap.size 77 i0 (.agg #[.int .i64 0, .int .u64 0]) 2 16 encQ_ok Try.underlying56 hi hz0 hz1 hz2 rfl _ _ _ rfl o4 _ _ rfl (rx) (by have := hlT.out; simp; unfold maxLen; omega) (by have := hlT.out; simp; omega) hW48.size ?_
          intro v49 w49 o7 hg49 hp49 hn49
          have hW49 : Below wo.heap.size wo w49 := hW48.grown hg49 hW48.size (fun g hg => (o4.lt g hg).1)
          refine hK.out _ _ (held_2 hW49 hS00) (fun hHeld7 => ?_)
          clear hK K
          try simp only [Act.put, List.setIfInBounds_toArray, List.set_cons_zero, List.set_cons_succ]
          refine wpAnyH_ready (rs := [11]) (by kernel_rfl) (by simp) ?_
          refine consH rfl (fun K hK => ?_) (AllReadyH.nil)
          refine stepR rfl (.tmp 27) (.tmp 30) 56 rfl wo.heap.size 77 i0 (.agg #[.int .i64 0, .int .u64 0]) 2 16 encQ_ok Try.underlying56 hi hz0 hz1 hz2 rfl _ _ _ rfl o7 _ _ rfl (RD.out.later hW49) (by have := hlT.out; have := hlD.out; simp only [List.length_cons, List.length_nil]; unfold maxLen; omega) (by have := hlT.out; have := hlD.out; simp only [List.length_cons, List.length_nil]; omega) hW49.size ?_
          intro v50 w50 o11 hg50 hp50 hn50
          have hW50 : Below wo.heap.size wo w50 := hW49.grown hg50 hW49.size (fun g hg => (o7.lt g hg).1)
          refine hK.out _ _ (held_2 hW50 hS00) (fun hHeld11 => ?_)
          clear hK K
          try simp only [Act.put, List.setIfInBounds_toArray, List.set_cons_zero, List.set_cons_succ]
          refine takeH (i := 12) (v := ?v12_51) rfl (by kernel_rfl) (fun _ _ _ h => h) (by rfl) ?hy12_51 (by assumption) ?rest12_51
          case hy12_51 => (intro w hSw; (try dsimp only at hSw); go_simp; try with_reducible rfl)
          try simp only [Act.put, List.setIfInBounds_toArray, List.set_cons_zero, List.set_cons_succ]
          refine wpAnyH_done (by kernel_rfl) ?_ _
          go_wp2_with fail
          go_ret
          exact with_done o11 (by rw [HCUT.out]; simp; omega) (by rw [HCUT.out, show S.take k ++ x :: S.drop k = (S.take k ++ [x]) ++ S.drop k by simp, flatR_app, flatR_app]) (Below.step (Below.step HBW.out.below HBR.out) hW50) (Below.step HBW.out.below HBR.out).size
      · have l1 : decide ((k : Int) < (M : Int)) = false := decide_eq_false (by omega)
        have l2 : decide (k < M) = false := decide_eq_false hkM
        have l3 : (k < M) = False := eq_false hkM
        clear hlt hk hcl
        go_wp2_with fail
        have hS0 : Below wr.heap.size wr wr.drew ∧ wr.drew.cell? ⟨bx, 0, none⟩ = some (.int .i64 x.1) ∧ wr.drew.cell? ⟨bx, 1, none⟩ = some (.int .u64 x.2) := ⟨Below.drew (Below.refl _ _), cell_dr x0, cell_dr x1⟩
        refine wp_region_held_drew (S := fun w' => Below wr.heap.size wr w' ∧ w'.cell? ⟨bx, 0, none⟩ = some (.int .i64 x.1) ∧ w'.cell? ⟨bx, 1, none⟩ = some (.int .u64 x.2)) (by kernel_rfl) hS0 (fun hHeld => ?_)
        refine takeH (i := 0) (v := ?v0_23) rfl (by kernel_rfl) (fun _ _ _ h => h) (by rfl) ?hy0_23 (by assumption) ?rest0_23
        case hy0_23 => (intro w hSw; (try dsimp only at hSw); go_simp; try with_reducible rfl)
        try simp only [Act.put, List.setIfInBounds_toArray, List.set_cons_zero, List.set_cons_succ]
        refine takeH (i := 1) (v := ?v1_24) rfl (by kernel_rfl) (fun _ _ _ h => h) (by rfl) ?hy1_24 (by assumption) ?rest1_24
        case hy1_24 => (intro w hSw; (try dsimp only at hSw); go_simp; try with_reducible rfl)
        try simp only [Act.put, List.setIfInBounds_toArray, List.set_cons_zero, List.set_cons_succ]
        refine takeH (i := 2) (v := ?v2_25) rfl (by kernel_rfl) (fun _ _ _ h => h) (by rfl) ?hy2_25 (by assumption) ?rest2_25
        case hy2_25 => (intro w hSw; (try dsimp only at hSw); go_simp; try with_reducible rfl)
        try simp only [Act.put, List.setIfInBounds_toArray, List.set_cons_zero, List.set_cons_succ]
        refine takeH (i := 3) (v := ?v3_26) rfl (by kernel_rfl) (fun _ _ _ h => h) (by rfl) ?hy3_26 (by assumption) ?rest3_26
        case hy3_26 => (intro w hSw; (try dsimp only at hSw); go_simp; try with_reducible rfl)
        try simp only [Act.put, List.setIfInBounds_toArray, List.set_cons_zero, List.set_cons_succ]
        refine takeH (i := 4) (v := ?v4_27) rfl (by kernel_rfl) (fun _ _ _ h => h) (by rfl) ?hy4_27 (by assumption) ?rest4_27
        case hy4_27 => (intro w hSw; (try dsimp only at hSw); go_simp; try with_reducible rfl)
        try simp only [Act.put, List.setIfInBounds_toArray, List.set_cons_zero, List.set_cons_succ]
        refine skipH (i := 5) rfl (by kernel_rfl) (fun _ _ _ h => h) (by kernel_rfl) (by assumption) ?_
        try simp only [Act.put, List.setIfInBounds_toArray, List.set_cons_zero, List.set_cons_succ]
        refine skipH (i := 6) rfl (by kernel_rfl) (fun _ _ _ h => h) (by kernel_rfl) (by assumption) ?_
        try simp only [Act.put, List.setIfInBounds_toArray, List.set_cons_zero, List.set_cons_succ]
        refine skipH (i := 7) rfl (by kernel_rfl) (fun _ _ _ h => h) (by kernel_rfl) (by assumption) ?_
        try simp only [Act.put, List.setIfInBounds_toArray, List.set_cons_zero, List.set_cons_succ]
        refine skipH (i := 8) rfl (by kernel_rfl) (fun _ _ _ h => h) (by kernel_rfl) (by assumption) ?_
        try simp only [Act.put, List.setIfInBounds_toArray, List.set_cons_zero, List.set_cons_succ]
        refine skipH (i := 9) rfl (by kernel_rfl) (fun _ _ _ h => h) (by kernel_rfl) (by assumption) ?_
        try simp only [Act.put, List.setIfInBounds_toArray, List.set_cons_zero, List.set_cons_succ]
        refine skipH (i := 10) rfl (by kernel_rfl) (fun _ _ _ h => h) (by kernel_rfl) (by assumption) ?_
        try simp only [Act.put, List.setIfInBounds_toArray, List.set_cons_zero, List.set_cons_succ]
        refine takeH (i := 11) (v := ?v11_28) rfl (by kernel_rfl) (fun _ _ _ h => h) (by rfl) ?hy11_28 (by assumption) ?rest11_28
        case hy11_28 => (intro w hSw; (try dsimp only at hSw); go_simp; try with_reducible rfl)
        try simp only [Act.put, List.setIfInBounds_toArray, List.set_cons_zero, List.set_cons_succ]
        refine wpAnyH_done (by kernel_rfl) ?_ _
        clear hS0
        have HBR := Lib.hid HBR.out.drew
        replace x0 := cell_dr x0
        replace x1 := cell_dr x1
        generalize wr.drew = wr at *
        have hcut := putL_cut S x
        have RT := Lib.hid (sliced_take (m := cutI S x) encQ_ok (RW.out.later HBR.out) (by have := HCL.out; rw [HM.out] at this; exact this))
        have RD := Lib.hid (sliced_drop (m := cutI S x) encQ_ok (RW.out.later HBR.out) (by have := HCL.out; rw [HM.out] at this; exact this))
        rw [← HC.out] at RT RD hcut
        have HCUT := Lib.hid hcut
        have hlT := Lib.hid (show (S.take k).length ≤ 1000000 by have h1 := List.length_take_le' k S; rw [HM.out] at h1; omega)
        have hlD := Lib.hid (show (S.drop k).length ≤ 1000000 by rw [List.length_drop, HM.out]; omega)
        have hkMm : k ≤ M := by have := HCL.out; rw [HM.out] at this; have := HC.out; omega
        have hkC : k ≤ cap := by omega
        obtain ⟨vT, hvT⟩ : ∃ v, v = sliced a 0 k cap 2 := ⟨_, rfl⟩
        obtain ⟨vD, hvD⟩ : ∃ v, v = sliced a k M cap 2 := ⟨_, rfl⟩
        rw [← hvT] at RT
        rw [← hvD] at RD
        have HVT := Lib.hid hvT
        have HVD := Lib.hid hvD
        clear hvT hvD hcut
        go_wp2_with fail
        obtain ⟨wo, rfl⟩ : ∃ wo : World, wo = wr := ⟨_, rfl⟩
        have hS0 : Below wo.heap.size wo wo.drew ∧ wo.drew.cell? ⟨bx, 0, none⟩ = some (.int .i64 x.1) ∧ wo.drew.cell? ⟨bx, 1, none⟩ = some (.int .u64 x.2) := ⟨Below.drew (Below.refl _ _), cell_dr x0, cell_dr x1⟩
        refine wp_region_held_drew (S := fun w' => Below wo.heap.size wo w' ∧ w'.cell? ⟨bx, 0, none⟩ = some (.int .i64 x.1) ∧ w'.cell? ⟨bx, 1, none⟩ = some (.int .u64 x.2)) (by kernel_rfl) hS0 (fun hHeld => ?_)
        have hS00 : Below wo.heap.size wo wo ∧ wo.cell? ⟨bx, 0, none⟩ = some (.int .i64 x.1) ∧ wo.cell? ⟨bx, 1, none⟩ = some (.int .u64 x.2) := ⟨Below.refl _ _, x0, x1⟩
        obtain ⟨wc52, hwc52⟩ : ∃ X, X = wo.drew := ⟨_, rfl⟩
        rw [← hwc52] at hHeld ⊢
        have hWc52 : Below wo.heap.size wo wc52 := by rw [hwc52]; exact (Below.refl _ _).drew
        clear hwc52
        refine takeH (i := 1) (v := ?v1_53) rfl (by kernel_rfl) (fun _ _ _ h => h) (by rfl) ?hy1_53 (by assumption) ?rest1_53
        case hy1_53 => (intro w hSw; (try dsimp only at hSw); go_simp; try with_reducible rfl)
        try simp only [Act.put, List.setIfInBounds_toArray, List.set_cons_zero, List.set_cons_succ]
        refine takeH (i := 2) (v := ?v2_54) rfl (by kernel_rfl) (fun _ _ _ h => h) (by rfl) ?hy2_54 (by assumption) ?rest2_54
        case hy2_54 => (intro w hSw; (try dsimp only at hSw); go_simp; try with_reducible rfl)
        try simp only [Act.put, List.setIfInBounds_toArray, List.set_cons_zero, List.set_cons_succ]
        refine takeH (i := 3) (v := vT) rfl (by kernel_rfl) (fun _ _ _ h => h) (by rfl) (fun w _ => by rw [HVT.out]; exact run_take 56 (.tmp 21) (.tmp 22) rfl undRItems sizeRItem rfl rfl hkC) (by assumption) ?_
        try simp only [Act.put, List.setIfInBounds_toArray, List.set_cons_zero, List.set_cons_succ]
        refine takeH (i := 5) (v := ?v5_55) rfl (by kernel_rfl) (fun _ _ _ h => h) (by rfl) ?hy5_55 (by assumption) ?rest5_55
        case hy5_55 => (intro w hSw; (try dsimp only at hSw); go_simp; try with_reducible rfl)
        try simp only [Act.put, List.setIfInBounds_toArray, List.set_cons_zero, List.set_cons_succ]
        refine takeH (i := 8) (v := ?v8_56) rfl (by kernel_rfl) (fun _ _ _ h => h) (by rfl) ?hy8_56 (by assumption) ?rest8_56
        case hy8_56 => (intro w hSw; (try dsimp only at hSw); go_simp; try with_reducible rfl)
        try simp only [Act.put, List.setIfInBounds_toArray, List.set_cons_zero, List.set_cons_succ]
        refine takeH (i := 9) (v := ?v9_57) rfl (by kernel_rfl) (fun _ _ _ h => h) (by rfl) ?hy9_57 (by assumption) ?rest9_57
        case hy9_57 => (intro w hSw; (try dsimp only at hSw); go_simp; try with_reducible rfl)
        try simp only [Act.put, List.setIfInBounds_toArray, List.set_cons_zero, List.set_cons_succ]
        refine takeH (i := 10) (v := vD) rfl (by kernel_rfl) (fun _ _ _ h => h) (by rfl) (fun w _ => by rw [HVD.out]; exact run_drop 56 (.tmp 28) (.tmp 29) rfl undRItems sizeRItem rfl rfl hkMm) (by assumption) ?_
        try simp only [Act.put, List.setIfInBounds_toArray, List.set_cons_zero, List.set_cons_succ]
        refine wpAnyH_ready (rs := [0, 6]) (by kernel_rfl) (by simp) ?_
        refine consH rfl (fun K hK => ?_) (consH rfl (fun K hK => ?_) (AllReadyH.nil))
        · skip
          go_simp
          obtain ⟨w58, hw58⟩ : ∃ X, X = wc52.alloc (.cells #[] 77) := ⟨_, rfl⟩
          rw [← hw58]
          have hb58 : Below wc52.heap.size wc52 w58 := by rw [hw58]; exact below_a _ _
          have hW58 := Below.step hWc52 hb58
          have o0 : w58.ownsRow wo.heap.size 77 2 (.slice (some ⟨wc52.heap.size, 0, none⟩) 0 0) 0 [] := by rw [hw58]; exact World.ownsRow_lit _ #[] 0 hWc52.size (by unfold maxLen; omega) rfl
          clear hw58
          refine hK.out _ _ (held_2 hW58 hS00) (fun hHeld0 => ?_)
          clear hK K
          try simp only [Act.put, List.setIfInBounds_toArray, List.set_cons_zero, List.set_cons_succ]
          refine wpAnyH_ready (rs := [4, 6]) (by kernel_rfl) (by simp) ?_
          refine consH rfl (fun K hK => ?_) (consH rfl (fun K hK => ?_) (AllReadyH.nil))
          · skip
            refine stepF rfl (.tmp 20) (.tmp 23) 56 rfl wo.heap.size 77 i0 (.agg #[.int .i64 0, .int .u64 0]) 2 16 encQ_ok Try.underlying56 hi hz0 hz1 hz2 rfl _ rfl o0 _ _ rfl (RT.out.later hW58) (by have := hlT.out; unfold maxLen; omega) (by have := hlT.out; omega) hW58.size ?_
            intro v59 w59 o4 hb59 hp59
            have hW59 := Below.step hW58 hb59
            refine hK.out _ _ (held_2 hW59 hS00) (fun hHeld4 => ?_)
            clear hK K
            try simp only [Act.put, List.setIfInBounds_toArray, List.set_cons_zero, List.set_cons_succ]
            refine wpAnyH_ready (rs := [6]) (by kernel_rfl) (by simp) ?_
            refine consH rfl (fun K hK => ?_) (AllReadyH.nil)
            go_simp
            obtain ⟨w60, hw60⟩ : ∃ X, X = w59.alloc (.cells #[.int .i64 x.1, .int .u64 x.2] 77) := ⟨_, rfl⟩
            rw [← hw60]
            have hb60 : Below w59.heap.size w59 w60 := by rw [hw60]; exact below_a _ _
            have hW60 := Below.step hW59 hb60
            replace o4 := own_below o4 hb60
            have rx : RecsAt encQ w60 (.slice (some ⟨w59.heap.size, 0, none⟩) 1 1) [x] := by rw [hw60]; exact lit_recs encQ_ok _ [x] _ (by simp)
            clear hw60
            refine hK.out _ _ (held_2 hW60 hS00) (fun hHeld6 => ?_)
            clear hK K
            try simp only [Act.put, List.setIfInBounds_toArray, List.set_cons_zero, List.set_cons_succ]
            refine wpAnyH_ready (rs := [7]) (by kernel_rfl) (by simp) ?_
            refine consH rfl (fun K hK => ?_) (AllReadyH.nil)
            refine stepR rfl (.tmp 24) (.tmp 26) 56 rfl wo.heap.size 77 i0 (.agg #[.int .i64 0, .int .u64 0]) 2 16 encQ_ok Try.underlying56 hi hz0 hz1 hz2 rfl _ _ _ rfl o4 _ _ rfl (rx) (by have := hlT.out; simp; unfold maxLen; omega) (by have := hlT.out; simp; omega) hW60.size ?_
            intro v61 w61 o7 hg61 hp61 hn61
            have hW61 : Below wo.heap.size wo w61 := hW60.grown hg61 hW60.size (fun g hg => (o4.lt g hg).1)
            refine hK.out _ _ (held_2 hW61 hS00) (fun hHeld7 => ?_)
            clear hK K
            try simp only [Act.put, List.setIfInBounds_toArray, List.set_cons_zero, List.set_cons_succ]
            refine wpAnyH_ready (rs := [11]) (by kernel_rfl) (by simp) ?_
            refine consH rfl (fun K hK => ?_) (AllReadyH.nil)
            refine stepR rfl (.tmp 27) (.tmp 30) 56 rfl wo.heap.size 77 i0 (.agg #[.int .i64 0, .int .u64 0]) 2 16 encQ_ok Try.underlying56 hi hz0 hz1 hz2 rfl _ _ _ rfl o7 _ _ rfl (RD.out.later hW61) (by have := hlT.out; have := hlD.out; simp only [List.length_cons, List.length_nil]; unfold maxLen; omega) (by have := hlT.out; have := hlD.out; simp only [List.length_cons, List.length_nil]; omega) hW61.size ?_
            intro v62 w62 o11 hg62 hp62 hn62
            have hW62 : Below wo.heap.size wo w62 := hW61.grown hg62 hW61.size (fun g hg => (o7.lt g hg).1)
            refine hK.out _ _ (held_2 hW62 hS00) (fun hHeld11 => ?_)
            clear hK K
            try simp only [Act.put, List.setIfInBounds_toArray, List.set_cons_zero, List.set_cons_succ]
            refine takeH (i := 12) (v := ?v12_63) rfl (by kernel_rfl) (fun _ _ _ h => h) (by rfl) ?hy12_63 (by assumption) ?rest12_63
            case hy12_63 => (intro w hSw; (try dsimp only at hSw); go_simp; try with_reducible rfl)
            try simp only [Act.put, List.setIfInBounds_toArray, List.set_cons_zero, List.set_cons_succ]
            refine wpAnyH_done (by kernel_rfl) ?_ _
            go_wp2_with fail
            go_ret
            exact with_done o11 (by rw [HCUT.out]; simp; omega) (by rw [HCUT.out, show S.take k ++ x :: S.drop k = (S.take k ++ [x]) ++ S.drop k by simp, flatR_app, flatR_app]) (Below.step (Below.step HBW.out.below HBR.out) hW62) (Below.step HBW.out.below HBR.out).size
          · skip
            go_simp
            obtain ⟨w64, hw64⟩ : ∃ X, X = w58.alloc (.cells #[.int .i64 x.1, .int .u64 x.2] 77) := ⟨_, rfl⟩
            rw [← hw64]
            have hb64 : Below w58.heap.size w58 w64 := by rw [hw64]; exact below_a _ _
            have hW64 := Below.step hW58 hb64
            replace o0 := own_below o0 hb64
            have rx : RecsAt encQ w64 (.slice (some ⟨w58.heap.size, 0, none⟩) 1 1) [x] := by rw [hw64]; exact lit_recs encQ_ok _ [x] _ (by simp)
            clear hw64
            refine hK.out _ _ (held_2 hW64 hS00) (fun hHeld6 => ?_)
            clear hK K
            try simp only [Act.put, List.setIfInBounds_toArray, List.set_cons_zero, List.set_cons_succ]
            refine wpAnyH_ready (rs := [4]) (by kernel_rfl) (by simp) ?_
            refine consH rfl (fun K hK => ?_) (AllReadyH.nil)
            refine stepF rfl (.tmp 20) (.tmp 23) 56 rfl wo.heap.size 77 i0 (.agg #[.int .i64 0, .int .u64 0]) 2 16 encQ_ok Try.underlying56 hi hz0 hz1 hz2 rfl _ rfl o0 _ _ rfl (RT.out.later hW64) (by have := hlT.out; unfold maxLen; omega) (by have := hlT.out; omega) hW64.size ?_
            intro v65 w65 o4 hb65 hp65
            have hW65 := Below.step hW64 hb65
            replace rx := rx.later hb65
            refine hK.out _ _ (held_2 hW65 hS00) (fun hHeld4 => ?_)
            clear hK K
            try simp only [Act.put, List.setIfInBounds_toArray, List.set_cons_zero, List.set_cons_succ]
            refine wpAnyH_ready (rs := [7]) (by kernel_rfl) (by simp) ?_
            refine consH rfl (fun K hK => ?_) (AllReadyH.nil)
            refine stepR rfl (.tmp 24) (.tmp 26) 56 rfl wo.heap.size 77 i0 (.agg #[.int .i64 0, .int .u64 0]) 2 16 encQ_ok Try.underlying56 hi hz0 hz1 hz2 rfl _ _ _ rfl o4 _ _ rfl (rx) (by have := hlT.out; simp; unfold maxLen; omega) (by have := hlT.out; simp; omega) hW65.size ?_
            intro v66 w66 o7 hg66 hp66 hn66
            have hW66 : Below wo.heap.size wo w66 := hW65.grown hg66 hW65.size (fun g hg => (o4.lt g hg).1)
            refine hK.out _ _ (held_2 hW66 hS00) (fun hHeld7 => ?_)
            clear hK K
            try simp only [Act.put, List.setIfInBounds_toArray, List.set_cons_zero, List.set_cons_succ]
            refine wpAnyH_ready (rs := [11]) (by kernel_rfl) (by simp) ?_
            refine consH rfl (fun K hK => ?_) (AllReadyH.nil)
            refine stepR rfl (.tmp 27) (.tmp 30) 56 rfl wo.heap.size 77 i0 (.agg #[.int .i64 0, .int .u64 0]) 2 16 encQ_ok Try.underlying56 hi hz0 hz1 hz2 rfl _ _ _ rfl o7 _ _ rfl (RD.out.later hW66) (by have := hlT.out; have := hlD.out; simp only [List.length_cons, List.length_nil]; unfold maxLen; omega) (by have := hlT.out; have := hlD.out; simp only [List.length_cons, List.length_nil]; omega) hW66.size ?_
            intro v67 w67 o11 hg67 hp67 hn67
            have hW67 : Below wo.heap.size wo w67 := hW66.grown hg67 hW66.size (fun g hg => (o7.lt g hg).1)
            refine hK.out _ _ (held_2 hW67 hS00) (fun hHeld11 => ?_)
            clear hK K
            try simp only [Act.put, List.setIfInBounds_toArray, List.set_cons_zero, List.set_cons_succ]
            refine takeH (i := 12) (v := ?v12_68) rfl (by kernel_rfl) (fun _ _ _ h => h) (by rfl) ?hy12_68 (by assumption) ?rest12_68
            case hy12_68 => (intro w hSw; (try dsimp only at hSw); go_simp; try with_reducible rfl)
            try simp only [Act.put, List.setIfInBounds_toArray, List.set_cons_zero, List.set_cons_succ]
            refine wpAnyH_done (by kernel_rfl) ?_ _
            go_wp2_with fail
            go_ret
            exact with_done o11 (by rw [HCUT.out]; simp; omega) (by rw [HCUT.out, show S.take k ++ x :: S.drop k = (S.take k ++ [x]) ++ S.drop k by simp, flatR_app, flatR_app]) (Below.step (Below.step HBW.out.below HBR.out) hW67) (Below.step HBW.out.below HBR.out).size
        · skip
          go_simp
          obtain ⟨w69, hw69⟩ : ∃ X, X = wc52.alloc (.cells #[.int .i64 x.1, .int .u64 x.2] 77) := ⟨_, rfl⟩
          rw [← hw69]
          have hb69 : Below wc52.heap.size wc52 w69 := by rw [hw69]; exact below_a _ _
          have hW69 := Below.step hWc52 hb69
          have rx : RecsAt encQ w69 (.slice (some ⟨wc52.heap.size, 0, none⟩) 1 1) [x] := by rw [hw69]; exact lit_recs encQ_ok _ [x] _ (by simp)
          clear hw69
          refine hK.out _ _ (held_2 hW69 hS00) (fun hHeld6 => ?_)
          clear hK K
          try simp only [Act.put, List.setIfInBounds_toArray, List.set_cons_zero, List.set_cons_succ]
          refine wpAnyH_ready (rs := [0]) (by kernel_rfl) (by simp) ?_
          refine consH rfl (fun K hK => ?_) (AllReadyH.nil)
          go_simp
          obtain ⟨w70, hw70⟩ : ∃ X, X = w69.alloc (.cells #[] 77) := ⟨_, rfl⟩
          rw [← hw70]
          have hb70 : Below w69.heap.size w69 w70 := by rw [hw70]; exact below_a _ _
          have hW70 := Below.step hW69 hb70
          replace rx := rx.later hb70
          have o0 : w70.ownsRow wo.heap.size 77 2 (.slice (some ⟨w69.heap.size, 0, none⟩) 0 0) 0 [] := by rw [hw70]; exact World.ownsRow_lit _ #[] 0 hW69.size (by unfold maxLen; omega) rfl
          clear hw70
          refine hK.out _ _ (held_2 hW70 hS00) (fun hHeld0 => ?_)
          clear hK K
          try simp only [Act.put, List.setIfInBounds_toArray, List.set_cons_zero, List.set_cons_succ]
          refine wpAnyH_ready (rs := [4]) (by kernel_rfl) (by simp) ?_
          refine consH rfl (fun K hK => ?_) (AllReadyH.nil)
          refine stepF rfl (.tmp 20) (.tmp 23) 56 rfl wo.heap.size 77 i0 (.agg #[.int .i64 0, .int .u64 0]) 2 16 encQ_ok Try.underlying56 hi hz0 hz1 hz2 rfl _ rfl o0 _ _ rfl (RT.out.later hW70) (by have := hlT.out; unfold maxLen; omega) (by have := hlT.out; omega) hW70.size ?_
          intro v71 w71 o4 hb71 hp71
          have hW71 := Below.step hW70 hb71
          replace rx := rx.later hb71
          refine hK.out _ _ (held_2 hW71 hS00) (fun hHeld4 => ?_)
          clear hK K
          try simp only [Act.put, List.setIfInBounds_toArray, List.set_cons_zero, List.set_cons_succ]
          refine wpAnyH_ready (rs := [7]) (by kernel_rfl) (by simp) ?_
          refine consH rfl (fun K hK => ?_) (AllReadyH.nil)
          refine stepR rfl (.tmp 24) (.tmp 26) 56 rfl wo.heap.size 77 i0 (.agg #[.int .i64 0, .int .u64 0]) 2 16 encQ_ok Try.underlying56 hi hz0 hz1 hz2 rfl _ _ _ rfl o4 _ _ rfl (rx) (by have := hlT.out; simp; unfold maxLen; omega) (by have := hlT.out; simp; omega) hW71.size ?_
          intro v72 w72 o7 hg72 hp72 hn72
          have hW72 : Below wo.heap.size wo w72 := hW71.grown hg72 hW71.size (fun g hg => (o4.lt g hg).1)
          refine hK.out _ _ (held_2 hW72 hS00) (fun hHeld7 => ?_)
          clear hK K
          try simp only [Act.put, List.setIfInBounds_toArray, List.set_cons_zero, List.set_cons_succ]
          refine wpAnyH_ready (rs := [11]) (by kernel_rfl) (by simp) ?_
          refine consH rfl (fun K hK => ?_) (AllReadyH.nil)
          refine stepR rfl (.tmp 27) (.tmp 30) 56 rfl wo.heap.size 77 i0 (.agg #[.int .i64 0, .int .u64 0]) 2 16 encQ_ok Try.underlying56 hi hz0 hz1 hz2 rfl _ _ _ rfl o7 _ _ rfl (RD.out.later hW72) (by have := hlT.out; have := hlD.out; simp only [List.length_cons, List.length_nil]; unfold maxLen; omega) (by have := hlT.out; have := hlD.out; simp only [List.length_cons, List.length_nil]; omega) hW72.size ?_
          intro v73 w73 o11 hg73 hp73 hn73
          have hW73 : Below wo.heap.size wo w73 := hW72.grown hg73 hW72.size (fun g hg => (o7.lt g hg).1)
          refine hK.out _ _ (held_2 hW73 hS00) (fun hHeld11 => ?_)
          clear hK K
          try simp only [Act.put, List.setIfInBounds_toArray, List.set_cons_zero, List.set_cons_succ]
          refine takeH (i := 12) (v := ?v12_74) rfl (by kernel_rfl) (fun _ _ _ h => h) (by rfl) ?hy12_74 (by assumption) ?rest12_74
          case hy12_74 => (intro w hSw; (try dsimp only at hSw); go_simp; try with_reducible rfl)
          try simp only [Act.put, List.setIfInBounds_toArray, List.set_cons_zero, List.set_cons_succ]
          refine wpAnyH_done (by kernel_rfl) ?_ _
          go_wp2_with fail
          go_ret
          exact with_done o11 (by rw [HCUT.out]; simp; omega) (by rw [HCUT.out, show S.take k ++ x :: S.drop k = (S.take k ++ [x]) ++ S.drop k by simp, flatR_app, flatR_app]) (Below.step (Below.step HBW.out.below HBR.out) hW73) (Below.step HBW.out.below HBR.out).size
end Go.Proofs.Ytpbaegdmjmickaa
