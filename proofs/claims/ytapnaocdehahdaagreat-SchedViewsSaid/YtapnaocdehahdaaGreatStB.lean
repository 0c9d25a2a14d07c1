/-
Layer 31's statements: what their walks share.
The kit's SameState at two states that are the same.
Layer 31's statements: awake.
-/
import Derived.Test.YtapnaocdehahdaaGreatSchSc
import Derived.Test.YtapnaocdehahdaaGreatSchO
import Derived.Test.YtapnaocdehahdaaGreatSchWm
import Derived.Test.YtapnaocdehahdaaGreatStA
import Derived.Test.YtapnaocdehahdaaGreatSchEx
namespace Go.Proofs.YtapnaocdehahdaaGreat
open Go.RowKit Go.Maps Go.IntWalk Go.Lib
set_option linter.unusedVariables false
set_option linter.unusedSimpArgs false
theorem own_pos {w : World} {base e size : Nat} {v : Value} {n : Nat} {xs : List Value} (h : w.ownsRow base e size v n xs) (h0 : 0 < n) : ∃ g c, v = .slice (some ⟨g, 0, none⟩) n c := by
  obtain ⟨m, rfl⟩ : ∃ m, n = m + 1 := ⟨n - 1, by omega⟩
  exact own_some h
theorem srow_later {ks : List (Option IntKind)} {w w' : World} {a : Option Addr} {n c : Nat} {F : Nat → Nat → Value} (h : PlainRow ks w a n c F) (hb : Below w.heap.size w w') : PlainRow ks w' a n c F := by
  rcases h with h | h | ⟨h0, hl, hm, b, off, rfl, hc⟩
  · exact Or.inl h
  · exact Or.inr (Or.inl h)
  · exact Or.inr (Or.inr ⟨h0, hl, hm, b, off, rfl, fun i hi j k hk => ⟨cell_later hb (hc i hi j k hk).1, (hc i hi j k hk).2⟩⟩)
theorem encOw : Enc encOl 8 := ⟨fun _ => rfl, fun x u hu => by simp [encOl] at hu; rcases hu with rfl | rfl | rfl | rfl | rfl | rfl | rfl | rfl <;> rfl, by decide⟩
theorem own_heldS {w : World} {base e n : Nat} {v : Value} {L : List OpV} {F : List Nat} {xs : List Value} (h : w.ownsRow base e 8 v n xs) (hn : n = L.length) (hx : xs = flatR encOl L) (hF : ∀ b ∈ F, b < base) : HeldR encOl F w v L := by
  subst hn; subst hx
  rcases h.2 with ⟨rfl, h0⟩ | ⟨g, cap, cur, rfl, hb, _, h5, h6, _⟩
  · have : L = [] := List.eq_nil_of_length_eq_zero h0
    subst this
    exact ⟨none, 0, rfl, Nat.le_refl _, by omega, fun _ => rfl, Or.inl rfl⟩
  · have hl := (h.lt g rfl).2
    refine ⟨some ⟨g, 0, none⟩, cap, rfl, h5, by unfold maxLen at h6; omega, (fun q => by cases q), Or.inr ⟨g, 0, rfl, ⟨fun m => by have := hF g m; omega, hl⟩, fun j u hu => ?_⟩⟩
    have hj : j < L.length * 8 := by rw [← flatR_len encOw]; exact (List.getElem?_eq_some_iff.1 hu).1
    rw [Nat.zero_add, h.cellAt j hj]
    exact hu
theorem own_shapeW {w : World} {base n size : Nat} {e : TypeId} {v : Value} {xs : List Value} (h : w.ownsRow base e size v n xs) : ∃ a cap, v = .slice a n cap := by
  rcases h.2 with ⟨rfl, h0⟩ | ⟨g, cap, cur, rfl, _⟩
  · exact ⟨none, 0, by rw [h0]⟩
  · exact ⟨_, cap, rfl⟩
/-- how many CPUs there are stays -/
theorem ifC {c : Prop} [Decidable c] {a b s : SSt} (ha : a.C = s.C) (hb : b.C = s.C) : (if c then a else b).C = s.C := by
  split
  · exact ha
  · exact hb
theorem ifC3 {c : Prop} [Decidable c] {a b : Int × Int × SSt} {s : SSt} (ha : a.2.2.C = s.C) (hb : b.2.2.C = s.C) : (if c then a else b).2.2.C = s.C := by
  split
  · exact ha
  · exact hb
theorem mvC (s : SSt) (id : Int) (t : Tsk) (j : Nat) : (mvS s id t j).C = s.C := ifC rfl rfl
theorem opR_C (s : SSt) (o : OpV) : (opR s o).2.2.C = s.C := by
  have h1 : ∀ k, (spS s k o).C = s.C := fun k => ifC rfl rfl
  have h2 : ∀ id, (awS s id).C = s.C := fun id => by
    unfold awS
    split
    · rfl
    · exact ifC rfl rfl
  have h3 : ∀ k, (stopS s k).C = s.C := fun k => by
    unfold stopS
    split
    · rfl
    · rfl
  have h4 : ∀ k, (exitS s k).C = s.C := fun k => ifC rfl (h3 k)
  have h5 : ∀ k tk, (tickS s k tk).C = s.C := fun k tk => by
    refine ifC ?_ rfl
    split
    · rfl
    · rfl
  have h6 : ∀ k, (pickS s k).C = s.C := fun k => rfl
  have h7 : ∀ id w, (reS s id w).C = s.C := fun id w => by
    refine ifC ?_ rfl
    split
    · rfl
    · exact ifC rfl rfl
  have h8 : ∀ g w, (rgT s g w).C = s.C := fun g w => ifC rfl rfl
  have h9 : (mgS s o).C = s.C := by
    refine ifC ?_ rfl
    split
    · rfl
    · exact mvC _ _ _ _
  have h10 : ∀ k, (balS s k).C = s.C := fun k => by
    refine ifC rfl ?_
    split
    · exact mvC _ _ _ _
    · rfl
  unfold opR
  have e : ∀ (a b : Int) (s' : SSt), ((a, b, s') : Int × Int × SSt).2.2.C = s'.C := fun _ _ _ => rfl
  refine ifC3 (ifC3 ((e _ _ _).trans (h1 _)) (e _ _ _)) ?_
  refine ifC3 (ifC3 ((e _ _ _).trans (h2 _)) (e _ _ _)) ?_
  refine ifC3 (ifC3 ((e _ _ _).trans (h3 _)) (e _ _ _)) ?_
  refine ifC3 (ifC3 ((e _ _ _).trans (h4 _)) (e _ _ _)) ?_
  refine ifC3 (ifC3 ((e _ _ _).trans (h5 _ _)) (e _ _ _)) ?_
  refine ifC3 (ifC3 ((e _ _ _).trans (h6 _)) (e _ _ _)) ?_
  refine ifC3 (ifC3 ((e _ _ _).trans (h7 _ _)) (e _ _ _)) ?_
  refine ifC3 ((e _ _ _).trans (h8 _ _)) ?_
  refine ifC3 ((e _ _ _).trans h9) ?_
  exact ifC3 (ifC3 ((e _ _ _).trans (h10 _)) (e _ _ _)) (e _ _ _)
/-- five numbers, by their places -/
def fiveL (a b c d e : Int) (i : Nat) : Int := if i = 0 then a else if i = 1 then b else if i = 2 then c else if i = 3 then d else e
theorem fiveL_in {a b c d e lo hi : Int} (h0 : lo ≤ a ∧ a ≤ hi) (h1 : lo ≤ b ∧ b ≤ hi) (h2 : lo ≤ c ∧ c ≤ hi) (h3 : lo ≤ d ∧ d ≤ hi) (h4 : lo ≤ e ∧ e ≤ hi) : ∀ i, i < 5 → lo ≤ fiveL a b c d e i ∧ fiveL a b c d e i ≤ hi := fun i _ => by
  unfold fiveL
  repeat' split
  all_goals assumption
theorem Made5 (n0 n1 n2 p0 p1 p2 p3 p4 v0 v1 v2 v3 v4 : Int) (w : World) (h0 : 0 ≤ n0 ∧ n0 ≤ 255) (h1 : 0 ≤ n1 ∧ n1 ≤ 255) (h2 : 0 ≤ n2 ∧ n2 ≤ 4294967295)
    (hp : (0 ≤ p0 ∧ p0 ≤ 255) ∧ (0 ≤ p1 ∧ p1 ≤ 255) ∧ (0 ≤ p2 ∧ p2 ≤ 255) ∧ (0 ≤ p3 ∧ p3 ≤ 255) ∧ (0 ≤ p4 ∧ p4 ≤ 255)) (hv : (0 ≤ v0 ∧ v0 ≤ 65535) ∧ (0 ≤ v1 ∧ v1 ≤ 65535) ∧ (0 ≤ v2 ∧ v2 ≤ 65535) ∧ (0 ≤ v3 ∧ v3 ≤ 65535) ∧ (0 ≤ v4 ∧ v4 ≤ 65535)) :
    Calls Tryz.prog 14 #[.agg #[.int .u8 n0, .int .u8 n1, .int .u32 n2, .int .u8 p0, .int .u8 p1, .int .u8 p2, .int .u8 p3, .int .u8 p4, .int .u16 v0, .int .u16 v1, .int .u16 v2, .int .u16 v3, .int .u16 v4]] w (MadeC w) :=
  Made_at n0 n1 n2 (fiveL p0 p1 p2 p3 p4) (fiveL v0 v1 v2 v3 v4) w h0 h1 h2 (fiveL_in hp.1 hp.2.1 hp.2.2.1 hp.2.2.2.1 hp.2.2.2.2) (fiveL_in hv.1 hv.2.1 hv.2.2.1 hv.2.2.2.1 hv.2.2.2.2)
abbrev opK : List (Option IntKind) := [some .u8, some .i64, some .i64, some .i64, some .i64, some .i64, some .i64, some .u64]
theorem wf_u64r {x : Int} (h : (Lit.int .u64 x).wf = true) : 0 ≤ x ∧ x ≤ 18446744073709551615 := by
  simp only [Lit.wf, Bool.and_eq_true, decide_eq_true_eq, IntKind.min, IntKind.max, IntKind.bits, IntKind.signed] at h
  simp at h
  omega
/-- operations that came in -/
theorem ops_of {w : World} {a : Option Addr} {l c : Nat} {F : Nat → Nat → Value} (h : PlainRow opK w a l c F) : ∃ L : List OpV, RecsAt encOl w (.slice a l c) L ∧ ∀ o ∈ L, o.Wf := by
  rcases h with ⟨rfl, rfl, rfl⟩ | ⟨rfl, hc, x, rfl⟩ | ⟨h0, hl, hm, b, off, rfl, hc⟩
  · exact ⟨[], ⟨none, 0, rfl, Nat.zero_le _, by omega, fun _ => rfl, Or.inl rfl⟩, fun x hx => (by cases hx)⟩
  · exact ⟨[], ⟨some x, c, rfl, Nat.zero_le _, by unfold maxLen at hc; omega, (fun e => by cases e), Or.inl rfl⟩, fun x hx => (by cases hx)⟩
  · have hcell : ∀ i, i < l → ∃ o : OpV, o.Wf ∧ ∀ j u, (encOl o)[j]? = some u → w.cell? ⟨b, off + i * 8 + j, none⟩ = some u := fun i hi => by
      obtain ⟨e0, a0, q0, w0⟩ := hc i hi 0 (some .u8) rfl
      rw [q0] at e0
      obtain ⟨e1, a1, q1, w1⟩ := hc i hi 1 (some .i64) rfl
      rw [q1] at e1
      obtain ⟨e2, a2, q2, w2⟩ := hc i hi 2 (some .i64) rfl
      rw [q2] at e2
      obtain ⟨e3, a3, q3, w3⟩ := hc i hi 3 (some .i64) rfl
      rw [q3] at e3
      obtain ⟨e4, a4, q4, w4⟩ := hc i hi 4 (some .i64) rfl
      rw [q4] at e4
      obtain ⟨e5, a5, q5, w5⟩ := hc i hi 5 (some .i64) rfl
      rw [q5] at e5
      obtain ⟨e6, a6, q6, w6⟩ := hc i hi 6 (some .i64) rfl
      rw [q6] at e6
      obtain ⟨e7, a7, q7, w7⟩ := hc i hi 7 (some .u64) rfl
      rw [q7] at e7
      refine ⟨⟨a0, a1, a2, a3, a4, a5, a6, a7⟩, ⟨wf_u8 w0, w1, w2, w3, w4, w5, w6, wf_u64r w7⟩, fun j u hj => ?_⟩
      have hj8 : j < 8 := (List.getElem?_eq_some_iff.1 hj).1
      have hh : j = 0 ∨ j = 1 ∨ j = 2 ∨ j = 3 ∨ j = 4 ∨ j = 5 ∨ j = 6 ∨ j = 7 := by omega
      rcases hh with rfl | rfl | rfl | rfl | rfl | rfl | rfl | rfl
      · cases hj; exact e0
      · cases hj; exact e1
      · cases hj; exact e2
      · cases hj; exact e3
      · cases hj; exact e4
      · cases hj; exact e5
      · cases hj; exact e6
      · cases hj; exact e7
    obtain ⟨f, hf⟩ : ∃ f : Nat → OpV, ∀ i, i < l → (f i).Wf ∧ ∀ j u, (encOl (f i))[j]? = some u → w.cell? ⟨b, off + i * 8 + j, none⟩ = some u :=
      ⟨fun i => if h : i < l then Classical.choose (hcell i h) else ⟨0, 0, 0, 0, 0, 0, 0, 0⟩, fun i hi => by simp only [hi, dif_pos]; exact Classical.choose_spec (hcell i hi)⟩
    refine ⟨(List.range l).map f, ⟨some ⟨b, off, none⟩, c, by simp, by simpa using hl, by unfold maxLen at hm; omega, (fun e => by cases e), Or.inr ⟨b, off, rfl, fun j u hj => ?_⟩⟩, fun o ho => ?_⟩
    · have hjl : j < l * 8 := by
        have := (List.getElem?_eq_some_iff.1 hj).1
        rw [flatR_len encOw] at this
        simpa using this
      have hi : j / 8 < l := by omega
      have hx : ((List.range l).map f)[j / 8]? = some (f (j / 8)) := by rw [List.getElem?_map, List.getElem?_range hi]; rfl
      have h1 := flatR_at encOw hx (j % 8) (by omega)
      rw [show j / 8 * 8 + j % 8 = j by omega, hj] at h1
      have h2 := (hf _ hi).2 (j % 8) u h1.symm
      rw [show off + j / 8 * 8 + j % 8 = off + j by omega] at h2
      exact h2
    · obtain ⟨i, hi, rfl⟩ := List.mem_map.1 ho
      exact (hf i (List.mem_range.1 hi)).1
end Go.Proofs.YtapnaocdehahdaaGreat
namespace Go.Proofs.YtapnaocdehahdaaGreat
open Go.RowKit Go.Maps Go.IntWalk Go.Lib
set_option linter.unusedVariables false
set_option linter.unusedSimpArgs false
@[go_sem] theorem eg_apitask : Tryz.prog.eqGuardType Tryz.prog.depth 59 = false := by kernel_rfl
@[go_sem] theorem eg_apispot : Tryz.prog.eqGuardType Tryz.prog.depth 121 = false := by kernel_rfl
@[go_sem] theorem eg_apigroup : Tryz.prog.eqGuardType Tryz.prog.depth 72 = false := by kernel_rfl
@[go_sem high] theorem run_neq_taskS (w : World) (i g k c m v r : Int) (b : Bool) : (binOp .neq 59 (.agg #[.int .i64 i, .int .i64 g, .int .i64 k, .int .i64 c, .int .u64 m, .bool b, .int .u64 v, .int .u32 r]) (.agg #[.int .i64 i, .int .i64 g, .int .i64 k, .int .i64 c, .int .u64 m, .bool b, .int .u64 v, .int .u32 r])).run Tryz.prog w = .ok (.bool false) w := by
  rw [run_neq_struct, run_equalIn_agg w 9999 _ _ _ (by kernel_rfl) (by kernel_rfl)]
  simp [go_sem, Tryz.underlying59]
@[go_sem high] theorem run_neq_spotS (w : World) (v r f : Int) : (binOp .neq 121 (.agg #[.int .u64 v, .int .u32 r, .int .u64 f]) (.agg #[.int .u64 v, .int .u32 r, .int .u64 f])).run Tryz.prog w = .ok (.bool false) w := by
  rw [run_neq_struct, run_equalIn_agg w 9999 _ _ _ (by kernel_rfl) (by kernel_rfl)]
  simp [go_sem, Tryz.underlying121]
theorem eq2_selfS (b c : Int) : eq2 b c b c = true := by unfold eq2; simp
set_option maxRecDepth 100000 in
set_option maxHeartbeats 2000000 in
theorem sameListGs_at (va vb : Value) (L : List (Int × Int)) (w : World) (ha : RecsAt encG w va L) (hb : RecsAt encG w vb L) (h1 : L.length ≤ 1000000) :
    Calls Tryz.prog 190 #[va, vb] w fun e w' => e = .returned (.bool true) ∧ Below w.heap.size w w' := by
  obtain ⟨a, ca, rfl, -⟩ := id ha
  obtain ⟨b, cb, rfl, -⟩ := id hb
  obtain ⟨m, hm⟩ : ∃ m, m = L.length := ⟨_, rfl⟩
  have HM := Lib.hid hm
  have HA := Lib.hid ha
  have HB := Lib.hid hb
  rw [← hm] at h1 ⊢
  have hz : ((m : Int) != (m : Int)) = false := by simp
  clear ha hb hm
  go_enter Tryz.func190, Tryz.ntmps190
  go_wp2_with fail
  go_loopw [5] (fun i wr => ∃ k q : Nat, k ≤ m ∧ i = .int .i64 k ∧ wr = w.drewN q) (fun i _ => m - (intOf i).toNat)
  case atStart => exact ⟨0, 0, Nat.zero_le _, rfl, rfl⟩
  case round =>
    obtain ⟨k, q, hk, rfl, rfl⟩ := hrel
    by_cases hlt : k < m
    · have hkl : k < L.length := by rw [← HM.out]; exact hlt
      obtain ⟨y, hx⟩ : ∃ y, L[k]? = some y := ⟨_, List.getElem?_eq_getElem hkl⟩
      obtain ⟨_, b1, o1, e1, i0⟩ := HA.out.at encG_ok hx
      obtain ⟨_, b2, o2, e2, j0⟩ := HB.out.at encG_ok hx
      cases e1
      cases e2
      have a0 := i0 0 _ rfl
      have d0 := j0 0 _ rfl
      have a1 := i0 1 _ rfl
      have d1 := j0 1 _ rfl
      rw [Nat.add_zero] at a0 d0
      have z2 := eq2_selfS y.1 y.2
      have hk0 : (0 : Int) ≤ (k : Int) := by omega
      have hkn : (k : Int) < (m : Int) := by omega
      clear hx i0 j0 hkl
      go_wp2_with fail
      go_quiet (fail)
      go_wp2_with fail
      go_roundw
      case rel => exact ⟨k + 1, _, by omega, by go_num, rfl⟩
      case measure => simp [intOf]; omega
    · have l1 : decide ((k : Int) < (m : Int)) = false := decide_eq_false (by omega)
      have l2 : decide (k < m) = false := decide_eq_false hlt
      have l3 : (k < m) = False := eq_false hlt
      clear hk hlt
      go_wp2_with fail
      go_ret
      exact ⟨rfl, below_drewN (Below.refl _ _) _⟩
set_option maxRecDepth 100000 in
set_option maxHeartbeats 2000000 in
theorem sameListTs_at (va vb : Value) (L : List (TVw)) (w : World) (ha : RecsAt encTl w va L) (hb : RecsAt encTl w vb L) (h1 : L.length ≤ 1000000) :
    Calls Tryz.prog 116 #[va, vb] w fun e w' => e = .returned (.bool true) ∧ Below w.heap.size w w' := by
  obtain ⟨a, ca, rfl, -⟩ := id ha
  obtain ⟨b, cb, rfl, -⟩ := id hb
  obtain ⟨m, hm⟩ : ∃ m, m = L.length := ⟨_, rfl⟩
  have HM := Lib.hid hm
  have HA := Lib.hid ha
  have HB := Lib.hid hb
  rw [← hm] at h1 ⊢
  have hz : ((m : Int) != (m : Int)) = false := by simp
  clear ha hb hm
  go_enter Tryz.func116, Tryz.ntmps116
  go_wp2_with fail
  go_loopw [5] (fun i wr => ∃ k q : Nat, k ≤ m ∧ i = .int .i64 k ∧ wr = w.drewN q) (fun i _ => m - (intOf i).toNat)
  case atStart => exact ⟨0, 0, Nat.zero_le _, rfl, rfl⟩
  case round =>
    obtain ⟨k, q, hk, rfl, rfl⟩ := hrel
    by_cases hlt : k < m
    · have hkl : k < L.length := by rw [← HM.out]; exact hlt
      obtain ⟨y, hx⟩ : ∃ y, L[k]? = some y := ⟨_, List.getElem?_eq_getElem hkl⟩
      obtain ⟨_, b1, o1, e1, i0⟩ := HA.out.at encTl_ok hx
      obtain ⟨_, b2, o2, e2, j0⟩ := HB.out.at encTl_ok hx
      cases e1
      cases e2
      have a0 := i0 0 _ rfl
      have d0 := j0 0 _ rfl
      have a1 := i0 1 _ rfl
      have d1 := j0 1 _ rfl
      have a2 := i0 2 _ rfl
      have d2 := j0 2 _ rfl
      have a3 := i0 3 _ rfl
      have d3 := j0 3 _ rfl
      have a4 := i0 4 _ rfl
      have d4 := j0 4 _ rfl
      have a5 := i0 5 _ rfl
      have d5 := j0 5 _ rfl
      have a6 := i0 6 _ rfl
      have d6 := j0 6 _ rfl
      have a7 := i0 7 _ rfl
      have d7 := j0 7 _ rfl
      rw [Nat.add_zero] at a0 d0
      have hk0 : (0 : Int) ≤ (k : Int) := by omega
      have hkn : (k : Int) < (m : Int) := by omega
      clear hx i0 j0 hkl
      go_wp2_with fail
      go_quiet (fail)
      go_wp2_with fail
      go_roundw
      case rel => exact ⟨k + 1, _, by omega, by go_num, rfl⟩
      case measure => simp [intOf]; omega
    · have l1 : decide ((k : Int) < (m : Int)) = false := decide_eq_false (by omega)
      have l2 : decide (k < m) = false := decide_eq_false hlt
      have l3 : (k < m) = False := eq_false hlt
      clear hk hlt
      go_wp2_with fail
      go_ret
      exact ⟨rfl, below_drewN (Below.refl _ _) _⟩
set_option maxRecDepth 100000 in
set_option maxHeartbeats 2000000 in
theorem sameListSs_at (va vb : Value) (L : List (Int × Int × Int)) (w : World) (ha : RecsAt encSp w va L) (hb : RecsAt encSp w vb L) (h1 : L.length ≤ 1000000) :
    Calls Tryz.prog 117 #[va, vb] w fun e w' => e = .returned (.bool true) ∧ Below w.heap.size w w' := by
  obtain ⟨a, ca, rfl, -⟩ := id ha
  obtain ⟨b, cb, rfl, -⟩ := id hb
  obtain ⟨m, hm⟩ : ∃ m, m = L.length := ⟨_, rfl⟩
  have HM := Lib.hid hm
  have HA := Lib.hid ha
  have HB := Lib.hid hb
  rw [← hm] at h1 ⊢
  have hz : ((m : Int) != (m : Int)) = false := by simp
  clear ha hb hm
  go_enter Tryz.func117, Tryz.ntmps117
  go_wp2_with fail
  go_loopw [5] (fun i wr => ∃ k q : Nat, k ≤ m ∧ i = .int .i64 k ∧ wr = w.drewN q) (fun i _ => m - (intOf i).toNat)
  case atStart => exact ⟨0, 0, Nat.zero_le _, rfl, rfl⟩
  case round =>
    obtain ⟨k, q, hk, rfl, rfl⟩ := hrel
    by_cases hlt : k < m
    · have hkl : k < L.length := by rw [← HM.out]; exact hlt
      obtain ⟨y, hx⟩ : ∃ y, L[k]? = some y := ⟨_, List.getElem?_eq_getElem hkl⟩
      obtain ⟨_, b1, o1, e1, i0⟩ := HA.out.at encSp_ok hx
      obtain ⟨_, b2, o2, e2, j0⟩ := HB.out.at encSp_ok hx
      cases e1
      cases e2
      have a0 := i0 0 _ rfl
      have d0 := j0 0 _ rfl
      have a1 := i0 1 _ rfl
      have d1 := j0 1 _ rfl
      have a2 := i0 2 _ rfl
      have d2 := j0 2 _ rfl
      rw [Nat.add_zero] at a0 d0
      have hk0 : (0 : Int) ≤ (k : Int) := by omega
      have hkn : (k : Int) < (m : Int) := by omega
      clear hx i0 j0 hkl
      go_wp2_with fail
      go_quiet (fail)
      go_wp2_with fail
      go_roundw
      case rel => exact ⟨k + 1, _, by omega, by go_num, rfl⟩
      case measure => simp [intOf]; omega
    · have l1 : decide ((k : Int) < (m : Int)) = false := decide_eq_false (by omega)
      have l2 : decide (k < m) = false := decide_eq_false hlt
      have l3 : (k < m) = False := eq_false hlt
      clear hk hlt
      go_wp2_with fail
      go_ret
      exact ⟨rfl, below_drewN (Below.refl _ _) _⟩
set_option maxRecDepth 100000 in
set_option maxHeartbeats 2000000 in
theorem SameIntsS_at (va vb : Value) (L : List (Int)) (w : World) (ha : RecsAt encZ1 w va L) (hb : RecsAt encZ1 w vb L) (h1 : L.length ≤ 1000000) :
    Calls Tryz.prog 57 #[va, vb] w fun e w' => e = .returned (.bool true) ∧ Below w.heap.size w w' := by
  obtain ⟨a, ca, rfl, -⟩ := id ha
  obtain ⟨b, cb, rfl, -⟩ := id hb
  obtain ⟨m, hm⟩ : ∃ m, m = L.length := ⟨_, rfl⟩
  have HM := Lib.hid hm
  have HA := Lib.hid ha
  have HB := Lib.hid hb
  rw [← hm] at h1 ⊢
  have hz : ((m : Int) != (m : Int)) = false := by simp
  clear ha hb hm
  go_enter Tryz.func57, Tryz.ntmps57
  go_wp2_with fail
  go_loopw [5] (fun i wr => ∃ k q : Nat, k ≤ m ∧ i = .int .i64 k ∧ wr = w.drewN q) (fun i _ => m - (intOf i).toNat)
  case atStart => exact ⟨0, 0, Nat.zero_le _, rfl, rfl⟩
  case round =>
    obtain ⟨k, q, hk, rfl, rfl⟩ := hrel
    by_cases hlt : k < m
    · have hkl : k < L.length := by rw [← HM.out]; exact hlt
      obtain ⟨y, hx⟩ : ∃ y, L[k]? = some y := ⟨_, List.getElem?_eq_getElem hkl⟩
      obtain ⟨_, b1, o1, e1, i0⟩ := HA.out.at encZ1_ok hx
      obtain ⟨_, b2, o2, e2, j0⟩ := HB.out.at encZ1_ok hx
      cases e1
      cases e2
      have a0 := i0 0 _ rfl
      have d0 := j0 0 _ rfl
      rw [Nat.add_zero] at a0 d0
      rw [Nat.mul_one] at a0 d0
      have hk0 : (0 : Int) ≤ (k : Int) := by omega
      have hkn : (k : Int) < (m : Int) := by omega
      clear hx i0 j0 hkl
      go_wp2_with fail
      go_quiet (fail)
      go_wp2_with fail
      go_roundw
      case rel => exact ⟨k + 1, _, by omega, by go_num, rfl⟩
      case measure => simp [intOf]; omega
    · have l1 : decide ((k : Int) < (m : Int)) = false := decide_eq_false (by omega)
      have l2 : decide (k < m) = false := decide_eq_false hlt
      have l3 : (k < m) = False := eq_false hlt
      clear hk hlt
      go_wp2_with fail
      go_ret
      exact ⟨rfl, below_drewN (Below.refl _ _) _⟩
theorem SameGroupsS_at (va vb : Value) (L : List (Int × Int)) (w : World) (ha : RecsAt encG w va L) (hb : RecsAt encG w vb L) (h1 : L.length ≤ 1000000) :
    Calls Tryz.prog 115 #[va, vb] w fun e w' => e = .returned (.bool true) ∧ Below w.heap.size w w' := by
  have A1 := Lib.hid (sameListGs_at va vb L w ha hb h1)
  clear ha hb
  go_enter Tryz.func115, Tryz.ntmps115
  go_wp2_with fail
  refine A1.out.mono ?_
  rintro e w1 ⟨rfl, hb⟩
  go_wp2_with fail
  go_ret
  exact ⟨rfl, hb⟩
theorem SameTasksS_at (va vb : Value) (L : List (TVw)) (w : World) (ha : RecsAt encTl w va L) (hb : RecsAt encTl w vb L) (h1 : L.length ≤ 1000000) :
    Calls Tryz.prog 58 #[va, vb] w fun e w' => e = .returned (.bool true) ∧ Below w.heap.size w w' := by
  have A1 := Lib.hid (sameListTs_at va vb L w ha hb h1)
  clear ha hb
  go_enter Tryz.func58, Tryz.ntmps58
  go_wp2_with fail
  refine A1.out.mono ?_
  rintro e w1 ⟨rfl, hb⟩
  go_wp2_with fail
  go_ret
  exact ⟨rfl, hb⟩
theorem SameSpotsS_at (va vb : Value) (L : List (Int × Int × Int)) (w : World) (ha : RecsAt encSp w va L) (hb : RecsAt encSp w vb L) (h1 : L.length ≤ 1000000) :
    Calls Tryz.prog 59 #[va, vb] w fun e w' => e = .returned (.bool true) ∧ Below w.heap.size w w' := by
  have A1 := Lib.hid (sameListSs_at va vb L w ha hb h1)
  clear ha hb
  go_enter Tryz.func59, Tryz.ntmps59
  go_wp2_with fail
  refine A1.out.mono ?_
  rintro e w1 ⟨rfl, hb⟩
  go_wp2_with fail
  go_ret
  exact ⟨rfl, hb⟩
set_option maxRecDepth 100000 in
set_option maxHeartbeats 2000000 in
theorem SameConfigS_at (va vb : Value) (C cr : Int) (Gs : Grps) (w : World) (ha : RecsAt encG w va Gs) (hb : RecsAt encG w vb Gs) (h1 : Gs.length ≤ 1000000) :
    Calls Tryz.prog 56 #[.agg #[.int .i64 C, .int .u64 cr, va], .agg #[.int .i64 C, .int .u64 cr, vb]] w fun e w' => e = .returned (.bool true) ∧ Below w.heap.size w w' := by
  have A1 := Lib.hid fun W (h : Below w.heap.size w W) => SameGroupsS_at va vb Gs W (ha.later h) (hb.later h) h1
  obtain ⟨a, ca, rfl, -⟩ := id ha
  obtain ⟨b, cb, rfl, -⟩ := id hb
  obtain ⟨n, hn⟩ : ∃ n, n = Gs.length := ⟨_, rfl⟩
  rw [← hn] at A1 ⊢
  have z1 : (C == C) = true := by simp
  have z2 : (cr == cr) = true := by simp
  have HB0 := Lib.hid (show Below w.heap.size w ((w.alloc (.cells #[.int .i64 C, .int .u64 cr, .slice a n ca] 37)).alloc (.cells #[.int .i64 C, .int .u64 cr, .slice b n cb] 37)) from Below.allocS (Below.allocS (Below.refl _ _) _) _)
  have A2 := Lib.hid (A1.out _ HB0.out)
  clear ha hb hn A1
  go_enter Tryz.func56, Tryz.ntmps56
  go_wp2_with fail
  refine A2.out.mono ?_
  rintro e w1 ⟨rfl, hb⟩
  go_wp2_with fail
  go_ret
  exact ⟨rfl, Below.step HB0.out hb⟩
/-- no list of the state is very long -/
structure StaSmall (σ : Sta) : Prop where
  gs : σ.Gs.length ≤ 1000000
  cl : σ.cl.length ≤ 1000000
  cu : σ.cu.length ≤ 1000000
  ts : σ.ts.length ≤ 1000000
  sp : σ.sp.length ≤ 1000000
  row : ∀ (i : Nat) (x : List (Int × Int × Int)), σ.sp[i]? = some x → x.length ≤ 1000000
set_option maxRecDepth 100000 in
theorem staOf_tsE (s : SSt) : (staOf s).ts = (keysL s).map (viewOf s) := by unfold staOf; exact rfl
theorem staOf_ts {s : SSt} (h : SOk s) : (staOf s).ts.length = s.c := by
  rw [staOf_tsE, List.length_map]
  exact h.keys_len
theorem staOf_sp (s : SSt) : (staOf s).sp.length = s.n := (List.length_map ..).trans (List.length_range ..)
theorem staOf_cl (s : SSt) : (staOf s).cl.length = s.C := (List.length_map ..).trans (List.length_range ..)
theorem staOf_cu (s : SSt) : (staOf s).cu.length = s.C := (List.length_map ..).trans (List.length_range ..)
theorem staOf_row {s : SSt} {i : Nat} {x : List (Int × Int × Int)} (h : (staOf s).sp[i]? = some x) : x.length = s.C := by
  have h1 : ((List.range s.n).map (spRow s))[i]? = some x := h
  rw [List.getElem?_map] at h1
  obtain ⟨j, _, e⟩ := Option.map_eq_some_iff.1 h1
  rw [← e]
  exact (List.length_map ..).trans (List.length_range ..)
theorem staOf_small {s : SSt} (h : SOk s) : StaSmall (staOf s) := by
  have h1 : s.n ≤ 256 := h.right.le
  have h2 := h.cpus
  have h3 := h.few
  constructor
  · have e : (staOf s).Gs.length = s.n := rfl
    rw [e]; omega
  · rw [staOf_cl]; omega
  · rw [staOf_cu]; omega
  · rw [staOf_ts h]; omega
  · rw [staOf_sp]; omega
  · intro i x hx
    rw [staOf_row hx]; omega
set_option maxRecDepth 100000 in
set_option maxHeartbeats 4000000 in
theorem SameStateS_at (va vb : Value) (σ : Sta) (w : World) (ha : StaH [] w va σ) (hb : StaH [] w vb σ) (hs : StaSmall σ) :
    Calls Tryz.prog 19 #[va, vb] w fun e w' => e = .returned (.bool true) ∧ Below w.heap.size w w' := by
  obtain ⟨ag, al, au, at', as', rfl, g1, l1, u1, t1, s1⟩ := ha.is
  obtain ⟨bg, bl, bu, bt, bs, rfl, g2, l2, u2, t2, s2⟩ := hb.is
  obtain ⟨q1, n1, r1, p1⟩ := s1.rows
  obtain ⟨q2, n2, r2, p2⟩ := s2.rows
  have G := Lib.hid fun W (h : Below w.heap.size w W) => SameConfigS_at ag bg σ.C σ.cr σ.Gs W (g1.recs.later h) (g2.recs.later h) hs.gs
  have CL := Lib.hid fun W (h : Below w.heap.size w W) => SameIntsS_at al bl σ.cl W (l1.recs.later h) (l2.recs.later h) hs.cl
  have CU := Lib.hid fun W (h : Below w.heap.size w W) => SameIntsS_at au bu σ.cu W (u1.recs.later h) (u2.recs.later h) hs.cu
  have TS := Lib.hid fun W (h : Below w.heap.size w W) => SameTasksS_at at' bt σ.ts W (t1.recs.later h) (t2.recs.later h) hs.ts
  obtain ⟨m, hm⟩ : ∃ m, m = σ.sp.length := ⟨_, rfl⟩
  have hq1 : q1.length = m := n1.trans hm.symm
  have hq2 : q2.length = m := n2.trans hm.symm
  have hm6 : m ≤ 1000000 := by rw [hm]; exact hs.sp
  obtain ⟨aa, ca, rfl, -⟩ := id r1
  obtain ⟨ab, cb, rfl, -⟩ := id r2
  obtain ⟨a0, k0, rfl, -⟩ := id g1
  obtain ⟨b0, j0, rfl, -⟩ := id g2
  obtain ⟨a1, k1, rfl, -⟩ := id l1
  obtain ⟨b1, j1, rfl, -⟩ := id l2
  obtain ⟨a2, k2, rfl, -⟩ := id u1
  obtain ⟨b2, j2, rfl, -⟩ := id u2
  obtain ⟨a3, k3, rfl, -⟩ := id t1
  obtain ⟨b3, j3, rfl, -⟩ := id t2
  have R1 := Lib.hid r1.recs
  have R2 := Lib.hid r2.recs
  have P1 := Lib.hid p1
  have P2 := Lib.hid p2
  have HS := Lib.hid hs
  rw [hq1] at R1 ⊢
  rw [hq2] at R2 ⊢
  have HQ1 := Lib.hid hq1
  have HQ2 := Lib.hid hq2
  have HM := Lib.hid hm
  obtain ⟨ng, hng⟩ : ∃ n, n = σ.Gs.length := ⟨_, rfl⟩
  obtain ⟨nl, hnl⟩ : ∃ n, n = σ.cl.length := ⟨_, rfl⟩
  obtain ⟨nu, hnu⟩ : ∃ n, n = σ.cu.length := ⟨_, rfl⟩
  obtain ⟨nt, hnt⟩ : ∃ n, n = σ.ts.length := ⟨_, rfl⟩
  rw [← hng] at G ⊢
  rw [← hnl] at CL ⊢
  rw [← hnu] at CU ⊢
  rw [← hnt] at TS ⊢
  have hz : ((m : Int) != (m : Int)) = false := by simp
  clear ha hb hs g1 g2 l1 l2 u1 u2 t1 t2 s1 s2 r1 r2 p1 p2 n1 n2 hq1 hq2 hm hng hnl hnu hnt
  obtain ⟨W1, hW1⟩ : ∃ W, W = (w.alloc (.cells #[.int .i64 σ.C, .int .u64 σ.cr, .slice a0 ng k0, .slice a1 nl k1, .slice a2 nu k2, .slice a3 nt k3, .slice aa m ca] 46)).alloc (.cells #[.int .i64 σ.C, .int .u64 σ.cr, .slice b0 ng j0, .slice b1 nl j1, .slice b2 nu j2, .slice b3 nt j3, .slice ab m cb] 46) := ⟨_, rfl⟩
  have HB1 := Lib.hid (show Below w.heap.size w W1 by rw [hW1]; exact Below.allocS (Below.allocS (Below.refl _ _) _) _)
  have c0 : W1.cell? ⟨w.heap.size, 0, none⟩ = some (.int .i64 σ.C) := by rw [hW1]; exact cell_al _ (cell_nw _ _ _ 0 _ rfl)
  have d0 : W1.cell? ⟨w.heap.size + 1, 0, none⟩ = some (.int .i64 σ.C) := by rw [hW1]; exact cellN (by simp) rfl
  have c1 : W1.cell? ⟨w.heap.size, 1, none⟩ = some (.int .u64 σ.cr) := by rw [hW1]; exact cell_al _ (cell_nw _ _ _ 1 _ rfl)
  have d1 : W1.cell? ⟨w.heap.size + 1, 1, none⟩ = some (.int .u64 σ.cr) := by rw [hW1]; exact cellN (by simp) rfl
  have c2 : W1.cell? ⟨w.heap.size, 2, none⟩ = some (.slice a0 ng k0) := by rw [hW1]; exact cell_al _ (cell_nw _ _ _ 2 _ rfl)
  have d2 : W1.cell? ⟨w.heap.size + 1, 2, none⟩ = some (.slice b0 ng j0) := by rw [hW1]; exact cellN (by simp) rfl
  have c3 : W1.cell? ⟨w.heap.size, 3, none⟩ = some (.slice a1 nl k1) := by rw [hW1]; exact cell_al _ (cell_nw _ _ _ 3 _ rfl)
  have d3 : W1.cell? ⟨w.heap.size + 1, 3, none⟩ = some (.slice b1 nl j1) := by rw [hW1]; exact cellN (by simp) rfl
  have c4 : W1.cell? ⟨w.heap.size, 4, none⟩ = some (.slice a2 nu k2) := by rw [hW1]; exact cell_al _ (cell_nw _ _ _ 4 _ rfl)
  have d4 : W1.cell? ⟨w.heap.size + 1, 4, none⟩ = some (.slice b2 nu j2) := by rw [hW1]; exact cellN (by simp) rfl
  have c5 : W1.cell? ⟨w.heap.size, 5, none⟩ = some (.slice a3 nt k3) := by rw [hW1]; exact cell_al _ (cell_nw _ _ _ 5 _ rfl)
  have d5 : W1.cell? ⟨w.heap.size + 1, 5, none⟩ = some (.slice b3 nt j3) := by rw [hW1]; exact cellN (by simp) rfl
  have c6 : W1.cell? ⟨w.heap.size, 6, none⟩ = some (.slice aa m ca) := by rw [hW1]; exact cell_al _ (cell_nw _ _ _ 6 _ rfl)
  have d6 : W1.cell? ⟨w.heap.size + 1, 6, none⟩ = some (.slice ab m cb) := by rw [hW1]; exact cellN (by simp) rfl
  have HW1 := Lib.hid hW1
  obtain ⟨ba, hba⟩ : ∃ b, b = w.heap.size := ⟨_, rfl⟩
  obtain ⟨bb, hbb⟩ : ∃ b, b = w.heap.size + 1 := ⟨_, rfl⟩
  rw [← hba] at c0 c1 c2 c3 c4 c5 c6
  rw [← hbb] at d0 d1 d2 d3 d4 d5 d6
  have HBA := Lib.hid hba
  have HBB := Lib.hid hbb
  clear hW1 hba hbb
  go_enter Tryz.func19, Tryz.ntmps19
  go_upto_region 1 with fail
  rw [← HW1.out]
  rw [← HBB.out, ← HBA.out]
  clear HW1 HBA HBB
  go_wp2_with fail
  refine (G.out W1 HB1.out).mono ?_; rintro e w2 ⟨rfl, hb2⟩
  replace c0 : w2.cell? ⟨ba, 0, none⟩ = some (.int .i64 σ.C) := by first | exact cell_later hb2 (c0) | exact cell_later hb2 (cell_al _ (c0)) | exact cell_later hb2 (cell_al _ (cell_al _ (c0))) | exact cell_later hb2 (cell_dr (c0)) | exact cell_later hb2 (cell_dr (cell_al _ (c0))) | exact cell_later hb2 (cell_drN _ (c0)) | exact cell_later hb2 (cell_drN _ (cell_al _ (c0)))
  replace d0 : w2.cell? ⟨bb, 0, none⟩ = some (.int .i64 σ.C) := by first | exact cell_later hb2 (d0) | exact cell_later hb2 (cell_al _ (d0)) | exact cell_later hb2 (cell_al _ (cell_al _ (d0))) | exact cell_later hb2 (cell_dr (d0)) | exact cell_later hb2 (cell_dr (cell_al _ (d0))) | exact cell_later hb2 (cell_drN _ (d0)) | exact cell_later hb2 (cell_drN _ (cell_al _ (d0)))
  replace c1 : w2.cell? ⟨ba, 1, none⟩ = some (.int .u64 σ.cr) := by first | exact cell_later hb2 (c1) | exact cell_later hb2 (cell_al _ (c1)) | exact cell_later hb2 (cell_al _ (cell_al _ (c1))) | exact cell_later hb2 (cell_dr (c1)) | exact cell_later hb2 (cell_dr (cell_al _ (c1))) | exact cell_later hb2 (cell_drN _ (c1)) | exact cell_later hb2 (cell_drN _ (cell_al _ (c1)))
  replace d1 : w2.cell? ⟨bb, 1, none⟩ = some (.int .u64 σ.cr) := by first | exact cell_later hb2 (d1) | exact cell_later hb2 (cell_al _ (d1)) | exact cell_later hb2 (cell_al _ (cell_al _ (d1))) | exact cell_later hb2 (cell_dr (d1)) | exact cell_later hb2 (cell_dr (cell_al _ (d1))) | exact cell_later hb2 (cell_drN _ (d1)) | exact cell_later hb2 (cell_drN _ (cell_al _ (d1)))
  replace c2 : w2.cell? ⟨ba, 2, none⟩ = some (.slice a0 ng k0) := by first | exact cell_later hb2 (c2) | exact cell_later hb2 (cell_al _ (c2)) | exact cell_later hb2 (cell_al _ (cell_al _ (c2))) | exact cell_later hb2 (cell_dr (c2)) | exact cell_later hb2 (cell_dr (cell_al _ (c2))) | exact cell_later hb2 (cell_drN _ (c2)) | exact cell_later hb2 (cell_drN _ (cell_al _ (c2)))
  replace d2 : w2.cell? ⟨bb, 2, none⟩ = some (.slice b0 ng j0) := by first | exact cell_later hb2 (d2) | exact cell_later hb2 (cell_al _ (d2)) | exact cell_later hb2 (cell_al _ (cell_al _ (d2))) | exact cell_later hb2 (cell_dr (d2)) | exact cell_later hb2 (cell_dr (cell_al _ (d2))) | exact cell_later hb2 (cell_drN _ (d2)) | exact cell_later hb2 (cell_drN _ (cell_al _ (d2)))
  replace c3 : w2.cell? ⟨ba, 3, none⟩ = some (.slice a1 nl k1) := by first | exact cell_later hb2 (c3) | exact cell_later hb2 (cell_al _ (c3)) | exact cell_later hb2 (cell_al _ (cell_al _ (c3))) | exact cell_later hb2 (cell_dr (c3)) | exact cell_later hb2 (cell_dr (cell_al _ (c3))) | exact cell_later hb2 (cell_drN _ (c3)) | exact cell_later hb2 (cell_drN _ (cell_al _ (c3)))
  replace d3 : w2.cell? ⟨bb, 3, none⟩ = some (.slice b1 nl j1) := by first | exact cell_later hb2 (d3) | exact cell_later hb2 (cell_al _ (d3)) | exact cell_later hb2 (cell_al _ (cell_al _ (d3))) | exact cell_later hb2 (cell_dr (d3)) | exact cell_later hb2 (cell_dr (cell_al _ (d3))) | exact cell_later hb2 (cell_drN _ (d3)) | exact cell_later hb2 (cell_drN _ (cell_al _ (d3)))
  replace c4 : w2.cell? ⟨ba, 4, none⟩ = some (.slice a2 nu k2) := by first | exact cell_later hb2 (c4) | exact cell_later hb2 (cell_al _ (c4)) | exact cell_later hb2 (cell_al _ (cell_al _ (c4))) | exact cell_later hb2 (cell_dr (c4)) | exact cell_later hb2 (cell_dr (cell_al _ (c4))) | exact cell_later hb2 (cell_drN _ (c4)) | exact cell_later hb2 (cell_drN _ (cell_al _ (c4)))
  replace d4 : w2.cell? ⟨bb, 4, none⟩ = some (.slice b2 nu j2) := by first | exact cell_later hb2 (d4) | exact cell_later hb2 (cell_al _ (d4)) | exact cell_later hb2 (cell_al _ (cell_al _ (d4))) | exact cell_later hb2 (cell_dr (d4)) | exact cell_later hb2 (cell_dr (cell_al _ (d4))) | exact cell_later hb2 (cell_drN _ (d4)) | exact cell_later hb2 (cell_drN _ (cell_al _ (d4)))
  replace c5 : w2.cell? ⟨ba, 5, none⟩ = some (.slice a3 nt k3) := by first | exact cell_later hb2 (c5) | exact cell_later hb2 (cell_al _ (c5)) | exact cell_later hb2 (cell_al _ (cell_al _ (c5))) | exact cell_later hb2 (cell_dr (c5)) | exact cell_later hb2 (cell_dr (cell_al _ (c5))) | exact cell_later hb2 (cell_drN _ (c5)) | exact cell_later hb2 (cell_drN _ (cell_al _ (c5)))
  replace d5 : w2.cell? ⟨bb, 5, none⟩ = some (.slice b3 nt j3) := by first | exact cell_later hb2 (d5) | exact cell_later hb2 (cell_al _ (d5)) | exact cell_later hb2 (cell_al _ (cell_al _ (d5))) | exact cell_later hb2 (cell_dr (d5)) | exact cell_later hb2 (cell_dr (cell_al _ (d5))) | exact cell_later hb2 (cell_drN _ (d5)) | exact cell_later hb2 (cell_drN _ (cell_al _ (d5)))
  replace c6 : w2.cell? ⟨ba, 6, none⟩ = some (.slice aa m ca) := by first | exact cell_later hb2 (c6) | exact cell_later hb2 (cell_al _ (c6)) | exact cell_later hb2 (cell_al _ (cell_al _ (c6))) | exact cell_later hb2 (cell_dr (c6)) | exact cell_later hb2 (cell_dr (cell_al _ (c6))) | exact cell_later hb2 (cell_drN _ (c6)) | exact cell_later hb2 (cell_drN _ (cell_al _ (c6)))
  replace d6 : w2.cell? ⟨bb, 6, none⟩ = some (.slice ab m cb) := by first | exact cell_later hb2 (d6) | exact cell_later hb2 (cell_al _ (d6)) | exact cell_later hb2 (cell_al _ (cell_al _ (d6))) | exact cell_later hb2 (cell_dr (d6)) | exact cell_later hb2 (cell_dr (cell_al _ (d6))) | exact cell_later hb2 (cell_drN _ (d6)) | exact cell_later hb2 (cell_drN _ (cell_al _ (d6)))
  have c0_1 := fun o1 => cell_al o1 (c0)
  have d0_1 := fun o1 => cell_al o1 (d0)
  have c1_1 := fun o1 => cell_al o1 (c1)
  have d1_1 := fun o1 => cell_al o1 (d1)
  have c2_1 := fun o1 => cell_al o1 (c2)
  have d2_1 := fun o1 => cell_al o1 (d2)
  have c3_1 := fun o1 => cell_al o1 (c3)
  have d3_1 := fun o1 => cell_al o1 (d3)
  have c4_1 := fun o1 => cell_al o1 (c4)
  have d4_1 := fun o1 => cell_al o1 (d4)
  have c5_1 := fun o1 => cell_al o1 (c5)
  have d5_1 := fun o1 => cell_al o1 (d5)
  have c6_1 := fun o1 => cell_al o1 (c6)
  have d6_1 := fun o1 => cell_al o1 (d6)
  have HB2 := Lib.hid (Below.step HB1.out hb2)
  clear c0_1 d0_1 c1_1 d1_1 c2_1 d2_1 c3_1 d3_1 c4_1 d4_1 c5_1 d5_1 c6_1 d6_1
  go_wp2_with fail
  refine (CL.out w2 HB2.out).mono ?_; rintro e w3 ⟨rfl, hb3⟩
  replace c0 : w3.cell? ⟨ba, 0, none⟩ = some (.int .i64 σ.C) := by first | exact cell_later hb3 (c0) | exact cell_later hb3 (cell_al _ (c0)) | exact cell_later hb3 (cell_al _ (cell_al _ (c0))) | exact cell_later hb3 (cell_dr (c0)) | exact cell_later hb3 (cell_dr (cell_al _ (c0))) | exact cell_later hb3 (cell_drN _ (c0)) | exact cell_later hb3 (cell_drN _ (cell_al _ (c0)))
  replace d0 : w3.cell? ⟨bb, 0, none⟩ = some (.int .i64 σ.C) := by first | exact cell_later hb3 (d0) | exact cell_later hb3 (cell_al _ (d0)) | exact cell_later hb3 (cell_al _ (cell_al _ (d0))) | exact cell_later hb3 (cell_dr (d0)) | exact cell_later hb3 (cell_dr (cell_al _ (d0))) | exact cell_later hb3 (cell_drN _ (d0)) | exact cell_later hb3 (cell_drN _ (cell_al _ (d0)))
  replace c1 : w3.cell? ⟨ba, 1, none⟩ = some (.int .u64 σ.cr) := by first | exact cell_later hb3 (c1) | exact cell_later hb3 (cell_al _ (c1)) | exact cell_later hb3 (cell_al _ (cell_al _ (c1))) | exact cell_later hb3 (cell_dr (c1)) | exact cell_later hb3 (cell_dr (cell_al _ (c1))) | exact cell_later hb3 (cell_drN _ (c1)) | exact cell_later hb3 (cell_drN _ (cell_al _ (c1)))
  replace d1 : w3.cell? ⟨bb, 1, none⟩ = some (.int .u64 σ.cr) := by first | exact cell_later hb3 (d1) | exact cell_later hb3 (cell_al _ (d1)) | exact cell_later hb3 (cell_al _ (cell_al _ (d1))) | exact cell_later hb3 (cell_dr (d1)) | exact cell_later hb3 (cell_dr (cell_al _ (d1))) | exact cell_later hb3 (cell_drN _ (d1)) | exact cell_later hb3 (cell_drN _ (cell_al _ (d1)))
  replace c2 : w3.cell? ⟨ba, 2, none⟩ = some (.slice a0 ng k0) := by first | exact cell_later hb3 (c2) | exact cell_later hb3 (cell_al _ (c2)) | exact cell_later hb3 (cell_al _ (cell_al _ (c2))) | exact cell_later hb3 (cell_dr (c2)) | exact cell_later hb3 (cell_dr (cell_al _ (c2))) | exact cell_later hb3 (cell_drN _ (c2)) | exact cell_later hb3 (cell_drN _ (cell_al _ (c2)))
  replace d2 : w3.cell? ⟨bb, 2, none⟩ = some (.slice b0 ng j0) := by first | exact cell_later hb3 (d2) | exact cell_later hb3 (cell_al _ (d2)) | exact cell_later hb3 (cell_al _ (cell_al _ (d2))) | exact cell_later hb3 (cell_dr (d2)) | exact cell_later hb3 (cell_dr (cell_al _ (d2))) | exact cell_later hb3 (cell_drN _ (d2)) | exact cell_later hb3 (cell_drN _ (cell_al _ (d2)))
  replace c3 : w3.cell? ⟨ba, 3, none⟩ = some (.slice a1 nl k1) := by first | exact cell_later hb3 (c3) | exact cell_later hb3 (cell_al _ (c3)) | exact cell_later hb3 (cell_al _ (cell_al _ (c3))) | exact cell_later hb3 (cell_dr (c3)) | exact cell_later hb3 (cell_dr (cell_al _ (c3))) | exact cell_later hb3 (cell_drN _ (c3)) | exact cell_later hb3 (cell_drN _ (cell_al _ (c3)))
  replace d3 : w3.cell? ⟨bb, 3, none⟩ = some (.slice b1 nl j1) := by first | exact cell_later hb3 (d3) | exact cell_later hb3 (cell_al _ (d3)) | exact cell_later hb3 (cell_al _ (cell_al _ (d3))) | exact cell_later hb3 (cell_dr (d3)) | exact cell_later hb3 (cell_dr (cell_al _ (d3))) | exact cell_later hb3 (cell_drN _ (d3)) | exact cell_later hb3 (cell_drN _ (cell_al _ (d3)))
  replace c4 : w3.cell? ⟨ba, 4, none⟩ = some (.slice a2 nu k2) := by first | exact cell_later hb3 (c4) | exact cell_later hb3 (cell_al _ (c4)) | exact cell_later hb3 (cell_al _ (cell_al _ (c4))) | exact cell_later hb3 (cell_dr (c4)) | exact cell_later hb3 (cell_dr (cell_al _ (c4))) | exact cell_later hb3 (cell_drN _ (c4)) | exact cell_later hb3 (cell_drN _ (cell_al _ (c4)))
  replace d4 : w3.cell? ⟨bb, 4, none⟩ = some (.slice b2 nu j2) := by first | exact cell_later hb3 (d4) | exact cell_later hb3 (cell_al _ (d4)) | exact cell_later hb3 (cell_al _ (cell_al _ (d4))) | exact cell_later hb3 (cell_dr (d4)) | exact cell_later hb3 (cell_dr (cell_al _ (d4))) | exact cell_later hb3 (cell_drN _ (d4)) | exact cell_later hb3 (cell_drN _ (cell_al _ (d4)))
  replace c5 : w3.cell? ⟨ba, 5, none⟩ = some (.slice a3 nt k3) := by first | exact cell_later hb3 (c5) | exact cell_later hb3 (cell_al _ (c5)) | exact cell_later hb3 (cell_al _ (cell_al _ (c5))) | exact cell_later hb3 (cell_dr (c5)) | exact cell_later hb3 (cell_dr (cell_al _ (c5))) | exact cell_later hb3 (cell_drN _ (c5)) | exact cell_later hb3 (cell_drN _ (cell_al _ (c5)))
  replace d5 : w3.cell? ⟨bb, 5, none⟩ = some (.slice b3 nt j3) := by first | exact cell_later hb3 (d5) | exact cell_later hb3 (cell_al _ (d5)) | exact cell_later hb3 (cell_al _ (cell_al _ (d5))) | exact cell_later hb3 (cell_dr (d5)) | exact cell_later hb3 (cell_dr (cell_al _ (d5))) | exact cell_later hb3 (cell_drN _ (d5)) | exact cell_later hb3 (cell_drN _ (cell_al _ (d5)))
  replace c6 : w3.cell? ⟨ba, 6, none⟩ = some (.slice aa m ca) := by first | exact cell_later hb3 (c6) | exact cell_later hb3 (cell_al _ (c6)) | exact cell_later hb3 (cell_al _ (cell_al _ (c6))) | exact cell_later hb3 (cell_dr (c6)) | exact cell_later hb3 (cell_dr (cell_al _ (c6))) | exact cell_later hb3 (cell_drN _ (c6)) | exact cell_later hb3 (cell_drN _ (cell_al _ (c6)))
  replace d6 : w3.cell? ⟨bb, 6, none⟩ = some (.slice ab m cb) := by first | exact cell_later hb3 (d6) | exact cell_later hb3 (cell_al _ (d6)) | exact cell_later hb3 (cell_al _ (cell_al _ (d6))) | exact cell_later hb3 (cell_dr (d6)) | exact cell_later hb3 (cell_dr (cell_al _ (d6))) | exact cell_later hb3 (cell_drN _ (d6)) | exact cell_later hb3 (cell_drN _ (cell_al _ (d6)))
  have c0_1 := fun o1 => cell_al o1 (c0)
  have d0_1 := fun o1 => cell_al o1 (d0)
  have c1_1 := fun o1 => cell_al o1 (c1)
  have d1_1 := fun o1 => cell_al o1 (d1)
  have c2_1 := fun o1 => cell_al o1 (c2)
  have d2_1 := fun o1 => cell_al o1 (d2)
  have c3_1 := fun o1 => cell_al o1 (c3)
  have d3_1 := fun o1 => cell_al o1 (d3)
  have c4_1 := fun o1 => cell_al o1 (c4)
  have d4_1 := fun o1 => cell_al o1 (d4)
  have c5_1 := fun o1 => cell_al o1 (c5)
  have d5_1 := fun o1 => cell_al o1 (d5)
  have c6_1 := fun o1 => cell_al o1 (c6)
  have d6_1 := fun o1 => cell_al o1 (d6)
  have HB3 := Lib.hid (Below.step HB2.out hb3)
  clear c0_1 d0_1 c1_1 d1_1 c2_1 d2_1 c3_1 d3_1 c4_1 d4_1 c5_1 d5_1 c6_1 d6_1
  go_wp2_with fail
  refine (CU.out w3 HB3.out).mono ?_; rintro e w4 ⟨rfl, hb4⟩
  replace c0 : w4.cell? ⟨ba, 0, none⟩ = some (.int .i64 σ.C) := by first | exact cell_later hb4 (c0) | exact cell_later hb4 (cell_al _ (c0)) | exact cell_later hb4 (cell_al _ (cell_al _ (c0))) | exact cell_later hb4 (cell_dr (c0)) | exact cell_later hb4 (cell_dr (cell_al _ (c0))) | exact cell_later hb4 (cell_drN _ (c0)) | exact cell_later hb4 (cell_drN _ (cell_al _ (c0)))
  replace d0 : w4.cell? ⟨bb, 0, none⟩ = some (.int .i64 σ.C) := by first | exact cell_later hb4 (d0) | exact cell_later hb4 (cell_al _ (d0)) | exact cell_later hb4 (cell_al _ (cell_al _ (d0))) | exact cell_later hb4 (cell_dr (d0)) | exact cell_later hb4 (cell_dr (cell_al _ (d0))) | exact cell_later hb4 (cell_drN _ (d0)) | exact cell_later hb4 (cell_drN _ (cell_al _ (d0)))
  replace c1 : w4.cell? ⟨ba, 1, none⟩ = some (.int .u64 σ.cr) := by first | exact cell_later hb4 (c1) | exact cell_later hb4 (cell_al _ (c1)) | exact cell_later hb4 (cell_al _ (cell_al _ (c1))) | exact cell_later hb4 (cell_dr (c1)) | exact cell_later hb4 (cell_dr (cell_al _ (c1))) | exact cell_later hb4 (cell_drN _ (c1)) | exact cell_later hb4 (cell_drN _ (cell_al _ (c1)))
  replace d1 : w4.cell? ⟨bb, 1, none⟩ = some (.int .u64 σ.cr) := by first | exact cell_later hb4 (d1) | exact cell_later hb4 (cell_al _ (d1)) | exact cell_later hb4 (cell_al _ (cell_al _ (d1))) | exact cell_later hb4 (cell_dr (d1)) | exact cell_later hb4 (cell_dr (cell_al _ (d1))) | exact cell_later hb4 (cell_drN _ (d1)) | exact cell_later hb4 (cell_drN _ (cell_al _ (d1)))
  replace c2 : w4.cell? ⟨ba, 2, none⟩ = some (.slice a0 ng k0) := by first | exact cell_later hb4 (c2) | exact cell_later hb4 (cell_al _ (c2)) | exact cell_later hb4 (cell_al _ (cell_al _ (c2))) | exact cell_later hb4 (cell_dr (c2)) | exact cell_later hb4 (cell_dr (cell_al _ (c2))) | exact cell_later hb4 (cell_drN _ (c2)) | exact cell_later hb4 (cell_drN _ (cell_al _ (c2)))
  replace d2 : w4.cell? ⟨bb, 2, none⟩ = some (.slice b0 ng j0) := by first | exact cell_later hb4 (d2) | exact cell_later hb4 (cell_al _ (d2)) | exact cell_later hb4 (cell_al _ (cell_al _ (d2))) | exact cell_later hb4 (cell_dr (d2)) | exact cell_later hb4 (cell_dr (cell_al _ (d2))) | exact cell_later hb4 (cell_drN _ (d2)) | exact cell_later hb4 (cell_drN _ (cell_al _ (d2)))
  replace c3 : w4.cell? ⟨ba, 3, none⟩ = some (.slice a1 nl k1) := by first | exact cell_later hb4 (c3) | exact cell_later hb4 (cell_al _ (c3)) | exact cell_later hb4 (cell_al _ (cell_al _ (c3))) | exact cell_later hb4 (cell_dr (c3)) | exact cell_later hb4 (cell_dr (cell_al _ (c3))) | exact cell_later hb4 (cell_drN _ (c3)) | exact cell_later hb4 (cell_drN _ (cell_al _ (c3)))
  replace d3 : w4.cell? ⟨bb, 3, none⟩ = some (.slice b1 nl j1) := by first | exact cell_later hb4 (d3) | exact cell_later hb4 (cell_al _ (d3)) | exact cell_later hb4 (cell_al _ (cell_al _ (d3))) | exact cell_later hb4 (cell_dr (d3)) | exact cell_later hb4 (cell_dr (cell_al _ (d3))) | exact cell_later hb4 (cell_drN _ (d3)) | exact cell_later hb4 (cell_drN _ (cell_al _ (d3)))
  replace c4 : w4.cell? ⟨ba, 4, none⟩ = some (.slice a2 nu k2) := by first | exact cell_later hb4 (c4) | exact cell_later hb4 (cell_al _ (c4)) | exact cell_later hb4 (cell_al _ (cell_al _ (c4))) | exact cell_later hb4 (cell_dr (c4)) | exact cell_later hb4 (cell_dr (cell_al _ (c4))) | exact cell_later hb4 (cell_drN _ (c4)) | exact cell_later hb4 (cell_drN _ (cell_al _ (c4)))
  replace d4 : w4.cell? ⟨bb, 4, none⟩ = some (.slice b2 nu j2) := by first | exact cell_later hb4 (d4) | exact cell_later hb4 (cell_al _ (d4)) | exact cell_later hb4 (cell_al _ (cell_al _ (d4))) | exact cell_later hb4 (cell_dr (d4)) | exact cell_later hb4 (cell_dr (cell_al _ (d4))) | exact cell_later hb4 (cell_drN _ (d4)) | exact cell_later hb4 (cell_drN _ (cell_al _ (d4)))
  replace c5 : w4.cell? ⟨ba, 5, none⟩ = some (.slice a3 nt k3) := by first | exact cell_later hb4 (c5) | exact cell_later hb4 (cell_al _ (c5)) | exact cell_later hb4 (cell_al _ (cell_al _ (c5))) | exact cell_later hb4 (cell_dr (c5)) | exact cell_later hb4 (cell_dr (cell_al _ (c5))) | exact cell_later hb4 (cell_drN _ (c5)) | exact cell_later hb4 (cell_drN _ (cell_al _ (c5)))
  replace d5 : w4.cell? ⟨bb, 5, none⟩ = some (.slice b3 nt j3) := by first | exact cell_later hb4 (d5) | exact cell_later hb4 (cell_al _ (d5)) | exact cell_later hb4 (cell_al _ (cell_al _ (d5))) | exact cell_later hb4 (cell_dr (d5)) | exact cell_later hb4 (cell_dr (cell_al _ (d5))) | exact cell_later hb4 (cell_drN _ (d5)) | exact cell_later hb4 (cell_drN _ (cell_al _ (d5)))
  replace c6 : w4.cell? ⟨ba, 6, none⟩ = some (.slice aa m ca) := by first | exact cell_later hb4 (c6) | exact cell_later hb4 (cell_al _ (c6)) | exact cell_later hb4 (cell_al _ (cell_al _ (c6))) | exact cell_later hb4 (cell_dr (c6)) | exact cell_later hb4 (cell_dr (cell_al _ (c6))) | exact cell_later hb4 (cell_drN _ (c6)) | exact cell_later hb4 (cell_drN _ (cell_al _ (c6)))
  replace d6 : w4.cell? ⟨bb, 6, none⟩ = some (.slice ab m cb) := by first | exact cell_later hb4 (d6) | exact cell_later hb4 (cell_al _ (d6)) | exact cell_later hb4 (cell_al _ (cell_al _ (d6))) | exact cell_later hb4 (cell_dr (d6)) | exact cell_later hb4 (cell_dr (cell_al _ (d6))) | exact cell_later hb4 (cell_drN _ (d6)) | exact cell_later hb4 (cell_drN _ (cell_al _ (d6)))
  have c0_1 := fun o1 => cell_al o1 (c0)
  have d0_1 := fun o1 => cell_al o1 (d0)
  have c1_1 := fun o1 => cell_al o1 (c1)
  have d1_1 := fun o1 => cell_al o1 (d1)
  have c2_1 := fun o1 => cell_al o1 (c2)
  have d2_1 := fun o1 => cell_al o1 (d2)
  have c3_1 := fun o1 => cell_al o1 (c3)
  have d3_1 := fun o1 => cell_al o1 (d3)
  have c4_1 := fun o1 => cell_al o1 (c4)
  have d4_1 := fun o1 => cell_al o1 (d4)
  have c5_1 := fun o1 => cell_al o1 (c5)
  have d5_1 := fun o1 => cell_al o1 (d5)
  have c6_1 := fun o1 => cell_al o1 (c6)
  have d6_1 := fun o1 => cell_al o1 (d6)
  have HB4 := Lib.hid (Below.step HB3.out hb4)
  clear c0_1 d0_1 c1_1 d1_1 c2_1 d2_1 c3_1 d3_1 c4_1 d4_1 c5_1 d5_1 c6_1 d6_1
  go_wp2_with fail
  refine (TS.out w4 HB4.out).mono ?_; rintro e w5 ⟨rfl, hb5⟩
  replace c0 : w5.cell? ⟨ba, 0, none⟩ = some (.int .i64 σ.C) := by first | exact cell_later hb5 (c0) | exact cell_later hb5 (cell_al _ (c0)) | exact cell_later hb5 (cell_al _ (cell_al _ (c0))) | exact cell_later hb5 (cell_dr (c0)) | exact cell_later hb5 (cell_dr (cell_al _ (c0))) | exact cell_later hb5 (cell_drN _ (c0)) | exact cell_later hb5 (cell_drN _ (cell_al _ (c0)))
  replace d0 : w5.cell? ⟨bb, 0, none⟩ = some (.int .i64 σ.C) := by first | exact cell_later hb5 (d0) | exact cell_later hb5 (cell_al _ (d0)) | exact cell_later hb5 (cell_al _ (cell_al _ (d0))) | exact cell_later hb5 (cell_dr (d0)) | exact cell_later hb5 (cell_dr (cell_al _ (d0))) | exact cell_later hb5 (cell_drN _ (d0)) | exact cell_later hb5 (cell_drN _ (cell_al _ (d0)))
  replace c1 : w5.cell? ⟨ba, 1, none⟩ = some (.int .u64 σ.cr) := by first | exact cell_later hb5 (c1) | exact cell_later hb5 (cell_al _ (c1)) | exact cell_later hb5 (cell_al _ (cell_al _ (c1))) | exact cell_later hb5 (cell_dr (c1)) | exact cell_later hb5 (cell_dr (cell_al _ (c1))) | exact cell_later hb5 (cell_drN _ (c1)) | exact cell_later hb5 (cell_drN _ (cell_al _ (c1)))
  replace d1 : w5.cell? ⟨bb, 1, none⟩ = some (.int .u64 σ.cr) := by first | exact cell_later hb5 (d1) | exact cell_later hb5 (cell_al _ (d1)) | exact cell_later hb5 (cell_al _ (cell_al _ (d1))) | exact cell_later hb5 (cell_dr (d1)) | exact cell_later hb5 (cell_dr (cell_al _ (d1))) | exact cell_later hb5 (cell_drN _ (d1)) | exact cell_later hb5 (cell_drN _ (cell_al _ (d1)))
  replace c2 : w5.cell? ⟨ba, 2, none⟩ = some (.slice a0 ng k0) := by first | exact cell_later hb5 (c2) | exact cell_later hb5 (cell_al _ (c2)) | exact cell_later hb5 (cell_al _ (cell_al _ (c2))) | exact cell_later hb5 (cell_dr (c2)) | exact cell_later hb5 (cell_dr (cell_al _ (c2))) | exact cell_later hb5 (cell_drN _ (c2)) | exact cell_later hb5 (cell_drN _ (cell_al _ (c2)))
  replace d2 : w5.cell? ⟨bb, 2, none⟩ = some (.slice b0 ng j0) := by first | exact cell_later hb5 (d2) | exact cell_later hb5 (cell_al _ (d2)) | exact cell_later hb5 (cell_al _ (cell_al _ (d2))) | exact cell_later hb5 (cell_dr (d2)) | exact cell_later hb5 (cell_dr (cell_al _ (d2))) | exact cell_later hb5 (cell_drN _ (d2)) | exact cell_later hb5 (cell_drN _ (cell_al _ (d2)))
  replace c3 : w5.cell? ⟨ba, 3, none⟩ = some (.slice a1 nl k1) := by first | exact cell_later hb5 (c3) | exact cell_later hb5 (cell_al _ (c3)) | exact cell_later hb5 (cell_al _ (cell_al _ (c3))) | exact cell_later hb5 (cell_dr (c3)) | exact cell_later hb5 (cell_dr (cell_al _ (c3))) | exact cell_later hb5 (cell_drN _ (c3)) | exact cell_later hb5 (cell_drN _ (cell_al _ (c3)))
  replace d3 : w5.cell? ⟨bb, 3, none⟩ = some (.slice b1 nl j1) := by first | exact cell_later hb5 (d3) | exact cell_later hb5 (cell_al _ (d3)) | exact cell_later hb5 (cell_al _ (cell_al _ (d3))) | exact cell_later hb5 (cell_dr (d3)) | exact cell_later hb5 (cell_dr (cell_al _ (d3))) | exact cell_later hb5 (cell_drN _ (d3)) | exact cell_later hb5 (cell_drN _ (cell_al _ (d3)))
  replace c4 : w5.cell? ⟨ba, 4, none⟩ = some (.slice a2 nu k2) := by first | exact cell_later hb5 (c4) | exact cell_later hb5 (cell_al _ (c4)) | exact cell_later hb5 (cell_al _ (cell_al _ (c4))) | exact cell_later hb5 (cell_dr (c4)) | exact cell_later hb5 (cell_dr (cell_al _ (c4))) | exact cell_later hb5 (cell_drN _ (c4)) | exact cell_later hb5 (cell_drN _ (cell_al _ (c4)))
  replace d4 : w5.cell? ⟨bb, 4, none⟩ = some (.slice b2 nu j2) := by first | exact cell_later hb5 (d4) | exact cell_later hb5 (cell_al _ (d4)) | exact cell_later hb5 (cell_al _ (cell_al _ (d4))) | exact cell_later hb5 (cell_dr (d4)) | exact cell_later hb5 (cell_dr (cell_al _ (d4))) | exact cell_later hb5 (cell_drN _ (d4)) | exact cell_later hb5 (cell_drN _ (cell_al _ (d4)))
  replace c5 : w5.cell? ⟨ba, 5, none⟩ = some (.slice a3 nt k3) := by first | exact cell_later hb5 (c5) | exact cell_later hb5 (cell_al _ (c5)) | exact cell_later hb5 (cell_al _ (cell_al _ (c5))) | exact cell_later hb5 (cell_dr (c5)) | exact cell_later hb5 (cell_dr (cell_al _ (c5))) | exact cell_later hb5 (cell_drN _ (c5)) | exact cell_later hb5 (cell_drN _ (cell_al _ (c5)))
  replace d5 : w5.cell? ⟨bb, 5, none⟩ = some (.slice b3 nt j3) := by first | exact cell_later hb5 (d5) | exact cell_later hb5 (cell_al _ (d5)) | exact cell_later hb5 (cell_al _ (cell_al _ (d5))) | exact cell_later hb5 (cell_dr (d5)) | exact cell_later hb5 (cell_dr (cell_al _ (d5))) | exact cell_later hb5 (cell_drN _ (d5)) | exact cell_later hb5 (cell_drN _ (cell_al _ (d5)))
  replace c6 : w5.cell? ⟨ba, 6, none⟩ = some (.slice aa m ca) := by first | exact cell_later hb5 (c6) | exact cell_later hb5 (cell_al _ (c6)) | exact cell_later hb5 (cell_al _ (cell_al _ (c6))) | exact cell_later hb5 (cell_dr (c6)) | exact cell_later hb5 (cell_dr (cell_al _ (c6))) | exact cell_later hb5 (cell_drN _ (c6)) | exact cell_later hb5 (cell_drN _ (cell_al _ (c6)))
  replace d6 : w5.cell? ⟨bb, 6, none⟩ = some (.slice ab m cb) := by first | exact cell_later hb5 (d6) | exact cell_later hb5 (cell_al _ (d6)) | exact cell_later hb5 (cell_al _ (cell_al _ (d6))) | exact cell_later hb5 (cell_dr (d6)) | exact cell_later hb5 (cell_dr (cell_al _ (d6))) | exact cell_later hb5 (cell_drN _ (d6)) | exact cell_later hb5 (cell_drN _ (cell_al _ (d6)))
  have c0_1 := fun o1 => cell_al o1 (c0)
  have d0_1 := fun o1 => cell_al o1 (d0)
  have c1_1 := fun o1 => cell_al o1 (c1)
  have d1_1 := fun o1 => cell_al o1 (d1)
  have c2_1 := fun o1 => cell_al o1 (c2)
  have d2_1 := fun o1 => cell_al o1 (d2)
  have c3_1 := fun o1 => cell_al o1 (c3)
  have d3_1 := fun o1 => cell_al o1 (d3)
  have c4_1 := fun o1 => cell_al o1 (c4)
  have d4_1 := fun o1 => cell_al o1 (d4)
  have c5_1 := fun o1 => cell_al o1 (c5)
  have d5_1 := fun o1 => cell_al o1 (d5)
  have c6_1 := fun o1 => cell_al o1 (c6)
  have d6_1 := fun o1 => cell_al o1 (d6)
  have HB5 := Lib.hid (Below.step HB4.out hb5)
  clear c0_1 d0_1 c1_1 d1_1 c2_1 d2_1 c3_1 d3_1 c4_1 d4_1 c5_1 d5_1 c6_1 d6_1
  clear hb2 hb3 hb4 hb5 G CL CU TS c0 c1 c2 c3 c4 c5 d0 d1 d2 d3 d4 d5
  go_wp2_with fail
  go_loopw [5] (fun iv wr => ∃ k : Nat, k ≤ m ∧ iv = .int .i64 k ∧ Below w5.heap.size w5 wr) (fun iv _ => m - (intOf iv).toNat)
  case atStart => exact ⟨0, Nat.zero_le _, rfl, Below.refl _ _⟩
  case round =>
    obtain ⟨k, hk, rfl, hb⟩ := hrel
    have e6 := cell_later hb c6
    have f6 := cell_later hb d6
    have HB := Lib.hid hb
    clear hb
    by_cases hlt : k < m
    · have hkn : (k : Int) < (m : Int) := by omega
      have hk0 : (0 : Int) ≤ (k : Int) := by omega
      obtain ⟨y1, hy1⟩ : ∃ y, q1[k]? = some y := ⟨_, List.getElem?_eq_getElem (by rw [HQ1.out]; exact hlt)⟩
      obtain ⟨y2, hy2⟩ : ∃ y, q2[k]? = some y := ⟨_, List.getElem?_eq_getElem (by rw [HQ2.out]; exact hlt)⟩
      obtain ⟨X, hX⟩ : ∃ y, σ.sp[k]? = some y := ⟨_, List.getElem?_eq_getElem (by rw [← HM.out]; exact hlt)⟩
      have hbw := Below.step HB5.out HB.out
      obtain ⟨-, b1, o1, e1, i0⟩ := (R1.out.later hbw).at encSl_ok hy1
      obtain ⟨-, b2, o2, e2, i1⟩ := (R2.out.later hbw).at encSl_ok hy2
      cases e1
      cases e2
      have a0 := i0 0 _ rfl
      have a1 := i1 0 _ rfl
      rw [Nat.add_zero, Nat.mul_one] at a0 a1
      have A := Lib.hid (SameSpotsS_at (.slice y1.1 y1.2.1 y1.2.2) (.slice y2.1 y2.2.1 y2.2.2) X wr.drew ((P1.out k y1 X hy1 hX).recs.later hbw.drew) ((P2.out k y2 X hy2 hX).recs.later hbw.drew) (HS.out.row k X hX))
      obtain ⟨y10, y11, y12⟩ := y1
      obtain ⟨y20, y21, y22⟩ := y2
      replace a0 : wr.cell? ⟨b1, o1 + k, none⟩ = some (.slice y10 y11 y12) := a0
      replace a1 : wr.cell? ⟨b2, o2 + k, none⟩ = some (.slice y20 y21 y22) := a1
      replace A : Hid (Calls Tryz.prog 59 #[.slice y10 y11 y12, .slice y20 y21 y22] wr.drew fun e w' => e = .returned (.bool true) ∧ Below wr.drew.heap.size wr.drew w') := A
      clear hy1 hy2 hX i0 i1 hbw
      go_wp2_with fail
      refine startA (S := fun w' => Below wr.heap.size wr w' ∧ w'.cell? ⟨ba, 6, none⟩ = some (.slice (some ⟨b1, o1, none⟩) m ca) ∧ w'.cell? ⟨bb, 6, none⟩ = some (.slice (some ⟨b2, o2, none⟩) m cb) ∧ w'.cell? ⟨b1, (o1 + k), none⟩ = some (.slice y10 y11 y12) ∧ w'.cell? ⟨b2, (o2 + k), none⟩ = some (.slice y20 y21 y22)) ⟨Below.refl _ _, e6, f6, a0, a1⟩ (held_4 (below_dr _)) (fun hS0 hHeld => ?_)
      refine takeA 0 ?_
      refine takeA 1 ?_
      refine takeA 2 ?_
      refine takeA 3 ?_
      refine takeA 4 ?_
      refine takeA 5 ?_
      refine takeA 6 ?_
      refine takeA 7 ?_
      refine takeA 8 ?_
      refine takeA 9 ?_
      refine readyA [10] (consA (fun K hK => ?_) .nil)
      go_simp
      refine A.out.mono ?_
      rintro e w7 ⟨rfl, hb7⟩
      go_wp2_with fail
      refine outA hK kp_4 (fun hHeld10 => ?_)
      clear hK K
      refine takeA 11 ?_
      refine doneA ?_
      have HB8 := Lib.hid (Below.step HB.out.drew hb7)
      clear hS0 hHeld hHeld10 hb7
      go_wp2_with fail
      go_roundw
      case rel => exact ⟨k + 1, by omega, by go_num, HB8.out⟩
      case measure => simp [intOf]; omega
    · obtain rfl : k = m := by omega
      have l1 : decide ((k : Int) < (k : Int)) = false := decide_eq_false (by omega)
      have l2 : decide (k < k) = false := decide_eq_false hlt
      clear hk hlt
      go_wp2_with fail
      go_ret
      exact ⟨rfl, Below.step HB5.out HB.out⟩
end Go.Proofs.YtapnaocdehahdaaGreat
namespace Go.Proofs.YtapnaocdehahdaaGreat
open Go.RowKit Go.Maps Go.IntWalk Go.Lib
set_option linter.unusedVariables false
set_option linter.unusedSimpArgs false
theorem TaskX_at {w : World} {x : Nat} {F : List Nat} {s : SSt} (id : Int) (h : SIn w x F s) (ho : SOk s) (hid : (Lit.int .i64 id).wf = true) :
    Calls Tryz.prog 24 #[.pointer (some ⟨x, 0, none⟩), .int .i64 id] w fun e w' => e = .returned (.tuple #[taskV s id, .int .i64 (taskC s id)]) ∧ Below w.heap.size w w' := h.elim fun L q => xTask_at id q.1 ho hid
theorem built_ex (k c t g w d ti m got wk e : Int) : Tryz.prog.built 135 [(0, .agg #[.int .u8 k, .int .i64 c, .int .i64 t, .int .i64 g, .int .i64 w, .int .i64 d, .int .i64 ti, .int .u64 m]), (1, .int .i64 got), (2, .int .i64 wk), (3, .int .i64 e)] = some #[.int .u8 k, .int .i64 c, .int .i64 t, .int .i64 g, .int .i64 w, .int .i64 d, .int .i64 ti, .int .u64 m, .int .i64 got, .int .i64 wk, .int .i64 e] := by kernel_rfl
@[local go_sem high] theorem build_ex (k c t g w d ti m got wk e : Int) (W : World) : (Instr.build 135 #[(0, .agg #[.int .u8 k, .int .i64 c, .int .i64 t, .int .i64 g, .int .i64 w, .int .i64 d, .int .i64 ti, .int .u64 m]), (1, .int .i64 got), (2, .int .i64 wk), (3, .int .i64 e)]).run Tryz.prog W = .ok (.agg #[.int .u8 k, .int .i64 c, .int .i64 t, .int .i64 g, .int .i64 w, .int .i64 d, .int .i64 ti, .int .u64 m, .int .i64 got, .int .i64 wk, .int .i64 e]) W := run_build W _ _ _ (built_ex k c t g w d ti m got wk e)
set_option maxRecDepth 100000 in
set_option maxHeartbeats 8000000 in
theorem sawake_at (w : World) : Calls Tryz.prog 20 #[] w fun e w' => e = .returned (.bool true) ∧ Below w.heap.size w w' := by
  have A1 := Lib.hid fun W v (hb : Below w.heap.size w W) (hV : RecsAt encG W v exGs) => NewX_at (base := w) (w := W) (C := 1) (cr := 0) hb hV right_exGs ⟨by decide, by decide⟩ ⟨by decide, by decide⟩
  have A0 := Lib.hid (Example_at w)
  go_enter Tryz.func20, Tryz.ntmps20
  go_wp2_with fail
  refine A0.out.mono ?_; clear A0; rintro e w1 ⟨v, rfl, hV, hb1⟩
  have HB1 := Lib.hid hb1
  have HV := Lib.hid hV
  clear hb1 hV
  go_wp2_with fail
  refine (A1.out _ _ HB1.out HV.out).mono ?_; clear A1 HV; rintro e w2 ⟨x, F, rfl, hX, hb2, hF⟩
  have H2 := Lib.hid hX
  clear hX hb2 hF HB1
  go_upto_region 4 with fail
  go_cut [43, 44, 45] (fun s43 s44 s45 wx => s43 = .slice (some ⟨w2.heap.size, 0, none⟩) 12 12 ∧ s44 = .int .i64 12 ∧ s45 = .int .i64 0 ∧ wx = w2.alloc (.cells #[.int .u8 1, .int .i64 0, .int .i64 5, .int .i64 0, .int .i64 1024, .int .i64 0, .int .i64 0, .int .u64 1, .int .i64 0, .int .i64 1, .int .i64 0, .int .u8 1, .int .i64 0, .int .i64 6, .int .i64 1, .int .i64 1, .int .i64 0, .int .i64 0, .int .u64 1, .int .i64 0, .int .i64 2, .int .i64 0, .int .u8 6, .int .i64 0, .int .i64 0, .int .i64 0, .int .i64 0, .int .i64 0, .int .i64 0, .int .u64 0, .int .i64 5, .int .i64 1, .int .i64 0, .int .u8 5, .int .i64 0, .int .i64 0, .int .i64 0, .int .i64 0, .int .i64 0, .int .i64 1, .int .u64 0, .int .i64 5, .int .i64 1, .int .i64 0, .int .u8 6, .int .i64 0, .int .i64 0, .int .i64 0, .int .i64 0, .int .i64 0, .int .i64 0, .int .u64 0, .int .i64 6, .int .i64 2, .int .i64 0, .int .u8 5, .int .i64 0, .int .i64 0, .int .i64 0, .int .i64 0, .int .i64 0, .int .i64 1, .int .u64 0, .int .i64 6, .int .i64 2, .int .i64 0, .int .u8 6, .int .i64 0, .int .i64 0, .int .i64 0, .int .i64 0, .int .i64 0, .int .i64 0, .int .u64 0, .int .i64 5, .int .i64 1, .int .i64 0, .int .u8 3, .int .i64 0, .int .i64 0, .int .i64 0, .int .i64 0, .int .i64 0, .int .i64 0, .int .u64 0, .int .i64 5, .int .i64 1, .int .i64 0, .int .u8 6, .int .i64 0, .int .i64 0, .int .i64 0, .int .i64 0, .int .i64 0, .int .i64 0, .int .u64 0, .int .i64 6, .int .i64 2, .int .i64 0, .int .u8 5, .int .i64 0, .int .i64 0, .int .i64 0, .int .i64 0, .int .i64 0, .int .i64 2, .int .u64 0, .int .i64 6, .int .i64 2, .int .i64 0, .int .u8 2, .int .i64 0, .int .i64 5, .int .i64 0, .int .i64 0, .int .i64 0, .int .i64 0, .int .u64 0, .int .i64 0, .int .i64 1, .int .i64 0, .int .u8 9, .int .i64 0, .int .i64 6, .int .i64 0, .int .i64 0, .int .i64 1, .int .i64 0, .int .u64 0, .int .i64 0, .int .i64 0, .int .i64 300] 135))
  case first =>
    go_upto_region 5 with fail
    go_meet
    case rel => exact ⟨rfl, rfl, rfl, rfl⟩
  case rest =>
    obtain ⟨rfl, rfl, rfl, hwc⟩ := hcut
    have hb3 : Below w2.heap.size w2 wc := by rw [hwc]; exact below_a _ _
    have hR : RecsAt encX wc (.slice (some ⟨w2.heap.size, 0, none⟩) 12 12) exL := by rw [hwc]; exact exL_recs w2
    have ht : w2.heap.size < wc.heap.size := by rw [hwc]; simp
    have hN : w2.heap.size ∉ F := fun m => by have := H2.out.lt _ m; omega
    have H3 := Lib.hid (H2.out.later hb3)
    obtain ⟨b3, hb3e⟩ : ∃ b, b = w2.heap.size := ⟨_, rfl⟩
    rw [← hb3e] at hR ht hN ⊢
    have HR := Lib.hid hR
    have HT := Lib.hid ht
    have HN := Lib.hid hN
    clear hwc hb3 H2 hb3e hR ht hN
    go_wp2_with fail
    go_loopw [45] (fun i wr => ∃ (k : Nat) (F : List Nat), k ≤ 12 ∧ i = .int .i64 k ∧ Hid (XW w x (exSt exS0 exL k) wr F) ∧ Hid (b3 ∉ F) ∧ Hid (RecsAt encX wr (.slice (some ⟨b3, 0, none⟩) 12 12) exL) ∧ Hid (b3 < wr.heap.size)) (fun i _ => 12 - (intOf i).toNat)
    case atStart => exact ⟨0, F, Nat.zero_le _, rfl, H3, HN, HR, HT⟩
    case round =>
      clear H3 HN HR HT
      obtain ⟨k, F1, hk, rfl, hX, hN, hR, hT⟩ := hrel
      by_cases hlt : k < 12
      · have hki : (k : Int) < 12 := by omega
        have z0 : decide ((k : Int) < 12) = true := decide_eq_true hki
        have hkl : k < exL.length := hlt
        obtain ⟨q1, q2⟩ := exRun_at exRun_ok k hkl
        have hwf := ex_wf (exL[k]!) (by rw [getElem!_pos exL k hkl]; exact List.getElem_mem hkl)
        have hok := ex_ok k (by omega)
        have hok' := ex_ok (k + 1) (by omega)
        have hx : exL[k]? = some exL[k]! := by rw [getElem!_pos exL k hkl]; exact List.getElem?_eq_getElem hkl
        obtain ⟨-, b, off, e0, hc⟩ := hR.out.at encX_ok hx
        cases e0
        obtain ⟨y, hy⟩ : ∃ y, y = exL[k]! := ⟨_, rfl⟩
        rw [← hy] at q1 q2 hwf hc
        obtain ⟨o, gt, wk, er⟩ := y
        obtain ⟨s, hs⟩ : ∃ s, s = exSt exS0 exL k := ⟨_, rfl⟩
        obtain ⟨s', hs'⟩ : ∃ s, s = exSt exS0 exL (k + 1) := ⟨_, rfl⟩
        have HX := Lib.hid (show XW w x s wr F1 by rw [hs]; exact hX.out)
        rw [← hs] at q1 hok
        rw [← hs'] at q1 q2 hok'
        have HS' := Lib.hid hs'
        replace q1 : doR s o = (gt, er, s') := q1
        replace q2 : s'.wk = wk := q2
        replace hwf : o.Wf := hwf
        have HOK' := Lib.hid hok'
        have u0 : wr.cell? ⟨b3, k * 11 + 0, none⟩ = some (.int .u8 o.kind) := by have := hc 0 _ rfl; rwa [Nat.zero_add] at this
        have u1 : wr.cell? ⟨b3, k * 11 + 1, none⟩ = some (.int .i64 o.cpu) := by have := hc 1 _ rfl; rwa [Nat.zero_add] at this
        have u2 : wr.cell? ⟨b3, k * 11 + 2, none⟩ = some (.int .i64 o.task) := by have := hc 2 _ rfl; rwa [Nat.zero_add] at this
        have u3 : wr.cell? ⟨b3, k * 11 + 3, none⟩ = some (.int .i64 o.group) := by have := hc 3 _ rfl; rwa [Nat.zero_add] at this
        have u4 : wr.cell? ⟨b3, k * 11 + 4, none⟩ = some (.int .i64 o.weight) := by have := hc 4 _ rfl; rwa [Nat.zero_add] at this
        have u5 : wr.cell? ⟨b3, k * 11 + 5, none⟩ = some (.int .i64 o.dst) := by have := hc 5 _ rfl; rwa [Nat.zero_add] at this
        have u6 : wr.cell? ⟨b3, k * 11 + 6, none⟩ = some (.int .i64 o.ticks) := by have := hc 6 _ rfl; rwa [Nat.zero_add] at this
        have u7 : wr.cell? ⟨b3, k * 11 + 7, none⟩ = some (.int .u64 o.mask) := by have := hc 7 _ rfl; rwa [Nat.zero_add] at this
        have u8 : wr.cell? ⟨b3, k * 11 + 8, none⟩ = some (.int .i64 gt) := by have := hc 8 _ rfl; rwa [Nat.zero_add] at this
        have u9 : wr.cell? ⟨b3, k * 11 + 9, none⟩ = some (.int .i64 wk) := by have := hc 9 _ rfl; rwa [Nat.zero_add] at this
        have u10 : wr.cell? ⟨b3, k * 11 + 10, none⟩ = some (.int .i64 er) := by have := hc 10 _ rfl; rwa [Nat.zero_add] at this
        rw [Nat.add_zero] at u0
        obtain ⟨W4, hW4⟩ : ∃ W, W = wr.alloc (.cells #[.int .u8 o.kind, .int .i64 o.cpu, .int .i64 o.task, .int .i64 o.group, .int .i64 o.weight, .int .i64 o.dst, .int .i64 o.ticks, .int .u64 o.mask, .int .i64 gt, .int .i64 wk, .int .i64 er] 135) := ⟨_, rfl⟩
        have y0 : W4.cell? ⟨wr.heap.size, 0, none⟩ = some (.int .u8 o.kind) := by rw [hW4]; exact cell_nw wr _ _ 0 _ rfl
        have y1 : W4.cell? ⟨wr.heap.size, 1, none⟩ = some (.int .i64 o.cpu) := by rw [hW4]; exact cell_nw wr _ _ 1 _ rfl
        have y2 : W4.cell? ⟨wr.heap.size, 2, none⟩ = some (.int .i64 o.task) := by rw [hW4]; exact cell_nw wr _ _ 2 _ rfl
        have y3 : W4.cell? ⟨wr.heap.size, 3, none⟩ = some (.int .i64 o.group) := by rw [hW4]; exact cell_nw wr _ _ 3 _ rfl
        have y4 : W4.cell? ⟨wr.heap.size, 4, none⟩ = some (.int .i64 o.weight) := by rw [hW4]; exact cell_nw wr _ _ 4 _ rfl
        have y5 : W4.cell? ⟨wr.heap.size, 5, none⟩ = some (.int .i64 o.dst) := by rw [hW4]; exact cell_nw wr _ _ 5 _ rfl
        have y6 : W4.cell? ⟨wr.heap.size, 6, none⟩ = some (.int .i64 o.ticks) := by rw [hW4]; exact cell_nw wr _ _ 6 _ rfl
        have y7 : W4.cell? ⟨wr.heap.size, 7, none⟩ = some (.int .u64 o.mask) := by rw [hW4]; exact cell_nw wr _ _ 7 _ rfl
        have y8 : W4.cell? ⟨wr.heap.size, 8, none⟩ = some (.int .i64 gt) := by rw [hW4]; exact cell_nw wr _ _ 8 _ rfl
        have y9 : W4.cell? ⟨wr.heap.size, 9, none⟩ = some (.int .i64 wk) := by rw [hW4]; exact cell_nw wr _ _ 9 _ rfl
        have y10 : W4.cell? ⟨wr.heap.size, 10, none⟩ = some (.int .i64 er) := by rw [hW4]; exact cell_nw wr _ _ 10 _ rfl
        have hb4 : Below wr.heap.size wr W4 := by rw [hW4]; exact below_a _ _
        have N4 := Lib.hid (show wr.heap.size ∉ F1 from fun m => by have := HX.out.lt _ m; omega)
        have L4 := Lib.hid (show wr.heap.size < W4.heap.size by rw [hW4]; simp)
        have H4 := Lib.hid (HX.out.later hb4)
        have A1 := DoX_at H4.out.inn hok hwf
        rw [q1] at A1
        replace A1 := Lib.hid A1
        have HB4 := Lib.hid hb4
        have HW4 := Lib.hid hW4
        obtain ⟨b4, hb4e⟩ : ∃ b, b = wr.heap.size := ⟨_, rfl⟩
        rw [← hb4e] at y0 y1 y2 y3 y4 y5 y6 y7 y8 y9 y10 N4 L4
        have HB4E := Lib.hid hb4e
        unfold encO at A1
        clear hc hx hy hs hs' q1 hwf hok hok' hW4 hb4 hb4e
        go_upto_region 7 with fail
        rw [← HW4.out, ← HB4E.out]
        clear u0 u1 u2 u3 u4 u5 u6 u7 u8 u9 u10
        go_wp2_with fail
        refine A1.out.mono ?_; clear A1; rintro e w5 ⟨rfl, hA⟩
        obtain ⟨F5, h5, t5⟩ := H4.out.step hA
        have y8' := t5.cell N4.out y8
        have y9' := t5.cell N4.out y9
        have y10' := t5.cell N4.out y10
        have H5 := Lib.hid (show XW w x s' w5 F5 from h5)
        have N5 := Lib.hid (t5.off (show b3 ∉ F1 from hN.out) (show b3 < W4.heap.size from Nat.lt_of_lt_of_le hT.out HB4.out.size))
        have R5 := Lib.hid (show RecsAt encX w5 (.slice (some ⟨b3, 0, none⟩) 12 12) exL by
          obtain ⟨a, cap, r1, r2, r3, r4, r5⟩ := hR.out.later HB4.out
          cases r1
          refine ⟨_, _, rfl, r2, r3, r4, r5.imp_right fun ⟨b, off, e, hcc⟩ => ⟨b, off, e, fun j u hj => ?_⟩⟩
          cases e
          exact t5.cell hN.out (hcc j u hj))
        have T5 := Lib.hid (show b3 < w5.heap.size from Nat.lt_of_lt_of_le (Nat.lt_of_lt_of_le hT.out HB4.out.size) t5.kept.size)
        have A2 := WorkX_at (H5.out.later (show Below w5.heap.size w5 w5.drew from (Below.refl _ _).drew)).inn HOK'.out
        rw [q2] at A2
        replace A2 := Lib.hid A2
        clear hA h5 t5 y0 y1 y2 y3 y4 y5 y6 y7 y8 y9 y10 H4 hN hR hT HX hX q2
        go_wp2_with fail
        refine startA (S := fun w' => Below w5.heap.size w5 w' ∧ w'.cell? ⟨b4, 8, none⟩ = some (.int .i64 gt) ∧ w'.cell? ⟨b4, 9, none⟩ = some (.int .i64 wk) ∧ w'.cell? ⟨b4, 10, none⟩ = some (.int .i64 er)) ⟨Below.refl _ _, y8', y9', y10'⟩ (held_3 (below_dr _)) (fun hS0 hHeld => ?_)
        refine takeA 0 ?_
        refine takeA 1 ?_
        refine takeA 2 ?_
        refine takeA 3 ?_
        refine takeA 4 ?_
        refine takeA 5 ?_
        refine takeA 6 ?_
        refine takeA 7 ?_
        refine takeA 8 ?_
        refine takeA 9 ?_
        refine takeA 10 ?_
        refine takeA 11 ?_
        refine takeA 13 ?_
        refine takeA 14 ?_
        refine readyA [12] (consA (fun K hK => ?_) .nil)
        go_simp
        refine A2.out.mono ?_
        rintro e w6 ⟨rfl, rfl⟩
        go_wp2_with fail
        refine outA hK kp_3 (fun hHeld12 => ?_)
        clear hK K
        refine takeA 15 ?_
        refine takeA 16 ?_
        refine doneA ?_
        clear hS0 hHeld hHeld12
        have hd := (Below.refl w5.heap.size w5).drew
        have H6 := Lib.hid (show XW w x (exSt exS0 exL (k + 1)) w5.drew F5 by rw [← HS'.out]; exact H5.out.later hd)
        have R6 := Lib.hid (R5.out.later hd)
        have T6 := Lib.hid (Nat.lt_of_lt_of_le T5.out hd.size)
        clear hd
        go_wp2_with fail
        go_roundw
        case rel => exact ⟨k + 1, F5, by omega, by go_num, H6, N5, R6, T6⟩
        case measure => simp [intOf]; omega
      · obtain rfl : k = 12 := by omega
        obtain ⟨t, hT5, hr5, hv5⟩ := ex_last
        have hok := ex_ok 12 (by decide)
        have hc2 := ex_len
        have hs12 : exSt exS0 exL 12 = exSt exS0 exL 12 := rfl
        revert hX hT5 hr5 hv5 hok hc2
        generalize exSt exS0 exL 12 = s
        intro hX hT5 hr5 hv5 hok hc2
        have A1 := TaskX_at 5 hX.out.inn hok (by decide)
        have e1 : taskV s 5 = encTv 5 t (ranX s 5 t) := by unfold taskV; rw [hT5]; exact if_pos (by decide)
        have e2 : taskC s 5 = 0 := by unfold taskC; rw [hT5]; rfl
        rw [e1, e2] at A1
        unfold encTv at A1
        obtain ⟨xe, hxe⟩ : ∃ xe, xe = ranX s 5 t := ⟨_, rfl⟩
        rw [← hxe] at A1 hv5
        rw [hr5, hv5] at A1
        replace A1 := Lib.hid A1
        have A2 := Lib.hid fun w' (hb : Below wr.heap.size wr w') => (show Calls Tryz.prog 23 #[.pointer (some ⟨x, 0, none⟩)] w' fun e w2 => e = .returned (.int .i64 2) ∧ w' = w2 by
          have := LenX_at (hX.out.later hb).inn hok
          rw [hc2] at this
          exact this)
        have HX := Lib.hid hX.out.bel
        clear hX hT5 hr5 hv5 hok hc2 e1 e2 hxe hN hR hT hs12
        go_wp2_with fail
        refine A1.out.mono ?_; clear A1; rintro e w6 ⟨rfl, hb6⟩
        have hb7 := Below.step hb6 (below_a w6 (.cells #[.int .i64 5, .int .i64 t.g, .int .i64 t.w, .int .i64 t.cpu, .int .u64 t.mask, .bool true, .int .u64 3072, .int .u32 xe.2.1] 59))
        have A3 := Lib.hid (A2.out _ hb7)
        have HB7 := Lib.hid (Below.step HX.out hb7)
        clear hb6 hb7 A2
        go_wp2_with fail
        refine A3.out.mono ?_; clear A3; rintro e w8 ⟨rfl, rfl⟩
        go_wp2_with fail
        go_ret
        exact ⟨rfl, HB7.out⟩
end Go.Proofs.YtapnaocdehahdaaGreat
