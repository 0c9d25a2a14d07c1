/-
  The walk of SchedWork.
-/
import Derived.Test.YtapnaocdehahdaaSchAw
import Derived.Test.YtapnaocdehahdaaSchSc
namespace Go.Proofs.Ytapnaocdehahdaa
open Go.RowKit Go.Maps Go.IntWalk Go.Lib
set_option linter.unusedVariables false
set_option linter.unusedSimpArgs false
theorem own_pos {w : World} {base e size : Nat} {v : Value} {n : Nat} {xs : List Value} (h : w.ownsRow base e size v n xs) (h0 : 0 < n) : ∃ g c, v = .slice (some ⟨g, 0, none⟩) n c := by
  obtain ⟨m, rfl⟩ : ∃ m, n = m + 1 := ⟨n - 1, by omega⟩
  exact own_some h
theorem srow_later {ks : List (Option IntKind)} {w w' : World} {a : Option Addr} {n c : Nat} {F : Nat → Nat → Value} (h : PlainRow ks w a n c F) (hb : Below w.heap.size w w') : PlainRow ks w' a n c F := by
  rcases h with h | h | ⟨h0, hl, hm, b, off, rfl, hc⟩
  · exact Or.inl h
  · exact Or.inr (Or.inl h)
  · exact Or.inr (Or.inr ⟨h0, hl, hm, b, off, rfl, fun i hi j k hk => ⟨cell_later hb (hc i hi j k hk).1, (hc i hi j k hk).2⟩⟩)
theorem encOw : Enc encOl 8 := ⟨fun _ => rfl, fun x u hu => by simp [encOl] at hu; rcases hu with rfl | rfl | rfl | rfl | rfl | rfl | rfl | rfl <;> rfl, by decide⟩
theorem own_heldS {w : World} {base e n : Nat} {v : Value} {L : List OpV} {F : List Nat} {xs : List Value} (h : w.ownsRow base e 8 v n xs) (hn : n = L.length) (hx : xs = flatR encOl L) (hF : ∀ b ∈ F, b < base) : HeldR encOl F w v L := by
  subst hn; subst hx
  rcases h.2 with ⟨rfl, h0⟩ | ⟨g, cap, cur, rfl, hb, _, h5, h6, _⟩
  · have : L = [] := List.eq_nil_of_length_eq_zero h0
    subst this
    exact ⟨none, 0, rfl, Nat.le_refl _, by omega, fun _ => rfl, Or.inl rfl⟩
  · have hl := (h.lt g rfl).2
    refine ⟨some ⟨g, 0, none⟩, cap, rfl, h5, by unfold maxLen at h6; omega, (fun q => by cases q), Or.inr ⟨g, 0, rfl, ⟨fun m => by have := hF g m; omega, hl⟩, fun j u hu => ?_⟩⟩
    have hj : j < L.length * 8 := by rw [← flatR_len encOw]; exact (List.getElem?_eq_some_iff.1 hu).1
    rw [Nat.zero_add, h.cellAt j hj]
    exact hu
theorem own_shapeW {w : World} {base n size : Nat} {e : TypeId} {v : Value} {xs : List Value} (h : w.ownsRow base e size v n xs) : ∃ a cap, v = .slice a n cap := by
  rcases h.2 with ⟨rfl, h0⟩ | ⟨g, cap, cur, rfl, _⟩
  · exact ⟨none, 0, by rw [h0]⟩
  · exact ⟨_, cap, rfl⟩
/-- how many CPUs there are stays -/
theorem ifC {c : Prop} [Decidable c] {a b s : SSt} (ha : a.C = s.C) (hb : b.C = s.C) : (if c then a else b).C = s.C := by
  split
  · exact ha
  · exact hb
theorem ifC3 {c : Prop} [Decidable c] {a b : Int × Int × SSt} {s : SSt} (ha : a.2.2.C = s.C) (hb : b.2.2.C = s.C) : (if c then a else b).2.2.C = s.C := by
  split
  · exact ha
  · exact hb
theorem mvC (s : SSt) (id : Int) (t : Tsk) (j : Nat) : (mvS s id t j).C = s.C := ifC rfl rfl
theorem opR_C (s : SSt) (o : OpV) : (opR s o).2.2.C = s.C := by
  have h1 : ∀ k, (spS s k o).C = s.C := fun k => ifC rfl rfl
  have h2 : ∀ id, (awS s id).C = s.C := fun id => by
    unfold awS
    split
    · rfl
    · exact ifC rfl rfl
  have h3 : ∀ k, (stopS s k).C = s.C := fun k => by
    unfold stopS
    split
    · rfl
    · rfl
  have h4 : ∀ k, (exitS s k).C = s.C := fun k => ifC rfl (h3 k)
  have h5 : ∀ k tk, (tickS s k tk).C = s.C := fun k tk => by
    refine ifC ?_ rfl
    split
    · rfl
    · rfl
  have h6 : ∀ k, (pickS s k).C = s.C := fun k => rfl
  have h7 : ∀ id w, (reS s id w).C = s.C := fun id w => by
    refine ifC ?_ rfl
    split
    · rfl
    · exact ifC rfl rfl
  have h8 : ∀ g w, (rgT s g w).C = s.C := fun g w => ifC rfl rfl
  have h9 : (mgS s o).C = s.C := by
    refine ifC ?_ rfl
    split
    · rfl
    · exact mvC _ _ _ _
  have h10 : ∀ k, (balS s k).C = s.C := fun k => by
    refine ifC rfl ?_
    split
    · exact mvC _ _ _ _
    · rfl
  unfold opR
  have e : ∀ (a b : Int) (s' : SSt), ((a, b, s') : Int × Int × SSt).2.2.C = s'.C := fun _ _ _ => rfl
  refine ifC3 (ifC3 ((e _ _ _).trans (h1 _)) (e _ _ _)) ?_
  refine ifC3 (ifC3 ((e _ _ _).trans (h2 _)) (e _ _ _)) ?_
  refine ifC3 (ifC3 ((e _ _ _).trans (h3 _)) (e _ _ _)) ?_
  refine ifC3 (ifC3 ((e _ _ _).trans (h4 _)) (e _ _ _)) ?_
  refine ifC3 (ifC3 ((e _ _ _).trans (h5 _ _)) (e _ _ _)) ?_
  refine ifC3 (ifC3 ((e _ _ _).trans (h6 _)) (e _ _ _)) ?_
  refine ifC3 (ifC3 ((e _ _ _).trans (h7 _ _)) (e _ _ _)) ?_
  refine ifC3 ((e _ _ _).trans (h8 _ _)) ?_
  refine ifC3 ((e _ _ _).trans h9) ?_
  exact ifC3 (ifC3 ((e _ _ _).trans (h10 _)) (e _ _ _)) (e _ _ _)
/-- five numbers, by their places -/
def fiveL (a b c d e : Int) (i : Nat) : Int := if i = 0 then a else if i = 1 then b else if i = 2 then c else if i = 3 then d else e
theorem fiveL_in {a b c d e lo hi : Int} (h0 : lo ≤ a ∧ a ≤ hi) (h1 : lo ≤ b ∧ b ≤ hi) (h2 : lo ≤ c ∧ c ≤ hi) (h3 : lo ≤ d ∧ d ≤ hi) (h4 : lo ≤ e ∧ e ≤ hi) : ∀ i, i < 5 → lo ≤ fiveL a b c d e i ∧ fiveL a b c d e i ≤ hi := fun i _ => by
  unfold fiveL
  repeat' split
  all_goals assumption
theorem Made5 (n0 n1 n2 p0 p1 p2 p3 p4 v0 v1 v2 v3 v4 : Int) (w : World) (h0 : 0 ≤ n0 ∧ n0 ≤ 255) (h1 : 0 ≤ n1 ∧ n1 ≤ 255) (h2 : 0 ≤ n2 ∧ n2 ≤ 4294967295)
    (hp : (0 ≤ p0 ∧ p0 ≤ 255) ∧ (0 ≤ p1 ∧ p1 ≤ 255) ∧ (0 ≤ p2 ∧ p2 ≤ 255) ∧ (0 ≤ p3 ∧ p3 ≤ 255) ∧ (0 ≤ p4 ∧ p4 ≤ 255)) (hv : (0 ≤ v0 ∧ v0 ≤ 65535) ∧ (0 ≤ v1 ∧ v1 ≤ 65535) ∧ (0 ≤ v2 ∧ v2 ≤ 65535) ∧ (0 ≤ v3 ∧ v3 ≤ 65535) ∧ (0 ≤ v4 ∧ v4 ≤ 65535)) :
    Calls Try.prog 5 #[.agg #[.int .u8 n0, .int .u8 n1, .int .u32 n2, .int .u8 p0, .int .u8 p1, .int .u8 p2, .int .u8 p3, .int .u8 p4, .int .u16 v0, .int .u16 v1, .int .u16 v2, .int .u16 v3, .int .u16 v4]] w (MadeC w) :=
  Made_at n0 n1 n2 (fiveL p0 p1 p2 p3 p4) (fiveL v0 v1 v2 v3 v4) w h0 h1 h2 (fiveL_in hp.1 hp.2.1 hp.2.2.1 hp.2.2.2.1 hp.2.2.2.2) (fiveL_in hv.1 hv.2.1 hv.2.2.1 hv.2.2.2.1 hv.2.2.2.2)
set_option maxRecDepth 100000 in
set_option maxHeartbeats 8000000 in
theorem SchedWork_true (a0_0 : Int) (a0_1 : Int) (a0_2 : Int) (a0_3 : Int) (a0_4 : Int) (a0_5 : Int) (a0_6 : Int) (a0_7 : Int) (a0_8 : Int) (a0_9 : Int) (a0_10 : Int) (a0_11 : Int) (a0_12 : Int) (a1 : Int) (s2 : Option Addr) (l2 c2 : Nat) (F2 : Nat → Nat → Value) (w : World) (g0_0 : (Lit.int .u8 a0_0).wf = true) (g0_1 : (Lit.int .u8 a0_1).wf = true) (g0_2 : (Lit.int .u32 a0_2).wf = true) (g0_3 : (Lit.int .u8 a0_3).wf = true) (g0_4 : (Lit.int .u8 a0_4).wf = true) (g0_5 : (Lit.int .u8 a0_5).wf = true) (g0_6 : (Lit.int .u8 a0_6).wf = true) (g0_7 : (Lit.int .u8 a0_7).wf = true) (g0_8 : (Lit.int .u16 a0_8).wf = true) (g0_9 : (Lit.int .u16 a0_9).wf = true) (g0_10 : (Lit.int .u16 a0_10).wf = true) (g0_11 : (Lit.int .u16 a0_11).wf = true) (g0_12 : (Lit.int .u16 a0_12).wf = true) (g1 : (Lit.int .u8 a1).wf = true) (r2 : PlainRow scK w s2 l2 c2 F2) :
    Calls Try.prog 3 #[.agg #[.int .u8 a0_0, .int .u8 a0_1, .int .u32 a0_2, .int .u8 a0_3, .int .u8 a0_4, .int .u8 a0_5, .int .u8 a0_6, .int .u8 a0_7, .int .u16 a0_8, .int .u16 a0_9, .int .u16 a0_10, .int .u16 a0_11, .int .u16 a0_12], .int .u8 a1, .slice s2 l2 c2] w fun e w' => e = .returned (.bool true) ∧ Below w.heap.size w w' := by
  have b1 := wf_u8 g1
  have A1 := Lib.hid fun W => Made5 a0_0 a0_1 a0_2 a0_3 a0_4 a0_5 a0_6 a0_7 a0_8 a0_9 a0_10 a0_11 a0_12 W (wf_u8 g0_0) (wf_u8 g0_1) (xf32 g0_2) ⟨wf_u8 g0_3, wf_u8 g0_4, wf_u8 g0_5, wf_u8 g0_6, wf_u8 g0_7⟩ ⟨xf16 g0_8, xf16 g0_9, xf16 g0_10, xf16 g0_11, xf16 g0_12⟩
  have AW := Lib.hid sawake_at
  obtain ⟨io, hi, hz0, hz1, hz2⟩ := info_parts infoOp
  have R2 := Lib.hid r2
  obtain ⟨many, hmany⟩ : ∃ n : Nat, n = a1.toNat % 200 := ⟨_, rfl⟩
  have hm199 : many ≤ 199 := by omega
  have t1 : Int.tmod a1 200 = (many : Int) := by rw [Int.tmod_eq_emod_of_nonneg b1.1, hmany]; omega
  have q1 : IntKind.i64.wrap a1 = a1 := IntWalk.i64_in _ (by omega)
  have q2 : IntKind.i64.wrap (many : Int) = (many : Int) := IntWalk.i64_in _ (by omega)
  clear hmany r2 g0_0 g0_1 g0_2 g0_3 g0_4 g0_5 g0_6 g0_7 g0_8 g0_9 g0_10 g0_11 g0_12 g1
  go_enter Try.func3, Try.ntmps3
  go_wp2_with fail
  refine (A1.out _).mono ?_; clear A1; rintro e w1 ⟨Gs, v, C, cr, rfl, hr, hl6, hC1, hC4, hcr, hown, hb1⟩
  obtain ⟨bg, cg, rfl⟩ := own_pos hown hr.pos
  have hb2 := below_a w1 (.cells #[.int .i64 C, .int .u64 cr, .slice (some ⟨bg, 0, none⟩) Gs.length cg] 32)
  have k0 : (w1.alloc (.cells #[.int .i64 C, .int .u64 cr, .slice (some ⟨bg, 0, none⟩) Gs.length cg] 32)).cell? ⟨w1.heap.size, 0, none⟩ = some (.int .i64 C) := cell_nw w1 _ _ 0 _ rfl
  have k2 : (w1.alloc (.cells #[.int .i64 C, .int .u64 cr, .slice (some ⟨bg, 0, none⟩) Gs.length cg] 32)).cell? ⟨w1.heap.size, 2, none⟩ = some (.slice (some ⟨bg, 0, none⟩) Gs.length cg) := cell_nw w1 _ _ 2 _ rfl
  have k1 : (w1.alloc (.cells #[.int .i64 C, .int .u64 cr, .slice (some ⟨bg, 0, none⟩) Gs.length cg] 32)).cell? ⟨w1.heap.size, 1, none⟩ = some (.int .u64 cr) := cell_nw w1 _ _ 1 _ rfl
  have hb1' := Below.step (below_a w _) hb1
  have A2 := Lib.hid (NewX_at (base := w) (C := C) (cr := cr) (Below.step hb1' hb2) (own_recs encG_ok (own_below hown hb2)) hr ⟨hC1, by omega⟩ ⟨hcr.1, by omega⟩)
  have HC := Lib.hid (show 1 ≤ C ∧ C ≤ 4 from ⟨hC1, hC4⟩)
  have H0 := Lib.hid (SOk.begun (C := C) hr ⟨hC1, by omega⟩ (show 0 ≤ cr ∧ cr ≤ 1099511627776 from ⟨hcr.1, by omega⟩))
  obtain ⟨n, hn⟩ : ∃ n, n = Gs.length := ⟨_, rfl⟩
  have hn6 : 1 ≤ n ∧ n ≤ 6 := by have := hr.pos; omega
  have HBA := Lib.hid (Below.step hb1' hb2)
  obtain ⟨W2, hW2⟩ : ∃ W, W = w1.alloc (.cells #[.int .i64 C, .int .u64 cr, .slice (some ⟨bg, 0, none⟩) Gs.length cg] 32) := ⟨_, rfl⟩
  obtain ⟨bc, hbc⟩ : ∃ b, b = w1.heap.size := ⟨_, rfl⟩
  rw [← hW2] at A2 k0 k1 k2 HBA
  rw [← hbc, ← hn] at k2
  rw [← hbc] at k0 k1
  rw [← hn] at A2
  have HW2 := Lib.hid hW2
  have HBC := Lib.hid hbc
  have HNN := Lib.hid hn
  rw [← hn] at HW2
  clear hr hl6 hC1 hC4 hcr hown hb1 hb2 hb1' hW2 hbc
  go_upto_region 2 with fail
  rw [← hn, ← HW2.out, ← HBC.out]
  clear hn
  go_wp2_with fail
  refine A2.out.mono ?_; clear A2; rintro e w3 ⟨x, F0, rfl, hX, hb3, hF⟩
  have k1z := k0
  replace k0 := cell_later hb3 k0
  replace k2 := cell_later hb3 k2
  clear k1
  have A3 := Lib.hid (show Calls Try.prog 7 #[.pointer (some ⟨x, 0, none⟩)] w3 fun e w' => e = .returned (.int .i64 0) ∧ w3 = w' from WorkX_at hX.inn H0.out)
  have NB0 := Lib.hid (show bc ∉ F0 from fun m => by have := hF bc m; have := lt_of_cell k1z; omega)
  have HX := Lib.hid hX
  clear hX hb3 hF HBA HW2 k1z
  go_wp2_with fail
  refine A3.out.mono ?_; clear A3; rintro e w5 ⟨rfl, rfl⟩
  go_wp2_with fail
  go_loopw [10, 39] (fun ov iv wr => ∃ (k : Nat) (ops : List OpV), k ≤ many ∧ iv = .int .i64 k ∧ Hid (∀ o ∈ ops, o.Wf) ∧ Hid (ops.length = k) ∧ Hid (wr.ownsRow w3.heap.size 41 8 ov k (flatR encOl ops)) ∧ Below w3.heap.size w3 wr) (fun _ i _ => many - (intOf i).toNat)
  case atStart => exact ⟨0, [], Nat.zero_le _, rfl, Lib.hid (fun o ho => by cases ho), Lib.hid rfl, Lib.hid (World.ownsRow_nil _ _ _ _), Below.refl _ _⟩
  case round =>
    obtain ⟨k, ops, hk, rfl, hwf, hlen, hown, hb⟩ := hrel
    have HB := Lib.hid hb
    have k0r := cell_later hb k0
    have k2r := cell_later hb k2
    have hC := HC.out
    clear hb
    by_cases hlt : k < many
    · have hki : (k : Int) < (many : Int) := by omega
      have z0 : decide ((k : Int) < (many : Int)) = true := decide_eq_true hki
      have hkC : Int.tmod (k : Int) (C : Int) = ((k % C : Nat) : Int) := by rw [Int.tmod_eq_emod_of_nonneg (by omega)]; push_cast; rfl
      obtain ⟨cp, hcp⟩ : ∃ cp : Nat, cp = k % C := ⟨_, rfl⟩
      have hcpl : cp < C := by rw [hcp]; exact Nat.mod_lt _ (by omega)
      rw [← hcp] at hkC
      have hk7 : Int.tmod ((k : Int) * 7) (n : Int) = ((k * 7 % n : Nat) : Int) := by rw [Int.tmod_eq_emod_of_nonneg (by omega)]; push_cast; rfl
      obtain ⟨gq, hgq⟩ : ∃ g : Nat, g = k * 7 % n := ⟨_, rfl⟩
      have hgl : gq < n := by rw [hgq]; exact Nat.mod_lt _ (by omega)
      rw [← hgq] at hk7
      have hk9 : Int.tmod (k : Int) 9 = ((k % 9 : Nat) : Int) := by rw [Int.tmod_eq_emod_of_nonneg (by omega)]; push_cast; rfl
      obtain ⟨w9, hw9⟩ : ∃ g : Nat, g = k % 9 := ⟨_, rfl⟩
      have hw9l : w9 < 9 := by omega
      rw [← hw9] at hk9
      have y1 : IntKind.i64.wrap (cp : Int) = (cp : Int) := IntWalk.i64_in _ (by omega)
      have y2 : IntKind.i64.wrap (100 + (k : Int)) = 100 + (k : Int) := IntWalk.i64_in _ (by omega)
      have y3 : IntKind.i64.wrap ((k : Int) * 7) = (k : Int) * 7 := IntWalk.i64_in _ (by omega)
      have y4 : IntKind.i64.wrap (gq : Int) = (gq : Int) := IntWalk.i64_in _ (by omega)
      have y5 : IntKind.i64.wrap (w9 : Int) = (w9 : Int) := IntWalk.i64_in _ (by omega)
      have y6 : IntKind.i64.wrap (1 + (w9 : Int)) = 1 + (w9 : Int) := IntWalk.i64_in _ (by omega)
      have hCz : ((C : Int) = 0) = False := by simp; omega
      have hCz' : (C = 0) = False := by simp; omega
      have hnz : ((n : Int) = 0) = False := by simp; omega
      have hnz' : (n = 0) = False := by simp; omega
      clear hcp hgq hw9
      obtain ⟨mk, hmk⟩ : ∃ m : Int, m = IntKind.u64.wrap (2 ^ cp) := ⟨_, rfl⟩
      obtain ⟨oz, hoz⟩ : ∃ o : OpV, o = ⟨1, cp, 100 + (k : Int), gq, 1 + (w9 : Int), 0, 0, IntKind.u64.wrap (2 ^ cp)⟩ := ⟨_, rfl⟩
      have HWF := Lib.hid (show oz.Wf by
        rw [hoz]
        exact ⟨(by decide : (0 : Int) ≤ 1 ∧ (1 : Int) ≤ 255), wfI (by show _ ≤ (cp : Int); omega) (by show (cp : Int) ≤ _; omega), wfI (by show _ ≤ 100 + (k : Int); omega) (by show 100 + (k : Int) ≤ _; omega), wfI (by show _ ≤ (gq : Int); omega) (by show (gq : Int) ≤ _; omega), wfI (by show _ ≤ 1 + (w9 : Int); omega) (by show 1 + (w9 : Int) ≤ _; omega), (by decide : (Lit.int .i64 0).wf = true), (by decide : (Lit.int .i64 0).wf = true), wrap_u64_rng _⟩)
      have HOZ := Lib.hid hoz
      have HW7 := Lib.hid (show ∀ o ∈ ops ++ [oz], o.Wf from fun o ho => by
        rcases List.mem_append.1 ho with q | q
        · exact hwf.out o q
        · simp at q; subst q; exact HWF.out)
      have HL7 := Lib.hid (show (ops ++ [oz]).length = k + 1 by rw [List.length_append, hlen.out]; rfl)
      clear hmk hoz
      go_wp2_with fail
      obtain ⟨W5, hW5⟩ : ∃ W : World, W = wr := ⟨_, rfl⟩
      have h1 := hown.out
      have hbcl : bc < w3.heap.size := lt_of_cell k0
      have hS0 : (fun w' : World => w'.cell? ⟨bc, 2, none⟩ = some (.slice (some ⟨bg, 0, none⟩) n cg)) (wr.drew) := cell_dr k2r
      refine wp_region_held_drew (S := fun w' : World => w'.cell? ⟨bc, 2, none⟩ = some (.slice (some ⟨bg, 0, none⟩) n cg)) (by kernel_rfl) hS0 (fun hHeld => ?_)
      have hS00 : Below wr.heap.size wr wr := Below.refl _ _
      obtain ⟨wc101, hwc101⟩ : ∃ X, X = wr.drew := ⟨_, rfl⟩
      rw [← hwc101] at hHeld ⊢
      have hWc101 : Below wr.heap.size wr wc101 := by rw [hwc101]; exact (Below.refl _ _).drew
      clear hwc101
      refine takeA 0 ?_
      refine takeA 1 ?_
      refine takeA 2 ?_
      refine takeA 3 ?_
      refine takeA 4 ?_
      refine takeA 5 ?_
      refine takeA 6 ?_
      refine takeA 7 ?_
      refine takeA 8 ?_
      refine takeA 9 ?_
      refine takeA 10 ?_
      refine takeA 11 ?_
      refine takeA 12 ?_
      refine takeA 13 ?_
      refine takeA 14 ?_
      refine takeA 15 ?_
      refine readyA [16] (consA (fun K hK => ?_) .nil)
      replace h1 := own_below h1 hWc101
      have ks := cell_later hWc101 k2r
      have hBw := Below.step HB.out hWc101
      go_simp
      obtain ⟨w102, hw102⟩ : ∃ X, X = wc101.alloc (.cells #[.int .u8 1, .int .i64 cp, .int .i64 (100 + (k : Int)), .int .i64 gq, .int .i64 (1 + (w9 : Int)), .int .i64 0, .int .i64 0, .int .u64 (IntKind.u64.wrap (2 ^ cp))] 41) := ⟨_, rfl⟩
      rw [← hw102]
      have hb102 : Below wc101.heap.size wc101 w102 := by rw [hw102]; exact below_a _ _
      replace h1 := own_below h1 hb102
      replace ks := cell_later hb102 ks
      replace hBw := Below.step hBw hb102
      have l1 : ∀ j q, ([.int .u8 1, .int .i64 cp, .int .i64 (100 + (k : Int)), .int .i64 gq, .int .i64 (1 + (w9 : Int)), .int .i64 0, .int .i64 0, .int .u64 (IntKind.u64.wrap (2 ^ cp))] : List Value)[j]? = some q → w102.cell? ⟨wc101.heap.size, j, none⟩ = some q := fun j q h => by rw [hw102]; exact cellN rfl (by simpa using h)
      clear hw102 hb102
      refine outA hK (ks) (fun hHeld16 => ?_)
      clear hK K
      refine readyA [17] (consA (fun K hK => ?_) .nil)
      refine step_append_own2 rfl (.tmp 46) (.tmp 62) 39 rfl w3.heap.size 41 io (.agg #[.int .u8 0, .int .i64 0, .int .i64 0, .int .i64 0, .int .i64 0, .int .i64 0, .int .i64 0, .int .u64 0]) 8 64 Try.underlying39 hi hz0 hz1 hz2 rfl (by decide) _ k (flatR encOl ops) rfl h1 _ 1 1 [.int .u8 1, .int .i64 cp, .int .i64 (100 + (k : Int)), .int .i64 gq, .int .i64 (1 + (w9 : Int)), .int .i64 0, .int .i64 0, .int .u64 (IntKind.u64.wrap (2 ^ cp))] rfl rfl (fun j q h => by rw [addN, Nat.zero_add]; exact l1 j q h) (fun q hq => by simp at hq; rcases hq with rfl | rfl | rfl | rfl | rfl | rfl | rfl | rfl <;> rfl) (by unfold maxLen; omega) (by omega) hBw.size (by decide) ?_
      intro v103 w103 oa ga pa
      have hke := grown_kept ga
      have ks2 := hke.cellAt ks (fun m => by have h8 := (h1.lt bc (Option.mem_toList.1 m)).1; omega)
      have hBz : Below w3.heap.size w3 w103 := hBw.grown ga hBw.size (fun g hg => (h1.lt g hg).1)
      have HO6 := Lib.hid (show w103.ownsRow w3.heap.size 41 8 v103 (k + 1) (flatR encOl (ops ++ [oz])) by rw [flatR_app, HOZ.out]; exact oa)
      clear oa ga pa hke
      refine outA hK (ks2) (fun hHeld17 => ?_)
      clear hK K
      refine takeA 18 ?_
      refine doneA ?_
      clear h1 ks hBw l1 ks2
      go_wp2_with fail
      go_roundw
      case rel => exact ⟨k + 1, ops ++ [oz], by omega, by go_num, HW7, HL7, HO6, hBz⟩
      case measure => simp [intOf]; omega
    · obtain rfl : many = k := by omega
      have z0 : decide ((many : Int) < (many : Int)) = false := decide_eq_false (by omega)
      have A4 := Lib.hid (Script_at s2 l2 c2 150 F2 wr (srow_later R2.out (Below.step HX.out.bel HB.out)) (by decide))
      have HXr := Lib.hid (HX.out.later HB.out)
      go_wp2_with fail
      refine A4.out.mono ?_; clear A4; rintro e w6 ⟨v6, ops2, rfl, hwf2, hl2, hown2, hb6⟩
      have HB6 := Lib.hid (Below.step HB.out hb6)
      have hl2' : ops2.length ≤ 150 := hl2
      go_wp2_with (at_builtin; refine listR rfl (.tmp 65) (.tmp 67) 39 rfl w3.heap.size 41 io (.agg #[.int .u8 0, .int .i64 0, .int .i64 0, .int .i64 0, .int .i64 0, .int .i64 0, .int .i64 0, .int .u64 0]) 8 64 encOw Try.underlying39 hi hz0 hz1 hz2 rfl _ many (flatR encOl ops) rfl (own_below hown.out hb6) _ ops2 rfl (own_recs encOw hown2) ?c3 ?c4 ?c5 ?_)
      case c3 => unfold maxLen; omega
      case c4 => omega
      case c5 => exact HB6.out.size
      intro v7 w7 oa ga _ _
      have hBz := HB6.out.grown ga HB6.out.size (fun g hg => (hown.out.lt g hg).1)
      rw [← flatR_app] at oa
      obtain ⟨all, hall⟩ : ∃ all, all = ops ++ ops2 := ⟨_, rfl⟩
      have HWA := Lib.hid (show ∀ o ∈ all, o.Wf from fun o ho => by
        rw [hall] at ho
        rcases List.mem_append.1 ho with q | q
        · exact hwf.out o q
        · exact hwf2 o q)
      have HLA : all.length = many + ops2.length := by rw [hall, List.length_append, hlen.out]
      rw [← hall, ← HLA] at oa
      obtain ⟨m, hm⟩ : ∃ m, m = all.length := ⟨_, rfl⟩
      have hm400 : m ≤ 400 := by omega
      have HV := own_heldS (F := F0) oa rfl rfl (fun b hb => HX.out.lt b hb)
      obtain ⟨a7, c7, rfl⟩ := own_shapeW oa
      have HV7 := Lib.hid HV
      have HX7 := Lib.hid (HX.out.later hBz)
      have K7 := cell_later hBz k0
      have NB := Lib.hid (show bc ∉ F0 from NB0.out)
      rw [← hm] at HV7 ⊢
      have HMA := Lib.hid hm
      clear oa ga hBz hall HLA hm HV hown2 hwf2 hb6 hl2
      go_wp2_with fail
      go_loopw [70] (fun iv wr => ∃ (k : Nat) (s : SSt) (F : List Nat), k ≤ m ∧ iv = .int .i64 k ∧ Hid (XW w x s wr F) ∧ Hid (SOk s) ∧ Hid (s.C = C) ∧ Hid (HeldR encOl F wr (.slice a7 m c7) all) ∧ Hid (bc ∉ F) ∧ wr.cell? ⟨bc, 0, none⟩ = some (.int .i64 C)) (fun i _ => m - (intOf i).toNat)
      case atStart => exact ⟨0, _, F0, Nat.zero_le _, rfl, HX7, H0, Lib.hid rfl, HV7, NB, K7⟩
      case round =>
        clear HX7 HV7 NB K7 HXr HX H0 hown
        obtain ⟨k, s, F, hk, rfl, HX, HO, HCs, HV, NB, kc⟩ := hrel
        by_cases hlt : k < m
        · have hki : (k : Int) < (m : Int) := by omega
          have z1 : decide ((k : Int) < (m : Int)) = true := decide_eq_true hki
          obtain ⟨b7, off, rfl, hcc⟩ : ∃ b off, a7 = some ⟨b, off, none⟩ ∧ ∀ j u, (flatR encOl all)[j]? = some u → wr.cell? ⟨b, off + j, none⟩ = some u := by
            obtain ⟨a, cap, e, _, _, _, q⟩ := HV.out
            cases e
            rcases q with q | ⟨b, off, e, _, hc⟩
            · have h9 : all.length = 0 := by rw [q]; rfl
              omega
            · exact ⟨b, off, e, hc⟩
          have hka : k < all.length := by rw [← HMA.out]; exact hlt
          have hx : all[k]? = some all[k]! := by rw [getElem!_pos all k hka]; exact List.getElem?_eq_getElem hka
          have hcell : ∀ j u, (encOl all[k]!)[j]? = some u → wr.cell? ⟨b7, off + k * 8 + j, none⟩ = some u := fun j u hj => by
            have hj8 : j < 8 := (List.getElem?_eq_some_iff.1 hj).1
            have := hcc (k * 8 + j) u ((flatR_at encOw hx j hj8).trans (by rw [← hj]))
            rwa [← Nat.add_assoc] at this
          have hwfo := HWA.out all[k]! (by rw [getElem!_pos all k hka]; exact List.getElem_mem hka)
          obtain ⟨o, ho⟩ : ∃ o, o = all[k]! := ⟨_, rfl⟩
          rw [← ho] at hcell hwfo
          clear hcc hx ho
          have u0 : wr.cell? ⟨b7, off + k * 8 + 0, none⟩ = some (.int .u8 o.kind) := hcell 0 _ rfl
          have u1 : wr.cell? ⟨b7, off + k * 8 + 1, none⟩ = some (.int .i64 o.cpu) := hcell 1 _ rfl
          have u2 : wr.cell? ⟨b7, off + k * 8 + 2, none⟩ = some (.int .i64 o.task) := hcell 2 _ rfl
          have u3 : wr.cell? ⟨b7, off + k * 8 + 3, none⟩ = some (.int .i64 o.group) := hcell 3 _ rfl
          have u4 : wr.cell? ⟨b7, off + k * 8 + 4, none⟩ = some (.int .i64 o.weight) := hcell 4 _ rfl
          have u5 : wr.cell? ⟨b7, off + k * 8 + 5, none⟩ = some (.int .i64 o.dst) := hcell 5 _ rfl
          have u6 : wr.cell? ⟨b7, off + k * 8 + 6, none⟩ = some (.int .i64 o.ticks) := hcell 6 _ rfl
          have u7 : wr.cell? ⟨b7, off + k * 8 + 7, none⟩ = some (.int .u64 o.mask) := hcell 7 _ rfl
          rw [Nat.add_zero] at u0
          obtain ⟨W8, hW8⟩ : ∃ W, W = wr.alloc (.cells (cellsO o) 41) := ⟨_, rfl⟩
          have hb8 : Below wr.heap.size wr W8 := by rw [hW8]; exact below_a _ _
          have B8 : OpBox W8 wr.heap.size o := by rw [hW8]; exact OpBox.new _ _ _
          have N8 := Lib.hid (show wr.heap.size ∉ F from fun m => by have := HX.out.lt _ m; omega)
          have H8 := Lib.hid (HX.out.later hb8)
          have V8 := Lib.hid (HV.out.later hb8)
          have K8 := cell_later hb8 kc
          obtain ⟨s', hs'⟩ : ∃ s', s' = (doR s o).2.2 := ⟨_, rfl⟩
          obtain ⟨gt, hgt⟩ : ∃ g, g = (doR s o).1 := ⟨_, rfl⟩
          obtain ⟨er, her⟩ : ∃ g, g = (doR s o).2.1 := ⟨_, rfl⟩
          have A5 := DoX_at H8.out.inn HO.out hwfo
          rw [← hs', ← hgt, ← her] at A5
          have HO' := Lib.hid (show SOk s' by rw [hs']; exact HO.out.done hwfo)
          have HC' := Lib.hid (show s'.C = C by rw [hs']; exact (opR_C _ o).trans HCs.out)
          have HM' := Lib.hid (show 0 ≤ s'.wk ∧ s'.wk ≤ mostW o C s'.c by
            have := (HO.out.work 0).mostLe hwfo rfl
            rw [hs', ← HCs.out]; exact this)
          have HE' := Lib.hid (show er ≠ 0 → s'.wk = 0 by
            rw [her, hs']
            intro q
            have := ((HO.out.work 0).refuse o).ok q
            rw [show (doR s o).2.2 = { s with wk := 0 } from this.2])
          replace A5 := Lib.hid A5
          unfold cellsO at hW8
          have HW8 := Lib.hid hW8
          obtain ⟨b8, hb8e⟩ : ∃ b, b = wr.heap.size := ⟨_, rfl⟩
          rw [← hb8e] at B8 N8
          have HB8E := Lib.hid hb8e
          have q0 := B8.c0
          have q1 := B8.c1
          have q2 := B8.c2
          have q3 := B8.c3
          have q4 := B8.c4
          have q5 := B8.c5
          have q6 := B8.c6
          have q7 := B8.c7
          unfold encO at A5
          clear hcell hwfo hW8 hb8 hs' hgt her hb8e B8 HX HV kc hka
          go_upto_region 15 with fail
          rw [← HW8.out, ← HB8E.out]
          clear u0 u1 u2 u3 u4 u5 u6 u7
          go_wp2_with fail
          refine A5.out.mono ?_; clear A5; rintro e w9 ⟨rfl, hA⟩
          obtain ⟨F9, x9, t9⟩ := H8.out.step hA
          have H9 := Lib.hid (show XW w x s' w9 F9 from x9)
          have q0' := t9.cell N8.out q0
          have kc' := t9.cell NB.out K8
          have NB9 := Lib.hid (t9.off NB.out (lt_of_cell K8))
          have V9 := Lib.hid (V8.out.step t9.kept t9.new)
          have A6 := Lib.hid (WorkX_at H9.out.inn HO'.out)
          have A7 := Lib.hid (LenX_at H9.out.inn HO'.out)
          have hw0 := HM'.out.1
          have z3 : decide (s'.wk < 0) = false := decide_eq_false (by omega)
          clear hA x9 t9 q0 q1 q2 q3 q4 q5 q6 q7 K8 H8 V8
          have hbound := HO'.out.few
          have hC4 := HC.out
          by_cases he : er = 0
          · have z5 : (er == 0) = true := beq_iff_eq.2 he
            by_cases h8 : o.kind = 8
            · have z6 : (o.kind == 8) = true := beq_iff_eq.2 h8
              have hm : s'.wk ≤ (C : Int) := by have := HM'.out.2; unfold mostW at this; rw [if_pos h8] at this; exact this
              clear he h8
              have z4 : decide (s'.wk > (C : Int)) = false := decide_eq_false (by omega)
              have z4' : decide ((C : Int) < s'.wk) = false := decide_eq_false (by omega)
              clear hw0 hbound hC4
              go_wp2_with fail
              refine A6.out.mono ?_; rintro e w_ ⟨rfl, rfl⟩
              go_wp2_with fail
              refine A6.out.mono ?_; rintro e w_ ⟨rfl, rfl⟩
              go_wp2_with fail
              go_roundw
              case rel => exact ⟨k + 1, s', F9, by omega, by go_num, H9, HO', HC', V9, NB9, kc'⟩
              case measure => simp [intOf]; omega
            · have z6 : (o.kind == 8) = false := beq_eq_false_iff_ne.2 h8
              by_cases h10 : o.kind = 10
              · have z7 : (o.kind == 10) = true := beq_iff_eq.2 h10
                have hm : s'.wk ≤ 10 + (s'.c : Int) := by have := HM'.out.2; unfold mostW at this; rw [if_neg h8, if_pos h10] at this; exact this
                have y1 : IntKind.i64.wrap (10 + (s'.c : Int)) = 10 + (s'.c : Int) := IntWalk.i64_in _ (by omega)
                clear he h8 h10
                have z4 : decide (s'.wk > 10 + (s'.c : Int)) = false := decide_eq_false (by omega)
                have z4' : decide (10 + (s'.c : Int) < s'.wk) = false := decide_eq_false (by omega)
                clear hw0 hbound hC4
                go_wp2_with fail
                refine A7.out.mono ?_; rintro e w_ ⟨rfl, rfl⟩
                go_wp2_with fail
                refine A6.out.mono ?_; rintro e w_ ⟨rfl, rfl⟩
                go_wp2_with fail
                refine A6.out.mono ?_; rintro e w_ ⟨rfl, rfl⟩
                go_wp2_with fail
                go_roundw
                case rel => exact ⟨k + 1, s', F9, by omega, by go_num, H9, HO', HC', V9, NB9, kc'⟩
                case measure => simp [intOf]; omega
              · have z7 : (o.kind == 10) = false := beq_eq_false_iff_ne.2 h10
                have hm : s'.wk ≤ 10 := by have := HM'.out.2; unfold mostW at this; rw [if_neg h8, if_neg h10] at this; exact this
                clear he h8 h10
                have z4 : decide (s'.wk > 10) = false := decide_eq_false (by omega)
                have z4' : decide (10 < s'.wk) = false := decide_eq_false (by omega)
                clear hw0 hbound hC4
                go_wp2_with fail
                refine A6.out.mono ?_; rintro e w_ ⟨rfl, rfl⟩
                go_wp2_with fail
                refine A6.out.mono ?_; rintro e w_ ⟨rfl, rfl⟩
                go_wp2_with fail
                go_roundw
                case rel => exact ⟨k + 1, s', F9, by omega, by go_num, H9, HO', HC', V9, NB9, kc'⟩
                case measure => simp [intOf]; omega
          · have z5 : (er == 0) = false := beq_eq_false_iff_ne.2 he
            have hm := HE'.out he
            clear he
            have z4 : decide (s'.wk > 0) = false := decide_eq_false (by omega)
            have z4' : decide (0 < s'.wk) = false := decide_eq_false (by omega)
            clear hw0 hbound hC4
            go_wp2_with fail
            refine A6.out.mono ?_; rintro e w_ ⟨rfl, rfl⟩
            go_wp2_with fail
            refine A6.out.mono ?_; rintro e w_ ⟨rfl, rfl⟩
            go_wp2_with fail
            go_roundw
            case rel => exact ⟨k + 1, s', F9, by omega, by go_num, H9, HO', HC', V9, NB9, kc'⟩
            case measure => simp [intOf]; omega
        · obtain rfl : m = k := by omega
          have z1 : decide ((m : Int) < (m : Int)) = false := decide_eq_false (by omega)
          have HBL := Lib.hid HX.out.bel
          go_wp2_with fail
          refine (AW.out wr).mono ?_; rintro e w9 ⟨rfl, hb9⟩
          have HB9 := Lib.hid (Below.step HBL.out hb9)
          clear hb9
          go_wp2_with fail
          go_ret
          exact ⟨rfl, HB9.out⟩
end Go.Proofs.Ytapnaocdehahdaa
