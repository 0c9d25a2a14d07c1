/-
  QueueFair: if the first member is charged each time, two members never differ in V by more than at first, or than the greatest charge can make.
-/
import Derived.Test.YtekjakmeopolhaaQueueP
namespace Go.Proofs.Ytekjakmeopolhaa
open Go.RowKit Go.Maps Go.IntWalk Go.Lib
set_option linter.unusedVariables false
set_option linter.unusedSimpArgs false
theorem addV_most {v r c t : Int} (h : Ch.Ok v r c) (ht : 0 ≤ t) : Ch.addV v r c t ≤ v + Ch.addV 0 (c - 1) c t := by
  unfold Ch.Ok at h
  have hq : (t * 1048576 + r) / c ≤ (t * 1048576 + (c - 1)) / c := Int.ediv_le_ediv (by omega) (by omega)
  have hE : ∀ v r c t, Ch.addV v r c t = if Ch.atEnd v r c t then 18446744073709551615 else v + (t * 1048576 + r) / c := fun _ _ _ _ => rfl
  have hA : ∀ v r c t, Ch.atEnd v r c t ↔ 18446744073709551615 - v ≤ (t * 1048576 + r) / c := fun _ _ _ _ => Iff.rfl
  rw [hE, hE]
  by_cases h1 : Ch.atEnd v r c t <;> by_cases h2 : Ch.atEnd 0 (c - 1) c t
  · rw [if_pos h1, if_pos h2]; omega
  · rw [if_pos h1, if_neg h2]; rw [hA] at h1 h2; omega
  · rw [if_neg h1, if_pos h2]; rw [hA] at h1 h2; omega
  · rw [if_neg h1, if_neg h2]; omega
/-- the first and the last of members in order -/
theorem ends_of {A : Mems} (h : InOrder (itemsM A)) {n : Nat} (hn : A.length = n) (h0 : 0 < n) : A[0]! ∈ A ∧ A[n - 1]! ∈ A ∧ ∀ x ∈ A, A[0]!.2.1 ≤ x.2.1 ∧ x.2.1 ≤ A[n - 1]!.2.1 := by
  unfold InOrder itemsM at h
  rw [List.pairwise_map] at h
  have hp := List.pairwise_iff_getElem.1 h
  rw [getElem!_pos A 0 (by omega), getElem!_pos A (n - 1) (by omega)]
  refine ⟨List.getElem_mem _, List.getElem_mem _, fun x hx => ?_⟩
  obtain ⟨i, hi, rfl⟩ := List.getElem_of_mem hx
  constructor
  · rcases Nat.eq_zero_or_pos i with e | e
    · subst e; exact Int.le_refl _
    · have := hp 0 i (by omega) hi e
      unfold ltI kM at this
      simp only at this
      omega
  · by_cases e : i = n - 1
    · subst e; exact Int.le_refl _
    · have := hp i (n - 1) hi (by omega) (by omega)
      unfold ltI kM at this
      simp only at this
      omega
theorem fair_step {M : Mems} (hM : InOrder (itemsM M)) {n : Nat} (hn : M.length = n) (h0 : 0 < n) {y : Ent} (hV : M[0]!.2.1 ≤ y.1) {b : Int} (hb : y.1 ≤ M[0]!.2.1 + b) {A : Mems} (hA : A = chM M M[0]!.1 y) (hO : InOrder (itemsM A)) (hl : A.length = n) :
    0 ≤ A[n - 1]!.2.1 - A[0]!.2.1 ∧ A[n - 1]!.2.1 - A[0]!.2.1 ≤ max (M[n - 1]!.2.1 - M[0]!.2.1) b := by
  obtain ⟨m1, m2, m3⟩ := ends_of hM hn h0
  obtain ⟨a1, a2, a3⟩ := ends_of hO hl h0
  have mem : ∀ x ∈ A, x = (M[0]!.1, y) ∨ x ∈ M := fun x hx => by
    rw [hA] at hx
    unfold chM at hx
    rcases put_mem.1 hx with e | e
    · exact Or.inl e
    · exact Or.inr (out_mem.1 e).1
  have f1 := (a3 _ a2).1
  have g1 : M[0]!.2.1 ≤ A[0]!.2.1 := by
    rcases mem _ a1 with e | e
    · rw [e]; exact hV
    · exact (m3 _ e).1
  have g2 : A[n - 1]!.2.1 ≤ M[n - 1]!.2.1 ∨ A[n - 1]!.2.1 ≤ M[0]!.2.1 + b := by
    rcases mem _ a2 with e | e
    · rw [e]; exact Or.inr hb
    · exact Or.inl (m3 _ e).2
  omega
theorem getE_some {M : Mems} {id : Int} {x : Ent} (h : entM M id = some x) : getE M id = x ∧ (entM M id).isSome = true := by unfold getE; rw [h]; exact ⟨rfl, rfl⟩
theorem first_of {M : Mems} {n : Nat} (hn : M.length = n) (h0 : 0 < n) : firstI M = M[0]!.1 ∧ (!M.isEmpty) = true := by
  cases M with
  | nil => simp at hn; omega
  | cons x r => exact ⟨rfl, rfl⟩
theorem row_u16 {w : World} {s : Option Addr} {l c : Nat} {F : Nat → Nat → Value} (h : PlainRow [some .u16] w s l c F) {k : Nat} (hk : k < l) : ∃ b off x, s = some ⟨b, off, none⟩ ∧ w.cell? ⟨b, off + k, none⟩ = some (.int .u16 x) ∧ 0 ≤ x ∧ x ≤ 65535 := by
  rcases h with ⟨rfl, rfl, rfl⟩ | ⟨rfl, hc, x, rfl⟩ | ⟨h0, hl, hm, b, off, rfl, hc⟩
  · omega
  · omega
  · obtain ⟨e0, x, q0, w0⟩ := hc k hk 0 (some .u16) rfl
    rw [q0] at e0
    refine ⟨b, off, x, rfl, ?_, wf_u16' w0⟩
    simpa using e0
set_option maxRecDepth 100000 in
set_option maxHeartbeats 4000000 in
theorem QueueFair_true (s0 : Option Addr) (l0 c0 : Nat) (F0 : Nat → Nat → Value) (s1 : Option Addr) (l1 c1 : Nat) (F1 : Nat → Nat → Value) (w : World) (r0 : PlainRow [some .u16, some .u16, some .u16] w s0 l0 c0 F0) (r1 : PlainRow [some .u16] w s1 l1 c1 F1) :
    Calls Try.prog 4 #[.slice s0 l0 c0, .slice s1 l1 c1] w fun e w' => e = .returned (.bool true) ∧ Below w.heap.size w w' := by
  obtain ⟨xs, hx⟩ := small_of r0
  obtain ⟨m, hm⟩ : ∃ m, m = min l0 12 := ⟨_, rfl⟩
  have hle := hx.le
  have hmax := hx.max
  have e0 : min (l0 : Int) 12 = (m : Int) := by omega
  have hml : m ≤ l0 := by omega
  have hm12 : m ≤ 12 := by omega
  have hmc : (m : Int) ≤ (c0 : Int) := by omega
  have hmc2 : m ≤ c0 := by omega
  have A1 := filled_any s0 m c0 (xs.take m) w (hx.take hml)
  rw [show min m 30 = m by omega] at A1
  obtain ⟨M, hM⟩ : ∃ M, M = fillM (xs.take m) m := ⟨_, rfl⟩
  unfold QFilledP at A1
  rw [← hM] at A1
  have HL := Lib.hid (show M.length = m by rw [hM]; exact fillM_len _ _)
  have HA1 := Lib.hid A1
  have AW := Lib.hid fun W => awake_any W
  obtain ⟨hle1, hmax1, hnn1⟩ := row_le r1
  obtain ⟨t, ht⟩ : ∃ t, t = min l1 150 := ⟨_, rfl⟩
  have e1 : min (l1 : Int) 150 = (t : Int) := by omega
  have htl : t ≤ l1 := by omega
  have ht150 : t ≤ 150 := by omega
  have htc : (t : Int) ≤ (c1 : Int) := by omega
  have htc2 : t ≤ c1 := by omega
  have HPR := Lib.hid r1
  clear A1 hx r0 r1 hm ht hle hmax hM
  go_enter Try.func4, Try.ntmps4
  go_wp2_with fail
  refine HA1.out.mono ?_
  rintro e w1 ⟨q, F1, fl, rfl, h1⟩
  have H1 := Lib.hid h1
  clear h1
  have l0a : ((M.length : Int) != (m : Int)) = false := by rw [HL.out]; simp
  by_cases hm0 : m = 0
  · have hnil : M = [] := List.length_eq_zero_iff.1 (by rw [HL.out]; exact hm0)
    subst hnil
    have zz : ((m : Int) == 0) = true := by simp [hm0]
    have z1 : decide ((m : Int) > 0) = false := decide_eq_false (by omega)
    have z2 : decide (0 < m) = false := decide_eq_false (by omega)
    have z3 : (0 < m) = False := eq_false (by omega)
    go_wp2_with fail
    refine (QAll_at w1 H1.out.inn).mono ?_
    rintro e w11 ⟨v11, rfl, hr11, hb⟩
    have VA := Lib.hid (held_own hr11 hb H1.out.inn.lt)
    obtain ⟨a11, c11, rfl, -⟩ := id VA.out
    clear hr11
    have t12 : Step F1 w1 F1 w11 := Step.of hb
    have H12 := Lib.hid (H1.out.later hb)
    clear t12
    clear hb
    go_wp2_with fail
    go_loopw [59] (fun i wr => ∃ k : Nat, k ≤ t ∧ i = .int .i64 k ∧ QW w q 30 ([] : Mems) fl wr F1) (fun i _ => t - (intOf i).toNat)
    case atStart => exact ⟨0, Nat.zero_le _, rfl, H12.out⟩
    case round =>
      obtain ⟨k, hk, rfl, hI⟩ := hrel
      have HI := Lib.hid hI
      clear hI
      obtain ⟨wo, rfl⟩ : ∃ wo : World, wo = wr := ⟨_, rfl⟩
      by_cases hlt : k < t
      · obtain ⟨b, off, x, rfl, u0, hx0, hx1⟩ := row_u16 HPR.out (show k < l1 by omega)
        replace u0 := cell_later HI.out.bel u0
        have hk0 : (0 : Int) ≤ (k : Int) := by omega
        have hkm : (k : Int) < (t : Int) := by omega
        go_wp2_with fail
        refine (First_at wo HI.out.inn).mono ?_
        rintro e w21 ⟨rfl, hb⟩
        rw [show firstI ([] : Mems) = 0 from rfl, show (!List.isEmpty ([] : Mems)) = false from rfl]
        have t22 : Step F1 wo F1 w21 := Step.of hb
        have H22 := Lib.hid (HI.out.later hb)
        clear t22
        clear hb
        go_wp2_with fail
        refine (AW.out w21).mono ?_
        rintro e w9 ⟨rfl, hb9⟩
        have HB9 := Lib.hid (Below.step H22.out.bel hb9)
        clear hb9
        go_wp2_with fail
        go_ret
        exact ⟨rfl, HB9.out⟩
      · have z4 : decide ((k : Int) < (t : Int)) = false := decide_eq_false (by omega)
        clear hk
        go_wp2_with fail
        refine (AW.out wo).mono ?_
        rintro e w9 ⟨rfl, hb9⟩
        have HB9 := Lib.hid (Below.step HI.out.bel hb9)
        clear hb9
        go_wp2_with fail
        go_ret
        exact ⟨rfl, HB9.out⟩
  · have zz : ((m : Int) == 0) = false := by simp; omega
    have hmp : 0 < m := by omega
    have hmi : (0 : Int) < (m : Int) := by omega
    have z1 : decide ((m : Int) > 0) = true := decide_eq_true (by omega)
    obtain ⟨p, hp⟩ : ∃ p, p = m - 1 := ⟨_, rfl⟩
    have q0 : (m : Int) - 1 = (p : Int) := by omega
    have q1 : IntKind.i64.wrap (p : Int) = (p : Int) := IntWalk.i64_in _ (by omega)
    have q2 : (0 : Int) ≤ (p : Int) := by omega
    have q3 : (p : Int) < (m : Int) := by omega
    have q4 : p < m := by omega
    have q5 : (p : Int).toNat = p := by omega
    have HP := Lib.hid hp
    clear hp hm0
    have HK := Lib.hid H1.out.inn.ids
    go_wp2_with fail
    refine (QAll_at w1 H1.out.inn).mono ?_
    rintro e w11 ⟨v11, rfl, hr11, hb⟩
    have VA := Lib.hid (held_own hr11 hb H1.out.inn.lt)
    obtain ⟨a11, c11, rfl, -⟩ := id VA.out
    clear hr11
    have t12 : Step F1 w1 F1 w11 := Step.of hb
    have H12 := Lib.hid (H1.out.later hb)
    clear t12
    clear hb
    obtain ⟨-, b2, off2, rfl, i0, i1, i2, i3⟩ := VA.out.recs.mem (i := p) (by rw [HL.out]; exact q4)
    obtain ⟨-, b3, off3, hbb, k0, k1, k2, k3⟩ := VA.out.recs.mem (i := 0) (by rw [HL.out]; exact hmp)
    cases hbb
    rw [Nat.zero_mul, Nat.add_zero] at k0 k1 k2 k3
    obtain ⟨m1, m2, m3⟩ := ends_of HK.out.1.ord HL.out hmp
    rw [← HP.out] at m2 m3
    have o1 := HK.out.1.ok _ m1
    have o2 := HK.out.1.ok _ m2
    have o3 := (m3 _ m2).1
    unfold Ch.Ok at o1 o2
    obtain ⟨x, hx⟩ : ∃ x, x = (M)[0]! := ⟨_, rfl⟩
    obtain ⟨z, hz⟩ : ∃ x, x = (M)[p]! := ⟨_, rfl⟩
    rw [← hx] at k0 k1 k2 k3 o1 o3
    rw [← hz] at i0 i1 i2 i3 o2 o3
    have v1 : IntKind.u64.wrap (z.2.1 - x.2.1) = z.2.1 - x.2.1 := IntWalk.u64_in _ (by omega)
    rw [HL.out]
    have HD := Lib.hid (show z.2.1 - x.2.1 = M[m - 1]!.2.1 - M[0]!.2.1 by rw [hx, hz, HP.out])
    have hsp : 0 ≤ z.2.1 - x.2.1 ∧ z.2.1 - x.2.1 ≤ 18446744073709551615 := by omega
    clear m1 m2 m3 o1 o2 o3 hx hz
    go_wp2_with fail
    go_quiet (fail)
    obtain ⟨sp, hsp2⟩ : ∃ sp, sp = z.2.1 - x.2.1 := ⟨_, rfl⟩
    rw [← hsp2] at hsp HD ⊢
    have HSP := Lib.hid hsp
    have HS0 := Lib.hid (H12.out.later (below_drewN (Below.refl _ _) nq))
    clear hsp hsp2 k0 k1 k2 k3 i0 i1 i2 i3 v1 VA
    generalize hW0 : w11.drewN nq = W0 at *
    clear hW0
    have HLE := Lib.hid HL.out
    go_wp2_with fail
    go_loopw [8, 10, 59] (fun a b i wr => ∃ (k : Nat) (M : Mems) (fl : Int) (F : List Nat) (mo : Int), k ≤ t ∧ i = .int .i64 k ∧ a = .int .u64 mo ∧ (0 ≤ mo ∧ mo ≤ 18446744073709551615) ∧ QW w q 30 M fl wr F ∧ M.length = m ∧ M[m - 1]!.2.1 - M[0]!.2.1 ≤ max sp mo) (fun _ _ i _ => t - (intOf i).toNat)
    case atStart => exact ⟨0, _, _, _, 0, Nat.zero_le _, rfl, rfl, by omega, HS0.out, HLE.out, by have := HD.out; omega⟩
    case round =>
      clear HD HS0 HK HL HLE
      obtain ⟨k, M, fl, F, mo, hk, rfl, rfl, hmo, hI, hL, hD⟩ := hrel
      have HI := Lib.hid hI
      have HK := Lib.hid hI.inn.ids
      have HL := Lib.hid hL
      have HD := Lib.hid hD
      have HMO := Lib.hid hmo
      clear hI hL hD hmo
      obtain ⟨wo, rfl⟩ : ∃ wo : World, wo = wr := ⟨_, rfl⟩
      by_cases hlt : k < t
      · obtain ⟨b, off, c, rfl, u0, hx0, hx1⟩ := row_u16 HPR.out (show k < l1 by omega)
        replace u0 := cell_later HI.out.bel u0
        have hk0 : (0 : Int) ≤ (k : Int) := by omega
        have hkm : (k : Int) < (t : Int) := by omega
        have HFI := Lib.hid (first_of HL.out hmp)
        obtain ⟨e1m, e2m, e3m⟩ := ends_of HK.out.1.ord HL.out hmp
        obtain ⟨x, hx⟩ : ∃ x, x = M[0]! := ⟨_, rfl⟩
        rw [← hx] at e1m HFI
        have HX := Lib.hid hx
        have hEn : entM M x.1 = some x.2 := (ent_some HK.out.1.nod).2 e1m
        have HG := Lib.hid (getE_some hEn)
        have HEN := Lib.hid hEn
        have hbd := HK.out.2.1 x e1m
        have WF := Lib.hid (WalkArith.wf_i64 (n := x.1) (by omega))
        have HBD := Lib.hid hbd
        have hok := HK.out.1.ok x e1m
        have HOK := Lib.hid hok
        obtain ⟨dd, hdd⟩ : ∃ dd, dd = c % 4097 := ⟨_, rfl⟩
        have d1 : c.tmod 4097 = dd := by rw [Int.tmod_eq_emod_of_nonneg hx0, hdd]
        have d2 : c % 4097 = dd := hdd.symm
        have hd0 : 0 ≤ dd := by omega
        have hd1 : dd ≤ 4096 := by omega
        have hw : 1 ≤ x.2.2.2 ∧ x.2.2.2 ≤ 65536 := by unfold Ch.Ok at hok; omega
        have hw0 : 0 ≤ x.2.2.2 := by omega
        have hw1 : x.2.2.2 ≤ 65536 := by omega
        have d3 : IntKind.i64.wrap x.2.2.2 = x.2.2.2 := IntWalk.i64_in _ (by omega)
        have AMo := Lib.hid fun W => Most_ok x.2.2.2 dd W hw (by omega)
        have hby := addV_most hok hd0
        have hbo := (Ch.add_ok (show Ch.Ok 0 (x.2.2.2 - 1) x.2.2.2 by unfold Ch.Ok; omega) hd0 : Ch.Ok _ _ _)
        have hge := Ch.addV_ge hok hd0
        obtain ⟨M3, hM3⟩ : ∃ M3, M3 = chM M x.1 (chgX dd x.2) := ⟨_, rfl⟩
        have HM3 := Lib.hid hM3
        have HL3 := Lib.hid (show M3.length = m by rw [hM3, ← HL.out]; exact ch_len HK.out.1.nod hEn _)
        generalize Ch.addV 0 (x.2.2.2 - 1) x.2.2.2 dd = y at *
        have hy : 0 ≤ y ∧ y ≤ 18446744073709551615 := by unfold Ch.Ok at hbo; omega
        have HY := Lib.hid hy
        have HC := Lib.hid (show x.2.1 ≤ (chgX dd x.2).1 ∧ (chgX dd x.2).1 ≤ x.2.1 + y from ⟨hge, hby⟩)
        clear hx e1m e2m e3m hEn hbd hok hw hby hbo hge hM3 hy hdd
        go_wp2_with fail
        refine (First_at wo HI.out.inn).mono ?_
        rintro e w21 ⟨rfl, hb⟩
        rw [HFI.out.1, HFI.out.2]
        have t22 : Step F wo F w21 := Step.of hb
        have H22 := Lib.hid (HI.out.later hb)
        clear t22
        clear hb
        go_wp2_with fail
        refine (Get_at x.1 w21 H22.out.inn WF.out).mono ?_
        rintro e w23 ⟨rfl, hb⟩
        rw [HG.out.1, HG.out.2]
        have t24 : Step F w21 F w23 := Step.of hb
        have H24 := Lib.hid (H22.out.later hb)
        clear t24
        clear hb
        have hlt := H24.out.inn.lt
        have hb : Below w23.heap.size w23 (w23.alloc (.cells #[.int .u64 x.2.1, .int .u32 x.2.2.1, .int .u32 x.2.2.2] 32)) := below_a _ _
        have t26 : Step F w23 F (w23.alloc (.cells #[.int .u64 x.2.1, .int .u32 x.2.2.1, .int .u32 x.2.2.2] 32)) := Step.of hb
        have H26 := Lib.hid (H24.out.later hb)
        clear t26
        have g0 : (w23.alloc (.cells #[.int .u64 x.2.1, .int .u32 x.2.2.1, .int .u32 x.2.2.2] 32)).cell? ⟨w23.heap.size, 0, none⟩ = some (.int .u64 x.2.1) := cell_nw _ _ _ 0 _ rfl
        have g1 : (w23.alloc (.cells #[.int .u64 x.2.1, .int .u32 x.2.2.1, .int .u32 x.2.2.2] 32)).cell? ⟨w23.heap.size, 1, none⟩ = some (.int .u32 x.2.2.1) := cell_nw _ _ _ 1 _ rfl
        have g2 : (w23.alloc (.cells #[.int .u64 x.2.1, .int .u32 x.2.2.1, .int .u32 x.2.2.2] 32)).cell? ⟨w23.heap.size, 2, none⟩ = some (.int .u32 x.2.2.2) := cell_nw _ _ _ 2 _ rfl
        have og : w23.heap.size ∉ F := fun m => by have := hlt _ m; omega
        have lg := lt_of_cell g0
        have hS_g := Lib.hid (show (w23.alloc (.cells #[.int .u64 x.2.1, .int .u32 x.2.2.1, .int .u32 x.2.2.2] 32)).heap.size = w23.heap.size + 1 by simp)
        clear hb hlt
        go_wp2_with fail
        generalize (w23.alloc (.cells #[.int .u64 x.2.1, .int .u32 x.2.2.1, .int .u32 x.2.2.2] 32)) = W25 at *
        generalize w23.heap.size = b_g at *
        go_wp2_with fail
        refine (AMo.out W25).mono ?_
        rintro e w27 ⟨rfl, hb⟩
        have t28 : Step F W25 F w27 := Step.of hb
        have H28 := Lib.hid (H26.out.later hb)
        replace g0 := t28.cell og g0
        replace g1 := t28.cell og g1
        replace g2 := t28.cell og g2
        replace og := t28.off og lg
        replace lg := lt_of_cell g0
        clear t28
        clear hb
        go_wp2_with fail
        refine (Charge_at x.1 dd w27 H28.out.inn WF.out).mono ?_
        rintro e w29 ⟨rfl, hA⟩
        obtain ⟨p1, p2⟩ := chc_there (has_true (n := 30) HBD.out.1 HBD.out.2) HEN.out (chgX dd)
        rw [show decide (tkOk dd) = true from decide_eq_true (by unfold tkOk; omega)] at *
        rw [p1]
        rw [p2, ← HM3.out] at hA
        clear p1 p2
        obtain ⟨F30, h30, t30⟩ := H28.out.step hA
        have H30 := Lib.hid (show QW w q 30 M3 _ w29 F30 from h30)
        replace g0 := t30.cell og g0
        replace g1 := t30.cell og g1
        replace g2 := t30.cell og g2
        replace og := t30.off og lg
        replace lg := lt_of_cell g0
        clear t30 h30 hA
        have HK3 := Lib.hid H30.out.inn.ids
        go_wp2_with fail
        refine (QAll_at w29 H30.out.inn).mono ?_
        rintro e w31 ⟨v31, rfl, hr31, hb⟩
        have VB := Lib.hid (held_own hr31 hb H30.out.inn.lt)
        obtain ⟨a31, c31, rfl, -⟩ := id VB.out
        clear hr31
        have t32 : Step F30 w29 F30 w31 := Step.of hb
        have H32 := Lib.hid (H30.out.later hb)
        clear t32
        clear hb
        obtain ⟨-, b2, off2, rfl, i0, i1, i2, i3⟩ := VB.out.recs.mem (i := p) (by rw [HL3.out]; exact q4)
        obtain ⟨-, b3, off3, hbb, k0, k1, k2, k3⟩ := VB.out.recs.mem (i := 0) (by rw [HL3.out]; exact hmp)
        cases hbb
        rw [Nat.zero_mul, Nat.add_zero] at k0 k1 k2 k3
        obtain ⟨m1, m2, m3⟩ := ends_of HK3.out.1.ord HL3.out hmp
        rw [← HP.out] at m2 m3
        have o1 := HK3.out.1.ok _ m1
        have o2 := HK3.out.1.ok _ m2
        have o3 := (m3 _ m2).1
        unfold Ch.Ok at o1 o2
        obtain ⟨xa, hxa⟩ : ∃ x, x = (M3)[0]! := ⟨_, rfl⟩
        obtain ⟨za, hza⟩ : ∃ x, x = (M3)[p]! := ⟨_, rfl⟩
        rw [← hxa] at k0 k1 k2 k3 o1 o3
        rw [← hza] at i0 i1 i2 i3 o2 o3
        have v1 : IntKind.u64.wrap (za.2.1 - xa.2.1) = za.2.1 - xa.2.1 := IntWalk.u64_in _ (by omega)
        rw [HL3.out]
        have hfs := fair_step HK.out.1.ord HL.out hmp (y := chgX dd x.2) (b := y) (by rw [← HX.out]; exact HC.out.1) (by rw [← HX.out]; exact HC.out.2) (A := M3) (by rw [HM3.out, ← HX.out]) HK3.out.1.ord HL3.out
        have hDD := HD.out
        have HFS := Lib.hid hfs
        rw [← HP.out, ← hxa, ← hza] at hfs
        rw [← HP.out] at hDD
        have HR := Lib.hid (show za.2.1 - xa.2.1 ≤ max sp (max mo y) by omega)
        have r1 : decide (za.2.1 - xa.2.1 > max sp (max mo y)) = false := decide_eq_false (by omega)
        have r2 : decide (max sp (max mo y) < za.2.1 - xa.2.1) = false := decide_eq_false (by omega)
        have r3 : ((m : Int) != (m : Int)) = false := by simp
        have HZ := Lib.hid (show za.2.1 - xa.2.1 = M3[m - 1]!.2.1 - M3[0]!.2.1 by rw [hxa, hza, HP.out])
        clear m1 m2 m3 o1 o2 o3 hxa hza hfs hDD
        go_wp2_with fail
        go_quiet (fail)
        go_wp2_with fail
        go_roundw
        case rel => exact ⟨k + 1, M3, _, _, max mo y, by omega, by go_num, rfl, by have := HMO.out; have := HY.out; omega, H32.out.later (below_drewN (Below.refl _ _) _), HL3.out, by rw [← HZ.out]; exact HR.out⟩
        case measure => simp [intOf]; omega
      · have z4 : decide ((k : Int) < (t : Int)) = false := decide_eq_false (by omega)
        clear hk
        go_wp2_with fail
        refine (AW.out wo).mono ?_
        rintro e w9 ⟨rfl, hb9⟩
        have HB9 := Lib.hid (Below.step HI.out.bel hb9)
        clear hb9
        go_wp2_with fail
        go_ret
        exact ⟨rfl, HB9.out⟩
end Go.Proofs.Ytekjakmeopolhaa
