/-
  HeapOrder: in which order items are put in does not matter, nor what keys they had before.
-/
import Derived.Test.YtpbaegdmjmickaaHeapD
import Derived.Test.YtpbaegdmjmickaaHeapE
import Derived.Test.YtpbaegdmjmickaaHeapX
namespace Go.Proofs.Ytpbaegdmjmickaa
open Go.RowKit Go.Maps Go.IntWalk Go.Lib
set_option linter.unusedVariables false
set_option linter.unusedSimpArgs false
theorem wrapU (x : Int) : 0 ≤ IntKind.u64.wrap x ∧ IntKind.u64.wrap x ≤ 18446744073709551615 := by rw [IntKind.wrap_u64]; omega
/-- behind k puts -/
def PutsI (S T : Items) (b m k : Nat) : Prop := ∀ id, (keyL T id).isSome = true ↔ ∃ j, j < k ∧ id = S[rot b m j]!.1
/-- behind k sets -/
def SetsI (S T : Items) (key : Int) (b m k : Nat) : Prop := (∀ id, (keyL T id).isSome = true ↔ (id = 40 ∨ (keyL S id).isSome = true)) ∧ keyL T 40 = some key ∧ ∀ j, j < k → keyL T S[rot b m j]!.1 = some S[rot b m j]!.2
structure Base (S : Items) (m : Nat) : Prop where
  len : S.length = m
  ord : InOrder S
  nod : (S.map Prod.fst).Nodup
  ids : ∀ x ∈ S, 0 ≤ x.1 ∧ x.1 < (m : Int) ∧ 0 ≤ x.2 ∧ x.2 ≤ 18446744073709551615
  le : m ≤ 40
theorem Base.at_ {S : Items} {m : Nat} (h : Base S m) {i : Nat} (hi : i < m) : S[i]! ∈ S := at_mem (by rw [h.len]; exact hi)
theorem Base.apart {S : Items} {m : Nat} (h : Base S m) {i j : Nat} (hi : i < m) (hj : j < m) (e : S[i]!.1 = S[j]!.1) : i = j := nodup_apart h.nod i j (by rw [h.len]; exact hi) (by rw [h.len]; exact hj) e
theorem PutsI.next {S T : Items} {b m k : Nat} (hB : Base S m) (h : PutsI S T b m k) (hk : k < m) (hn : (T.map Prod.fst).Nodup) :
    keyL T S[rot b m k]!.1 = none ∧ ∀ key, PutsI S (putL T (S[rot b m k]!.1, key)) b m (k + 1) := by
  have h0 : keyL T S[rot b m k]!.1 = none := by
    cases e : keyL T S[rot b m k]!.1 with
    | none => rfl
    | some q =>
      obtain ⟨j, hj, e2⟩ := (h _).1 (by rw [e]; rfl)
      have := rot_inj hk (by omega) (hB.apart (rot_lt (by omega)) (rot_lt (by omega)) e2)
      omega
  refine ⟨h0, fun key id => ?_⟩
  rw [keyL_putL (x := (S[rot b m k]!.1, key)) h0 hn]
  by_cases e : S[rot b m k]!.1 = id
  · rw [if_pos e]
    exact ⟨fun _ => ⟨k, by omega, e.symm⟩, fun _ => rfl⟩
  · rw [if_neg e, h id]
    constructor
    · rintro ⟨j, hj, q⟩; exact ⟨j, by omega, q⟩
    · rintro ⟨j, hj, q⟩
      refine ⟨j, ?_, q⟩
      rcases Nat.lt_or_ge j k with q2 | q2
      · exact q2
      · have : j = k := by omega
        subst this
        exact absurd q.symm e
theorem PutsI.all {S T : Items} {b m : Nat} {b' : Nat} (hB : Base S m) (h : PutsI S T b m m) (hn : (T.map Prod.fst).Nodup) : keyL T 40 = none ∧ ∀ key, SetsI S (putL T (40, key)) key b' m 0 := by
  have h0 : keyL T 40 = none := by
    cases e : keyL T 40 with
    | none => rfl
    | some q =>
      obtain ⟨j, hj, e2⟩ := (h _).1 (by rw [e]; rfl)
      have := (hB.ids _ (hB.at_ (rot_lt (b := b) (k := j) (by omega)))).2.1
      have := hB.le
      omega
  refine ⟨h0, fun key => ⟨fun id => ?_, ?_, fun j hj => by omega⟩⟩
  · rw [keyL_putL (x := (40, key)) h0 hn]
    by_cases e : (40 : Int) = id
    · subst e; simp
    · rw [if_neg e, h id]
      constructor
      · rintro ⟨j, hj, q⟩
        rw [q, keyL_at hB.nod (by rw [hB.len]; exact rot_lt (by omega))]
        exact Or.inr rfl
      · rintro (q | q)
        · exact absurd q.symm e
        · obtain ⟨v, hv⟩ := Option.isSome_iff_exists.1 q
          obtain ⟨i, hi, e2⟩ := mem_at ((keyL_some hB.nod).1 hv)
          rw [hB.len] at hi
          obtain ⟨j, hj, e3⟩ := rot_onto (b := b) hi
          exact ⟨j, hj, by rw [e3, e2]⟩
  · rw [keyL_putL (x := (40, key)) h0 hn]; simp
theorem SetsI.next {S T : Items} {key : Int} {b m k : Nat} (hB : Base S m) (h : SetsI S T key b m k) (hk : k < m) (hn : (T.map Prod.fst).Nodup) :
    (∃ v, keyL T S[rot b m k]!.1 = some v) ∧ SetsI S (putL (outL T S[rot b m k]!.1) S[rot b m k]!) key b m (k + 1) := by
  have hr := rot_lt (b := b) (k := k) (show 0 < m by omega)
  have hS := keyL_at hB.nod (by rw [hB.len]; exact hr)
  have hid := hB.ids _ (hB.at_ hr)
  have hle := hB.le
  refine ⟨Option.isSome_iff_exists.1 ((h.1 _).2 (Or.inr (by rw [hS]; rfl))), ?_⟩
  have hx := keyL_outL T S[rot b m k]!.1
  have hp : ∀ id, keyL (putL (outL T S[rot b m k]!.1) S[rot b m k]!) id = if S[rot b m k]!.1 = id then some S[rot b m k]!.2 else keyL T id := fun id => by
    rw [keyL_putL (by rw [hx, if_pos rfl]) (outL_nodup hn _), hx]
    by_cases e : S[rot b m k]!.1 = id
    · rw [if_pos e, if_pos e]
    · rw [if_neg e, if_neg e, if_neg e]
  refine ⟨fun id => ?_, ?_, fun j hj => ?_⟩
  · rw [hp]
    by_cases e : S[rot b m k]!.1 = id
    · rw [if_pos e, ← e, hS]; exact ⟨fun _ => Or.inr rfl, fun _ => rfl⟩
    · rw [if_neg e]; exact h.1 id
  · rw [hp, if_neg (by omega)]; exact h.2.1
  · rw [hp]
    by_cases e : S[rot b m k]!.1 = S[rot b m j]!.1
    · have := hB.apart hr (rot_lt (by omega)) e
      rw [← this, if_pos rfl]
    · rw [if_neg e]
      refine h.2.2 j ?_
      rcases Nat.lt_or_ge j k with q | q
      · exact q
      · have : j = k := by omega
        subst this
        exact absurd rfl e
theorem SetsI.done {S T : Items} {key : Int} {b m : Nat} (hB : Base S m) (h : SetsI S T key b m m) (hn : (T.map Prod.fst).Nodup) (ho : InOrder T) : outL T 40 = S := by
  refine items_ext (outL_order ho 40) hB.ord (outL_nodup hn 40) hB.nod fun id => ?_
  rw [keyL_outL]
  by_cases e : (40 : Int) = id
  · subst e
    rw [if_pos rfl]
    symm
    rw [keyL_none]
    intro y hy q
    have := (hB.ids y hy).2.1
    have := hB.le
    omega
  · rw [if_neg e]
    cases q : keyL S id with
    | none =>
      cases q2 : keyL T id with
      | none => rfl
      | some v =>
        rcases (h.1 id).1 (by rw [q2]; rfl) with q3 | q3
        · exact absurd q3.symm e
        · rw [q] at q3; cases q3
    | some v =>
      obtain ⟨i, hi, e2⟩ := mem_at ((keyL_some hB.nod).1 q)
      rw [hB.len] at hi
      obtain ⟨j, hj, e3⟩ := rot_onto (b := b) hi
      have := h.2.2 j hj
      rw [e3, e2] at this
      exact this
set_option maxRecDepth 100000 in
set_option maxHeartbeats 8000000 in
theorem HeapOrder_true (s0 : Option Addr) (l0 c0 : Nat) (F0 : Nat → Nat → Value) (a1 a2 a3 : Int) (w : World) (r0 : PlainRow [some .u64] w s0 l0 c0 F0) (g1 : (Lit.int .u8 a1).wf = true) (g2 : (Lit.int .u8 a2).wf = true) (g3 : (Lit.int .u64 a3).wf = true) :
    Calls Try.prog 6 #[.slice s0 l0 c0, .int .u8 a1, .int .u8 a2, .int .u64 a3] w fun e w' => e = .returned (.bool true) ∧ Below w.heap.size w w' := by
  obtain ⟨xs, hx⟩ := nums_of r0
  have A1 := Lib.hid (filled_any s0 l0 c0 xs w hx)
  obtain ⟨m, hm⟩ : ∃ m, m = fillN l0 := ⟨_, rfl⟩
  have hm40 : m ≤ 40 := by rw [hm]; unfold fillN; omega
  have AW := Lib.hid fun W => awake_any W
  have AN := Lib.hid fun W => New_in 41 W (by decide) (by decide)
  obtain ⟨S, hS⟩ : ∃ S, S = fillK xs m := ⟨_, rfl⟩
  have HMM := Lib.hid hm
  have HSS := Lib.hid hS
  have b1 := wf_u8 g1
  have b2 := wf_u8 g2
  have B3 := Lib.hid (wf_u64 g3)
  obtain ⟨b, rfl⟩ : ∃ b : Nat, a1 = (b : Int) := ⟨a1.toNat, by omega⟩
  obtain ⟨c, rfl⟩ : ∃ c : Nat, a2 = (c : Int) := ⟨a2.toNat, by omega⟩
  clear hx r0 g1 g2 g3 hm
  go_enter Try.func6, Try.ntmps6
  go_wp2_with fail
  refine A1.out.mono ?_
  rintro e w1 ⟨p, F, rfl, h1, hF, hp, hb1⟩
  rw [← HMM.out] at h1 ⊢
  have hids := h1.ids
  rw [← HSS.out] at h1 hids
  have HBASE := Lib.hid (show Base S m from ⟨by rw [hS]; exact fillK_len xs m, hids.2.1, hids.1, fun x hx => by
    have h := hids.2.2.1 x hx
    have hmem := (fillK_ids xs m).mem_iff.1 (List.mem_map.2 ⟨x, by rw [← HSS.out]; exact hx, rfl⟩)
    obtain ⟨i, hi, q⟩ := List.mem_map.1 hmem
    have := List.mem_range.1 hi
    exact ⟨h.1.1, by omega, h.2.1, h.2.2⟩, hm40⟩)
  have I1 := Lib.hid (show WI w p 40 S w1 F from ⟨h1, hF, hb1⟩)
  clear h1 hb1 hF hp hids hS
  go_wp2_with fail
  refine (AN.out w1).mono ?_
  rintro e w2 ⟨rfl, h2, hb2⟩
  have I2 := Lib.hid (I1.out.below hb2)
  have J2 := Lib.hid (show WI w (w1.heap.size + 1) 41 [] w2 [w1.heap.size + 1, w1.heap.size] from ⟨h2, fun b hb => by have := I1.out.bel.size; simp at hb; omega, I2.out.bel⟩)
  generalize w1.heap.size + 1 = pk at *
  generalize [pk, w1.heap.size] = Fk at *
  clear h2 hb2
  go_wp2_with fail
  refine (All_at _ I2.out.inn).mono ?_
  rintro e w3 ⟨v3, rfl, hr3, hb3⟩
  have J3 := Lib.hid (J2.out.below hb3)
  have V3 := Lib.hid (show Held Fk w3 v3 S from hr3.held J2.out.inn.lt)
  obtain ⟨a3v, cc3, e3, _⟩ := hr3.items
  subst e3
  rw [show S.length = m from HBASE.out.len] at V3 ⊢
  have hz : ((m : Int) != (m : Int)) = false := by simp
  clear hr3 hb3
  go_wp2_with fail
  go_loopw [51] (fun i wr => ∃ (k : Nat) (T : Items) (F : List Nat), k ≤ m ∧ i = .int .i64 k ∧ WI w pk 41 T wr F ∧ Held F wr (.slice a3v m cc3) S ∧ PutsI S T b m k) (fun i _ => m - (intOf i).toNat)
  case atStart => exact ⟨0, [], Fk, Nat.zero_le _, rfl, J3.out, V3.out, fun id => ⟨fun q => (by cases q), fun ⟨j, hj, _⟩ => (by omega)⟩⟩
  case round =>
    obtain ⟨k, T, F, hk, rfl, hI, hV, hP⟩ := hrel
    have IR := Lib.hid hI
    have VR := Lib.hid hV
    have PR := Lib.hid hP
    clear hI hV hP
    by_cases hlt : k < m
    · obtain ⟨q1, q2⟩ := PR.out.next HBASE.out hlt IR.out.inn.ids.1
      have Q1 := Lib.hid q1
      have Q2 := Lib.hid q2
      clear q1 q2
      have hjl := rot_lt (b := b) (k := k) (show 0 < m by omega)
      have hje : ((k : Int) + (b : Int)) % (m : Int) = ((rot b m k : Nat) : Int) := by unfold rot; rw [Int.natCast_emod, Int.natCast_add]
      generalize rot b m k = j at *
      have hjS : j < S.length := by rw [HBASE.out.len]; exact hjl
      obtain ⟨-, bb, oo, rfl, i0, i1⟩ := VR.out.items.cells hjS
      have hxb := HBASE.out.ids _ (at_mem hjS)
      obtain ⟨x, hx⟩ : ∃ x, x = S[j]! := ⟨_, rfl⟩
      rw [← hx] at i0 i1 hxb
      have HX := Lib.hid hx
      have HXB := Lib.hid hxb
      have hk0 : (0 : Int) ≤ (k : Int) := by omega
      have hkm : (k : Int) < (m : Int) := by omega
      have hb0 : (0 : Int) ≤ (b : Int) := by omega
      have hmp : (0 : Int) < (m : Int) := by omega
      have hmz : ((m : Int) == 0) = false := by simp; omega
      have hjm : (j : Int) < (m : Int) := by omega
      have hj0 : (0 : Int) ≤ (j : Int) := by omega
      have hwf := HXB.out
      have HW := Lib.hid (show (Lit.int .i64 x.1).wf = true by simp only [Lit.wf, IntKind.min, IntKind.max, IntKind.bits, IntKind.signed]; simp; omega)
      clear hx hxb hwf hjS
      go_wp2_with fail
      have ba := below_a wr (.cells #[.int .i64 x.1, .int .u64 x.2] 28)
      have J4 := Lib.hid (IR.out.below ba)
      have V4 := Lib.hid (VR.out.step (Step.of ba))
      clear ba
      generalize wr.alloc (.cells #[.int .i64 x.1, .int .u64 x.2] 28) = wa at *
      refine (Put_at _ _ wa J4.out.inn HW.out (by first | exact wrapU _ | (constructor <;> omega))).mono ?_
      rintro e w6 ⟨rfl, hA⟩
      obtain ⟨q1, q2, q3, q4, q5, q6, q7, q8⟩ := none_out (n := 41) (S := T) (id := x.1) (has_true HXB.out.1 (by have := HXB.out.2.1; omega)) (by rw [HX.out]; exact Q1.out)
      rw [q7] at hA
      rw [q6]
      obtain ⟨F6, h6, t6⟩ := J4.out.step hA
      have I6 := Lib.hid h6
      have V6 := Lib.hid (V4.out.step t6)
      clear hA h6 t6 q1 q2 q3 q4 q5 q6 q7 q8
      go_wp2_with fail
      go_roundw
      case rel => exact ⟨k + 1, _, F6, by omega, by go_num, I6.out, V6.out, by rw [HX.out]; exact Q2.out _⟩
      case measure => simp [intOf]; omega
    · have hkm : k = m := by omega
      have l1 : decide ((k : Int) < (m : Int)) = false := decide_eq_false (by omega)
      have l2 : decide (k < m) = false := decide_eq_false hlt
      have l3 : (k < m) = False := eq_false hlt
      obtain ⟨q1, q2⟩ := PutsI.all (b' := c) HBASE.out (hkm ▸ PR.out) IR.out.inn.ids.1
      have Q2 := Lib.hid (q2 a3)
      obtain ⟨p1, p2, p3, p4, p5, p6, p7, p8⟩ := none_out (n := 41) (S := T) (id := 40) (has_true (by decide) (by decide)) q1
      have P6 := Lib.hid p6
      have P7 := Lib.hid (p7 a3)
      clear hk hlt hkm q1 q2 p1 p2 p3 p4 p5 p6 p7 p8
      obtain ⟨wo, rfl⟩ : ∃ wo : World, wo = wr := ⟨_, rfl⟩
      go_wp2_with fail
      refine (Put_at 40 a3 wo IR.out.inn (by decide) B3.out).mono ?_
      rintro e w5 ⟨rfl, hA⟩
      rw [P7.out] at hA
      rw [P6.out]
      obtain ⟨F5, h5, t5⟩ := IR.out.step hA
      have I5 := Lib.hid h5
      have V5 := Lib.hid (VR.out.step t5)
      clear hA h5 t5
      go_wp2_with fail
      go_loopw [79] (fun i wr => ∃ (k : Nat) (T : Items) (F : List Nat), k ≤ m ∧ i = .int .i64 k ∧ WI w pk 41 T wr F ∧ Held F wr (.slice a3v m cc3) S ∧ SetsI S T a3 c m k) (fun i _ => m - (intOf i).toNat)
      case atStart => exact ⟨0, _, F5, Nat.zero_le _, rfl, I5.out, V5.out, Q2.out⟩
      case round =>
        obtain ⟨k, T, F, hk, rfl, hI, hV, hP⟩ := hrel
        have IR := Lib.hid hI
        have VR := Lib.hid hV
        have PR := Lib.hid hP
        clear hI hV hP
        by_cases hlt : k < m
        · obtain ⟨q1, q2⟩ := PR.out.next HBASE.out hlt IR.out.inn.ids.1
          have Q1 := Lib.hid q1
          have Q2 := Lib.hid q2
          clear q1 q2
          have hjl := rot_lt (b := c) (k := k) (show 0 < m by omega)
          have hje : ((k : Int) + (c : Int)) % (m : Int) = ((rot c m k : Nat) : Int) := by unfold rot; rw [Int.natCast_emod, Int.natCast_add]
          generalize rot c m k = j at *
          have hjS : j < S.length := by rw [HBASE.out.len]; exact hjl
          obtain ⟨-, bb, oo, rfl, i0, i1⟩ := VR.out.items.cells hjS
          have hxb := HBASE.out.ids _ (at_mem hjS)
          obtain ⟨x, hx⟩ : ∃ x, x = S[j]! := ⟨_, rfl⟩
          rw [← hx] at i0 i1 hxb
          have HX := Lib.hid hx
          have HXB := Lib.hid hxb
          have hk0 : (0 : Int) ≤ (k : Int) := by omega
          have hkm : (k : Int) < (m : Int) := by omega
          have hb0 : (0 : Int) ≤ (c : Int) := by omega
          have hmp : (0 : Int) < (m : Int) := by omega
          have hmz : ((m : Int) == 0) = false := by simp; omega
          have hjm : (j : Int) < (m : Int) := by omega
          have hj0 : (0 : Int) ≤ (j : Int) := by omega
          have hwf := HXB.out
          have HW := Lib.hid (show (Lit.int .i64 x.1).wf = true by simp only [Lit.wf, IntKind.min, IntKind.max, IntKind.bits, IntKind.signed]; simp; omega)
          clear hx hxb hwf hjS
          go_wp2_with fail
          have ba := below_a wr (.cells #[.int .i64 x.1, .int .u64 x.2] 28)
          have J4 := Lib.hid (IR.out.below ba)
          have V4 := Lib.hid (VR.out.step (Step.of ba))
          clear ba
          generalize wr.alloc (.cells #[.int .i64 x.1, .int .u64 x.2] 28) = wa at *
          refine (Set_at _ _ wa J4.out.inn HW.out HXB.out.2.2).mono ?_
          rintro e w6 ⟨rfl, hA⟩
          obtain ⟨v, hv⟩ := Q1.out
          obtain ⟨q1, q2, q3, q4, q5, q6, q7, q8⟩ := there_out (n := 41) (S := T) (id := x.1) (has_true HXB.out.1 (by have := HXB.out.2.1; omega)) (by rw [HX.out]; exact hv)
          rw [q5] at hA
          rw [q4]
          obtain ⟨F6, h6, t6⟩ := J4.out.step hA
          have I6 := Lib.hid h6
          have V6 := Lib.hid (V4.out.step t6)
          clear hA h6 t6 q1 q2 q3 q4 q5 q6 q7 q8 hv
          go_wp2_with fail
          go_roundw
          case rel => exact ⟨k + 1, _, F6, by omega, by go_num, I6.out, V6.out, by have := Q2.out; rw [← HX.out] at this; exact this⟩
          case measure => simp [intOf]; omega
        · have hkm : k = m := by omega
          have l1 : decide ((k : Int) < (m : Int)) = false := decide_eq_false (by omega)
          have l2 : decide (k < m) = false := decide_eq_false hlt
          have l3 : (k < m) = False := eq_false hlt
          have hout := SetsI.done HBASE.out (hkm ▸ PR.out) IR.out.inn.ids.1 IR.out.inn.ids.2.1
          obtain ⟨p1, p2, p3, p4, p5, p6, p7, p8⟩ := there_out (n := 41) (S := T) (id := 40) (has_true (by decide) (by decide)) PR.out.2.1
          rw [hout] at p3
          have P1 := Lib.hid p1
          have P2 := Lib.hid p2
          have P3 := Lib.hid p3
          have hz2 : (a3 != a3) = false := by simp
          clear hk hlt hkm p1 p2 p3 p4 p5 p6 p7 p8 hout
          obtain ⟨wo, rfl⟩ : ∃ wo : World, wo = wr := ⟨_, rfl⟩
          go_wp2_with fail
          refine (Out_at 40 wo IR.out.inn (by decide)).mono ?_
          rintro e w5 ⟨rfl, hA⟩
          rw [P3.out] at hA
          rw [P1.out, P2.out]
          obtain ⟨F5, h5, t5⟩ := IR.out.step hA
          have I5 := Lib.hid h5
          have V5 := Lib.hid (VR.out.step t5)
          clear hA h5 t5
          go_wp2_with fail
          refine (All_at _ I5.out.inn).mono ?_
          rintro e w6 ⟨v6, rfl, hr6, hb6⟩
          have I6 := Lib.hid (I5.out.below hb6)
          have V6 := Lib.hid (V5.out.step (Step.of hb6)).items
          have U6 := Lib.hid hr6.items
          obtain ⟨a6v, cc6, e6, _⟩ := hr6.items
          subst e6
          rw [show S.length = m from HBASE.out.len] at U6 ⊢
          clear hr6 hb6
          go_wp2_with fail
          refine (Right_at _ I6.out.inn).mono ?_
          rintro e w7 ⟨rfl, hb7⟩
          have I7 := Lib.hid (I6.out.below hb7)
          have X7 := Lib.hid (V6.out.later hb7)
          have Y7 := Lib.hid (U6.out.later hb7)
          clear hb7
          go_wp2_with fail
          go_loopw [125] (fun i wr => ∃ (k q : Nat), k ≤ m ∧ i = .int .i64 k ∧ wr = w7.drewN q) (fun i _ => m - (intOf i).toNat)
          case atStart => exact ⟨0, 0, Nat.zero_le _, rfl, rfl⟩
          case round =>
            obtain ⟨k, q, hk, rfl, rfl⟩ := hrel
            by_cases hlt : k < m
            · have hkS : k < S.length := by rw [HBASE.out.len]; exact hlt
              obtain ⟨-, b1, o1, rfl, i0, i1⟩ := X7.out.cells hkS
              obtain ⟨-, b2, o2, rfl, j0, j1⟩ := Y7.out.cells hkS
              generalize S[k]! = x at *
              have hk0 : (0 : Int) ≤ (k : Int) := by omega
              have hkm : (k : Int) < (m : Int) := by omega
              have z1 : (x.1 != x.1) = false := by simp
              have z2 : (x.2 != x.2) = false := by simp
              clear hkS
              go_wp2_with fail
              go_quiet (fail)
              go_wp2_with fail
              go_roundw
              case rel => exact ⟨k + 1, _, by omega, by go_num, rfl⟩
              case measure => simp [intOf]; omega
            · have l1 : decide ((k : Int) < (m : Int)) = false := decide_eq_false (by omega)
              have l2 : decide (k < m) = false := decide_eq_false hlt
              have l3 : (k < m) = False := eq_false hlt
              clear hk hlt
              go_wp2_with fail
              refine (AW.out _).mono ?_
              rintro e w9 ⟨rfl, hb9⟩
              have HB9 := Lib.hid (Below.step (below_drewN I7.out.bel q) hb9)
              clear hb9
              go_wp2_with fail
              go_ret
              exact ⟨rfl, HB9.out⟩
end Go.Proofs.Ytpbaegdmjmickaa
