/-
  HeapChanges: an item that gets another key is where this key belongs, and all others stay in their order.
-/
import Derived.Test.YtpbaegdmjmickaaHeapD
import Derived.Test.YtpbaegdmjmickaaHeapE
import Derived.Test.YtpbaegdmjmickaaHeapX
namespace Go.Proofs.Ytpbaegdmjmickaa
open Go.RowKit Go.Maps Go.IntWalk Go.Lib
set_option linter.unusedVariables false
set_option linter.unusedSimpArgs false
theorem putL_split {O : Items} {x : Int × Int} (h : InOrder O) (hx : x ∉ O) : ∃ j, j ≤ O.length ∧ putL O x = O.take j ++ x :: O.drop j ∧ (0 < j → befB O[j - 1]! x = true) ∧ (j < O.length → befB x O[j]! = true) := by
  induction O with
  | nil => exact ⟨0, Nat.le_refl _, rfl, fun h => absurd h (by omega), fun h => absurd h (by simp)⟩
  | cons y r ih =>
    obtain ⟨h1, h2⟩ := List.pairwise_cons.1 h
    unfold putL
    by_cases hy : ltI y x
    · obtain ⟨j, q1, q2, q3, q4⟩ := ih h2 (fun q => hx (List.mem_cons_of_mem _ q))
      refine ⟨j + 1, by simp; omega, by rw [if_pos hy, q2]; rfl, fun _ => ?_, fun hj => ?_⟩
      · cases j with
        | zero => exact decide_eq_true hy
        | succ j => have := q3 (by omega); simpa using this
      · have := q4 (by simpa using hj); simpa using this
    · refine ⟨0, Nat.zero_le _, by rw [if_neg hy]; rfl, fun h => absurd h (by omega), fun _ => ?_⟩
      have := ltI_total' (fun e => hx (by rw [← e]; simp)) hy
      exact decide_eq_true this
theorem split_at {O T : Items} {x : Int × Int} {j k : Nat} (h : T = O.take j ++ x :: O.drop j) (hj : j ≤ O.length) (hk : k ≤ O.length) : T[k]! = if k < j then O[k]! else if k = j then x else O[k - 1]! := by
  have hl : (O.take j).length = j := by rw [List.length_take, Nat.min_eq_left hj]
  have e : T[k]? = if k < j then O[k]? else if k = j then some x else O[k - 1]? := by
    rw [h]
    by_cases h1 : k < j
    · rw [if_pos h1, List.getElem?_append_left (by rw [hl]; exact h1), List.getElem?_take, if_pos h1]
    · rw [if_neg h1, List.getElem?_append_right (by rw [hl]; omega), hl]
      by_cases h2 : k = j
      · rw [if_pos h2, show k - j = 0 by omega]; rfl
      · rw [if_neg h2, show k - j = (k - 1 - j) + 1 by omega, List.getElem?_cons_succ, List.getElem?_drop, show j + (k - 1 - j) = k - 1 by omega]
  rw [List.getElem!_eq_getElem?_getD, e]
  by_cases h1 : k < j
  · rw [if_pos h1, if_pos h1, ← List.getElem!_eq_getElem?_getD]
  · rw [if_neg h1, if_neg h1]
    by_cases h2 : k = j
    · rw [if_pos h2, if_pos h2]; rfl
    · rw [if_neg h2, if_neg h2, ← List.getElem!_eq_getElem?_getD]
theorem out_put {O : Items} {id key : Int} (h : ∀ y ∈ O, y.1 ≠ id) : outL (putL O (id, key)) id = O := by
  induction O with
  | nil => simp [putL, outL]
  | cons y r ih =>
    have hy := h y (by simp)
    have hr : ∀ z ∈ r, z.1 ≠ id := fun z hz => h z (List.mem_cons_of_mem _ hz)
    have hyb : (y.1 != id) = true := by simpa using hy
    unfold putL
    by_cases hl : ltI y (id, key)
    · rw [if_pos hl]
      have : outL (y :: putL r (id, key)) id = y :: outL (putL r (id, key)) id := by unfold outL; simp [hy]
      rw [this, ih hr]
    · rw [if_neg hl]
      have : outL ((id, key) :: y :: r) id = outL (y :: r) id := by unfold outL; simp
      rw [this, outL_none h]
theorem outL_take_succ {S : Items} {k : Nat} (hk : k < S.length) (id : Int) : outL (S.take (k + 1)) id = outL (S.take k) id ++ (if S[k]!.1 = id then [] else [S[k]!]) := by
  rw [take_succ_at hk]
  unfold outL
  rw [List.filter_append]
  by_cases h : S[k]!.1 = id
  · rw [if_pos h, List.filter_cons_of_neg (by simpa using h)]; rfl
  · rw [if_neg h, List.filter_cons_of_pos (by simpa using h)]; rfl
theorem own_shape {w : World} {base n size : Nat} {e : TypeId} {v : Value} {xs : List Value} (h : w.ownsRow base e size v n xs) : ∃ a cap, v = .slice a n cap ∧ n ≤ cap := by
  rcases h.2 with ⟨rfl, h0⟩ | ⟨g, cap, cur, rfl, _, _, h5, _⟩
  · exact ⟨none, 0, by rw [h0], by omega⟩
  · exact ⟨_, cap, rfl, h5⟩
theorem own_rowI {w : World} {base : Nat} {e : TypeId} {v : Value} {S : Items} (h : w.ownsRow base e 2 v S.length (flatI S)) : ∃ a cap, v = .slice a S.length cap ∧ S.length ≤ cap := by
  rcases h.2 with ⟨rfl, h0⟩ | ⟨g, cap, cur, rfl, _, _, h5, _⟩
  · exact ⟨none, 0, by rw [h0], by omega⟩
  · exact ⟨_, cap, rfl, h5⟩
theorem own_held {w : World} {base : Nat} {e : TypeId} {v : Value} {S : Items} {F : List Nat} (h : w.ownsRow base e 2 v S.length (flatI S)) (hF : ∀ b ∈ F, b < base) : Held F w v S := by
  rcases h.2 with ⟨rfl, h0⟩ | ⟨g, cap, cur, rfl, hb, _, h5, _⟩
  · exact ⟨none, 0, by rw [h0], Or.inl (List.eq_nil_of_length_eq_zero h0)⟩
  · obtain ⟨a, c, e, hc⟩ := own_items h
    cases e
    refine ⟨_, cap, rfl, hc.imp id fun ⟨b, off, e1, hc⟩ => ⟨b, off, e1, ?_, hc⟩⟩
    cases e1
    exact fun q => by have := hF g q; omega
theorem hbwr_le {B : Nat} {w wr : World} (h : Below B w wr) : w.heap.size ≤ wr.heap.size := h.size
theorem ItemsAt.later' {w w' : World} {v : Value} {L : Items} {B : Nat} (h : ItemsAt w v L) (hb : Below B w w') (hB : w.heap.size = B) : ItemsAt w' v L := by subst hB; exact h.later hb
set_option maxRecDepth 100000 in
set_option maxHeartbeats 8000000 in
theorem HeapChanges_true (s0 : Option Addr) (l0 c0 : Nat) (F0 : Nat → Nat → Value) (a1 a2 : Int) (w : World) (r0 : PlainRow [some .u64] w s0 l0 c0 F0) (g1 : (Lit.int .u8 a1).wf = true) (g2 : (Lit.int .u64 a2).wf = true) :
    Calls Try.prog 7 #[.slice s0 l0 c0, .int .u8 a1, .int .u64 a2] w fun e w' => e = .returned (.bool true) ∧ Below w.heap.size w w' := by
  obtain ⟨xs, hx⟩ := nums_of r0
  obtain ⟨i0, hi, hz0, hz1, hz2⟩ := info_parts infoItem
  have A1 := Lib.hid (filled_any s0 l0 c0 xs w hx)
  obtain ⟨m, hm⟩ : ∃ m, m = fillN l0 := ⟨_, rfl⟩
  have hm40 : m ≤ 40 := by rw [hm]; unfold fillN; omega
  have AW := Lib.hid fun W => awake_any W
  obtain ⟨S, hS⟩ : ∃ S, S = fillK xs m := ⟨_, rfl⟩
  have HL := Lib.hid (show S.length = m by rw [hS]; exact fillK_len xs m)
  have HK := Lib.hid (show ∀ k : Nat, (keyL S (k : Int)).isSome = decide (k < m) by rw [hS]; exact fillK_some xs m)
  have HMM := Lib.hid hm
  have HSS := Lib.hid hS
  have b1 := wf_u8 g1
  have B2 := Lib.hid (wf_u64 g2)
  obtain ⟨b, rfl⟩ : ∃ b : Nat, a1 = (b : Int) := ⟨a1.toNat, by omega⟩
  clear hx r0 g1 g2 hm hS
  go_enter Try.func7, Try.ntmps7
  go_wp2_with fail
  refine A1.out.mono ?_
  rintro e w1 ⟨p, F, rfl, h1, hF, hp, hb1⟩
  rw [← HMM.out] at h1 ⊢
  rw [← HSS.out] at h1
  have I1 := Lib.hid (show WI w p 40 S w1 F from ⟨h1, hF, hb1⟩)
  have HO := Lib.hid h1.ids.2.1
  have HN := Lib.hid h1.ids.1
  clear h1 hb1 hF hp
  by_cases h0 : m = 0
  · have z0 : ((m : Int) == 0) = true := by simp; omega
    clear h0
    go_wp2_with fail
    refine (AW.out _).mono ?_
    rintro e w9 ⟨rfl, hb9⟩
    have HB9 := Lib.hid (Below.step I1.out.bel hb9)
    clear hb9
    go_wp2_with fail
    go_ret
    exact ⟨rfl, HB9.out⟩
  · have z0 : ((m : Int) == 0) = false := by simp; omega
    have hmp : (0 : Int) < (m : Int) := by omega
    obtain ⟨id, hid⟩ : ∃ id, id = b % m := ⟨_, rfl⟩
    have hidm : id < m := by rw [hid]; exact Nat.mod_lt _ (by omega)
    have hje : (b : Int) % (m : Int) = (id : Int) := by rw [hid, Int.natCast_emod]
    have hb0 : (0 : Int) ≤ (b : Int) := by omega
    have hid0 : (0 : Int) ≤ (id : Int) := by omega
    have hwid : (Lit.int .i64 (id : Int)).wf = true := by simp only [Lit.wf, IntKind.min, IntKind.max, IntKind.bits, IntKind.signed]; simp; omega
    have HWI := Lib.hid hwid
    obtain ⟨ko, hko⟩ := Option.isSome_iff_exists.1 (show (keyL S (id : Int)).isSome = true by rw [HK.out, decide_eq_true hidm])
    have HKO := Lib.hid hko
    obtain ⟨O, hO⟩ : ∃ O, O = outL S (id : Int) := ⟨_, rfl⟩
    have HOO := Lib.hid hO
    have hOn : ∀ y ∈ O, y.1 ≠ (id : Int) := fun y hy => by rw [hO] at hy; simpa using (List.mem_filter.1 hy).2
    have HON := Lib.hid hOn
    have HOL := Lib.hid (show O.length + 1 = m by
      rw [hO, ← HL.out]
      obtain ⟨i, hi, e⟩ := mem_at ((keyL_some HN.out).1 hko)
      have := (outL_erase hi HN.out).length_eq
      rw [e] at this
      rw [this, List.length_cons])
    have HOO2 := Lib.hid (show InOrder O by rw [hO]; exact outL_order HO.out _)
    clear h0 hid hwid hko hO hOn
    go_wp2_with fail
    refine (All_at _ I1.out.inn).mono ?_
    rintro e w2 ⟨v2, rfl, hr2, hb2⟩
    have I2 := Lib.hid (I1.out.below hb2)
    have V2 := Lib.hid hr2.items
    obtain ⟨a2v, cc2, e2, _⟩ := hr2.items
    subst e2
    rw [show S.length = m from HL.out] at V2 ⊢
    clear hr2 hb2
    go_wp2_with fail
    go_loopw [11, 39] (fun vv i wr => ∃ (k n : Nat) (ao : Option Addr) (cc : Nat), vv = .slice ao n cc ∧ n ≤ cc ∧ k ≤ m ∧ i = .int .i64 k ∧ n = (outL (S.take k) (id : Int)).length ∧ wr.ownsRow w2.heap.size 28 2 (.slice ao n cc) n (flatI (outL (S.take k) (id : Int))) ∧ Below w2.heap.size w2 wr) (fun _ i _ => m - (intOf i).toNat)
    case atStart => exact ⟨0, 0, _, _, rfl, Nat.le_refl _, Nat.zero_le _, rfl, rfl, ⟨rfl, Or.inl ⟨rfl, rfl⟩⟩, Below.refl _ _⟩
    case round =>
      obtain ⟨k, n, ao, cc, rfl, hcc, hk, rfl, hn, hown, hbr⟩ := hrel
      have HNN := Lib.hid hn
      have HOW := Lib.hid hown
      have HBR := Lib.hid hbr
      have hwr := hbr.size
      clear hn hown hbr
      by_cases hlt : k < m
      · have hkS : k < S.length := by rw [HL.out]; exact hlt
        obtain ⟨-, bb, oo, rfl, i0', i1'⟩ := (V2.out.later HBR.out).cells hkS
        have hsu := outL_take_succ hkS (id : Int)
        obtain ⟨x, hx⟩ : ∃ x, x = S[k]! := ⟨_, rfl⟩
        rw [← hx] at i0' i1' hsu
        have HX := Lib.hid hx
        have HSU := Lib.hid hsu
        have hk0 : (0 : Int) ≤ (k : Int) := by omega
        have hkm : (k : Int) < (m : Int) := by omega
        have hnm : n ≤ 40 := by
          rw [HNN.out]
          have := List.length_filter_le (fun y : Int × Int => y.1 != (id : Int)) (S.take k)
          have := List.length_take_le k S
          unfold outL
          omega
        clear hx hsu hkS
        by_cases hne : x.1 = (id : Int)
        · have z1 : (x.1 != (id : Int)) = false := by simpa using hne
          have HE := Lib.hid (show outL (S.take (k + 1)) (id : Int) = outL (S.take k) (id : Int) by rw [HSU.out, if_pos hne, List.append_nil])
          clear hne
          go_wp2_with fail
          go_roundw
          case rel => exact ⟨k + 1, n, _, _, rfl, hcc, by omega, by go_num, by rw [HE.out]; exact HNN.out, by rw [HE.out]; exact HOW.out.alloc _, Below.trans HBR.out ((below_a wr _).mono hwr)⟩
          case measure => simp [intOf]; omega
        · have z1 : (x.1 != (id : Int)) = true := by simpa using hne
          have HE := Lib.hid (show outL (S.take (k + 1)) (id : Int) = outL (S.take k) (id : Int) ++ [x] by rw [HSU.out, if_neg hne])
          clear hne
          go_wp2_with (at_builtin; refine wpList_append_own _ rfl (.tmp 47) (.tmp 49) 29 rfl w2.heap.size 28 i0 (.agg #[.int .i64 0, .int .u64 0]) 2 16 Try.underlying29 hi hz0 hz1 hz2 rfl (by decide) _ n _ rfl ((HOW.out.alloc _).alloc _) ⟨wr.heap.size + 1, 0, none⟩ 1 1 [.int .i64 x.1, .int .u64 x.2] rfl rfl ?c1 ?c2 ?c3 ?c4 ?c5 ?_)
          case c1 =>
            intro j u hu
            have e : wr.heap.size + 1 = (wr.alloc (.cells #[.int .i64 x.1, .int .u64 x.2] 28)).heap.size := by simp
            rw [addr_add, Nat.zero_add, e]
            exact cell_nw _ _ _ j u (by simpa using hu)
          case c2 => intro u hu; simp at hu; rcases hu with rfl | rfl <;> rfl
          case c3 => unfold maxLen; omega
          case c4 => omega
          case c5 => simp; omega
          intro v' w3 hown' hgrow _
          have hb3 : Below w2.heap.size w2 w3 := (Below.allocS (Below.allocS HBR.out _) _).grown hgrow (by simp; omega) (fun g hg => (HOW.out.lt g hg).1)
          have hown3 : w3.ownsRow w2.heap.size 28 2 v' (n + 1) (flatI (outL (S.take (k + 1)) (id : Int))) := by
            rw [HE.out, flatI_app]; exact hown'
          obtain ⟨ao3, cc3, rfl, hcc3⟩ := own_shape hown3
          have HO3 := Lib.hid hown3
          have HB3 := Lib.hid hb3
          clear hown' hgrow hb3 hown3
          go_wp2_with fail
          go_roundw
          case rel => exact ⟨k + 1, n + 1, _, _, rfl, hcc3, by omega, by go_num, by rw [HE.out, List.length_append, ← HNN.out]; rfl, HO3.out, HB3.out⟩
          case measure => simp [intOf]; omega
      · have l1 : decide ((k : Int) < (m : Int)) = false := decide_eq_false (by omega)
        have l2 : decide (k < m) = false := decide_eq_false hlt
        have l3 : (k < m) = False := eq_false hlt
        have htk : S.take k = S := List.take_of_length_le (by rw [HL.out]; omega)
        have hnO : n = O.length := by rw [HNN.out, htk, ← HOO.out]
        have hO4 : wr.ownsRow w2.heap.size 28 2 (.slice ao O.length cc) O.length (flatI O) := by
          have := HOW.out
          rw [htk, ← HOO.out, hnO] at this
          exact this
        rw [hnO] at hcc ⊢
        have V3 := Lib.hid (own_held (F := F) hO4 (fun b hb => I2.out.inn.lt b hb))
        have I3 := Lib.hid (I2.out.below HBR.out)
        obtain ⟨q1, q2, q3, q4, q5, q6, q7, q8⟩ := there_out (n := 40) (S := S) (id := (id : Int)) (has_true hid0 (by omega)) HKO.out
        have Q4 := Lib.hid q4
        have Q5 := Lib.hid (show setS 40 S (id : Int) a2 = putL O ((id : Int), a2) by rw [q5, HOO.out])
        obtain ⟨j0, hj1, hj2, hj3, hj4⟩ := putL_split (x := ((id : Int), a2)) HOO2.out (fun q => HON.out _ q rfl)
        obtain ⟨T, hT⟩ : ∃ T, T = putL O ((id : Int), a2) := ⟨_, rfl⟩
        have hTl : T.length = m := by rw [hT, len_putL]; exact HOL.out
        rw [← hT] at hj2
        have HTA := Lib.hid (fun (k : Nat) (hk : k ≤ O.length) => split_at hj2 hj1 hk)
        have HTO := Lib.hid (show outL T (id : Int) = O by rw [hT]; exact out_put HON.out)
        have HT := Lib.hid hT
        have HTL := Lib.hid hTl
        have HJ3 := Lib.hid hj3
        have HJ4 := Lib.hid hj4
        obtain ⟨M, hM⟩ : ∃ M, M = O.length := ⟨_, rfl⟩
        have HMO := Lib.hid hM
        have hMm : M + 1 = m := by rw [hM]; exact HOL.out
        rw [← hM] at hj1 V3 ⊢
        have hccM : M ≤ cc := by rw [hM]; exact hcc
        clear hk hlt htk hO4 hcc hnO q1 q2 q3 q4 q5 q6 q7 q8 hj2 hj3 hj4 hT hTl hM
        obtain ⟨wo, rfl⟩ : ∃ wo : World, wo = wr := ⟨_, rfl⟩
        go_wp2_with fail
        refine (Set_at (id : Int) a2 wo I3.out.inn HWI.out B2.out).mono ?_
        rintro e w4 ⟨rfl, hA⟩
        rw [Q5.out, ← HT.out] at hA
        rw [Q4.out]
        obtain ⟨F4, h4, t4⟩ := I3.out.step hA
        have I4 := Lib.hid h4
        have V4 := Lib.hid (V3.out.step t4)
        have KT := Lib.hid (show keyL T (id : Int) = some a2 from (keyL_some h4.inn.ids.1).2 (by rw [HT.out]; exact putL_mem.2 (Or.inl rfl)))
        clear hA h4 t4
        go_wp2_with fail
        refine (All_at _ I4.out.inn).mono ?_
        rintro e w5 ⟨v5, rfl, hr5, hb5⟩
        have I5 := Lib.hid (I4.out.below hb5)
        have V5h := Lib.hid (V4.out.step (Step.of hb5))
        have V5 := Lib.hid V5h.out.items
        have U5 := Lib.hid hr5.items
        obtain ⟨a5v, cc5, e5, _⟩ := hr5.items
        subst e5
        rw [HTL.out] at U5 ⊢
        clear hr5 hb5
        go_wp2_with fail
        go_loopw [14, 60] (fun a i wr => ∃ (k n : Nat), k ≤ m ∧ i = .int .i64 k ∧ a = .int .i64 n ∧ n = (if k ≤ j0 then k else k - 1) ∧ Below w5.heap.size w5 wr) (fun _ i _ => m - (intOf i).toNat)
        case atStart => exact ⟨0, 0, Nat.zero_le _, rfl, rfl, by simp, Below.refl _ _⟩
        case round =>
          obtain ⟨k, n, hk, rfl, rfl, hn, hbr⟩ := hrel
          have HBR := Lib.hid hbr
          have U6 := Lib.hid (U5.out.later hbr)
          have V6 := Lib.hid (V5.out.later hbr)
          clear hbr
          by_cases hlt : k < m
          · have hkT : k < T.length := by rw [HTL.out]; exact hlt
            have hta := HTA.out k (by rw [← HMO.out]; omega)
            obtain ⟨-, bb, oo, rfl, i0', i1'⟩ := U6.out.cells hkT
            have hk0 : (0 : Int) ≤ (k : Int) := by omega
            have hkm : (k : Int) < (m : Int) := by omega
            have hn0 : (0 : Int) ≤ (n : Int) := by omega
            by_cases hkj : k = j0
            · have hn' : n = j0 := by rw [hn, if_pos (by omega)]; exact hkj
              rw [hta, if_neg (by omega), if_pos hkj] at i0' i1'
              simp only at i0' i1'
              have z1 : ((id : Int) == (id : Int)) = true := by simp
              have z2 : (a2 != a2) = false := by simp
              have HJ := Lib.hid (show n = j0 ∧ k = j0 from ⟨hn', hkj⟩)
              have hnM : n ≤ M := by omega
              clear hta hkT hn hkj hn'
              go_wp2_with fail
              have x0 := cell_nw wr #[.int .i64 (id : Int), .int .u64 a2] 28 0 _ rfl
              have x1 := cell_nw wr #[.int .i64 (id : Int), .int .u64 a2] 28 1 _ rfl
              have bw := below_a wr (.cells #[.int .i64 (id : Int), .int .u64 a2] 28)
              have hwx := hbwr_le HBR.out
              have V7 := Lib.hid (V6.out.later bw)
              generalize wr.heap.size = bx at *
              generalize wr.alloc (.cells #[.int .i64 (id : Int), .int .u64 a2] 28) = wo at *
              have HB7 := Lib.hid (HBR.out.trans (bw.mono hwx))
              have A9 := Lib.hid fun (y z : Int × Int) (W : World) => before_any y z W
              clear bw
              have hlo : n = 0 ∨ 0 < n := by omega
              have hhi : n = M ∨ n < M := by omega
              rcases hlo with hlo | hlo <;> rcases hhi with hhi | hhi
              · skip
                have c6 : decide (0 < n) = false := decide_eq_false (by omega)
                have c22 : decide (n < M) = false := decide_eq_false (by omega)
                have c6a : (0 < n) = False := eq_false (by omega)
                have c22a : (n < M) = False := eq_false (by omega)
                clear hlo hhi
                have hS0 : Below wo.heap.size wo wo.drew ∧ wo.drew.cell? ⟨bx, 0, none⟩ = some (.int .i64 (id : Int)) ∧ wo.drew.cell? ⟨bx, 1, none⟩ = some (.int .u64 a2) := ⟨Below.drew (Below.refl _ _), cell_dr x0, cell_dr x1⟩
                refine wp_region_held_drew (S := fun w' => Below wo.heap.size wo w' ∧ w'.cell? ⟨bx, 0, none⟩ = some (.int .i64 (id : Int)) ∧ w'.cell? ⟨bx, 1, none⟩ = some (.int .u64 a2)) (by kernel_rfl) hS0 (fun hHeld => ?_)
                refine takeH (i := 0) (v := ?v0_1) rfl (by kernel_rfl) (fun _ _ _ h => h) (by rfl) ?hy0_1 (by assumption) ?rest0_1
                case hy0_1 => (intro w hSw; (try dsimp only at hSw); go_simp; try with_reducible rfl)
                try simp only [Act.put, List.setIfInBounds_toArray, List.set_cons_zero, List.set_cons_succ]
                refine takeH (i := 1) (v := ?v1_2) rfl (by kernel_rfl) (fun _ _ _ h => h) (by rfl) ?hy1_2 (by assumption) ?rest1_2
                case hy1_2 => (intro w hSw; (try dsimp only at hSw); go_simp; try with_reducible rfl)
                try simp only [Act.put, List.setIfInBounds_toArray, List.set_cons_zero, List.set_cons_succ]
                refine takeH (i := 2) (v := ?v2_3) rfl (by kernel_rfl) (fun _ _ _ h => h) (by rfl) ?hy2_3 (by assumption) ?rest2_3
                case hy2_3 => (intro w hSw; (try dsimp only at hSw); go_simp; try with_reducible rfl)
                try simp only [Act.put, List.setIfInBounds_toArray, List.set_cons_zero, List.set_cons_succ]
                refine takeH (i := 3) (v := ?v3_4) rfl (by kernel_rfl) (fun _ _ _ h => h) (by rfl) ?hy3_4 (by assumption) ?rest3_4
                case hy3_4 => (intro w hSw; (try dsimp only at hSw); go_simp; try with_reducible rfl)
                try simp only [Act.put, List.setIfInBounds_toArray, List.set_cons_zero, List.set_cons_succ]
                refine takeH (i := 4) (v := ?v4_5) rfl (by kernel_rfl) (fun _ _ _ h => h) (by rfl) ?hy4_5 (by assumption) ?rest4_5
                case hy4_5 => (intro w hSw; (try dsimp only at hSw); go_simp; try with_reducible rfl)
                try simp only [Act.put, List.setIfInBounds_toArray, List.set_cons_zero, List.set_cons_succ]
                refine takeH (i := 5) (v := ?v5_6) rfl (by kernel_rfl) (fun _ _ _ h => h) (by rfl) ?hy5_6 (by assumption) ?rest5_6
                case hy5_6 => (intro w hSw; (try dsimp only at hSw); go_simp; try with_reducible rfl)
                try simp only [Act.put, List.setIfInBounds_toArray, List.set_cons_zero, List.set_cons_succ]
                refine takeH (i := 6) (v := ?v6_7) rfl (by kernel_rfl) (fun _ _ _ h => h) (by rfl) ?hy6_7 (by assumption) ?rest6_7
                case hy6_7 => (intro w hSw; (try dsimp only at hSw); go_simp; try with_reducible rfl)
                try simp only [Act.put, List.setIfInBounds_toArray, List.set_cons_zero, List.set_cons_succ]
                refine takeH (i := 7) (v := ?v7_8) rfl (by kernel_rfl) (fun _ _ _ h => h) (by rfl) ?hy7_8 (by assumption) ?rest7_8
                case hy7_8 => (intro w hSw; (try dsimp only at hSw); go_simp; try with_reducible rfl)
                try simp only [Act.put, List.setIfInBounds_toArray, List.set_cons_zero, List.set_cons_succ]
                refine skipH (i := 8) rfl (by kernel_rfl) (fun _ _ _ h => h) (by kernel_rfl) (by assumption) ?_
                try simp only [Act.put, List.setIfInBounds_toArray, List.set_cons_zero, List.set_cons_succ]
                refine skipH (i := 9) rfl (by kernel_rfl) (fun _ _ _ h => h) (by kernel_rfl) (by assumption) ?_
                try simp only [Act.put, List.setIfInBounds_toArray, List.set_cons_zero, List.set_cons_succ]
                refine skipH (i := 10) rfl (by kernel_rfl) (fun _ _ _ h => h) (by kernel_rfl) (by assumption) ?_
                try simp only [Act.put, List.setIfInBounds_toArray, List.set_cons_zero, List.set_cons_succ]
                refine skipH (i := 11) rfl (by kernel_rfl) (fun _ _ _ h => h) (by kernel_rfl) (by assumption) ?_
                try simp only [Act.put, List.setIfInBounds_toArray, List.set_cons_zero, List.set_cons_succ]
                refine skipH (i := 12) rfl (by kernel_rfl) (fun _ _ _ h => h) (by kernel_rfl) (by assumption) ?_
                try simp only [Act.put, List.setIfInBounds_toArray, List.set_cons_zero, List.set_cons_succ]
                refine skipH (i := 13) rfl (by kernel_rfl) (fun _ _ _ h => h) (by kernel_rfl) (by assumption) ?_
                try simp only [Act.put, List.setIfInBounds_toArray, List.set_cons_zero, List.set_cons_succ]
                refine skipH (i := 14) rfl (by kernel_rfl) (fun _ _ _ h => h) (by kernel_rfl) (by assumption) ?_
                try simp only [Act.put, List.setIfInBounds_toArray, List.set_cons_zero, List.set_cons_succ]
                refine skipH (i := 15) rfl (by kernel_rfl) (fun _ _ _ h => h) (by kernel_rfl) (by assumption) ?_
                try simp only [Act.put, List.setIfInBounds_toArray, List.set_cons_zero, List.set_cons_succ]
                refine takeH (i := 16) (v := ?v16_9) rfl (by kernel_rfl) (fun _ _ _ h => h) (by rfl) ?hy16_9 (by assumption) ?rest16_9
                case hy16_9 => (intro w hSw; (try dsimp only at hSw); go_simp; try with_reducible rfl)
                try simp only [Act.put, List.setIfInBounds_toArray, List.set_cons_zero, List.set_cons_succ]
                refine takeH (i := 17) (v := ?v17_10) rfl (by kernel_rfl) (fun _ _ _ h => h) (by rfl) ?hy17_10 (by assumption) ?rest17_10
                case hy17_10 => (intro w hSw; (try dsimp only at hSw); go_simp; try with_reducible rfl)
                try simp only [Act.put, List.setIfInBounds_toArray, List.set_cons_zero, List.set_cons_succ]
                refine takeH (i := 18) (v := ?v18_11) rfl (by kernel_rfl) (fun _ _ _ h => h) (by rfl) ?hy18_11 (by assumption) ?rest18_11
                case hy18_11 => (intro w hSw; (try dsimp only at hSw); go_simp; try with_reducible rfl)
                try simp only [Act.put, List.setIfInBounds_toArray, List.set_cons_zero, List.set_cons_succ]
                refine takeH (i := 19) (v := ?v19_12) rfl (by kernel_rfl) (fun _ _ _ h => h) (by rfl) ?hy19_12 (by assumption) ?rest19_12
                case hy19_12 => (intro w hSw; (try dsimp only at hSw); go_simp; try with_reducible rfl)
                try simp only [Act.put, List.setIfInBounds_toArray, List.set_cons_zero, List.set_cons_succ]
                refine takeH (i := 20) (v := ?v20_13) rfl (by kernel_rfl) (fun _ _ _ h => h) (by rfl) ?hy20_13 (by assumption) ?rest20_13
                case hy20_13 => (intro w hSw; (try dsimp only at hSw); go_simp; try with_reducible rfl)
                try simp only [Act.put, List.setIfInBounds_toArray, List.set_cons_zero, List.set_cons_succ]
                refine takeH (i := 21) (v := ?v21_14) rfl (by kernel_rfl) (fun _ _ _ h => h) (by rfl) ?hy21_14 (by assumption) ?rest21_14
                case hy21_14 => (intro w hSw; (try dsimp only at hSw); go_simp; try with_reducible rfl)
                try simp only [Act.put, List.setIfInBounds_toArray, List.set_cons_zero, List.set_cons_succ]
                refine takeH (i := 22) (v := ?v22_15) rfl (by kernel_rfl) (fun _ _ _ h => h) (by rfl) ?hy22_15 (by assumption) ?rest22_15
                case hy22_15 => (intro w hSw; (try dsimp only at hSw); go_simp; try with_reducible rfl)
                try simp only [Act.put, List.setIfInBounds_toArray, List.set_cons_zero, List.set_cons_succ]
                refine takeH (i := 23) (v := ?v23_16) rfl (by kernel_rfl) (fun _ _ _ h => h) (by rfl) ?hy23_16 (by assumption) ?rest23_16
                case hy23_16 => (intro w hSw; (try dsimp only at hSw); go_simp; try with_reducible rfl)
                try simp only [Act.put, List.setIfInBounds_toArray, List.set_cons_zero, List.set_cons_succ]
                refine skipH (i := 24) rfl (by kernel_rfl) (fun _ _ _ h => h) (by kernel_rfl) (by assumption) ?_
                try simp only [Act.put, List.setIfInBounds_toArray, List.set_cons_zero, List.set_cons_succ]
                refine skipH (i := 25) rfl (by kernel_rfl) (fun _ _ _ h => h) (by kernel_rfl) (by assumption) ?_
                try simp only [Act.put, List.setIfInBounds_toArray, List.set_cons_zero, List.set_cons_succ]
                refine skipH (i := 26) rfl (by kernel_rfl) (fun _ _ _ h => h) (by kernel_rfl) (by assumption) ?_
                try simp only [Act.put, List.setIfInBounds_toArray, List.set_cons_zero, List.set_cons_succ]
                refine skipH (i := 27) rfl (by kernel_rfl) (fun _ _ _ h => h) (by kernel_rfl) (by assumption) ?_
                try simp only [Act.put, List.setIfInBounds_toArray, List.set_cons_zero, List.set_cons_succ]
                refine skipH (i := 28) rfl (by kernel_rfl) (fun _ _ _ h => h) (by kernel_rfl) (by assumption) ?_
                try simp only [Act.put, List.setIfInBounds_toArray, List.set_cons_zero, List.set_cons_succ]
                refine skipH (i := 29) rfl (by kernel_rfl) (fun _ _ _ h => h) (by kernel_rfl) (by assumption) ?_
                try simp only [Act.put, List.setIfInBounds_toArray, List.set_cons_zero, List.set_cons_succ]
                refine skipH (i := 30) rfl (by kernel_rfl) (fun _ _ _ h => h) (by kernel_rfl) (by assumption) ?_
                try simp only [Act.put, List.setIfInBounds_toArray, List.set_cons_zero, List.set_cons_succ]
                refine takeH (i := 31) (v := ?v31_17) rfl (by kernel_rfl) (fun _ _ _ h => h) (by rfl) ?hy31_17 (by assumption) ?rest31_17
                case hy31_17 => (intro w hSw; (try dsimp only at hSw); go_simp; try with_reducible rfl)
                try simp only [Act.put, List.setIfInBounds_toArray, List.set_cons_zero, List.set_cons_succ]
                refine takeH (i := 32) (v := ?v32_18) rfl (by kernel_rfl) (fun _ _ _ h => h) (by rfl) ?hy32_18 (by assumption) ?rest32_18
                case hy32_18 => (intro w hSw; (try dsimp only at hSw); go_simp; try with_reducible rfl)
                try simp only [Act.put, List.setIfInBounds_toArray, List.set_cons_zero, List.set_cons_succ]
                refine wpAnyH_done (by kernel_rfl) ?_ _
                clear hS0
                have HB9 := Lib.hid (Below.trans HB7.out ((hHeld.1).mono (by have := HB7.out.size; omega)))
                go_wp2_with fail
                go_roundw
                case rel => exact ⟨k + 1, n, by omega, by go_num, rfl, by have := HJ.out; rw [if_neg (by omega)]; omega, HB9.out⟩
                case measure => simp [intOf]; omega
              · skip
                have c6 : decide (0 < n) = false := decide_eq_false (by omega)
                have c22 : decide (n < M) = true := decide_eq_true hhi
                have c6a : (0 < n) = False := eq_false (by omega)
                obtain ⟨-, b2, o2, eb, u0, u1⟩ := V7.out.cells (k := n) (by rw [← HMO.out]; exact hhi)
                cases eb
                have hbg := HJ4.out (by rw [← HMO.out]; have := HJ.out; omega)
                rw [← HJ.out.1] at hbg
                have c22b : (n : Int) < (M : Int) := by omega
                obtain ⟨y, hy⟩ : ∃ y, y = O[n]! := ⟨_, rfl⟩
                rw [← hy] at u0 u1 hbg
                clear hy
                clear hlo hhi
                have hS0 : Below wo.heap.size wo wo.drew ∧ wo.drew.cell? ⟨bx, 0, none⟩ = some (.int .i64 (id : Int)) ∧ wo.drew.cell? ⟨bx, 1, none⟩ = some (.int .u64 a2) ∧ wo.drew.cell? ⟨b2, o2 + n * 2, none⟩ = some (.int .i64 y.1) ∧ wo.drew.cell? ⟨b2, o2 + n * 2 + 1, none⟩ = some (.int .u64 y.2) := ⟨Below.drew (Below.refl _ _), cell_dr x0, cell_dr x1, cell_dr u0, cell_dr u1⟩
                refine wp_region_held_drew (S := fun w' => Below wo.heap.size wo w' ∧ w'.cell? ⟨bx, 0, none⟩ = some (.int .i64 (id : Int)) ∧ w'.cell? ⟨bx, 1, none⟩ = some (.int .u64 a2) ∧ w'.cell? ⟨b2, o2 + n * 2, none⟩ = some (.int .i64 y.1) ∧ w'.cell? ⟨b2, o2 + n * 2 + 1, none⟩ = some (.int .u64 y.2)) (by kernel_rfl) hS0 (fun hHeld => ?_)
                refine takeH (i := 0) (v := ?v0_19) rfl (by kernel_rfl) (fun _ _ _ h => h) (by rfl) ?hy0_19 (by assumption) ?rest0_19
                case hy0_19 => (intro w hSw; (try dsimp only at hSw); go_simp; try with_reducible rfl)
                try simp only [Act.put, List.setIfInBounds_toArray, List.set_cons_zero, List.set_cons_succ]
                refine takeH (i := 1) (v := ?v1_20) rfl (by kernel_rfl) (fun _ _ _ h => h) (by rfl) ?hy1_20 (by assumption) ?rest1_20
                case hy1_20 => (intro w hSw; (try dsimp only at hSw); go_simp; try with_reducible rfl)
                try simp only [Act.put, List.setIfInBounds_toArray, List.set_cons_zero, List.set_cons_succ]
                refine takeH (i := 2) (v := ?v2_21) rfl (by kernel_rfl) (fun _ _ _ h => h) (by rfl) ?hy2_21 (by assumption) ?rest2_21
                case hy2_21 => (intro w hSw; (try dsimp only at hSw); go_simp; try with_reducible rfl)
                try simp only [Act.put, List.setIfInBounds_toArray, List.set_cons_zero, List.set_cons_succ]
                refine takeH (i := 3) (v := ?v3_22) rfl (by kernel_rfl) (fun _ _ _ h => h) (by rfl) ?hy3_22 (by assumption) ?rest3_22
                case hy3_22 => (intro w hSw; (try dsimp only at hSw); go_simp; try with_reducible rfl)
                try simp only [Act.put, List.setIfInBounds_toArray, List.set_cons_zero, List.set_cons_succ]
                refine takeH (i := 4) (v := ?v4_23) rfl (by kernel_rfl) (fun _ _ _ h => h) (by rfl) ?hy4_23 (by assumption) ?rest4_23
                case hy4_23 => (intro w hSw; (try dsimp only at hSw); go_simp; try with_reducible rfl)
                try simp only [Act.put, List.setIfInBounds_toArray, List.set_cons_zero, List.set_cons_succ]
                refine takeH (i := 5) (v := ?v5_24) rfl (by kernel_rfl) (fun _ _ _ h => h) (by rfl) ?hy5_24 (by assumption) ?rest5_24
                case hy5_24 => (intro w hSw; (try dsimp only at hSw); go_simp; try with_reducible rfl)
                try simp only [Act.put, List.setIfInBounds_toArray, List.set_cons_zero, List.set_cons_succ]
                refine takeH (i := 6) (v := ?v6_25) rfl (by kernel_rfl) (fun _ _ _ h => h) (by rfl) ?hy6_25 (by assumption) ?rest6_25
                case hy6_25 => (intro w hSw; (try dsimp only at hSw); go_simp; try with_reducible rfl)
                try simp only [Act.put, List.setIfInBounds_toArray, List.set_cons_zero, List.set_cons_succ]
                refine takeH (i := 7) (v := ?v7_26) rfl (by kernel_rfl) (fun _ _ _ h => h) (by rfl) ?hy7_26 (by assumption) ?rest7_26
                case hy7_26 => (intro w hSw; (try dsimp only at hSw); go_simp; try with_reducible rfl)
                try simp only [Act.put, List.setIfInBounds_toArray, List.set_cons_zero, List.set_cons_succ]
                refine skipH (i := 8) rfl (by kernel_rfl) (fun _ _ _ h => h) (by kernel_rfl) (by assumption) ?_
                try simp only [Act.put, List.setIfInBounds_toArray, List.set_cons_zero, List.set_cons_succ]
                refine skipH (i := 9) rfl (by kernel_rfl) (fun _ _ _ h => h) (by kernel_rfl) (by assumption) ?_
                try simp only [Act.put, List.setIfInBounds_toArray, List.set_cons_zero, List.set_cons_succ]
                refine skipH (i := 10) rfl (by kernel_rfl) (fun _ _ _ h => h) (by kernel_rfl) (by assumption) ?_
                try simp only [Act.put, List.setIfInBounds_toArray, List.set_cons_zero, List.set_cons_succ]
                refine skipH (i := 11) rfl (by kernel_rfl) (fun _ _ _ h => h) (by kernel_rfl) (by assumption) ?_
                try simp only [Act.put, List.setIfInBounds_toArray, List.set_cons_zero, List.set_cons_succ]
                refine skipH (i := 12) rfl (by kernel_rfl) (fun _ _ _ h => h) (by kernel_rfl) (by assumption) ?_
                try simp only [Act.put, List.setIfInBounds_toArray, List.set_cons_zero, List.set_cons_succ]
                refine skipH (i := 13) rfl (by kernel_rfl) (fun _ _ _ h => h) (by kernel_rfl) (by assumption) ?_
                try simp only [Act.put, List.setIfInBounds_toArray, List.set_cons_zero, List.set_cons_succ]
                refine skipH (i := 14) rfl (by kernel_rfl) (fun _ _ _ h => h) (by kernel_rfl) (by assumption) ?_
                try simp only [Act.put, List.setIfInBounds_toArray, List.set_cons_zero, List.set_cons_succ]
                refine skipH (i := 15) rfl (by kernel_rfl) (fun _ _ _ h => h) (by kernel_rfl) (by assumption) ?_
                try simp only [Act.put, List.setIfInBounds_toArray, List.set_cons_zero, List.set_cons_succ]
                refine takeH (i := 16) (v := ?v16_27) rfl (by kernel_rfl) (fun _ _ _ h => h) (by rfl) ?hy16_27 (by assumption) ?rest16_27
                case hy16_27 => (intro w hSw; (try dsimp only at hSw); go_simp; try with_reducible rfl)
                try simp only [Act.put, List.setIfInBounds_toArray, List.set_cons_zero, List.set_cons_succ]
                refine takeH (i := 17) (v := ?v17_28) rfl (by kernel_rfl) (fun _ _ _ h => h) (by rfl) ?hy17_28 (by assumption) ?rest17_28
                case hy17_28 => (intro w hSw; (try dsimp only at hSw); go_simp; try with_reducible rfl)
                try simp only [Act.put, List.setIfInBounds_toArray, List.set_cons_zero, List.set_cons_succ]
                refine takeH (i := 18) (v := ?v18_29) rfl (by kernel_rfl) (fun _ _ _ h => h) (by rfl) ?hy18_29 (by assumption) ?rest18_29
                case hy18_29 => (intro w hSw; (try dsimp only at hSw); go_simp; try with_reducible rfl)
                try simp only [Act.put, List.setIfInBounds_toArray, List.set_cons_zero, List.set_cons_succ]
                refine takeH (i := 19) (v := ?v19_30) rfl (by kernel_rfl) (fun _ _ _ h => h) (by rfl) ?hy19_30 (by assumption) ?rest19_30
                case hy19_30 => (intro w hSw; (try dsimp only at hSw); go_simp; try with_reducible rfl)
                try simp only [Act.put, List.setIfInBounds_toArray, List.set_cons_zero, List.set_cons_succ]
                refine takeH (i := 20) (v := ?v20_31) rfl (by kernel_rfl) (fun _ _ _ h => h) (by rfl) ?hy20_31 (by assumption) ?rest20_31
                case hy20_31 => (intro w hSw; (try dsimp only at hSw); go_simp; try with_reducible rfl)
                try simp only [Act.put, List.setIfInBounds_toArray, List.set_cons_zero, List.set_cons_succ]
                refine takeH (i := 21) (v := ?v21_32) rfl (by kernel_rfl) (fun _ _ _ h => h) (by rfl) ?hy21_32 (by assumption) ?rest21_32
                case hy21_32 => (intro w hSw; (try dsimp only at hSw); go_simp; try with_reducible rfl)
                try simp only [Act.put, List.setIfInBounds_toArray, List.set_cons_zero, List.set_cons_succ]
                refine takeH (i := 22) (v := ?v22_33) rfl (by kernel_rfl) (fun _ _ _ h => h) (by rfl) ?hy22_33 (by assumption) ?rest22_33
                case hy22_33 => (intro w hSw; (try dsimp only at hSw); go_simp; try with_reducible rfl)
                try simp only [Act.put, List.setIfInBounds_toArray, List.set_cons_zero, List.set_cons_succ]
                refine takeH (i := 23) (v := ?v23_34) rfl (by kernel_rfl) (fun _ _ _ h => h) (by rfl) ?hy23_34 (by assumption) ?rest23_34
                case hy23_34 => (intro w hSw; (try dsimp only at hSw); go_simp; try with_reducible rfl)
                try simp only [Act.put, List.setIfInBounds_toArray, List.set_cons_zero, List.set_cons_succ]
                refine takeH (i := 24) (v := ?v24_35) rfl (by kernel_rfl) (fun _ _ _ h => h) (by rfl) ?hy24_35 (by assumption) ?rest24_35
                case hy24_35 => (intro w hSw; (try dsimp only at hSw); go_simp; try with_reducible rfl)
                try simp only [Act.put, List.setIfInBounds_toArray, List.set_cons_zero, List.set_cons_succ]
                refine takeH (i := 25) (v := ?v25_36) rfl (by kernel_rfl) (fun _ _ _ h => h) (by rfl) ?hy25_36 (by assumption) ?rest25_36
                case hy25_36 => (intro w hSw; (try dsimp only at hSw); go_simp; try with_reducible rfl)
                try simp only [Act.put, List.setIfInBounds_toArray, List.set_cons_zero, List.set_cons_succ]
                refine takeH (i := 26) (v := ?v26_37) rfl (by kernel_rfl) (fun _ _ _ h => h) (by rfl) ?hy26_37 (by assumption) ?rest26_37
                case hy26_37 => (intro w hSw; (try dsimp only at hSw); go_simp; try with_reducible rfl)
                try simp only [Act.put, List.setIfInBounds_toArray, List.set_cons_zero, List.set_cons_succ]
                refine takeH (i := 27) (v := ?v27_38) rfl (by kernel_rfl) (fun _ _ _ h => h) (by rfl) ?hy27_38 (by assumption) ?rest27_38
                case hy27_38 => (intro w hSw; (try dsimp only at hSw); go_simp; try with_reducible rfl)
                try simp only [Act.put, List.setIfInBounds_toArray, List.set_cons_zero, List.set_cons_succ]
                refine takeH (i := 28) (v := ?v28_39) rfl (by kernel_rfl) (fun _ _ _ h => h) (by rfl) ?hy28_39 (by assumption) ?rest28_39
                case hy28_39 => (intro w hSw; (try dsimp only at hSw); go_simp; try with_reducible rfl)
                try simp only [Act.put, List.setIfInBounds_toArray, List.set_cons_zero, List.set_cons_succ]
                refine wpAnyH_ready (rs := [29]) (by kernel_rfl) (by simp) ?_
                refine consH rfl (fun K hK => ?_) (AllReadyH.nil)
                go_simp
                refine (A9.out ((id : Int), a2) y _).mono ?_
                rintro e w10 ⟨rfl, hg10⟩
                have hb10 := hg10.below
                go_wp2_with fail
                refine hK.out _ _ ?_ (fun hHeld29 => ?_)
                · (first | assumption | (refine held_4 (by assumption) ?_; assumption) | (refine held_4 (below_ad _ _) ?_; assumption) | (refine held_4 (below_a _ _) ?_; assumption))
                clear hK K
                try simp only [Act.put, List.setIfInBounds_toArray, List.set_cons_zero, List.set_cons_succ]
                refine takeH (i := 30) (v := ?v30_40) rfl (by kernel_rfl) (fun _ _ _ h => h) (by rfl) ?hy30_40 (by assumption) ?rest30_40
                case hy30_40 => (intro w hSw; (try dsimp only at hSw); go_simp; try with_reducible rfl)
                try simp only [Act.put, List.setIfInBounds_toArray, List.set_cons_zero, List.set_cons_succ]
                refine takeH (i := 31) (v := ?v31_41) rfl (by kernel_rfl) (fun _ _ _ h => h) (by rfl) ?hy31_41 (by assumption) ?rest31_41
                case hy31_41 => (intro w hSw; (try dsimp only at hSw); go_simp; try with_reducible rfl)
                try simp only [Act.put, List.setIfInBounds_toArray, List.set_cons_zero, List.set_cons_succ]
                refine takeH (i := 32) (v := ?v32_42) rfl (by kernel_rfl) (fun _ _ _ h => h) (by rfl) ?hy32_42 (by assumption) ?rest32_42
                case hy32_42 => (intro w hSw; (try dsimp only at hSw); go_simp; try with_reducible rfl)
                try simp only [Act.put, List.setIfInBounds_toArray, List.set_cons_zero, List.set_cons_succ]
                refine wpAnyH_done (by kernel_rfl) ?_ _
                clear hS0
                have HB9 := Lib.hid (Below.trans HB7.out ((hHeld29.1).mono (by have := HB7.out.size; omega)))
                go_wp2_with fail
                go_roundw
                case rel => exact ⟨k + 1, n, by omega, by go_num, rfl, by have := HJ.out; rw [if_neg (by omega)]; omega, HB9.out⟩
                case measure => simp [intOf]; omega
              · skip
                have c6 : decide (0 < n) = true := decide_eq_true hlo
                have c22 : decide (n < M) = false := decide_eq_false (by omega)
                have c22a : (n < M) = False := eq_false (by omega)
                obtain ⟨-, b1, o1, ea, y0, y1⟩ := V7.out.cells (k := n - 1) (by rw [← HMO.out]; omega)
                cases ea
                have hbf := HJ3.out (by have := HJ.out; omega)
                rw [← HJ.out.1] at hbf
                obtain ⟨kk, hkk⟩ : ∃ kk, kk = n - 1 := ⟨_, rfl⟩
                rw [← hkk] at y0 y1 hbf
                have c6b : (n : Int) - 1 = (kk : Int) := by omega
                have c6c : (0 : Int) ≤ (kk : Int) := by omega
                have c6d : (kk : Int) < (M : Int) := by omega
                have c6e : IntKind.i64.wrap (kk : Int) = (kk : Int) := IntWalk.i64_in _ (by omega)
                obtain ⟨z, hz⟩ : ∃ z, z = O[kk]! := ⟨_, rfl⟩
                rw [← hz] at y0 y1 hbf
                clear hkk hz
                clear hlo hhi
                have hS0 : Below wo.heap.size wo wo.drew ∧ wo.drew.cell? ⟨bx, 0, none⟩ = some (.int .i64 (id : Int)) ∧ wo.drew.cell? ⟨bx, 1, none⟩ = some (.int .u64 a2) ∧ wo.drew.cell? ⟨b1, o1 + kk * 2, none⟩ = some (.int .i64 z.1) ∧ wo.drew.cell? ⟨b1, o1 + kk * 2 + 1, none⟩ = some (.int .u64 z.2) := ⟨Below.drew (Below.refl _ _), cell_dr x0, cell_dr x1, cell_dr y0, cell_dr y1⟩
                refine wp_region_held_drew (S := fun w' => Below wo.heap.size wo w' ∧ w'.cell? ⟨bx, 0, none⟩ = some (.int .i64 (id : Int)) ∧ w'.cell? ⟨bx, 1, none⟩ = some (.int .u64 a2) ∧ w'.cell? ⟨b1, o1 + kk * 2, none⟩ = some (.int .i64 z.1) ∧ w'.cell? ⟨b1, o1 + kk * 2 + 1, none⟩ = some (.int .u64 z.2)) (by kernel_rfl) hS0 (fun hHeld => ?_)
                refine takeH (i := 0) (v := ?v0_43) rfl (by kernel_rfl) (fun _ _ _ h => h) (by rfl) ?hy0_43 (by assumption) ?rest0_43
                case hy0_43 => (intro w hSw; (try dsimp only at hSw); go_simp; try with_reducible rfl)
                try simp only [Act.put, List.setIfInBounds_toArray, List.set_cons_zero, List.set_cons_succ]
                refine takeH (i := 1) (v := ?v1_44) rfl (by kernel_rfl) (fun _ _ _ h => h) (by rfl) ?hy1_44 (by assumption) ?rest1_44
                case hy1_44 => (intro w hSw; (try dsimp only at hSw); go_simp; try with_reducible rfl)
                try simp only [Act.put, List.setIfInBounds_toArray, List.set_cons_zero, List.set_cons_succ]
                refine takeH (i := 2) (v := ?v2_45) rfl (by kernel_rfl) (fun _ _ _ h => h) (by rfl) ?hy2_45 (by assumption) ?rest2_45
                case hy2_45 => (intro w hSw; (try dsimp only at hSw); go_simp; try with_reducible rfl)
                try simp only [Act.put, List.setIfInBounds_toArray, List.set_cons_zero, List.set_cons_succ]
                refine takeH (i := 3) (v := ?v3_46) rfl (by kernel_rfl) (fun _ _ _ h => h) (by rfl) ?hy3_46 (by assumption) ?rest3_46
                case hy3_46 => (intro w hSw; (try dsimp only at hSw); go_simp; try with_reducible rfl)
                try simp only [Act.put, List.setIfInBounds_toArray, List.set_cons_zero, List.set_cons_succ]
                refine takeH (i := 4) (v := ?v4_47) rfl (by kernel_rfl) (fun _ _ _ h => h) (by rfl) ?hy4_47 (by assumption) ?rest4_47
                case hy4_47 => (intro w hSw; (try dsimp only at hSw); go_simp; try with_reducible rfl)
                try simp only [Act.put, List.setIfInBounds_toArray, List.set_cons_zero, List.set_cons_succ]
                refine takeH (i := 5) (v := ?v5_48) rfl (by kernel_rfl) (fun _ _ _ h => h) (by rfl) ?hy5_48 (by assumption) ?rest5_48
                case hy5_48 => (intro w hSw; (try dsimp only at hSw); go_simp; try with_reducible rfl)
                try simp only [Act.put, List.setIfInBounds_toArray, List.set_cons_zero, List.set_cons_succ]
                refine takeH (i := 6) (v := ?v6_49) rfl (by kernel_rfl) (fun _ _ _ h => h) (by rfl) ?hy6_49 (by assumption) ?rest6_49
                case hy6_49 => (intro w hSw; (try dsimp only at hSw); go_simp; try with_reducible rfl)
                try simp only [Act.put, List.setIfInBounds_toArray, List.set_cons_zero, List.set_cons_succ]
                refine takeH (i := 7) (v := ?v7_50) rfl (by kernel_rfl) (fun _ _ _ h => h) (by rfl) ?hy7_50 (by assumption) ?rest7_50
                case hy7_50 => (intro w hSw; (try dsimp only at hSw); go_simp; try with_reducible rfl)
                try simp only [Act.put, List.setIfInBounds_toArray, List.set_cons_zero, List.set_cons_succ]
                refine takeH (i := 8) (v := ?v8_51) rfl (by kernel_rfl) (fun _ _ _ h => h) (by rfl) ?hy8_51 (by assumption) ?rest8_51
                case hy8_51 => (intro w hSw; (try dsimp only at hSw); go_simp; try with_reducible rfl)
                try simp only [Act.put, List.setIfInBounds_toArray, List.set_cons_zero, List.set_cons_succ]
                refine takeH (i := 9) (v := ?v9_52) rfl (by kernel_rfl) (fun _ _ _ h => h) (by rfl) ?hy9_52 (by assumption) ?rest9_52
                case hy9_52 => (intro w hSw; (try dsimp only at hSw); go_simp; try with_reducible rfl)
                try simp only [Act.put, List.setIfInBounds_toArray, List.set_cons_zero, List.set_cons_succ]
                refine takeH (i := 10) (v := ?v10_53) rfl (by kernel_rfl) (fun _ _ _ h => h) (by rfl) ?hy10_53 (by assumption) ?rest10_53
                case hy10_53 => (intro w hSw; (try dsimp only at hSw); go_simp; try with_reducible rfl)
                try simp only [Act.put, List.setIfInBounds_toArray, List.set_cons_zero, List.set_cons_succ]
                refine takeH (i := 11) (v := ?v11_54) rfl (by kernel_rfl) (fun _ _ _ h => h) (by rfl) ?hy11_54 (by assumption) ?rest11_54
                case hy11_54 => (intro w hSw; (try dsimp only at hSw); go_simp; try with_reducible rfl)
                try simp only [Act.put, List.setIfInBounds_toArray, List.set_cons_zero, List.set_cons_succ]
                refine takeH (i := 12) (v := ?v12_55) rfl (by kernel_rfl) (fun _ _ _ h => h) (by rfl) ?hy12_55 (by assumption) ?rest12_55
                case hy12_55 => (intro w hSw; (try dsimp only at hSw); go_simp; try with_reducible rfl)
                try simp only [Act.put, List.setIfInBounds_toArray, List.set_cons_zero, List.set_cons_succ]
                refine takeH (i := 13) (v := ?v13_56) rfl (by kernel_rfl) (fun _ _ _ h => h) (by rfl) ?hy13_56 (by assumption) ?rest13_56
                case hy13_56 => (intro w hSw; (try dsimp only at hSw); go_simp; try with_reducible rfl)
                try simp only [Act.put, List.setIfInBounds_toArray, List.set_cons_zero, List.set_cons_succ]
                refine wpAnyH_ready (rs := [14]) (by kernel_rfl) (by simp) ?_
                refine consH rfl (fun K hK => ?_) (AllReadyH.nil)
                go_simp
                refine (A9.out z ((id : Int), a2) _).mono ?_
                rintro e w9 ⟨rfl, hg9⟩
                have hb9 := hg9.below
                go_wp2_with fail
                refine hK.out _ _ ?_ (fun hHeld14 => ?_)
                · (first | assumption | (refine held_4 (by assumption) ?_; assumption) | (refine held_4 (below_ad _ _) ?_; assumption) | (refine held_4 (below_a _ _) ?_; assumption))
                clear hK K
                try simp only [Act.put, List.setIfInBounds_toArray, List.set_cons_zero, List.set_cons_succ]
                refine takeH (i := 15) (v := ?v15_57) rfl (by kernel_rfl) (fun _ _ _ h => h) (by rfl) ?hy15_57 (by assumption) ?rest15_57
                case hy15_57 => (intro w hSw; (try dsimp only at hSw); go_simp; try with_reducible rfl)
                try simp only [Act.put, List.setIfInBounds_toArray, List.set_cons_zero, List.set_cons_succ]
                refine takeH (i := 16) (v := ?v16_58) rfl (by kernel_rfl) (fun _ _ _ h => h) (by rfl) ?hy16_58 (by assumption) ?rest16_58
                case hy16_58 => (intro w hSw; (try dsimp only at hSw); go_simp; try with_reducible rfl)
                try simp only [Act.put, List.setIfInBounds_toArray, List.set_cons_zero, List.set_cons_succ]
                refine takeH (i := 17) (v := ?v17_59) rfl (by kernel_rfl) (fun _ _ _ h => h) (by rfl) ?hy17_59 (by assumption) ?rest17_59
                case hy17_59 => (intro w hSw; (try dsimp only at hSw); go_simp; try with_reducible rfl)
                try simp only [Act.put, List.setIfInBounds_toArray, List.set_cons_zero, List.set_cons_succ]
                refine takeH (i := 18) (v := ?v18_60) rfl (by kernel_rfl) (fun _ _ _ h => h) (by rfl) ?hy18_60 (by assumption) ?rest18_60
                case hy18_60 => (intro w hSw; (try dsimp only at hSw); go_simp; try with_reducible rfl)
                try simp only [Act.put, List.setIfInBounds_toArray, List.set_cons_zero, List.set_cons_succ]
                refine takeH (i := 19) (v := ?v19_61) rfl (by kernel_rfl) (fun _ _ _ h => h) (by rfl) ?hy19_61 (by assumption) ?rest19_61
                case hy19_61 => (intro w hSw; (try dsimp only at hSw); go_simp; try with_reducible rfl)
                try simp only [Act.put, List.setIfInBounds_toArray, List.set_cons_zero, List.set_cons_succ]
                refine takeH (i := 20) (v := ?v20_62) rfl (by kernel_rfl) (fun _ _ _ h => h) (by rfl) ?hy20_62 (by assumption) ?rest20_62
                case hy20_62 => (intro w hSw; (try dsimp only at hSw); go_simp; try with_reducible rfl)
                try simp only [Act.put, List.setIfInBounds_toArray, List.set_cons_zero, List.set_cons_succ]
                refine takeH (i := 21) (v := ?v21_63) rfl (by kernel_rfl) (fun _ _ _ h => h) (by rfl) ?hy21_63 (by assumption) ?rest21_63
                case hy21_63 => (intro w hSw; (try dsimp only at hSw); go_simp; try with_reducible rfl)
                try simp only [Act.put, List.setIfInBounds_toArray, List.set_cons_zero, List.set_cons_succ]
                refine takeH (i := 22) (v := ?v22_64) rfl (by kernel_rfl) (fun _ _ _ h => h) (by rfl) ?hy22_64 (by assumption) ?rest22_64
                case hy22_64 => (intro w hSw; (try dsimp only at hSw); go_simp; try with_reducible rfl)
                try simp only [Act.put, List.setIfInBounds_toArray, List.set_cons_zero, List.set_cons_succ]
                refine takeH (i := 23) (v := ?v23_65) rfl (by kernel_rfl) (fun _ _ _ h => h) (by rfl) ?hy23_65 (by assumption) ?rest23_65
                case hy23_65 => (intro w hSw; (try dsimp only at hSw); go_simp; try with_reducible rfl)
                try simp only [Act.put, List.setIfInBounds_toArray, List.set_cons_zero, List.set_cons_succ]
                refine skipH (i := 24) rfl (by kernel_rfl) (fun _ _ _ h => h) (by kernel_rfl) (by assumption) ?_
                try simp only [Act.put, List.setIfInBounds_toArray, List.set_cons_zero, List.set_cons_succ]
                refine skipH (i := 25) rfl (by kernel_rfl) (fun _ _ _ h => h) (by kernel_rfl) (by assumption) ?_
                try simp only [Act.put, List.setIfInBounds_toArray, List.set_cons_zero, List.set_cons_succ]
                refine skipH (i := 26) rfl (by kernel_rfl) (fun _ _ _ h => h) (by kernel_rfl) (by assumption) ?_
                try simp only [Act.put, List.setIfInBounds_toArray, List.set_cons_zero, List.set_cons_succ]
                refine skipH (i := 27) rfl (by kernel_rfl) (fun _ _ _ h => h) (by kernel_rfl) (by assumption) ?_
                try simp only [Act.put, List.setIfInBounds_toArray, List.set_cons_zero, List.set_cons_succ]
                refine skipH (i := 28) rfl (by kernel_rfl) (fun _ _ _ h => h) (by kernel_rfl) (by assumption) ?_
                try simp only [Act.put, List.setIfInBounds_toArray, List.set_cons_zero, List.set_cons_succ]
                refine skipH (i := 29) rfl (by kernel_rfl) (fun _ _ _ h => h) (by kernel_rfl) (by assumption) ?_
                try simp only [Act.put, List.setIfInBounds_toArray, List.set_cons_zero, List.set_cons_succ]
                refine skipH (i := 30) rfl (by kernel_rfl) (fun _ _ _ h => h) (by kernel_rfl) (by assumption) ?_
                try simp only [Act.put, List.setIfInBounds_toArray, List.set_cons_zero, List.set_cons_succ]
                refine takeH (i := 31) (v := ?v31_66) rfl (by kernel_rfl) (fun _ _ _ h => h) (by rfl) ?hy31_66 (by assumption) ?rest31_66
                case hy31_66 => (intro w hSw; (try dsimp only at hSw); go_simp; try with_reducible rfl)
                try simp only [Act.put, List.setIfInBounds_toArray, List.set_cons_zero, List.set_cons_succ]
                refine takeH (i := 32) (v := ?v32_67) rfl (by kernel_rfl) (fun _ _ _ h => h) (by rfl) ?hy32_67 (by assumption) ?rest32_67
                case hy32_67 => (intro w hSw; (try dsimp only at hSw); go_simp; try with_reducible rfl)
                try simp only [Act.put, List.setIfInBounds_toArray, List.set_cons_zero, List.set_cons_succ]
                refine wpAnyH_done (by kernel_rfl) ?_ _
                clear hS0
                have HB9 := Lib.hid (Below.trans HB7.out ((hHeld14.1).mono (by have := HB7.out.size; omega)))
                go_wp2_with fail
                go_roundw
                case rel => exact ⟨k + 1, n, by omega, by go_num, rfl, by have := HJ.out; rw [if_neg (by omega)]; omega, HB9.out⟩
                case measure => simp [intOf]; omega
              · skip
                have c6 : decide (0 < n) = true := decide_eq_true hlo
                have c22 : decide (n < M) = true := decide_eq_true hhi
                obtain ⟨-, b1, o1, ea, y0, y1⟩ := V7.out.cells (k := n - 1) (by rw [← HMO.out]; omega)
                cases ea
                have hbf := HJ3.out (by have := HJ.out; omega)
                rw [← HJ.out.1] at hbf
                obtain ⟨kk, hkk⟩ : ∃ kk, kk = n - 1 := ⟨_, rfl⟩
                rw [← hkk] at y0 y1 hbf
                have c6b : (n : Int) - 1 = (kk : Int) := by omega
                have c6c : (0 : Int) ≤ (kk : Int) := by omega
                have c6d : (kk : Int) < (M : Int) := by omega
                have c6e : IntKind.i64.wrap (kk : Int) = (kk : Int) := IntWalk.i64_in _ (by omega)
                obtain ⟨z, hz⟩ : ∃ z, z = O[kk]! := ⟨_, rfl⟩
                rw [← hz] at y0 y1 hbf
                clear hkk hz
                obtain ⟨-, b2, o2, eb, u0, u1⟩ := V7.out.cells (k := n) (by rw [← HMO.out]; exact hhi)
                cases eb
                have hbg := HJ4.out (by rw [← HMO.out]; have := HJ.out; omega)
                rw [← HJ.out.1] at hbg
                have c22b : (n : Int) < (M : Int) := by omega
                obtain ⟨y, hy⟩ : ∃ y, y = O[n]! := ⟨_, rfl⟩
                rw [← hy] at u0 u1 hbg
                clear hy
                clear hlo hhi
                have hS0 : Below wo.heap.size wo wo.drew ∧ wo.drew.cell? ⟨bx, 0, none⟩ = some (.int .i64 (id : Int)) ∧ wo.drew.cell? ⟨bx, 1, none⟩ = some (.int .u64 a2) ∧ wo.drew.cell? ⟨b1, o1 + kk * 2, none⟩ = some (.int .i64 z.1) ∧ wo.drew.cell? ⟨b1, o1 + kk * 2 + 1, none⟩ = some (.int .u64 z.2) ∧ wo.drew.cell? ⟨b1, o1 + n * 2, none⟩ = some (.int .i64 y.1) ∧ wo.drew.cell? ⟨b1, o1 + n * 2 + 1, none⟩ = some (.int .u64 y.2) := ⟨Below.drew (Below.refl _ _), cell_dr x0, cell_dr x1, cell_dr y0, cell_dr y1, cell_dr u0, cell_dr u1⟩
                refine wp_region_held_drew (S := fun w' => Below wo.heap.size wo w' ∧ w'.cell? ⟨bx, 0, none⟩ = some (.int .i64 (id : Int)) ∧ w'.cell? ⟨bx, 1, none⟩ = some (.int .u64 a2) ∧ w'.cell? ⟨b1, o1 + kk * 2, none⟩ = some (.int .i64 z.1) ∧ w'.cell? ⟨b1, o1 + kk * 2 + 1, none⟩ = some (.int .u64 z.2) ∧ w'.cell? ⟨b1, o1 + n * 2, none⟩ = some (.int .i64 y.1) ∧ w'.cell? ⟨b1, o1 + n * 2 + 1, none⟩ = some (.int .u64 y.2)) (by kernel_rfl) hS0 (fun hHeld => ?_)
                refine takeH (i := 0) (v := ?v0_68) rfl (by kernel_rfl) (fun _ _ _ h => h) (by rfl) ?hy0_68 (by assumption) ?rest0_68
                case hy0_68 => (intro w hSw; (try dsimp only at hSw); go_simp; try with_reducible rfl)
                try simp only [Act.put, List.setIfInBounds_toArray, List.set_cons_zero, List.set_cons_succ]
                refine takeH (i := 1) (v := ?v1_69) rfl (by kernel_rfl) (fun _ _ _ h => h) (by rfl) ?hy1_69 (by assumption) ?rest1_69
                case hy1_69 => (intro w hSw; (try dsimp only at hSw); go_simp; try with_reducible rfl)
                try simp only [Act.put, List.setIfInBounds_toArray, List.set_cons_zero, List.set_cons_succ]
                refine takeH (i := 2) (v := ?v2_70) rfl (by kernel_rfl) (fun _ _ _ h => h) (by rfl) ?hy2_70 (by assumption) ?rest2_70
                case hy2_70 => (intro w hSw; (try dsimp only at hSw); go_simp; try with_reducible rfl)
                try simp only [Act.put, List.setIfInBounds_toArray, List.set_cons_zero, List.set_cons_succ]
                refine takeH (i := 3) (v := ?v3_71) rfl (by kernel_rfl) (fun _ _ _ h => h) (by rfl) ?hy3_71 (by assumption) ?rest3_71
                case hy3_71 => (intro w hSw; (try dsimp only at hSw); go_simp; try with_reducible rfl)
                try simp only [Act.put, List.setIfInBounds_toArray, List.set_cons_zero, List.set_cons_succ]
                refine takeH (i := 4) (v := ?v4_72) rfl (by kernel_rfl) (fun _ _ _ h => h) (by rfl) ?hy4_72 (by assumption) ?rest4_72
                case hy4_72 => (intro w hSw; (try dsimp only at hSw); go_simp; try with_reducible rfl)
                try simp only [Act.put, List.setIfInBounds_toArray, List.set_cons_zero, List.set_cons_succ]
                refine takeH (i := 5) (v := ?v5_73) rfl (by kernel_rfl) (fun _ _ _ h => h) (by rfl) ?hy5_73 (by assumption) ?rest5_73
                case hy5_73 => (intro w hSw; (try dsimp only at hSw); go_simp; try with_reducible rfl)
                try simp only [Act.put, List.setIfInBounds_toArray, List.set_cons_zero, List.set_cons_succ]
                refine takeH (i := 6) (v := ?v6_74) rfl (by kernel_rfl) (fun _ _ _ h => h) (by rfl) ?hy6_74 (by assumption) ?rest6_74
                case hy6_74 => (intro w hSw; (try dsimp only at hSw); go_simp; try with_reducible rfl)
                try simp only [Act.put, List.setIfInBounds_toArray, List.set_cons_zero, List.set_cons_succ]
                refine takeH (i := 7) (v := ?v7_75) rfl (by kernel_rfl) (fun _ _ _ h => h) (by rfl) ?hy7_75 (by assumption) ?rest7_75
                case hy7_75 => (intro w hSw; (try dsimp only at hSw); go_simp; try with_reducible rfl)
                try simp only [Act.put, List.setIfInBounds_toArray, List.set_cons_zero, List.set_cons_succ]
                refine takeH (i := 8) (v := ?v8_76) rfl (by kernel_rfl) (fun _ _ _ h => h) (by rfl) ?hy8_76 (by assumption) ?rest8_76
                case hy8_76 => (intro w hSw; (try dsimp only at hSw); go_simp; try with_reducible rfl)
                try simp only [Act.put, List.setIfInBounds_toArray, List.set_cons_zero, List.set_cons_succ]
                refine takeH (i := 9) (v := ?v9_77) rfl (by kernel_rfl) (fun _ _ _ h => h) (by rfl) ?hy9_77 (by assumption) ?rest9_77
                case hy9_77 => (intro w hSw; (try dsimp only at hSw); go_simp; try with_reducible rfl)
                try simp only [Act.put, List.setIfInBounds_toArray, List.set_cons_zero, List.set_cons_succ]
                refine takeH (i := 10) (v := ?v10_78) rfl (by kernel_rfl) (fun _ _ _ h => h) (by rfl) ?hy10_78 (by assumption) ?rest10_78
                case hy10_78 => (intro w hSw; (try dsimp only at hSw); go_simp; try with_reducible rfl)
                try simp only [Act.put, List.setIfInBounds_toArray, List.set_cons_zero, List.set_cons_succ]
                refine takeH (i := 11) (v := ?v11_79) rfl (by kernel_rfl) (fun _ _ _ h => h) (by rfl) ?hy11_79 (by assumption) ?rest11_79
                case hy11_79 => (intro w hSw; (try dsimp only at hSw); go_simp; try with_reducible rfl)
                try simp only [Act.put, List.setIfInBounds_toArray, List.set_cons_zero, List.set_cons_succ]
                refine takeH (i := 12) (v := ?v12_80) rfl (by kernel_rfl) (fun _ _ _ h => h) (by rfl) ?hy12_80 (by assumption) ?rest12_80
                case hy12_80 => (intro w hSw; (try dsimp only at hSw); go_simp; try with_reducible rfl)
                try simp only [Act.put, List.setIfInBounds_toArray, List.set_cons_zero, List.set_cons_succ]
                refine takeH (i := 13) (v := ?v13_81) rfl (by kernel_rfl) (fun _ _ _ h => h) (by rfl) ?hy13_81 (by assumption) ?rest13_81
                case hy13_81 => (intro w hSw; (try dsimp only at hSw); go_simp; try with_reducible rfl)
                try simp only [Act.put, List.setIfInBounds_toArray, List.set_cons_zero, List.set_cons_succ]
                refine wpAnyH_ready (rs := [14]) (by kernel_rfl) (by simp) ?_
                refine consH rfl (fun K hK => ?_) (AllReadyH.nil)
                go_simp
                refine (A9.out z ((id : Int), a2) _).mono ?_
                rintro e w9 ⟨rfl, hg9⟩
                have hb9 := hg9.below
                go_wp2_with fail
                refine hK.out _ _ ?_ (fun hHeld14 => ?_)
                · (first | assumption | (refine held_6 (by assumption) ?_; assumption) | (refine held_6 (below_ad _ _) ?_; assumption) | (refine held_6 (below_a _ _) ?_; assumption))
                clear hK K
                try simp only [Act.put, List.setIfInBounds_toArray, List.set_cons_zero, List.set_cons_succ]
                refine takeH (i := 15) (v := ?v15_82) rfl (by kernel_rfl) (fun _ _ _ h => h) (by rfl) ?hy15_82 (by assumption) ?rest15_82
                case hy15_82 => (intro w hSw; (try dsimp only at hSw); go_simp; try with_reducible rfl)
                try simp only [Act.put, List.setIfInBounds_toArray, List.set_cons_zero, List.set_cons_succ]
                refine takeH (i := 16) (v := ?v16_83) rfl (by kernel_rfl) (fun _ _ _ h => h) (by rfl) ?hy16_83 (by assumption) ?rest16_83
                case hy16_83 => (intro w hSw; (try dsimp only at hSw); go_simp; try with_reducible rfl)
                try simp only [Act.put, List.setIfInBounds_toArray, List.set_cons_zero, List.set_cons_succ]
                refine takeH (i := 17) (v := ?v17_84) rfl (by kernel_rfl) (fun _ _ _ h => h) (by rfl) ?hy17_84 (by assumption) ?rest17_84
                case hy17_84 => (intro w hSw; (try dsimp only at hSw); go_simp; try with_reducible rfl)
                try simp only [Act.put, List.setIfInBounds_toArray, List.set_cons_zero, List.set_cons_succ]
                refine takeH (i := 18) (v := ?v18_85) rfl (by kernel_rfl) (fun _ _ _ h => h) (by rfl) ?hy18_85 (by assumption) ?rest18_85
                case hy18_85 => (intro w hSw; (try dsimp only at hSw); go_simp; try with_reducible rfl)
                try simp only [Act.put, List.setIfInBounds_toArray, List.set_cons_zero, List.set_cons_succ]
                refine takeH (i := 19) (v := ?v19_86) rfl (by kernel_rfl) (fun _ _ _ h => h) (by rfl) ?hy19_86 (by assumption) ?rest19_86
                case hy19_86 => (intro w hSw; (try dsimp only at hSw); go_simp; try with_reducible rfl)
                try simp only [Act.put, List.setIfInBounds_toArray, List.set_cons_zero, List.set_cons_succ]
                refine takeH (i := 20) (v := ?v20_87) rfl (by kernel_rfl) (fun _ _ _ h => h) (by rfl) ?hy20_87 (by assumption) ?rest20_87
                case hy20_87 => (intro w hSw; (try dsimp only at hSw); go_simp; try with_reducible rfl)
                try simp only [Act.put, List.setIfInBounds_toArray, List.set_cons_zero, List.set_cons_succ]
                refine takeH (i := 21) (v := ?v21_88) rfl (by kernel_rfl) (fun _ _ _ h => h) (by rfl) ?hy21_88 (by assumption) ?rest21_88
                case hy21_88 => (intro w hSw; (try dsimp only at hSw); go_simp; try with_reducible rfl)
                try simp only [Act.put, List.setIfInBounds_toArray, List.set_cons_zero, List.set_cons_succ]
                refine takeH (i := 22) (v := ?v22_89) rfl (by kernel_rfl) (fun _ _ _ h => h) (by rfl) ?hy22_89 (by assumption) ?rest22_89
                case hy22_89 => (intro w hSw; (try dsimp only at hSw); go_simp; try with_reducible rfl)
                try simp only [Act.put, List.setIfInBounds_toArray, List.set_cons_zero, List.set_cons_succ]
                refine takeH (i := 23) (v := ?v23_90) rfl (by kernel_rfl) (fun _ _ _ h => h) (by rfl) ?hy23_90 (by assumption) ?rest23_90
                case hy23_90 => (intro w hSw; (try dsimp only at hSw); go_simp; try with_reducible rfl)
                try simp only [Act.put, List.setIfInBounds_toArray, List.set_cons_zero, List.set_cons_succ]
                refine takeH (i := 24) (v := ?v24_91) rfl (by kernel_rfl) (fun _ _ _ h => h) (by rfl) ?hy24_91 (by assumption) ?rest24_91
                case hy24_91 => (intro w hSw; (try dsimp only at hSw); go_simp; try with_reducible rfl)
                try simp only [Act.put, List.setIfInBounds_toArray, List.set_cons_zero, List.set_cons_succ]
                refine takeH (i := 25) (v := ?v25_92) rfl (by kernel_rfl) (fun _ _ _ h => h) (by rfl) ?hy25_92 (by assumption) ?rest25_92
                case hy25_92 => (intro w hSw; (try dsimp only at hSw); go_simp; try with_reducible rfl)
                try simp only [Act.put, List.setIfInBounds_toArray, List.set_cons_zero, List.set_cons_succ]
                refine takeH (i := 26) (v := ?v26_93) rfl (by kernel_rfl) (fun _ _ _ h => h) (by rfl) ?hy26_93 (by assumption) ?rest26_93
                case hy26_93 => (intro w hSw; (try dsimp only at hSw); go_simp; try with_reducible rfl)
                try simp only [Act.put, List.setIfInBounds_toArray, List.set_cons_zero, List.set_cons_succ]
                refine takeH (i := 27) (v := ?v27_94) rfl (by kernel_rfl) (fun _ _ _ h => h) (by rfl) ?hy27_94 (by assumption) ?rest27_94
                case hy27_94 => (intro w hSw; (try dsimp only at hSw); go_simp; try with_reducible rfl)
                try simp only [Act.put, List.setIfInBounds_toArray, List.set_cons_zero, List.set_cons_succ]
                refine takeH (i := 28) (v := ?v28_95) rfl (by kernel_rfl) (fun _ _ _ h => h) (by rfl) ?hy28_95 (by assumption) ?rest28_95
                case hy28_95 => (intro w hSw; (try dsimp only at hSw); go_simp; try with_reducible rfl)
                try simp only [Act.put, List.setIfInBounds_toArray, List.set_cons_zero, List.set_cons_succ]
                refine wpAnyH_ready (rs := [29]) (by kernel_rfl) (by simp) ?_
                refine consH rfl (fun K hK => ?_) (AllReadyH.nil)
                go_simp
                refine (A9.out ((id : Int), a2) y _).mono ?_
                rintro e w10 ⟨rfl, hg10⟩
                have hb10 := hg10.below
                go_wp2_with fail
                refine hK.out _ _ ?_ (fun hHeld29 => ?_)
                · (first | assumption | (refine held_6 (by assumption) ?_; assumption) | (refine held_6 (below_ad _ _) ?_; assumption) | (refine held_6 (below_a _ _) ?_; assumption))
                clear hK K
                try simp only [Act.put, List.setIfInBounds_toArray, List.set_cons_zero, List.set_cons_succ]
                refine takeH (i := 30) (v := ?v30_96) rfl (by kernel_rfl) (fun _ _ _ h => h) (by rfl) ?hy30_96 (by assumption) ?rest30_96
                case hy30_96 => (intro w hSw; (try dsimp only at hSw); go_simp; try with_reducible rfl)
                try simp only [Act.put, List.setIfInBounds_toArray, List.set_cons_zero, List.set_cons_succ]
                refine takeH (i := 31) (v := ?v31_97) rfl (by kernel_rfl) (fun _ _ _ h => h) (by rfl) ?hy31_97 (by assumption) ?rest31_97
                case hy31_97 => (intro w hSw; (try dsimp only at hSw); go_simp; try with_reducible rfl)
                try simp only [Act.put, List.setIfInBounds_toArray, List.set_cons_zero, List.set_cons_succ]
                refine takeH (i := 32) (v := ?v32_98) rfl (by kernel_rfl) (fun _ _ _ h => h) (by rfl) ?hy32_98 (by assumption) ?rest32_98
                case hy32_98 => (intro w hSw; (try dsimp only at hSw); go_simp; try with_reducible rfl)
                try simp only [Act.put, List.setIfInBounds_toArray, List.set_cons_zero, List.set_cons_succ]
                refine wpAnyH_done (by kernel_rfl) ?_ _
                clear hS0
                have HB9 := Lib.hid (Below.trans HB7.out ((hHeld29.1).mono (by have := HB7.out.size; omega)))
                go_wp2_with fail
                go_roundw
                case rel => exact ⟨k + 1, n, by omega, by go_num, rfl, by have := HJ.out; rw [if_neg (by omega)]; omega, HB9.out⟩
                case measure => simp [intOf]; omega
            · have hat : n < M ∧ T[k]! = O[n]! := by
                rw [hta]
                by_cases h1 : k < j0
                · rw [if_pos (by omega)] at hn
                  rw [if_pos h1, hn]
                  exact ⟨by omega, rfl⟩
                · rw [if_neg (by omega)] at hn
                  rw [if_neg h1, if_neg hkj, hn]
                  exact ⟨by omega, rfl⟩
              have hnx : (n + 1) = (if k + 1 ≤ j0 then k + 1 else k + 1 - 1) := by
                by_cases h1 : k < j0
                · rw [if_pos (by omega)] at hn
                  rw [if_pos (by omega)]; omega
                · rw [if_neg (by omega)] at hn
                  rw [if_neg (by omega)]; omega
              obtain ⟨-, b1, o1, rfl, y0, y1⟩ := V6.out.cells (k := n) (by rw [← HMO.out]; exact hat.1)
              have hxid := HON.out O[n]! (at_mem (by rw [← HMO.out]; exact hat.1))
              rw [hat.2] at i0' i1'
              generalize O[n]! = x at *
              have z1 : (x.1 == (id : Int)) = false := by simpa using hxid
              have z1' : (x.1 = (id : Int)) = False := eq_false hxid
              have z2 : (x.1 != x.1) = false := by simp
              have z3 : (x.2 != x.2) = false := by simp
              have c1 : decide ((n : Int) ≥ (M : Int)) = false := decide_eq_false (by omega)
              have c2 : decide (M ≤ n) = false := decide_eq_false (by omega)
              have c3 : (M ≤ n) = False := eq_false (by omega)
              have c4 : (n : Int) < (M : Int) := by omega
              have HNX := Lib.hid hnx
              clear hta hkT hn hat hnx hxid
              go_wp2_with fail
              have x0 := cell_nw wr #[.int .i64 x.1, .int .u64 x.2] 28 0 _ rfl
              have x1 := cell_nw wr #[.int .i64 x.1, .int .u64 x.2] 28 1 _ rfl
              have bw := below_a wr (.cells #[.int .i64 x.1, .int .u64 x.2] 28)
              have hwx := hbwr_le HBR.out
              replace y0 := cell_later bw y0
              replace y1 := cell_later bw y1
              generalize wr.heap.size = bx at *
              generalize wr.alloc (.cells #[.int .i64 x.1, .int .u64 x.2] 28) = wo at *
              have HB7 := Lib.hid (HBR.out.trans (bw.mono hwx))
              clear bw
              have hS0 : Below wo.heap.size wo wo.drew ∧ wo.drew.cell? ⟨bx, 0, none⟩ = some (.int .i64 x.1) ∧ wo.drew.cell? ⟨bx, 1, none⟩ = some (.int .u64 x.2) ∧ wo.drew.cell? ⟨b1, o1 + n * 2, none⟩ = some (.int .i64 x.1) ∧ wo.drew.cell? ⟨b1, o1 + n * 2 + 1, none⟩ = some (.int .u64 x.2) := ⟨Below.drew (Below.refl _ _), cell_dr x0, cell_dr x1, cell_dr y0, cell_dr y1⟩
              refine wp_region_held_drew (S := fun w' => Below wo.heap.size wo w' ∧ w'.cell? ⟨bx, 0, none⟩ = some (.int .i64 x.1) ∧ w'.cell? ⟨bx, 1, none⟩ = some (.int .u64 x.2) ∧ w'.cell? ⟨b1, o1 + n * 2, none⟩ = some (.int .i64 x.1) ∧ w'.cell? ⟨b1, o1 + n * 2 + 1, none⟩ = some (.int .u64 x.2)) (by kernel_rfl) hS0 (fun hHeld => ?_)
              refine takeH (i := 0) (v := ?v0_99) rfl (by kernel_rfl) (fun _ _ _ h => h) (by rfl) ?hy0_99 (by assumption) ?rest0_99
              case hy0_99 => (intro w hSw; (try dsimp only at hSw); go_simp; try with_reducible rfl)
              try simp only [Act.put, List.setIfInBounds_toArray, List.set_cons_zero, List.set_cons_succ]
              refine takeH (i := 1) (v := ?v1_100) rfl (by kernel_rfl) (fun _ _ _ h => h) (by rfl) ?hy1_100 (by assumption) ?rest1_100
              case hy1_100 => (intro w hSw; (try dsimp only at hSw); go_simp; try with_reducible rfl)
              try simp only [Act.put, List.setIfInBounds_toArray, List.set_cons_zero, List.set_cons_succ]
              refine takeH (i := 2) (v := ?v2_101) rfl (by kernel_rfl) (fun _ _ _ h => h) (by rfl) ?hy2_101 (by assumption) ?rest2_101
              case hy2_101 => (intro w hSw; (try dsimp only at hSw); go_simp; try with_reducible rfl)
              try simp only [Act.put, List.setIfInBounds_toArray, List.set_cons_zero, List.set_cons_succ]
              refine takeH (i := 3) (v := ?v3_102) rfl (by kernel_rfl) (fun _ _ _ h => h) (by rfl) ?hy3_102 (by assumption) ?rest3_102
              case hy3_102 => (intro w hSw; (try dsimp only at hSw); go_simp; try with_reducible rfl)
              try simp only [Act.put, List.setIfInBounds_toArray, List.set_cons_zero, List.set_cons_succ]
              refine takeH (i := 4) (v := ?v4_103) rfl (by kernel_rfl) (fun _ _ _ h => h) (by rfl) ?hy4_103 (by assumption) ?rest4_103
              case hy4_103 => (intro w hSw; (try dsimp only at hSw); go_simp; try with_reducible rfl)
              try simp only [Act.put, List.setIfInBounds_toArray, List.set_cons_zero, List.set_cons_succ]
              refine takeH (i := 5) (v := ?v5_104) rfl (by kernel_rfl) (fun _ _ _ h => h) (by rfl) ?hy5_104 (by assumption) ?rest5_104
              case hy5_104 => (intro w hSw; (try dsimp only at hSw); go_simp; try with_reducible rfl)
              try simp only [Act.put, List.setIfInBounds_toArray, List.set_cons_zero, List.set_cons_succ]
              refine takeH (i := 6) (v := ?v6_105) rfl (by kernel_rfl) (fun _ _ _ h => h) (by rfl) ?hy6_105 (by assumption) ?rest6_105
              case hy6_105 => (intro w hSw; (try dsimp only at hSw); go_simp; try with_reducible rfl)
              try simp only [Act.put, List.setIfInBounds_toArray, List.set_cons_zero, List.set_cons_succ]
              refine takeH (i := 7) (v := ?v7_106) rfl (by kernel_rfl) (fun _ _ _ h => h) (by rfl) ?hy7_106 (by assumption) ?rest7_106
              case hy7_106 => (intro w hSw; (try dsimp only at hSw); go_simp; try with_reducible rfl)
              try simp only [Act.put, List.setIfInBounds_toArray, List.set_cons_zero, List.set_cons_succ]
              refine takeH (i := 8) (v := ?v8_107) rfl (by kernel_rfl) (fun _ _ _ h => h) (by rfl) ?hy8_107 (by assumption) ?rest8_107
              case hy8_107 => (intro w hSw; (try dsimp only at hSw); go_simp; try with_reducible rfl)
              try simp only [Act.put, List.setIfInBounds_toArray, List.set_cons_zero, List.set_cons_succ]
              refine takeH (i := 9) (v := ?v9_108) rfl (by kernel_rfl) (fun _ _ _ h => h) (by rfl) ?hy9_108 (by assumption) ?rest9_108
              case hy9_108 => (intro w hSw; (try dsimp only at hSw); go_simp; try with_reducible rfl)
              try simp only [Act.put, List.setIfInBounds_toArray, List.set_cons_zero, List.set_cons_succ]
              refine takeH (i := 10) (v := ?v10_109) rfl (by kernel_rfl) (fun _ _ _ h => h) (by rfl) ?hy10_109 (by assumption) ?rest10_109
              case hy10_109 => (intro w hSw; (try dsimp only at hSw); go_simp; try with_reducible rfl)
              try simp only [Act.put, List.setIfInBounds_toArray, List.set_cons_zero, List.set_cons_succ]
              refine takeH (i := 11) (v := ?v11_110) rfl (by kernel_rfl) (fun _ _ _ h => h) (by rfl) ?hy11_110 (by assumption) ?rest11_110
              case hy11_110 => (intro w hSw; (try dsimp only at hSw); go_simp; try with_reducible rfl)
              try simp only [Act.put, List.setIfInBounds_toArray, List.set_cons_zero, List.set_cons_succ]
              refine wpAnyH_done (by kernel_rfl) ?_ _
              clear hS0
              have HB9 := Lib.hid HB7.out.drew
              go_wp2_with fail
              go_roundw
              case rel => exact ⟨k + 1, n + 1, by omega, by go_num, by go_num, HNX.out, HB9.out⟩
              case measure => simp [intOf]; omega
          · have hkm : k = m := by omega
            have l1 : decide ((k : Int) < (m : Int)) = false := decide_eq_false (by omega)
            have l2 : decide (k < m) = false := decide_eq_false hlt
            have l3 : (k < m) = False := eq_false hlt
            have hnM : n = M := by rw [hn, if_neg (by omega)]; omega
            have z1 : ((n : Int) != (M : Int)) = false := by simp; omega
            have I6 := Lib.hid (I5.out.below HBR.out)
            have V7 := Lib.hid (show Held F4 wr (.slice ao M cc) O from V5h.out.step (Step.of HBR.out))
            obtain ⟨q1, q2, q3, q4, q5, q6, q7, q8⟩ := there_out (n := 40) (S := T) (id := (id : Int)) (has_true hid0 (by omega)) KT.out
            have Q1 := Lib.hid q1
            have Q2 := Lib.hid q2
            have Q3 := Lib.hid (show outS 40 T (id : Int) = O by rw [q3, HTO.out])
            have z2 : (a2 != a2) = false := by simp
            clear hk hlt hkm hn hnM q1 q2 q3 q4 q5 q6 q7 q8
            obtain ⟨wo, rfl⟩ : ∃ wo : World, wo = wr := ⟨_, rfl⟩
            go_wp2_with fail
            refine (Out_at (id : Int) wo I6.out.inn HWI.out).mono ?_
            rintro e w7 ⟨rfl, hA⟩
            rw [Q3.out] at hA
            rw [Q1.out, Q2.out]
            obtain ⟨F7, h7, t7⟩ := I6.out.step hA
            have I7 := Lib.hid h7
            have V8 := Lib.hid (V7.out.step t7)
            clear hA h7 t7
            go_wp2_with fail
            refine (All_at _ I7.out.inn).mono ?_
            rintro e w8 ⟨v8, rfl, hr8, hb8⟩
            have I8 := Lib.hid (I7.out.below hb8)
            have V9 := Lib.hid (V8.out.step (Step.of hb8)).items
            have U9 := Lib.hid hr8.items
            obtain ⟨a8v, cc8, e8, _⟩ := hr8.items
            subst e8
            rw [← HMO.out] at U9 ⊢
            have hz : ((M : Int) != (M : Int)) = false := by simp
            clear hr8 hb8
            go_wp2_with fail
            refine (Right_at _ I8.out.inn).mono ?_
            rintro e w9 ⟨rfl, hb9⟩
            have I9 := Lib.hid (I8.out.below hb9)
            have X9 := Lib.hid (V9.out.later hb9)
            have Y9 := Lib.hid (U9.out.later hb9)
            clear hb9
            go_wp2_with fail
            go_loopw [147] (fun i wr => ∃ (k q : Nat), k ≤ M ∧ i = .int .i64 k ∧ wr = w9.drewN q) (fun i _ => M - (intOf i).toNat)
            case atStart => exact ⟨0, 0, Nat.zero_le _, rfl, rfl⟩
            case round =>
              obtain ⟨k, q, hk, rfl, rfl⟩ := hrel
              by_cases hlt : k < M
              · have hkS : k < O.length := by rw [← HMO.out]; exact hlt
                obtain ⟨-, b1, o1, rfl, i0, i1⟩ := X9.out.cells hkS
                obtain ⟨-, b2, o2, rfl, j0, j1⟩ := Y9.out.cells hkS
                generalize O[k]! = x at *
                have hk0 : (0 : Int) ≤ (k : Int) := by omega
                have hkm : (k : Int) < (M : Int) := by omega
                have z1 : (x.1 != x.1) = false := by simp
                have z2 : (x.2 != x.2) = false := by simp
                clear hkS
                go_wp2_with fail
                go_quiet (fail)
                go_wp2_with fail
                go_roundw
                case rel => exact ⟨k + 1, _, by omega, by go_num, rfl⟩
                case measure => simp [intOf]; omega
              · have l1 : decide ((k : Int) < (M : Int)) = false := decide_eq_false (by omega)
                have l2 : decide (k < M) = false := decide_eq_false hlt
                have l3 : (k < M) = False := eq_false hlt
                clear hk hlt
                go_wp2_with fail
                refine (AW.out _).mono ?_
                rintro e w9 ⟨rfl, hb9⟩
                have HB9 := Lib.hid (Below.step (below_drewN I9.out.bel q) hb9)
                clear hb9
                go_wp2_with fail
                go_ret
                exact ⟨rfl, HB9.out⟩
end Go.Proofs.Ytpbaegdmjmickaa
