/-
  The walks of layer 39 (lag): made.
-/
import Derived.Test.YtgieaojkbfjoiaaLagSh
namespace Go.Proofs.Ytgieaojkbfjoiaa
open Go.RowKit Go.Maps Go.IntWalk Go.Lib Go.Sort
set_option linter.unusedVariables false
/-- the task that runs at a round -/
def turnId (l : List (Int × Int)) (k : Nat) : Int := (l[k % l.length]?.getD (0, 0)).1
def madeK (l : List (Int × Int)) (rs : List Int) : Nat → List (Int × Int × Int)
  | 0 => ran0 l
  | k + 1 => runL (madeK l rs k) (turnId l k) (rs[k]?.getD 0)
def madeV (l : List (Int × Int)) (rs : List Int) : List (Int × Int × Int) := madeK l rs (min rs.length 60)
theorem newC_zero {l : List (Int × Int)} (h : newC l = 0) : l ≠ [] ∧ okFrom 0 l = true ∧ l.length ≤ 1024 := by
  unfold newC at h
  split at h
  · cases h
  · rename_i h1
    split at h
    · cases h
    · rename_i h2
      split at h
      · cases h
      · exact ⟨h1, by simpa using h2, by omega⟩
theorem turnId_mem {l : List (Int × Int)} (h : l ≠ []) (k : Nat) : ∃ x ∈ l, x.1 = turnId l k := by
  have hk : k % l.length < l.length := Nat.mod_lt _ (List.length_pos_iff.2 h)
  refine ⟨l[k % l.length], List.getElem_mem hk, ?_⟩
  unfold turnId
  rw [List.getElem?_eq_getElem hk]; rfl
theorem runC_zero {l : List (Int × Int × Int)} {id t : Int} (h0 : 0 ≤ t) (h1 : t ≤ 68719476736) (hi : ∃ x ∈ l, x.1 = id) (h2 : sumR l + t ≤ 68719476736) : runC l id t = 0 := by
  unfold runC
  rw [if_neg (by omega), if_neg (by rw [hasId_iff.2 hi]; decide), if_neg (by omega)]
theorem ids_mem {l : List (Int × Int × Int)} {id : Int} : (∃ x ∈ l, x.1 = id) ↔ id ∈ idsL l := by simp [idsL]
theorem runL_ids (l : List (Int × Int × Int)) (id t : Int) : idsL (runL l id t) = idsL l := by
  unfold runL; split
  · exact bump_ids l id t
  · rfl
theorem ran0_ids (l : List (Int × Int)) : idsL (ran0 l) = l.map (·.1) := by simp [idsL, ran0]
structure MadeOk (l : List (Int × Int)) (rs : List Int) (k : Nat) : Prop where
  good : Good (madeK l rs k)
  ids : idsL (madeK l rs k) = l.map (·.1)
  sum : 0 ≤ sumR (madeK l rs k) ∧ sumR (madeK l rs k) ≤ 65535 * k
theorem made_step {l : List (Int × Int)} {rs : List Int} (hl : newC l = 0) (hf : ∀ x ∈ rs, 0 ≤ x ∧ x ≤ 65535) {k : Nat} {x : Int} (hx : rs[k]? = some x) (hk : k < 60) (h : MadeOk l rs k) :
    runC (madeK l rs k) (turnId l k) x = 0 ∧ madeK l rs (k + 1) = runL (madeK l rs k) (turnId l k) x ∧ MadeOk l rs (k + 1) := by
  have h1 := (newC_zero hl).1
  have hb := hf x (List.mem_of_getElem? hx)
  obtain ⟨h2, h3, h4⟩ := h
  have hi : ∃ y ∈ madeK l rs k, y.1 = turnId l k := by
    rw [ids_mem, h3, List.mem_map]
    exact turnId_mem h1 k
  have hc : runC (madeK l rs k) (turnId l k) x = 0 := runC_zero hb.1 (by omega) hi (by omega)
  have he : madeK l rs (k + 1) = runL (madeK l rs k) (turnId l k) x := by rw [madeK, hx]; rfl
  have hr : madeK l rs (k + 1) = bump (madeK l rs k) (turnId l k) x := by rw [he, runL, if_pos hc]
  refine ⟨hc, he, ?_, ?_, ?_⟩
  · rw [hr]; exact h2.bump hi hb.1 (by omega)
  · rw [he, runL_ids]; exact h3
  · rw [hr, bump_R _ _ _ h2.ids hi]; omega
theorem made_start {l : List (Int × Int)} (hl : newC l = 0) (rs : List Int) : MadeOk l rs 0 := by
  obtain ⟨h1, h2, h3⟩ := newC_zero hl
  exact ⟨okFrom_good h2 h1 h3, ran0_ids l, by rw [show madeK l rs 0 = ran0 l from rfl, ran0_R]; omega⟩
def MadeP (l : List (Int × Int)) (rs : List Int) (w : World) (e : Ending) (w' : World) : Prop :=
  ∃ p g bm cap, e = .returned (.pointer (some ⟨p, 0, none⟩)) ∧ MeterAt w' p g bm cap (madeV l rs) l.length ∧ MadeOk l rs (min rs.length 60) ∧ w.heap.size ≤ p ∧ w.heap.size ≤ g ∧ w.heap.size ≤ bm ∧ Below w.heap.size w w'
set_option maxRecDepth 100000 in
set_option maxHeartbeats 1000000 in
theorem made_any (b off lcap : Nat) (l : List (Int × Int)) (a : Option Addr) (n cap : Nat) (rs : List Int) (w : World) (hl : newC l = 0) (hp : PairsAt w b off l) (h : WordsIn w a n cap rs) :
    Calls Try.prog 11 #[.slice (some ⟨b, off, none⟩) l.length lcap, .slice a n cap] w (MadeP l rs w) := by
  have hmax := h.max
  have hle := h.le
  obtain ⟨hl1, hl2, hl3⟩ := newC_zero hl
  have hlp := List.length_pos_iff.2 hl1
  obtain ⟨m, hm⟩ : ∃ m : Nat, m = min n 60 := ⟨_, rfl⟩
  have e0 : min (n : Int) 60 = (m : Int) := by omega
  have hmn : m ≤ n := by omega
  have hm60 : m ≤ 60 := by omega
  have HM := Lib.hid hm
  have HW := Lib.hid h
  have HP := Lib.hid hp
  have A1 := Lib.hid (New_any (.slice (some ⟨b, off, none⟩) l.length lcap) l w ⟨_, lcap, rfl, Or.inr ⟨b, off, rfl, hp⟩⟩ (by omega))
  have HLZ := Lib.hid hl
  have HOK := Lib.hid (made_start hl rs)
  have HL1 := Lib.hid hl1
  clear h hp hm hl hl1 hl2
  go_enter Try.func11, Try.ntmps11
  go_wp2_with fail
  refine A1.out.mono ?_
  rintro e w1 ⟨hb1, ⟨h, _⟩ | ⟨_, p, g, bm, capm, rfl, hM, hp1, hg1, hm1⟩⟩
  · exact absurd HLZ.out h
  have HMt := Lib.hid hM
  clear hM
  rcases a with _ | ad
  · have hc0 := HW.out.none rfl
    subst hc0
    have hn0 : n = 0 := by omega
    subst hn0
    have hm0 : m = 0 := by omega
    subst hm0
    have e1 : min (0 : Int) 60 = 0 := by decide
    have hrs : rs = [] := List.eq_nil_of_length_eq_zero HW.out.row.1
    clear e0
    go_wp2_with fail
    refine wp_loop_rounds 1 ?_
    rw [rounds_succ]
    go_wp2_with fail
    go_ret
    refine ⟨p, g, bm, capm, rfl, ?_, ?_, hp1, hg1, hm1, hb1⟩
    · rw [hrs]; exact HMt.out
    · rw [hrs]; exact made_start HLZ.out []
  · go_wp2_with fail
    go_loopw [26] (fun i wr => ∃ k : Nat, k ≤ m ∧ i = .int .i64 k ∧ MeterAt wr p g bm capm (madeK l rs k) l.length ∧ MadeOk l rs k ∧ Below w.heap.size w wr) (fun i _ => m - (intOf i).toNat)
    case atStart => exact ⟨0, Nat.zero_le _, rfl, HMt.out, HOK.out, hb1⟩
    case round =>
      obtain ⟨k, hk, rfl, hM, hO, hb⟩ := hrel
      by_cases hlt : k < m
      · obtain ⟨br, offr, hadr, hcr⟩ := HW.out.row.2 (by omega)
        obtain rfl := Option.some.inj hadr
        obtain ⟨x, hx⟩ : ∃ x, rs[k]? = some x := ⟨_, List.getElem?_eq_getElem (by rw [HW.out.row.1]; omega)⟩
        have q0 := cell_later hb (hcr k x hx)
        have hfx := HW.out.fit x (List.mem_of_getElem? hx)
        obtain ⟨hc, he, hO'⟩ := made_step HLZ.out HW.out.fit hx (by omega) hO
        have hmod : k % l.length < l.length := Nat.mod_lt _ hlp
        have hq := (HP.out (k % l.length) l[k % l.length] (List.getElem?_eq_getElem hmod)).1
        replace hq := cell_later hb hq
        have htid : l[k % l.length].1 = turnId l k := by unfold turnId; rw [List.getElem?_eq_getElem hmod]; rfl
        rw [htid] at hq
        have hwf : (Lit.int .i64 (turnId l k)).wf = true := by
          obtain ⟨y, hy, hye⟩ := turnId_mem HL1.out k
          have := okFrom_mem (newC_zero HLZ.out).2.1 y hy
          exact WalkArith.wf_i64 (by omega)
        have A2 := Lib.hid (Run_any p g bm capm (madeK l rs k) l.length (turnId l k) x wr hM hwf (WalkArith.wf_i64 (by omega)))
        have HC := Lib.hid hc
        have HE := Lib.hid he
        have HO := Lib.hid hO'
        have hk0 : (0 : Int) ≤ (k : Int) := by omega
        have hkm : (k : Int) < (m : Int) := by omega
        have hm0 : (0 : Int) ≤ (k : Int) % (l.length : Int) := Int.emod_nonneg _ (by omega)
        have hm1' : (k : Int) % (l.length : Int) < (l.length : Int) := Int.emod_lt_of_pos _ (by omega)
        have hmt : ((k : Int) % (l.length : Int)).toNat = k % l.length := by rw [← Int.natCast_emod]; exact Int.toNat_natCast _
        have hnz : ¬ ((l.length : Int) = 0) := by omega
        clear hc he hO' hcr hx htid hM hO hadr
        generalize turnId l k = tid at *
        go_wp2_with fail
        refine A2.out.mono ?_
        rintro e w5 ⟨he, hM5, hk5⟩
        rw [HC.out] at he
        subst he
        rw [← HE.out] at hM5
        have hb5 := Kept.stepB hb (Nat.le_refl _) hk5 (fun i hi => by simp only [List.mem_cons, List.not_mem_nil, or_false] at hi; have := hb1.size; omega)
        have HM5 := Lib.hid hM5
        clear hM5 hk5 A2
        go_wp2_with fail
        go_roundw
        case rel => exact ⟨k + 1, by omega, by go_num, HM5.out, HO.out, hb5⟩
        case measure => simp [intOf]; omega
      · obtain rfl : k = m := by omega
        have hkm : k = min rs.length 60 := by rw [HW.out.row.1]; exact HM.out
        have HKM := Lib.hid hkm
        have HMM := Lib.hid hM
        have HOO := Lib.hid hO
        clear hkm hM hO
        go_wp2_with fail
        go_ret
        refine ⟨p, g, bm, capm, rfl, ?_, ?_, hp1, hg1, hm1, hb⟩
        · unfold madeV; rw [← HKM.out]; exact HMM.out
        · rw [← HKM.out]; exact HOO.out
/-- the tasks that Shares makes are right -/
theorem shV_last (ws : List Int) (hf : ∀ x ∈ ws, 0 ≤ x ∧ x ≤ 65535) : newC (shV ws) = 0 ∧ 0 < (shV ws).length ∧ (shV ws).length ≤ 12 ∧ lastOf 0 (shV ws) = (shV ws).length := by
  have hlen := shK_len ws (min ws.length 12) (by omega)
  have hok : ∀ k, k ≤ ws.length → k ≤ 12 → okFrom 0 (shK ws k) = true ∧ lastOf 0 (shK ws k) = if k = 0 then 1 else (k : Int) := by
    intro k
    induction k with
    | zero => intro _ _; exact ⟨rfl, rfl⟩
    | succ k ih =>
      intro h1 h2
      obtain ⟨i1, i2⟩ := ih (by omega) (by omega)
      have hx : ws[k]? = some ws[k] := List.getElem?_eq_getElem (by omega)
      have hb := hf ws[k] (List.getElem_mem _)
      by_cases hk : k = 0
      · subst hk
        rw [shK_zero hx]
        generalize ws[0] = x at *
        simp only [okFrom, okOne, lastOf]
        refine ⟨?_, rfl⟩
        simp
        omega
      · rw [shK_succ hx (by omega)]
        generalize ws[k] = x at *
        rw [okFrom_append, i1, i2, lastOf_snoc]
        simp only [okFrom, okOne, if_neg hk, Bool.true_and]
        refine ⟨?_, by simp⟩
        simp
        omega
  obtain ⟨h1, h2⟩ := hok (min ws.length 12) (by omega) (by omega)
  have hl : (shV ws).length = max (min ws.length 12) 1 := hlen
  refine ⟨?_, by omega, by omega, ?_⟩
  rotate_left
  · rw [show lastOf 0 (shV ws) = _ from h2]
    split <;> omega
  unfold newC
  rw [if_neg (fun e => by rw [e] at hl; simp at hl; omega), if_neg (by show ¬ okFrom 0 (shV ws) = false; rw [show okFrom 0 (shV ws) = true from h1]; decide), if_neg (by omega)]
theorem shV_ok (ws : List Int) (hf : ∀ x ∈ ws, 0 ≤ x ∧ x ≤ 65535) : newC (shV ws) = 0 ∧ 0 < (shV ws).length ∧ (shV ws).length ≤ 12 :=
  have h := shV_last ws hf
  ⟨h.1, h.2.1, h.2.2.1⟩
end Go.Proofs.Ytgieaojkbfjoiaa
