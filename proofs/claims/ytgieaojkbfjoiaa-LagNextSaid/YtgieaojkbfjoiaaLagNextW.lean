/-
  The walk of LagNext.
-/
import Derived.Test.YtgieaojkbfjoiaaLagMin
namespace Go.Proofs.Ytgieaojkbfjoiaa
open Go.RowKit Go.Maps Go.IntWalk Go.Lib Go.Sort
set_option linter.unusedVariables false
/-- the loop of LagNext -/
structure NxI (l : List (Int × Int)) (k : Nat) (L : List (Int × Int × Int)) (q : Int) : Prop where
  pw : L.map pw = l
  close : Close L (leastW l) q
  q0 : 0 ≤ q
  q1 : q ≤ 4096
  sum : 0 ≤ sumR L ∧ sumR L ≤ 4096 * k
theorem pw_mem {l : List (Int × Int)} {L : List (Int × Int × Int)} (h : L.map pw = l) : ∀ x ∈ L, (x.1, x.2.1) ∈ l := fun x hx => by rw [← h]; exact List.mem_map.2 ⟨x, hx, rfl⟩
theorem sumW_pw {l : List (Int × Int)} {L : List (Int × Int × Int)} (h : L.map pw = l) : sumW L = sumW (ran0 l) := by
  subst h
  induction L with
  | nil => rfl
  | cons x r ih => simp only [sumW, List.map_cons, ran0] at ih ⊢; rw [ih]; rfl
theorem nx_start {l : List (Int × Int)} (h : newC l = 0) : NxI l 0 (ran0 l) 0 := by
  refine ⟨ran0_pw l, fun x hx y hy => ?_, Int.le_refl _, by decide, by rw [ran0_R]; omega⟩
  simp only [ran0, List.mem_map] at hx hy
  obtain ⟨a, _, rfl⟩ := hx
  obtain ⟨b, _, rfl⟩ := hy
  simp
theorem nx_step {l : List (Int × Int)} (hn : newC l = 0) (h12 : l.length ≤ 12) {k : Nat} (hk : k < 200) {L : List (Int × Int × Int)} {q : Int} (hg : Good L) (h : NxI l k L q) {x0 : Int × Int × Int} (hx : L[0]? = some x0) {d : Int} (hd : 0 ≤ d) (hd1 : d ≤ 4096) :
    runC L (minV L x0 L.length).1 d = 0 ∧ NxI l (k + 1) (runL L (minV L x0 L.length).1 d) (max q d) ∧ Near (runL L (minV L x0 L.length).1 d) (leastW l) (max q d) ∧ (Lit.int .i64 (minV L x0 L.length).1).wf = true := by
  obtain ⟨hne, hok, _⟩ := newC_zero hn
  obtain ⟨hm, hmin⟩ := minV_spec hg.fine hx L.length hg.pos (Nat.le_refl _)
  rw [List.take_length] at hmin
  generalize minV L x0 L.length = m at *
  obtain ⟨h1, h2, h3, h4, h5⟩ := h
  have hi : ∃ y ∈ L, y.1 = m.1 := ⟨m, hm, rfl⟩
  have hc : runC L m.1 d = 0 := runC_zero hd (by omega) hi (by omega)
  obtain ⟨hl1, xm, hxm, hle⟩ := leastW_spec hne
  have hbm := okFrom_mem hok xm hxm
  have hw := sumW_take_le hok
  have hcl : Close (bump L m.1 d) (leastW l) (max q d) := close_run hg.fine hg.ids (close_mono hg.fine h2 (by omega)) hd (by omega) (by omega) (fun x hx => hl1 _ (pw_mem h1 x hx)) hm hmin
  have hsum : sumR (bump L m.1 d) = sumR L + d := bump_R _ _ _ hg.ids hi
  have e : runL L m.1 d = bump L m.1 d := if_pos hc
  have hgb : Good (bump L m.1 d) := hg.bump hi hd (by omega)
  rw [e]
  refine ⟨hc, ⟨by rw [bump_pw]; exact h1, hcl, by omega, by omega, by omega⟩, close_near hgb hcl (by omega) (by omega) (by omega) (by rw [bump_W, sumW_pw h1]; omega), ?_⟩
  have := okFrom_mem hok _ (pw_mem h1 m hm)
  simp only at this
  exact WalkArith.wf_i64 (by omega)
set_option maxRecDepth 100000 in
set_option maxHeartbeats 2000000 in
theorem LagNext_true (s0 : Option Addr) (l0 c0 : Nat) (F0 : Nat → Nat → Value) (s1 : Option Addr) (l1 c1 : Nat) (F1 : Nat → Nat → Value) (w : World) (r0 : PlainRow [some .u16] w s0 l0 c0 F0) (r1 : PlainRow [some .u16] w s1 l1 c1 F1) :
    Calls Try.prog 5 #[.slice s0 l0 c0, .slice s1 l1 c1] w fun e w' => e = .returned (.bool true) ∧ Below w.heap.size w w' := by
  obtain ⟨ws, hws⟩ := words_of r0
  obtain ⟨rs, hrs⟩ := words_of r1
  obtain ⟨hsn, hsp, hs12⟩ := shV_ok ws hws.fit
  have A1 := Lib.hid (Shares_any s0 l0 c0 ws w hws)
  have hmax := hrs.max
  have hle := hrs.le
  obtain ⟨m, hm⟩ : ∃ m : Nat, m = min l1 200 := ⟨_, rfl⟩
  have e0 : min (l1 : Int) 200 = (m : Int) := by omega
  have e9 : min (0 : Int) 200 = 0 := by decide
  have hmn : m ≤ l1 := by omega
  have hm200 : m ≤ 200 := by omega
  have HMM := Lib.hid hm
  have HR := Lib.hid hrs
  have HSN := Lib.hid hsn
  clear r0 r1 hws hrs hsn hm
  go_enter Try.func5, Try.ntmps5
  go_wp2_with fail
  refine A1.out.mono ?_
  rintro e w1 ⟨b, cap, rfl, ho, hb1⟩
  obtain ⟨_, _, he, h⟩ := own_pairs ho
  have hpa : PairsAt w1 b 0 (shV ws) := by
    rcases h with h | ⟨_, _, e, h⟩
    · rw [h] at hsp; simp at hsp
    · cases he; cases e; exact h
  have HP := Lib.hid hpa
  have A2 := Lib.hid (made_any b 0 cap (shV ws) none 0 0 [] w1 HSN.out hpa ⟨⟨rfl, fun h => absurd h (by omega)⟩, Nat.le_refl _, by omega, fun _ => rfl, fun x hx => by cases hx⟩)
  clear ho he h hpa A1
  go_wp2_with fail
  refine A2.out.mono ?_
  rintro e w2 ⟨p, g, bm, capm, rfl, hM, hok, hp1, hg1, hm1, hb2⟩
  have hM0 : MeterAt w2 p g bm capm (ran0 (shV ws)) (shV ws).length := hM
  have HN0 := Lib.hid (nx_start HSN.out)
  have HM := Lib.hid hM0
  have hbw2 := Below.step hb1 hb2
  have hb1s := hb1.size
  have HPG := Lib.hid (show ∀ k ∈ [p, g], w.heap.size ≤ k from fun k hk => by simp only [List.mem_cons, List.not_mem_nil, or_false] at hk; omega)
  have HP2 := Lib.hid (HP.out.later hb2)
  have hbb : b ≠ p ∧ b ≠ g := by
    have := HP.out 0 (shV ws)[0] (List.getElem?_eq_getElem hsp)
    have := lt_of_cell this.1
    omega
  clear hM hM0 hok A2
  generalize shV ws = l at *
  rcases s1 with _ | ad
  · have hc0 := HR.out.none rfl
    subst hc0
    have hn0 : l1 = 0 := by omega
    subst hn0
    clear e0
    go_wp2_with fail
    refine wp_loop_rounds 1 ?_
    rw [rounds_succ]
    go_wp2_with fail
    refine (awake_true w2).mono ?_
    rintro e w3 ⟨rfl, hb3⟩
    go_wp2_with fail
    go_ret
    exact ⟨rfl, Below.step hbw2 hb3⟩
  · clear e9
    go_wp2_with fail
    go_loopw [7, 23] (fun s i wr => ∃ (k : Nat) (L : List (Int × Int × Int)) (q : Int), k ≤ m ∧ i = .int .i64 k ∧ s = .int .i64 q ∧ MeterAt wr p g bm capm L l.length ∧ NxI l k L q ∧ PairsAt wr b 0 l ∧ Below w.heap.size w wr) (fun _ i _ => m - (intOf i).toNat)
    case atStart => exact ⟨0, _, 0, Nat.zero_le _, rfl, rfl, HM.out, HN0.out, HP2.out, hbw2⟩
    case round =>
      obtain ⟨k, L, q, hk, rfl, rfl, hM, hN, hP, hb⟩ := hrel
      by_cases hlt : k < m
      · obtain ⟨br, offr, hadr, hcr⟩ := HR.out.row.2 (by omega)
        obtain rfl := Option.some.inj hadr
        obtain ⟨x, hx⟩ : ∃ x, rs[k]? = some x := ⟨_, List.getElem?_eq_getElem (by rw [HR.out.row.1]; omega)⟩
        have q0 := cell_later hb (hcr k x hx)
        have hfx := HR.out.fit x (List.mem_of_getElem? hx)
        have hk0 : (0 : Int) ≤ (k : Int) := by omega
        have hkm : (k : Int) < (m : Int) := by omega
        have hd0 : 0 ≤ x % 4097 := Int.emod_nonneg _ (by decide)
        have hd1 : x % 4097 ≤ 4096 := by have := Int.emod_lt_of_pos x (by decide : (0 : Int) < 4097); omega
        obtain ⟨x0, hx0⟩ : ∃ x, L[0]? = some x := ⟨_, List.getElem?_eq_getElem hM.good.pos⟩
        obtain ⟨s1, s2, s3, s4⟩ := nx_step HSN.out hs12 (by omega) hM.good hN hx0 hd0 hd1
        have HS1 := Lib.hid s1
        have HS2 := Lib.hid s2
        have HS3 := Lib.hid s3
        have HS4 := Lib.hid s4
        have HX0 := Lib.hid hx0
        have HMr := Lib.hid hM
        have HPr := Lib.hid hP
        have hq0 := hN.q0
        have hq1 := hN.q1
        clear hcr hx hadr s1 s2 s3 s4 hx0 hM hN hP
        go_wp2_with fail
        refine (Next_any p g bm capm L l.length wr HMr.out).mono ?_
        rintro e w5 ⟨hb5, y0, hy0, rfl⟩
        obtain rfl : y0 = x0 := by have := HX0.out; rw [this] at hy0; exact (Option.some.inj hy0).symm
        have HM5 := Lib.hid (HMr.out.below hb5)
        have HP5 := Lib.hid (HPr.out.later hb5)
        have hbw5 := Below.step hb hb5
        clear hy0 hb5 q0
        generalize (minV L y0 L.length).1 = id at *
        generalize hdd : x % 4097 = d at *
        clear hdd
        go_wp2_with fail
        refine (Run_any p g bm capm L l.length id d w5 HM5.out HS4.out (WalkArith.wf_i64 (by omega))).mono ?_
        rintro e w6 ⟨he, hM6, hk6⟩
        rw [HS1.out] at he
        subst he
        have hbw6 := Kept.stepB hbw5 (Nat.le_refl _) hk6 HPG.out
        have HP6 := Lib.hid (show PairsAt w6 b 0 l from fun j y hy => by
          obtain ⟨a, c⟩ := HP5.out j y hy
          exact ⟨hk6.cellAt a (by simp only [List.mem_cons, List.not_mem_nil, or_false]; omega), hk6.cellAt c (by simp only [List.mem_cons, List.not_mem_nil, or_false]; omega)⟩)
        have HM6 := Lib.hid hM6
        clear hM6 hk6
        generalize runL L id d = L6 at *
        go_wp2_with fail
        refine (near_any b 0 cap l p g bm capm L6 l.length (max q d) w6 HS2.out.pw rfl hsp hs12 HP6.out HM6.out HS3.out).mono ?_
        rintro e w7 ⟨rfl, hb7⟩
        have HM7 := Lib.hid (HM6.out.below hb7)
        have HP7 := Lib.hid (HP6.out.later hb7)
        have hbw7 := Below.step hbw6 hb7
        go_wp2_with fail
        go_roundw
        case rel => exact ⟨k + 1, L6, max q d, by omega, by go_num, rfl, HM7.out, HS2.out, HP7.out, hbw7⟩
        case measure => simp [intOf]; omega
      · obtain rfl : k = m := by omega
        clear hM hN hP
        go_wp2_with fail
        refine (awake_true wr).mono ?_
        rintro e w3 ⟨rfl, hb3⟩
        go_wp2_with fail
        go_ret
        exact ⟨rfl, Below.step hb hb3⟩
end Go.Proofs.Ytgieaojkbfjoiaa
