/-
  PickCharges.
-/
import Derived.Test.YtfgmglghlapbcaaPkCa
namespace Go.Proofs.Ytfgmglghlapbcaa
open Go.RowKit Go.Maps Go.IntWalk Go.Lib Go.Sort Go.Shelf
set_option linter.unusedVariables false
set_option linter.unusedSimpArgs false
theorem pc8 {x : Int} (h : (Lit.int .u8 x).wf = true) : 0 ≤ x ∧ x ≤ 255 := sm8 h
set_option maxRecDepth 100000 in
set_option maxHeartbeats 8000000 in
theorem PickCharges_true (s0 : Option Addr) (l0 c0 : Nat) (F0 : Nat → Nat → Value) (s1 : Option Addr) (l1 c1 : Nat) (F1 : Nat → Nat → Value) (s2 : Option Addr) (l2 c2 : Nat) (F2 : Nat → Nat → Value) (a3 a4 : Int) (w : World)
    (r0 : PlainRow [some .u8] w s0 l0 c0 F0) (r1 : PlainRow [some .u16] w s1 l1 c1 F1) (r2 : PlainRow [some .u8, some .u8, some .u8, some .u32, some .u16, some .u16, some .u32] w s2 l2 c2 F2) (g3 : (Lit.int .u8 a3).wf = true) (g4 : (Lit.int .u32 a4).wf = true) :
    Calls Try.prog 4 #[.slice s0 l0 c0, .slice s1 l1 c1, .slice s2 l2 c2, .int .u8 a3, .int .u32 a4] w fun e w' => e = .returned (.bool true) ∧ Below w.heap.size w w' := by
  obtain ⟨xs0, n0⟩ := nums_of r0
  obtain ⟨xs1, n1⟩ := nums_of r1
  obtain ⟨ien, hi, hz0, hz1, hz2⟩ := info_parts infoE
  obtain ⟨ibo, ji, jz0, jz1, jz2⟩ := info_parts infoB
  have A1 := Lib.hid (Groups_at s0 s1 l0 l1 c0 c1 xs0 xs1 w (row_num n0) (row_num n1) (fun x hx => sm8 (fit_num n0 x hx)) (fun x hx => sm16 (fit_num n1 x hx)))
  have A2 := Lib.hid fun W bgs cgs Gs (h : RecsAt encG W (.slice (some ⟨bgs, 0, none⟩) Gs.length cgs) Gs) (hr : RightG Gs) (r : PlainRow smK W s2 l2 c2 F2) => made_at bgs cgs Gs 5 s2 l2 c2 F2 W h hr (by decide) r
  have R2 := Lib.hid (show PlainRow smK w s2 l2 c2 F2 from r2)
  have b3 := sm8 g3
  have b4 := sm32 g4
  clear r0 r1 r2 n0 n1 g3 g4
  obtain ⟨id, hid⟩ : ∃ id, id = 1 + a3 % 12 := ⟨_, rfl⟩
  have hib : 1 ≤ id ∧ id ≤ 12 := by omega
  have t1 : Int.tmod a3 12 = id - 1 := by rw [Int.tmod_eq_emod_of_nonneg b3.1]; omega
  have t2 : IntKind.i64.wrap (id - 1) = id - 1 := IntWalk.i64_in _ (by omega)
  have t3 : 1 + (id - 1) = id := by omega
  have t4 : IntKind.i64.wrap id = id := IntWalk.i64_in _ (by omega)
  have t5 : IntKind.i64.wrap a3 = a3 := IntWalk.i64_in _ (by omega)
  have t6 : IntKind.i64.wrap a4 = a4 := IntWalk.i64_in _ (by omega)
  have ht : tkOk a4 := b4
  clear hid
  have HTK := Lib.hid ht
  clear ht
  go_enter Try.func4, Try.ntmps4
  go_wp2_with fail
  refine A1.out.mono ?_; clear A1; rintro e w1 ⟨Gs, vg, rfl, hr, hl7, hog, hb1⟩
  have HRI := Lib.hid hr
  have hpos := hr.pos
  obtain ⟨bgs, cgs, rfl⟩ := own_pos hog hpos
  have HRG := Lib.hid (own_recs encG_ok hog)
  have HGE := Lib.hid (hog.lt bgs rfl)
  have HOG := Lib.hid hog
  have R2b := Lib.hid (plain_later R2.out hb1)
  have HB1 := Lib.hid hb1
  clear hog hr R2 hb1
  go_wp2_with fail
  refine (A2.out w1 bgs cgs Gs HRG.out HRI.out R2b.out).mono ?_; clear A2; rintro e w2 ⟨t, F, s, rfl, hT, hM, hF, hb2⟩
  have HT := Lib.hid hT
  have HM := Lib.hid hM
  have HF := Lib.hid hF
  have HB2 := Lib.hid (Below.step HB1.out hb2)
  have gcell : ∀ W, Below w2.heap.size w2 W → ∀ k, k < Gs.length → W.cell? ⟨bgs, k * 2, none⟩ = some (.int .i64 (Gs[k]!).1) := fun W hW k hk => by
    have hx : Gs[k]? = some Gs[k]! := by rw [List.getElem?_eq_getElem hk, getElem!_pos Gs k hk]
    exact cell_later hW (cell_later hb2 ((HOG.out.cellAt (k * 2) (by omega)).trans (flatR_at encG_ok hx 0 (by decide))))
  have GC := Lib.hid gcell
  have HSZ := Lib.hid hb2.size
  have NB := Lib.hid (show bgs ∉ F from fun m => by have := hF _ m; have := HGE.out; omega)
  clear hT hM hF gcell hb2 R2b
  obtain ⟨n, hn⟩ : ∃ n, n = Gs.length := ⟨_, rfl⟩
  rw [← hn] at hl7 hpos ⊢
  have HN := Lib.hid hn
  have HNS := Lib.hid (show s.n = n from HM.out.n.trans hn.symm)
  clear hn
  have HGO := Lib.hid (get_ok HM.out.ok)
  obtain ⟨G, hG⟩ : ∃ G, G = findG s id := ⟨_, rfl⟩
  by_cases hth : findC s id = 0
  · have A3 := pGet_at id w2 HT.out (wfI (by omega) (by omega))
    obtain ⟨g9, hT9, hG9⟩ := findC_zero hth
    obtain ⟨G0, rfl, hG0, hin9⟩ := HM.out.ok.core.task id g9 hT9
    rw [hG9] at hG
    subst hG
    have HG0 := Lib.hid (show G0 < n by rw [← HNS.out]; exact hG0)
    rw [decide_eq_true hth, hG9] at A3
    have hG := hG9
    clear hT9 hG9 hG0 hin9
    obtain ⟨⟨ev, er, ew⟩, hev⟩ : ∃ x, x = pgetX s id := ⟨_, rfl⟩
    rw [← hev] at A3
    dsimp only at A3
    replace A3 := Lib.hid A3
    have HTH := Lib.hid hth
    have HG := Lib.hid hG
    have HEV := Lib.hid hev
    clear hth hG hev
    go_wp2_with fail
    refine A3.out.mono ?_; clear A3; rintro e w3 ⟨rfl, hb3⟩
    have HB3 := Lib.hid hb3
    clear hb3
    go_wp2_with fail
    refine wp_world (fun W4 hW4 => ?_)
    have HB4 := Lib.hid (show Below w2.heap.size w2 W4 by rw [hW4]; exact Below.allocS HB3.out _)
    clear hW4
    go_loopw [17, 56] (fun v i wr => ∃ k : Nat, k ≤ n ∧ i = .int .i64 k ∧ wr.ownsRow w2.heap.size 39 3 v k (flatR encX3 ((List.range k).map (befX s))) ∧ Below w2.heap.size w2 wr) (fun _ i _ => n - (intOf i).toNat)
    case atStart => exact ⟨0, Nat.zero_le _, rfl, World.ownsRow_nil _ _ _ _, HB4.out⟩
    case round =>
      obtain ⟨k, hk, rfl, hown, hb⟩ := hrel
      have HO := Lib.hid hown
      have HB := Lib.hid hb
      clear hown
      by_cases hlt : k < n
      · have hki : (k : Int) < (n : Int) := by omega
        have z0 : decide ((k : Int) < (n : Int)) = true := decide_eq_true hki
        have A5 := pSpot_at (k : Int) wr (HT.out.below hb)
        obtain ⟨⟨pv, pr, pf⟩, hp⟩ : ∃ x, x = pSpotV s (k : Int) := ⟨_, rfl⟩
        have HP := Lib.hid (show befX s k = (pv, pr, 0) by unfold befX; rw [← hp])
        rw [← hp] at A5
        dsimp only at A5
        replace A5 := Lib.hid A5
        clear hb hp
        go_wp2_with fail
        refine A5.out.mono ?_; clear A5; rintro e w5 ⟨rfl, hb5⟩
        have y0 := cell_nw w5 #[.int .u64 pv, .int .u32 pr, .int .u64 pf] 37 0 _ rfl
        have y1 := cell_nw w5 #[.int .u64 pv, .int .u32 pr, .int .u64 pf] 37 1 _ rfl
        have y2 := cell_nw w5 #[.int .u64 pv, .int .u32 pr, .int .u64 pf] 37 2 _ rfl
        have HB6 := Lib.hid (Below.allocS (Below.step HB.out hb5) (.cells #[.int .u64 pv, .int .u32 pr, .int .u64 pf] 37))
        have HO6 := Lib.hid (World.ownsRow.alloc (own_below HO.out hb5) (.cells #[.int .u64 pv, .int .u32 pr, .int .u64 pf] 37))
        clear hb5
        go_wp2_with (at_builtin; refine wpList_append_own _ rfl _ _ 54 rfl w2.heap.size 39 ien (.agg #[.int .u64 0, .int .u32 0, .int .u32 0]) 3 16 Try.underlying54 hi hz0 hz1 hz2 rfl (by decide) _ k (flatR encX3 ((List.range k).map (befX s))) rfl (World.ownsRow.alloc HO6.out _) _ 1 1 (encX3 (pv, pr, 0)) rfl rfl ?c1 ?c2 ?c3 ?c4 ?c5 ?_)
        case c1 =>
          intro j u hj
          rw [addN]
          exact cellN (by simp) (by simpa [encX3] using hj)
        case c2 => exact encX3_ok.one _
        case c3 => unfold maxLen; omega
        case c4 => omega
        case c5 => exact (Below.allocS HB6.out _).size
        intro v' w8 hown8 hgrow8 _
        have hb8 : Below w2.heap.size w2 w8 := (Below.allocS HB6.out _).grown hgrow8 (Below.allocS HB6.out _).size (fun j e => (HO.out.lt j e).1)
        have HW8 := Lib.hid (show w8.ownsRow w2.heap.size 39 3 v' (k + 1) (flatR encX3 ((List.range (k + 1)).map (befX s))) by rw [List.range_succ, List.map_append, flatR_app]; simpa [flatR, HP.out] using hown8)
        have HB8 := Lib.hid hb8
        clear hown8 hgrow8 hb8
        go_wp2_with fail
        go_roundw
        case rel => exact ⟨k + 1, by omega, by go_num, HW8.out, HB8.out⟩
        case measure => simp [intOf]; omega
      · obtain rfl : n = k := by omega
        have z0 : decide ((n : Int) < (n : Int)) = false := decide_eq_false (by omega)
        obtain ⟨bb, cb, rfl⟩ := own_pos HO.out hpos
        have EB := Lib.hid (own_ents HO.out)
        have LB := Lib.hid (HO.out.lt bb rfl)
        clear hb HO
        go_wp2_with fail
        refine wp_world (fun W6 hW6 => ?_)
        obtain ⟨ba, hba⟩ : ∃ b, b = wr.heap.size := ⟨_, rfl⟩
        obtain ⟨en, fn⟩ := ents_new hW6 hba
        rw [← hba]
        have HBA := Lib.hid hba
        have HB6 := Lib.hid (show Below wr.heap.size wr W6 by rw [hW6]; exact below_a _ _)
        have LA := Lib.hid (show ba < W6.heap.size from lt_of_cell (en 0 (by decide)).1)
        have EN := Lib.hid en
        have FN := Lib.hid fn
        clear hW6 hba en fn
        obtain ⟨wq, hwq⟩ : ∃ x : World, x = wr := ⟨_, rfl⟩
        rw [← hwq] at HBA HB6 EB LB HB
        clear hwq
        go_loopw [74] (fun i wr => ∃ j : Nat, j ≤ 13 ∧ i = .int .i64 j ∧ EntC wr ba 13 (fun i => if i < j then pgetX s i else (0, 0, 0)) ∧ FrzC wr ba ∧ Below wq.heap.size wq wr) (fun i _ => 13 - (intOf i).toNat)
        case atStart => exact ⟨0, Nat.zero_le _, rfl, EN.out, FN.out, HB6.out⟩
        case round =>
          obtain ⟨j, hj, rfl, he, hf, hb⟩ := hrel
          have HE := Lib.hid he
          have HF := Lib.hid hf
          have HBQ := Lib.hid hb
          clear he hf hb EN FN HB6
          by_cases hjl : j < 13
          · have hji : (j : Int) < 13 := by omega
            have z1 : decide ((j : Int) < 13) = true := decide_eq_true hji
            have hj0 : (0 : Int) ≤ (j : Int) := by omega
            have A5 := pGet_at (j : Int) wr (HT.out.below (HB.out.trans (HBQ.out.mono HB.out.size))) (wfI (by omega) (by omega))
            obtain ⟨⟨pv, pr, pw⟩, hp⟩ : ∃ x, x = pgetX s (j : Int) := ⟨_, rfl⟩
            have HP := Lib.hid hp
            rw [← hp] at A5
            dsimp only at A5
            obtain ⟨gg, hgg⟩ : ∃ x, x = findG s (j : Int) := ⟨_, rfl⟩
            rw [← hgg] at A5
            replace A5 := Lib.hid A5
            clear hp hgg
            go_wp2_with fail
            refine A5.out.mono ?_; clear A5; rintro e w5 ⟨rfl, hb5⟩
            obtain ⟨q0, q1, q2⟩ := (HE.out.later hb5) j hjl
            have f0 := (HF.out.later hb5 (lt_of_cell (HE.out 0 (by decide)).1)) (j * 3)
            have f1 := (HF.out.later hb5 (lt_of_cell (HE.out 0 (by decide)).1)) (j * 3 + 1)
            have f2 := (HF.out.later hb5 (lt_of_cell (HE.out 0 (by decide)).1)) (j * 3 + 2)
            have HB5 := Lib.hid hb5
            clear hb5
            go_wp2_with fail
            go_roundw
            case rel => exact ⟨j + 1, by omega, by go_num, ((HE.out.later HB5.out).set hjl (pv, pr, pw)).congr (fun i _ => arr_next HP.out i), ((((HF.out.later HB5.out (lt_of_cell (HE.out 0 (by decide)).1)).set _ _).set _ _).set _ _), (((Below.step HBQ.out HB5.out).setCell (by rw [HBA.out]; exact Nat.le_refl _) _).setCell (by rw [HBA.out]; exact Nat.le_refl _) _).setCell (by rw [HBA.out]; exact Nat.le_refl _) _⟩
            case measure => simp [intOf]; omega
          · obtain rfl : j = 13 := by omega
            have EA := Lib.hid (HE.out.congr (Y := fun i => pgetX s (i : Int)) fun i hi => by rw [if_pos hi])
            have hbase := (HE.out.later (Below.refl _ _))
            clear hbase
            go_wp2_with (at_make; refine wpList_make_full _ rfl _ _ 56 rfl wr.heap.size 4 ibo (.bool false) 1 Try.underlying56 ji jz0 jz1 _ _ _ _ n rfl rfl rfl rfl ?c1 ?c2 (Nat.le_refl _) ?_)
            case c1 => rw [jz2]; omega
            case c2 => unfold maxLen; omega
            intro w7 hown hgrow
            have hb7 : Below wr.heap.size wr w7 := (Below.refl _ _).grown hgrow (Nat.le_refl _) (fun k hk => by cases hk)
            simp only [toList_madeCells_one] at hown
            obtain ⟨bz, hbz⟩ : ∃ b, b = wr.heap.size := ⟨_, rfl⟩
            rw [← hbz] at hown ⊢
            obtain ⟨zb, zf⟩ := bools_new hown
            have ZB := Lib.hid zb
            have ZF := Lib.hid zf
            have HBZ := Lib.hid hbz
            have HB7 := Lib.hid hb7
            have LZ := Lib.hid (lt_of_cell (zb 0 hpos))
            obtain ⟨wv, hwv⟩ : ∃ x : World, x = wr := ⟨_, rfl⟩
            rw [← hwv] at HBZ HB7 EA HBQ
            clear hown hgrow zb zf hbz hb7 HE HF hwv
            go_wp2_with fail
            go_loopw [24] (fun i wr => ∃ (gk : Nat) (pre : List Nat), i = .int .i64 gk ∧ pre ++ pathT (parG Gs) gk = pathT (parG Gs) G0 ∧ gk < n ∧ BoolC wr bz n (fun h => decide (h ∈ pre)) ∧ FrzC wr bz ∧ Below wv.heap.size wv wr) (fun i _ => (intOf i).toNat)
            case atStart => exact ⟨G0, [], rfl, rfl, HG0.out, ZB.out.congr fun j _ => by simp, ZF.out, HB7.out⟩
            case round =>
              obtain ⟨gk, pre, rfl, hpre, hgk, hB, hF, hb⟩ := hrel
              have HBB := Lib.hid hB
              have HFF := Lib.hid hF
              have HBV := Lib.hid hb
              have HPRE := Lib.hid hpre
              have hgi : (gk : Int) < (n : Int) := by omega
              have hg0 : (0 : Int) ≤ (gk : Int) := by omega
              clear hB hF hb hpre
              by_cases hz : 0 < gk
              · have z1 : decide ((gk : Int) > 0) = true := decide_eq_true (by omega)
                have z2 : decide (0 < gk) = true := decide_eq_true hz
                have z3 : decide ((gk : Int) < (n : Int)) = true := decide_eq_true hgi
                have z4 : (0 : Int) < (gk : Int) := by omega
                have q0 := HBB.out gk hgk
                have f0 := HFF.out gk
                have hbw : Below w2.heap.size w2 wr := (HB.out.trans (HBQ.out.mono HB.out.size)).trans (HBV.out.mono (Nat.le_trans HB.out.size HBQ.out.size))
                have hpar := HRI.out.par (k := gk) (by rw [← HN.out]; exact hgk)
                have hne : bgs ≠ bz := fun e => by have := HGE.out; have := HSZ.out; have := HB.out.size; have := HBQ.out.size; have := HBZ.out; omega
                have g0 := cell_set_ne (b' := bz) (o' := gk) (u := .bool true) (GC.out wr hbw gk (by rw [← HN.out]; exact hgk)) (Or.inl hne)
                rw [← hpar.1] at g0
                have HPL := Lib.hid (hpar.2.1 hz)
                clear hpar hbw hne
                go_wp2_with fail
                go_roundw
                case rel => exact ⟨parG Gs gk, pre ++ [gk], rfl, by rw [List.append_assoc, List.singleton_append, ← pathT_pos hz HPL.out]; exact HPRE.out, Nat.lt_trans HPL.out hgk, (HBB.out.set hgk true).congr (fun j _ => by by_cases q : j = gk <;> simp [q]), HFF.out.set _ _, HBV.out.setCell (by rw [HBZ.out]; exact Nat.le_refl _) _⟩
                case measure => simp [intOf]; exact HPL.out
              · obtain rfl : gk = 0 := by omega
                have z1 : decide (((0 : Nat) : Int) > 0) = false := by decide
                have BZ := Lib.hid (HBB.out.congr (C := fun h => decide (h ∈ pathT (parG Gs) G0)) fun j _ => by rw [← HPRE.out, pathT_zero, List.append_nil])
                clear HBB HFF HPRE hgi hg0
                go_wp2_with fail
                have hbw : Below w2.heap.size w2 wr := (HB.out.trans (HBQ.out.mono HB.out.size)).trans (HBV.out.mono (Nat.le_trans HB.out.size HBQ.out.size))
                have hbx : Below wq.heap.size wq wr := HBQ.out.trans (HBV.out.mono HBQ.out.size)
                have A6 := pCharge_at id a4 wr (HT.out.below hbw) (wfI (by omega) (by omega)) (wfI (by omega) (by omega))
                have hC : pchgC s id a4 = 0 := by unfold pchgC; rw [if_pos HTK.out]; exact HTH.out
                rw [hC] at A6
                obtain ⟨x1, x2, x3⟩ := chg_there HM.out.ok HTK.out HTH.out
                rw [HM.out.par, HG.out, Int.toNat_natCast] at x3
                obtain ⟨s2, hs2⟩ : ∃ s2, s2 = pchgS s id a4 := ⟨_, rfl⟩
                rw [← hs2] at A6 x1 x2 x3
                have X1 := Lib.hid (fun j => (x1 j).1)
                have X2 := Lib.hid x2
                have X3 := Lib.hid x3
                clear x1 x2 x3 hs2 hC
                replace A6 := Lib.hid A6
                have nbb : bb ∉ F := fun m => by have := HT.out.lt bb m; have := LB.out; omega
                have nba : ba ∉ F := fun m => by have := HT.out.lt ba m; have := HBA.out; have := HB.out.size; omega
                have nbz : bz ∉ F := fun m => by have := HT.out.lt bz m; have := HBZ.out; have := HB.out.size; have := HBQ.out.size; omega
                have EB1 := Lib.hid (EB.out.later hbx)
                have EA1 := Lib.hid (EA.out.later HBV.out)
                have HW2 := Lib.hid hbw
                have NBB := Lib.hid nbb
                have NBA := Lib.hid nba
                have NBZ := Lib.hid nbz
                clear hbw hbx nbb nba nbz EB EA
                refine A6.out.mono ?_; clear A6; rintro e w8 ⟨rfl, F8, hT8, s8⟩
                have EB8 := Lib.hid (EB1.out.step s8 NBB.out)
                have EA8 := Lib.hid (EA1.out.step s8 NBA.out)
                have BZ8 := Lib.hid (BZ.out.step s8 NBZ.out)
                have HT8 := Lib.hid hT8
                have HB8 := Lib.hid ((HB2.out.trans (HW2.out.mono HB2.out.size)).trans (s8.below (B := w.heap.size) (fun b hb => Nat.le_trans HB1.out.size (HF.out b hb)) (Nat.le_trans HB2.out.size HW2.out.size)).1)
                clear hT8 s8 EB1 EA1 BZ
                go_wp2_with fail
                go_loopw [127] (fun i wx => ∃ j : Nat, j ≤ 13 ∧ i = .int .i64 j ∧ Below w8.heap.size w8 wx) (fun i _ => 13 - (intOf i).toNat)
                case atStart => exact ⟨0, Nat.zero_le _, rfl, Below.refl _ _⟩
                case round =>
                  obtain ⟨j, hj, rfl, hb⟩ := hrel
                  have HBJ := Lib.hid hb
                  by_cases hjl : j < 13
                  · have hji : (j : Int) < 13 := by omega
                    have z1 : decide ((j : Int) < 13) = true := decide_eq_true hji
                    have hj0 : (0 : Int) ≤ (j : Int) := by omega
                    have A7 := pGet_at (j : Int) wr (HT8.out.below hb) (wfI (by omega) (by omega))
                    rw [X1.out, X2.out] at A7
                    obtain ⟨c0, c1, c2⟩ := (EA8.out.later hb) j hjl
                    dsimp only at c0 c1 c2
                    obtain ⟨gg, hgg⟩ : ∃ x, x = findG s2 (j : Int) := ⟨_, rfl⟩
                    rw [← hgg] at A7
                    obtain ⟨hok, hno⟩ := HGO.out (j : Int)
                    clear hgg hb
                    by_cases hf : findC s (j : Int) = 0
                    · have hx := hok hf
                      rw [decide_eq_true hf] at A7
                      by_cases hji2 : (j : Int) = id
                      · have yk : ((j : Int) == id) = true := by simpa using hji2
                        rw [if_pos hji2] at A7
                        rw [show pgetX s (j : Int) = (ev, er, ew) by rw [hji2]; exact HEV.out.symm] at A7 c0 c1 c2 hx
                        have A9 := Lib.hid fun W => Add_ok ev er ew a4 W hx b4
                        have hw : 1 ≤ ew ∧ ew ≤ 65536 := by have h9 := hx; unfold EntOk Ch.Ok at h9; simp only at h9; omega
                        rw [show chgX a4 (ev, er, ew) = (Ch.addV ev er ew a4, Ch.addR ev er ew a4, ew) from rfl] at A7
                        obtain ⟨av, hav⟩ : ∃ x, x = Ch.addV ev er ew a4 := ⟨_, rfl⟩
                        obtain ⟨ar, har⟩ : ∃ x, x = Ch.addR ev er ew a4 := ⟨_, rfl⟩
                        rw [← hav, ← har] at A7 A9
                        clear hok hno hx hf hav har hji2
                        dsimp only at A7 c0 c1 c2
                        replace A7 := Lib.hid A7
                        go_wp2_with fail
                        refine A7.out.mono ?_; clear A7; rintro e w9 ⟨rfl, hb9⟩
                        have HB9 := Lib.hid (Below.step HBJ.out hb9)
                        replace c0 := cell_al (.cells #[.int .u64 av, .int .u32 ar, .int .u32 ew] 39) (cell_later hb9 c0)
                        replace c1 := cell_al (.cells #[.int .u64 av, .int .u32 ar, .int .u32 ew] 39) (cell_later hb9 c1)
                        replace c2 := cell_al (.cells #[.int .u64 av, .int .u32 ar, .int .u32 ew] 39) (cell_later hb9 c2)
                        have y0 : ((w9.alloc (.cells #[.int .u64 av, .int .u32 ar, .int .u32 ew] 39)).alloc (.cells #[.int .u64 ev, .int .u32 er, .int .u32 ew] 39)).cell? ⟨w9.heap.size, 0, none⟩ = some (.int .u64 av) := cell_al _ (cell_nw w9 _ _ 0 _ rfl)
                        have y1 : ((w9.alloc (.cells #[.int .u64 av, .int .u32 ar, .int .u32 ew] 39)).alloc (.cells #[.int .u64 ev, .int .u32 er, .int .u32 ew] 39)).cell? ⟨w9.heap.size, 1, none⟩ = some (.int .u32 ar) := cell_al _ (cell_nw w9 _ _ 1 _ rfl)
                        have y2 : ((w9.alloc (.cells #[.int .u64 av, .int .u32 ar, .int .u32 ew] 39)).alloc (.cells #[.int .u64 ev, .int .u32 er, .int .u32 ew] 39)).cell? ⟨w9.heap.size, 2, none⟩ = some (.int .u32 ew) := cell_al _ (cell_nw w9 _ _ 2 _ rfl)
                        have v0 : ((w9.alloc (.cells #[.int .u64 av, .int .u32 ar, .int .u32 ew] 39)).alloc (.cells #[.int .u64 ev, .int .u32 er, .int .u32 ew] 39)).cell? ⟨w9.heap.size + 1, 0, none⟩ = some (.int .u64 ev) := cell_nwE (by simp) _ _ 0 _ rfl
                        have v1 : ((w9.alloc (.cells #[.int .u64 av, .int .u32 ar, .int .u32 ew] 39)).alloc (.cells #[.int .u64 ev, .int .u32 er, .int .u32 ew] 39)).cell? ⟨w9.heap.size + 1, 1, none⟩ = some (.int .u32 er) := cell_nwE (by simp) _ _ 1 _ rfl
                        have v2 : ((w9.alloc (.cells #[.int .u64 av, .int .u32 ar, .int .u32 ew] 39)).alloc (.cells #[.int .u64 ev, .int .u32 er, .int .u32 ew] 39)).cell? ⟨w9.heap.size + 1, 2, none⟩ = some (.int .u32 ew) := cell_nwE (by simp) _ _ 2 _ rfl
                        have HBW := Lib.hid (Below.allocS (Below.allocS HB9.out (.cells #[.int .u64 av, .int .u32 ar, .int .u32 ew] 39)) (.cells #[.int .u64 ev, .int .u32 er, .int .u32 ew] 39))
                        clear hb9
                        have ye := eqE_same av ar ew
                        have yw : decide (ew > 0) = true := decide_eq_true (by omega)
                        have yw2 : (0 : Int) < ew := by omega
                        go_wp2_with fail
                        have f0 : ((w9.alloc (.cells #[.int .u64 av, .int .u32 ar, .int .u32 ew] 39)).alloc (.cells #[.int .u64 ev, .int .u32 er, .int .u32 ew] 39)).frozen? ⟨w9.heap.size + 1, 0, none⟩ = false := frz_nwE (by simp) _ _ 0
                        have f1 : ((w9.alloc (.cells #[.int .u64 av, .int .u32 ar, .int .u32 ew] 39)).alloc (.cells #[.int .u64 ev, .int .u32 er, .int .u32 ew] 39)).frozen? ⟨w9.heap.size + 1, 1, none⟩ = false := frz_nwE (by simp) _ _ 1
                        have f2 : ((w9.alloc (.cells #[.int .u64 av, .int .u32 ar, .int .u32 ew] 39)).alloc (.cells #[.int .u64 ev, .int .u32 er, .int .u32 ew] 39)).frozen? ⟨w9.heap.size + 1, 2, none⟩ = false := frz_nwE (by simp) _ _ 2
                        have hl : w9.heap.size + 1 < ((w9.alloc (.cells #[.int .u64 av, .int .u32 ar, .int .u32 ew] 39)).alloc (.cells #[.int .u64 ev, .int .u32 er, .int .u32 ew] 39)).heap.size := lt_of_cell v0
                        refine (A9.out _).mono ?_; clear A9; rintro e w10 ⟨rfl, hb10⟩
                        replace f0 := frz_later hb10 f0 hl
                        replace f1 := frz_later hb10 f1 hl
                        replace f2 := frz_later hb10 f2 hl
                        replace v0 := cell_later hb10 v0
                        replace v1 := cell_later hb10 v1
                        replace v2 := cell_later hb10 v2
                        replace y0 := cell_later hb10 y0
                        replace y1 := cell_later hb10 y1
                        replace y2 := cell_later hb10 y2
                        have HBX := Lib.hid ((((Below.step HBW.out hb10).setCell (p := ⟨w9.heap.size + 1, 0, none⟩) (by have := HB9.out.size; show _ ≤ w9.heap.size + 1; omega) (.int .u64 av)).setCell (p := ⟨w9.heap.size + 1, 1, none⟩) (by have := HB9.out.size; show _ ≤ w9.heap.size + 1; omega) (.int .u32 ar)).setCell (p := ⟨w9.heap.size + 1, 2, none⟩) (by have := HB9.out.size; show _ ≤ w9.heap.size + 1; omega) (.int .u32 ew))
                        have y02 := cell_set_ne (b' := w9.heap.size + 1) (o' := 2) (u := .int .u32 ew) (cell_set_ne (b' := w9.heap.size + 1) (o' := 1) (u := .int .u32 ar) (cell_set_ne (b' := w9.heap.size + 1) (o' := 0) (u := .int .u64 av) y0 (Or.inl (by omega))) (Or.inl (by omega))) (Or.inl (by omega))
                        have y12 := cell_set_ne (b' := w9.heap.size + 1) (o' := 2) (u := .int .u32 ew) (cell_set_ne (b' := w9.heap.size + 1) (o' := 1) (u := .int .u32 ar) (cell_set_ne (b' := w9.heap.size + 1) (o' := 0) (u := .int .u64 av) y1 (Or.inl (by omega))) (Or.inl (by omega))) (Or.inl (by omega))
                        have y22 := cell_set_ne (b' := w9.heap.size + 1) (o' := 2) (u := .int .u32 ew) (cell_set_ne (b' := w9.heap.size + 1) (o' := 1) (u := .int .u32 ar) (cell_set_ne (b' := w9.heap.size + 1) (o' := 0) (u := .int .u64 av) y2 (Or.inl (by omega))) (Or.inl (by omega))) (Or.inl (by omega))
                        have v02 := (cell_set_ne (b' := w9.heap.size + 1) (o' := 2) (u := .int .u32 ew) (cell_set_ne (b' := w9.heap.size + 1) (o' := 1) (u := .int .u32 ar) (cell_set_eq (u := .int .u64 av) v0) (Or.inr (by decide))) (Or.inr (by decide)))
                        have v12 := (cell_set_ne (b' := w9.heap.size + 1) (o' := 2) (u := .int .u32 ew) (cell_set_eq (u := .int .u32 ar) (cell_set_ne (b' := w9.heap.size + 1) (o' := 0) (u := .int .u64 av) v1 (Or.inr (by decide)))) (Or.inr (by decide)))
                        have v22 := (cell_set_eq (u := .int .u32 ew) (cell_set_ne (b' := w9.heap.size + 1) (o' := 1) (u := .int .u32 ar) (cell_set_ne (b' := w9.heap.size + 1) (o' := 0) (u := .int .u64 av) v2 (Or.inr (by decide))) (Or.inr (by decide))))
                        clear hb10
                        go_wp2_with fail
                        go_roundw
                        case rel => exact ⟨j + 1, by omega, by go_num, HBX.out⟩
                        case measure => simp [intOf]; omega
                      · have yk : ((j : Int) == id) = false := by simpa using hji2
                        rw [if_neg hji2] at A7
                        obtain ⟨⟨pv, pr, pw⟩, hp⟩ : ∃ x, x = pgetX s (j : Int) := ⟨_, rfl⟩
                        rw [← hp] at A7 c0 c1 c2 hx
                        have hw : 1 ≤ pw ∧ pw ≤ 65536 := by have h9 := hx; unfold EntOk Ch.Ok at h9; simp only at h9; omega
                        clear hok hno hx hf hp hji2
                        dsimp only at A7 c0 c1 c2
                        replace A7 := Lib.hid A7
                        go_wp2_with fail
                        refine A7.out.mono ?_; clear A7; rintro e w9 ⟨rfl, hb9⟩
                        have HB9 := Lib.hid (Below.step HBJ.out hb9)
                        replace c0 := cell_al (.cells #[.int .u64 pv, .int .u32 pr, .int .u32 pw] 39) (cell_later hb9 c0)
                        replace c1 := cell_al (.cells #[.int .u64 pv, .int .u32 pr, .int .u32 pw] 39) (cell_later hb9 c1)
                        replace c2 := cell_al (.cells #[.int .u64 pv, .int .u32 pr, .int .u32 pw] 39) (cell_later hb9 c2)
                        have y0 : ((w9.alloc (.cells #[.int .u64 pv, .int .u32 pr, .int .u32 pw] 39)).alloc (.cells #[.int .u64 pv, .int .u32 pr, .int .u32 pw] 39)).cell? ⟨w9.heap.size, 0, none⟩ = some (.int .u64 pv) := cell_al _ (cell_nw w9 _ _ 0 _ rfl)
                        have y1 : ((w9.alloc (.cells #[.int .u64 pv, .int .u32 pr, .int .u32 pw] 39)).alloc (.cells #[.int .u64 pv, .int .u32 pr, .int .u32 pw] 39)).cell? ⟨w9.heap.size, 1, none⟩ = some (.int .u32 pr) := cell_al _ (cell_nw w9 _ _ 1 _ rfl)
                        have y2 : ((w9.alloc (.cells #[.int .u64 pv, .int .u32 pr, .int .u32 pw] 39)).alloc (.cells #[.int .u64 pv, .int .u32 pr, .int .u32 pw] 39)).cell? ⟨w9.heap.size, 2, none⟩ = some (.int .u32 pw) := cell_al _ (cell_nw w9 _ _ 2 _ rfl)
                        have v0 : ((w9.alloc (.cells #[.int .u64 pv, .int .u32 pr, .int .u32 pw] 39)).alloc (.cells #[.int .u64 pv, .int .u32 pr, .int .u32 pw] 39)).cell? ⟨w9.heap.size + 1, 0, none⟩ = some (.int .u64 pv) := cell_nwE (by simp) _ _ 0 _ rfl
                        have v1 : ((w9.alloc (.cells #[.int .u64 pv, .int .u32 pr, .int .u32 pw] 39)).alloc (.cells #[.int .u64 pv, .int .u32 pr, .int .u32 pw] 39)).cell? ⟨w9.heap.size + 1, 1, none⟩ = some (.int .u32 pr) := cell_nwE (by simp) _ _ 1 _ rfl
                        have v2 : ((w9.alloc (.cells #[.int .u64 pv, .int .u32 pr, .int .u32 pw] 39)).alloc (.cells #[.int .u64 pv, .int .u32 pr, .int .u32 pw] 39)).cell? ⟨w9.heap.size + 1, 2, none⟩ = some (.int .u32 pw) := cell_nwE (by simp) _ _ 2 _ rfl
                        have HBW := Lib.hid (Below.allocS (Below.allocS HB9.out (.cells #[.int .u64 pv, .int .u32 pr, .int .u32 pw] 39)) (.cells #[.int .u64 pv, .int .u32 pr, .int .u32 pw] 39))
                        clear hb9
                        have ye := eqE_same pv pr pw
                        have yw : decide (pw > 0) = true := decide_eq_true (by omega)
                        have yw2 : (0 : Int) < pw := by omega
                        go_wp2_with fail
                        go_roundw
                        case rel => exact ⟨j + 1, by omega, by go_num, HBW.out⟩
                        case measure => simp [intOf]; omega
                    · have hx := hno hf
                      rw [decide_eq_false hf] at A7
                      have hji2 : (j : Int) ≠ id := fun e => hf (by rw [e]; exact HTH.out)
                      have yk : ((j : Int) == id) = false := by simpa using hji2
                      rw [if_neg hji2] at A7
                      rw [hx] at A7 c0 c1 c2
                      clear hok hno hx hf hji2
                      dsimp only at A7 c0 c1 c2
                      replace A7 := Lib.hid A7
                      go_wp2_with fail
                      refine A7.out.mono ?_; clear A7; rintro e w9 ⟨rfl, hb9⟩
                      have HB9 := Lib.hid (Below.step HBJ.out hb9)
                      replace c0 := cell_al (.cells #[.int .u64 0, .int .u32 0, .int .u32 0] 39) (cell_later hb9 c0)
                      replace c1 := cell_al (.cells #[.int .u64 0, .int .u32 0, .int .u32 0] 39) (cell_later hb9 c1)
                      replace c2 := cell_al (.cells #[.int .u64 0, .int .u32 0, .int .u32 0] 39) (cell_later hb9 c2)
                      have y0 : ((w9.alloc (.cells #[.int .u64 0, .int .u32 0, .int .u32 0] 39)).alloc (.cells #[.int .u64 0, .int .u32 0, .int .u32 0] 39)).cell? ⟨w9.heap.size, 0, none⟩ = some (.int .u64 0) := cell_al _ (cell_nw w9 _ _ 0 _ rfl)
                      have y1 : ((w9.alloc (.cells #[.int .u64 0, .int .u32 0, .int .u32 0] 39)).alloc (.cells #[.int .u64 0, .int .u32 0, .int .u32 0] 39)).cell? ⟨w9.heap.size, 1, none⟩ = some (.int .u32 0) := cell_al _ (cell_nw w9 _ _ 1 _ rfl)
                      have y2 : ((w9.alloc (.cells #[.int .u64 0, .int .u32 0, .int .u32 0] 39)).alloc (.cells #[.int .u64 0, .int .u32 0, .int .u32 0] 39)).cell? ⟨w9.heap.size, 2, none⟩ = some (.int .u32 0) := cell_al _ (cell_nw w9 _ _ 2 _ rfl)
                      have v0 : ((w9.alloc (.cells #[.int .u64 0, .int .u32 0, .int .u32 0] 39)).alloc (.cells #[.int .u64 0, .int .u32 0, .int .u32 0] 39)).cell? ⟨w9.heap.size + 1, 0, none⟩ = some (.int .u64 0) := cell_nwE (by simp) _ _ 0 _ rfl
                      have v1 : ((w9.alloc (.cells #[.int .u64 0, .int .u32 0, .int .u32 0] 39)).alloc (.cells #[.int .u64 0, .int .u32 0, .int .u32 0] 39)).cell? ⟨w9.heap.size + 1, 1, none⟩ = some (.int .u32 0) := cell_nwE (by simp) _ _ 1 _ rfl
                      have v2 : ((w9.alloc (.cells #[.int .u64 0, .int .u32 0, .int .u32 0] 39)).alloc (.cells #[.int .u64 0, .int .u32 0, .int .u32 0] 39)).cell? ⟨w9.heap.size + 1, 2, none⟩ = some (.int .u32 0) := cell_nwE (by simp) _ _ 2 _ rfl
                      have HBW := Lib.hid (Below.allocS (Below.allocS HB9.out (.cells #[.int .u64 0, .int .u32 0, .int .u32 0] 39)) (.cells #[.int .u64 0, .int .u32 0, .int .u32 0] 39))
                      clear hb9
                      have ye := eqE_same 0 0 0
                      have yw : decide (0 > 0) = false := by decide
                      go_wp2_with fail
                      go_roundw
                      case rel => exact ⟨j + 1, by omega, by go_num, HBW.out⟩
                      case measure => simp [intOf]; omega
                  · have HJ13 := Lib.hid (show j = 13 by omega)
                    have z1 : decide ((j : Int) < 13) = false := decide_eq_false (by omega)
                    have z2 : ¬ (j : Int) < 13 := by omega
                    clear hj hjl
                    have HBL := Lib.hid hb
                    clear hb HBJ
                    go_wp2_with fail
                    go_loopw [166] (fun i wx => ∃ g : Nat, g ≤ n ∧ i = .int .i64 g ∧ Below w8.heap.size w8 wx) (fun i _ => n - (intOf i).toNat)
                    case atStart => exact ⟨0, Nat.zero_le _, rfl, HBL.out⟩
                    case round =>
                      clear HBL
                      obtain ⟨g, hg, rfl, hb⟩ := hrel
                      have HBG := Lib.hid hb
                      by_cases hgl : g < n
                      · have hgi : (g : Int) < (n : Int) := by omega
                        have z1 : decide ((g : Int) < (n : Int)) = true := decide_eq_true hgi
                        have hg0 : (0 : Int) ≤ (g : Int) := by omega
                        have A10 := pSpot_at (g : Int) wr (HT8.out.below hb)
                        obtain ⟨x0, x1, x2⟩ := X3.out g (by rw [HNS.out]; exact hgl)
                        rw [x0] at A10
                        obtain ⟨c0, c1, c2⟩ := (EB8.out.later hb) g hgl
                        have q0 := (BZ8.out.later hb) g hgl
                        dsimp only [befX] at c0 c1 c2 q0
                        clear x0 hb
                        obtain ⟨⟨bv, br, bf⟩, hbf⟩ : ∃ x, x = pSpotV s (g : Int) := ⟨_, rfl⟩
                        obtain ⟨⟨pv, pr, pf⟩, hp⟩ : ∃ x, x = pSpotV s2 (g : Int) := ⟨_, rfl⟩
                        rw [← hbf, ← hp] at x1 x2
                        rw [← hbf] at c0 c1
                        rw [← hp] at A10
                        dsimp only at x1 x2
                        dsimp only at c0 c1 A10
                        replace A10 := Lib.hid A10
                        by_cases hm : g ∈ pathT (parG Gs) G0
                        · have z2 : decide (pv < bv) = false := decide_eq_false (by omega)
                          rw [decide_eq_true hm] at q0
                          clear hm x1 hbf hp
                          by_cases ha : a4 > 0
                          · have z3 : decide (a4 > 0) = true := decide_eq_true ha
                            have ha2 : (0 : Int) < a4 := ha
                            by_cases h1 : pv = bv
                            · subst h1
                              by_cases h2 : pr = br
                              · subst h2
                                go_wp2_with fail
                                refine A10.out.mono ?_; clear A10; rintro e w9 ⟨rfl, hb9⟩
                                have hb10 := Below.allocS hb9 (.cells #[.int .u64 pv, .int .u32 pr, .int .u64 pf] 37)
                                replace c0 := cell_later hb10 c0
                                replace c1 := cell_later hb10 c1
                                replace q0 := cell_later hb10 q0
                                have y0 : (w9.alloc (.cells #[.int .u64 pv, .int .u32 pr, .int .u64 pf] 37)).cell? ⟨w9.heap.size, 0, none⟩ = some (.int .u64 pv) := cell_nw w9 _ _ 0 _ rfl
                                have y1 : (w9.alloc (.cells #[.int .u64 pv, .int .u32 pr, .int .u64 pf] 37)).cell? ⟨w9.heap.size, 1, none⟩ = some (.int .u32 pr) := cell_nw w9 _ _ 1 _ rfl
                                have HB10 := Lib.hid (Below.step HBG.out hb10)
                                clear hb9 hb10 c2
                                go_wp2_with fail
                                go_quiet (fail)
                                go_wp2_with fail
                                go_quiet (fail)
                                go_wp2_with fail
                                go_roundw
                                case rel => exact ⟨g + 1, by omega, by go_num, below_drewN HB10.out _⟩
                                case measure => simp [intOf]; omega
                              · have e2 : (pr == br) = false := by simpa using h2
                                go_wp2_with fail
                                refine A10.out.mono ?_; clear A10; rintro e w9 ⟨rfl, hb9⟩
                                have hb10 := Below.allocS hb9 (.cells #[.int .u64 pv, .int .u32 pr, .int .u64 pf] 37)
                                replace c0 := cell_later hb10 c0
                                replace c1 := cell_later hb10 c1
                                replace q0 := cell_later hb10 q0
                                have y0 : (w9.alloc (.cells #[.int .u64 pv, .int .u32 pr, .int .u64 pf] 37)).cell? ⟨w9.heap.size, 0, none⟩ = some (.int .u64 pv) := cell_nw w9 _ _ 0 _ rfl
                                have y1 : (w9.alloc (.cells #[.int .u64 pv, .int .u32 pr, .int .u64 pf] 37)).cell? ⟨w9.heap.size, 1, none⟩ = some (.int .u32 pr) := cell_nw w9 _ _ 1 _ rfl
                                have HB10 := Lib.hid (Below.step HBG.out hb10)
                                clear hb9 hb10 c2
                                go_wp2_with fail
                                go_quiet (fail)
                                go_wp2_with fail
                                go_quiet (fail)
                                go_wp2_with fail
                                go_roundw
                                case rel => exact ⟨g + 1, by omega, by go_num, below_drewN HB10.out _⟩
                                case measure => simp [intOf]; omega
                            · have e1 : (pv == bv) = false := by simpa using h1
                              go_wp2_with fail
                              refine A10.out.mono ?_; clear A10; rintro e w9 ⟨rfl, hb9⟩
                              have hb10 := Below.allocS hb9 (.cells #[.int .u64 pv, .int .u32 pr, .int .u64 pf] 37)
                              replace c0 := cell_later hb10 c0
                              replace c1 := cell_later hb10 c1
                              replace q0 := cell_later hb10 q0
                              have y0 : (w9.alloc (.cells #[.int .u64 pv, .int .u32 pr, .int .u64 pf] 37)).cell? ⟨w9.heap.size, 0, none⟩ = some (.int .u64 pv) := cell_nw w9 _ _ 0 _ rfl
                              have y1 : (w9.alloc (.cells #[.int .u64 pv, .int .u32 pr, .int .u64 pf] 37)).cell? ⟨w9.heap.size, 1, none⟩ = some (.int .u32 pr) := cell_nw w9 _ _ 1 _ rfl
                              have HB10 := Lib.hid (Below.step HBG.out hb10)
                              clear hb9 hb10 c2
                              go_wp2_with fail
                              go_quiet (fail)
                              go_wp2_with fail
                              go_quiet (fail)
                              go_wp2_with fail
                              go_roundw
                              case rel => exact ⟨g + 1, by omega, by go_num, below_drewN HB10.out _⟩
                              case measure => simp [intOf]; omega
                          · have z3 : decide (a4 > 0) = false := decide_eq_false ha
                            have ha2 : ¬ (0 : Int) < a4 := ha
                            by_cases h1 : pv = bv
                            · subst h1
                              by_cases h2 : pr = br
                              · subst h2
                                go_wp2_with fail
                                refine A10.out.mono ?_; clear A10; rintro e w9 ⟨rfl, hb9⟩
                                have hb10 := Below.allocS hb9 (.cells #[.int .u64 pv, .int .u32 pr, .int .u64 pf] 37)
                                replace c0 := cell_later hb10 c0
                                replace c1 := cell_later hb10 c1
                                replace q0 := cell_later hb10 q0
                                have y0 : (w9.alloc (.cells #[.int .u64 pv, .int .u32 pr, .int .u64 pf] 37)).cell? ⟨w9.heap.size, 0, none⟩ = some (.int .u64 pv) := cell_nw w9 _ _ 0 _ rfl
                                have y1 : (w9.alloc (.cells #[.int .u64 pv, .int .u32 pr, .int .u64 pf] 37)).cell? ⟨w9.heap.size, 1, none⟩ = some (.int .u32 pr) := cell_nw w9 _ _ 1 _ rfl
                                have HB10 := Lib.hid (Below.step HBG.out hb10)
                                clear hb9 hb10 c2
                                go_wp2_with fail
                                go_quiet (fail)
                                go_wp2_with fail
                                go_quiet (fail)
                                go_wp2_with fail
                                go_roundw
                                case rel => exact ⟨g + 1, by omega, by go_num, below_drewN HB10.out _⟩
                                case measure => simp [intOf]; omega
                              · have e2 : (pr == br) = false := by simpa using h2
                                go_wp2_with fail
                                refine A10.out.mono ?_; clear A10; rintro e w9 ⟨rfl, hb9⟩
                                have hb10 := Below.allocS hb9 (.cells #[.int .u64 pv, .int .u32 pr, .int .u64 pf] 37)
                                replace c0 := cell_later hb10 c0
                                replace c1 := cell_later hb10 c1
                                replace q0 := cell_later hb10 q0
                                have y0 : (w9.alloc (.cells #[.int .u64 pv, .int .u32 pr, .int .u64 pf] 37)).cell? ⟨w9.heap.size, 0, none⟩ = some (.int .u64 pv) := cell_nw w9 _ _ 0 _ rfl
                                have y1 : (w9.alloc (.cells #[.int .u64 pv, .int .u32 pr, .int .u64 pf] 37)).cell? ⟨w9.heap.size, 1, none⟩ = some (.int .u32 pr) := cell_nw w9 _ _ 1 _ rfl
                                have HB10 := Lib.hid (Below.step HBG.out hb10)
                                clear hb9 hb10 c2
                                go_wp2_with fail
                                go_quiet (fail)
                                go_wp2_with fail
                                go_quiet (fail)
                                go_wp2_with fail
                                go_roundw
                                case rel => exact ⟨g + 1, by omega, by go_num, below_drewN HB10.out _⟩
                                case measure => simp [intOf]; omega
                            · have e1 : (pv == bv) = false := by simpa using h1
                              go_wp2_with fail
                              refine A10.out.mono ?_; clear A10; rintro e w9 ⟨rfl, hb9⟩
                              have hb10 := Below.allocS hb9 (.cells #[.int .u64 pv, .int .u32 pr, .int .u64 pf] 37)
                              replace c0 := cell_later hb10 c0
                              replace c1 := cell_later hb10 c1
                              replace q0 := cell_later hb10 q0
                              have y0 : (w9.alloc (.cells #[.int .u64 pv, .int .u32 pr, .int .u64 pf] 37)).cell? ⟨w9.heap.size, 0, none⟩ = some (.int .u64 pv) := cell_nw w9 _ _ 0 _ rfl
                              have y1 : (w9.alloc (.cells #[.int .u64 pv, .int .u32 pr, .int .u64 pf] 37)).cell? ⟨w9.heap.size, 1, none⟩ = some (.int .u32 pr) := cell_nw w9 _ _ 1 _ rfl
                              have HB10 := Lib.hid (Below.step HBG.out hb10)
                              clear hb9 hb10 c2
                              go_wp2_with fail
                              go_quiet (fail)
                              go_wp2_with fail
                              go_quiet (fail)
                              go_wp2_with fail
                              go_roundw
                              case rel => exact ⟨g + 1, by omega, by go_num, below_drewN HB10.out _⟩
                              case measure => simp [intOf]; omega
                        · obtain ⟨rfl, rfl⟩ := x1 hm
                          rw [decide_eq_false hm] at q0
                          clear hm x1 x2 hbf hp
                          go_wp2_with fail
                          refine A10.out.mono ?_; clear A10; rintro e w9 ⟨rfl, hb9⟩
                          have hb10 := Below.allocS hb9 (.cells #[.int .u64 pv, .int .u32 pr, .int .u64 pf] 37)
                          replace c0 := cell_later hb10 c0
                          replace c1 := cell_later hb10 c1
                          replace q0 := cell_later hb10 q0
                          have y0 : (w9.alloc (.cells #[.int .u64 pv, .int .u32 pr, .int .u64 pf] 37)).cell? ⟨w9.heap.size, 0, none⟩ = some (.int .u64 pv) := cell_nw w9 _ _ 0 _ rfl
                          have y1 : (w9.alloc (.cells #[.int .u64 pv, .int .u32 pr, .int .u64 pf] 37)).cell? ⟨w9.heap.size, 1, none⟩ = some (.int .u32 pr) := cell_nw w9 _ _ 1 _ rfl
                          have HB10 := Lib.hid (Below.step HBG.out hb10)
                          clear hb9 hb10 c2
                          go_wp2_with fail
                          go_quiet (fail)
                          go_wp2_with fail
                          go_quiet (fail)
                          go_wp2_with fail
                          go_roundw
                          case rel => exact ⟨g + 1, by omega, by go_num, below_drewN HB10.out _⟩
                          case measure => simp [intOf]; omega
                      · obtain rfl : g = n := by omega
                        have A11 := Lib.hid awake_at
                        clear hb
                        go_wp2_with fail
                        refine (A11.out _).mono ?_; rintro e w12 ⟨rfl, hb12⟩
                        go_wp2_with fail
                        go_ret
                        exact ⟨rfl, Below.step (Below.step HB8.out HBG.out) hb12⟩
  · have A3 := pGet_at id w2 HT.out (wfI (by omega) (by omega))
    rw [decide_eq_false hth, (find_no hth (by omega)).2] at A3
    obtain ⟨⟨ev, er, ew⟩, hev⟩ : ∃ x, x = pgetX s id := ⟨_, rfl⟩
    rw [← hev] at A3
    dsimp only at A3
    replace A3 := Lib.hid A3
    have HTH := Lib.hid hth
    have HG := Lib.hid hG
    have HEV := Lib.hid hev
    clear hth hG hev
    go_wp2_with fail
    refine A3.out.mono ?_; clear A3; rintro e w3 ⟨rfl, hb3⟩
    have HB3 := Lib.hid hb3
    clear hb3
    go_wp2_with fail
    refine wp_world (fun W4 hW4 => ?_)
    have HB4 := Lib.hid (show Below w2.heap.size w2 W4 by rw [hW4]; exact Below.allocS HB3.out _)
    clear hW4
    go_loopw [17, 56] (fun v i wr => ∃ k : Nat, k ≤ n ∧ i = .int .i64 k ∧ wr.ownsRow w2.heap.size 39 3 v k (flatR encX3 ((List.range k).map (befX s))) ∧ Below w2.heap.size w2 wr) (fun _ i _ => n - (intOf i).toNat)
    case atStart => exact ⟨0, Nat.zero_le _, rfl, World.ownsRow_nil _ _ _ _, HB4.out⟩
    case round =>
      obtain ⟨k, hk, rfl, hown, hb⟩ := hrel
      have HO := Lib.hid hown
      have HB := Lib.hid hb
      clear hown
      by_cases hlt : k < n
      · have hki : (k : Int) < (n : Int) := by omega
        have z0 : decide ((k : Int) < (n : Int)) = true := decide_eq_true hki
        have A5 := pSpot_at (k : Int) wr (HT.out.below hb)
        obtain ⟨⟨pv, pr, pf⟩, hp⟩ : ∃ x, x = pSpotV s (k : Int) := ⟨_, rfl⟩
        have HP := Lib.hid (show befX s k = (pv, pr, 0) by unfold befX; rw [← hp])
        rw [← hp] at A5
        dsimp only at A5
        replace A5 := Lib.hid A5
        clear hb hp
        go_wp2_with fail
        refine A5.out.mono ?_; clear A5; rintro e w5 ⟨rfl, hb5⟩
        have y0 := cell_nw w5 #[.int .u64 pv, .int .u32 pr, .int .u64 pf] 37 0 _ rfl
        have y1 := cell_nw w5 #[.int .u64 pv, .int .u32 pr, .int .u64 pf] 37 1 _ rfl
        have y2 := cell_nw w5 #[.int .u64 pv, .int .u32 pr, .int .u64 pf] 37 2 _ rfl
        have HB6 := Lib.hid (Below.allocS (Below.step HB.out hb5) (.cells #[.int .u64 pv, .int .u32 pr, .int .u64 pf] 37))
        have HO6 := Lib.hid (World.ownsRow.alloc (own_below HO.out hb5) (.cells #[.int .u64 pv, .int .u32 pr, .int .u64 pf] 37))
        clear hb5
        go_wp2_with (at_builtin; refine wpList_append_own _ rfl _ _ 54 rfl w2.heap.size 39 ien (.agg #[.int .u64 0, .int .u32 0, .int .u32 0]) 3 16 Try.underlying54 hi hz0 hz1 hz2 rfl (by decide) _ k (flatR encX3 ((List.range k).map (befX s))) rfl (World.ownsRow.alloc HO6.out _) _ 1 1 (encX3 (pv, pr, 0)) rfl rfl ?c1 ?c2 ?c3 ?c4 ?c5 ?_)
        case c1 =>
          intro j u hj
          rw [addN]
          exact cellN (by simp) (by simpa [encX3] using hj)
        case c2 => exact encX3_ok.one _
        case c3 => unfold maxLen; omega
        case c4 => omega
        case c5 => exact (Below.allocS HB6.out _).size
        intro v' w8 hown8 hgrow8 _
        have hb8 : Below w2.heap.size w2 w8 := (Below.allocS HB6.out _).grown hgrow8 (Below.allocS HB6.out _).size (fun j e => (HO.out.lt j e).1)
        have HW8 := Lib.hid (show w8.ownsRow w2.heap.size 39 3 v' (k + 1) (flatR encX3 ((List.range (k + 1)).map (befX s))) by rw [List.range_succ, List.map_append, flatR_app]; simpa [flatR, HP.out] using hown8)
        have HB8 := Lib.hid hb8
        clear hown8 hgrow8 hb8
        go_wp2_with fail
        go_roundw
        case rel => exact ⟨k + 1, by omega, by go_num, HW8.out, HB8.out⟩
        case measure => simp [intOf]; omega
      · obtain rfl : n = k := by omega
        have z0 : decide ((n : Int) < (n : Int)) = false := decide_eq_false (by omega)
        obtain ⟨bb, cb, rfl⟩ := own_pos HO.out hpos
        have EB := Lib.hid (own_ents HO.out)
        have LB := Lib.hid (HO.out.lt bb rfl)
        clear hb HO
        go_wp2_with fail
        refine wp_world (fun W6 hW6 => ?_)
        obtain ⟨ba, hba⟩ : ∃ b, b = wr.heap.size := ⟨_, rfl⟩
        obtain ⟨en, fn⟩ := ents_new hW6 hba
        rw [← hba]
        have HBA := Lib.hid hba
        have HB6 := Lib.hid (show Below wr.heap.size wr W6 by rw [hW6]; exact below_a _ _)
        have LA := Lib.hid (show ba < W6.heap.size from lt_of_cell (en 0 (by decide)).1)
        have EN := Lib.hid en
        have FN := Lib.hid fn
        clear hW6 hba en fn
        obtain ⟨wq, hwq⟩ : ∃ x : World, x = wr := ⟨_, rfl⟩
        rw [← hwq] at HBA HB6 EB LB HB
        clear hwq
        go_loopw [74] (fun i wr => ∃ j : Nat, j ≤ 13 ∧ i = .int .i64 j ∧ EntC wr ba 13 (fun i => if i < j then pgetX s i else (0, 0, 0)) ∧ FrzC wr ba ∧ Below wq.heap.size wq wr) (fun i _ => 13 - (intOf i).toNat)
        case atStart => exact ⟨0, Nat.zero_le _, rfl, EN.out, FN.out, HB6.out⟩
        case round =>
          obtain ⟨j, hj, rfl, he, hf, hb⟩ := hrel
          have HE := Lib.hid he
          have HF := Lib.hid hf
          have HBQ := Lib.hid hb
          clear he hf hb EN FN HB6
          by_cases hjl : j < 13
          · have hji : (j : Int) < 13 := by omega
            have z1 : decide ((j : Int) < 13) = true := decide_eq_true hji
            have hj0 : (0 : Int) ≤ (j : Int) := by omega
            have A5 := pGet_at (j : Int) wr (HT.out.below (HB.out.trans (HBQ.out.mono HB.out.size))) (wfI (by omega) (by omega))
            obtain ⟨⟨pv, pr, pw⟩, hp⟩ : ∃ x, x = pgetX s (j : Int) := ⟨_, rfl⟩
            have HP := Lib.hid hp
            rw [← hp] at A5
            dsimp only at A5
            obtain ⟨gg, hgg⟩ : ∃ x, x = findG s (j : Int) := ⟨_, rfl⟩
            rw [← hgg] at A5
            replace A5 := Lib.hid A5
            clear hp hgg
            go_wp2_with fail
            refine A5.out.mono ?_; clear A5; rintro e w5 ⟨rfl, hb5⟩
            obtain ⟨q0, q1, q2⟩ := (HE.out.later hb5) j hjl
            have f0 := (HF.out.later hb5 (lt_of_cell (HE.out 0 (by decide)).1)) (j * 3)
            have f1 := (HF.out.later hb5 (lt_of_cell (HE.out 0 (by decide)).1)) (j * 3 + 1)
            have f2 := (HF.out.later hb5 (lt_of_cell (HE.out 0 (by decide)).1)) (j * 3 + 2)
            have HB5 := Lib.hid hb5
            clear hb5
            go_wp2_with fail
            go_roundw
            case rel => exact ⟨j + 1, by omega, by go_num, ((HE.out.later HB5.out).set hjl (pv, pr, pw)).congr (fun i _ => arr_next HP.out i), ((((HF.out.later HB5.out (lt_of_cell (HE.out 0 (by decide)).1)).set _ _).set _ _).set _ _), (((Below.step HBQ.out HB5.out).setCell (by rw [HBA.out]; exact Nat.le_refl _) _).setCell (by rw [HBA.out]; exact Nat.le_refl _) _).setCell (by rw [HBA.out]; exact Nat.le_refl _) _⟩
            case measure => simp [intOf]; omega
          · obtain rfl : j = 13 := by omega
            have EA := Lib.hid (HE.out.congr (Y := fun i => pgetX s (i : Int)) fun i hi => by rw [if_pos hi])
            have hbase := (HE.out.later (Below.refl _ _))
            clear hbase
            go_wp2_with (at_make; refine wpList_make_full _ rfl _ _ 56 rfl wr.heap.size 4 ibo (.bool false) 1 Try.underlying56 ji jz0 jz1 _ _ _ _ n rfl rfl rfl rfl ?c1 ?c2 (Nat.le_refl _) ?_)
            case c1 => rw [jz2]; omega
            case c2 => unfold maxLen; omega
            intro w7 hown hgrow
            have hb7 : Below wr.heap.size wr w7 := (Below.refl _ _).grown hgrow (Nat.le_refl _) (fun k hk => by cases hk)
            simp only [toList_madeCells_one] at hown
            obtain ⟨bz, hbz⟩ : ∃ b, b = wr.heap.size := ⟨_, rfl⟩
            rw [← hbz] at hown ⊢
            obtain ⟨zb, zf⟩ := bools_new hown
            have ZB := Lib.hid zb
            have ZF := Lib.hid zf
            have HBZ := Lib.hid hbz
            have HB7 := Lib.hid hb7
            have LZ := Lib.hid (lt_of_cell (zb 0 hpos))
            obtain ⟨wv, hwv⟩ : ∃ x : World, x = wr := ⟨_, rfl⟩
            rw [← hwv] at HBZ HB7 EA HBQ
            clear hown hgrow zb zf hbz hb7 HE HF hwv
            go_wp2_with fail
            go_loopw [24] (fun i wr => i = .int .i64 0 ∧ wr = w7) (fun _ _ => 0)
            case atStart => exact ⟨rfl, rfl⟩
            case round =>
              obtain ⟨rfl, rfl⟩ := hrel
              have BZ := Lib.hid (ZB.out.congr (C := fun h => decide (h ∈ ([] : List Nat))) fun j _ => by simp)
              have HBV := HB7
              go_wp2_with fail
              have hbw : Below w2.heap.size w2 wr := (HB.out.trans (HBQ.out.mono HB.out.size)).trans (HBV.out.mono (Nat.le_trans HB.out.size HBQ.out.size))
              have hbx : Below wq.heap.size wq wr := HBQ.out.trans (HBV.out.mono HBQ.out.size)
              have A6 := pCharge_at id a4 wr (HT.out.below hbw) (wfI (by omega) (by omega)) (wfI (by omega) (by omega))
              have hC : pchgC s id a4 = 6 := by unfold pchgC; rw [if_pos HTK.out]; exact (find_no HTH.out (by omega)).1
              rw [hC] at A6
              obtain ⟨s2, hs2⟩ : ∃ s2, s2 = pchgS s id a4 := ⟨_, rfl⟩
              have hss : s2 = s := by rw [hs2]; unfold pchgS; rw [hC, if_neg (by decide)]
              rw [← hs2, hss] at A6
              clear hs2 hss hC
              have X1 := Lib.hid (fun (j : Int) => (rfl : findC s j = findC s j))
              have X2 := Lib.hid (fun (j : Int) => (rfl : pgetX s j = pgetX s j))
              have X3 := Lib.hid (show ∀ g : Nat, g < s.n → pSpotC s (g : Int) = 0 ∧ (g ∉ ([] : List Nat) → (pSpotV s (g : Int)).1 = (pSpotV s (g : Int)).1 ∧ (pSpotV s (g : Int)).2.1 = (pSpotV s (g : Int)).2.1) ∧ (pSpotV s (g : Int)).1 ≤ (pSpotV s (g : Int)).1 from fun g hg => ⟨by unfold pSpotC; rw [show hasV (s.n : Int) (g : Int) = true from decide_eq_true (by omega)]; rfl, fun _ => ⟨rfl, rfl⟩, Int.le_refl _⟩)
              replace A6 := Lib.hid A6
              have nbb : bb ∉ F := fun m => by have := HT.out.lt bb m; have := LB.out; omega
              have nba : ba ∉ F := fun m => by have := HT.out.lt ba m; have := HBA.out; have := HB.out.size; omega
              have nbz : bz ∉ F := fun m => by have := HT.out.lt bz m; have := HBZ.out; have := HB.out.size; have := HBQ.out.size; omega
              have EB1 := Lib.hid (EB.out.later hbx)
              have EA1 := Lib.hid (EA.out.later HBV.out)
              have HW2 := Lib.hid hbw
              have NBB := Lib.hid nbb
              have NBA := Lib.hid nba
              have NBZ := Lib.hid nbz
              clear hbw hbx nbb nba nbz EB EA
              refine A6.out.mono ?_; clear A6; rintro e w8 ⟨rfl, F8, hT8, s8⟩
              have EB8 := Lib.hid (EB1.out.step s8 NBB.out)
              have EA8 := Lib.hid (EA1.out.step s8 NBA.out)
              have BZ8 := Lib.hid (BZ.out.step s8 NBZ.out)
              have HT8 := Lib.hid hT8
              have HB8 := Lib.hid ((HB2.out.trans (HW2.out.mono HB2.out.size)).trans (s8.below (B := w.heap.size) (fun b hb => Nat.le_trans HB1.out.size (HF.out b hb)) (Nat.le_trans HB2.out.size HW2.out.size)).1)
              clear hT8 s8 EB1 EA1 BZ
              go_wp2_with fail
              go_loopw [127] (fun i wx => ∃ j : Nat, j ≤ 13 ∧ i = .int .i64 j ∧ Below w8.heap.size w8 wx) (fun i _ => 13 - (intOf i).toNat)
              case atStart => exact ⟨0, Nat.zero_le _, rfl, Below.refl _ _⟩
              case round =>
                obtain ⟨j, hj, rfl, hb⟩ := hrel
                have HBJ := Lib.hid hb
                by_cases hjl : j < 13
                · have hji : (j : Int) < 13 := by omega
                  have z1 : decide ((j : Int) < 13) = true := decide_eq_true hji
                  have hj0 : (0 : Int) ≤ (j : Int) := by omega
                  have A7 := pGet_at (j : Int) wr (HT8.out.below hb) (wfI (by omega) (by omega))
                  obtain ⟨c0, c1, c2⟩ := (EA8.out.later hb) j hjl
                  dsimp only at c0 c1 c2
                  obtain ⟨gg, hgg⟩ : ∃ x, x = findG s (j : Int) := ⟨_, rfl⟩
                  rw [← hgg] at A7
                  obtain ⟨hok, hno⟩ := HGO.out (j : Int)
                  clear hgg hb
                  by_cases hf : findC s (j : Int) = 0
                  · have hx := hok hf
                    rw [decide_eq_true hf] at A7
                    have hji2 : (j : Int) ≠ id := fun e => HTH.out (by rw [← e]; exact hf)
                    have yk : ((j : Int) == id) = false := by simpa using hji2
                    obtain ⟨⟨pv, pr, pw⟩, hp⟩ : ∃ x, x = pgetX s (j : Int) := ⟨_, rfl⟩
                    rw [← hp] at A7 c0 c1 c2 hx
                    have hw : 1 ≤ pw ∧ pw ≤ 65536 := by have h9 := hx; unfold EntOk Ch.Ok at h9; simp only at h9; omega
                    clear hok hno hx hf hp hji2
                    dsimp only at A7 c0 c1 c2
                    replace A7 := Lib.hid A7
                    go_wp2_with fail
                    refine A7.out.mono ?_; clear A7; rintro e w9 ⟨rfl, hb9⟩
                    have HB9 := Lib.hid (Below.step HBJ.out hb9)
                    replace c0 := cell_al (.cells #[.int .u64 pv, .int .u32 pr, .int .u32 pw] 39) (cell_later hb9 c0)
                    replace c1 := cell_al (.cells #[.int .u64 pv, .int .u32 pr, .int .u32 pw] 39) (cell_later hb9 c1)
                    replace c2 := cell_al (.cells #[.int .u64 pv, .int .u32 pr, .int .u32 pw] 39) (cell_later hb9 c2)
                    have y0 : ((w9.alloc (.cells #[.int .u64 pv, .int .u32 pr, .int .u32 pw] 39)).alloc (.cells #[.int .u64 pv, .int .u32 pr, .int .u32 pw] 39)).cell? ⟨w9.heap.size, 0, none⟩ = some (.int .u64 pv) := cell_al _ (cell_nw w9 _ _ 0 _ rfl)
                    have y1 : ((w9.alloc (.cells #[.int .u64 pv, .int .u32 pr, .int .u32 pw] 39)).alloc (.cells #[.int .u64 pv, .int .u32 pr, .int .u32 pw] 39)).cell? ⟨w9.heap.size, 1, none⟩ = some (.int .u32 pr) := cell_al _ (cell_nw w9 _ _ 1 _ rfl)
                    have y2 : ((w9.alloc (.cells #[.int .u64 pv, .int .u32 pr, .int .u32 pw] 39)).alloc (.cells #[.int .u64 pv, .int .u32 pr, .int .u32 pw] 39)).cell? ⟨w9.heap.size, 2, none⟩ = some (.int .u32 pw) := cell_al _ (cell_nw w9 _ _ 2 _ rfl)
                    have v0 : ((w9.alloc (.cells #[.int .u64 pv, .int .u32 pr, .int .u32 pw] 39)).alloc (.cells #[.int .u64 pv, .int .u32 pr, .int .u32 pw] 39)).cell? ⟨w9.heap.size + 1, 0, none⟩ = some (.int .u64 pv) := cell_nwE (by simp) _ _ 0 _ rfl
                    have v1 : ((w9.alloc (.cells #[.int .u64 pv, .int .u32 pr, .int .u32 pw] 39)).alloc (.cells #[.int .u64 pv, .int .u32 pr, .int .u32 pw] 39)).cell? ⟨w9.heap.size + 1, 1, none⟩ = some (.int .u32 pr) := cell_nwE (by simp) _ _ 1 _ rfl
                    have v2 : ((w9.alloc (.cells #[.int .u64 pv, .int .u32 pr, .int .u32 pw] 39)).alloc (.cells #[.int .u64 pv, .int .u32 pr, .int .u32 pw] 39)).cell? ⟨w9.heap.size + 1, 2, none⟩ = some (.int .u32 pw) := cell_nwE (by simp) _ _ 2 _ rfl
                    have HBW := Lib.hid (Below.allocS (Below.allocS HB9.out (.cells #[.int .u64 pv, .int .u32 pr, .int .u32 pw] 39)) (.cells #[.int .u64 pv, .int .u32 pr, .int .u32 pw] 39))
                    clear hb9
                    have ye := eqE_same pv pr pw
                    have yw : decide (pw > 0) = true := decide_eq_true (by omega)
                    have yw2 : (0 : Int) < pw := by omega
                    go_wp2_with fail
                    go_roundw
                    case rel => exact ⟨j + 1, by omega, by go_num, HBW.out⟩
                    case measure => simp [intOf]; omega
                  · have hx := hno hf
                    rw [decide_eq_false hf] at A7
                    rw [hx] at A7 c0 c1 c2
                    clear hok hno hx hf
                    by_cases hji2 : (j : Int) = id
                    · have yk : ((j : Int) == id) = true := by simpa using hji2
                      clear hji2
                      dsimp only at A7 c0 c1 c2
                      replace A7 := Lib.hid A7
                      go_wp2_with fail
                      refine A7.out.mono ?_; clear A7; rintro e w9 ⟨rfl, hb9⟩
                      have HB9 := Lib.hid (Below.step HBJ.out hb9)
                      replace c0 := cell_al (.cells #[.int .u64 0, .int .u32 0, .int .u32 0] 39) (cell_later hb9 c0)
                      replace c1 := cell_al (.cells #[.int .u64 0, .int .u32 0, .int .u32 0] 39) (cell_later hb9 c1)
                      replace c2 := cell_al (.cells #[.int .u64 0, .int .u32 0, .int .u32 0] 39) (cell_later hb9 c2)
                      have y0 : ((w9.alloc (.cells #[.int .u64 0, .int .u32 0, .int .u32 0] 39)).alloc (.cells #[.int .u64 0, .int .u32 0, .int .u32 0] 39)).cell? ⟨w9.heap.size, 0, none⟩ = some (.int .u64 0) := cell_al _ (cell_nw w9 _ _ 0 _ rfl)
                      have y1 : ((w9.alloc (.cells #[.int .u64 0, .int .u32 0, .int .u32 0] 39)).alloc (.cells #[.int .u64 0, .int .u32 0, .int .u32 0] 39)).cell? ⟨w9.heap.size, 1, none⟩ = some (.int .u32 0) := cell_al _ (cell_nw w9 _ _ 1 _ rfl)
                      have y2 : ((w9.alloc (.cells #[.int .u64 0, .int .u32 0, .int .u32 0] 39)).alloc (.cells #[.int .u64 0, .int .u32 0, .int .u32 0] 39)).cell? ⟨w9.heap.size, 2, none⟩ = some (.int .u32 0) := cell_al _ (cell_nw w9 _ _ 2 _ rfl)
                      have v0 : ((w9.alloc (.cells #[.int .u64 0, .int .u32 0, .int .u32 0] 39)).alloc (.cells #[.int .u64 0, .int .u32 0, .int .u32 0] 39)).cell? ⟨w9.heap.size + 1, 0, none⟩ = some (.int .u64 0) := cell_nwE (by simp) _ _ 0 _ rfl
                      have v1 : ((w9.alloc (.cells #[.int .u64 0, .int .u32 0, .int .u32 0] 39)).alloc (.cells #[.int .u64 0, .int .u32 0, .int .u32 0] 39)).cell? ⟨w9.heap.size + 1, 1, none⟩ = some (.int .u32 0) := cell_nwE (by simp) _ _ 1 _ rfl
                      have v2 : ((w9.alloc (.cells #[.int .u64 0, .int .u32 0, .int .u32 0] 39)).alloc (.cells #[.int .u64 0, .int .u32 0, .int .u32 0] 39)).cell? ⟨w9.heap.size + 1, 2, none⟩ = some (.int .u32 0) := cell_nwE (by simp) _ _ 2 _ rfl
                      have HBW := Lib.hid (Below.allocS (Below.allocS HB9.out (.cells #[.int .u64 0, .int .u32 0, .int .u32 0] 39)) (.cells #[.int .u64 0, .int .u32 0, .int .u32 0] 39))
                      clear hb9
                      have ye := eqE_same 0 0 0
                      have yw : decide (0 > 0) = false := by decide
                      go_wp2_with fail
                      go_roundw
                      case rel => exact ⟨j + 1, by omega, by go_num, HBW.out⟩
                      case measure => simp [intOf]; omega
                    · have yk : ((j : Int) == id) = false := by simpa using hji2
                      clear hji2
                      dsimp only at A7 c0 c1 c2
                      replace A7 := Lib.hid A7
                      go_wp2_with fail
                      refine A7.out.mono ?_; clear A7; rintro e w9 ⟨rfl, hb9⟩
                      have HB9 := Lib.hid (Below.step HBJ.out hb9)
                      replace c0 := cell_al (.cells #[.int .u64 0, .int .u32 0, .int .u32 0] 39) (cell_later hb9 c0)
                      replace c1 := cell_al (.cells #[.int .u64 0, .int .u32 0, .int .u32 0] 39) (cell_later hb9 c1)
                      replace c2 := cell_al (.cells #[.int .u64 0, .int .u32 0, .int .u32 0] 39) (cell_later hb9 c2)
                      have y0 : ((w9.alloc (.cells #[.int .u64 0, .int .u32 0, .int .u32 0] 39)).alloc (.cells #[.int .u64 0, .int .u32 0, .int .u32 0] 39)).cell? ⟨w9.heap.size, 0, none⟩ = some (.int .u64 0) := cell_al _ (cell_nw w9 _ _ 0 _ rfl)
                      have y1 : ((w9.alloc (.cells #[.int .u64 0, .int .u32 0, .int .u32 0] 39)).alloc (.cells #[.int .u64 0, .int .u32 0, .int .u32 0] 39)).cell? ⟨w9.heap.size, 1, none⟩ = some (.int .u32 0) := cell_al _ (cell_nw w9 _ _ 1 _ rfl)
                      have y2 : ((w9.alloc (.cells #[.int .u64 0, .int .u32 0, .int .u32 0] 39)).alloc (.cells #[.int .u64 0, .int .u32 0, .int .u32 0] 39)).cell? ⟨w9.heap.size, 2, none⟩ = some (.int .u32 0) := cell_al _ (cell_nw w9 _ _ 2 _ rfl)
                      have v0 : ((w9.alloc (.cells #[.int .u64 0, .int .u32 0, .int .u32 0] 39)).alloc (.cells #[.int .u64 0, .int .u32 0, .int .u32 0] 39)).cell? ⟨w9.heap.size + 1, 0, none⟩ = some (.int .u64 0) := cell_nwE (by simp) _ _ 0 _ rfl
                      have v1 : ((w9.alloc (.cells #[.int .u64 0, .int .u32 0, .int .u32 0] 39)).alloc (.cells #[.int .u64 0, .int .u32 0, .int .u32 0] 39)).cell? ⟨w9.heap.size + 1, 1, none⟩ = some (.int .u32 0) := cell_nwE (by simp) _ _ 1 _ rfl
                      have v2 : ((w9.alloc (.cells #[.int .u64 0, .int .u32 0, .int .u32 0] 39)).alloc (.cells #[.int .u64 0, .int .u32 0, .int .u32 0] 39)).cell? ⟨w9.heap.size + 1, 2, none⟩ = some (.int .u32 0) := cell_nwE (by simp) _ _ 2 _ rfl
                      have HBW := Lib.hid (Below.allocS (Below.allocS HB9.out (.cells #[.int .u64 0, .int .u32 0, .int .u32 0] 39)) (.cells #[.int .u64 0, .int .u32 0, .int .u32 0] 39))
                      clear hb9
                      have ye := eqE_same 0 0 0
                      have yw : decide (0 > 0) = false := by decide
                      go_wp2_with fail
                      go_roundw
                      case rel => exact ⟨j + 1, by omega, by go_num, HBW.out⟩
                      case measure => simp [intOf]; omega
                · have HJ13 := Lib.hid (show j = 13 by omega)
                  have z1 : decide ((j : Int) < 13) = false := decide_eq_false (by omega)
                  have z2 : ¬ (j : Int) < 13 := by omega
                  clear hj hjl
                  have HBL := Lib.hid hb
                  clear hb HBJ
                  go_wp2_with fail
                  go_loopw [166] (fun i wx => ∃ g : Nat, g ≤ n ∧ i = .int .i64 g ∧ Below w8.heap.size w8 wx) (fun i _ => n - (intOf i).toNat)
                  case atStart => exact ⟨0, Nat.zero_le _, rfl, HBL.out⟩
                  case round =>
                    clear HBL
                    obtain ⟨g, hg, rfl, hb⟩ := hrel
                    have HBG := Lib.hid hb
                    by_cases hgl : g < n
                    · have hgi : (g : Int) < (n : Int) := by omega
                      have z1 : decide ((g : Int) < (n : Int)) = true := decide_eq_true hgi
                      have hg0 : (0 : Int) ≤ (g : Int) := by omega
                      have A10 := pSpot_at (g : Int) wr (HT8.out.below hb)
                      obtain ⟨x0, x1, x2⟩ := X3.out g (by rw [HNS.out]; exact hgl)
                      rw [x0] at A10
                      obtain ⟨c0, c1, c2⟩ := (EB8.out.later hb) g hgl
                      have q0 := (BZ8.out.later hb) g hgl
                      dsimp only [befX] at c0 c1 c2 q0
                      clear x0 hb
                      obtain ⟨⟨bv, br, bf⟩, hbf⟩ : ∃ x, x = pSpotV s (g : Int) := ⟨_, rfl⟩
                      rw [← hbf] at c0 c1 A10
                      dsimp only at c0 c1 A10
                      replace A10 := Lib.hid A10
                      replace q0 : wr.cell? ⟨bz, g, none⟩ = some (.bool false) := q0
                      clear x1 x2 hbf
                      go_wp2_with fail
                      refine A10.out.mono ?_; clear A10; rintro e w9 ⟨rfl, hb9⟩
                      have hb10 := Below.allocS hb9 (.cells #[.int .u64 bv, .int .u32 br, .int .u64 bf] 37)
                      replace c0 := cell_later hb10 c0
                      replace c1 := cell_later hb10 c1
                      replace q0 := cell_later hb10 q0
                      have y0 : (w9.alloc (.cells #[.int .u64 bv, .int .u32 br, .int .u64 bf] 37)).cell? ⟨w9.heap.size, 0, none⟩ = some (.int .u64 bv) := cell_nw w9 _ _ 0 _ rfl
                      have y1 : (w9.alloc (.cells #[.int .u64 bv, .int .u32 br, .int .u64 bf] 37)).cell? ⟨w9.heap.size, 1, none⟩ = some (.int .u32 br) := cell_nw w9 _ _ 1 _ rfl
                      have HB10 := Lib.hid (Below.step HBG.out hb10)
                      clear hb9 hb10 c2
                      go_wp2_with fail
                      go_quiet (fail)
                      go_wp2_with fail
                      go_quiet (fail)
                      go_wp2_with fail
                      go_roundw
                      case rel => exact ⟨g + 1, by omega, by go_num, below_drewN HB10.out _⟩
                      case measure => simp [intOf]; omega
                    · obtain rfl : g = n := by omega
                      have A11 := Lib.hid awake_at
                      clear hb
                      go_wp2_with fail
                      refine (A11.out _).mono ?_; rintro e w12 ⟨rfl, hb12⟩
                      go_wp2_with fail
                      go_ret
                      exact ⟨rfl, Below.step (Below.step HB8.out HBG.out) hb12⟩
end Go.Proofs.Ytfgmglghlapbcaa
