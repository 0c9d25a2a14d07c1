/-
  PickFirst: the first task is reached through groups below each other, each of which has the least V.
-/
import Derived.Test.YtfgmglghlapbcaaGreatPickFs
namespace Go.Proofs.YtfgmglghlapbcaaGreat
open Go.RowKit Go.Maps Go.IntWalk Go.Lib Go.Sort Go.Shelf
set_option linter.unusedVariables false
set_option linter.unusedSimpArgs false
set_option maxRecDepth 100000 in
set_option maxHeartbeats 8000000 in
theorem PickFirst_true (s0 : Option Addr) (l0 c0 : Nat) (F0 : Nat → Nat → Value) (s1 : Option Addr) (l1 c1 : Nat) (F1 : Nat → Nat → Value) (a2 : Int) (s2 : Option Addr) (l2 c2 : Nat) (F2 : Nat → Nat → Value) (w : World)
    (r0 : PlainRow [some .u8] w s0 l0 c0 F0) (r1 : PlainRow [some .u16] w s1 l1 c1 F1) (g2 : (Lit.int .u64 a2).wf = true) (r2 : PlainRow [some .u8, some .u8, some .u8, some .u32, some .u16, some .u16, some .u32] w s2 l2 c2 F2) :
    Calls Tryz.prog 4 #[.slice s0 l0 c0, .slice s1 l1 c1, .int .u64 a2, .slice s2 l2 c2] w fun e w' => e = .returned (.bool true) ∧ Below w.heap.size w w' := by
  have b2 := wf_u64 g2
  obtain ⟨xs0, n0⟩ := nums_of r0
  obtain ⟨xs1, n1⟩ := nums_of r1
  have A1 := Lib.hid (Groups_at s0 s1 l0 l1 c0 c1 xs0 xs1 w (row_num n0) (row_num n1) (fun x hx => sm8 (fit_num n0 x hx)) (fun x hx => sm16 (fit_num n1 x hx)))
  have A2 := Lib.hid fun W bgs cgs Gs (h : RecsAt encG W (.slice (some ⟨bgs, 0, none⟩) Gs.length cgs) Gs) (hr : RightG Gs) (r : PlainRow smK W s2 l2 c2 F2) => made_at bgs cgs Gs a2 s2 l2 c2 F2 W h hr b2 r
  have R2 := Lib.hid (show PlainRow smK w s2 l2 c2 F2 from r2)
  have AW := Lib.hid awake_at
  clear r0 r1 r2 n0 n1
  clear g2
  go_enter Tryz.func4, Tryz.ntmps4
  go_wp2_with fail
  refine A1.out.mono ?_; clear A1; rintro e w1 ⟨Gs, vg, rfl, hr, hl7, hog, hb1⟩
  have HRI := Lib.hid hr
  have hpos := hr.pos
  obtain ⟨bgs, cgs, rfl⟩ := own_pos hog hpos
  have HRG := Lib.hid (own_recs encG_ok hog)
  have HOG := Lib.hid hog
  have R2b := Lib.hid (plain_later R2.out hb1)
  have HB1 := Lib.hid hb1
  clear hog hr R2 hb1
  go_wp2_with fail
  refine (A2.out w1 bgs cgs Gs HRG.out HRI.out R2b.out).mono ?_; clear A2; rintro e w2 ⟨t, F, s, rfl, hT, hM, hF, hb2⟩
  have HM := Lib.hid hM
  have HW1 := Lib.hid (show TW w t s w2 F from ⟨hT, fun b hb => Nat.le_trans HB1.out.size (hF b hb), Below.step HB1.out hb2⟩)
  have HGR := Lib.hid ((own_heldR encG_ok (F := []) HOG.out rfl rfl (fun b hb => by cases hb)).step (Kept.of hb2) (F' := F) (fun b hb => Or.inr (hF b hb)))
  obtain ⟨n, hn⟩ : ∃ n, n = Gs.length := ⟨_, rfl⟩
  rw [← hn] at hl7 hpos ⊢
  have HN := Lib.hid hn
  have HNS := Lib.hid (show s.n = n from HM.out.n.trans hn.symm)
  clear hT hM hF hb2 R2b HRG HOG hn HB1
  have hok := HM.out.ok
  have hsome := some_iff hok (tree_keys HW1.out.inn)
  have hord := tree_ord HW1.out.inn
  have AF := fun W F (h : TreeIn W t F s) => pFirst_at W h (tok_down hok)
  have AH := fun W F (h : TreeIn W t F s) => pChain_at W h (tok_down hok)
  have AC := Lib.hid fun W F (h : TreeIn W t F s) => pLen_at W h
  have AB := fun W F (h : TreeIn W t F s) (hV : RecsAt encG W (.slice (some ⟨bgs, 0, none⟩) Gs.length cgs) Gs) => busy_at W h hok HRI.out HM.out.par HM.out.n hV
  rw [← HN.out] at AB
  unfold BusyP at AB
  rw [HNS.out] at AB
  replace AB := Lib.hid AB
  have HOK := Lib.hid hok
  have HORD := Lib.hid hord
  have HSOME := Lib.hid hsome
  clear hok hord hsome
  cases he : (s.M 0).isEmpty with
  | true =>
    have hlt := lead_empty he HOK.out.core.right.pos
    have hc : s.c = 0 := by have := HSOME.out; rw [he] at this; simpa using this.symm
    rw [hlt] at AF AH
    replace AF := Lib.hid AF
    replace AH := Lib.hid AH
    have HC0 := Lib.hid hc
    have HX := Lib.hid (show pgetX s 0 = (0, 0, 0) ∧ findG s 0 = 0 ∧ decide (findC s 0 = 0) = false from ⟨rfl, rfl, rfl⟩)
    clear hlt hc he
    go_wp2_with fail
    refine (AH.out w2 _ HW1.out.inn).mono ?_
    rintro e w11 ⟨cv, rfl, ho, hb⟩
    obtain ⟨ca, cx, rfl⟩ := own_shapeT ho
    clear ho
    have t12 : Step F w2 F w11 := Step.of hb
    have H12 := Lib.hid (HW1.out.later hb)
    replace HGR := Lib.hid (HGR.out.step t12.kept t12.new)
    clear t12
    clear hb
    go_wp2_with fail
    refine (AF.out w11 _ H12.out.inn).mono ?_
    rintro e w13 ⟨rfl, hb⟩
    have t14 : Step F w11 F w13 := Step.of hb
    have H14 := Lib.hid (H12.out.later hb)
    replace HGR := Lib.hid (HGR.out.step t14.kept t14.new)
    clear t14
    clear hb
    go_wp2_with fail
    refine (pGet_at 0 w13 H14.out.inn rfl).mono ?_
    rintro e w15 ⟨rfl, hb⟩
    rw [HX.out.1, HX.out.2.1, HX.out.2.2]
    have t16 : Step F w13 F w15 := Step.of hb
    have H16 := Lib.hid (H14.out.later hb)
    replace HGR := Lib.hid (HGR.out.step t16.kept t16.new)
    clear t16
    clear hb
    have hlt := H16.out.inn.lt
    have hb : Below w15.heap.size w15 (w15.alloc (.cells #[.int .u64 0, .int .u32 0, .int .u32 0] 40)) := below_a _ _
    have t18 : Step F w15 F (w15.alloc (.cells #[.int .u64 0, .int .u32 0, .int .u32 0] 40)) := Step.of hb
    have H18 := Lib.hid (H16.out.later hb)
    replace HGR := Lib.hid (HGR.out.step t18.kept t18.new)
    clear t18
    have x0 : (w15.alloc (.cells #[.int .u64 0, .int .u32 0, .int .u32 0] 40)).cell? ⟨w15.heap.size, 0, none⟩ = some (.int .u64 0) := cell_nw _ _ _ 0 _ rfl
    have x1 : (w15.alloc (.cells #[.int .u64 0, .int .u32 0, .int .u32 0] 40)).cell? ⟨w15.heap.size, 1, none⟩ = some (.int .u32 0) := cell_nw _ _ _ 1 _ rfl
    have x2 : (w15.alloc (.cells #[.int .u64 0, .int .u32 0, .int .u32 0] 40)).cell? ⟨w15.heap.size, 2, none⟩ = some (.int .u32 0) := cell_nw _ _ _ 2 _ rfl
    have ox : w15.heap.size ∉ F := fun m => by have := hlt _ m; omega
    have lx := lt_of_cell x0
    have hS_x := Lib.hid (show (w15.alloc (.cells #[.int .u64 0, .int .u32 0, .int .u32 0] 40)).heap.size = w15.heap.size + 1 by simp)
    clear hb hlt
    go_wp2_with fail
    generalize (w15.alloc (.cells #[.int .u64 0, .int .u32 0, .int .u32 0] 40)) = W17 at *
    generalize w15.heap.size = b_x at *
    go_wp2_with fail
    refine (AC.out W17 _ H18.out.inn).mono ?_
    rintro e w_ ⟨rfl, rfl⟩
    rw [HC0.out]
    go_wp2_with fail
    refine (AW.out W17).mono ?_
    rintro e w9 ⟨rfl, hb9⟩
    have HB9 := Lib.hid (Below.step H18.out.bel hb9)
    clear hb9
    go_wp2_with fail
    go_ret
    exact ⟨rfl, HB9.out⟩
  | false =>
    obtain ⟨L, id, hL, hLO⟩ := lead_ok HOK.out he
    have hc : decide ((s.c : Int) > 0) = true := by have := HSOME.out; rw [he] at this; exact decide_eq_true (by have := of_decide_eq_false this.symm; omega)
    rw [hL] at AF AH
    dsimp only at AF AH
    rw [decide_eq_true (show 0 < id by obtain ⟨i, hi⟩ : ∃ i, i + 1 = L.length := ⟨L.length - 1, by have := hLO.pos; omega⟩; have := (hLO.last i hi).2.1; omega)] at AF
    obtain ⟨m, hm⟩ : ∃ m, m = L.length := ⟨_, rfl⟩
    obtain ⟨mp, hmp⟩ : ∃ mp, m = mp + 1 := ⟨m - 1, by have := hLO.pos; omega⟩
    obtain ⟨h1, h2, h3, h4⟩ := hLO.last mp (by omega)
    have hmn : m ≤ n := by have := lead_len HOK.out hLO mp (by omega); have := (hLO.grp mp (by omega)).1; have := HNS.out; omega
    rw [List.length_map, ← hm] at AH
    have hcc : (0 : Int) < (s.c : Int) := of_decide_eq_true hc
    generalize s.c = cn at *
    have hfc : findC s id = 0 := by unfold findC; rw [show nameV id = true from decide_eq_true ⟨h2, h3⟩, h4]; rfl
    obtain ⟨own, hown⟩ : ∃ own, own = L[mp]! := ⟨_, rfl⟩
    rw [← hown] at h1 h4
    have hfg : findG s id = (own : Int) := by unfold findG; rw [show nameV id = true from decide_eq_true ⟨h2, h3⟩, h4]; rfl
    obtain ⟨⟨xv, xr, xw⟩, hx⟩ : ∃ x, x = pgetX s id := ⟨_, rfl⟩
    have hxv : xv = firstV (s.M own) := by
      obtain ⟨y, y1, y2⟩ := first_ent (HOK.out.core.mok own).nod (by rw [hown]; exact (hLO.grp mp (by omega)).2)
      rw [h1] at y1
      have : pgetX s id = y := by unfold pgetX; rw [if_pos hfc, hfg, Int.toNat_natCast]; exact getE_yes y1
      rw [← y2, ← this, ← hx]
    have zm : decide ((m : Int) > 0) = true := decide_eq_true (by omega)
    have zm2 : (0 : Int) < (m : Int) := by omega
    have zm3 : 0 < m := by omega
    have zm4 : decide (0 < m) = true := decide_eq_true zm3
    have wm : IntKind.i64.wrap ((m : Int) - 1) = (mp : Int) := by rw [show (m : Int) - 1 = (mp : Int) by omega]; exact IntWalk.i64_in _ (by omega)
    have hmpm : (mp : Int) < (m : Int) := by omega
    have hmp0 : (0 : Int) ≤ (mp : Int) := by omega
    have HX := Lib.hid hx
    have HXV := Lib.hid hxv
    have HID := Lib.hid h1
    have HFC := Lib.hid (show findC s id = 0 ∧ findG s id = (own : Int) from ⟨hfc, hfg⟩)
    have HWI := Lib.hid (show (Lit.int .i64 id).wf = true from wfI (by omega) (by omega))
    have HI2 := Lib.hid (And.intro h2 h3)
    have HLO := Lib.hid hLO
    have HM1 := Lib.hid hm
    have HMP := Lib.hid hmp
    have HMN := Lib.hid hmn
    have HOWN := Lib.hid hown
    replace AF := Lib.hid AF
    replace AH := Lib.hid AH
    clear hL hLO hm hmp h1 h2 h3 h4 hmn hfc hfg hown hx hxv he
    have HPC := Lib.hid (ParC.of HRI.out HM.out.par HGR.out)
    rw [← HN.out] at HPC
    go_wp2_with fail
    refine (AH.out w2 _ HW1.out.inn).mono ?_
    rintro e w11 ⟨cv, rfl, ho, hb⟩
    obtain ⟨bc, cx, rfl⟩ := own_pos ho (by have := HMP.out; omega)
    have HCH := Lib.hid (own_int (F := F) ho HW1.out.inn.lt)
    clear ho
    have t12 : Step F w2 F w11 := Step.of hb
    have H12 := Lib.hid (HW1.out.later hb)
    replace HGR := Lib.hid (HGR.out.step t12.kept t12.new)
    replace HPC := Lib.hid (HPC.out.step t12.kept t12.new)
    clear t12
    clear hb
    go_wp2_with fail
    refine (AF.out w11 _ H12.out.inn).mono ?_
    rintro e w13 ⟨rfl, hb⟩
    have t14 : Step F w11 F w13 := Step.of hb
    have H14 := Lib.hid (H12.out.later hb)
    replace HGR := Lib.hid (HGR.out.step t14.kept t14.new)
    replace HPC := Lib.hid (HPC.out.step t14.kept t14.new)
    replace HCH := Lib.hid (HCH.out.step t14.kept t14.new)
    clear t14
    clear hb
    go_wp2_with fail
    refine (pGet_at id w13 H14.out.inn HWI.out).mono ?_
    rintro e w15 ⟨rfl, hb⟩
    rw [HFC.out.2, decide_eq_true HFC.out.1, ← HX.out]
    have t16 : Step F w13 F w15 := Step.of hb
    have H16 := Lib.hid (H14.out.later hb)
    replace HGR := Lib.hid (HGR.out.step t16.kept t16.new)
    replace HPC := Lib.hid (HPC.out.step t16.kept t16.new)
    replace HCH := Lib.hid (HCH.out.step t16.kept t16.new)
    clear t16
    clear hb
    have hlt := H16.out.inn.lt
    have hb : Below w15.heap.size w15 (w15.alloc (.cells #[.int .u64 xv, .int .u32 xr, .int .u32 xw] 40)) := below_a _ _
    have t18 : Step F w15 F (w15.alloc (.cells #[.int .u64 xv, .int .u32 xr, .int .u32 xw] 40)) := Step.of hb
    have H18 := Lib.hid (H16.out.later hb)
    replace HGR := Lib.hid (HGR.out.step t18.kept t18.new)
    replace HPC := Lib.hid (HPC.out.step t18.kept t18.new)
    replace HCH := Lib.hid (HCH.out.step t18.kept t18.new)
    clear t18
    have x0 : (w15.alloc (.cells #[.int .u64 xv, .int .u32 xr, .int .u32 xw] 40)).cell? ⟨w15.heap.size, 0, none⟩ = some (.int .u64 xv) := cell_nw _ _ _ 0 _ rfl
    have x1 : (w15.alloc (.cells #[.int .u64 xv, .int .u32 xr, .int .u32 xw] 40)).cell? ⟨w15.heap.size, 1, none⟩ = some (.int .u32 xr) := cell_nw _ _ _ 1 _ rfl
    have x2 : (w15.alloc (.cells #[.int .u64 xv, .int .u32 xr, .int .u32 xw] 40)).cell? ⟨w15.heap.size, 2, none⟩ = some (.int .u32 xw) := cell_nw _ _ _ 2 _ rfl
    have ox : w15.heap.size ∉ F := fun m => by have := hlt _ m; omega
    have lx := lt_of_cell x0
    have hS_x := Lib.hid (show (w15.alloc (.cells #[.int .u64 xv, .int .u32 xr, .int .u32 xw] 40)).heap.size = w15.heap.size + 1 by simp)
    clear hb hlt
    go_wp2_with fail
    generalize (w15.alloc (.cells #[.int .u64 xv, .int .u32 xr, .int .u32 xw] 40)) = W17 at *
    generalize w15.heap.size = b_x at *
    go_wp2_with fail
    refine (AC.out W17 _ H18.out.inn).mono ?_
    rintro e w_ ⟨rfl, rfl⟩
    go_wp2_with fail
    refine (AB.out W17 _ H18.out.inn (by have := HGR.out.recs; rwa [← HN.out] at this)).mono ?_
    rintro e w19 ⟨bz, rfl, hz1, hz2, hz3, hb⟩
    have BZ := Lib.hid (show BolC w19 F bz n (nonE s) from ⟨fun m => by have := H18.out.inn.lt bz m; omega, hz2, hz3⟩)
    clear hz1 hz2 hz3
    have t20 : Step F W17 F w19 := Step.of hb
    have H20 := Lib.hid (H18.out.later hb)
    replace x0 := t20.cell ox x0
    replace x1 := t20.cell ox x1
    replace x2 := t20.cell ox x2
    replace ox := t20.off ox lx
    replace lx := lt_of_cell x0
    replace HGR := Lib.hid (HGR.out.step t20.kept t20.new)
    replace HPC := Lib.hid (HPC.out.step t20.kept t20.new)
    replace HCH := Lib.hid (HCH.out.step t20.kept t20.new)
    clear t20
    clear hb
    have HLL := Lib.hid (fun j (hj : j < m) => show (L.map fun k : Nat => (k : Int))[j]! = ((L[j]! : Nat) : Int) from map_cast (by have := HM1.out; omega))
    have d0 := HCH.out.cell 0 (by omega)
    have d1 := HCH.out.cell mp (by omega)
    rw [HLL.out 0 (by omega), HLO.out.head] at d0
    rw [HLL.out mp (by omega), ← HOWN.out] at d1
    replace d0 : w19.cell? ⟨bc, 0, none⟩ = some (.int .i64 0) := d0
    go_wp2_with fail
    clear d0 d1 wm
    go_loopw [97] (fun i wr => ∃ k : Nat, k ≤ m ∧ i = .int .i64 k ∧ TW w t s wr F ∧ ParC wr F bgs n (parG s.Gs) ∧ IntC wr F bc m (fun j => (L.map fun k : Nat => (k : Int))[j]!) ∧ BolC wr F bz n (nonE s)) (fun i _ => m - (intOf i).toNat)
    case atStart => exact ⟨0, Nat.zero_le _, rfl, H20.out, HPC.out, HCH.out, BZ.out⟩
    case round =>
      clear HGR H20 HPC HCH BZ
      obtain ⟨i, hi, rfl, hI, hP, hC, hB⟩ := hrel
      have HI := Lib.hid hI
      have HPC := Lib.hid hP
      have HCH := Lib.hid hC
      have BZ := Lib.hid hB
      clear hI hP hC hB
      by_cases hlt : i < m
      · have hii : (i : Int) < (m : Int) := by omega
        have z0 : decide ((i : Int) < (m : Int)) = true := decide_eq_true hii
        have hi0 : (0 : Int) ≤ (i : Int) := by omega
        obtain ⟨gn, hne⟩ := HLO.out.grp i (by rw [← HM1.out]; exact hlt)
        have q1 := HCH.out.cell i hlt
        rw [HLL.out i hlt] at q1
        obtain ⟨g, hg⟩ : ∃ g, g = L[i]! := ⟨_, rfl⟩
        rw [← hg] at gn hne q1
        rw [HNS.out] at gn
        have q2 := BZ.out.cell g gn
        rw [show nonE s g = true by unfold nonE; rw [hne]; rfl] at q2
        have HG := Lib.hid hg
        have HGN := Lib.hid gn
        have HNE := Lib.hid hne
        have hgi : (g : Int) < (n : Int) := by omega
        have hg0 : (0 : Int) ≤ (g : Int) := by omega
        have z1 : decide ((g : Int) < 0) = false := decide_eq_false (by omega)
        have z2 : decide ((g : Int) ≥ (n : Int)) = false := decide_eq_false (by omega)
        have z3 : ¬ (g : Int) < 0 := by omega
        have z4 : ¬ (n : Int) ≤ (g : Int) := by omega
        have w1 : IntKind.i64.wrap ((i : Int) + 1) = (i : Int) + 1 := IntWalk.i64_in _ (by have := HMN.out; omega)
        have z7 : decide (n ≤ g) = false := decide_eq_false (by omega)
        have z8 : ¬ n ≤ g := by omega
        clear hg hne
        by_cases hi9 : i = 0
        · have z5 : decide ((i : Int) > 0) = false := decide_eq_false (by omega)
          have z6 : ¬ (0 : Int) < (i : Int) := by omega
          have z9 : ¬ 0 < i := by omega
          have z10 : decide (0 < i) = false := decide_eq_false z9
          clear hi9
          by_cases hla : i + 1 < m
          · as_aux_lemma =>
              have z11 : decide ((i : Int) + 1 < (m : Int)) = true := decide_eq_true (by omega)
              have z12 : (i : Int) + 1 < (m : Int) := by omega
              have z13 : decide (i + 1 < m) = true := decide_eq_true hla
              obtain ⟨c, hc⟩ : ∃ c, c = L[i + 1]! := ⟨_, rfl⟩
              have q5 := HCH.out.cell (i + 1) hla
              rw [HLL.out (i + 1) hla, ← hc] at q5
              obtain ⟨n1, n2, n3⟩ := HLO.out.next i (by rw [← HM1.out]; exact hla)
              rw [← hc, ← HG.out] at n1 n3
              rw [← hc] at n2
              have hcn : c < n := by have := (HLO.out.grp (i + 1) (by rw [← HM1.out]; exact hla)).1; rw [← hc, HNS.out] at this; exact this
              have hci : (c : Int) < (n : Int) := by omega
              have hc0 : (0 : Int) ≤ (c : Int) := by omega
              have hi10 : (0 : Int) ≤ (i : Int) + 1 := by omega
              have HN1 := Lib.hid (And.intro n1 (And.intro n2 n3))
              have hcL := hc
              clear hc n1 n2 n3
              go_wp2_with fail
              go_quiet (fail)
              first | refine wp_world (fun W1 hW1 => ?_) | refine q_world (fun W1 hW1 => ?_) | refine calls_world (fun W1 hW1 => ?_)
              have hb : Below wr.heap.size wr W1 := by rw [hW1]; exact below_drewN (Below.refl _ _) _
              clear hW1
              have t201 : Step F wr F W1 := Step.of hb
              have H201 := Lib.hid (HI.out.later hb)
              replace HPC := Lib.hid (HPC.out.step t201.kept t201.new)
              replace HCH := Lib.hid (HCH.out.step t201.kept t201.new)
              replace BZ := Lib.hid (BZ.out.step t201.kept t201.new)
              clear t201
              replace q5 := cell_later hb q5
              clear hb
              obtain ⟨⟨pv, pr, pf⟩, hp⟩ : ∃ p, p = pSpotV s (c : Int) := ⟨_, rfl⟩
              have A1 := pSpot_at (c : Int) W1 H201.out.inn
              rw [← hp, show pSpotC s (c : Int) = 0 by unfold pSpotC; rw [if_pos (show hasV (s.n : Int) (c : Int) = true from decide_eq_true (by have := HNS.out; omega))]] at A1
              dsimp only at A1
              have HPV := Lib.hid (show pv = firstV (s.M g) from spot_first HOK.out HN1.out.1 HN1.out.2.1 (by rw [HNS.out]; exact hcn) HN1.out.2.2 (HLO.out.grp (i + 1) (by rw [← HM1.out]; exact hla)).2 hcL hp)
              have HCL := Lib.hid hcL
              clear hp hcL
              go_wp2_with fail
              refine A1.mono ?_; clear A1; rintro e w3 ⟨rfl, hb⟩
              have t202 : Step F W1 F w3 := Step.of hb
              have H202 := Lib.hid (H201.out.later hb)
              replace HPC := Lib.hid (HPC.out.step t202.kept t202.new)
              replace HCH := Lib.hid (HCH.out.step t202.kept t202.new)
              replace BZ := Lib.hid (BZ.out.step t202.kept t202.new)
              clear t202
              clear hb q5
              have hlt := H202.out.inn.lt
              have hb : Below w3.heap.size w3 (w3.alloc (.cells #[.int .u64 pv, .int .u32 pr, .int .u64 pf] 55)) := below_a _ _
              have t204 : Step F w3 F (w3.alloc (.cells #[.int .u64 pv, .int .u32 pr, .int .u64 pf] 55)) := Step.of hb
              have H204 := Lib.hid (H202.out.later hb)
              replace HPC := Lib.hid (HPC.out.step t204.kept t204.new)
              replace HCH := Lib.hid (HCH.out.step t204.kept t204.new)
              replace BZ := Lib.hid (BZ.out.step t204.kept t204.new)
              clear t204
              have p0 : (w3.alloc (.cells #[.int .u64 pv, .int .u32 pr, .int .u64 pf] 55)).cell? ⟨w3.heap.size, 0, none⟩ = some (.int .u64 pv) := cell_nw _ _ _ 0 _ rfl
              have p1 : (w3.alloc (.cells #[.int .u64 pv, .int .u32 pr, .int .u64 pf] 55)).cell? ⟨w3.heap.size, 1, none⟩ = some (.int .u32 pr) := cell_nw _ _ _ 1 _ rfl
              have p2 : (w3.alloc (.cells #[.int .u64 pv, .int .u32 pr, .int .u64 pf] 55)).cell? ⟨w3.heap.size, 2, none⟩ = some (.int .u64 pf) := cell_nw _ _ _ 2 _ rfl
              have op : w3.heap.size ∉ F := fun m => by have := hlt _ m; omega
              have lp := lt_of_cell p0
              have hS_p := Lib.hid (show (w3.alloc (.cells #[.int .u64 pv, .int .u32 pr, .int .u64 pf] 55)).heap.size = w3.heap.size + 1 by simp)
              clear hb hlt
              go_wp2_with fail
              generalize (w3.alloc (.cells #[.int .u64 pv, .int .u32 pr, .int .u64 pf] 55)) = W203 at *
              generalize w3.heap.size = b_p at *
              have q5 := HCH.out.cell (i + 1) hla
              rw [HLL.out (i + 1) hla, ← HCL.out] at q5
              go_quiet (fail)
              first | refine wp_world (fun W4 hW4 => ?_) | refine q_world (fun W4 hW4 => ?_)
              have hb : Below W203.heap.size W203 W4 := by rw [hW4]; exact below_drewN (Below.refl _ _) _
              have t205 : Step F W203 F W4 := Step.of hb
              have H205 := Lib.hid (H204.out.later hb)
              replace HPC := Lib.hid (HPC.out.step t205.kept t205.new)
              replace HCH := Lib.hid (HCH.out.step t205.kept t205.new)
              replace BZ := Lib.hid (BZ.out.step t205.kept t205.new)
              clear t205
              clear hb hW4 q5 p0 p1 p2 op lp
              obtain ⟨TL, hTL⟩ : ∃ T, T = tasksM (s.M g) := ⟨_, rfl⟩
              have HTT := Lib.hid (show tasksT s (g : Int) = TL by unfold tasksT; rw [if_pos (show hasV (s.n : Int) (g : Int) = true from decide_eq_true (by have := HNS.out; have := HGN.out; omega)), Int.toNat_natCast, hTL])
              have HTL := Lib.hid hTL
              obtain ⟨tn, htn⟩ : ∃ k, k = TL.length := ⟨_, rfl⟩
              have HTN := Lib.hid htn
              have HTM := Lib.hid (show tn ≤ 131072 by rw [htn, ← HTT.out]; exact tasksT_most H205.out.inn (g : Int))
              clear hTL
              go_wp2_with fail
              refine (pTasks_at (g : Int) W4 H205.out.inn).mono ?_
              rintro e w206 ⟨tv, rfl, ho, hb⟩
              rw [HTT.out, ← htn] at ho
              obtain ⟨ta, tc, rfl⟩ := own_shapeT ho
              have HTK := Lib.hid (own_tasks (F := F) ho H205.out.inn.lt)
              clear ho htn
              have t207 : Step F W4 F w206 := Step.of hb
              have H207 := Lib.hid (H205.out.later hb)
              replace HPC := Lib.hid (HPC.out.step t207.kept t207.new)
              replace HCH := Lib.hid (HCH.out.step t207.kept t207.new)
              replace BZ := Lib.hid (BZ.out.step t207.kept t207.new)
              clear t207
              clear hb
              go_wp2_with fail
              go_loopw [171] (fun i wr => ∃ k : Nat, k ≤ tn ∧ i = .int .i64 k ∧ TW w t s wr F ∧ ParC wr F bgs n (parG s.Gs) ∧ IntC wr F bc m (fun j => (L.map fun k : Nat => (k : Int))[j]!) ∧ BolC wr F bz n (nonE s) ∧ TaskC wr F ta tn TL) (fun i _ => tn - (intOf i).toNat)
              case atStart => exact ⟨0, Nat.zero_le _, rfl, H207.out, HPC.out, HCH.out, BZ.out, HTK.out⟩
              case round =>
                clear HPC HCH BZ HTK H207
                obtain ⟨k, hk, rfl, hI, hP, hC, hB, hT⟩ := hrel
                have HI := Lib.hid hI
                have HPC := Lib.hid hP
                have HCH := Lib.hid hC
                have BZ := Lib.hid hB
                have HTK := Lib.hid hT
                clear hI hP hC hB hT
                by_cases hkt : k < tn
                · have hki : (k : Int) < (tn : Int) := by omega
                  have y0 : decide ((k : Int) < (tn : Int)) = true := decide_eq_true hki
                  have hk0 : (0 : Int) ≤ (k : Int) := by omega
                  have wk : IntKind.i64.wrap ((k : Int) + 1) = (k : Int) + 1 := IntWalk.i64_in _ (by have := HTM.out; omega)
                  obtain ⟨bt, rfl, hTC⟩ := HTK.out k hkt
                  have q6 := hTC.cell k hkt
                  obtain ⟨o, ho⟩ : ∃ o, o = TL[k]! := ⟨_, rfl⟩
                  have hmem : o ∈ tasksM (s.M g) := by rw [ho, ← HTL.out]; exact list_at (by rw [← HTN.out]; exact hkt)
                  rw [← ho] at q6
                  obtain ⟨f1, f2, ⟨yv, yr, yw⟩, f3, f4, f5⟩ := task_get HOK.out hmem
                  have hhl := head_le (HORD.out g (by rw [HNS.out]; exact HGN.out)) f5
                  dsimp only at hhl
                  rw [← HPV.out] at hhl
                  have hob := (tasksM_mem.1 hmem).2
                  have HO := Lib.hid (show findC s o = 0 ∧ findG s o = (g : Int) ∧ pgetX s o = (yv, yr, yw) from ⟨f1, f2, f4⟩)
                  have HWO := Lib.hid (show (Lit.int .i64 o).wf = true from wfI (by have := find_one f1; omega) (by omega))
                  rw [HN1.out.1] at hhl
                  clear f1 f2 f3 f4 f5 hmem ho hTC
                  have e1 : decide (yv < pv) = false := decide_eq_false (by omega)
                  have e2 : (yv == pv) = false := by simp; omega
                  have e3 : decide ((c : Int) < 0) = false := decide_eq_false (by omega)
                  have e4 : decide ((c : Int) ≥ 0) = true := decide_eq_true (by omega)
                  have e5 : ¬ yv < pv := by omega
                  have e6 : ¬ yv = pv := by omega
                  clear hhl
                  go_wp2_with fail
                  refine (pGet_at o wr HI.out.inn HWO.out).mono ?_
                  rintro e w301 ⟨rfl, hb⟩
                  rw [HO.out.2.1, HO.out.2.2, decide_eq_true HO.out.1]
                  have t302 : Step F wr F w301 := Step.of hb
                  have H302 := Lib.hid (HI.out.later hb)
                  replace HPC := Lib.hid (HPC.out.step t302.kept t302.new)
                  replace HCH := Lib.hid (HCH.out.step t302.kept t302.new)
                  replace BZ := Lib.hid (BZ.out.step t302.kept t302.new)
                  replace HTK := Lib.hid (HTK.out.step t302.kept t302.new)
                  clear t302
                  clear hb
                  have hlt := H302.out.inn.lt
                  have hb : Below w301.heap.size w301 (w301.alloc (.cells #[.int .u64 yv, .int .u32 yr, .int .u32 yw] 40)) := below_a _ _
                  have t304 : Step F w301 F (w301.alloc (.cells #[.int .u64 yv, .int .u32 yr, .int .u32 yw] 40)) := Step.of hb
                  have H304 := Lib.hid (H302.out.later hb)
                  replace HPC := Lib.hid (HPC.out.step t304.kept t304.new)
                  replace HCH := Lib.hid (HCH.out.step t304.kept t304.new)
                  replace BZ := Lib.hid (BZ.out.step t304.kept t304.new)
                  replace HTK := Lib.hid (HTK.out.step t304.kept t304.new)
                  clear t304
                  have y0 : (w301.alloc (.cells #[.int .u64 yv, .int .u32 yr, .int .u32 yw] 40)).cell? ⟨w301.heap.size, 0, none⟩ = some (.int .u64 yv) := cell_nw _ _ _ 0 _ rfl
                  have y1 : (w301.alloc (.cells #[.int .u64 yv, .int .u32 yr, .int .u32 yw] 40)).cell? ⟨w301.heap.size, 1, none⟩ = some (.int .u32 yr) := cell_nw _ _ _ 1 _ rfl
                  have y2 : (w301.alloc (.cells #[.int .u64 yv, .int .u32 yr, .int .u32 yw] 40)).cell? ⟨w301.heap.size, 2, none⟩ = some (.int .u32 yw) := cell_nw _ _ _ 2 _ rfl
                  have oy : w301.heap.size ∉ F := fun m => by have := hlt _ m; omega
                  have ly := lt_of_cell y0
                  have hS_y := Lib.hid (show (w301.alloc (.cells #[.int .u64 yv, .int .u32 yr, .int .u32 yw] 40)).heap.size = w301.heap.size + 1 by simp)
                  clear hb hlt
                  go_wp2_with fail
                  generalize (w301.alloc (.cells #[.int .u64 yv, .int .u32 yr, .int .u32 yw] 40)) = W303 at *
                  generalize w301.heap.size = b_y at *
                  go_wp2_with fail
                  go_roundw
                  case rel => exact ⟨k + 1, by omega, by go_num, H304.out, HPC.out, HCH.out, BZ.out, HTK.out⟩
                  case measure => simp [intOf]; omega
                · have HKT := Lib.hid (show k = tn by omega)
                  have y0 : decide ((k : Int) < (tn : Int)) = false := decide_eq_false (by omega)
                  have y1 : ¬ (k : Int) < (tn : Int) := by omega
                  clear hk hkt HTK
                  go_wp2_with fail
                  go_loopw [232] (fun i wr => ∃ k : Nat, k ≤ n ∧ i = .int .i64 k ∧ TW w t s wr F ∧ ParC wr F bgs n (parG s.Gs) ∧ IntC wr F bc m (fun j => (L.map fun k : Nat => (k : Int))[j]!) ∧ BolC wr F bz n (nonE s)) (fun i _ => n - (intOf i).toNat)
                  case atStart => exact ⟨0, Nat.zero_le _, rfl, HI.out, HPC.out, HCH.out, BZ.out⟩
                  case round =>
                    clear HI HPC HCH BZ
                    obtain ⟨h, hh, rfl, hI, hP, hC, hB⟩ := hrel
                    have HI := Lib.hid hI
                    have HPC := Lib.hid hP
                    have HCH := Lib.hid hC
                    have BZ := Lib.hid hB
                    clear hI hP hC hB
                    by_cases hhn : h < n
                    · have hhi : (h : Int) < (n : Int) := by omega
                      have v0 : decide ((h : Int) < (n : Int)) = true := decide_eq_true hhi
                      have hh0 : (0 : Int) ≤ (h : Int) := by omega
                      have q7 := HPC.out.2.2 h hhn
                      have q8 := BZ.out.cell h hhn
                      obtain ⟨⟨sv, sr, sf⟩, hsp⟩ : ∃ p, p = pSpotV s (h : Int) := ⟨_, rfl⟩
                      have HSC := Lib.hid (show pSpotC s (h : Int) = 0 by unfold pSpotC; rw [if_pos (show hasV (s.n : Int) (h : Int) = true from decide_eq_true (by have := HNS.out; omega))])
                      have HSP := Lib.hid hsp
                      have hsg := fun (h0 : 0 < h) (hn : nonE s h = true) => spot_get HOK.out h0 (by rw [HNS.out]; exact hhn) hn
                      clear hsp
                      by_cases h0 : 0 < h
                      · have v1 : decide ((h : Int) > 0) = true := decide_eq_true (by omega)
                        have v2 : decide (0 < h) = true := decide_eq_true h0
                        have v3 : (0 : Int) < (h : Int) := by omega
                        obtain ⟨ph, hph⟩ : ∃ k, k = parG s.Gs h := ⟨_, rfl⟩
                        rw [← hph] at q7
                        by_cases hpg : ph = g
                        · have v4 : ((ph : Int) == (g : Int)) = true := by simp; omega
                          have v5 : (ph == g) = true := by simp; exact hpg
                          cases hn : nonE s h with
                          | false =>
                            rw [hn] at q8
                            clear hsg hn hph
                            go_wp2_with fail
                            refine (pSpot_at (h : Int) wr HI.out.inn).mono ?_
                            rintro e w401 ⟨rfl, hb⟩
                            rw [HSC.out, ← HSP.out]
                            replace q7 := cell_later hb q7
                            replace q8 := cell_later hb q8
                            have t402 : Step F wr F w401 := Step.of hb
                            have H402 := Lib.hid (HI.out.later hb)
                            replace HPC := Lib.hid (HPC.out.step t402.kept t402.new)
                            replace HCH := Lib.hid (HCH.out.step t402.kept t402.new)
                            replace BZ := Lib.hid (BZ.out.step t402.kept t402.new)
                            clear t402
                            clear hb
                            have hlt := H402.out.inn.lt
                            have hb : Below w401.heap.size w401 (w401.alloc (.cells #[.int .u64 sv, .int .u32 sr, .int .u64 sf] 55)) := below_a _ _
                            replace q7 := cell_later hb q7
                            replace q8 := cell_later hb q8
                            have t404 : Step F w401 F (w401.alloc (.cells #[.int .u64 sv, .int .u32 sr, .int .u64 sf] 55)) := Step.of hb
                            have H404 := Lib.hid (H402.out.later hb)
                            replace HPC := Lib.hid (HPC.out.step t404.kept t404.new)
                            replace HCH := Lib.hid (HCH.out.step t404.kept t404.new)
                            replace BZ := Lib.hid (BZ.out.step t404.kept t404.new)
                            clear t404
                            have d0 : (w401.alloc (.cells #[.int .u64 sv, .int .u32 sr, .int .u64 sf] 55)).cell? ⟨w401.heap.size, 0, none⟩ = some (.int .u64 sv) := cell_nw _ _ _ 0 _ rfl
                            have d1 : (w401.alloc (.cells #[.int .u64 sv, .int .u32 sr, .int .u64 sf] 55)).cell? ⟨w401.heap.size, 1, none⟩ = some (.int .u32 sr) := cell_nw _ _ _ 1 _ rfl
                            have d2 : (w401.alloc (.cells #[.int .u64 sv, .int .u32 sr, .int .u64 sf] 55)).cell? ⟨w401.heap.size, 2, none⟩ = some (.int .u64 sf) := cell_nw _ _ _ 2 _ rfl
                            have od : w401.heap.size ∉ F := fun m => by have := hlt _ m; omega
                            have ld := lt_of_cell d0
                            have hS_d := Lib.hid (show (w401.alloc (.cells #[.int .u64 sv, .int .u32 sr, .int .u64 sf] 55)).heap.size = w401.heap.size + 1 by simp)
                            clear hb hlt
                            go_wp2_with fail
                            generalize (w401.alloc (.cells #[.int .u64 sv, .int .u32 sr, .int .u64 sf] 55)) = W403 at *
                            generalize w401.heap.size = b_d at *
                            go_wp2_with fail
                            go_roundw
                            case rel => exact ⟨h + 1, by omega, by go_num, H404.out, HPC.out, HCH.out, BZ.out⟩
                            case measure => simp [intOf]; omega
                          | true =>
                            rw [hn] at q8
                            obtain ⟨⟨tv, tr, tw⟩, t1, t2, t3⟩ := hsg h0 hn
                            rw [← hph, hpg] at t3
                            rw [← HSP.out] at t2
                            dsimp only at t2
                            subst t2
                            have hhl := head_le (HORD.out g (by rw [HNS.out]; exact HGN.out)) t3
                            dsimp only at hhl
                            rw [← HPV.out, HN1.out.1] at hhl
                            have v6 : decide (sv < pv) = false := decide_eq_false (by omega)
                            have v7 : ¬ sv < pv := by omega
                            clear hsg t1 t3 hn hph
                            by_cases hsv : sv = pv
                            · subst hsv
                              have v8 : (sv == sv) = true := by simp
                              have v9 : decide ((h : Int) < (c : Int)) = false := decide_eq_false (by omega)
                              have v10 : ¬ (h : Int) < (c : Int) := by omega
                              have v11 : ¬ h < c := by omega
                              have v12 : decide (h < c) = false := decide_eq_false v11
                              have v13 : decide ((c : Int) ≥ 0) = true := decide_eq_true (by omega)
                              clear hhl
                              go_wp2_with fail
                              refine (pSpot_at (h : Int) wr HI.out.inn).mono ?_
                              rintro e w401 ⟨rfl, hb⟩
                              rw [HSC.out, ← HSP.out]
                              replace q7 := cell_later hb q7
                              replace q8 := cell_later hb q8
                              have t402 : Step F wr F w401 := Step.of hb
                              have H402 := Lib.hid (HI.out.later hb)
                              replace HPC := Lib.hid (HPC.out.step t402.kept t402.new)
                              replace HCH := Lib.hid (HCH.out.step t402.kept t402.new)
                              replace BZ := Lib.hid (BZ.out.step t402.kept t402.new)
                              clear t402
                              clear hb
                              have hlt := H402.out.inn.lt
                              have hb : Below w401.heap.size w401 (w401.alloc (.cells #[.int .u64 sv, .int .u32 sr, .int .u64 sf] 55)) := below_a _ _
                              replace q7 := cell_later hb q7
                              replace q8 := cell_later hb q8
                              have t404 : Step F w401 F (w401.alloc (.cells #[.int .u64 sv, .int .u32 sr, .int .u64 sf] 55)) := Step.of hb
                              have H404 := Lib.hid (H402.out.later hb)
                              replace HPC := Lib.hid (HPC.out.step t404.kept t404.new)
                              replace HCH := Lib.hid (HCH.out.step t404.kept t404.new)
                              replace BZ := Lib.hid (BZ.out.step t404.kept t404.new)
                              clear t404
                              have d0 : (w401.alloc (.cells #[.int .u64 sv, .int .u32 sr, .int .u64 sf] 55)).cell? ⟨w401.heap.size, 0, none⟩ = some (.int .u64 sv) := cell_nw _ _ _ 0 _ rfl
                              have d1 : (w401.alloc (.cells #[.int .u64 sv, .int .u32 sr, .int .u64 sf] 55)).cell? ⟨w401.heap.size, 1, none⟩ = some (.int .u32 sr) := cell_nw _ _ _ 1 _ rfl
                              have d2 : (w401.alloc (.cells #[.int .u64 sv, .int .u32 sr, .int .u64 sf] 55)).cell? ⟨w401.heap.size, 2, none⟩ = some (.int .u64 sf) := cell_nw _ _ _ 2 _ rfl
                              have od : w401.heap.size ∉ F := fun m => by have := hlt _ m; omega
                              have ld := lt_of_cell d0
                              have hS_d := Lib.hid (show (w401.alloc (.cells #[.int .u64 sv, .int .u32 sr, .int .u64 sf] 55)).heap.size = w401.heap.size + 1 by simp)
                              clear hb hlt
                              go_wp2_with fail
                              generalize (w401.alloc (.cells #[.int .u64 sv, .int .u32 sr, .int .u64 sf] 55)) = W403 at *
                              generalize w401.heap.size = b_d at *
                              go_wp2_with fail
                              go_roundw
                              case rel => exact ⟨h + 1, by omega, by go_num, H404.out, HPC.out, HCH.out, BZ.out⟩
                              case measure => simp [intOf]; omega
                            · have v8 : (sv == pv) = false := by simp; exact hsv
                              clear hhl
                              go_wp2_with fail
                              refine (pSpot_at (h : Int) wr HI.out.inn).mono ?_
                              rintro e w401 ⟨rfl, hb⟩
                              rw [HSC.out, ← HSP.out]
                              replace q7 := cell_later hb q7
                              replace q8 := cell_later hb q8
                              have t402 : Step F wr F w401 := Step.of hb
                              have H402 := Lib.hid (HI.out.later hb)
                              replace HPC := Lib.hid (HPC.out.step t402.kept t402.new)
                              replace HCH := Lib.hid (HCH.out.step t402.kept t402.new)
                              replace BZ := Lib.hid (BZ.out.step t402.kept t402.new)
                              clear t402
                              clear hb
                              have hlt := H402.out.inn.lt
                              have hb : Below w401.heap.size w401 (w401.alloc (.cells #[.int .u64 sv, .int .u32 sr, .int .u64 sf] 55)) := below_a _ _
                              replace q7 := cell_later hb q7
                              replace q8 := cell_later hb q8
                              have t404 : Step F w401 F (w401.alloc (.cells #[.int .u64 sv, .int .u32 sr, .int .u64 sf] 55)) := Step.of hb
                              have H404 := Lib.hid (H402.out.later hb)
                              replace HPC := Lib.hid (HPC.out.step t404.kept t404.new)
                              replace HCH := Lib.hid (HCH.out.step t404.kept t404.new)
                              replace BZ := Lib.hid (BZ.out.step t404.kept t404.new)
                              clear t404
                              have d0 : (w401.alloc (.cells #[.int .u64 sv, .int .u32 sr, .int .u64 sf] 55)).cell? ⟨w401.heap.size, 0, none⟩ = some (.int .u64 sv) := cell_nw _ _ _ 0 _ rfl
                              have d1 : (w401.alloc (.cells #[.int .u64 sv, .int .u32 sr, .int .u64 sf] 55)).cell? ⟨w401.heap.size, 1, none⟩ = some (.int .u32 sr) := cell_nw _ _ _ 1 _ rfl
                              have d2 : (w401.alloc (.cells #[.int .u64 sv, .int .u32 sr, .int .u64 sf] 55)).cell? ⟨w401.heap.size, 2, none⟩ = some (.int .u64 sf) := cell_nw _ _ _ 2 _ rfl
                              have od : w401.heap.size ∉ F := fun m => by have := hlt _ m; omega
                              have ld := lt_of_cell d0
                              have hS_d := Lib.hid (show (w401.alloc (.cells #[.int .u64 sv, .int .u32 sr, .int .u64 sf] 55)).heap.size = w401.heap.size + 1 by simp)
                              clear hb hlt
                              go_wp2_with fail
                              generalize (w401.alloc (.cells #[.int .u64 sv, .int .u32 sr, .int .u64 sf] 55)) = W403 at *
                              generalize w401.heap.size = b_d at *
                              go_wp2_with fail
                              go_roundw
                              case rel => exact ⟨h + 1, by omega, by go_num, H404.out, HPC.out, HCH.out, BZ.out⟩
                              case measure => simp [intOf]; omega
                        · have v4 : ((ph : Int) == (g : Int)) = false := by simp; omega
                          have v5 : (ph == g) = false := by simp; exact hpg
                          clear hsg hph
                          go_wp2_with fail
                          refine (pSpot_at (h : Int) wr HI.out.inn).mono ?_
                          rintro e w401 ⟨rfl, hb⟩
                          rw [HSC.out, ← HSP.out]
                          replace q7 := cell_later hb q7
                          replace q8 := cell_later hb q8
                          have t402 : Step F wr F w401 := Step.of hb
                          have H402 := Lib.hid (HI.out.later hb)
                          replace HPC := Lib.hid (HPC.out.step t402.kept t402.new)
                          replace HCH := Lib.hid (HCH.out.step t402.kept t402.new)
                          replace BZ := Lib.hid (BZ.out.step t402.kept t402.new)
                          clear t402
                          clear hb
                          have hlt := H402.out.inn.lt
                          have hb : Below w401.heap.size w401 (w401.alloc (.cells #[.int .u64 sv, .int .u32 sr, .int .u64 sf] 55)) := below_a _ _
                          replace q7 := cell_later hb q7
                          replace q8 := cell_later hb q8
                          have t404 : Step F w401 F (w401.alloc (.cells #[.int .u64 sv, .int .u32 sr, .int .u64 sf] 55)) := Step.of hb
                          have H404 := Lib.hid (H402.out.later hb)
                          replace HPC := Lib.hid (HPC.out.step t404.kept t404.new)
                          replace HCH := Lib.hid (HCH.out.step t404.kept t404.new)
                          replace BZ := Lib.hid (BZ.out.step t404.kept t404.new)
                          clear t404
                          have d0 : (w401.alloc (.cells #[.int .u64 sv, .int .u32 sr, .int .u64 sf] 55)).cell? ⟨w401.heap.size, 0, none⟩ = some (.int .u64 sv) := cell_nw _ _ _ 0 _ rfl
                          have d1 : (w401.alloc (.cells #[.int .u64 sv, .int .u32 sr, .int .u64 sf] 55)).cell? ⟨w401.heap.size, 1, none⟩ = some (.int .u32 sr) := cell_nw _ _ _ 1 _ rfl
                          have d2 : (w401.alloc (.cells #[.int .u64 sv, .int .u32 sr, .int .u64 sf] 55)).cell? ⟨w401.heap.size, 2, none⟩ = some (.int .u64 sf) := cell_nw _ _ _ 2 _ rfl
                          have od : w401.heap.size ∉ F := fun m => by have := hlt _ m; omega
                          have ld := lt_of_cell d0
                          have hS_d := Lib.hid (show (w401.alloc (.cells #[.int .u64 sv, .int .u32 sr, .int .u64 sf] 55)).heap.size = w401.heap.size + 1 by simp)
                          clear hb hlt
                          go_wp2_with fail
                          generalize (w401.alloc (.cells #[.int .u64 sv, .int .u32 sr, .int .u64 sf] 55)) = W403 at *
                          generalize w401.heap.size = b_d at *
                          go_wp2_with fail
                          go_roundw
                          case rel => exact ⟨h + 1, by omega, by go_num, H404.out, HPC.out, HCH.out, BZ.out⟩
                          case measure => simp [intOf]; omega
                      · have v1 : decide ((h : Int) > 0) = false := decide_eq_false (by omega)
                        have v2 : decide (0 < h) = false := decide_eq_false h0
                        have v3 : ¬ (0 : Int) < (h : Int) := by omega
                        clear hsg
                        go_wp2_with fail
                        refine (pSpot_at (h : Int) wr HI.out.inn).mono ?_
                        rintro e w401 ⟨rfl, hb⟩
                        rw [HSC.out, ← HSP.out]
                        replace q7 := cell_later hb q7
                        replace q8 := cell_later hb q8
                        have t402 : Step F wr F w401 := Step.of hb
                        have H402 := Lib.hid (HI.out.later hb)
                        replace HPC := Lib.hid (HPC.out.step t402.kept t402.new)
                        replace HCH := Lib.hid (HCH.out.step t402.kept t402.new)
                        replace BZ := Lib.hid (BZ.out.step t402.kept t402.new)
                        clear t402
                        clear hb
                        have hlt := H402.out.inn.lt
                        have hb : Below w401.heap.size w401 (w401.alloc (.cells #[.int .u64 sv, .int .u32 sr, .int .u64 sf] 55)) := below_a _ _
                        replace q7 := cell_later hb q7
                        replace q8 := cell_later hb q8
                        have t404 : Step F w401 F (w401.alloc (.cells #[.int .u64 sv, .int .u32 sr, .int .u64 sf] 55)) := Step.of hb
                        have H404 := Lib.hid (H402.out.later hb)
                        replace HPC := Lib.hid (HPC.out.step t404.kept t404.new)
                        replace HCH := Lib.hid (HCH.out.step t404.kept t404.new)
                        replace BZ := Lib.hid (BZ.out.step t404.kept t404.new)
                        clear t404
                        have d0 : (w401.alloc (.cells #[.int .u64 sv, .int .u32 sr, .int .u64 sf] 55)).cell? ⟨w401.heap.size, 0, none⟩ = some (.int .u64 sv) := cell_nw _ _ _ 0 _ rfl
                        have d1 : (w401.alloc (.cells #[.int .u64 sv, .int .u32 sr, .int .u64 sf] 55)).cell? ⟨w401.heap.size, 1, none⟩ = some (.int .u32 sr) := cell_nw _ _ _ 1 _ rfl
                        have d2 : (w401.alloc (.cells #[.int .u64 sv, .int .u32 sr, .int .u64 sf] 55)).cell? ⟨w401.heap.size, 2, none⟩ = some (.int .u64 sf) := cell_nw _ _ _ 2 _ rfl
                        have od : w401.heap.size ∉ F := fun m => by have := hlt _ m; omega
                        have ld := lt_of_cell d0
                        have hS_d := Lib.hid (show (w401.alloc (.cells #[.int .u64 sv, .int .u32 sr, .int .u64 sf] 55)).heap.size = w401.heap.size + 1 by simp)
                        clear hb hlt
                        go_wp2_with fail
                        generalize (w401.alloc (.cells #[.int .u64 sv, .int .u32 sr, .int .u64 sf] 55)) = W403 at *
                        generalize w401.heap.size = b_d at *
                        go_wp2_with fail
                        go_roundw
                        case rel => exact ⟨h + 1, by omega, by go_num, H404.out, HPC.out, HCH.out, BZ.out⟩
                        case measure => simp [intOf]; omega
                    · have HHN := Lib.hid (show h = n by omega)
                      have v0 : decide ((h : Int) < (n : Int)) = false := decide_eq_false (by omega)
                      have v1 : ¬ (h : Int) < (n : Int) := by omega
                      clear hh hhn
                      go_wp2_with fail
                      go_roundw
                      case rel => exact ⟨i + 1, by omega, by go_num, HI.out, HPC.out, HCH.out, BZ.out⟩
                      case measure => simp [intOf]; omega
          · as_aux_lemma =>
              have z11 : decide ((i : Int) + 1 < (m : Int)) = false := decide_eq_false (by omega)
              have z12 : ¬ (i : Int) + 1 < (m : Int) := by omega
              have z13 : decide (i + 1 < m) = false := decide_eq_false hla
              have HOG := Lib.hid (show own = g by rw [HOWN.out, HG.out, show i = mp by have := HMP.out; omega])
              go_wp2_with fail
              go_quiet (fail)
              first | refine wp_world (fun W1 hW1 => ?_) | refine q_world (fun W1 hW1 => ?_) | refine calls_world (fun W1 hW1 => ?_)
              have hb : Below wr.heap.size wr W1 := by rw [hW1]; exact below_drewN (Below.refl _ _) _
              clear hW1
              have t201 : Step F wr F W1 := Step.of hb
              have H201 := Lib.hid (HI.out.later hb)
              replace HPC := Lib.hid (HPC.out.step t201.kept t201.new)
              replace HCH := Lib.hid (HCH.out.step t201.kept t201.new)
              replace BZ := Lib.hid (BZ.out.step t201.kept t201.new)
              clear t201
              clear hb
              go_wp2_with fail
              refine (pGet_at id W1 H201.out.inn HWI.out).mono ?_
              rintro e w202 ⟨rfl, hb⟩
              rw [HFC.out.2, decide_eq_true HFC.out.1, ← HX.out]
              have t203 : Step F W1 F w202 := Step.of hb
              have H203 := Lib.hid (H201.out.later hb)
              replace HPC := Lib.hid (HPC.out.step t203.kept t203.new)
              replace HCH := Lib.hid (HCH.out.step t203.kept t203.new)
              replace BZ := Lib.hid (BZ.out.step t203.kept t203.new)
              clear t203
              clear hb
              have hlt := H203.out.inn.lt
              have hb : Below w202.heap.size w202 (w202.alloc (.cells #[.int .u64 xv, .int .u32 xr, .int .u32 xw] 40)) := below_a _ _
              have t205 : Step F w202 F (w202.alloc (.cells #[.int .u64 xv, .int .u32 xr, .int .u32 xw] 40)) := Step.of hb
              have H205 := Lib.hid (H203.out.later hb)
              replace HPC := Lib.hid (HPC.out.step t205.kept t205.new)
              replace HCH := Lib.hid (HCH.out.step t205.kept t205.new)
              replace BZ := Lib.hid (BZ.out.step t205.kept t205.new)
              clear t205
              have y0 : (w202.alloc (.cells #[.int .u64 xv, .int .u32 xr, .int .u32 xw] 40)).cell? ⟨w202.heap.size, 0, none⟩ = some (.int .u64 xv) := cell_nw _ _ _ 0 _ rfl
              have y1 : (w202.alloc (.cells #[.int .u64 xv, .int .u32 xr, .int .u32 xw] 40)).cell? ⟨w202.heap.size, 1, none⟩ = some (.int .u32 xr) := cell_nw _ _ _ 1 _ rfl
              have y2 : (w202.alloc (.cells #[.int .u64 xv, .int .u32 xr, .int .u32 xw] 40)).cell? ⟨w202.heap.size, 2, none⟩ = some (.int .u32 xw) := cell_nw _ _ _ 2 _ rfl
              have oy : w202.heap.size ∉ F := fun m => by have := hlt _ m; omega
              have ly := lt_of_cell y0
              have hS_y := Lib.hid (show (w202.alloc (.cells #[.int .u64 xv, .int .u32 xr, .int .u32 xw] 40)).heap.size = w202.heap.size + 1 by simp)
              clear hb hlt
              go_wp2_with fail
              generalize (w202.alloc (.cells #[.int .u64 xv, .int .u32 xr, .int .u32 xw] 40)) = W204 at *
              generalize w202.heap.size = b_y at *
              clear y0 y1 y2 oy ly
              have HPV := Lib.hid (show xv = firstV (s.M g) by rw [HXV.out, HOG.out])
              have HFI := Lib.hid (show firstI (s.M g) = id by rw [← HOG.out]; exact HID.out)
              obtain ⟨TL, hTL⟩ : ∃ T, T = tasksM (s.M g) := ⟨_, rfl⟩
              have HTT := Lib.hid (show tasksT s (g : Int) = TL by unfold tasksT; rw [if_pos (show hasV (s.n : Int) (g : Int) = true from decide_eq_true (by have := HNS.out; have := HGN.out; omega)), Int.toNat_natCast, hTL])
              have HTL := Lib.hid hTL
              obtain ⟨tn, htn⟩ : ∃ k, k = TL.length := ⟨_, rfl⟩
              have HTN := Lib.hid htn
              have HTM := Lib.hid (show tn ≤ 131072 by rw [htn, ← HTT.out]; exact tasksT_most H205.out.inn (g : Int))
              clear hTL
              go_wp2_with fail
              refine (pTasks_at (g : Int) W204 H205.out.inn).mono ?_
              rintro e w206 ⟨tv, rfl, ho, hb⟩
              rw [HTT.out, ← htn] at ho
              obtain ⟨ta, tc, rfl⟩ := own_shapeT ho
              have HTK := Lib.hid (own_tasks (F := F) ho H205.out.inn.lt)
              clear ho htn
              have t207 : Step F W204 F w206 := Step.of hb
              have H207 := Lib.hid (H205.out.later hb)
              replace HPC := Lib.hid (HPC.out.step t207.kept t207.new)
              replace HCH := Lib.hid (HCH.out.step t207.kept t207.new)
              replace BZ := Lib.hid (BZ.out.step t207.kept t207.new)
              clear t207
              clear hb
              go_wp2_with fail
              go_loopw [171] (fun i wr => ∃ k : Nat, k ≤ tn ∧ i = .int .i64 k ∧ TW w t s wr F ∧ ParC wr F bgs n (parG s.Gs) ∧ IntC wr F bc m (fun j => (L.map fun k : Nat => (k : Int))[j]!) ∧ BolC wr F bz n (nonE s) ∧ TaskC wr F ta tn TL) (fun i _ => tn - (intOf i).toNat)
              case atStart => exact ⟨0, Nat.zero_le _, rfl, H207.out, HPC.out, HCH.out, BZ.out, HTK.out⟩
              case round =>
                clear HPC HCH BZ HTK H207
                obtain ⟨k, hk, rfl, hI, hP, hC, hB, hT⟩ := hrel
                have HI := Lib.hid hI
                have HPC := Lib.hid hP
                have HCH := Lib.hid hC
                have BZ := Lib.hid hB
                have HTK := Lib.hid hT
                clear hI hP hC hB hT
                by_cases hkt : k < tn
                · have hki : (k : Int) < (tn : Int) := by omega
                  have y0 : decide ((k : Int) < (tn : Int)) = true := decide_eq_true hki
                  have hk0 : (0 : Int) ≤ (k : Int) := by omega
                  have wk : IntKind.i64.wrap ((k : Int) + 1) = (k : Int) + 1 := IntWalk.i64_in _ (by have := HTM.out; omega)
                  obtain ⟨bt, rfl, hTC⟩ := HTK.out k hkt
                  have q6 := hTC.cell k hkt
                  obtain ⟨o, ho⟩ : ∃ o, o = TL[k]! := ⟨_, rfl⟩
                  have hmem : o ∈ tasksM (s.M g) := by rw [ho, ← HTL.out]; exact list_at (by rw [← HTN.out]; exact hkt)
                  rw [← ho] at q6
                  obtain ⟨f1, f2, ⟨yv, yr, yw⟩, f3, f4, f5⟩ := task_get HOK.out hmem
                  have hhl := head_le (HORD.out g (by rw [HNS.out]; exact HGN.out)) f5
                  dsimp only at hhl
                  rw [← HPV.out] at hhl
                  have hob := (tasksM_mem.1 hmem).2
                  have HO := Lib.hid (show findC s o = 0 ∧ findG s o = (g : Int) ∧ pgetX s o = (yv, yr, yw) from ⟨f1, f2, f4⟩)
                  have HWO := Lib.hid (show (Lit.int .i64 o).wf = true from wfI (by have := find_one f1; omega) (by omega))
                  rw [HFI.out] at hhl
                  have hk9 : k = 0 → o = id ∧ yv = xv := fun e => by
                    obtain ⟨r, hr⟩ := tasksM_head HNE.out (by rw [HFI.out]; have := HI2.out; omega)
                    rw [e, HTL.out, hr] at ho
                    have h1 : o = id := ho.trans HFI.out
                    refine ⟨h1, ?_⟩
                    have h2 := f4
                    rw [h1, ← HX.out] at h2
                    simp only [Prod.mk.injEq] at h2
                    exact h2.1.symm
                  clear f1 f2 f3 f4 f5 hmem ho hTC
                  by_cases hkz : k = 0
                  · obtain ⟨rfl, rfl⟩ := hk9 hkz
                    have e1 : decide (yv < yv) = false := decide_eq_false (by omega)
                    have e2 : ((k : Int) == 0) = true := by simp; exact hkz
                    have e3 : decide (o < o) = false := decide_eq_false (by omega)
                    have e4 : (k == 0) = true := by simp; exact hkz
                    clear hhl hk9 hkz
                    go_wp2_with fail
                    refine (pGet_at o wr HI.out.inn HWO.out).mono ?_
                    rintro e w301 ⟨rfl, hb⟩
                    rw [HO.out.2.1, HO.out.2.2, decide_eq_true HO.out.1]
                    have t302 : Step F wr F w301 := Step.of hb
                    have H302 := Lib.hid (HI.out.later hb)
                    replace HPC := Lib.hid (HPC.out.step t302.kept t302.new)
                    replace HCH := Lib.hid (HCH.out.step t302.kept t302.new)
                    replace BZ := Lib.hid (BZ.out.step t302.kept t302.new)
                    replace HTK := Lib.hid (HTK.out.step t302.kept t302.new)
                    clear t302
                    clear hb
                    have hlt := H302.out.inn.lt
                    have hb : Below w301.heap.size w301 (w301.alloc (.cells #[.int .u64 yv, .int .u32 yr, .int .u32 yw] 40)) := below_a _ _
                    have t304 : Step F w301 F (w301.alloc (.cells #[.int .u64 yv, .int .u32 yr, .int .u32 yw] 40)) := Step.of hb
                    have H304 := Lib.hid (H302.out.later hb)
                    replace HPC := Lib.hid (HPC.out.step t304.kept t304.new)
                    replace HCH := Lib.hid (HCH.out.step t304.kept t304.new)
                    replace BZ := Lib.hid (BZ.out.step t304.kept t304.new)
                    replace HTK := Lib.hid (HTK.out.step t304.kept t304.new)
                    clear t304
                    have y0 : (w301.alloc (.cells #[.int .u64 yv, .int .u32 yr, .int .u32 yw] 40)).cell? ⟨w301.heap.size, 0, none⟩ = some (.int .u64 yv) := cell_nw _ _ _ 0 _ rfl
                    have y1 : (w301.alloc (.cells #[.int .u64 yv, .int .u32 yr, .int .u32 yw] 40)).cell? ⟨w301.heap.size, 1, none⟩ = some (.int .u32 yr) := cell_nw _ _ _ 1 _ rfl
                    have y2 : (w301.alloc (.cells #[.int .u64 yv, .int .u32 yr, .int .u32 yw] 40)).cell? ⟨w301.heap.size, 2, none⟩ = some (.int .u32 yw) := cell_nw _ _ _ 2 _ rfl
                    have oy : w301.heap.size ∉ F := fun m => by have := hlt _ m; omega
                    have ly := lt_of_cell y0
                    have hS_y := Lib.hid (show (w301.alloc (.cells #[.int .u64 yv, .int .u32 yr, .int .u32 yw] 40)).heap.size = w301.heap.size + 1 by simp)
                    clear hb hlt
                    go_wp2_with fail
                    generalize (w301.alloc (.cells #[.int .u64 yv, .int .u32 yr, .int .u32 yw] 40)) = W303 at *
                    generalize w301.heap.size = b_y at *
                    go_wp2_with fail
                    go_roundw
                    case rel => exact ⟨k + 1, by omega, by go_num, H304.out, HPC.out, HCH.out, BZ.out, HTK.out⟩
                    case measure => simp [intOf]; omega
                  · have e2 : ((k : Int) == 0) = false := by simp; exact hkz
                    have e4 : (k == 0) = false := by simp; exact hkz
                    have e5 : ¬ (k : Int) = 0 := by omega
                    clear hk9
                    by_cases hyx : yv = xv
                    · subst hyx
                      have e1 : decide (yv < yv) = false := decide_eq_false (by omega)
                      have e6 : (yv == yv) = true := by simp
                      have e3 : decide (o < id) = false := decide_eq_false (by omega)
                      have e7 : ¬ o < id := by omega
                      clear hhl
                      go_wp2_with fail
                      refine (pGet_at o wr HI.out.inn HWO.out).mono ?_
                      rintro e w301 ⟨rfl, hb⟩
                      rw [HO.out.2.1, HO.out.2.2, decide_eq_true HO.out.1]
                      have t302 : Step F wr F w301 := Step.of hb
                      have H302 := Lib.hid (HI.out.later hb)
                      replace HPC := Lib.hid (HPC.out.step t302.kept t302.new)
                      replace HCH := Lib.hid (HCH.out.step t302.kept t302.new)
                      replace BZ := Lib.hid (BZ.out.step t302.kept t302.new)
                      replace HTK := Lib.hid (HTK.out.step t302.kept t302.new)
                      clear t302
                      clear hb
                      have hlt := H302.out.inn.lt
                      have hb : Below w301.heap.size w301 (w301.alloc (.cells #[.int .u64 yv, .int .u32 yr, .int .u32 yw] 40)) := below_a _ _
                      have t304 : Step F w301 F (w301.alloc (.cells #[.int .u64 yv, .int .u32 yr, .int .u32 yw] 40)) := Step.of hb
                      have H304 := Lib.hid (H302.out.later hb)
                      replace HPC := Lib.hid (HPC.out.step t304.kept t304.new)
                      replace HCH := Lib.hid (HCH.out.step t304.kept t304.new)
                      replace BZ := Lib.hid (BZ.out.step t304.kept t304.new)
                      replace HTK := Lib.hid (HTK.out.step t304.kept t304.new)
                      clear t304
                      have y0 : (w301.alloc (.cells #[.int .u64 yv, .int .u32 yr, .int .u32 yw] 40)).cell? ⟨w301.heap.size, 0, none⟩ = some (.int .u64 yv) := cell_nw _ _ _ 0 _ rfl
                      have y1 : (w301.alloc (.cells #[.int .u64 yv, .int .u32 yr, .int .u32 yw] 40)).cell? ⟨w301.heap.size, 1, none⟩ = some (.int .u32 yr) := cell_nw _ _ _ 1 _ rfl
                      have y2 : (w301.alloc (.cells #[.int .u64 yv, .int .u32 yr, .int .u32 yw] 40)).cell? ⟨w301.heap.size, 2, none⟩ = some (.int .u32 yw) := cell_nw _ _ _ 2 _ rfl
                      have oy : w301.heap.size ∉ F := fun m => by have := hlt _ m; omega
                      have ly := lt_of_cell y0
                      have hS_y := Lib.hid (show (w301.alloc (.cells #[.int .u64 yv, .int .u32 yr, .int .u32 yw] 40)).heap.size = w301.heap.size + 1 by simp)
                      clear hb hlt
                      go_wp2_with fail
                      generalize (w301.alloc (.cells #[.int .u64 yv, .int .u32 yr, .int .u32 yw] 40)) = W303 at *
                      generalize w301.heap.size = b_y at *
                      go_wp2_with fail
                      go_roundw
                      case rel => exact ⟨k + 1, by omega, by go_num, H304.out, HPC.out, HCH.out, BZ.out, HTK.out⟩
                      case measure => simp [intOf]; omega
                    · have e1 : decide (yv < xv) = false := decide_eq_false (by omega)
                      have e6 : (yv == xv) = false := by simp; exact hyx
                      clear hhl
                      go_wp2_with fail
                      refine (pGet_at o wr HI.out.inn HWO.out).mono ?_
                      rintro e w301 ⟨rfl, hb⟩
                      rw [HO.out.2.1, HO.out.2.2, decide_eq_true HO.out.1]
                      have t302 : Step F wr F w301 := Step.of hb
                      have H302 := Lib.hid (HI.out.later hb)
                      replace HPC := Lib.hid (HPC.out.step t302.kept t302.new)
                      replace HCH := Lib.hid (HCH.out.step t302.kept t302.new)
                      replace BZ := Lib.hid (BZ.out.step t302.kept t302.new)
                      replace HTK := Lib.hid (HTK.out.step t302.kept t302.new)
                      clear t302
                      clear hb
                      have hlt := H302.out.inn.lt
                      have hb : Below w301.heap.size w301 (w301.alloc (.cells #[.int .u64 yv, .int .u32 yr, .int .u32 yw] 40)) := below_a _ _
                      have t304 : Step F w301 F (w301.alloc (.cells #[.int .u64 yv, .int .u32 yr, .int .u32 yw] 40)) := Step.of hb
                      have H304 := Lib.hid (H302.out.later hb)
                      replace HPC := Lib.hid (HPC.out.step t304.kept t304.new)
                      replace HCH := Lib.hid (HCH.out.step t304.kept t304.new)
                      replace BZ := Lib.hid (BZ.out.step t304.kept t304.new)
                      replace HTK := Lib.hid (HTK.out.step t304.kept t304.new)
                      clear t304
                      have y0 : (w301.alloc (.cells #[.int .u64 yv, .int .u32 yr, .int .u32 yw] 40)).cell? ⟨w301.heap.size, 0, none⟩ = some (.int .u64 yv) := cell_nw _ _ _ 0 _ rfl
                      have y1 : (w301.alloc (.cells #[.int .u64 yv, .int .u32 yr, .int .u32 yw] 40)).cell? ⟨w301.heap.size, 1, none⟩ = some (.int .u32 yr) := cell_nw _ _ _ 1 _ rfl
                      have y2 : (w301.alloc (.cells #[.int .u64 yv, .int .u32 yr, .int .u32 yw] 40)).cell? ⟨w301.heap.size, 2, none⟩ = some (.int .u32 yw) := cell_nw _ _ _ 2 _ rfl
                      have oy : w301.heap.size ∉ F := fun m => by have := hlt _ m; omega
                      have ly := lt_of_cell y0
                      have hS_y := Lib.hid (show (w301.alloc (.cells #[.int .u64 yv, .int .u32 yr, .int .u32 yw] 40)).heap.size = w301.heap.size + 1 by simp)
                      clear hb hlt
                      go_wp2_with fail
                      generalize (w301.alloc (.cells #[.int .u64 yv, .int .u32 yr, .int .u32 yw] 40)) = W303 at *
                      generalize w301.heap.size = b_y at *
                      go_wp2_with fail
                      go_roundw
                      case rel => exact ⟨k + 1, by omega, by go_num, H304.out, HPC.out, HCH.out, BZ.out, HTK.out⟩
                      case measure => simp [intOf]; omega
                · have HKT := Lib.hid (show k = tn by omega)
                  have y0 : decide ((k : Int) < (tn : Int)) = false := decide_eq_false (by omega)
                  have y1 : ¬ (k : Int) < (tn : Int) := by omega
                  clear hk hkt HTK
                  go_wp2_with fail
                  go_loopw [232] (fun i wr => ∃ k : Nat, k ≤ n ∧ i = .int .i64 k ∧ TW w t s wr F ∧ ParC wr F bgs n (parG s.Gs) ∧ IntC wr F bc m (fun j => (L.map fun k : Nat => (k : Int))[j]!) ∧ BolC wr F bz n (nonE s)) (fun i _ => n - (intOf i).toNat)
                  case atStart => exact ⟨0, Nat.zero_le _, rfl, HI.out, HPC.out, HCH.out, BZ.out⟩
                  case round =>
                    clear HI HPC HCH BZ
                    obtain ⟨h, hh, rfl, hI, hP, hC, hB⟩ := hrel
                    have HI := Lib.hid hI
                    have HPC := Lib.hid hP
                    have HCH := Lib.hid hC
                    have BZ := Lib.hid hB
                    clear hI hP hC hB
                    by_cases hhn : h < n
                    · have hhi : (h : Int) < (n : Int) := by omega
                      have v0 : decide ((h : Int) < (n : Int)) = true := decide_eq_true hhi
                      have hh0 : (0 : Int) ≤ (h : Int) := by omega
                      have q7 := HPC.out.2.2 h hhn
                      have q8 := BZ.out.cell h hhn
                      obtain ⟨⟨sv, sr, sf⟩, hsp⟩ : ∃ p, p = pSpotV s (h : Int) := ⟨_, rfl⟩
                      have HSC := Lib.hid (show pSpotC s (h : Int) = 0 by unfold pSpotC; rw [if_pos (show hasV (s.n : Int) (h : Int) = true from decide_eq_true (by have := HNS.out; omega))])
                      have HSP := Lib.hid hsp
                      have hsg := fun (h0 : 0 < h) (hn : nonE s h = true) => spot_get HOK.out h0 (by rw [HNS.out]; exact hhn) hn
                      clear hsp
                      by_cases h0 : 0 < h
                      · have v1 : decide ((h : Int) > 0) = true := decide_eq_true (by omega)
                        have v2 : decide (0 < h) = true := decide_eq_true h0
                        have v3 : (0 : Int) < (h : Int) := by omega
                        obtain ⟨ph, hph⟩ : ∃ k, k = parG s.Gs h := ⟨_, rfl⟩
                        rw [← hph] at q7
                        by_cases hpg : ph = g
                        · have v4 : ((ph : Int) == (g : Int)) = true := by simp; omega
                          have v5 : (ph == g) = true := by simp; exact hpg
                          cases hn : nonE s h with
                          | false =>
                            rw [hn] at q8
                            clear hsg hn hph
                            go_wp2_with fail
                            refine (pSpot_at (h : Int) wr HI.out.inn).mono ?_
                            rintro e w401 ⟨rfl, hb⟩
                            rw [HSC.out, ← HSP.out]
                            replace q7 := cell_later hb q7
                            replace q8 := cell_later hb q8
                            have t402 : Step F wr F w401 := Step.of hb
                            have H402 := Lib.hid (HI.out.later hb)
                            replace HPC := Lib.hid (HPC.out.step t402.kept t402.new)
                            replace HCH := Lib.hid (HCH.out.step t402.kept t402.new)
                            replace BZ := Lib.hid (BZ.out.step t402.kept t402.new)
                            clear t402
                            clear hb
                            have hlt := H402.out.inn.lt
                            have hb : Below w401.heap.size w401 (w401.alloc (.cells #[.int .u64 sv, .int .u32 sr, .int .u64 sf] 55)) := below_a _ _
                            replace q7 := cell_later hb q7
                            replace q8 := cell_later hb q8
                            have t404 : Step F w401 F (w401.alloc (.cells #[.int .u64 sv, .int .u32 sr, .int .u64 sf] 55)) := Step.of hb
                            have H404 := Lib.hid (H402.out.later hb)
                            replace HPC := Lib.hid (HPC.out.step t404.kept t404.new)
                            replace HCH := Lib.hid (HCH.out.step t404.kept t404.new)
                            replace BZ := Lib.hid (BZ.out.step t404.kept t404.new)
                            clear t404
                            have d0 : (w401.alloc (.cells #[.int .u64 sv, .int .u32 sr, .int .u64 sf] 55)).cell? ⟨w401.heap.size, 0, none⟩ = some (.int .u64 sv) := cell_nw _ _ _ 0 _ rfl
                            have d1 : (w401.alloc (.cells #[.int .u64 sv, .int .u32 sr, .int .u64 sf] 55)).cell? ⟨w401.heap.size, 1, none⟩ = some (.int .u32 sr) := cell_nw _ _ _ 1 _ rfl
                            have d2 : (w401.alloc (.cells #[.int .u64 sv, .int .u32 sr, .int .u64 sf] 55)).cell? ⟨w401.heap.size, 2, none⟩ = some (.int .u64 sf) := cell_nw _ _ _ 2 _ rfl
                            have od : w401.heap.size ∉ F := fun m => by have := hlt _ m; omega
                            have ld := lt_of_cell d0
                            have hS_d := Lib.hid (show (w401.alloc (.cells #[.int .u64 sv, .int .u32 sr, .int .u64 sf] 55)).heap.size = w401.heap.size + 1 by simp)
                            clear hb hlt
                            go_wp2_with fail
                            generalize (w401.alloc (.cells #[.int .u64 sv, .int .u32 sr, .int .u64 sf] 55)) = W403 at *
                            generalize w401.heap.size = b_d at *
                            go_wp2_with fail
                            go_roundw
                            case rel => exact ⟨h + 1, by omega, by go_num, H404.out, HPC.out, HCH.out, BZ.out⟩
                            case measure => simp [intOf]; omega
                          | true =>
                            rw [hn] at q8
                            obtain ⟨⟨tv, tr, tw⟩, t1, t2, t3⟩ := hsg h0 hn
                            rw [← hph, hpg] at t3
                            rw [← HSP.out] at t2
                            dsimp only at t2
                            subst t2
                            have hhl := head_le (HORD.out g (by rw [HNS.out]; exact HGN.out)) t3
                            dsimp only at hhl
                            rw [← HPV.out, HFI.out] at hhl
                            have v6 : decide (sv < xv) = false := decide_eq_false (by omega)
                            have v7 : ¬ sv < xv := by omega
                            clear hsg t1 t3 hn hph
                            by_cases hsv : sv = xv
                            · subst hsv
                              have v8 : (sv == sv) = true := by simp
                              clear hhl
                              go_wp2_with fail
                              refine (pSpot_at (h : Int) wr HI.out.inn).mono ?_
                              rintro e w401 ⟨rfl, hb⟩
                              rw [HSC.out, ← HSP.out]
                              replace q7 := cell_later hb q7
                              replace q8 := cell_later hb q8
                              have t402 : Step F wr F w401 := Step.of hb
                              have H402 := Lib.hid (HI.out.later hb)
                              replace HPC := Lib.hid (HPC.out.step t402.kept t402.new)
                              replace HCH := Lib.hid (HCH.out.step t402.kept t402.new)
                              replace BZ := Lib.hid (BZ.out.step t402.kept t402.new)
                              clear t402
                              clear hb
                              have hlt := H402.out.inn.lt
                              have hb : Below w401.heap.size w401 (w401.alloc (.cells #[.int .u64 sv, .int .u32 sr, .int .u64 sf] 55)) := below_a _ _
                              replace q7 := cell_later hb q7
                              replace q8 := cell_later hb q8
                              have t404 : Step F w401 F (w401.alloc (.cells #[.int .u64 sv, .int .u32 sr, .int .u64 sf] 55)) := Step.of hb
                              have H404 := Lib.hid (H402.out.later hb)
                              replace HPC := Lib.hid (HPC.out.step t404.kept t404.new)
                              replace HCH := Lib.hid (HCH.out.step t404.kept t404.new)
                              replace BZ := Lib.hid (BZ.out.step t404.kept t404.new)
                              clear t404
                              have d0 : (w401.alloc (.cells #[.int .u64 sv, .int .u32 sr, .int .u64 sf] 55)).cell? ⟨w401.heap.size, 0, none⟩ = some (.int .u64 sv) := cell_nw _ _ _ 0 _ rfl
                              have d1 : (w401.alloc (.cells #[.int .u64 sv, .int .u32 sr, .int .u64 sf] 55)).cell? ⟨w401.heap.size, 1, none⟩ = some (.int .u32 sr) := cell_nw _ _ _ 1 _ rfl
                              have d2 : (w401.alloc (.cells #[.int .u64 sv, .int .u32 sr, .int .u64 sf] 55)).cell? ⟨w401.heap.size, 2, none⟩ = some (.int .u64 sf) := cell_nw _ _ _ 2 _ rfl
                              have od : w401.heap.size ∉ F := fun m => by have := hlt _ m; omega
                              have ld := lt_of_cell d0
                              have hS_d := Lib.hid (show (w401.alloc (.cells #[.int .u64 sv, .int .u32 sr, .int .u64 sf] 55)).heap.size = w401.heap.size + 1 by simp)
                              clear hb hlt
                              go_wp2_with fail
                              generalize (w401.alloc (.cells #[.int .u64 sv, .int .u32 sr, .int .u64 sf] 55)) = W403 at *
                              generalize w401.heap.size = b_d at *
                              go_wp2_with fail
                              go_roundw
                              case rel => exact ⟨h + 1, by omega, by go_num, H404.out, HPC.out, HCH.out, BZ.out⟩
                              case measure => simp [intOf]; omega
                            · have v8 : (sv == xv) = false := by simp; exact hsv
                              clear hhl
                              go_wp2_with fail
                              refine (pSpot_at (h : Int) wr HI.out.inn).mono ?_
                              rintro e w401 ⟨rfl, hb⟩
                              rw [HSC.out, ← HSP.out]
                              replace q7 := cell_later hb q7
                              replace q8 := cell_later hb q8
                              have t402 : Step F wr F w401 := Step.of hb
                              have H402 := Lib.hid (HI.out.later hb)
                              replace HPC := Lib.hid (HPC.out.step t402.kept t402.new)
                              replace HCH := Lib.hid (HCH.out.step t402.kept t402.new)
                              replace BZ := Lib.hid (BZ.out.step t402.kept t402.new)
                              clear t402
                              clear hb
                              have hlt := H402.out.inn.lt
                              have hb : Below w401.heap.size w401 (w401.alloc (.cells #[.int .u64 sv, .int .u32 sr, .int .u64 sf] 55)) := below_a _ _
                              replace q7 := cell_later hb q7
                              replace q8 := cell_later hb q8
                              have t404 : Step F w401 F (w401.alloc (.cells #[.int .u64 sv, .int .u32 sr, .int .u64 sf] 55)) := Step.of hb
                              have H404 := Lib.hid (H402.out.later hb)
                              replace HPC := Lib.hid (HPC.out.step t404.kept t404.new)
                              replace HCH := Lib.hid (HCH.out.step t404.kept t404.new)
                              replace BZ := Lib.hid (BZ.out.step t404.kept t404.new)
                              clear t404
                              have d0 : (w401.alloc (.cells #[.int .u64 sv, .int .u32 sr, .int .u64 sf] 55)).cell? ⟨w401.heap.size, 0, none⟩ = some (.int .u64 sv) := cell_nw _ _ _ 0 _ rfl
                              have d1 : (w401.alloc (.cells #[.int .u64 sv, .int .u32 sr, .int .u64 sf] 55)).cell? ⟨w401.heap.size, 1, none⟩ = some (.int .u32 sr) := cell_nw _ _ _ 1 _ rfl
                              have d2 : (w401.alloc (.cells #[.int .u64 sv, .int .u32 sr, .int .u64 sf] 55)).cell? ⟨w401.heap.size, 2, none⟩ = some (.int .u64 sf) := cell_nw _ _ _ 2 _ rfl
                              have od : w401.heap.size ∉ F := fun m => by have := hlt _ m; omega
                              have ld := lt_of_cell d0
                              have hS_d := Lib.hid (show (w401.alloc (.cells #[.int .u64 sv, .int .u32 sr, .int .u64 sf] 55)).heap.size = w401.heap.size + 1 by simp)
                              clear hb hlt
                              go_wp2_with fail
                              generalize (w401.alloc (.cells #[.int .u64 sv, .int .u32 sr, .int .u64 sf] 55)) = W403 at *
                              generalize w401.heap.size = b_d at *
                              go_wp2_with fail
                              go_roundw
                              case rel => exact ⟨h + 1, by omega, by go_num, H404.out, HPC.out, HCH.out, BZ.out⟩
                              case measure => simp [intOf]; omega
                        · have v4 : ((ph : Int) == (g : Int)) = false := by simp; omega
                          have v5 : (ph == g) = false := by simp; exact hpg
                          clear hsg hph
                          go_wp2_with fail
                          refine (pSpot_at (h : Int) wr HI.out.inn).mono ?_
                          rintro e w401 ⟨rfl, hb⟩
                          rw [HSC.out, ← HSP.out]
                          replace q7 := cell_later hb q7
                          replace q8 := cell_later hb q8
                          have t402 : Step F wr F w401 := Step.of hb
                          have H402 := Lib.hid (HI.out.later hb)
                          replace HPC := Lib.hid (HPC.out.step t402.kept t402.new)
                          replace HCH := Lib.hid (HCH.out.step t402.kept t402.new)
                          replace BZ := Lib.hid (BZ.out.step t402.kept t402.new)
                          clear t402
                          clear hb
                          have hlt := H402.out.inn.lt
                          have hb : Below w401.heap.size w401 (w401.alloc (.cells #[.int .u64 sv, .int .u32 sr, .int .u64 sf] 55)) := below_a _ _
                          replace q7 := cell_later hb q7
                          replace q8 := cell_later hb q8
                          have t404 : Step F w401 F (w401.alloc (.cells #[.int .u64 sv, .int .u32 sr, .int .u64 sf] 55)) := Step.of hb
                          have H404 := Lib.hid (H402.out.later hb)
                          replace HPC := Lib.hid (HPC.out.step t404.kept t404.new)
                          replace HCH := Lib.hid (HCH.out.step t404.kept t404.new)
                          replace BZ := Lib.hid (BZ.out.step t404.kept t404.new)
                          clear t404
                          have d0 : (w401.alloc (.cells #[.int .u64 sv, .int .u32 sr, .int .u64 sf] 55)).cell? ⟨w401.heap.size, 0, none⟩ = some (.int .u64 sv) := cell_nw _ _ _ 0 _ rfl
                          have d1 : (w401.alloc (.cells #[.int .u64 sv, .int .u32 sr, .int .u64 sf] 55)).cell? ⟨w401.heap.size, 1, none⟩ = some (.int .u32 sr) := cell_nw _ _ _ 1 _ rfl
                          have d2 : (w401.alloc (.cells #[.int .u64 sv, .int .u32 sr, .int .u64 sf] 55)).cell? ⟨w401.heap.size, 2, none⟩ = some (.int .u64 sf) := cell_nw _ _ _ 2 _ rfl
                          have od : w401.heap.size ∉ F := fun m => by have := hlt _ m; omega
                          have ld := lt_of_cell d0
                          have hS_d := Lib.hid (show (w401.alloc (.cells #[.int .u64 sv, .int .u32 sr, .int .u64 sf] 55)).heap.size = w401.heap.size + 1 by simp)
                          clear hb hlt
                          go_wp2_with fail
                          generalize (w401.alloc (.cells #[.int .u64 sv, .int .u32 sr, .int .u64 sf] 55)) = W403 at *
                          generalize w401.heap.size = b_d at *
                          go_wp2_with fail
                          go_roundw
                          case rel => exact ⟨h + 1, by omega, by go_num, H404.out, HPC.out, HCH.out, BZ.out⟩
                          case measure => simp [intOf]; omega
                      · have v1 : decide ((h : Int) > 0) = false := decide_eq_false (by omega)
                        have v2 : decide (0 < h) = false := decide_eq_false h0
                        have v3 : ¬ (0 : Int) < (h : Int) := by omega
                        clear hsg
                        go_wp2_with fail
                        refine (pSpot_at (h : Int) wr HI.out.inn).mono ?_
                        rintro e w401 ⟨rfl, hb⟩
                        rw [HSC.out, ← HSP.out]
                        replace q7 := cell_later hb q7
                        replace q8 := cell_later hb q8
                        have t402 : Step F wr F w401 := Step.of hb
                        have H402 := Lib.hid (HI.out.later hb)
                        replace HPC := Lib.hid (HPC.out.step t402.kept t402.new)
                        replace HCH := Lib.hid (HCH.out.step t402.kept t402.new)
                        replace BZ := Lib.hid (BZ.out.step t402.kept t402.new)
                        clear t402
                        clear hb
                        have hlt := H402.out.inn.lt
                        have hb : Below w401.heap.size w401 (w401.alloc (.cells #[.int .u64 sv, .int .u32 sr, .int .u64 sf] 55)) := below_a _ _
                        replace q7 := cell_later hb q7
                        replace q8 := cell_later hb q8
                        have t404 : Step F w401 F (w401.alloc (.cells #[.int .u64 sv, .int .u32 sr, .int .u64 sf] 55)) := Step.of hb
                        have H404 := Lib.hid (H402.out.later hb)
                        replace HPC := Lib.hid (HPC.out.step t404.kept t404.new)
                        replace HCH := Lib.hid (HCH.out.step t404.kept t404.new)
                        replace BZ := Lib.hid (BZ.out.step t404.kept t404.new)
                        clear t404
                        have d0 : (w401.alloc (.cells #[.int .u64 sv, .int .u32 sr, .int .u64 sf] 55)).cell? ⟨w401.heap.size, 0, none⟩ = some (.int .u64 sv) := cell_nw _ _ _ 0 _ rfl
                        have d1 : (w401.alloc (.cells #[.int .u64 sv, .int .u32 sr, .int .u64 sf] 55)).cell? ⟨w401.heap.size, 1, none⟩ = some (.int .u32 sr) := cell_nw _ _ _ 1 _ rfl
                        have d2 : (w401.alloc (.cells #[.int .u64 sv, .int .u32 sr, .int .u64 sf] 55)).cell? ⟨w401.heap.size, 2, none⟩ = some (.int .u64 sf) := cell_nw _ _ _ 2 _ rfl
                        have od : w401.heap.size ∉ F := fun m => by have := hlt _ m; omega
                        have ld := lt_of_cell d0
                        have hS_d := Lib.hid (show (w401.alloc (.cells #[.int .u64 sv, .int .u32 sr, .int .u64 sf] 55)).heap.size = w401.heap.size + 1 by simp)
                        clear hb hlt
                        go_wp2_with fail
                        generalize (w401.alloc (.cells #[.int .u64 sv, .int .u32 sr, .int .u64 sf] 55)) = W403 at *
                        generalize w401.heap.size = b_d at *
                        go_wp2_with fail
                        go_roundw
                        case rel => exact ⟨h + 1, by omega, by go_num, H404.out, HPC.out, HCH.out, BZ.out⟩
                        case measure => simp [intOf]; omega
                    · have HHN := Lib.hid (show h = n by omega)
                      have v0 : decide ((h : Int) < (n : Int)) = false := decide_eq_false (by omega)
                      have v1 : ¬ (h : Int) < (n : Int) := by omega
                      clear hh hhn
                      go_wp2_with fail
                      go_roundw
                      case rel => exact ⟨i + 1, by omega, by go_num, HI.out, HPC.out, HCH.out, BZ.out⟩
                      case measure => simp [intOf]; omega
        · have z5 : decide ((i : Int) > 0) = true := decide_eq_true (by omega)
          have z6 : (0 : Int) < (i : Int) := by omega
          have z9 : 0 < i := by omega
          have z10 : decide (0 < i) = true := decide_eq_true z9
          obtain ⟨ip, hip⟩ : ∃ ip, i = ip + 1 := ⟨i - 1, by omega⟩
          have w2 : IntKind.i64.wrap ((i : Int) - 1) = (ip : Int) := by rw [show (i : Int) - 1 = (ip : Int) by omega]; exact IntWalk.i64_in _ (by have := HMN.out; omega)
          have q3 := HCH.out.cell ip (by omega)
          rw [HLL.out ip (by omega)] at q3
          have q4 := HPC.out.2.2 g HGN.out
          have hpp : parG s.Gs g = L[ip]! := by have := (HLO.out.next ip (by have := HM1.out; omega)).2.2; rw [HG.out, hip]; exact this
          rw [hpp] at q4
          have hipm : (ip : Int) < (m : Int) := by omega
          have hip0 : (0 : Int) ≤ (ip : Int) := by omega
          generalize L[ip]! = pg at q3 q4
          clear hi9 hip hpp
          by_cases hla : i + 1 < m
          · as_aux_lemma =>
              have z11 : decide ((i : Int) + 1 < (m : Int)) = true := decide_eq_true (by omega)
              have z12 : (i : Int) + 1 < (m : Int) := by omega
              have z13 : decide (i + 1 < m) = true := decide_eq_true hla
              obtain ⟨c, hc⟩ : ∃ c, c = L[i + 1]! := ⟨_, rfl⟩
              have q5 := HCH.out.cell (i + 1) hla
              rw [HLL.out (i + 1) hla, ← hc] at q5
              obtain ⟨n1, n2, n3⟩ := HLO.out.next i (by rw [← HM1.out]; exact hla)
              rw [← hc, ← HG.out] at n1 n3
              rw [← hc] at n2
              have hcn : c < n := by have := (HLO.out.grp (i + 1) (by rw [← HM1.out]; exact hla)).1; rw [← hc, HNS.out] at this; exact this
              have hci : (c : Int) < (n : Int) := by omega
              have hc0 : (0 : Int) ≤ (c : Int) := by omega
              have hi10 : (0 : Int) ≤ (i : Int) + 1 := by omega
              have HN1 := Lib.hid (And.intro n1 (And.intro n2 n3))
              have hcL := hc
              clear hc n1 n2 n3
              go_wp2_with fail
              go_quiet (fail)
              first | refine wp_world (fun W1 hW1 => ?_) | refine q_world (fun W1 hW1 => ?_) | refine calls_world (fun W1 hW1 => ?_)
              have hb : Below wr.heap.size wr W1 := by rw [hW1]; exact below_drewN (Below.refl _ _) _
              clear hW1
              have t201 : Step F wr F W1 := Step.of hb
              have H201 := Lib.hid (HI.out.later hb)
              replace HPC := Lib.hid (HPC.out.step t201.kept t201.new)
              replace HCH := Lib.hid (HCH.out.step t201.kept t201.new)
              replace BZ := Lib.hid (BZ.out.step t201.kept t201.new)
              clear t201
              replace q5 := cell_later hb q5
              clear hb
              obtain ⟨⟨pv, pr, pf⟩, hp⟩ : ∃ p, p = pSpotV s (c : Int) := ⟨_, rfl⟩
              have A1 := pSpot_at (c : Int) W1 H201.out.inn
              rw [← hp, show pSpotC s (c : Int) = 0 by unfold pSpotC; rw [if_pos (show hasV (s.n : Int) (c : Int) = true from decide_eq_true (by have := HNS.out; omega))]] at A1
              dsimp only at A1
              have HPV := Lib.hid (show pv = firstV (s.M g) from spot_first HOK.out HN1.out.1 HN1.out.2.1 (by rw [HNS.out]; exact hcn) HN1.out.2.2 (HLO.out.grp (i + 1) (by rw [← HM1.out]; exact hla)).2 hcL hp)
              have HCL := Lib.hid hcL
              clear hp hcL
              go_wp2_with fail
              refine A1.mono ?_; clear A1; rintro e w3 ⟨rfl, hb⟩
              have t202 : Step F W1 F w3 := Step.of hb
              have H202 := Lib.hid (H201.out.later hb)
              replace HPC := Lib.hid (HPC.out.step t202.kept t202.new)
              replace HCH := Lib.hid (HCH.out.step t202.kept t202.new)
              replace BZ := Lib.hid (BZ.out.step t202.kept t202.new)
              clear t202
              clear hb q5
              have hlt := H202.out.inn.lt
              have hb : Below w3.heap.size w3 (w3.alloc (.cells #[.int .u64 pv, .int .u32 pr, .int .u64 pf] 55)) := below_a _ _
              have t204 : Step F w3 F (w3.alloc (.cells #[.int .u64 pv, .int .u32 pr, .int .u64 pf] 55)) := Step.of hb
              have H204 := Lib.hid (H202.out.later hb)
              replace HPC := Lib.hid (HPC.out.step t204.kept t204.new)
              replace HCH := Lib.hid (HCH.out.step t204.kept t204.new)
              replace BZ := Lib.hid (BZ.out.step t204.kept t204.new)
              clear t204
              have p0 : (w3.alloc (.cells #[.int .u64 pv, .int .u32 pr, .int .u64 pf] 55)).cell? ⟨w3.heap.size, 0, none⟩ = some (.int .u64 pv) := cell_nw _ _ _ 0 _ rfl
              have p1 : (w3.alloc (.cells #[.int .u64 pv, .int .u32 pr, .int .u64 pf] 55)).cell? ⟨w3.heap.size, 1, none⟩ = some (.int .u32 pr) := cell_nw _ _ _ 1 _ rfl
              have p2 : (w3.alloc (.cells #[.int .u64 pv, .int .u32 pr, .int .u64 pf] 55)).cell? ⟨w3.heap.size, 2, none⟩ = some (.int .u64 pf) := cell_nw _ _ _ 2 _ rfl
              have op : w3.heap.size ∉ F := fun m => by have := hlt _ m; omega
              have lp := lt_of_cell p0
              have hS_p := Lib.hid (show (w3.alloc (.cells #[.int .u64 pv, .int .u32 pr, .int .u64 pf] 55)).heap.size = w3.heap.size + 1 by simp)
              clear hb hlt
              go_wp2_with fail
              generalize (w3.alloc (.cells #[.int .u64 pv, .int .u32 pr, .int .u64 pf] 55)) = W203 at *
              generalize w3.heap.size = b_p at *
              have q5 := HCH.out.cell (i + 1) hla
              rw [HLL.out (i + 1) hla, ← HCL.out] at q5
              go_quiet (fail)
              first | refine wp_world (fun W4 hW4 => ?_) | refine q_world (fun W4 hW4 => ?_)
              have hb : Below W203.heap.size W203 W4 := by rw [hW4]; exact below_drewN (Below.refl _ _) _
              have t205 : Step F W203 F W4 := Step.of hb
              have H205 := Lib.hid (H204.out.later hb)
              replace HPC := Lib.hid (HPC.out.step t205.kept t205.new)
              replace HCH := Lib.hid (HCH.out.step t205.kept t205.new)
              replace BZ := Lib.hid (BZ.out.step t205.kept t205.new)
              clear t205
              clear hb hW4 q5 p0 p1 p2 op lp
              obtain ⟨TL, hTL⟩ : ∃ T, T = tasksM (s.M g) := ⟨_, rfl⟩
              have HTT := Lib.hid (show tasksT s (g : Int) = TL by unfold tasksT; rw [if_pos (show hasV (s.n : Int) (g : Int) = true from decide_eq_true (by have := HNS.out; have := HGN.out; omega)), Int.toNat_natCast, hTL])
              have HTL := Lib.hid hTL
              obtain ⟨tn, htn⟩ : ∃ k, k = TL.length := ⟨_, rfl⟩
              have HTN := Lib.hid htn
              have HTM := Lib.hid (show tn ≤ 131072 by rw [htn, ← HTT.out]; exact tasksT_most H205.out.inn (g : Int))
              clear hTL
              go_wp2_with fail
              refine (pTasks_at (g : Int) W4 H205.out.inn).mono ?_
              rintro e w206 ⟨tv, rfl, ho, hb⟩
              rw [HTT.out, ← htn] at ho
              obtain ⟨ta, tc, rfl⟩ := own_shapeT ho
              have HTK := Lib.hid (own_tasks (F := F) ho H205.out.inn.lt)
              clear ho htn
              have t207 : Step F W4 F w206 := Step.of hb
              have H207 := Lib.hid (H205.out.later hb)
              replace HPC := Lib.hid (HPC.out.step t207.kept t207.new)
              replace HCH := Lib.hid (HCH.out.step t207.kept t207.new)
              replace BZ := Lib.hid (BZ.out.step t207.kept t207.new)
              clear t207
              clear hb
              go_wp2_with fail
              go_loopw [171] (fun i wr => ∃ k : Nat, k ≤ tn ∧ i = .int .i64 k ∧ TW w t s wr F ∧ ParC wr F bgs n (parG s.Gs) ∧ IntC wr F bc m (fun j => (L.map fun k : Nat => (k : Int))[j]!) ∧ BolC wr F bz n (nonE s) ∧ TaskC wr F ta tn TL) (fun i _ => tn - (intOf i).toNat)
              case atStart => exact ⟨0, Nat.zero_le _, rfl, H207.out, HPC.out, HCH.out, BZ.out, HTK.out⟩
              case round =>
                clear HPC HCH BZ HTK H207
                obtain ⟨k, hk, rfl, hI, hP, hC, hB, hT⟩ := hrel
                have HI := Lib.hid hI
                have HPC := Lib.hid hP
                have HCH := Lib.hid hC
                have BZ := Lib.hid hB
                have HTK := Lib.hid hT
                clear hI hP hC hB hT
                by_cases hkt : k < tn
                · have hki : (k : Int) < (tn : Int) := by omega
                  have y0 : decide ((k : Int) < (tn : Int)) = true := decide_eq_true hki
                  have hk0 : (0 : Int) ≤ (k : Int) := by omega
                  have wk : IntKind.i64.wrap ((k : Int) + 1) = (k : Int) + 1 := IntWalk.i64_in _ (by have := HTM.out; omega)
                  obtain ⟨bt, rfl, hTC⟩ := HTK.out k hkt
                  have q6 := hTC.cell k hkt
                  obtain ⟨o, ho⟩ : ∃ o, o = TL[k]! := ⟨_, rfl⟩
                  have hmem : o ∈ tasksM (s.M g) := by rw [ho, ← HTL.out]; exact list_at (by rw [← HTN.out]; exact hkt)
                  rw [← ho] at q6
                  obtain ⟨f1, f2, ⟨yv, yr, yw⟩, f3, f4, f5⟩ := task_get HOK.out hmem
                  have hhl := head_le (HORD.out g (by rw [HNS.out]; exact HGN.out)) f5
                  dsimp only at hhl
                  rw [← HPV.out] at hhl
                  have hob := (tasksM_mem.1 hmem).2
                  have HO := Lib.hid (show findC s o = 0 ∧ findG s o = (g : Int) ∧ pgetX s o = (yv, yr, yw) from ⟨f1, f2, f4⟩)
                  have HWO := Lib.hid (show (Lit.int .i64 o).wf = true from wfI (by have := find_one f1; omega) (by omega))
                  rw [HN1.out.1] at hhl
                  clear f1 f2 f3 f4 f5 hmem ho hTC
                  have e1 : decide (yv < pv) = false := decide_eq_false (by omega)
                  have e2 : (yv == pv) = false := by simp; omega
                  have e3 : decide ((c : Int) < 0) = false := decide_eq_false (by omega)
                  have e4 : decide ((c : Int) ≥ 0) = true := decide_eq_true (by omega)
                  have e5 : ¬ yv < pv := by omega
                  have e6 : ¬ yv = pv := by omega
                  clear hhl
                  go_wp2_with fail
                  refine (pGet_at o wr HI.out.inn HWO.out).mono ?_
                  rintro e w301 ⟨rfl, hb⟩
                  rw [HO.out.2.1, HO.out.2.2, decide_eq_true HO.out.1]
                  have t302 : Step F wr F w301 := Step.of hb
                  have H302 := Lib.hid (HI.out.later hb)
                  replace HPC := Lib.hid (HPC.out.step t302.kept t302.new)
                  replace HCH := Lib.hid (HCH.out.step t302.kept t302.new)
                  replace BZ := Lib.hid (BZ.out.step t302.kept t302.new)
                  replace HTK := Lib.hid (HTK.out.step t302.kept t302.new)
                  clear t302
                  clear hb
                  have hlt := H302.out.inn.lt
                  have hb : Below w301.heap.size w301 (w301.alloc (.cells #[.int .u64 yv, .int .u32 yr, .int .u32 yw] 40)) := below_a _ _
                  have t304 : Step F w301 F (w301.alloc (.cells #[.int .u64 yv, .int .u32 yr, .int .u32 yw] 40)) := Step.of hb
                  have H304 := Lib.hid (H302.out.later hb)
                  replace HPC := Lib.hid (HPC.out.step t304.kept t304.new)
                  replace HCH := Lib.hid (HCH.out.step t304.kept t304.new)
                  replace BZ := Lib.hid (BZ.out.step t304.kept t304.new)
                  replace HTK := Lib.hid (HTK.out.step t304.kept t304.new)
                  clear t304
                  have y0 : (w301.alloc (.cells #[.int .u64 yv, .int .u32 yr, .int .u32 yw] 40)).cell? ⟨w301.heap.size, 0, none⟩ = some (.int .u64 yv) := cell_nw _ _ _ 0 _ rfl
                  have y1 : (w301.alloc (.cells #[.int .u64 yv, .int .u32 yr, .int .u32 yw] 40)).cell? ⟨w301.heap.size, 1, none⟩ = some (.int .u32 yr) := cell_nw _ _ _ 1 _ rfl
                  have y2 : (w301.alloc (.cells #[.int .u64 yv, .int .u32 yr, .int .u32 yw] 40)).cell? ⟨w301.heap.size, 2, none⟩ = some (.int .u32 yw) := cell_nw _ _ _ 2 _ rfl
                  have oy : w301.heap.size ∉ F := fun m => by have := hlt _ m; omega
                  have ly := lt_of_cell y0
                  have hS_y := Lib.hid (show (w301.alloc (.cells #[.int .u64 yv, .int .u32 yr, .int .u32 yw] 40)).heap.size = w301.heap.size + 1 by simp)
                  clear hb hlt
                  go_wp2_with fail
                  generalize (w301.alloc (.cells #[.int .u64 yv, .int .u32 yr, .int .u32 yw] 40)) = W303 at *
                  generalize w301.heap.size = b_y at *
                  go_wp2_with fail
                  go_roundw
                  case rel => exact ⟨k + 1, by omega, by go_num, H304.out, HPC.out, HCH.out, BZ.out, HTK.out⟩
                  case measure => simp [intOf]; omega
                · have HKT := Lib.hid (show k = tn by omega)
                  have y0 : decide ((k : Int) < (tn : Int)) = false := decide_eq_false (by omega)
                  have y1 : ¬ (k : Int) < (tn : Int) := by omega
                  clear hk hkt HTK
                  go_wp2_with fail
                  go_loopw [232] (fun i wr => ∃ k : Nat, k ≤ n ∧ i = .int .i64 k ∧ TW w t s wr F ∧ ParC wr F bgs n (parG s.Gs) ∧ IntC wr F bc m (fun j => (L.map fun k : Nat => (k : Int))[j]!) ∧ BolC wr F bz n (nonE s)) (fun i _ => n - (intOf i).toNat)
                  case atStart => exact ⟨0, Nat.zero_le _, rfl, HI.out, HPC.out, HCH.out, BZ.out⟩
                  case round =>
                    clear HI HPC HCH BZ
                    obtain ⟨h, hh, rfl, hI, hP, hC, hB⟩ := hrel
                    have HI := Lib.hid hI
                    have HPC := Lib.hid hP
                    have HCH := Lib.hid hC
                    have BZ := Lib.hid hB
                    clear hI hP hC hB
                    by_cases hhn : h < n
                    · have hhi : (h : Int) < (n : Int) := by omega
                      have v0 : decide ((h : Int) < (n : Int)) = true := decide_eq_true hhi
                      have hh0 : (0 : Int) ≤ (h : Int) := by omega
                      have q7 := HPC.out.2.2 h hhn
                      have q8 := BZ.out.cell h hhn
                      obtain ⟨⟨sv, sr, sf⟩, hsp⟩ : ∃ p, p = pSpotV s (h : Int) := ⟨_, rfl⟩
                      have HSC := Lib.hid (show pSpotC s (h : Int) = 0 by unfold pSpotC; rw [if_pos (show hasV (s.n : Int) (h : Int) = true from decide_eq_true (by have := HNS.out; omega))])
                      have HSP := Lib.hid hsp
                      have hsg := fun (h0 : 0 < h) (hn : nonE s h = true) => spot_get HOK.out h0 (by rw [HNS.out]; exact hhn) hn
                      clear hsp
                      by_cases h0 : 0 < h
                      · have v1 : decide ((h : Int) > 0) = true := decide_eq_true (by omega)
                        have v2 : decide (0 < h) = true := decide_eq_true h0
                        have v3 : (0 : Int) < (h : Int) := by omega
                        obtain ⟨ph, hph⟩ : ∃ k, k = parG s.Gs h := ⟨_, rfl⟩
                        rw [← hph] at q7
                        by_cases hpg : ph = g
                        · have v4 : ((ph : Int) == (g : Int)) = true := by simp; omega
                          have v5 : (ph == g) = true := by simp; exact hpg
                          cases hn : nonE s h with
                          | false =>
                            rw [hn] at q8
                            clear hsg hn hph
                            go_wp2_with fail
                            refine (pSpot_at (h : Int) wr HI.out.inn).mono ?_
                            rintro e w401 ⟨rfl, hb⟩
                            rw [HSC.out, ← HSP.out]
                            replace q7 := cell_later hb q7
                            replace q8 := cell_later hb q8
                            have t402 : Step F wr F w401 := Step.of hb
                            have H402 := Lib.hid (HI.out.later hb)
                            replace HPC := Lib.hid (HPC.out.step t402.kept t402.new)
                            replace HCH := Lib.hid (HCH.out.step t402.kept t402.new)
                            replace BZ := Lib.hid (BZ.out.step t402.kept t402.new)
                            clear t402
                            clear hb
                            have hlt := H402.out.inn.lt
                            have hb : Below w401.heap.size w401 (w401.alloc (.cells #[.int .u64 sv, .int .u32 sr, .int .u64 sf] 55)) := below_a _ _
                            replace q7 := cell_later hb q7
                            replace q8 := cell_later hb q8
                            have t404 : Step F w401 F (w401.alloc (.cells #[.int .u64 sv, .int .u32 sr, .int .u64 sf] 55)) := Step.of hb
                            have H404 := Lib.hid (H402.out.later hb)
                            replace HPC := Lib.hid (HPC.out.step t404.kept t404.new)
                            replace HCH := Lib.hid (HCH.out.step t404.kept t404.new)
                            replace BZ := Lib.hid (BZ.out.step t404.kept t404.new)
                            clear t404
                            have d0 : (w401.alloc (.cells #[.int .u64 sv, .int .u32 sr, .int .u64 sf] 55)).cell? ⟨w401.heap.size, 0, none⟩ = some (.int .u64 sv) := cell_nw _ _ _ 0 _ rfl
                            have d1 : (w401.alloc (.cells #[.int .u64 sv, .int .u32 sr, .int .u64 sf] 55)).cell? ⟨w401.heap.size, 1, none⟩ = some (.int .u32 sr) := cell_nw _ _ _ 1 _ rfl
                            have d2 : (w401.alloc (.cells #[.int .u64 sv, .int .u32 sr, .int .u64 sf] 55)).cell? ⟨w401.heap.size, 2, none⟩ = some (.int .u64 sf) := cell_nw _ _ _ 2 _ rfl
                            have od : w401.heap.size ∉ F := fun m => by have := hlt _ m; omega
                            have ld := lt_of_cell d0
                            have hS_d := Lib.hid (show (w401.alloc (.cells #[.int .u64 sv, .int .u32 sr, .int .u64 sf] 55)).heap.size = w401.heap.size + 1 by simp)
                            clear hb hlt
                            go_wp2_with fail
                            generalize (w401.alloc (.cells #[.int .u64 sv, .int .u32 sr, .int .u64 sf] 55)) = W403 at *
                            generalize w401.heap.size = b_d at *
                            go_wp2_with fail
                            go_roundw
                            case rel => exact ⟨h + 1, by omega, by go_num, H404.out, HPC.out, HCH.out, BZ.out⟩
                            case measure => simp [intOf]; omega
                          | true =>
                            rw [hn] at q8
                            obtain ⟨⟨tv, tr, tw⟩, t1, t2, t3⟩ := hsg h0 hn
                            rw [← hph, hpg] at t3
                            rw [← HSP.out] at t2
                            dsimp only at t2
                            subst t2
                            have hhl := head_le (HORD.out g (by rw [HNS.out]; exact HGN.out)) t3
                            dsimp only at hhl
                            rw [← HPV.out, HN1.out.1] at hhl
                            have v6 : decide (sv < pv) = false := decide_eq_false (by omega)
                            have v7 : ¬ sv < pv := by omega
                            clear hsg t1 t3 hn hph
                            by_cases hsv : sv = pv
                            · subst hsv
                              have v8 : (sv == sv) = true := by simp
                              have v9 : decide ((h : Int) < (c : Int)) = false := decide_eq_false (by omega)
                              have v10 : ¬ (h : Int) < (c : Int) := by omega
                              have v11 : ¬ h < c := by omega
                              have v12 : decide (h < c) = false := decide_eq_false v11
                              have v13 : decide ((c : Int) ≥ 0) = true := decide_eq_true (by omega)
                              clear hhl
                              go_wp2_with fail
                              refine (pSpot_at (h : Int) wr HI.out.inn).mono ?_
                              rintro e w401 ⟨rfl, hb⟩
                              rw [HSC.out, ← HSP.out]
                              replace q7 := cell_later hb q7
                              replace q8 := cell_later hb q8
                              have t402 : Step F wr F w401 := Step.of hb
                              have H402 := Lib.hid (HI.out.later hb)
                              replace HPC := Lib.hid (HPC.out.step t402.kept t402.new)
                              replace HCH := Lib.hid (HCH.out.step t402.kept t402.new)
                              replace BZ := Lib.hid (BZ.out.step t402.kept t402.new)
                              clear t402
                              clear hb
                              have hlt := H402.out.inn.lt
                              have hb : Below w401.heap.size w401 (w401.alloc (.cells #[.int .u64 sv, .int .u32 sr, .int .u64 sf] 55)) := below_a _ _
                              replace q7 := cell_later hb q7
                              replace q8 := cell_later hb q8
                              have t404 : Step F w401 F (w401.alloc (.cells #[.int .u64 sv, .int .u32 sr, .int .u64 sf] 55)) := Step.of hb
                              have H404 := Lib.hid (H402.out.later hb)
                              replace HPC := Lib.hid (HPC.out.step t404.kept t404.new)
                              replace HCH := Lib.hid (HCH.out.step t404.kept t404.new)
                              replace BZ := Lib.hid (BZ.out.step t404.kept t404.new)
                              clear t404
                              have d0 : (w401.alloc (.cells #[.int .u64 sv, .int .u32 sr, .int .u64 sf] 55)).cell? ⟨w401.heap.size, 0, none⟩ = some (.int .u64 sv) := cell_nw _ _ _ 0 _ rfl
                              have d1 : (w401.alloc (.cells #[.int .u64 sv, .int .u32 sr, .int .u64 sf] 55)).cell? ⟨w401.heap.size, 1, none⟩ = some (.int .u32 sr) := cell_nw _ _ _ 1 _ rfl
                              have d2 : (w401.alloc (.cells #[.int .u64 sv, .int .u32 sr, .int .u64 sf] 55)).cell? ⟨w401.heap.size, 2, none⟩ = some (.int .u64 sf) := cell_nw _ _ _ 2 _ rfl
                              have od : w401.heap.size ∉ F := fun m => by have := hlt _ m; omega
                              have ld := lt_of_cell d0
                              have hS_d := Lib.hid (show (w401.alloc (.cells #[.int .u64 sv, .int .u32 sr, .int .u64 sf] 55)).heap.size = w401.heap.size + 1 by simp)
                              clear hb hlt
                              go_wp2_with fail
                              generalize (w401.alloc (.cells #[.int .u64 sv, .int .u32 sr, .int .u64 sf] 55)) = W403 at *
                              generalize w401.heap.size = b_d at *
                              go_wp2_with fail
                              go_roundw
                              case rel => exact ⟨h + 1, by omega, by go_num, H404.out, HPC.out, HCH.out, BZ.out⟩
                              case measure => simp [intOf]; omega
                            · have v8 : (sv == pv) = false := by simp; exact hsv
                              clear hhl
                              go_wp2_with fail
                              refine (pSpot_at (h : Int) wr HI.out.inn).mono ?_
                              rintro e w401 ⟨rfl, hb⟩
                              rw [HSC.out, ← HSP.out]
                              replace q7 := cell_later hb q7
                              replace q8 := cell_later hb q8
                              have t402 : Step F wr F w401 := Step.of hb
                              have H402 := Lib.hid (HI.out.later hb)
                              replace HPC := Lib.hid (HPC.out.step t402.kept t402.new)
                              replace HCH := Lib.hid (HCH.out.step t402.kept t402.new)
                              replace BZ := Lib.hid (BZ.out.step t402.kept t402.new)
                              clear t402
                              clear hb
                              have hlt := H402.out.inn.lt
                              have hb : Below w401.heap.size w401 (w401.alloc (.cells #[.int .u64 sv, .int .u32 sr, .int .u64 sf] 55)) := below_a _ _
                              replace q7 := cell_later hb q7
                              replace q8 := cell_later hb q8
                              have t404 : Step F w401 F (w401.alloc (.cells #[.int .u64 sv, .int .u32 sr, .int .u64 sf] 55)) := Step.of hb
                              have H404 := Lib.hid (H402.out.later hb)
                              replace HPC := Lib.hid (HPC.out.step t404.kept t404.new)
                              replace HCH := Lib.hid (HCH.out.step t404.kept t404.new)
                              replace BZ := Lib.hid (BZ.out.step t404.kept t404.new)
                              clear t404
                              have d0 : (w401.alloc (.cells #[.int .u64 sv, .int .u32 sr, .int .u64 sf] 55)).cell? ⟨w401.heap.size, 0, none⟩ = some (.int .u64 sv) := cell_nw _ _ _ 0 _ rfl
                              have d1 : (w401.alloc (.cells #[.int .u64 sv, .int .u32 sr, .int .u64 sf] 55)).cell? ⟨w401.heap.size, 1, none⟩ = some (.int .u32 sr) := cell_nw _ _ _ 1 _ rfl
                              have d2 : (w401.alloc (.cells #[.int .u64 sv, .int .u32 sr, .int .u64 sf] 55)).cell? ⟨w401.heap.size, 2, none⟩ = some (.int .u64 sf) := cell_nw _ _ _ 2 _ rfl
                              have od : w401.heap.size ∉ F := fun m => by have := hlt _ m; omega
                              have ld := lt_of_cell d0
                              have hS_d := Lib.hid (show (w401.alloc (.cells #[.int .u64 sv, .int .u32 sr, .int .u64 sf] 55)).heap.size = w401.heap.size + 1 by simp)
                              clear hb hlt
                              go_wp2_with fail
                              generalize (w401.alloc (.cells #[.int .u64 sv, .int .u32 sr, .int .u64 sf] 55)) = W403 at *
                              generalize w401.heap.size = b_d at *
                              go_wp2_with fail
                              go_roundw
                              case rel => exact ⟨h + 1, by omega, by go_num, H404.out, HPC.out, HCH.out, BZ.out⟩
                              case measure => simp [intOf]; omega
                        · have v4 : ((ph : Int) == (g : Int)) = false := by simp; omega
                          have v5 : (ph == g) = false := by simp; exact hpg
                          clear hsg hph
                          go_wp2_with fail
                          refine (pSpot_at (h : Int) wr HI.out.inn).mono ?_
                          rintro e w401 ⟨rfl, hb⟩
                          rw [HSC.out, ← HSP.out]
                          replace q7 := cell_later hb q7
                          replace q8 := cell_later hb q8
                          have t402 : Step F wr F w401 := Step.of hb
                          have H402 := Lib.hid (HI.out.later hb)
                          replace HPC := Lib.hid (HPC.out.step t402.kept t402.new)
                          replace HCH := Lib.hid (HCH.out.step t402.kept t402.new)
                          replace BZ := Lib.hid (BZ.out.step t402.kept t402.new)
                          clear t402
                          clear hb
                          have hlt := H402.out.inn.lt
                          have hb : Below w401.heap.size w401 (w401.alloc (.cells #[.int .u64 sv, .int .u32 sr, .int .u64 sf] 55)) := below_a _ _
                          replace q7 := cell_later hb q7
                          replace q8 := cell_later hb q8
                          have t404 : Step F w401 F (w401.alloc (.cells #[.int .u64 sv, .int .u32 sr, .int .u64 sf] 55)) := Step.of hb
                          have H404 := Lib.hid (H402.out.later hb)
                          replace HPC := Lib.hid (HPC.out.step t404.kept t404.new)
                          replace HCH := Lib.hid (HCH.out.step t404.kept t404.new)
                          replace BZ := Lib.hid (BZ.out.step t404.kept t404.new)
                          clear t404
                          have d0 : (w401.alloc (.cells #[.int .u64 sv, .int .u32 sr, .int .u64 sf] 55)).cell? ⟨w401.heap.size, 0, none⟩ = some (.int .u64 sv) := cell_nw _ _ _ 0 _ rfl
                          have d1 : (w401.alloc (.cells #[.int .u64 sv, .int .u32 sr, .int .u64 sf] 55)).cell? ⟨w401.heap.size, 1, none⟩ = some (.int .u32 sr) := cell_nw _ _ _ 1 _ rfl
                          have d2 : (w401.alloc (.cells #[.int .u64 sv, .int .u32 sr, .int .u64 sf] 55)).cell? ⟨w401.heap.size, 2, none⟩ = some (.int .u64 sf) := cell_nw _ _ _ 2 _ rfl
                          have od : w401.heap.size ∉ F := fun m => by have := hlt _ m; omega
                          have ld := lt_of_cell d0
                          have hS_d := Lib.hid (show (w401.alloc (.cells #[.int .u64 sv, .int .u32 sr, .int .u64 sf] 55)).heap.size = w401.heap.size + 1 by simp)
                          clear hb hlt
                          go_wp2_with fail
                          generalize (w401.alloc (.cells #[.int .u64 sv, .int .u32 sr, .int .u64 sf] 55)) = W403 at *
                          generalize w401.heap.size = b_d at *
                          go_wp2_with fail
                          go_roundw
                          case rel => exact ⟨h + 1, by omega, by go_num, H404.out, HPC.out, HCH.out, BZ.out⟩
                          case measure => simp [intOf]; omega
                      · have v1 : decide ((h : Int) > 0) = false := decide_eq_false (by omega)
                        have v2 : decide (0 < h) = false := decide_eq_false h0
                        have v3 : ¬ (0 : Int) < (h : Int) := by omega
                        clear hsg
                        go_wp2_with fail
                        refine (pSpot_at (h : Int) wr HI.out.inn).mono ?_
                        rintro e w401 ⟨rfl, hb⟩
                        rw [HSC.out, ← HSP.out]
                        replace q7 := cell_later hb q7
                        replace q8 := cell_later hb q8
                        have t402 : Step F wr F w401 := Step.of hb
                        have H402 := Lib.hid (HI.out.later hb)
                        replace HPC := Lib.hid (HPC.out.step t402.kept t402.new)
                        replace HCH := Lib.hid (HCH.out.step t402.kept t402.new)
                        replace BZ := Lib.hid (BZ.out.step t402.kept t402.new)
                        clear t402
                        clear hb
                        have hlt := H402.out.inn.lt
                        have hb : Below w401.heap.size w401 (w401.alloc (.cells #[.int .u64 sv, .int .u32 sr, .int .u64 sf] 55)) := below_a _ _
                        replace q7 := cell_later hb q7
                        replace q8 := cell_later hb q8
                        have t404 : Step F w401 F (w401.alloc (.cells #[.int .u64 sv, .int .u32 sr, .int .u64 sf] 55)) := Step.of hb
                        have H404 := Lib.hid (H402.out.later hb)
                        replace HPC := Lib.hid (HPC.out.step t404.kept t404.new)
                        replace HCH := Lib.hid (HCH.out.step t404.kept t404.new)
                        replace BZ := Lib.hid (BZ.out.step t404.kept t404.new)
                        clear t404
                        have d0 : (w401.alloc (.cells #[.int .u64 sv, .int .u32 sr, .int .u64 sf] 55)).cell? ⟨w401.heap.size, 0, none⟩ = some (.int .u64 sv) := cell_nw _ _ _ 0 _ rfl
                        have d1 : (w401.alloc (.cells #[.int .u64 sv, .int .u32 sr, .int .u64 sf] 55)).cell? ⟨w401.heap.size, 1, none⟩ = some (.int .u32 sr) := cell_nw _ _ _ 1 _ rfl
                        have d2 : (w401.alloc (.cells #[.int .u64 sv, .int .u32 sr, .int .u64 sf] 55)).cell? ⟨w401.heap.size, 2, none⟩ = some (.int .u64 sf) := cell_nw _ _ _ 2 _ rfl
                        have od : w401.heap.size ∉ F := fun m => by have := hlt _ m; omega
                        have ld := lt_of_cell d0
                        have hS_d := Lib.hid (show (w401.alloc (.cells #[.int .u64 sv, .int .u32 sr, .int .u64 sf] 55)).heap.size = w401.heap.size + 1 by simp)
                        clear hb hlt
                        go_wp2_with fail
                        generalize (w401.alloc (.cells #[.int .u64 sv, .int .u32 sr, .int .u64 sf] 55)) = W403 at *
                        generalize w401.heap.size = b_d at *
                        go_wp2_with fail
                        go_roundw
                        case rel => exact ⟨h + 1, by omega, by go_num, H404.out, HPC.out, HCH.out, BZ.out⟩
                        case measure => simp [intOf]; omega
                    · have HHN := Lib.hid (show h = n by omega)
                      have v0 : decide ((h : Int) < (n : Int)) = false := decide_eq_false (by omega)
                      have v1 : ¬ (h : Int) < (n : Int) := by omega
                      clear hh hhn
                      go_wp2_with fail
                      go_roundw
                      case rel => exact ⟨i + 1, by omega, by go_num, HI.out, HPC.out, HCH.out, BZ.out⟩
                      case measure => simp [intOf]; omega
          · as_aux_lemma =>
              have z11 : decide ((i : Int) + 1 < (m : Int)) = false := decide_eq_false (by omega)
              have z12 : ¬ (i : Int) + 1 < (m : Int) := by omega
              have z13 : decide (i + 1 < m) = false := decide_eq_false hla
              have HOG := Lib.hid (show own = g by rw [HOWN.out, HG.out, show i = mp by have := HMP.out; omega])
              go_wp2_with fail
              go_quiet (fail)
              first | refine wp_world (fun W1 hW1 => ?_) | refine q_world (fun W1 hW1 => ?_) | refine calls_world (fun W1 hW1 => ?_)
              have hb : Below wr.heap.size wr W1 := by rw [hW1]; exact below_drewN (Below.refl _ _) _
              clear hW1
              have t201 : Step F wr F W1 := Step.of hb
              have H201 := Lib.hid (HI.out.later hb)
              replace HPC := Lib.hid (HPC.out.step t201.kept t201.new)
              replace HCH := Lib.hid (HCH.out.step t201.kept t201.new)
              replace BZ := Lib.hid (BZ.out.step t201.kept t201.new)
              clear t201
              clear hb
              go_wp2_with fail
              refine (pGet_at id W1 H201.out.inn HWI.out).mono ?_
              rintro e w202 ⟨rfl, hb⟩
              rw [HFC.out.2, decide_eq_true HFC.out.1, ← HX.out]
              have t203 : Step F W1 F w202 := Step.of hb
              have H203 := Lib.hid (H201.out.later hb)
              replace HPC := Lib.hid (HPC.out.step t203.kept t203.new)
              replace HCH := Lib.hid (HCH.out.step t203.kept t203.new)
              replace BZ := Lib.hid (BZ.out.step t203.kept t203.new)
              clear t203
              clear hb
              have hlt := H203.out.inn.lt
              have hb : Below w202.heap.size w202 (w202.alloc (.cells #[.int .u64 xv, .int .u32 xr, .int .u32 xw] 40)) := below_a _ _
              have t205 : Step F w202 F (w202.alloc (.cells #[.int .u64 xv, .int .u32 xr, .int .u32 xw] 40)) := Step.of hb
              have H205 := Lib.hid (H203.out.later hb)
              replace HPC := Lib.hid (HPC.out.step t205.kept t205.new)
              replace HCH := Lib.hid (HCH.out.step t205.kept t205.new)
              replace BZ := Lib.hid (BZ.out.step t205.kept t205.new)
              clear t205
              have y0 : (w202.alloc (.cells #[.int .u64 xv, .int .u32 xr, .int .u32 xw] 40)).cell? ⟨w202.heap.size, 0, none⟩ = some (.int .u64 xv) := cell_nw _ _ _ 0 _ rfl
              have y1 : (w202.alloc (.cells #[.int .u64 xv, .int .u32 xr, .int .u32 xw] 40)).cell? ⟨w202.heap.size, 1, none⟩ = some (.int .u32 xr) := cell_nw _ _ _ 1 _ rfl
              have y2 : (w202.alloc (.cells #[.int .u64 xv, .int .u32 xr, .int .u32 xw] 40)).cell? ⟨w202.heap.size, 2, none⟩ = some (.int .u32 xw) := cell_nw _ _ _ 2 _ rfl
              have oy : w202.heap.size ∉ F := fun m => by have := hlt _ m; omega
              have ly := lt_of_cell y0
              have hS_y := Lib.hid (show (w202.alloc (.cells #[.int .u64 xv, .int .u32 xr, .int .u32 xw] 40)).heap.size = w202.heap.size + 1 by simp)
              clear hb hlt
              go_wp2_with fail
              generalize (w202.alloc (.cells #[.int .u64 xv, .int .u32 xr, .int .u32 xw] 40)) = W204 at *
              generalize w202.heap.size = b_y at *
              clear y0 y1 y2 oy ly
              have HPV := Lib.hid (show xv = firstV (s.M g) by rw [HXV.out, HOG.out])
              have HFI := Lib.hid (show firstI (s.M g) = id by rw [← HOG.out]; exact HID.out)
              obtain ⟨TL, hTL⟩ : ∃ T, T = tasksM (s.M g) := ⟨_, rfl⟩
              have HTT := Lib.hid (show tasksT s (g : Int) = TL by unfold tasksT; rw [if_pos (show hasV (s.n : Int) (g : Int) = true from decide_eq_true (by have := HNS.out; have := HGN.out; omega)), Int.toNat_natCast, hTL])
              have HTL := Lib.hid hTL
              obtain ⟨tn, htn⟩ : ∃ k, k = TL.length := ⟨_, rfl⟩
              have HTN := Lib.hid htn
              have HTM := Lib.hid (show tn ≤ 131072 by rw [htn, ← HTT.out]; exact tasksT_most H205.out.inn (g : Int))
              clear hTL
              go_wp2_with fail
              refine (pTasks_at (g : Int) W204 H205.out.inn).mono ?_
              rintro e w206 ⟨tv, rfl, ho, hb⟩
              rw [HTT.out, ← htn] at ho
              obtain ⟨ta, tc, rfl⟩ := own_shapeT ho
              have HTK := Lib.hid (own_tasks (F := F) ho H205.out.inn.lt)
              clear ho htn
              have t207 : Step F W204 F w206 := Step.of hb
              have H207 := Lib.hid (H205.out.later hb)
              replace HPC := Lib.hid (HPC.out.step t207.kept t207.new)
              replace HCH := Lib.hid (HCH.out.step t207.kept t207.new)
              replace BZ := Lib.hid (BZ.out.step t207.kept t207.new)
              clear t207
              clear hb
              go_wp2_with fail
              go_loopw [171] (fun i wr => ∃ k : Nat, k ≤ tn ∧ i = .int .i64 k ∧ TW w t s wr F ∧ ParC wr F bgs n (parG s.Gs) ∧ IntC wr F bc m (fun j => (L.map fun k : Nat => (k : Int))[j]!) ∧ BolC wr F bz n (nonE s) ∧ TaskC wr F ta tn TL) (fun i _ => tn - (intOf i).toNat)
              case atStart => exact ⟨0, Nat.zero_le _, rfl, H207.out, HPC.out, HCH.out, BZ.out, HTK.out⟩
              case round =>
                clear HPC HCH BZ HTK H207
                obtain ⟨k, hk, rfl, hI, hP, hC, hB, hT⟩ := hrel
                have HI := Lib.hid hI
                have HPC := Lib.hid hP
                have HCH := Lib.hid hC
                have BZ := Lib.hid hB
                have HTK := Lib.hid hT
                clear hI hP hC hB hT
                by_cases hkt : k < tn
                · have hki : (k : Int) < (tn : Int) := by omega
                  have y0 : decide ((k : Int) < (tn : Int)) = true := decide_eq_true hki
                  have hk0 : (0 : Int) ≤ (k : Int) := by omega
                  have wk : IntKind.i64.wrap ((k : Int) + 1) = (k : Int) + 1 := IntWalk.i64_in _ (by have := HTM.out; omega)
                  obtain ⟨bt, rfl, hTC⟩ := HTK.out k hkt
                  have q6 := hTC.cell k hkt
                  obtain ⟨o, ho⟩ : ∃ o, o = TL[k]! := ⟨_, rfl⟩
                  have hmem : o ∈ tasksM (s.M g) := by rw [ho, ← HTL.out]; exact list_at (by rw [← HTN.out]; exact hkt)
                  rw [← ho] at q6
                  obtain ⟨f1, f2, ⟨yv, yr, yw⟩, f3, f4, f5⟩ := task_get HOK.out hmem
                  have hhl := head_le (HORD.out g (by rw [HNS.out]; exact HGN.out)) f5
                  dsimp only at hhl
                  rw [← HPV.out] at hhl
                  have hob := (tasksM_mem.1 hmem).2
                  have HO := Lib.hid (show findC s o = 0 ∧ findG s o = (g : Int) ∧ pgetX s o = (yv, yr, yw) from ⟨f1, f2, f4⟩)
                  have HWO := Lib.hid (show (Lit.int .i64 o).wf = true from wfI (by have := find_one f1; omega) (by omega))
                  rw [HFI.out] at hhl
                  have hk9 : k = 0 → o = id ∧ yv = xv := fun e => by
                    obtain ⟨r, hr⟩ := tasksM_head HNE.out (by rw [HFI.out]; have := HI2.out; omega)
                    rw [e, HTL.out, hr] at ho
                    have h1 : o = id := ho.trans HFI.out
                    refine ⟨h1, ?_⟩
                    have h2 := f4
                    rw [h1, ← HX.out] at h2
                    simp only [Prod.mk.injEq] at h2
                    exact h2.1.symm
                  clear f1 f2 f3 f4 f5 hmem ho hTC
                  by_cases hkz : k = 0
                  · obtain ⟨rfl, rfl⟩ := hk9 hkz
                    have e1 : decide (yv < yv) = false := decide_eq_false (by omega)
                    have e2 : ((k : Int) == 0) = true := by simp; exact hkz
                    have e3 : decide (o < o) = false := decide_eq_false (by omega)
                    have e4 : (k == 0) = true := by simp; exact hkz
                    clear hhl hk9 hkz
                    go_wp2_with fail
                    refine (pGet_at o wr HI.out.inn HWO.out).mono ?_
                    rintro e w301 ⟨rfl, hb⟩
                    rw [HO.out.2.1, HO.out.2.2, decide_eq_true HO.out.1]
                    have t302 : Step F wr F w301 := Step.of hb
                    have H302 := Lib.hid (HI.out.later hb)
                    replace HPC := Lib.hid (HPC.out.step t302.kept t302.new)
                    replace HCH := Lib.hid (HCH.out.step t302.kept t302.new)
                    replace BZ := Lib.hid (BZ.out.step t302.kept t302.new)
                    replace HTK := Lib.hid (HTK.out.step t302.kept t302.new)
                    clear t302
                    clear hb
                    have hlt := H302.out.inn.lt
                    have hb : Below w301.heap.size w301 (w301.alloc (.cells #[.int .u64 yv, .int .u32 yr, .int .u32 yw] 40)) := below_a _ _
                    have t304 : Step F w301 F (w301.alloc (.cells #[.int .u64 yv, .int .u32 yr, .int .u32 yw] 40)) := Step.of hb
                    have H304 := Lib.hid (H302.out.later hb)
                    replace HPC := Lib.hid (HPC.out.step t304.kept t304.new)
                    replace HCH := Lib.hid (HCH.out.step t304.kept t304.new)
                    replace BZ := Lib.hid (BZ.out.step t304.kept t304.new)
                    replace HTK := Lib.hid (HTK.out.step t304.kept t304.new)
                    clear t304
                    have y0 : (w301.alloc (.cells #[.int .u64 yv, .int .u32 yr, .int .u32 yw] 40)).cell? ⟨w301.heap.size, 0, none⟩ = some (.int .u64 yv) := cell_nw _ _ _ 0 _ rfl
                    have y1 : (w301.alloc (.cells #[.int .u64 yv, .int .u32 yr, .int .u32 yw] 40)).cell? ⟨w301.heap.size, 1, none⟩ = some (.int .u32 yr) := cell_nw _ _ _ 1 _ rfl
                    have y2 : (w301.alloc (.cells #[.int .u64 yv, .int .u32 yr, .int .u32 yw] 40)).cell? ⟨w301.heap.size, 2, none⟩ = some (.int .u32 yw) := cell_nw _ _ _ 2 _ rfl
                    have oy : w301.heap.size ∉ F := fun m => by have := hlt _ m; omega
                    have ly := lt_of_cell y0
                    have hS_y := Lib.hid (show (w301.alloc (.cells #[.int .u64 yv, .int .u32 yr, .int .u32 yw] 40)).heap.size = w301.heap.size + 1 by simp)
                    clear hb hlt
                    go_wp2_with fail
                    generalize (w301.alloc (.cells #[.int .u64 yv, .int .u32 yr, .int .u32 yw] 40)) = W303 at *
                    generalize w301.heap.size = b_y at *
                    go_wp2_with fail
                    go_roundw
                    case rel => exact ⟨k + 1, by omega, by go_num, H304.out, HPC.out, HCH.out, BZ.out, HTK.out⟩
                    case measure => simp [intOf]; omega
                  · have e2 : ((k : Int) == 0) = false := by simp; exact hkz
                    have e4 : (k == 0) = false := by simp; exact hkz
                    have e5 : ¬ (k : Int) = 0 := by omega
                    clear hk9
                    by_cases hyx : yv = xv
                    · subst hyx
                      have e1 : decide (yv < yv) = false := decide_eq_false (by omega)
                      have e6 : (yv == yv) = true := by simp
                      have e3 : decide (o < id) = false := decide_eq_false (by omega)
                      have e7 : ¬ o < id := by omega
                      clear hhl
                      go_wp2_with fail
                      refine (pGet_at o wr HI.out.inn HWO.out).mono ?_
                      rintro e w301 ⟨rfl, hb⟩
                      rw [HO.out.2.1, HO.out.2.2, decide_eq_true HO.out.1]
                      have t302 : Step F wr F w301 := Step.of hb
                      have H302 := Lib.hid (HI.out.later hb)
                      replace HPC := Lib.hid (HPC.out.step t302.kept t302.new)
                      replace HCH := Lib.hid (HCH.out.step t302.kept t302.new)
                      replace BZ := Lib.hid (BZ.out.step t302.kept t302.new)
                      replace HTK := Lib.hid (HTK.out.step t302.kept t302.new)
                      clear t302
                      clear hb
                      have hlt := H302.out.inn.lt
                      have hb : Below w301.heap.size w301 (w301.alloc (.cells #[.int .u64 yv, .int .u32 yr, .int .u32 yw] 40)) := below_a _ _
                      have t304 : Step F w301 F (w301.alloc (.cells #[.int .u64 yv, .int .u32 yr, .int .u32 yw] 40)) := Step.of hb
                      have H304 := Lib.hid (H302.out.later hb)
                      replace HPC := Lib.hid (HPC.out.step t304.kept t304.new)
                      replace HCH := Lib.hid (HCH.out.step t304.kept t304.new)
                      replace BZ := Lib.hid (BZ.out.step t304.kept t304.new)
                      replace HTK := Lib.hid (HTK.out.step t304.kept t304.new)
                      clear t304
                      have y0 : (w301.alloc (.cells #[.int .u64 yv, .int .u32 yr, .int .u32 yw] 40)).cell? ⟨w301.heap.size, 0, none⟩ = some (.int .u64 yv) := cell_nw _ _ _ 0 _ rfl
                      have y1 : (w301.alloc (.cells #[.int .u64 yv, .int .u32 yr, .int .u32 yw] 40)).cell? ⟨w301.heap.size, 1, none⟩ = some (.int .u32 yr) := cell_nw _ _ _ 1 _ rfl
                      have y2 : (w301.alloc (.cells #[.int .u64 yv, .int .u32 yr, .int .u32 yw] 40)).cell? ⟨w301.heap.size, 2, none⟩ = some (.int .u32 yw) := cell_nw _ _ _ 2 _ rfl
                      have oy : w301.heap.size ∉ F := fun m => by have := hlt _ m; omega
                      have ly := lt_of_cell y0
                      have hS_y := Lib.hid (show (w301.alloc (.cells #[.int .u64 yv, .int .u32 yr, .int .u32 yw] 40)).heap.size = w301.heap.size + 1 by simp)
                      clear hb hlt
                      go_wp2_with fail
                      generalize (w301.alloc (.cells #[.int .u64 yv, .int .u32 yr, .int .u32 yw] 40)) = W303 at *
                      generalize w301.heap.size = b_y at *
                      go_wp2_with fail
                      go_roundw
                      case rel => exact ⟨k + 1, by omega, by go_num, H304.out, HPC.out, HCH.out, BZ.out, HTK.out⟩
                      case measure => simp [intOf]; omega
                    · have e1 : decide (yv < xv) = false := decide_eq_false (by omega)
                      have e6 : (yv == xv) = false := by simp; exact hyx
                      clear hhl
                      go_wp2_with fail
                      refine (pGet_at o wr HI.out.inn HWO.out).mono ?_
                      rintro e w301 ⟨rfl, hb⟩
                      rw [HO.out.2.1, HO.out.2.2, decide_eq_true HO.out.1]
                      have t302 : Step F wr F w301 := Step.of hb
                      have H302 := Lib.hid (HI.out.later hb)
                      replace HPC := Lib.hid (HPC.out.step t302.kept t302.new)
                      replace HCH := Lib.hid (HCH.out.step t302.kept t302.new)
                      replace BZ := Lib.hid (BZ.out.step t302.kept t302.new)
                      replace HTK := Lib.hid (HTK.out.step t302.kept t302.new)
                      clear t302
                      clear hb
                      have hlt := H302.out.inn.lt
                      have hb : Below w301.heap.size w301 (w301.alloc (.cells #[.int .u64 yv, .int .u32 yr, .int .u32 yw] 40)) := below_a _ _
                      have t304 : Step F w301 F (w301.alloc (.cells #[.int .u64 yv, .int .u32 yr, .int .u32 yw] 40)) := Step.of hb
                      have H304 := Lib.hid (H302.out.later hb)
                      replace HPC := Lib.hid (HPC.out.step t304.kept t304.new)
                      replace HCH := Lib.hid (HCH.out.step t304.kept t304.new)
                      replace BZ := Lib.hid (BZ.out.step t304.kept t304.new)
                      replace HTK := Lib.hid (HTK.out.step t304.kept t304.new)
                      clear t304
                      have y0 : (w301.alloc (.cells #[.int .u64 yv, .int .u32 yr, .int .u32 yw] 40)).cell? ⟨w301.heap.size, 0, none⟩ = some (.int .u64 yv) := cell_nw _ _ _ 0 _ rfl
                      have y1 : (w301.alloc (.cells #[.int .u64 yv, .int .u32 yr, .int .u32 yw] 40)).cell? ⟨w301.heap.size, 1, none⟩ = some (.int .u32 yr) := cell_nw _ _ _ 1 _ rfl
                      have y2 : (w301.alloc (.cells #[.int .u64 yv, .int .u32 yr, .int .u32 yw] 40)).cell? ⟨w301.heap.size, 2, none⟩ = some (.int .u32 yw) := cell_nw _ _ _ 2 _ rfl
                      have oy : w301.heap.size ∉ F := fun m => by have := hlt _ m; omega
                      have ly := lt_of_cell y0
                      have hS_y := Lib.hid (show (w301.alloc (.cells #[.int .u64 yv, .int .u32 yr, .int .u32 yw] 40)).heap.size = w301.heap.size + 1 by simp)
                      clear hb hlt
                      go_wp2_with fail
                      generalize (w301.alloc (.cells #[.int .u64 yv, .int .u32 yr, .int .u32 yw] 40)) = W303 at *
                      generalize w301.heap.size = b_y at *
                      go_wp2_with fail
                      go_roundw
                      case rel => exact ⟨k + 1, by omega, by go_num, H304.out, HPC.out, HCH.out, BZ.out, HTK.out⟩
                      case measure => simp [intOf]; omega
                · have HKT := Lib.hid (show k = tn by omega)
                  have y0 : decide ((k : Int) < (tn : Int)) = false := decide_eq_false (by omega)
                  have y1 : ¬ (k : Int) < (tn : Int) := by omega
                  clear hk hkt HTK
                  go_wp2_with fail
                  go_loopw [232] (fun i wr => ∃ k : Nat, k ≤ n ∧ i = .int .i64 k ∧ TW w t s wr F ∧ ParC wr F bgs n (parG s.Gs) ∧ IntC wr F bc m (fun j => (L.map fun k : Nat => (k : Int))[j]!) ∧ BolC wr F bz n (nonE s)) (fun i _ => n - (intOf i).toNat)
                  case atStart => exact ⟨0, Nat.zero_le _, rfl, HI.out, HPC.out, HCH.out, BZ.out⟩
                  case round =>
                    clear HI HPC HCH BZ
                    obtain ⟨h, hh, rfl, hI, hP, hC, hB⟩ := hrel
                    have HI := Lib.hid hI
                    have HPC := Lib.hid hP
                    have HCH := Lib.hid hC
                    have BZ := Lib.hid hB
                    clear hI hP hC hB
                    by_cases hhn : h < n
                    · have hhi : (h : Int) < (n : Int) := by omega
                      have v0 : decide ((h : Int) < (n : Int)) = true := decide_eq_true hhi
                      have hh0 : (0 : Int) ≤ (h : Int) := by omega
                      have q7 := HPC.out.2.2 h hhn
                      have q8 := BZ.out.cell h hhn
                      obtain ⟨⟨sv, sr, sf⟩, hsp⟩ : ∃ p, p = pSpotV s (h : Int) := ⟨_, rfl⟩
                      have HSC := Lib.hid (show pSpotC s (h : Int) = 0 by unfold pSpotC; rw [if_pos (show hasV (s.n : Int) (h : Int) = true from decide_eq_true (by have := HNS.out; omega))])
                      have HSP := Lib.hid hsp
                      have hsg := fun (h0 : 0 < h) (hn : nonE s h = true) => spot_get HOK.out h0 (by rw [HNS.out]; exact hhn) hn
                      clear hsp
                      by_cases h0 : 0 < h
                      · have v1 : decide ((h : Int) > 0) = true := decide_eq_true (by omega)
                        have v2 : decide (0 < h) = true := decide_eq_true h0
                        have v3 : (0 : Int) < (h : Int) := by omega
                        obtain ⟨ph, hph⟩ : ∃ k, k = parG s.Gs h := ⟨_, rfl⟩
                        rw [← hph] at q7
                        by_cases hpg : ph = g
                        · have v4 : ((ph : Int) == (g : Int)) = true := by simp; omega
                          have v5 : (ph == g) = true := by simp; exact hpg
                          cases hn : nonE s h with
                          | false =>
                            rw [hn] at q8
                            clear hsg hn hph
                            go_wp2_with fail
                            refine (pSpot_at (h : Int) wr HI.out.inn).mono ?_
                            rintro e w401 ⟨rfl, hb⟩
                            rw [HSC.out, ← HSP.out]
                            replace q7 := cell_later hb q7
                            replace q8 := cell_later hb q8
                            have t402 : Step F wr F w401 := Step.of hb
                            have H402 := Lib.hid (HI.out.later hb)
                            replace HPC := Lib.hid (HPC.out.step t402.kept t402.new)
                            replace HCH := Lib.hid (HCH.out.step t402.kept t402.new)
                            replace BZ := Lib.hid (BZ.out.step t402.kept t402.new)
                            clear t402
                            clear hb
                            have hlt := H402.out.inn.lt
                            have hb : Below w401.heap.size w401 (w401.alloc (.cells #[.int .u64 sv, .int .u32 sr, .int .u64 sf] 55)) := below_a _ _
                            replace q7 := cell_later hb q7
                            replace q8 := cell_later hb q8
                            have t404 : Step F w401 F (w401.alloc (.cells #[.int .u64 sv, .int .u32 sr, .int .u64 sf] 55)) := Step.of hb
                            have H404 := Lib.hid (H402.out.later hb)
                            replace HPC := Lib.hid (HPC.out.step t404.kept t404.new)
                            replace HCH := Lib.hid (HCH.out.step t404.kept t404.new)
                            replace BZ := Lib.hid (BZ.out.step t404.kept t404.new)
                            clear t404
                            have d0 : (w401.alloc (.cells #[.int .u64 sv, .int .u32 sr, .int .u64 sf] 55)).cell? ⟨w401.heap.size, 0, none⟩ = some (.int .u64 sv) := cell_nw _ _ _ 0 _ rfl
                            have d1 : (w401.alloc (.cells #[.int .u64 sv, .int .u32 sr, .int .u64 sf] 55)).cell? ⟨w401.heap.size, 1, none⟩ = some (.int .u32 sr) := cell_nw _ _ _ 1 _ rfl
                            have d2 : (w401.alloc (.cells #[.int .u64 sv, .int .u32 sr, .int .u64 sf] 55)).cell? ⟨w401.heap.size, 2, none⟩ = some (.int .u64 sf) := cell_nw _ _ _ 2 _ rfl
                            have od : w401.heap.size ∉ F := fun m => by have := hlt _ m; omega
                            have ld := lt_of_cell d0
                            have hS_d := Lib.hid (show (w401.alloc (.cells #[.int .u64 sv, .int .u32 sr, .int .u64 sf] 55)).heap.size = w401.heap.size + 1 by simp)
                            clear hb hlt
                            go_wp2_with fail
                            generalize (w401.alloc (.cells #[.int .u64 sv, .int .u32 sr, .int .u64 sf] 55)) = W403 at *
                            generalize w401.heap.size = b_d at *
                            go_wp2_with fail
                            go_roundw
                            case rel => exact ⟨h + 1, by omega, by go_num, H404.out, HPC.out, HCH.out, BZ.out⟩
                            case measure => simp [intOf]; omega
                          | true =>
                            rw [hn] at q8
                            obtain ⟨⟨tv, tr, tw⟩, t1, t2, t3⟩ := hsg h0 hn
                            rw [← hph, hpg] at t3
                            rw [← HSP.out] at t2
                            dsimp only at t2
                            subst t2
                            have hhl := head_le (HORD.out g (by rw [HNS.out]; exact HGN.out)) t3
                            dsimp only at hhl
                            rw [← HPV.out, HFI.out] at hhl
                            have v6 : decide (sv < xv) = false := decide_eq_false (by omega)
                            have v7 : ¬ sv < xv := by omega
                            clear hsg t1 t3 hn hph
                            by_cases hsv : sv = xv
                            · subst hsv
                              have v8 : (sv == sv) = true := by simp
                              clear hhl
                              go_wp2_with fail
                              refine (pSpot_at (h : Int) wr HI.out.inn).mono ?_
                              rintro e w401 ⟨rfl, hb⟩
                              rw [HSC.out, ← HSP.out]
                              replace q7 := cell_later hb q7
                              replace q8 := cell_later hb q8
                              have t402 : Step F wr F w401 := Step.of hb
                              have H402 := Lib.hid (HI.out.later hb)
                              replace HPC := Lib.hid (HPC.out.step t402.kept t402.new)
                              replace HCH := Lib.hid (HCH.out.step t402.kept t402.new)
                              replace BZ := Lib.hid (BZ.out.step t402.kept t402.new)
                              clear t402
                              clear hb
                              have hlt := H402.out.inn.lt
                              have hb : Below w401.heap.size w401 (w401.alloc (.cells #[.int .u64 sv, .int .u32 sr, .int .u64 sf] 55)) := below_a _ _
                              replace q7 := cell_later hb q7
                              replace q8 := cell_later hb q8
                              have t404 : Step F w401 F (w401.alloc (.cells #[.int .u64 sv, .int .u32 sr, .int .u64 sf] 55)) := Step.of hb
                              have H404 := Lib.hid (H402.out.later hb)
                              replace HPC := Lib.hid (HPC.out.step t404.kept t404.new)
                              replace HCH := Lib.hid (HCH.out.step t404.kept t404.new)
                              replace BZ := Lib.hid (BZ.out.step t404.kept t404.new)
                              clear t404
                              have d0 : (w401.alloc (.cells #[.int .u64 sv, .int .u32 sr, .int .u64 sf] 55)).cell? ⟨w401.heap.size, 0, none⟩ = some (.int .u64 sv) := cell_nw _ _ _ 0 _ rfl
                              have d1 : (w401.alloc (.cells #[.int .u64 sv, .int .u32 sr, .int .u64 sf] 55)).cell? ⟨w401.heap.size, 1, none⟩ = some (.int .u32 sr) := cell_nw _ _ _ 1 _ rfl
                              have d2 : (w401.alloc (.cells #[.int .u64 sv, .int .u32 sr, .int .u64 sf] 55)).cell? ⟨w401.heap.size, 2, none⟩ = some (.int .u64 sf) := cell_nw _ _ _ 2 _ rfl
                              have od : w401.heap.size ∉ F := fun m => by have := hlt _ m; omega
                              have ld := lt_of_cell d0
                              have hS_d := Lib.hid (show (w401.alloc (.cells #[.int .u64 sv, .int .u32 sr, .int .u64 sf] 55)).heap.size = w401.heap.size + 1 by simp)
                              clear hb hlt
                              go_wp2_with fail
                              generalize (w401.alloc (.cells #[.int .u64 sv, .int .u32 sr, .int .u64 sf] 55)) = W403 at *
                              generalize w401.heap.size = b_d at *
                              go_wp2_with fail
                              go_roundw
                              case rel => exact ⟨h + 1, by omega, by go_num, H404.out, HPC.out, HCH.out, BZ.out⟩
                              case measure => simp [intOf]; omega
                            · have v8 : (sv == xv) = false := by simp; exact hsv
                              clear hhl
                              go_wp2_with fail
                              refine (pSpot_at (h : Int) wr HI.out.inn).mono ?_
                              rintro e w401 ⟨rfl, hb⟩
                              rw [HSC.out, ← HSP.out]
                              replace q7 := cell_later hb q7
                              replace q8 := cell_later hb q8
                              have t402 : Step F wr F w401 := Step.of hb
                              have H402 := Lib.hid (HI.out.later hb)
                              replace HPC := Lib.hid (HPC.out.step t402.kept t402.new)
                              replace HCH := Lib.hid (HCH.out.step t402.kept t402.new)
                              replace BZ := Lib.hid (BZ.out.step t402.kept t402.new)
                              clear t402
                              clear hb
                              have hlt := H402.out.inn.lt
                              have hb : Below w401.heap.size w401 (w401.alloc (.cells #[.int .u64 sv, .int .u32 sr, .int .u64 sf] 55)) := below_a _ _
                              replace q7 := cell_later hb q7
                              replace q8 := cell_later hb q8
                              have t404 : Step F w401 F (w401.alloc (.cells #[.int .u64 sv, .int .u32 sr, .int .u64 sf] 55)) := Step.of hb
                              have H404 := Lib.hid (H402.out.later hb)
                              replace HPC := Lib.hid (HPC.out.step t404.kept t404.new)
                              replace HCH := Lib.hid (HCH.out.step t404.kept t404.new)
                              replace BZ := Lib.hid (BZ.out.step t404.kept t404.new)
                              clear t404
                              have d0 : (w401.alloc (.cells #[.int .u64 sv, .int .u32 sr, .int .u64 sf] 55)).cell? ⟨w401.heap.size, 0, none⟩ = some (.int .u64 sv) := cell_nw _ _ _ 0 _ rfl
                              have d1 : (w401.alloc (.cells #[.int .u64 sv, .int .u32 sr, .int .u64 sf] 55)).cell? ⟨w401.heap.size, 1, none⟩ = some (.int .u32 sr) := cell_nw _ _ _ 1 _ rfl
                              have d2 : (w401.alloc (.cells #[.int .u64 sv, .int .u32 sr, .int .u64 sf] 55)).cell? ⟨w401.heap.size, 2, none⟩ = some (.int .u64 sf) := cell_nw _ _ _ 2 _ rfl
                              have od : w401.heap.size ∉ F := fun m => by have := hlt _ m; omega
                              have ld := lt_of_cell d0
                              have hS_d := Lib.hid (show (w401.alloc (.cells #[.int .u64 sv, .int .u32 sr, .int .u64 sf] 55)).heap.size = w401.heap.size + 1 by simp)
                              clear hb hlt
                              go_wp2_with fail
                              generalize (w401.alloc (.cells #[.int .u64 sv, .int .u32 sr, .int .u64 sf] 55)) = W403 at *
                              generalize w401.heap.size = b_d at *
                              go_wp2_with fail
                              go_roundw
                              case rel => exact ⟨h + 1, by omega, by go_num, H404.out, HPC.out, HCH.out, BZ.out⟩
                              case measure => simp [intOf]; omega
                        · have v4 : ((ph : Int) == (g : Int)) = false := by simp; omega
                          have v5 : (ph == g) = false := by simp; exact hpg
                          clear hsg hph
                          go_wp2_with fail
                          refine (pSpot_at (h : Int) wr HI.out.inn).mono ?_
                          rintro e w401 ⟨rfl, hb⟩
                          rw [HSC.out, ← HSP.out]
                          replace q7 := cell_later hb q7
                          replace q8 := cell_later hb q8
                          have t402 : Step F wr F w401 := Step.of hb
                          have H402 := Lib.hid (HI.out.later hb)
                          replace HPC := Lib.hid (HPC.out.step t402.kept t402.new)
                          replace HCH := Lib.hid (HCH.out.step t402.kept t402.new)
                          replace BZ := Lib.hid (BZ.out.step t402.kept t402.new)
                          clear t402
                          clear hb
                          have hlt := H402.out.inn.lt
                          have hb : Below w401.heap.size w401 (w401.alloc (.cells #[.int .u64 sv, .int .u32 sr, .int .u64 sf] 55)) := below_a _ _
                          replace q7 := cell_later hb q7
                          replace q8 := cell_later hb q8
                          have t404 : Step F w401 F (w401.alloc (.cells #[.int .u64 sv, .int .u32 sr, .int .u64 sf] 55)) := Step.of hb
                          have H404 := Lib.hid (H402.out.later hb)
                          replace HPC := Lib.hid (HPC.out.step t404.kept t404.new)
                          replace HCH := Lib.hid (HCH.out.step t404.kept t404.new)
                          replace BZ := Lib.hid (BZ.out.step t404.kept t404.new)
                          clear t404
                          have d0 : (w401.alloc (.cells #[.int .u64 sv, .int .u32 sr, .int .u64 sf] 55)).cell? ⟨w401.heap.size, 0, none⟩ = some (.int .u64 sv) := cell_nw _ _ _ 0 _ rfl
                          have d1 : (w401.alloc (.cells #[.int .u64 sv, .int .u32 sr, .int .u64 sf] 55)).cell? ⟨w401.heap.size, 1, none⟩ = some (.int .u32 sr) := cell_nw _ _ _ 1 _ rfl
                          have d2 : (w401.alloc (.cells #[.int .u64 sv, .int .u32 sr, .int .u64 sf] 55)).cell? ⟨w401.heap.size, 2, none⟩ = some (.int .u64 sf) := cell_nw _ _ _ 2 _ rfl
                          have od : w401.heap.size ∉ F := fun m => by have := hlt _ m; omega
                          have ld := lt_of_cell d0
                          have hS_d := Lib.hid (show (w401.alloc (.cells #[.int .u64 sv, .int .u32 sr, .int .u64 sf] 55)).heap.size = w401.heap.size + 1 by simp)
                          clear hb hlt
                          go_wp2_with fail
                          generalize (w401.alloc (.cells #[.int .u64 sv, .int .u32 sr, .int .u64 sf] 55)) = W403 at *
                          generalize w401.heap.size = b_d at *
                          go_wp2_with fail
                          go_roundw
                          case rel => exact ⟨h + 1, by omega, by go_num, H404.out, HPC.out, HCH.out, BZ.out⟩
                          case measure => simp [intOf]; omega
                      · have v1 : decide ((h : Int) > 0) = false := decide_eq_false (by omega)
                        have v2 : decide (0 < h) = false := decide_eq_false h0
                        have v3 : ¬ (0 : Int) < (h : Int) := by omega
                        clear hsg
                        go_wp2_with fail
                        refine (pSpot_at (h : Int) wr HI.out.inn).mono ?_
                        rintro e w401 ⟨rfl, hb⟩
                        rw [HSC.out, ← HSP.out]
                        replace q7 := cell_later hb q7
                        replace q8 := cell_later hb q8
                        have t402 : Step F wr F w401 := Step.of hb
                        have H402 := Lib.hid (HI.out.later hb)
                        replace HPC := Lib.hid (HPC.out.step t402.kept t402.new)
                        replace HCH := Lib.hid (HCH.out.step t402.kept t402.new)
                        replace BZ := Lib.hid (BZ.out.step t402.kept t402.new)
                        clear t402
                        clear hb
                        have hlt := H402.out.inn.lt
                        have hb : Below w401.heap.size w401 (w401.alloc (.cells #[.int .u64 sv, .int .u32 sr, .int .u64 sf] 55)) := below_a _ _
                        replace q7 := cell_later hb q7
                        replace q8 := cell_later hb q8
                        have t404 : Step F w401 F (w401.alloc (.cells #[.int .u64 sv, .int .u32 sr, .int .u64 sf] 55)) := Step.of hb
                        have H404 := Lib.hid (H402.out.later hb)
                        replace HPC := Lib.hid (HPC.out.step t404.kept t404.new)
                        replace HCH := Lib.hid (HCH.out.step t404.kept t404.new)
                        replace BZ := Lib.hid (BZ.out.step t404.kept t404.new)
                        clear t404
                        have d0 : (w401.alloc (.cells #[.int .u64 sv, .int .u32 sr, .int .u64 sf] 55)).cell? ⟨w401.heap.size, 0, none⟩ = some (.int .u64 sv) := cell_nw _ _ _ 0 _ rfl
                        have d1 : (w401.alloc (.cells #[.int .u64 sv, .int .u32 sr, .int .u64 sf] 55)).cell? ⟨w401.heap.size, 1, none⟩ = some (.int .u32 sr) := cell_nw _ _ _ 1 _ rfl
                        have d2 : (w401.alloc (.cells #[.int .u64 sv, .int .u32 sr, .int .u64 sf] 55)).cell? ⟨w401.heap.size, 2, none⟩ = some (.int .u64 sf) := cell_nw _ _ _ 2 _ rfl
                        have od : w401.heap.size ∉ F := fun m => by have := hlt _ m; omega
                        have ld := lt_of_cell d0
                        have hS_d := Lib.hid (show (w401.alloc (.cells #[.int .u64 sv, .int .u32 sr, .int .u64 sf] 55)).heap.size = w401.heap.size + 1 by simp)
                        clear hb hlt
                        go_wp2_with fail
                        generalize (w401.alloc (.cells #[.int .u64 sv, .int .u32 sr, .int .u64 sf] 55)) = W403 at *
                        generalize w401.heap.size = b_d at *
                        go_wp2_with fail
                        go_roundw
                        case rel => exact ⟨h + 1, by omega, by go_num, H404.out, HPC.out, HCH.out, BZ.out⟩
                        case measure => simp [intOf]; omega
                    · have HHN := Lib.hid (show h = n by omega)
                      have v0 : decide ((h : Int) < (n : Int)) = false := decide_eq_false (by omega)
                      have v1 : ¬ (h : Int) < (n : Int) := by omega
                      clear hh hhn
                      go_wp2_with fail
                      go_roundw
                      case rel => exact ⟨i + 1, by omega, by go_num, HI.out, HPC.out, HCH.out, BZ.out⟩
                      case measure => simp [intOf]; omega
      · have z0 : decide ((i : Int) < (m : Int)) = false := decide_eq_false (by omega)
        have z1 : ¬ (i : Int) < (m : Int) := by omega
        have z2 : ¬ i < m := hlt
        clear hi hlt
        go_wp2_with fail
        refine (AW.out wr).mono ?_
        rintro e w9 ⟨rfl, hb9⟩
        have HB9 := Lib.hid (Below.step HI.out.bel hb9)
        clear hb9
        go_wp2_with fail
        go_ret
        exact ⟨rfl, HB9.out⟩
end Go.Proofs.YtfgmglghlapbcaaGreat
