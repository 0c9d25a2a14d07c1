/-
  PickBack: a task that enters and leaves at once leaves no trace.
-/
import Derived.Test.YtfgmglghlapbcaaGreatPickBr
namespace Go.Proofs.YtfgmglghlapbcaaGreat
open Go.RowKit Go.Maps Go.IntWalk Go.Lib Go.Sort Go.Shelf
set_option linter.unusedVariables false
set_option linter.unusedSimpArgs false
theorem wf32 {x : Int} (h : (Lit.int .u32 x).wf = true) : 0 ≤ x ∧ x ≤ 4294967295 := by
  simp only [Lit.wf, Bool.and_eq_true, decide_eq_true_eq, IntKind.min, IntKind.max, IntKind.bits, IntKind.signed] at h
  simp at h
  omega
theorem tree_load {w : World} {t : Nat} {F : List Nat} {s : TSt} (h : TreeIn w t F s) : -16777216 ≤ loadTo s s.n ∧ loadTo s s.n ≤ 1103806595072 := by
  obtain ⟨bg, bq, ba, bm, qp, Fq, hr, rfl⟩ := h
  have := hr.loads s.n (Nat.le_refl _)
  have := hr.pos
  omega
theorem tree_len {w : World} {t : Nat} {F : List Nat} {s : TSt} (h : TreeIn w t F s) : s.c ≤ 70000 := by
  obtain ⟨bg, bq, ba, bm, qp, Fq, hr, rfl⟩ := h
  obtain ⟨L, h1, h2, h3⟩ := hr.keys
  have := tasks_le h1 fun x hx => hr.tid x ((h3 x).1 hx)
  omega
theorem lists_snoc (V : Nat → Value) (k : Nat) (v : Value) : ((List.range (k + 1)).map fun j => if j = k then v else V j) = (List.range k).map V ++ [v] := by
  rw [List.range_succ, List.map_append]
  congr 1
  · exact List.map_congr_left fun j hj => by rw [List.mem_range] at hj; rw [if_neg (by omega)]
  · simp
theorem own_lists {w : World} {base e b n c : Nat} {V : Nat → Value} (h : w.ownsRow base e 1 (.slice (some ⟨b, 0, none⟩) n c) n ((List.range n).map V)) {j : Nat} (hj : j < n) : w.cell? ⟨b, j, none⟩ = some (V j) := by
  have := h.cellAt j (by omega)
  rw [this, List.getElem?_map, List.getElem?_range hj]
  rfl
theorem tasksT_len {w : World} {t : Nat} {F : List Nat} {s : TSt} (h : TreeIn w t F s) (g : Int) : (tasksT s g).length ≤ 131072 := by
  obtain ⟨bg, bq, ba, bm, qp, Fq, hr, rfl⟩ := h
  unfold tasksT
  by_cases q : hasV (s.n : Int) g = true
  · rw [if_pos q]
    have hv : 0 ≤ g ∧ g < (s.n : Int) := of_decide_eq_true q
    have := (hr.q g.toNat (by omega)).ids
    have := tasksM_len (s.M g.toNat)
    omega
  · rw [if_neg q]; simp
set_option maxRecDepth 100000 in
set_option maxHeartbeats 8000000 in
theorem PickBack_true (s0 : Option Addr) (l0 c0 : Nat) (F0 : Nat → Nat → Value) (s1 : Option Addr) (l1 c1 : Nat) (F1 : Nat → Nat → Value) (s2 : Option Addr) (l2 c2 : Nat) (F2 : Nat → Nat → Value) (a3 a4 a5 a6 : Int) (w : World)
    (r0 : PlainRow [some .u8] w s0 l0 c0 F0) (r1 : PlainRow [some .u16] w s1 l1 c1 F1) (r2 : PlainRow [some .u8, some .u8, some .u8, some .u32, some .u16, some .u16, some .u32] w s2 l2 c2 F2) (g3 : (Lit.int .u8 a3).wf = true) (g4 : (Lit.int .u64 a4).wf = true) (g5 : (Lit.int .u32 a5).wf = true) (g6 : (Lit.int .u32 a6).wf = true) :
    Calls Tryz.prog 3 #[.slice s0 l0 c0, .slice s1 l1 c1, .slice s2 l2 c2, .int .u8 a3, .int .u64 a4, .int .u32 a5, .int .u32 a6] w fun e w' => e = .returned (.bool true) ∧ Below w.heap.size w w' := by
  obtain ⟨xs0, n0⟩ := nums_of r0
  obtain ⟨xs1, n1⟩ := nums_of r1
  have A1 := Lib.hid (Groups_at s0 s1 l0 l1 c0 c1 xs0 xs1 w (row_num n0) (row_num n1) (fun x hx => sm8 (fit_num n0 x hx)) (fun x hx => sm16 (fit_num n1 x hx)))
  have A2 := Lib.hid fun W bgs cgs Gs (h : RecsAt encG W (.slice (some ⟨bgs, 0, none⟩) Gs.length cgs) Gs) (hr : RightG Gs) (r : PlainRow smK W s2 l2 c2 F2) => made_at bgs cgs Gs 5 s2 l2 c2 F2 W h hr (by decide) r
  have R2 := Lib.hid (show PlainRow smK w s2 l2 c2 F2 from r2)
  have AW := Lib.hid awake_at
  clear r0 r1 r2 n0 n1
  obtain ⟨i0, hi, hz0, hz1, hz2⟩ := info_parts infoIs
  have b3 := sm8 g3
  have b4 := wf_u64 g4
  have b5 := wf32 g5
  have b6 := wf32 g6
  obtain ⟨rr, cc, hok, hre, hcc, AM⟩ := Made_ex a4 a5 a6 b4 b5 b6
  have HAM := Lib.hid AM
  have HOX := Lib.hid (show EntOk (a4, rr, cc) from hok)
  have hcb : 1 ≤ cc ∧ cc ≤ 65536 := by unfold Ch.Ok at hok; omega
  clear g3 g4 g5 g6 b4 b5 b6 hre hcc AM hok
  go_enter Tryz.func3, Tryz.ntmps3
  go_wp2_with fail
  refine A1.out.mono ?_; clear A1; rintro e w1 ⟨Gs, vg, rfl, hr, hl7, hog, hb1⟩
  have HRI := Lib.hid hr
  have hpos := hr.pos
  obtain ⟨bgs, cgs, rfl⟩ := own_pos hog hpos
  have HRG := Lib.hid (own_recs encG_ok hog)
  have HOG := Lib.hid hog
  have R2b := Lib.hid (plain_later R2.out hb1)
  have HB1 := Lib.hid hb1
  clear hog hr R2 hb1
  go_wp2_with fail
  refine (A2.out w1 bgs cgs Gs HRG.out HRI.out R2b.out).mono ?_; clear A2; rintro e w2 ⟨t, F, s, rfl, hT, hM, hF, hb2⟩
  have HM := Lib.hid hM
  have HW1 := Lib.hid (show TW w t s w2 F from ⟨hT, fun b hb => Nat.le_trans HB1.out.size (hF b hb), Below.step HB1.out hb2⟩)
  have HGR := Lib.hid ((own_heldR encG_ok (F := []) HOG.out rfl rfl (fun b hb => by cases hb)).step (Kept.of hb2) (F' := F) (fun b hb => Or.inr (hF b hb)))
  obtain ⟨n, hn⟩ : ∃ n, n = Gs.length := ⟨_, rfl⟩
  rw [← hn] at hl7 hpos ⊢
  have HN := Lib.hid hn
  have HNS := Lib.hid (show s.n = n from HM.out.n.trans hn.symm)
  clear hT hM hF hb2 R2b HRG HOG hn HB1
  obtain ⟨gk, hgk⟩ : ∃ g : Nat, g = a3.toNat % n := ⟨_, rfl⟩
  have hgl : gk < n := by rw [hgk]; exact Nat.mod_lt _ hpos
  have tm : Int.tmod a3 (n : Int) = (gk : Int) := by rw [Int.tmod_eq_emod_of_nonneg b3.1, hgk]; push_cast; rw [show ((a3.toNat : Nat) : Int) = a3 by have := b3.1; omega]
  have wa : IntKind.i64.wrap a3 = a3 := IntWalk.i64_in _ (by have := b3; omega)
  have wg : IntKind.i64.wrap (gk : Int) = (gk : Int) := IntWalk.i64_in _ (by omega)
  have hjz : ((n : Int) = 0) = False := by simp; omega
  clear hgk
  have hok := HM.out.ok
  have hTn : s.T 100 = none := by cases e : s.T 100 with | none => rfl | some q => (have := HM.out.few 100 (by rw [e]; simp); omega)
  obtain ⟨k0, k1, k2, k3, k4, k5, k6, k7, k8⟩ := come_back (id := 100) (k := gk) hok (by decide) hTn (by rw [HNS.out]; exact hgl) HOX.out
  have hok1 : TOk (comS s 100 (gk : Int) (a4, rr, cc)) := come_ok hok
  have hld := tree_load HW1.out.inn
  obtain ⟨st1, hs1⟩ : ∃ x, x = comS s 100 (gk : Int) (a4, rr, cc) := ⟨_, rfl⟩
  obtain ⟨st2, hs2⟩ : ∃ x, x = plvS st1 100 := ⟨_, rfl⟩
  rw [← hs1] at k1 k2 k3 k4 k5 k6 k7 k8 hok1
  rw [← hs2] at k6 k7 k8
  have hok2 : TOk st2 := by rw [hs2]; exact leave_ok hok1
  have hn2 : st2.n = s.n := by unfold TSt.n; rw [k8]
  have AF := fun W F (h : TreeIn W t F s) => pFirst_at W h (tok_down hok)
  have AF2 := fun W F (h : TreeIn W t F st2) => pFirst_at W h (tok_down hok2)
  rw [leadT_congr k6 hn2] at AF2
  have AL := fun W F (h : TreeIn W t F s) => pLoad_at W h
  have AL1 := fun W F (h : TreeIn W t F st1) => pLoad_at W h
  have AL2 := fun W F (h : TreeIn W t F st2) => pLoad_at W h
  rw [k1, k3] at AL1
  rw [loadTo_congr k6 k8, hn2] at AL2
  have AC := fun W F (h : TreeIn W t F s) => pLen_at W h
  have AC1 := fun W F (h : TreeIn W t F st1) => pLen_at W h
  have AC2 := fun W F (h : TreeIn W t F st2) => pLen_at W h
  rw [k2] at AC1
  rw [k7] at AC2
  push_cast at AC1
  have hcn : s.c ≤ 70000 := tree_len HW1.out.inn
  generalize (leadT s).1 = fi at AF AF2
  generalize decide (0 < fi) = fb at AF AF2
  generalize loadTo s s.n = ld at AL AL1 AL2 hld
  generalize s.c = cn at AC AC1 AC2 hcn
  have AT2 := fun W F (h : TreeIn W t F st2) g => pTasks_at g W h
  simp only [tasksT_congr k6 hn2] at AT2
  have AB2 := fun W F (h : TreeIn W t F st2) (hV : RecsAt encG W (.slice (some ⟨bgs, 0, none⟩) Gs.length cgs) Gs) => busy_at W h hok2 HRI.out (by rw [k8]; exact HM.out.par) (hn2.trans HM.out.n) hV
  rw [show BusyP st2 = BusyP s by funext W e W'; unfold BusyP; rw [hn2, show nonE st2 = nonE s from funext fun g => by unfold nonE; rw [k6]]] at AB2
  have AB := fun W F (h : TreeIn W t F s) (hV : RecsAt encG W (.slice (some ⟨bgs, 0, none⟩) Gs.length cgs) Gs) => busy_at W h hok HRI.out HM.out.par HM.out.n hV
  rw [← HN.out] at AB AB2
  unfold BusyP at AB AB2
  rw [HNS.out] at AB AB2
  have wl1 : IntKind.i64.wrap (ld + cc) = ld + cc := IntWalk.i64_in _ (by omega)
  have wl2 : IntKind.i64.wrap ((cn : Int) + 1) = (cn : Int) + 1 := IntWalk.i64_in _ (by omega)
  have wl3 : IntKind.i64.wrap cc = cc := IntWalk.i64_in _ (by omega)
  have HS1 := Lib.hid hs1
  have HS2 := Lib.hid hs2
  have K0 := Lib.hid k0
  have K4 := Lib.hid k4
  have K5 := Lib.hid k5
  replace AF := Lib.hid AF
  replace AF2 := Lib.hid AF2
  replace AL := Lib.hid AL
  replace AL1 := Lib.hid AL1
  replace AL2 := Lib.hid AL2
  replace AC := Lib.hid AC
  replace AC1 := Lib.hid AC1
  replace AC2 := Lib.hid AC2
  replace AT2 := Lib.hid AT2
  replace AB := Lib.hid AB
  replace AB2 := Lib.hid AB2
  have HOK := Lib.hid hok
  clear hok hTn k0 k1 k2 k3 k4 k5 k6 k7 k8 hok1 hok2 hn2 hs1 hs2 hld hcn
  go_wp2_with fail
  refine (AF.out w2 _ HW1.out.inn).mono ?_
  rintro e w11 ⟨rfl, hb⟩
  have t12 : Step F w2 F w11 := Step.of hb
  have H12 := Lib.hid (HW1.out.later hb)
  replace HGR := Lib.hid (HGR.out.step t12.kept t12.new)
  clear t12
  clear hb
  go_wp2_with fail
  refine (AL.out w11 _ H12.out.inn).mono ?_
  rintro e w13 ⟨rfl, hb⟩
  have t14 : Step F w11 F w13 := Step.of hb
  have H14 := Lib.hid (H12.out.later hb)
  replace HGR := Lib.hid (HGR.out.step t14.kept t14.new)
  clear t14
  clear hb
  go_wp2_with fail
  refine (AC.out w13 _ H14.out.inn).mono ?_
  rintro e w_ ⟨rfl, rfl⟩
  go_wp2_with fail
  refine (AB.out w13 _ H14.out.inn (by have := HGR.out.recs; rwa [← HN.out] at this)).mono ?_
  rintro e w15 ⟨bz, rfl, hz1, hz2, hz3, hb⟩
  have BZ := Lib.hid (show BolC w15 F bz n (nonE s) from ⟨fun m => by have := H14.out.inn.lt bz m; omega, hz2, hz3⟩)
  clear hz1 hz2 hz3
  have t16 : Step F w13 F w15 := Step.of hb
  have H16 := Lib.hid (H14.out.later hb)
  replace HGR := Lib.hid (HGR.out.step t16.kept t16.new)
  clear t16
  clear hb
  go_wp2_with fail
  go_loopw [23, 60] (fun v i wr => ∃ (k : Nat) (V : Nat → Value), k ≤ n ∧ i = .int .i64 k ∧ wr.ownsRow w15.heap.size 37 1 v k ((List.range k).map V) ∧ (∀ j, j < k → wr.ownsRow w15.heap.size 3 1 (V j) (tasksT s (j : Int)).length (intsV (tasksT s (j : Int)))) ∧ Below w15.heap.size w15 wr) (fun _ i _ => n - (intOf i).toNat)
  case atStart => exact ⟨0, fun _ => undef, Nat.zero_le _, rfl, World.ownsRow_nil _ _ _ _, fun j hj => by omega, Below.refl _ _⟩
  case round =>
    obtain ⟨k, V, hk, rfl, hown, hrow, hb⟩ := hrel
    have HO := Lib.hid hown
    have HR := Lib.hid hrow
    have HB := Lib.hid hb
    clear hown hrow
    by_cases hlt : k < n
    · have hki : (k : Int) < (n : Int) := by omega
      have z0 : decide ((k : Int) < (n : Int)) = true := decide_eq_true hki
      have hk0 : (0 : Int) ≤ (k : Int) := by omega
      have A8 := Lib.hid (pTasks_at (k : Int) wr (H16.out.inn.below hb))
      have HTL := Lib.hid (tasksT_len H16.out.inn (k : Int))
      clear hb
      go_wp2_with fail
      refine A8.out.mono ?_; clear A8; rintro e w8 ⟨v8, rfl, ho8, hb8⟩
      obtain ⟨a8, c8, rfl⟩ := own_shapeT ho8
      have HO8 := Lib.hid (own_below HO.out hb8)
      have HR8 := Lib.hid (fun j (hj : j < k) => own_below (HR.out j hj) hb8)
      have HV8 := Lib.hid (own_base ho8 HB.out.size)
      have HB8 := Lib.hid (Below.step HB.out hb8)
      clear ho8 hb8
      go_wp2_with (at_builtin; refine wpList_append_own _ rfl _ _ 36 rfl w15.heap.size 37 i0 (.slice none 0 0) 1 24 Tryz.underlying36 hi hz0 hz1 hz2 rfl (by decide) _ k ((List.range k).map V) rfl (World.ownsRow.alloc HO8.out _) _ 1 1 [.slice a8 (tasksT s (k : Int)).length c8] rfl rfl ?c1 ?c2 ?c3 ?c4 ?c5 ?_)
      case c1 =>
        intro q u hq
        rw [addN]
        exact cellN (by simp) (by simpa using hq)
      case c2 =>
        intro u hu
        simp only [List.mem_cons, List.not_mem_nil, or_false] at hu
        subst hu; rfl
      case c3 => unfold maxLen; omega
      case c4 => omega
      case c5 => exact (Below.allocS HB8.out _).size
      intro v' w9 hown9 hgrow9 _
      obtain ⟨v8, hv8⟩ : ∃ x : Value, x = .slice a8 (tasksT s (k : Int)).length c8 := ⟨_, rfl⟩
      have HV9 := HV8.out
      rw [← hv8] at hown9 HV9
      have hb9 : Below w15.heap.size w15 w9 := (Below.allocS HB8.out _).grown hgrow9 (Below.allocS HB8.out _).size (fun q e => (HO8.out.lt q e).1)
      have HW9 := Lib.hid (show w9.ownsRow w15.heap.size 37 1 v' (k + 1) ((List.range (k + 1)).map fun j => if j = k then v8 else V j) by rw [lists_snoc]; exact hown9)
      have HR9 := Lib.hid (fun j (hj : j < k + 1) => show w9.ownsRow w15.heap.size 3 1 (if j = k then v8 else V j) (tasksT s (j : Int)).length (intsV (tasksT s (j : Int))) by
        by_cases q : j = k
        · rw [if_pos q, q]
          exact (World.ownsRow.alloc HV9 _).kept hgrow9 (own_apart HV9 HO8.out (by decide))
        · rw [if_neg q]
          have h8 := HR8.out j (by omega)
          exact (World.ownsRow.alloc h8 _).kept hgrow9 (own_apart h8 HO8.out (by decide)))
      have HB9 := Lib.hid hb9
      clear hown9 hgrow9 hb9 hv8 HV9
      go_wp2_with fail
      go_roundw
      case rel => exact ⟨k + 1, _, by omega, by go_num, HW9.out, HR9.out, HB9.out⟩
      case measure => simp [intOf]; omega
    · obtain rfl : n = k := by omega
      have z0 : decide ((n : Int) < (n : Int)) = false := decide_eq_false (by omega)
      obtain ⟨bl, cl, rfl⟩ := own_pos HO.out hpos
      have HLC := Lib.hid (show LstC wr F bl n V (fun j => tasksT s (j : Int)) from ⟨fun m => by have := H16.out.inn.lt _ m; have := (HO.out.lt bl rfl).1; omega, (HO.out.lt bl rfl).2, fun j hj => own_lists HO.out hj, fun j hj => own_heldR encJ_ok (HR.out j hj) rfl (flatJ _).symm H16.out.inn.lt⟩)
      have t17 : Step F w15 F wr := Step.of hb
      have H17 := Lib.hid (H16.out.later hb)
      replace HGR := Lib.hid (HGR.out.step t17.kept t17.new)
      replace BZ := Lib.hid (BZ.out.step t17.kept t17.new)
      clear t17
      clear hb HO HR HB hk hlt
      go_wp2_with fail
      refine (HAM.out wr).mono ?_
      rintro e w18 ⟨rfl, hb⟩
      have t19 : Step F wr F w18 := Step.of hb
      have H19 := Lib.hid (H17.out.later hb)
      replace HGR := Lib.hid (HGR.out.step t19.kept t19.new)
      replace BZ := Lib.hid (BZ.out.step t19.kept t19.new)
      replace HLC := Lib.hid (HLC.out.step t19.kept t19.new)
      clear t19
      clear hb
      have hlt := H19.out.inn.lt
      have hb : Below w18.heap.size w18 (w18.alloc (.cells #[.int .u64 a4, .int .u32 rr, .int .u32 cc] 40)) := below_a _ _
      have t21 : Step F w18 F (w18.alloc (.cells #[.int .u64 a4, .int .u32 rr, .int .u32 cc] 40)) := Step.of hb
      have H21 := Lib.hid (H19.out.later hb)
      replace HGR := Lib.hid (HGR.out.step t21.kept t21.new)
      replace BZ := Lib.hid (BZ.out.step t21.kept t21.new)
      replace HLC := Lib.hid (HLC.out.step t21.kept t21.new)
      clear t21
      have x0 : (w18.alloc (.cells #[.int .u64 a4, .int .u32 rr, .int .u32 cc] 40)).cell? ⟨w18.heap.size, 0, none⟩ = some (.int .u64 a4) := cell_nw _ _ _ 0 _ rfl
      have x1 : (w18.alloc (.cells #[.int .u64 a4, .int .u32 rr, .int .u32 cc] 40)).cell? ⟨w18.heap.size, 1, none⟩ = some (.int .u32 rr) := cell_nw _ _ _ 1 _ rfl
      have x2 : (w18.alloc (.cells #[.int .u64 a4, .int .u32 rr, .int .u32 cc] 40)).cell? ⟨w18.heap.size, 2, none⟩ = some (.int .u32 cc) := cell_nw _ _ _ 2 _ rfl
      have ox : w18.heap.size ∉ F := fun m => by have := hlt _ m; omega
      have lx := lt_of_cell x0
      have hS_x := Lib.hid (show (w18.alloc (.cells #[.int .u64 a4, .int .u32 rr, .int .u32 cc] 40)).heap.size = w18.heap.size + 1 by simp)
      clear hb hlt
      go_wp2_with fail
      generalize (w18.alloc (.cells #[.int .u64 a4, .int .u32 rr, .int .u32 cc] 40)) = W20 at *
      generalize w18.heap.size = b_x at *
      go_wp2_with fail
      refine (pCome_at 100 (gk : Int) a4 rr cc W20 H21.out.inn rfl (wfI (by omega) (by omega)) HOX.out.fits).mono ?_
      rintro e w22 ⟨rfl, hA⟩
      rw [K0.out]
      rw [← HS1.out] at hA
      obtain ⟨F23, h23, t23⟩ := H21.out.step hA
      have H23 := Lib.hid (show TW w t st1 w22 F23 from h23)
      replace x0 := t23.cell ox x0
      replace x1 := t23.cell ox x1
      replace x2 := t23.cell ox x2
      replace ox := t23.off ox lx
      replace lx := lt_of_cell x0
      replace HGR := Lib.hid (HGR.out.step t23.kept t23.new)
      replace BZ := Lib.hid (BZ.out.step t23.kept t23.new)
      replace HLC := Lib.hid (HLC.out.step t23.kept t23.new)
      clear t23 h23 hA
      go_wp2_with fail
      have hS0 : Below w22.heap.size w22 w22.drew ∧ w22.drew.cell? ⟨b_x, 2, none⟩ = some (.int .u32 cc) := ⟨Below.drew (Below.refl _ _), cell_dr x2⟩
      refine wp_region_held_drew (S := fun w' => Below w22.heap.size w22 w' ∧ w'.cell? ⟨b_x, 2, none⟩ = some (.int .u32 cc)) (by kernel_rfl) hS0 (fun hHeld => ?_)
      refine takeH (i := 0) (v := ?v0_1) rfl (by kernel_rfl) (fun _ _ _ h => h) (by rfl) ?hy0_1 (by assumption) ?rest0_1
      case hy0_1 => (intro w hSw; (try dsimp only at hSw); go_simp; try with_reducible rfl)
      try simp only [Act.put, List.setIfInBounds_toArray, List.set_cons_zero, List.set_cons_succ]
      refine takeH (i := 1) (v := ?v1_2) rfl (by kernel_rfl) (fun _ _ _ h => h) (by rfl) ?hy1_2 (by assumption) ?rest1_2
      case hy1_2 => (intro w hSw; (try dsimp only at hSw); go_simp; try with_reducible rfl)
      try simp only [Act.put, List.setIfInBounds_toArray, List.set_cons_zero, List.set_cons_succ]
      refine takeH (i := 2) (v := ?v2_3) rfl (by kernel_rfl) (fun _ _ _ h => h) (by rfl) ?hy2_3 (by assumption) ?rest2_3
      case hy2_3 => (intro w hSw; (try dsimp only at hSw); go_simp; try with_reducible rfl)
      try simp only [Act.put, List.setIfInBounds_toArray, List.set_cons_zero, List.set_cons_succ]
      refine takeH (i := 3) (v := ?v3_4) rfl (by kernel_rfl) (fun _ _ _ h => h) (by rfl) ?hy3_4 (by assumption) ?rest3_4
      case hy3_4 => (intro w hSw; (try dsimp only at hSw); go_simp; try with_reducible rfl)
      try simp only [Act.put, List.setIfInBounds_toArray, List.set_cons_zero, List.set_cons_succ]
      refine takeH (i := 5) (v := ?v5_5) rfl (by kernel_rfl) (fun _ _ _ h => h) (by rfl) ?hy5_5 (by assumption) ?rest5_5
      case hy5_5 => (intro w hSw; (try dsimp only at hSw); go_simp; try with_reducible rfl)
      try simp only [Act.put, List.setIfInBounds_toArray, List.set_cons_zero, List.set_cons_succ]
      refine takeH (i := 6) (v := ?v6_6) rfl (by kernel_rfl) (fun _ _ _ h => h) (by rfl) ?hy6_6 (by assumption) ?rest6_6
      case hy6_6 => (intro w hSw; (try dsimp only at hSw); go_simp; try with_reducible rfl)
      try simp only [Act.put, List.setIfInBounds_toArray, List.set_cons_zero, List.set_cons_succ]
      refine wpAnyH_ready (rs := [4]) (by kernel_rfl) (by simp) ?_
      refine consH rfl (fun K hK => ?_) (AllReadyH.nil)
      go_simp
      refine (AC1.out _ _ (H23.out.inn.below (Below.refl _ _).drew)).mono ?_
      rintro e w_ ⟨rfl, rfl⟩
      go_wp2_with fail
      refine hK.out _ _ ?_ (fun hHeld4 => ?_)
      · (first | assumption | (refine held_1 (by assumption) ?_; assumption) | (refine held_1 (below_ad _ _) ?_; assumption) | (refine held_1 (below_a _ _) ?_; assumption))
      clear hK K
      try simp only [Act.put, List.setIfInBounds_toArray, List.set_cons_zero, List.set_cons_succ]
      refine takeH (i := 7) (v := ?v7_7) rfl (by kernel_rfl) (fun _ _ _ h => h) (by rfl) ?hy7_7 (by assumption) ?rest7_7
      case hy7_7 => (intro w hSw; (try dsimp only at hSw); go_simp; try with_reducible rfl)
      try simp only [Act.put, List.setIfInBounds_toArray, List.set_cons_zero, List.set_cons_succ]
      refine takeH (i := 8) (v := ?v8_8) rfl (by kernel_rfl) (fun _ _ _ h => h) (by rfl) ?hy8_8 (by assumption) ?rest8_8
      case hy8_8 => (intro w hSw; (try dsimp only at hSw); go_simp; try with_reducible rfl)
      try simp only [Act.put, List.setIfInBounds_toArray, List.set_cons_zero, List.set_cons_succ]
      refine takeH (i := 9) (v := ?v9_9) rfl (by kernel_rfl) (fun _ _ _ h => h) (by rfl) ?hy9_9 (by assumption) ?rest9_9
      case hy9_9 => (intro w hSw; (try dsimp only at hSw); go_simp; try with_reducible rfl)
      try simp only [Act.put, List.setIfInBounds_toArray, List.set_cons_zero, List.set_cons_succ]
      refine takeH (i := 10) (v := ?v10_10) rfl (by kernel_rfl) (fun _ _ _ h => h) (by rfl) ?hy10_10 (by assumption) ?rest10_10
      case hy10_10 => (intro w hSw; (try dsimp only at hSw); go_simp; try with_reducible rfl)
      try simp only [Act.put, List.setIfInBounds_toArray, List.set_cons_zero, List.set_cons_succ]
      refine takeH (i := 12) (v := ?v12_11) rfl (by kernel_rfl) (fun _ _ _ h => h) (by rfl) ?hy12_11 (by assumption) ?rest12_11
      case hy12_11 => (intro w hSw; (try dsimp only at hSw); go_simp; try with_reducible rfl)
      try simp only [Act.put, List.setIfInBounds_toArray, List.set_cons_zero, List.set_cons_succ]
      refine takeH (i := 13) (v := ?v13_12) rfl (by kernel_rfl) (fun _ _ _ h => h) (by rfl) ?hy13_12 (by assumption) ?rest13_12
      case hy13_12 => (intro w hSw; (try dsimp only at hSw); go_simp; try with_reducible rfl)
      try simp only [Act.put, List.setIfInBounds_toArray, List.set_cons_zero, List.set_cons_succ]
      refine takeH (i := 14) (v := ?v14_13) rfl (by kernel_rfl) (fun _ _ _ h => h) (by rfl) ?hy14_13 (by assumption) ?rest14_13
      case hy14_13 => (intro w hSw; (try dsimp only at hSw); go_simp; try with_reducible rfl)
      try simp only [Act.put, List.setIfInBounds_toArray, List.set_cons_zero, List.set_cons_succ]
      refine takeH (i := 15) (v := ?v15_14) rfl (by kernel_rfl) (fun _ _ _ h => h) (by rfl) ?hy15_14 (by assumption) ?rest15_14
      case hy15_14 => (intro w hSw; (try dsimp only at hSw); go_simp; try with_reducible rfl)
      try simp only [Act.put, List.setIfInBounds_toArray, List.set_cons_zero, List.set_cons_succ]
      refine takeH (i := 16) (v := ?v16_15) rfl (by kernel_rfl) (fun _ _ _ h => h) (by rfl) ?hy16_15 (by assumption) ?rest16_15
      case hy16_15 => (intro w hSw; (try dsimp only at hSw); go_simp; try with_reducible rfl)
      try simp only [Act.put, List.setIfInBounds_toArray, List.set_cons_zero, List.set_cons_succ]
      refine wpAnyH_ready (rs := [11]) (by kernel_rfl) (by simp) ?_
      refine consH rfl (fun K hK => ?_) (AllReadyH.nil)
      go_simp
      refine (AL1.out _ _ (H23.out.inn.below (Below.refl _ _).drew)).mono ?_
      rintro e w17 ⟨rfl, hb17⟩
      go_wp2_with fail
      refine hK.out _ _ ?_ (fun hHeld11 => ?_)
      · (first | assumption | (refine held_1 (by assumption) ?_; assumption) | (refine held_1 (below_ad _ _) ?_; assumption) | (refine held_1 (below_a _ _) ?_; assumption))
      clear hK K
      try simp only [Act.put, List.setIfInBounds_toArray, List.set_cons_zero, List.set_cons_succ]
      refine takeH (i := 17) (v := ?v17_16) rfl (by kernel_rfl) (fun _ _ _ h => h) (by rfl) ?hy17_16 (by assumption) ?rest17_16
      case hy17_16 => (intro w hSw; (try dsimp only at hSw); go_simp; try with_reducible rfl)
      try simp only [Act.put, List.setIfInBounds_toArray, List.set_cons_zero, List.set_cons_succ]
      refine takeH (i := 18) (v := ?v18_17) rfl (by kernel_rfl) (fun _ _ _ h => h) (by rfl) ?hy18_17 (by assumption) ?rest18_17
      case hy18_17 => (intro w hSw; (try dsimp only at hSw); go_simp; try with_reducible rfl)
      try simp only [Act.put, List.setIfInBounds_toArray, List.set_cons_zero, List.set_cons_succ]
      refine wpAnyH_done (by kernel_rfl) ?_ _
      skip
      have hb := Below.step (Below.refl w22.heap.size w22).drew hb17
      clear hS0 hb17
      have t24 : Step F23 w22 F23 w17 := Step.of hb
      have H24 := Lib.hid (H23.out.later hb)
      replace x0 := t24.cell ox x0
      replace x1 := t24.cell ox x1
      replace x2 := t24.cell ox x2
      replace ox := t24.off ox lx
      replace lx := lt_of_cell x0
      replace HGR := Lib.hid (HGR.out.step t24.kept t24.new)
      replace BZ := Lib.hid (BZ.out.step t24.kept t24.new)
      replace HLC := Lib.hid (HLC.out.step t24.kept t24.new)
      clear t24
      clear hb
      go_wp2_with fail
      refine (pLeave_at 100 w17 H24.out.inn rfl).mono ?_
      rintro e w25 ⟨rfl, hA⟩
      rw [K4.out, K5.out]
      rw [← HS2.out] at hA
      obtain ⟨F26, h26, t26⟩ := H24.out.step hA
      have H26 := Lib.hid (show TW w t st2 w25 F26 from h26)
      replace x0 := t26.cell ox x0
      replace x1 := t26.cell ox x1
      replace x2 := t26.cell ox x2
      replace ox := t26.off ox lx
      replace lx := lt_of_cell x0
      replace HGR := Lib.hid (HGR.out.step t26.kept t26.new)
      replace BZ := Lib.hid (BZ.out.step t26.kept t26.new)
      replace HLC := Lib.hid (HLC.out.step t26.kept t26.new)
      clear t26 h26 hA
      have hlt := H26.out.inn.lt
      have hb : Below w25.heap.size w25 (w25.alloc (.cells #[.int .u64 a4, .int .u32 rr, .int .u32 cc] 40)) := below_a _ _
      have t28 : Step F26 w25 F26 (w25.alloc (.cells #[.int .u64 a4, .int .u32 rr, .int .u32 cc] 40)) := Step.of hb
      have H28 := Lib.hid (H26.out.later hb)
      replace x0 := t28.cell ox x0
      replace x1 := t28.cell ox x1
      replace x2 := t28.cell ox x2
      replace ox := t28.off ox lx
      replace lx := lt_of_cell x0
      replace HGR := Lib.hid (HGR.out.step t28.kept t28.new)
      replace BZ := Lib.hid (BZ.out.step t28.kept t28.new)
      replace HLC := Lib.hid (HLC.out.step t28.kept t28.new)
      clear t28
      have y0 : (w25.alloc (.cells #[.int .u64 a4, .int .u32 rr, .int .u32 cc] 40)).cell? ⟨w25.heap.size, 0, none⟩ = some (.int .u64 a4) := cell_nw _ _ _ 0 _ rfl
      have y1 : (w25.alloc (.cells #[.int .u64 a4, .int .u32 rr, .int .u32 cc] 40)).cell? ⟨w25.heap.size, 1, none⟩ = some (.int .u32 rr) := cell_nw _ _ _ 1 _ rfl
      have y2 : (w25.alloc (.cells #[.int .u64 a4, .int .u32 rr, .int .u32 cc] 40)).cell? ⟨w25.heap.size, 2, none⟩ = some (.int .u32 cc) := cell_nw _ _ _ 2 _ rfl
      have oy : w25.heap.size ∉ F26 := fun m => by have := hlt _ m; omega
      have ly := lt_of_cell y0
      have hS_y := Lib.hid (show (w25.alloc (.cells #[.int .u64 a4, .int .u32 rr, .int .u32 cc] 40)).heap.size = w25.heap.size + 1 by simp)
      clear hb hlt
      go_wp2_with fail
      generalize (w25.alloc (.cells #[.int .u64 a4, .int .u32 rr, .int .u32 cc] 40)) = W27 at *
      generalize w25.heap.size = b_y at *
      go_wp2_with fail
      refine (AF2.out W27 _ H28.out.inn).mono ?_
      rintro e w29 ⟨rfl, hb⟩
      have t30 : Step F26 W27 F26 w29 := Step.of hb
      have H30 := Lib.hid (H28.out.later hb)
      replace x0 := t30.cell ox x0
      replace x1 := t30.cell ox x1
      replace x2 := t30.cell ox x2
      replace ox := t30.off ox lx
      replace lx := lt_of_cell x0
      replace y0 := t30.cell oy y0
      replace y1 := t30.cell oy y1
      replace y2 := t30.cell oy y2
      replace oy := t30.off oy ly
      replace ly := lt_of_cell y0
      replace HGR := Lib.hid (HGR.out.step t30.kept t30.new)
      replace BZ := Lib.hid (BZ.out.step t30.kept t30.new)
      replace HLC := Lib.hid (HLC.out.step t30.kept t30.new)
      clear t30
      clear hb
      go_wp2_with fail
      refine (AB2.out w29 _ H30.out.inn (by have := HGR.out.recs; rwa [← HN.out] at this)).mono ?_
      rintro e w31 ⟨bz2, rfl, hz1, hz2, hz3, hb⟩
      have BZ2 := Lib.hid (show BolC w31 F26 bz2 n (nonE s) from ⟨fun m => by have := H30.out.inn.lt bz2 m; omega, hz2, hz3⟩)
      clear hz1 hz2 hz3
      have t32 : Step F26 w29 F26 w31 := Step.of hb
      have H32 := Lib.hid (H30.out.later hb)
      replace x0 := t32.cell ox x0
      replace x1 := t32.cell ox x1
      replace x2 := t32.cell ox x2
      replace ox := t32.off ox lx
      replace lx := lt_of_cell x0
      replace y0 := t32.cell oy y0
      replace y1 := t32.cell oy y1
      replace y2 := t32.cell oy y2
      replace oy := t32.off oy ly
      replace ly := lt_of_cell y0
      replace HGR := Lib.hid (HGR.out.step t32.kept t32.new)
      replace BZ := Lib.hid (BZ.out.step t32.kept t32.new)
      replace HLC := Lib.hid (HLC.out.step t32.kept t32.new)
      clear t32
      clear hb
      have ye := eqE_same a4 rr cc
      go_wp2_with fail
      refine (AL2.out w31 _ H32.out.inn).mono ?_
      rintro e w33 ⟨rfl, hb⟩
      have t34 : Step F26 w31 F26 w33 := Step.of hb
      have H34 := Lib.hid (H32.out.later hb)
      replace x0 := t34.cell ox x0
      replace x1 := t34.cell ox x1
      replace x2 := t34.cell ox x2
      replace ox := t34.off ox lx
      replace lx := lt_of_cell x0
      replace y0 := t34.cell oy y0
      replace y1 := t34.cell oy y1
      replace y2 := t34.cell oy y2
      replace oy := t34.off oy ly
      replace ly := lt_of_cell y0
      replace HGR := Lib.hid (HGR.out.step t34.kept t34.new)
      replace BZ := Lib.hid (BZ.out.step t34.kept t34.new)
      replace HLC := Lib.hid (HLC.out.step t34.kept t34.new)
      replace BZ2 := Lib.hid (BZ2.out.step t34.kept t34.new)
      clear t34
      clear hb
      go_wp2_with fail
      refine (AC2.out w33 _ H34.out.inn).mono ?_
      rintro e w_ ⟨rfl, rfl⟩
      go_wp2_with fail
      go_loopw [141] (fun i wr => ∃ h : Nat, h ≤ n ∧ i = .int .i64 h ∧ Below w33.heap.size w33 wr) (fun i _ => n - (intOf i).toNat)
      case atStart => exact ⟨0, Nat.zero_le _, rfl, Below.refl _ _⟩
      case round =>
        obtain ⟨h, hh, rfl, hb⟩ := hrel
        have HB := Lib.hid hb
        by_cases hlt : h < n
        · have hhi : (h : Int) < (n : Int) := by omega
          have z0 : decide ((h : Int) < (n : Int)) = true := decide_eq_true hhi
          have hh0 : (0 : Int) ≤ (h : Int) := by omega
          have q1 := (BZ2.out.later hb).cell h hlt
          have q2 := (BZ.out.later hb).cell h hlt
          have q3 := (HLC.out.later hb).cell h hlt
          obtain ⟨va, vc, hv, hrow⟩ := held_row ((HLC.out.later hb).rows h hlt)
          have A9 := AT2.out wr.drew _ ((H34.out.inn.below hb).below (Below.refl _ _).drew) (h : Int)
          have HTL := tasksT_len HW1.out.inn (h : Int)
          generalize tasksT s (h : Int) = L at *
          generalize nonE s h = nb at *
          rw [hv] at q3
          have HRW := Lib.hid hrow
          replace A9 := Lib.hid A9
          have HLL := Lib.hid (show L.length ≤ 1000000 by omega)
          clear hb hv hrow HTL
          go_wp2_with fail
          have hS0 : Below wr.heap.size wr wr.drew ∧ wr.drew.cell? ⟨bz2, h, none⟩ = some (.bool nb) ∧ wr.drew.cell? ⟨bz, h, none⟩ = some (.bool nb) ∧ wr.drew.cell? ⟨bl, h, none⟩ = some (.slice va L.length vc) := ⟨Below.drew (Below.refl _ _), cell_dr q1, cell_dr q2, cell_dr q3⟩
          refine wp_region_held_drew (S := fun w' => Below wr.heap.size wr w' ∧ w'.cell? ⟨bz2, h, none⟩ = some (.bool nb) ∧ w'.cell? ⟨bz, h, none⟩ = some (.bool nb) ∧ w'.cell? ⟨bl, h, none⟩ = some (.slice va L.length vc)) (by kernel_rfl) hS0 (fun hHeld => ?_)
          refine takeH (i := 0) (v := ?v0_18) rfl (by kernel_rfl) (fun _ _ _ h => h) (by rfl) ?hy0_18 (by assumption) ?rest0_18
          case hy0_18 => (intro w hSw; (try dsimp only at hSw); go_simp; try with_reducible rfl)
          try simp only [Act.put, List.setIfInBounds_toArray, List.set_cons_zero, List.set_cons_succ]
          refine takeH (i := 1) (v := ?v1_19) rfl (by kernel_rfl) (fun _ _ _ h => h) (by rfl) ?hy1_19 (by assumption) ?rest1_19
          case hy1_19 => (intro w hSw; (try dsimp only at hSw); go_simp; try with_reducible rfl)
          try simp only [Act.put, List.setIfInBounds_toArray, List.set_cons_zero, List.set_cons_succ]
          refine takeH (i := 2) (v := ?v2_20) rfl (by kernel_rfl) (fun _ _ _ h => h) (by rfl) ?hy2_20 (by assumption) ?rest2_20
          case hy2_20 => (intro w hSw; (try dsimp only at hSw); go_simp; try with_reducible rfl)
          try simp only [Act.put, List.setIfInBounds_toArray, List.set_cons_zero, List.set_cons_succ]
          refine takeH (i := 3) (v := ?v3_21) rfl (by kernel_rfl) (fun _ _ _ h => h) (by rfl) ?hy3_21 (by assumption) ?rest3_21
          case hy3_21 => (intro w hSw; (try dsimp only at hSw); go_simp; try with_reducible rfl)
          try simp only [Act.put, List.setIfInBounds_toArray, List.set_cons_zero, List.set_cons_succ]
          refine takeH (i := 4) (v := ?v4_22) rfl (by kernel_rfl) (fun _ _ _ h => h) (by rfl) ?hy4_22 (by assumption) ?rest4_22
          case hy4_22 => (intro w hSw; (try dsimp only at hSw); go_simp; try with_reducible rfl)
          try simp only [Act.put, List.setIfInBounds_toArray, List.set_cons_zero, List.set_cons_succ]
          refine takeH (i := 5) (v := ?v5_23) rfl (by kernel_rfl) (fun _ _ _ h => h) (by rfl) ?hy5_23 (by assumption) ?rest5_23
          case hy5_23 => (intro w hSw; (try dsimp only at hSw); go_simp; try with_reducible rfl)
          try simp only [Act.put, List.setIfInBounds_toArray, List.set_cons_zero, List.set_cons_succ]
          refine takeH (i := 6) (v := ?v6_24) rfl (by kernel_rfl) (fun _ _ _ h => h) (by rfl) ?hy6_24 (by assumption) ?rest6_24
          case hy6_24 => (intro w hSw; (try dsimp only at hSw); go_simp; try with_reducible rfl)
          try simp only [Act.put, List.setIfInBounds_toArray, List.set_cons_zero, List.set_cons_succ]
          refine takeH (i := 7) (v := ?v7_25) rfl (by kernel_rfl) (fun _ _ _ h => h) (by rfl) ?hy7_25 (by assumption) ?rest7_25
          case hy7_25 => (intro w hSw; (try dsimp only at hSw); go_simp; try with_reducible rfl)
          try simp only [Act.put, List.setIfInBounds_toArray, List.set_cons_zero, List.set_cons_succ]
          refine takeH (i := 8) (v := ?v8_26) rfl (by kernel_rfl) (fun _ _ _ h => h) (by rfl) ?hy8_26 (by assumption) ?rest8_26
          case hy8_26 => (intro w hSw; (try dsimp only at hSw); go_simp; try with_reducible rfl)
          try simp only [Act.put, List.setIfInBounds_toArray, List.set_cons_zero, List.set_cons_succ]
          refine takeH (i := 9) (v := ?v9_27) rfl (by kernel_rfl) (fun _ _ _ h => h) (by rfl) ?hy9_27 (by assumption) ?rest9_27
          case hy9_27 => (intro w hSw; (try dsimp only at hSw); go_simp; try with_reducible rfl)
          try simp only [Act.put, List.setIfInBounds_toArray, List.set_cons_zero, List.set_cons_succ]
          refine takeH (i := 10) (v := ?v10_28) rfl (by kernel_rfl) (fun _ _ _ h => h) (by rfl) ?hy10_28 (by assumption) ?rest10_28
          case hy10_28 => (intro w hSw; (try dsimp only at hSw); go_simp; try with_reducible rfl)
          try simp only [Act.put, List.setIfInBounds_toArray, List.set_cons_zero, List.set_cons_succ]
          refine takeH (i := 11) (v := ?v11_29) rfl (by kernel_rfl) (fun _ _ _ h => h) (by rfl) ?hy11_29 (by assumption) ?rest11_29
          case hy11_29 => (intro w hSw; (try dsimp only at hSw); go_simp; try with_reducible rfl)
          try simp only [Act.put, List.setIfInBounds_toArray, List.set_cons_zero, List.set_cons_succ]
          refine takeH (i := 13) (v := ?v13_30) rfl (by kernel_rfl) (fun _ _ _ h => h) (by rfl) ?hy13_30 (by assumption) ?rest13_30
          case hy13_30 => (intro w hSw; (try dsimp only at hSw); go_simp; try with_reducible rfl)
          try simp only [Act.put, List.setIfInBounds_toArray, List.set_cons_zero, List.set_cons_succ]
          refine takeH (i := 14) (v := ?v14_31) rfl (by kernel_rfl) (fun _ _ _ h => h) (by rfl) ?hy14_31 (by assumption) ?rest14_31
          case hy14_31 => (intro w hSw; (try dsimp only at hSw); go_simp; try with_reducible rfl)
          try simp only [Act.put, List.setIfInBounds_toArray, List.set_cons_zero, List.set_cons_succ]
          refine takeH (i := 15) (v := ?v15_32) rfl (by kernel_rfl) (fun _ _ _ h => h) (by rfl) ?hy15_32 (by assumption) ?rest15_32
          case hy15_32 => (intro w hSw; (try dsimp only at hSw); go_simp; try with_reducible rfl)
          try simp only [Act.put, List.setIfInBounds_toArray, List.set_cons_zero, List.set_cons_succ]
          refine takeH (i := 16) (v := ?v16_33) rfl (by kernel_rfl) (fun _ _ _ h => h) (by rfl) ?hy16_33 (by assumption) ?rest16_33
          case hy16_33 => (intro w hSw; (try dsimp only at hSw); go_simp; try with_reducible rfl)
          try simp only [Act.put, List.setIfInBounds_toArray, List.set_cons_zero, List.set_cons_succ]
          refine wpAnyH_ready (rs := [12]) (by kernel_rfl) (by simp) ?_
          refine consH rfl (fun K hK => ?_) (AllReadyH.nil)
          go_simp
          refine A9.out.mono ?_
          rintro e w9 ⟨v9, rfl, ho9, hb9⟩
          obtain ⟨a9, c9, rfl, hr9⟩ := own_rowJ ho9 rfl
          go_wp2_with fail
          refine hK.out _ _ ?_ (fun hHeld12 => ?_)
          · (first | assumption | (refine held_3 (by assumption) ?_; assumption) | (refine held_3 (below_ad _ _) ?_; assumption) | (refine held_3 (below_a _ _) ?_; assumption))
          clear hK K
          try simp only [Act.put, List.setIfInBounds_toArray, List.set_cons_zero, List.set_cons_succ]
          refine wpAnyH_ready (rs := [17]) (by kernel_rfl) (by simp) ?_
          refine consH rfl (fun K hK => ?_) (AllReadyH.nil)
          go_simp
          refine (SameInts_any a9 va L.length L.length c9 vc L L w9 hr9 (HRW.out.later (Below.step (Below.refl _ _).drew hb9)) HLL.out HLL.out).mono ?_
          rintro e w10 ⟨rfl, hg10⟩
          have hb10 : Below w9.heap.size w9 w10 := hg10.below
          rw [decide_eq_true rfl]
          go_wp2_with fail
          refine hK.out _ _ ?_ (fun hHeld17 => ?_)
          · (first | assumption | (refine held_3 (by assumption) ?_; assumption) | (refine held_3 (below_ad _ _) ?_; assumption) | (refine held_3 (below_a _ _) ?_; assumption))
          clear hK K
          try simp only [Act.put, List.setIfInBounds_toArray, List.set_cons_zero, List.set_cons_succ]
          refine takeH (i := 18) (v := ?v18_34) rfl (by kernel_rfl) (fun _ _ _ h => h) (by rfl) ?hy18_34 (by assumption) ?rest18_34
          case hy18_34 => (intro w hSw; (try dsimp only at hSw); go_simp; try with_reducible rfl)
          try simp only [Act.put, List.setIfInBounds_toArray, List.set_cons_zero, List.set_cons_succ]
          refine takeH (i := 19) (v := ?v19_35) rfl (by kernel_rfl) (fun _ _ _ h => h) (by rfl) ?hy19_35 (by assumption) ?rest19_35
          case hy19_35 => (intro w hSw; (try dsimp only at hSw); go_simp; try with_reducible rfl)
          try simp only [Act.put, List.setIfInBounds_toArray, List.set_cons_zero, List.set_cons_succ]
          refine wpAnyH_done (by kernel_rfl) ?_ _
          skip
          have HBX := Lib.hid (Below.step (Below.step HB.out.drew hb9) hb10)
          clear hS0 hb9 hb10
          go_wp2_with fail
          go_roundw
          case rel => exact ⟨h + 1, by omega, by go_num, HBX.out⟩
          case measure => simp [intOf]; omega
        · obtain rfl : h = n := by omega
          have z0 : decide ((h : Int) < (h : Int)) = false := decide_eq_false (by omega)
          have t35 : Step F26 w33 F26 wr := Step.of hb
          have H35 := Lib.hid (H34.out.later hb)
          replace x0 := t35.cell ox x0
          replace x1 := t35.cell ox x1
          replace x2 := t35.cell ox x2
          replace ox := t35.off ox lx
          replace lx := lt_of_cell x0
          replace y0 := t35.cell oy y0
          replace y1 := t35.cell oy y1
          replace y2 := t35.cell oy y2
          replace oy := t35.off oy ly
          replace ly := lt_of_cell y0
          replace HGR := Lib.hid (HGR.out.step t35.kept t35.new)
          replace BZ := Lib.hid (BZ.out.step t35.kept t35.new)
          replace HLC := Lib.hid (HLC.out.step t35.kept t35.new)
          replace BZ2 := Lib.hid (BZ2.out.step t35.kept t35.new)
          clear t35
          clear hb hh hlt
          go_wp2_with fail
          refine (AW.out wr).mono ?_
          rintro e w9 ⟨rfl, hb9⟩
          have HB9 := Lib.hid (Below.step H35.out.bel hb9)
          clear hb9
          go_wp2_with fail
          go_ret
          exact ⟨rfl, HB9.out⟩
end Go.Proofs.YtfgmglghlapbcaaGreat
