/-
  PickWrong: what there is not is rejected, and changes nothing.
-/
import Derived.Test.YtfgmglghlapbcaaGreatPickTw
import Derived.Test.YtfgmglghlapbcaaGreatPkCa
namespace Go.Proofs.YtfgmglghlapbcaaGreat
open Go.RowKit Go.Maps Go.IntWalk Go.Lib Go.Sort Go.Shelf
set_option linter.unusedVariables false
set_option linter.unusedSimpArgs false
def wrongK (a : Int) (j : Nat) : Int := if j = 0 then min a 0 else max a 65536
def wrongG (a : Int) (n j : Nat) : Int := if j = 0 then min a (-1) else max a (n : Int)
theorem wrongK_bad (a : Int) (j : Nat) : nameV (wrongK a j) = false := by
  unfold nameV wrongK
  split <;> exact decide_eq_false (by omega)
theorem wrongG_bad (a : Int) (n j : Nat) : hasV (n : Int) (wrongG a n j) = false := by
  unfold hasV wrongG
  split <;> exact decide_eq_false (by omega)
theorem tree_bad {s : TSt} {id : Int} (h : nameV id = false) (g : Int) : spawnC s id g 1 = 2 ∧ wakeC s id g (1, 0, 2) = 2 ∧ comC s id g (1, 0, 2) = 2 ∧ findC s id = 2 ∧ pchgC s id 1 = 2 ∧ pweiC s id 1 = 2 := by
  have e := find_bad (s := s) h
  refine ⟨en_bad (Or.inl h), en_bad (Or.inl h), en_bad (Or.inl h), e, ?_, ?_⟩
  · unfold pchgC; rw [if_pos (by unfold tkOk; decide)]; exact e
  · rw [(weigh_no (s := s) (k := 1) fun _ => by rw [e]; decide).2.1 (by unfold wgOk; decide)]; exact e
theorem group_bad {s : TSt} {g : Int} (h : hasV (s.n : Int) g = false) : spawnC s 99 g 1 = 2 ∧ wakeC s 99 g (1, 0, 2) = 2 ∧ comC s 99 g (1, 0, 2) = 2 ∧ pSpotV s g = (0, 0, 0) ∧ pSpotC s g = 2 ∧ pregC s g 1 = 2 ∧ pregS s g 1 = s ∧ tasksT s g = [] := by
  have q := regroup_no (s := s) (g := g) (k := 1) (by rw [h]; simp)
  refine ⟨en_bad (Or.inr (Or.inl h)), en_bad (Or.inr (Or.inl h)), en_bad (Or.inr (Or.inl h)), ?_, ?_, q.1, q.2, ?_⟩
  · unfold pSpotV; rw [h]; rfl
  · unfold pSpotC; rw [h]; rfl
  · unfold tasksT; rw [h]; rfl
set_option maxRecDepth 100000 in
set_option maxHeartbeats 8000000 in
theorem PickWrong_true (s0 : Option Addr) (l0 c0 : Nat) (F0 : Nat → Nat → Value) (s1 : Option Addr) (l1 c1 : Nat) (F1 : Nat → Nat → Value) (s2 : Option Addr) (l2 c2 : Nat) (F2 : Nat → Nat → Value) (a3 a4 : Int) (w : World)
    (r0 : PlainRow [some .u8] w s0 l0 c0 F0) (r1 : PlainRow [some .u16] w s1 l1 c1 F1) (r2 : PlainRow [some .u8, some .u8, some .u8, some .u32, some .u16, some .u16, some .u32] w s2 l2 c2 F2) (g3 : (Lit.int .i64 a3).wf = true) (g4 : (Lit.int .i64 a4).wf = true) :
    Calls Tryz.prog 8 #[.slice s0 l0 c0, .slice s1 l1 c1, .slice s2 l2 c2, .int .i64 a3, .int .i64 a4] w fun e w' => e = .returned (.bool true) ∧ Below w.heap.size w w' := by
  obtain ⟨xs0, n0⟩ := nums_of r0
  obtain ⟨xs1, n1⟩ := nums_of r1
  have A1 := Lib.hid (Groups_at s0 s1 l0 l1 c0 c1 xs0 xs1 w (row_num n0) (row_num n1) (fun x hx => sm8 (fit_num n0 x hx)) (fun x hx => sm16 (fit_num n1 x hx)))
  have A2 := Lib.hid fun W bgs cgs Gs (h : RecsAt encG W (.slice (some ⟨bgs, 0, none⟩) Gs.length cgs) Gs) (hr : RightG Gs) (r : PlainRow smK W s2 l2 c2 F2) => made_at bgs cgs Gs 5 s2 l2 c2 F2 W h hr (by decide) r
  have R2 := Lib.hid (show PlainRow smK w s2 l2 c2 F2 from r2)
  have AW := Lib.hid awake_at
  clear r0 r1 r2 n0 n1
  have b3 := wf_i64 g3
  have b4 := wf_i64 g4
  have HB3 := Lib.hid b3
  have HB4 := Lib.hid b4
  have HX := Lib.hid (show ¬ tkOk (max a4 4294967296) ∧ ¬ wgOk (min a4 0) ∧ ¬ wgOk (max a4 65537) by unfold tkOk wgOk; omega)
  have HWK := Lib.hid (show ∀ j, (Lit.int .i64 (wrongK a3 j)).wf = true by
    intro j
    unfold wrongK
    split <;> exact wfI (by omega) (by omega))
  have HWG := Lib.hid (show ∀ n j : Nat, n ≤ 7 → (Lit.int .i64 (wrongG a4 n j)).wf = true by
    intro n j hn
    unfold wrongG
    split <;> exact wfI (by omega) (by omega))
  clear g3 g4
  go_enter Tryz.func8, Tryz.ntmps8
  go_wp2_with fail
  refine A1.out.mono ?_; clear A1; rintro e w1 ⟨Gs, vg, rfl, hr, hl7, hog, hb1⟩
  have HRI := Lib.hid hr
  have hpos := hr.pos
  obtain ⟨bgs, cgs, rfl⟩ := own_pos hog hpos
  have HRG := Lib.hid (own_recs encG_ok hog)
  have HOG := Lib.hid hog
  have R2b := Lib.hid (plain_later R2.out hb1)
  have HB1 := Lib.hid hb1
  clear hog hr R2 hb1
  go_wp2_with fail
  refine (A2.out w1 bgs cgs Gs HRG.out HRI.out R2b.out).mono ?_; clear A2; rintro e w2 ⟨t, F, s, rfl, hT, hM, hF, hb2⟩
  have HM := Lib.hid hM
  have HW1 := Lib.hid (show TW w t s w2 F from ⟨hT, fun b hb => Nat.le_trans HB1.out.size (hF b hb), Below.step HB1.out hb2⟩)
  have HGR := Lib.hid ((own_heldR encG_ok (F := []) HOG.out rfl rfl (fun b hb => by cases hb)).step (Kept.of hb2) (F' := F) (fun b hb => Or.inr (hF b hb)))
  obtain ⟨n, hn⟩ : ∃ n, n = Gs.length := ⟨_, rfl⟩
  rw [← hn] at hl7 hpos ⊢
  have HN := Lib.hid hn
  have HNS := Lib.hid (show s.n = n from HM.out.n.trans hn.symm)
  clear hT hM hF hb2 R2b HRG HOG hn HB1
  have AL := fun W F (h : TreeIn W t F s) => pLoad_at W h
  have AC := fun W F (h : TreeIn W t F s) => pLen_at W h
  generalize loadTo s s.n = ld at AL
  generalize s.c = cn at AC
  replace AL := Lib.hid AL
  replace AC := Lib.hid AC
  go_wp2_with fail
  refine (AL.out w2 _ HW1.out.inn).mono ?_
  rintro e w11 ⟨rfl, hb⟩
  have t12 : Step F w2 F w11 := Step.of hb
  have H12 := Lib.hid (HW1.out.later hb)
  clear t12
  clear hb
  go_wp2_with fail
  refine (AC.out w11 _ H12.out.inn).mono ?_
  rintro e w_ ⟨rfl, rfl⟩
  have hlt := H12.out.inn.lt
  have hb : Below w11.heap.size w11 (w11.alloc (.cells #[.int .u64 1, .int .u32 0, .int .u32 2] 40)) := below_a _ _
  have t14 : Step F w11 F (w11.alloc (.cells #[.int .u64 1, .int .u32 0, .int .u32 2] 40)) := Step.of hb
  have H14 := Lib.hid (H12.out.later hb)
  clear t14
  have g0 : (w11.alloc (.cells #[.int .u64 1, .int .u32 0, .int .u32 2] 40)).cell? ⟨w11.heap.size, 0, none⟩ = some (.int .u64 1) := cell_nw _ _ _ 0 _ rfl
  have g1 : (w11.alloc (.cells #[.int .u64 1, .int .u32 0, .int .u32 2] 40)).cell? ⟨w11.heap.size, 1, none⟩ = some (.int .u32 0) := cell_nw _ _ _ 1 _ rfl
  have g2 : (w11.alloc (.cells #[.int .u64 1, .int .u32 0, .int .u32 2] 40)).cell? ⟨w11.heap.size, 2, none⟩ = some (.int .u32 2) := cell_nw _ _ _ 2 _ rfl
  have og : w11.heap.size ∉ F := fun m => by have := hlt _ m; omega
  have lg := lt_of_cell g0
  have hS_g := Lib.hid (show (w11.alloc (.cells #[.int .u64 1, .int .u32 0, .int .u32 2] 40)).heap.size = w11.heap.size + 1 by simp)
  clear hb hlt
  go_wp2_with fail
  generalize (w11.alloc (.cells #[.int .u64 1, .int .u32 0, .int .u32 2] 40)) = W13 at *
  generalize w11.heap.size = b_g at *
  have hlt := H14.out.inn.lt
  have hb := below_a W13 (.cells #[.int .i64 (min a3 0), .int .i64 (max a3 65536)] 3)
  have t15 : Step F W13 F (W13.alloc (.cells #[.int .i64 (min a3 0), .int .i64 (max a3 65536)] 3)) := Step.of hb
  have H15 := Lib.hid (H14.out.later hb)
  replace g0 := t15.cell og g0
  replace g1 := t15.cell og g1
  replace g2 := t15.cell og g2
  replace og := t15.off og lg
  replace lg := lt_of_cell g0
  clear t15
  have hc0 := cell_nw W13 #[.int .i64 (min a3 0), .int .i64 (max a3 65536)] 3 0 _ rfl
  have hc1 := cell_nw W13 #[.int .i64 (min a3 0), .int .i64 (max a3 65536)] 3 1 _ rfl
  have ho : b_g + 1 ∉ F := fun h => by have := hlt _ h; have := hS_g.out; omega
  rw [hS_g.out] at hc0 hc1
  clear hb hlt
  generalize (W13.alloc (.cells #[.int .i64 (min a3 0), .int .i64 (max a3 65536)] 3)) = Wl at *
  go_loopw [61] (fun i wr => ∃ (k : Nat) (F : List Nat), k ≤ 2 ∧ i = .int .i64 k ∧ TW w t s wr F ∧ b_g ∉ F ∧ (wr.cell? ⟨b_g, 0, none⟩ = some (.int .u64 1) ∧ wr.cell? ⟨b_g, 1, none⟩ = some (.int .u32 0) ∧ wr.cell? ⟨b_g, 2, none⟩ = some (.int .u32 2)) ∧ b_g + 1 ∉ F ∧ ∀ j, j < 2 → wr.cell? ⟨b_g + 1, j, none⟩ = some (.int .i64 (wrongK a3 j))) (fun i _ => 2 - (intOf i).toNat)
  case atStart =>
    refine ⟨0, _, Nat.zero_le _, rfl, H15.out, og, ⟨g0, g1, g2⟩, ho, fun j hj => ?_⟩
    have : j = 0 ∨ j = 1 := by omega
    rcases this with rfl | rfl
    · exact hc0
    · exact hc1
  case round =>
    clear hc0 hc1 ho
    clear og lg g0 g1 g2
    obtain ⟨k, F, hk, rfl, hI, og, ⟨g0, g1, g2⟩, ho, hc⟩ := hrel
    have HI := Lib.hid hI
    have lg := lt_of_cell g0
    clear hI
    by_cases hlt : k < 2
    · have i0 := hc k hlt
      have i1 := lt_of_cell i0
      have hk0 : (0 : Int) ≤ (k : Int) := by omega
      have hk2 : (k : Int) < 2 := by omega
      have CR := Lib.hid hc
      have HO := Lib.hid ho
      clear hc ho
      have TT := Lib.hid (Step.of (F := F) (Below.refl wr.heap.size wr))
      have HWk := Lib.hid (HWK.out k)
      have HBD := wrongK_bad a3 k
      generalize wrongK a3 k = id at *
      obtain ⟨q1, q2, q3, q4, q5, q6⟩ := tree_bad (s := s) HBD 0
      have Q1 := Lib.hid q1
      have Q2 := Lib.hid q2
      have Q3 := Lib.hid q3
      have Q4 := Lib.hid q4
      have Q5 := Lib.hid q5
      have Q6 := Lib.hid q6
      have Q7 := Lib.hid (show pweiS s id 1 = s from (weigh_no (s := s) (k := 1) fun _ => by rw [q4]; decide).1)
      clear q1 q2 q3 q4 q5 q6 HBD
      go_wp2_with fail
      refine (pSpawn_at id 0 1 wr HI.out.inn HWk.out rfl rfl).mono ?_
      rintro e w41 ⟨rfl, hA⟩
      obtain ⟨p1, p2⟩ := spawn_no Q1.out (by decide)
      rw [Q1.out, p1]
      rw [p2] at hA
      clear p1 p2
      obtain ⟨F42, h42, t42⟩ := HI.out.step hA
      have H42 := Lib.hid (show TW w t s w41 F42 from h42)
      replace g0 := t42.cell og g0
      replace g1 := t42.cell og g1
      replace g2 := t42.cell og g2
      replace og := t42.off og lg
      replace lg := lt_of_cell g0
      replace TT := Lib.hid (TT.out.trans t42)
      clear t42 h42 hA
      have hlt := H42.out.inn.lt
      have hb : Below w41.heap.size w41 (w41.alloc (.cells #[.int .u64 0, .int .u32 0, .int .u32 0] 40)) := below_a _ _
      have t44 : Step F42 w41 F42 (w41.alloc (.cells #[.int .u64 0, .int .u32 0, .int .u32 0] 40)) := Step.of hb
      have H44 := Lib.hid (H42.out.later hb)
      replace g0 := t44.cell og g0
      replace g1 := t44.cell og g1
      replace g2 := t44.cell og g2
      replace og := t44.off og lg
      replace lg := lt_of_cell g0
      replace TT := Lib.hid (TT.out.trans t44)
      clear t44
      have u0 : (w41.alloc (.cells #[.int .u64 0, .int .u32 0, .int .u32 0] 40)).cell? ⟨w41.heap.size, 0, none⟩ = some (.int .u64 0) := cell_nw _ _ _ 0 _ rfl
      have u1 : (w41.alloc (.cells #[.int .u64 0, .int .u32 0, .int .u32 0] 40)).cell? ⟨w41.heap.size, 1, none⟩ = some (.int .u32 0) := cell_nw _ _ _ 1 _ rfl
      have u2 : (w41.alloc (.cells #[.int .u64 0, .int .u32 0, .int .u32 0] 40)).cell? ⟨w41.heap.size, 2, none⟩ = some (.int .u32 0) := cell_nw _ _ _ 2 _ rfl
      have ou : w41.heap.size ∉ F42 := fun m => by have := hlt _ m; omega
      have lu := lt_of_cell u0
      have hS_u := Lib.hid (show (w41.alloc (.cells #[.int .u64 0, .int .u32 0, .int .u32 0] 40)).heap.size = w41.heap.size + 1 by simp)
      clear hb hlt
      go_wp2_with fail
      generalize (w41.alloc (.cells #[.int .u64 0, .int .u32 0, .int .u32 0] 40)) = W43 at *
      generalize w41.heap.size = b_u at *
      go_wp2_with fail
      refine (pWake_at id 0 1 0 2 W43 H44.out.inn HWk.out rfl (by unfold Ch.Fits; decide)).mono ?_
      rintro e w45 ⟨rfl, hA⟩
      obtain ⟨p1, p2⟩ := wake_no Q2.out (by decide)
      rw [Q2.out, p1]
      rw [p2] at hA
      clear p1 p2
      obtain ⟨F46, h46, t46⟩ := H44.out.step hA
      have H46 := Lib.hid (show TW w t s w45 F46 from h46)
      replace g0 := t46.cell og g0
      replace g1 := t46.cell og g1
      replace g2 := t46.cell og g2
      replace og := t46.off og lg
      replace lg := lt_of_cell g0
      replace u0 := t46.cell ou u0
      replace u1 := t46.cell ou u1
      replace u2 := t46.cell ou u2
      replace ou := t46.off ou lu
      replace lu := lt_of_cell u0
      replace TT := Lib.hid (TT.out.trans t46)
      clear t46 h46 hA
      have hlt := H46.out.inn.lt
      have hb : Below w45.heap.size w45 (w45.alloc (.cells #[.int .u64 0, .int .u32 0, .int .u32 0] 40)) := below_a _ _
      have t48 : Step F46 w45 F46 (w45.alloc (.cells #[.int .u64 0, .int .u32 0, .int .u32 0] 40)) := Step.of hb
      have H48 := Lib.hid (H46.out.later hb)
      replace g0 := t48.cell og g0
      replace g1 := t48.cell og g1
      replace g2 := t48.cell og g2
      replace og := t48.off og lg
      replace lg := lt_of_cell g0
      replace u0 := t48.cell ou u0
      replace u1 := t48.cell ou u1
      replace u2 := t48.cell ou u2
      replace ou := t48.off ou lu
      replace lu := lt_of_cell u0
      replace TT := Lib.hid (TT.out.trans t48)
      clear t48
      have v0 : (w45.alloc (.cells #[.int .u64 0, .int .u32 0, .int .u32 0] 40)).cell? ⟨w45.heap.size, 0, none⟩ = some (.int .u64 0) := cell_nw _ _ _ 0 _ rfl
      have v1 : (w45.alloc (.cells #[.int .u64 0, .int .u32 0, .int .u32 0] 40)).cell? ⟨w45.heap.size, 1, none⟩ = some (.int .u32 0) := cell_nw _ _ _ 1 _ rfl
      have v2 : (w45.alloc (.cells #[.int .u64 0, .int .u32 0, .int .u32 0] 40)).cell? ⟨w45.heap.size, 2, none⟩ = some (.int .u32 0) := cell_nw _ _ _ 2 _ rfl
      have ov : w45.heap.size ∉ F46 := fun m => by have := hlt _ m; omega
      have lv := lt_of_cell v0
      have hS_v := Lib.hid (show (w45.alloc (.cells #[.int .u64 0, .int .u32 0, .int .u32 0] 40)).heap.size = w45.heap.size + 1 by simp)
      clear hb hlt
      go_wp2_with fail
      generalize (w45.alloc (.cells #[.int .u64 0, .int .u32 0, .int .u32 0] 40)) = W47 at *
      generalize w45.heap.size = b_v at *
      go_wp2_with fail
      refine (pLeave_at id W47 H48.out.inn HWk.out).mono ?_
      rintro e w49 ⟨rfl, hA⟩
      obtain ⟨p1, p2⟩ := leave_no' Q4.out (by decide)
      rw [Q4.out, p1]
      rw [p2] at hA
      clear p1 p2
      obtain ⟨F50, h50, t50⟩ := H48.out.step hA
      have H50 := Lib.hid (show TW w t s w49 F50 from h50)
      replace g0 := t50.cell og g0
      replace g1 := t50.cell og g1
      replace g2 := t50.cell og g2
      replace og := t50.off og lg
      replace lg := lt_of_cell g0
      replace u0 := t50.cell ou u0
      replace u1 := t50.cell ou u1
      replace u2 := t50.cell ou u2
      replace ou := t50.off ou lu
      replace lu := lt_of_cell u0
      replace v0 := t50.cell ov v0
      replace v1 := t50.cell ov v1
      replace v2 := t50.cell ov v2
      replace ov := t50.off ov lv
      replace lv := lt_of_cell v0
      replace TT := Lib.hid (TT.out.trans t50)
      clear t50 h50 hA
      have hlt := H50.out.inn.lt
      have hb : Below w49.heap.size w49 (w49.alloc (.cells #[.int .u64 0, .int .u32 0, .int .u32 0] 40)) := below_a _ _
      have t52 : Step F50 w49 F50 (w49.alloc (.cells #[.int .u64 0, .int .u32 0, .int .u32 0] 40)) := Step.of hb
      have H52 := Lib.hid (H50.out.later hb)
      replace g0 := t52.cell og g0
      replace g1 := t52.cell og g1
      replace g2 := t52.cell og g2
      replace og := t52.off og lg
      replace lg := lt_of_cell g0
      replace u0 := t52.cell ou u0
      replace u1 := t52.cell ou u1
      replace u2 := t52.cell ou u2
      replace ou := t52.off ou lu
      replace lu := lt_of_cell u0
      replace v0 := t52.cell ov v0
      replace v1 := t52.cell ov v1
      replace v2 := t52.cell ov v2
      replace ov := t52.off ov lv
      replace lv := lt_of_cell v0
      replace TT := Lib.hid (TT.out.trans t52)
      clear t52
      have x0 : (w49.alloc (.cells #[.int .u64 0, .int .u32 0, .int .u32 0] 40)).cell? ⟨w49.heap.size, 0, none⟩ = some (.int .u64 0) := cell_nw _ _ _ 0 _ rfl
      have x1 : (w49.alloc (.cells #[.int .u64 0, .int .u32 0, .int .u32 0] 40)).cell? ⟨w49.heap.size, 1, none⟩ = some (.int .u32 0) := cell_nw _ _ _ 1 _ rfl
      have x2 : (w49.alloc (.cells #[.int .u64 0, .int .u32 0, .int .u32 0] 40)).cell? ⟨w49.heap.size, 2, none⟩ = some (.int .u32 0) := cell_nw _ _ _ 2 _ rfl
      have ox : w49.heap.size ∉ F50 := fun m => by have := hlt _ m; omega
      have lx := lt_of_cell x0
      have hS_x := Lib.hid (show (w49.alloc (.cells #[.int .u64 0, .int .u32 0, .int .u32 0] 40)).heap.size = w49.heap.size + 1 by simp)
      clear hb hlt
      go_wp2_with fail
      generalize (w49.alloc (.cells #[.int .u64 0, .int .u32 0, .int .u32 0] 40)) = W51 at *
      generalize w49.heap.size = b_x at *
      go_wp2_with fail
      refine (pCome_at id 0 1 0 2 W51 H52.out.inn HWk.out rfl (by unfold Ch.Fits; decide)).mono ?_
      rintro e w53 ⟨rfl, hA⟩
      rw [Q3.out]
      rw [come_no Q3.out (by decide)] at hA
      obtain ⟨F54, h54, t54⟩ := H52.out.step hA
      have H54 := Lib.hid (show TW w t s w53 F54 from h54)
      replace g0 := t54.cell og g0
      replace g1 := t54.cell og g1
      replace g2 := t54.cell og g2
      replace og := t54.off og lg
      replace lg := lt_of_cell g0
      replace u0 := t54.cell ou u0
      replace u1 := t54.cell ou u1
      replace u2 := t54.cell ou u2
      replace ou := t54.off ou lu
      replace lu := lt_of_cell u0
      replace v0 := t54.cell ov v0
      replace v1 := t54.cell ov v1
      replace v2 := t54.cell ov v2
      replace ov := t54.off ov lv
      replace lv := lt_of_cell v0
      replace x0 := t54.cell ox x0
      replace x1 := t54.cell ox x1
      replace x2 := t54.cell ox x2
      replace ox := t54.off ox lx
      replace lx := lt_of_cell x0
      replace TT := Lib.hid (TT.out.trans t54)
      clear t54 h54 hA
      go_wp2_with fail
      refine (pCharge_at id 1 w53 H54.out.inn HWk.out rfl).mono ?_
      rintro e w55 ⟨rfl, hA⟩
      rw [Q5.out]
      rw [charge_no Q5.out (by decide)] at hA
      obtain ⟨F56, h56, t56⟩ := H54.out.step hA
      have H56 := Lib.hid (show TW w t s w55 F56 from h56)
      replace g0 := t56.cell og g0
      replace g1 := t56.cell og g1
      replace g2 := t56.cell og g2
      replace og := t56.off og lg
      replace lg := lt_of_cell g0
      replace u0 := t56.cell ou u0
      replace u1 := t56.cell ou u1
      replace u2 := t56.cell ou u2
      replace ou := t56.off ou lu
      replace lu := lt_of_cell u0
      replace v0 := t56.cell ov v0
      replace v1 := t56.cell ov v1
      replace v2 := t56.cell ov v2
      replace ov := t56.off ov lv
      replace lv := lt_of_cell v0
      replace x0 := t56.cell ox x0
      replace x1 := t56.cell ox x1
      replace x2 := t56.cell ox x2
      replace ox := t56.off ox lx
      replace lx := lt_of_cell x0
      replace TT := Lib.hid (TT.out.trans t56)
      clear t56 h56 hA
      go_wp2_with fail
      refine (pWeigh_at id 1 w55 H56.out.inn HWk.out rfl).mono ?_
      rintro e w57 ⟨rfl, hA⟩
      rw [Q6.out]
      rw [Q7.out] at hA
      obtain ⟨F58, h58, t58⟩ := H56.out.step hA
      have H58 := Lib.hid (show TW w t s w57 F58 from h58)
      replace g0 := t58.cell og g0
      replace g1 := t58.cell og g1
      replace g2 := t58.cell og g2
      replace og := t58.off og lg
      replace lg := lt_of_cell g0
      replace u0 := t58.cell ou u0
      replace u1 := t58.cell ou u1
      replace u2 := t58.cell ou u2
      replace ou := t58.off ou lu
      replace lu := lt_of_cell u0
      replace v0 := t58.cell ov v0
      replace v1 := t58.cell ov v1
      replace v2 := t58.cell ov v2
      replace ov := t58.off ov lv
      replace lv := lt_of_cell v0
      replace x0 := t58.cell ox x0
      replace x1 := t58.cell ox x1
      replace x2 := t58.cell ox x2
      replace ox := t58.off ox lx
      replace lx := lt_of_cell x0
      replace TT := Lib.hid (TT.out.trans t58)
      clear t58 h58 hA
      go_wp2_with fail
      go_roundw
      case rel => exact ⟨k + 1, _, by omega, by go_num, H58.out, og, ⟨g0, g1, g2⟩, TT.out.off HO.out (lt_of_cell (CR.out 0 (by omega))), fun j hj => TT.out.cell HO.out (CR.out j hj)⟩
      case measure => simp [intOf]; omega
    · have zz : decide ((k : Int) < 2) = false := decide_eq_false (by omega)
      clear hlt ho hc hk
      have hlt := HI.out.inn.lt
      have hb := below_a wr (.cells #[.int .i64 (min a4 (-1)), .int .i64 (max a4 (n : Int))] 3)
      obtain ⟨br, hbr⟩ : ∃ b, b = wr.heap.size := ⟨_, rfl⟩
      have hc0 := cell_nwE hbr #[.int .i64 (min a4 (-1)), .int .i64 (max a4 (n : Int))] 3 0 _ rfl
      have hc1 := cell_nwE hbr #[.int .i64 (min a4 (-1)), .int .i64 (max a4 (n : Int))] 3 1 _ rfl
      have ho : br ∉ F := fun h => by have := hlt _ h; omega
      have t61 : Step F wr F (wr.alloc (.cells #[.int .i64 (min a4 (-1)), .int .i64 (max a4 (n : Int))] 3)) := Step.of hb
      have H61 := Lib.hid (HI.out.later hb)
      replace g0 := t61.cell og g0
      replace g1 := t61.cell og g1
      replace g2 := t61.cell og g2
      replace og := t61.off og lg
      replace lg := lt_of_cell g0
      clear t61
      clear hb hlt
      go_wp2_with fail
      rw [← hbr]
      generalize (wr.alloc (.cells #[.int .i64 (min a4 (-1)), .int .i64 (max a4 (n : Int))] 3)) = Wl at *
      clear hbr
      go_loopw [127] (fun i wr => ∃ (k : Nat) (F : List Nat), k ≤ 2 ∧ i = .int .i64 k ∧ TW w t s wr F ∧ b_g ∉ F ∧ (wr.cell? ⟨b_g, 0, none⟩ = some (.int .u64 1) ∧ wr.cell? ⟨b_g, 1, none⟩ = some (.int .u32 0) ∧ wr.cell? ⟨b_g, 2, none⟩ = some (.int .u32 2)) ∧ br ∉ F ∧ ∀ j, j < 2 → wr.cell? ⟨br, j, none⟩ = some (.int .i64 (wrongG a4 n j))) (fun i _ => 2 - (intOf i).toNat)
      case atStart =>
        refine ⟨0, _, Nat.zero_le _, rfl, H61.out, og, ⟨g0, g1, g2⟩, ho, fun j hj => ?_⟩
        have : j = 0 ∨ j = 1 := by omega
        rcases this with rfl | rfl
        · exact hc0
        · exact hc1
      case round =>
        clear hc0 hc1 ho
        clear og lg g0 g1 g2
        obtain ⟨k, F, hk, rfl, hI, og, ⟨g0, g1, g2⟩, ho, hc⟩ := hrel
        have HI := Lib.hid hI
        have lg := lt_of_cell g0
        clear hI
        by_cases hlt : k < 2
        · have i0 := hc k hlt
          have i1 := lt_of_cell i0
          have hk0 : (0 : Int) ≤ (k : Int) := by omega
          have hk2 : (k : Int) < 2 := by omega
          have CR := Lib.hid hc
          have HO := Lib.hid ho
          clear hc ho
          have TT := Lib.hid (Step.of (F := F) (Below.refl wr.heap.size wr))
          have HWk := Lib.hid (HWG.out n k hl7)
          have HBD := wrongG_bad a4 n k
          generalize wrongG a4 n k = id at *
          rw [← HNS.out] at HBD
          obtain ⟨q1, q2, q3, q4, q5, q6, q7, q8⟩ := group_bad HBD
          have Q1 := Lib.hid q1
          have Q2 := Lib.hid q2
          have Q3 := Lib.hid q3
          have Q4 := Lib.hid q4
          have Q5 := Lib.hid q5
          have Q6 := Lib.hid q6
          have Q7 := Lib.hid q7
          have Q8 := Lib.hid q8
          clear q1 q2 q3 q4 q5 q6 q7 q8 HBD
          go_wp2_with fail
          refine (pSpawn_at 99 id 1 wr HI.out.inn rfl HWk.out rfl).mono ?_
          rintro e w81 ⟨rfl, hA⟩
          obtain ⟨p1, p2⟩ := spawn_no Q1.out (by decide)
          rw [Q1.out, p1]
          rw [p2] at hA
          clear p1 p2
          obtain ⟨F82, h82, t82⟩ := HI.out.step hA
          have H82 := Lib.hid (show TW w t s w81 F82 from h82)
          replace g0 := t82.cell og g0
          replace g1 := t82.cell og g1
          replace g2 := t82.cell og g2
          replace og := t82.off og lg
          replace lg := lt_of_cell g0
          replace TT := Lib.hid (TT.out.trans t82)
          clear t82 h82 hA
          have hlt := H82.out.inn.lt
          have hb : Below w81.heap.size w81 (w81.alloc (.cells #[.int .u64 0, .int .u32 0, .int .u32 0] 40)) := below_a _ _
          have t84 : Step F82 w81 F82 (w81.alloc (.cells #[.int .u64 0, .int .u32 0, .int .u32 0] 40)) := Step.of hb
          have H84 := Lib.hid (H82.out.later hb)
          replace g0 := t84.cell og g0
          replace g1 := t84.cell og g1
          replace g2 := t84.cell og g2
          replace og := t84.off og lg
          replace lg := lt_of_cell g0
          replace TT := Lib.hid (TT.out.trans t84)
          clear t84
          have u0 : (w81.alloc (.cells #[.int .u64 0, .int .u32 0, .int .u32 0] 40)).cell? ⟨w81.heap.size, 0, none⟩ = some (.int .u64 0) := cell_nw _ _ _ 0 _ rfl
          have u1 : (w81.alloc (.cells #[.int .u64 0, .int .u32 0, .int .u32 0] 40)).cell? ⟨w81.heap.size, 1, none⟩ = some (.int .u32 0) := cell_nw _ _ _ 1 _ rfl
          have u2 : (w81.alloc (.cells #[.int .u64 0, .int .u32 0, .int .u32 0] 40)).cell? ⟨w81.heap.size, 2, none⟩ = some (.int .u32 0) := cell_nw _ _ _ 2 _ rfl
          have ou : w81.heap.size ∉ F82 := fun m => by have := hlt _ m; omega
          have lu := lt_of_cell u0
          have hS_u := Lib.hid (show (w81.alloc (.cells #[.int .u64 0, .int .u32 0, .int .u32 0] 40)).heap.size = w81.heap.size + 1 by simp)
          clear hb hlt
          go_wp2_with fail
          generalize (w81.alloc (.cells #[.int .u64 0, .int .u32 0, .int .u32 0] 40)) = W83 at *
          generalize w81.heap.size = b_u at *
          go_wp2_with fail
          refine (pWake_at 99 id 1 0 2 W83 H84.out.inn rfl HWk.out (by unfold Ch.Fits; decide)).mono ?_
          rintro e w85 ⟨rfl, hA⟩
          obtain ⟨p1, p2⟩ := wake_no Q2.out (by decide)
          rw [Q2.out, p1]
          rw [p2] at hA
          clear p1 p2
          obtain ⟨F86, h86, t86⟩ := H84.out.step hA
          have H86 := Lib.hid (show TW w t s w85 F86 from h86)
          replace g0 := t86.cell og g0
          replace g1 := t86.cell og g1
          replace g2 := t86.cell og g2
          replace og := t86.off og lg
          replace lg := lt_of_cell g0
          replace u0 := t86.cell ou u0
          replace u1 := t86.cell ou u1
          replace u2 := t86.cell ou u2
          replace ou := t86.off ou lu
          replace lu := lt_of_cell u0
          replace TT := Lib.hid (TT.out.trans t86)
          clear t86 h86 hA
          have hlt := H86.out.inn.lt
          have hb : Below w85.heap.size w85 (w85.alloc (.cells #[.int .u64 0, .int .u32 0, .int .u32 0] 40)) := below_a _ _
          have t88 : Step F86 w85 F86 (w85.alloc (.cells #[.int .u64 0, .int .u32 0, .int .u32 0] 40)) := Step.of hb
          have H88 := Lib.hid (H86.out.later hb)
          replace g0 := t88.cell og g0
          replace g1 := t88.cell og g1
          replace g2 := t88.cell og g2
          replace og := t88.off og lg
          replace lg := lt_of_cell g0
          replace u0 := t88.cell ou u0
          replace u1 := t88.cell ou u1
          replace u2 := t88.cell ou u2
          replace ou := t88.off ou lu
          replace lu := lt_of_cell u0
          replace TT := Lib.hid (TT.out.trans t88)
          clear t88
          have v0 : (w85.alloc (.cells #[.int .u64 0, .int .u32 0, .int .u32 0] 40)).cell? ⟨w85.heap.size, 0, none⟩ = some (.int .u64 0) := cell_nw _ _ _ 0 _ rfl
          have v1 : (w85.alloc (.cells #[.int .u64 0, .int .u32 0, .int .u32 0] 40)).cell? ⟨w85.heap.size, 1, none⟩ = some (.int .u32 0) := cell_nw _ _ _ 1 _ rfl
          have v2 : (w85.alloc (.cells #[.int .u64 0, .int .u32 0, .int .u32 0] 40)).cell? ⟨w85.heap.size, 2, none⟩ = some (.int .u32 0) := cell_nw _ _ _ 2 _ rfl
          have ov : w85.heap.size ∉ F86 := fun m => by have := hlt _ m; omega
          have lv := lt_of_cell v0
          have hS_v := Lib.hid (show (w85.alloc (.cells #[.int .u64 0, .int .u32 0, .int .u32 0] 40)).heap.size = w85.heap.size + 1 by simp)
          clear hb hlt
          go_wp2_with fail
          generalize (w85.alloc (.cells #[.int .u64 0, .int .u32 0, .int .u32 0] 40)) = W87 at *
          generalize w85.heap.size = b_v at *
          go_wp2_with fail
          refine (pSpot_at id W87 H88.out.inn).mono ?_
          rintro e w89 ⟨rfl, hb⟩
          rw [Q4.out, Q5.out]
          have t90 : Step F86 W87 F86 w89 := Step.of hb
          have H90 := Lib.hid (H88.out.later hb)
          replace g0 := t90.cell og g0
          replace g1 := t90.cell og g1
          replace g2 := t90.cell og g2
          replace og := t90.off og lg
          replace lg := lt_of_cell g0
          replace u0 := t90.cell ou u0
          replace u1 := t90.cell ou u1
          replace u2 := t90.cell ou u2
          replace ou := t90.off ou lu
          replace lu := lt_of_cell u0
          replace v0 := t90.cell ov v0
          replace v1 := t90.cell ov v1
          replace v2 := t90.cell ov v2
          replace ov := t90.off ov lv
          replace lv := lt_of_cell v0
          replace TT := Lib.hid (TT.out.trans t90)
          clear t90
          clear hb
          have hlt := H90.out.inn.lt
          have hb : Below w89.heap.size w89 (w89.alloc (.cells #[.int .u64 0, .int .u32 0, .int .u64 0] 55)) := below_a _ _
          have t92 : Step F86 w89 F86 (w89.alloc (.cells #[.int .u64 0, .int .u32 0, .int .u64 0] 55)) := Step.of hb
          have H92 := Lib.hid (H90.out.later hb)
          replace g0 := t92.cell og g0
          replace g1 := t92.cell og g1
          replace g2 := t92.cell og g2
          replace og := t92.off og lg
          replace lg := lt_of_cell g0
          replace u0 := t92.cell ou u0
          replace u1 := t92.cell ou u1
          replace u2 := t92.cell ou u2
          replace ou := t92.off ou lu
          replace lu := lt_of_cell u0
          replace v0 := t92.cell ov v0
          replace v1 := t92.cell ov v1
          replace v2 := t92.cell ov v2
          replace ov := t92.off ov lv
          replace lv := lt_of_cell v0
          replace TT := Lib.hid (TT.out.trans t92)
          clear t92
          have p0 : (w89.alloc (.cells #[.int .u64 0, .int .u32 0, .int .u64 0] 55)).cell? ⟨w89.heap.size, 0, none⟩ = some (.int .u64 0) := cell_nw _ _ _ 0 _ rfl
          have p1 : (w89.alloc (.cells #[.int .u64 0, .int .u32 0, .int .u64 0] 55)).cell? ⟨w89.heap.size, 1, none⟩ = some (.int .u32 0) := cell_nw _ _ _ 1 _ rfl
          have p2 : (w89.alloc (.cells #[.int .u64 0, .int .u32 0, .int .u64 0] 55)).cell? ⟨w89.heap.size, 2, none⟩ = some (.int .u64 0) := cell_nw _ _ _ 2 _ rfl
          have op : w89.heap.size ∉ F86 := fun m => by have := hlt _ m; omega
          have lp := lt_of_cell p0
          have hS_p := Lib.hid (show (w89.alloc (.cells #[.int .u64 0, .int .u32 0, .int .u64 0] 55)).heap.size = w89.heap.size + 1 by simp)
          clear hb hlt
          go_wp2_with fail
          generalize (w89.alloc (.cells #[.int .u64 0, .int .u32 0, .int .u64 0] 55)) = W91 at *
          generalize w89.heap.size = b_p at *
          go_wp2_with fail
          refine (pCome_at 99 id 1 0 2 W91 H92.out.inn rfl HWk.out (by unfold Ch.Fits; decide)).mono ?_
          rintro e w93 ⟨rfl, hA⟩
          rw [Q3.out]
          rw [come_no Q3.out (by decide)] at hA
          obtain ⟨F94, h94, t94⟩ := H92.out.step hA
          have H94 := Lib.hid (show TW w t s w93 F94 from h94)
          replace g0 := t94.cell og g0
          replace g1 := t94.cell og g1
          replace g2 := t94.cell og g2
          replace og := t94.off og lg
          replace lg := lt_of_cell g0
          replace u0 := t94.cell ou u0
          replace u1 := t94.cell ou u1
          replace u2 := t94.cell ou u2
          replace ou := t94.off ou lu
          replace lu := lt_of_cell u0
          replace v0 := t94.cell ov v0
          replace v1 := t94.cell ov v1
          replace v2 := t94.cell ov v2
          replace ov := t94.off ov lv
          replace lv := lt_of_cell v0
          replace p0 := t94.cell op p0
          replace p1 := t94.cell op p1
          replace p2 := t94.cell op p2
          replace op := t94.off op lp
          replace lp := lt_of_cell p0
          replace TT := Lib.hid (TT.out.trans t94)
          clear t94 h94 hA
          go_wp2_with fail
          refine (pRegroup_at id 1 w93 H94.out.inn rfl).mono ?_
          rintro e w95 ⟨rfl, hA⟩
          rw [Q6.out]
          rw [Q7.out] at hA
          obtain ⟨F96, h96, t96⟩ := H94.out.step hA
          have H96 := Lib.hid (show TW w t s w95 F96 from h96)
          replace g0 := t96.cell og g0
          replace g1 := t96.cell og g1
          replace g2 := t96.cell og g2
          replace og := t96.off og lg
          replace lg := lt_of_cell g0
          replace u0 := t96.cell ou u0
          replace u1 := t96.cell ou u1
          replace u2 := t96.cell ou u2
          replace ou := t96.off ou lu
          replace lu := lt_of_cell u0
          replace v0 := t96.cell ov v0
          replace v1 := t96.cell ov v1
          replace v2 := t96.cell ov v2
          replace ov := t96.off ov lv
          replace lv := lt_of_cell v0
          replace p0 := t96.cell op p0
          replace p1 := t96.cell op p1
          replace p2 := t96.cell op p2
          replace op := t96.off op lp
          replace lp := lt_of_cell p0
          replace TT := Lib.hid (TT.out.trans t96)
          clear t96 h96 hA
          go_wp2_with fail
          refine (pTasks_at id w95 H96.out.inn).mono ?_
          rintro e w97 ⟨tv, rfl, ht, hb⟩
          rw [Q8.out] at ht
          obtain ⟨ta, tc, rfl⟩ := own_shapeT ht
          clear ht
          have t98 : Step F96 w95 F96 w97 := Step.of hb
          have H98 := Lib.hid (H96.out.later hb)
          replace g0 := t98.cell og g0
          replace g1 := t98.cell og g1
          replace g2 := t98.cell og g2
          replace og := t98.off og lg
          replace lg := lt_of_cell g0
          replace u0 := t98.cell ou u0
          replace u1 := t98.cell ou u1
          replace u2 := t98.cell ou u2
          replace ou := t98.off ou lu
          replace lu := lt_of_cell u0
          replace v0 := t98.cell ov v0
          replace v1 := t98.cell ov v1
          replace v2 := t98.cell ov v2
          replace ov := t98.off ov lv
          replace lv := lt_of_cell v0
          replace p0 := t98.cell op p0
          replace p1 := t98.cell op p1
          replace p2 := t98.cell op p2
          replace op := t98.off op lp
          replace lp := lt_of_cell p0
          replace TT := Lib.hid (TT.out.trans t98)
          clear t98
          clear hb
          go_wp2_with fail
          go_roundw
          case rel => exact ⟨k + 1, _, by omega, by go_num, H98.out, og, ⟨g0, g1, g2⟩, TT.out.off HO.out (lt_of_cell (CR.out 0 (by omega))), fun j hj => TT.out.cell HO.out (CR.out j hj)⟩
          case measure => simp [intOf]; omega
        · have zz : decide ((k : Int) < 2) = false := decide_eq_false (by omega)
          clear hlt ho hc hk
          obtain ⟨wo, rfl⟩ : ∃ wo : World, wo = wr := ⟨_, rfl⟩
          go_wp2_with fail
          go_loopw [32] (fun i wr => ∃ (k : Nat) (F : List Nat), (1 ≤ k ∧ k ≤ 13) ∧ i = .int .i64 k ∧ TW w t s wr F ∧ b_g ∉ F ∧ (wr.cell? ⟨b_g, 0, none⟩ = some (.int .u64 1) ∧ wr.cell? ⟨b_g, 1, none⟩ = some (.int .u32 0) ∧ wr.cell? ⟨b_g, 2, none⟩ = some (.int .u32 2))) (fun i _ => 13 - (intOf i).toNat)
          case atStart => exact ⟨1, F, by omega, rfl, HI.out, og, g0, g1, g2⟩
          case round =>
            clear HI og lg g0 g1 g2
            obtain ⟨k, F, hk, rfl, hI, og, g0, g1, g2⟩ := hrel
            have HI := Lib.hid hI
            have lg := lt_of_cell g0
            clear hI
            by_cases hlt : k ≤ 12
            · have hk0 : (0 : Int) ≤ (k : Int) := by omega
              have hk12 : (k : Int) ≤ 12 := by omega
              have HWk := Lib.hid (show (Lit.int .i64 (k : Int)).wf = true from wfI (by omega) (by omega))
              have HWm := Lib.hid (show (Lit.int .i64 (min a4 0)).wf = true from wfI (by have := HB4.out; omega) (by have := HB4.out; omega))
              have HWx := Lib.hid (show (Lit.int .i64 (max a4 4294967296)).wf = true from wfI (by have := HB4.out; omega) (by have := HB4.out; omega))
              have HWy := Lib.hid (show (Lit.int .i64 (max a4 65537)).wf = true from wfI (by have := HB4.out; omega) (by have := HB4.out; omega))
              have HNM := Lib.hid (show nameV (k : Int) = true from decide_eq_true (by omega))
              have HV0 := Lib.hid (show hasV (s.n : Int) 0 = true from decide_eq_true (by have := HNS.out; omega))
              have Q1 := Lib.hid (show spawnC s (k : Int) 0 (min a4 0) = 2 from en_bad (Or.inr (Or.inr (by have := HX.out.2.1; unfold wgOk at this; unfold newC; rw [if_neg this]; decide))))
              have Q2 := Lib.hid (show wakeC s (k : Int) 0 (0, 1, 1) = 2 from en_bad (Or.inr (Or.inr (by unfold wokenC; rw [if_neg (by unfold Ch.Ok; decide)]; decide))))
              have Q3 := Lib.hid (show pchgC s (k : Int) (max a4 4294967296) = 2 by unfold pchgC; rw [if_neg HX.out.1])
              have Q4 := Lib.hid (show pweiC s (k : Int) (max a4 65537) = 2 from (weigh_no (s := s) (id := (k : Int)) fun q => absurd q HX.out.2.2).2.2 HX.out.2.2)
              have Q5 := Lib.hid (show pweiS s (k : Int) (max a4 65537) = s from (weigh_no (s := s) (id := (k : Int)) fun q => absurd q HX.out.2.2).1)
              by_cases hth : findC s (k : Int) = 0
              · obtain ⟨⟨gv, gr, gw⟩, hy⟩ : ∃ y, y = pgetX s (k : Int) := ⟨_, rfl⟩
                obtain ⟨gg, hgg⟩ : ∃ y, y = findG s (k : Int) := ⟨_, rfl⟩
                have HY := Lib.hid hy
                have HG := Lib.hid hgg
                have Q6 := Lib.hid (show comC s (k : Int) 0 (1, 0, 2) = 250 from en_there hth HV0.out (by unfold comeC; rw [if_pos (by unfold Ch.Ok; decide)]))
                have HTH := Lib.hid hth
                clear hth hy hgg
                go_wp2_with fail
                refine (pGet_at (k : Int) wr HI.out.inn HWk.out).mono ?_
                rintro e w121 ⟨rfl, hb⟩
                rw [← HY.out, ← HG.out, decide_eq_true HTH.out]
                have t122 : Step F wr F w121 := Step.of hb
                have H122 := Lib.hid (HI.out.later hb)
                replace g0 := t122.cell og g0
                replace g1 := t122.cell og g1
                replace g2 := t122.cell og g2
                replace og := t122.off og lg
                replace lg := lt_of_cell g0
                clear t122
                clear hb
                have hlt := H122.out.inn.lt
                have hb : Below w121.heap.size w121 (w121.alloc (.cells #[.int .u64 gv, .int .u32 gr, .int .u32 gw] 40)) := below_a _ _
                have t124 : Step F w121 F (w121.alloc (.cells #[.int .u64 gv, .int .u32 gr, .int .u32 gw] 40)) := Step.of hb
                have H124 := Lib.hid (H122.out.later hb)
                replace g0 := t124.cell og g0
                replace g1 := t124.cell og g1
                replace g2 := t124.cell og g2
                replace og := t124.off og lg
                replace lg := lt_of_cell g0
                clear t124
                have y0 : (w121.alloc (.cells #[.int .u64 gv, .int .u32 gr, .int .u32 gw] 40)).cell? ⟨w121.heap.size, 0, none⟩ = some (.int .u64 gv) := cell_nw _ _ _ 0 _ rfl
                have y1 : (w121.alloc (.cells #[.int .u64 gv, .int .u32 gr, .int .u32 gw] 40)).cell? ⟨w121.heap.size, 1, none⟩ = some (.int .u32 gr) := cell_nw _ _ _ 1 _ rfl
                have y2 : (w121.alloc (.cells #[.int .u64 gv, .int .u32 gr, .int .u32 gw] 40)).cell? ⟨w121.heap.size, 2, none⟩ = some (.int .u32 gw) := cell_nw _ _ _ 2 _ rfl
                have oy : w121.heap.size ∉ F := fun m => by have := hlt _ m; omega
                have ly := lt_of_cell y0
                have hS_y := Lib.hid (show (w121.alloc (.cells #[.int .u64 gv, .int .u32 gr, .int .u32 gw] 40)).heap.size = w121.heap.size + 1 by simp)
                clear hb hlt
                go_wp2_with fail
                generalize (w121.alloc (.cells #[.int .u64 gv, .int .u32 gr, .int .u32 gw] 40)) = W123 at *
                generalize w121.heap.size = b_y at *
                go_wp2_with fail
                refine (pSpawn_at (k : Int) 0 (min a4 0) W123 H124.out.inn HWk.out rfl HWm.out).mono ?_
                rintro e w125 ⟨rfl, hA⟩
                obtain ⟨p1, p2⟩ := spawn_no Q1.out (by decide)
                rw [Q1.out, p1]
                rw [p2] at hA
                clear p1 p2
                obtain ⟨F126, h126, t126⟩ := H124.out.step hA
                have H126 := Lib.hid (show TW w t s w125 F126 from h126)
                replace g0 := t126.cell og g0
                replace g1 := t126.cell og g1
                replace g2 := t126.cell og g2
                replace og := t126.off og lg
                replace lg := lt_of_cell g0
                replace y0 := t126.cell oy y0
                replace y1 := t126.cell oy y1
                replace y2 := t126.cell oy y2
                replace oy := t126.off oy ly
                replace ly := lt_of_cell y0
                clear t126 h126 hA
                have hlt := H126.out.inn.lt
                have hb : Below w125.heap.size w125 (w125.alloc (.cells #[.int .u64 0, .int .u32 0, .int .u32 0] 40)) := below_a _ _
                have t128 : Step F126 w125 F126 (w125.alloc (.cells #[.int .u64 0, .int .u32 0, .int .u32 0] 40)) := Step.of hb
                have H128 := Lib.hid (H126.out.later hb)
                replace g0 := t128.cell og g0
                replace g1 := t128.cell og g1
                replace g2 := t128.cell og g2
                replace og := t128.off og lg
                replace lg := lt_of_cell g0
                replace y0 := t128.cell oy y0
                replace y1 := t128.cell oy y1
                replace y2 := t128.cell oy y2
                replace oy := t128.off oy ly
                replace ly := lt_of_cell y0
                clear t128
                have u0 : (w125.alloc (.cells #[.int .u64 0, .int .u32 0, .int .u32 0] 40)).cell? ⟨w125.heap.size, 0, none⟩ = some (.int .u64 0) := cell_nw _ _ _ 0 _ rfl
                have u1 : (w125.alloc (.cells #[.int .u64 0, .int .u32 0, .int .u32 0] 40)).cell? ⟨w125.heap.size, 1, none⟩ = some (.int .u32 0) := cell_nw _ _ _ 1 _ rfl
                have u2 : (w125.alloc (.cells #[.int .u64 0, .int .u32 0, .int .u32 0] 40)).cell? ⟨w125.heap.size, 2, none⟩ = some (.int .u32 0) := cell_nw _ _ _ 2 _ rfl
                have ou : w125.heap.size ∉ F126 := fun m => by have := hlt _ m; omega
                have lu := lt_of_cell u0
                have hS_u := Lib.hid (show (w125.alloc (.cells #[.int .u64 0, .int .u32 0, .int .u32 0] 40)).heap.size = w125.heap.size + 1 by simp)
                clear hb hlt
                go_wp2_with fail
                generalize (w125.alloc (.cells #[.int .u64 0, .int .u32 0, .int .u32 0] 40)) = W127 at *
                generalize w125.heap.size = b_u at *
                go_wp2_with fail
                refine (pWake_at (k : Int) 0 0 1 1 W127 H128.out.inn HWk.out rfl (by unfold Ch.Fits; decide)).mono ?_
                rintro e w129 ⟨rfl, hA⟩
                obtain ⟨p1, p2⟩ := wake_no Q2.out (by decide)
                rw [Q2.out, p1]
                rw [p2] at hA
                clear p1 p2
                obtain ⟨F130, h130, t130⟩ := H128.out.step hA
                have H130 := Lib.hid (show TW w t s w129 F130 from h130)
                replace g0 := t130.cell og g0
                replace g1 := t130.cell og g1
                replace g2 := t130.cell og g2
                replace og := t130.off og lg
                replace lg := lt_of_cell g0
                replace y0 := t130.cell oy y0
                replace y1 := t130.cell oy y1
                replace y2 := t130.cell oy y2
                replace oy := t130.off oy ly
                replace ly := lt_of_cell y0
                replace u0 := t130.cell ou u0
                replace u1 := t130.cell ou u1
                replace u2 := t130.cell ou u2
                replace ou := t130.off ou lu
                replace lu := lt_of_cell u0
                clear t130 h130 hA
                have hlt := H130.out.inn.lt
                have hb : Below w129.heap.size w129 (w129.alloc (.cells #[.int .u64 0, .int .u32 0, .int .u32 0] 40)) := below_a _ _
                have t132 : Step F130 w129 F130 (w129.alloc (.cells #[.int .u64 0, .int .u32 0, .int .u32 0] 40)) := Step.of hb
                have H132 := Lib.hid (H130.out.later hb)
                replace g0 := t132.cell og g0
                replace g1 := t132.cell og g1
                replace g2 := t132.cell og g2
                replace og := t132.off og lg
                replace lg := lt_of_cell g0
                replace y0 := t132.cell oy y0
                replace y1 := t132.cell oy y1
                replace y2 := t132.cell oy y2
                replace oy := t132.off oy ly
                replace ly := lt_of_cell y0
                replace u0 := t132.cell ou u0
                replace u1 := t132.cell ou u1
                replace u2 := t132.cell ou u2
                replace ou := t132.off ou lu
                replace lu := lt_of_cell u0
                clear t132
                have v0 : (w129.alloc (.cells #[.int .u64 0, .int .u32 0, .int .u32 0] 40)).cell? ⟨w129.heap.size, 0, none⟩ = some (.int .u64 0) := cell_nw _ _ _ 0 _ rfl
                have v1 : (w129.alloc (.cells #[.int .u64 0, .int .u32 0, .int .u32 0] 40)).cell? ⟨w129.heap.size, 1, none⟩ = some (.int .u32 0) := cell_nw _ _ _ 1 _ rfl
                have v2 : (w129.alloc (.cells #[.int .u64 0, .int .u32 0, .int .u32 0] 40)).cell? ⟨w129.heap.size, 2, none⟩ = some (.int .u32 0) := cell_nw _ _ _ 2 _ rfl
                have ov : w129.heap.size ∉ F130 := fun m => by have := hlt _ m; omega
                have lv := lt_of_cell v0
                have hS_v := Lib.hid (show (w129.alloc (.cells #[.int .u64 0, .int .u32 0, .int .u32 0] 40)).heap.size = w129.heap.size + 1 by simp)
                clear hb hlt
                go_wp2_with fail
                generalize (w129.alloc (.cells #[.int .u64 0, .int .u32 0, .int .u32 0] 40)) = W131 at *
                generalize w129.heap.size = b_v at *
                go_wp2_with fail
                refine (pCharge_at (k : Int) (max a4 4294967296) W131 H132.out.inn HWk.out HWx.out).mono ?_
                rintro e w133 ⟨rfl, hA⟩
                rw [Q3.out]
                rw [charge_no Q3.out (by decide)] at hA
                obtain ⟨F134, h134, t134⟩ := H132.out.step hA
                have H134 := Lib.hid (show TW w t s w133 F134 from h134)
                replace g0 := t134.cell og g0
                replace g1 := t134.cell og g1
                replace g2 := t134.cell og g2
                replace og := t134.off og lg
                replace lg := lt_of_cell g0
                replace y0 := t134.cell oy y0
                replace y1 := t134.cell oy y1
                replace y2 := t134.cell oy y2
                replace oy := t134.off oy ly
                replace ly := lt_of_cell y0
                replace u0 := t134.cell ou u0
                replace u1 := t134.cell ou u1
                replace u2 := t134.cell ou u2
                replace ou := t134.off ou lu
                replace lu := lt_of_cell u0
                replace v0 := t134.cell ov v0
                replace v1 := t134.cell ov v1
                replace v2 := t134.cell ov v2
                replace ov := t134.off ov lv
                replace lv := lt_of_cell v0
                clear t134 h134 hA
                go_wp2_with fail
                refine (pWeigh_at (k : Int) (max a4 65537) w133 H134.out.inn HWk.out HWy.out).mono ?_
                rintro e w135 ⟨rfl, hA⟩
                rw [Q4.out]
                rw [Q5.out] at hA
                obtain ⟨F136, h136, t136⟩ := H134.out.step hA
                have H136 := Lib.hid (show TW w t s w135 F136 from h136)
                replace g0 := t136.cell og g0
                replace g1 := t136.cell og g1
                replace g2 := t136.cell og g2
                replace og := t136.off og lg
                replace lg := lt_of_cell g0
                replace y0 := t136.cell oy y0
                replace y1 := t136.cell oy y1
                replace y2 := t136.cell oy y2
                replace oy := t136.off oy ly
                replace ly := lt_of_cell y0
                replace u0 := t136.cell ou u0
                replace u1 := t136.cell ou u1
                replace u2 := t136.cell ou u2
                replace ou := t136.off ou lu
                replace lu := lt_of_cell u0
                replace v0 := t136.cell ov v0
                replace v1 := t136.cell ov v1
                replace v2 := t136.cell ov v2
                replace ov := t136.off ov lv
                replace lv := lt_of_cell v0
                clear t136 h136 hA
                go_wp2_with fail
                refine (pCome_at (k : Int) 0 1 0 2 w135 H136.out.inn HWk.out rfl (by unfold Ch.Fits; decide)).mono ?_
                rintro e w137 ⟨rfl, hA⟩
                rw [Q6.out]
                rw [come_no Q6.out (by decide)] at hA
                obtain ⟨F138, h138, t138⟩ := H136.out.step hA
                have H138 := Lib.hid (show TW w t s w137 F138 from h138)
                replace g0 := t138.cell og g0
                replace g1 := t138.cell og g1
                replace g2 := t138.cell og g2
                replace og := t138.off og lg
                replace lg := lt_of_cell g0
                replace y0 := t138.cell oy y0
                replace y1 := t138.cell oy y1
                replace y2 := t138.cell oy y2
                replace oy := t138.off oy ly
                replace ly := lt_of_cell y0
                replace u0 := t138.cell ou u0
                replace u1 := t138.cell ou u1
                replace u2 := t138.cell ou u2
                replace ou := t138.off ou lu
                replace lu := lt_of_cell u0
                replace v0 := t138.cell ov v0
                replace v1 := t138.cell ov v1
                replace v2 := t138.cell ov v2
                replace ov := t138.off ov lv
                replace lv := lt_of_cell v0
                clear t138 h138 hA
                go_wp2_with fail
                go_roundw
                case rel => exact ⟨k + 1, _, by omega, by go_num, H138.out, og, g0, g1, g2⟩
                case measure => simp [intOf]; omega
              · have hfn := find_no hth (by omega)
                have HY := Lib.hid (show pgetX s (k : Int) = (0, 0, 0) by unfold pgetX; rw [if_neg hth])
                have HG := Lib.hid hfn.2
                have Q6 := Lib.hid (show pchgC s (k : Int) 1 = 6 by unfold pchgC; rw [if_pos (by unfold tkOk; decide)]; exact hfn.1)
                have Q7 := Lib.hid (show pweiS s (k : Int) 1 = s ∧ pweiC s (k : Int) 1 = 6 from ⟨(weigh_no (s := s) (id := (k : Int)) fun _ => hth).1, ((weigh_no (s := s) (id := (k : Int)) fun _ => hth).2.1 (by unfold wgOk; decide)).trans hfn.1⟩)
                have HTH := Lib.hid hth
                clear hth hfn
                go_wp2_with fail
                refine (pGet_at (k : Int) wr HI.out.inn HWk.out).mono ?_
                rintro e w141 ⟨rfl, hb⟩
                rw [HY.out, HG.out, decide_eq_false HTH.out]
                have t142 : Step F wr F w141 := Step.of hb
                have H142 := Lib.hid (HI.out.later hb)
                replace g0 := t142.cell og g0
                replace g1 := t142.cell og g1
                replace g2 := t142.cell og g2
                replace og := t142.off og lg
                replace lg := lt_of_cell g0
                clear t142
                clear hb
                have hlt := H142.out.inn.lt
                have hb : Below w141.heap.size w141 (w141.alloc (.cells #[.int .u64 0, .int .u32 0, .int .u32 0] 40)) := below_a _ _
                have t144 : Step F w141 F (w141.alloc (.cells #[.int .u64 0, .int .u32 0, .int .u32 0] 40)) := Step.of hb
                have H144 := Lib.hid (H142.out.later hb)
                replace g0 := t144.cell og g0
                replace g1 := t144.cell og g1
                replace g2 := t144.cell og g2
                replace og := t144.off og lg
                replace lg := lt_of_cell g0
                clear t144
                have y0 : (w141.alloc (.cells #[.int .u64 0, .int .u32 0, .int .u32 0] 40)).cell? ⟨w141.heap.size, 0, none⟩ = some (.int .u64 0) := cell_nw _ _ _ 0 _ rfl
                have y1 : (w141.alloc (.cells #[.int .u64 0, .int .u32 0, .int .u32 0] 40)).cell? ⟨w141.heap.size, 1, none⟩ = some (.int .u32 0) := cell_nw _ _ _ 1 _ rfl
                have y2 : (w141.alloc (.cells #[.int .u64 0, .int .u32 0, .int .u32 0] 40)).cell? ⟨w141.heap.size, 2, none⟩ = some (.int .u32 0) := cell_nw _ _ _ 2 _ rfl
                have oy : w141.heap.size ∉ F := fun m => by have := hlt _ m; omega
                have ly := lt_of_cell y0
                have hS_y := Lib.hid (show (w141.alloc (.cells #[.int .u64 0, .int .u32 0, .int .u32 0] 40)).heap.size = w141.heap.size + 1 by simp)
                clear hb hlt
                go_wp2_with fail
                generalize (w141.alloc (.cells #[.int .u64 0, .int .u32 0, .int .u32 0] 40)) = W143 at *
                generalize w141.heap.size = b_y at *
                go_wp2_with fail
                refine (pSpawn_at (k : Int) 0 (min a4 0) W143 H144.out.inn HWk.out rfl HWm.out).mono ?_
                rintro e w145 ⟨rfl, hA⟩
                obtain ⟨p1, p2⟩ := spawn_no Q1.out (by decide)
                rw [Q1.out, p1]
                rw [p2] at hA
                clear p1 p2
                obtain ⟨F146, h146, t146⟩ := H144.out.step hA
                have H146 := Lib.hid (show TW w t s w145 F146 from h146)
                replace g0 := t146.cell og g0
                replace g1 := t146.cell og g1
                replace g2 := t146.cell og g2
                replace og := t146.off og lg
                replace lg := lt_of_cell g0
                replace y0 := t146.cell oy y0
                replace y1 := t146.cell oy y1
                replace y2 := t146.cell oy y2
                replace oy := t146.off oy ly
                replace ly := lt_of_cell y0
                clear t146 h146 hA
                have hlt := H146.out.inn.lt
                have hb : Below w145.heap.size w145 (w145.alloc (.cells #[.int .u64 0, .int .u32 0, .int .u32 0] 40)) := below_a _ _
                have t148 : Step F146 w145 F146 (w145.alloc (.cells #[.int .u64 0, .int .u32 0, .int .u32 0] 40)) := Step.of hb
                have H148 := Lib.hid (H146.out.later hb)
                replace g0 := t148.cell og g0
                replace g1 := t148.cell og g1
                replace g2 := t148.cell og g2
                replace og := t148.off og lg
                replace lg := lt_of_cell g0
                replace y0 := t148.cell oy y0
                replace y1 := t148.cell oy y1
                replace y2 := t148.cell oy y2
                replace oy := t148.off oy ly
                replace ly := lt_of_cell y0
                clear t148
                have u0 : (w145.alloc (.cells #[.int .u64 0, .int .u32 0, .int .u32 0] 40)).cell? ⟨w145.heap.size, 0, none⟩ = some (.int .u64 0) := cell_nw _ _ _ 0 _ rfl
                have u1 : (w145.alloc (.cells #[.int .u64 0, .int .u32 0, .int .u32 0] 40)).cell? ⟨w145.heap.size, 1, none⟩ = some (.int .u32 0) := cell_nw _ _ _ 1 _ rfl
                have u2 : (w145.alloc (.cells #[.int .u64 0, .int .u32 0, .int .u32 0] 40)).cell? ⟨w145.heap.size, 2, none⟩ = some (.int .u32 0) := cell_nw _ _ _ 2 _ rfl
                have ou : w145.heap.size ∉ F146 := fun m => by have := hlt _ m; omega
                have lu := lt_of_cell u0
                have hS_u := Lib.hid (show (w145.alloc (.cells #[.int .u64 0, .int .u32 0, .int .u32 0] 40)).heap.size = w145.heap.size + 1 by simp)
                clear hb hlt
                go_wp2_with fail
                generalize (w145.alloc (.cells #[.int .u64 0, .int .u32 0, .int .u32 0] 40)) = W147 at *
                generalize w145.heap.size = b_u at *
                go_wp2_with fail
                refine (pWake_at (k : Int) 0 0 1 1 W147 H148.out.inn HWk.out rfl (by unfold Ch.Fits; decide)).mono ?_
                rintro e w149 ⟨rfl, hA⟩
                obtain ⟨p1, p2⟩ := wake_no Q2.out (by decide)
                rw [Q2.out, p1]
                rw [p2] at hA
                clear p1 p2
                obtain ⟨F150, h150, t150⟩ := H148.out.step hA
                have H150 := Lib.hid (show TW w t s w149 F150 from h150)
                replace g0 := t150.cell og g0
                replace g1 := t150.cell og g1
                replace g2 := t150.cell og g2
                replace og := t150.off og lg
                replace lg := lt_of_cell g0
                replace y0 := t150.cell oy y0
                replace y1 := t150.cell oy y1
                replace y2 := t150.cell oy y2
                replace oy := t150.off oy ly
                replace ly := lt_of_cell y0
                replace u0 := t150.cell ou u0
                replace u1 := t150.cell ou u1
                replace u2 := t150.cell ou u2
                replace ou := t150.off ou lu
                replace lu := lt_of_cell u0
                clear t150 h150 hA
                have hlt := H150.out.inn.lt
                have hb : Below w149.heap.size w149 (w149.alloc (.cells #[.int .u64 0, .int .u32 0, .int .u32 0] 40)) := below_a _ _
                have t152 : Step F150 w149 F150 (w149.alloc (.cells #[.int .u64 0, .int .u32 0, .int .u32 0] 40)) := Step.of hb
                have H152 := Lib.hid (H150.out.later hb)
                replace g0 := t152.cell og g0
                replace g1 := t152.cell og g1
                replace g2 := t152.cell og g2
                replace og := t152.off og lg
                replace lg := lt_of_cell g0
                replace y0 := t152.cell oy y0
                replace y1 := t152.cell oy y1
                replace y2 := t152.cell oy y2
                replace oy := t152.off oy ly
                replace ly := lt_of_cell y0
                replace u0 := t152.cell ou u0
                replace u1 := t152.cell ou u1
                replace u2 := t152.cell ou u2
                replace ou := t152.off ou lu
                replace lu := lt_of_cell u0
                clear t152
                have v0 : (w149.alloc (.cells #[.int .u64 0, .int .u32 0, .int .u32 0] 40)).cell? ⟨w149.heap.size, 0, none⟩ = some (.int .u64 0) := cell_nw _ _ _ 0 _ rfl
                have v1 : (w149.alloc (.cells #[.int .u64 0, .int .u32 0, .int .u32 0] 40)).cell? ⟨w149.heap.size, 1, none⟩ = some (.int .u32 0) := cell_nw _ _ _ 1 _ rfl
                have v2 : (w149.alloc (.cells #[.int .u64 0, .int .u32 0, .int .u32 0] 40)).cell? ⟨w149.heap.size, 2, none⟩ = some (.int .u32 0) := cell_nw _ _ _ 2 _ rfl
                have ov : w149.heap.size ∉ F150 := fun m => by have := hlt _ m; omega
                have lv := lt_of_cell v0
                have hS_v := Lib.hid (show (w149.alloc (.cells #[.int .u64 0, .int .u32 0, .int .u32 0] 40)).heap.size = w149.heap.size + 1 by simp)
                clear hb hlt
                go_wp2_with fail
                generalize (w149.alloc (.cells #[.int .u64 0, .int .u32 0, .int .u32 0] 40)) = W151 at *
                generalize w149.heap.size = b_v at *
                go_wp2_with fail
                refine (pCharge_at (k : Int) (max a4 4294967296) W151 H152.out.inn HWk.out HWx.out).mono ?_
                rintro e w153 ⟨rfl, hA⟩
                rw [Q3.out]
                rw [charge_no Q3.out (by decide)] at hA
                obtain ⟨F154, h154, t154⟩ := H152.out.step hA
                have H154 := Lib.hid (show TW w t s w153 F154 from h154)
                replace g0 := t154.cell og g0
                replace g1 := t154.cell og g1
                replace g2 := t154.cell og g2
                replace og := t154.off og lg
                replace lg := lt_of_cell g0
                replace y0 := t154.cell oy y0
                replace y1 := t154.cell oy y1
                replace y2 := t154.cell oy y2
                replace oy := t154.off oy ly
                replace ly := lt_of_cell y0
                replace u0 := t154.cell ou u0
                replace u1 := t154.cell ou u1
                replace u2 := t154.cell ou u2
                replace ou := t154.off ou lu
                replace lu := lt_of_cell u0
                replace v0 := t154.cell ov v0
                replace v1 := t154.cell ov v1
                replace v2 := t154.cell ov v2
                replace ov := t154.off ov lv
                replace lv := lt_of_cell v0
                clear t154 h154 hA
                go_wp2_with fail
                refine (pWeigh_at (k : Int) (max a4 65537) w153 H154.out.inn HWk.out HWy.out).mono ?_
                rintro e w155 ⟨rfl, hA⟩
                rw [Q4.out]
                rw [Q5.out] at hA
                obtain ⟨F156, h156, t156⟩ := H154.out.step hA
                have H156 := Lib.hid (show TW w t s w155 F156 from h156)
                replace g0 := t156.cell og g0
                replace g1 := t156.cell og g1
                replace g2 := t156.cell og g2
                replace og := t156.off og lg
                replace lg := lt_of_cell g0
                replace y0 := t156.cell oy y0
                replace y1 := t156.cell oy y1
                replace y2 := t156.cell oy y2
                replace oy := t156.off oy ly
                replace ly := lt_of_cell y0
                replace u0 := t156.cell ou u0
                replace u1 := t156.cell ou u1
                replace u2 := t156.cell ou u2
                replace ou := t156.off ou lu
                replace lu := lt_of_cell u0
                replace v0 := t156.cell ov v0
                replace v1 := t156.cell ov v1
                replace v2 := t156.cell ov v2
                replace ov := t156.off ov lv
                replace lv := lt_of_cell v0
                clear t156 h156 hA
                go_wp2_with fail
                refine (pCharge_at (k : Int) 1 w155 H156.out.inn HWk.out rfl).mono ?_
                rintro e w157 ⟨rfl, hA⟩
                rw [Q6.out]
                rw [charge_no Q6.out (by decide)] at hA
                obtain ⟨F158, h158, t158⟩ := H156.out.step hA
                have H158 := Lib.hid (show TW w t s w157 F158 from h158)
                replace g0 := t158.cell og g0
                replace g1 := t158.cell og g1
                replace g2 := t158.cell og g2
                replace og := t158.off og lg
                replace lg := lt_of_cell g0
                replace y0 := t158.cell oy y0
                replace y1 := t158.cell oy y1
                replace y2 := t158.cell oy y2
                replace oy := t158.off oy ly
                replace ly := lt_of_cell y0
                replace u0 := t158.cell ou u0
                replace u1 := t158.cell ou u1
                replace u2 := t158.cell ou u2
                replace ou := t158.off ou lu
                replace lu := lt_of_cell u0
                replace v0 := t158.cell ov v0
                replace v1 := t158.cell ov v1
                replace v2 := t158.cell ov v2
                replace ov := t158.off ov lv
                replace lv := lt_of_cell v0
                clear t158 h158 hA
                go_wp2_with fail
                refine (pWeigh_at (k : Int) 1 w157 H158.out.inn HWk.out rfl).mono ?_
                rintro e w159 ⟨rfl, hA⟩
                rw [Q7.out.2]
                rw [Q7.out.1] at hA
                obtain ⟨F160, h160, t160⟩ := H158.out.step hA
                have H160 := Lib.hid (show TW w t s w159 F160 from h160)
                replace g0 := t160.cell og g0
                replace g1 := t160.cell og g1
                replace g2 := t160.cell og g2
                replace og := t160.off og lg
                replace lg := lt_of_cell g0
                replace y0 := t160.cell oy y0
                replace y1 := t160.cell oy y1
                replace y2 := t160.cell oy y2
                replace oy := t160.off oy ly
                replace ly := lt_of_cell y0
                replace u0 := t160.cell ou u0
                replace u1 := t160.cell ou u1
                replace u2 := t160.cell ou u2
                replace ou := t160.off ou lu
                replace lu := lt_of_cell u0
                replace v0 := t160.cell ov v0
                replace v1 := t160.cell ov v1
                replace v2 := t160.cell ov v2
                replace ov := t160.off ov lv
                replace lv := lt_of_cell v0
                clear t160 h160 hA
                go_wp2_with fail
                go_roundw
                case rel => exact ⟨k + 1, _, by omega, by go_num, H160.out, og, g0, g1, g2⟩
                case measure => simp [intOf]; omega
            · have zz : decide ((k : Int) ≤ 12) = false := decide_eq_false (by omega)
              have Q1 := Lib.hid (regroup_no (s := s) (g := 0) (k := 1) (by simp))
              have Q2 := Lib.hid (show playC s [] = 2 by unfold playC; rw [if_neg fun q => by have := q.1; have := HNS.out; simp at *; omega])
              have Q3 := Lib.hid (show playS s [] = s by unfold playS; rw [if_neg (by rw [Q2.out]; decide)])
              clear hlt hk
              go_wp2_with fail
              refine (pRegroup_at 0 1 wr HI.out.inn rfl).mono ?_
              rintro e w161 ⟨rfl, hA⟩
              rw [Q1.out.1]
              rw [Q1.out.2] at hA
              obtain ⟨F162, h162, t162⟩ := HI.out.step hA
              have H162 := Lib.hid (show TW w t s w161 F162 from h162)
              replace g0 := t162.cell og g0
              replace g1 := t162.cell og g1
              replace g2 := t162.cell og g2
              replace og := t162.off og lg
              replace lg := lt_of_cell g0
              clear t162 h162 hA
              go_wp2_with fail
              refine (pLay_at (.slice none 0 0) [] w161 H162.out.inn ⟨none, 0, rfl, Nat.le_refl _, by decide, fun _ => rfl, Or.inl rfl⟩ (fun x hx => by cases hx)).mono ?_
              rintro e w163 ⟨rfl, hA⟩
              rw [Q2.out]
              rw [Q3.out] at hA
              obtain ⟨F164, h164, t164⟩ := H162.out.step hA
              have H164 := Lib.hid (show TW w t s w163 F164 from h164)
              replace g0 := t164.cell og g0
              replace g1 := t164.cell og g1
              replace g2 := t164.cell og g2
              replace og := t164.off og lg
              replace lg := lt_of_cell g0
              clear t164 h164 hA
              go_wp2_with fail
              refine (AL.out w163 _ H164.out.inn).mono ?_
              rintro e w165 ⟨rfl, hb⟩
              have t166 : Step F164 w163 F164 w165 := Step.of hb
              have H166 := Lib.hid (H164.out.later hb)
              replace g0 := t166.cell og g0
              replace g1 := t166.cell og g1
              replace g2 := t166.cell og g2
              replace og := t166.off og lg
              replace lg := lt_of_cell g0
              clear t166
              clear hb
              go_wp2_with fail
              refine (AC.out w165 _ H166.out.inn).mono ?_
              rintro e w_ ⟨rfl, rfl⟩
              go_wp2_with fail
              refine (AW.out w165).mono ?_
              rintro e w9 ⟨rfl, hb9⟩
              have HB9 := Lib.hid (Below.step H166.out.bel hb9)
              clear hb9
              go_wp2_with fail
              go_ret
              exact ⟨rfl, HB9.out⟩
end Go.Proofs.YtfgmglghlapbcaaGreat
