/-
  ChargeWrong: the walk of the law, by the contracts of the package.
-/
import Derived.Test.YtbddiagnijcmhaaChargeC
import Derived.OpenShut
import Derived.Deep.DeepCutAuto
namespace Go.Proofs.Ytbddiagnijcmhaa
open Go.RowKit Go.Shelf
set_option linter.unusedVariables false
theorem fits_ofW {v r c : Int} (g0 : (Lit.int .u64 v).wf = true) (g1 : (Lit.int .u32 r).wf = true) (g2 : (Lit.int .u32 c).wf = true) : Ch.Fits v r c := by
  have := bounds_u64 g0
  have := bounds_u32 g1
  have := bounds_u32 g2
  unfold Ch.Fits
  omega
/-- n entities that are not right -/
def BadRow (B n : Nat) (w : World) : Prop := ∀ k : Nat, k < n → ∃ v r c : Int, Ch.Fits v r c ∧ ¬ Ch.Ok v r c ∧ w.cell? ⟨B, k * 3, none⟩ = some (.int .u64 v) ∧ w.cell? ⟨B, k * 3 + 1, none⟩ = some (.int .u32 r) ∧ w.cell? ⟨B, k * 3 + 2, none⟩ = some (.int .u32 c)
theorem BadRow.carry {B n : Nat} {w w' : World} (h : BadRow B n w) (hb : Below w.heap.size w w') : BadRow B n w' := fun k hk => by
  obtain ⟨v, r, c, h1, h2, h3, h4, h5⟩ := h k hk
  exact ⟨v, r, c, h1, h2, cell_later hb h3, cell_later hb h4, cell_later hb h5⟩
theorem badRow_mk {w : World} {B : Nat} (hB : B = w.heap.size) {t : TypeId} {v0 r0 c0 v1 r1 c1 v2 r2 c2 v3 r3 c3 : Int} (h0 : Ch.Fits v0 r0 c0 ∧ ¬ Ch.Ok v0 r0 c0) (h1 : Ch.Fits v1 r1 c1 ∧ ¬ Ch.Ok v1 r1 c1) (h2 : Ch.Fits v2 r2 c2 ∧ ¬ Ch.Ok v2 r2 c2) (h3 : Ch.Fits v3 r3 c3 ∧ ¬ Ch.Ok v3 r3 c3) :
    BadRow B 4 (w.alloc (.cells #[.int .u64 v0, .int .u32 r0, .int .u32 c0, .int .u64 v1, .int .u32 r1, .int .u32 c1, .int .u64 v2, .int .u32 r2, .int .u32 c2, .int .u64 v3, .int .u32 r3, .int .u32 c3] t)) := fun k hk => by
  subst hB
  match k, hk with
  | 0, _ => exact ⟨v0, r0, c0, h0.1, h0.2, cell_nw _ _ _ _ _ rfl, cell_nw _ _ _ _ _ rfl, cell_nw _ _ _ _ _ rfl⟩
  | 1, _ => exact ⟨v1, r1, c1, h1.1, h1.2, cell_nw _ _ _ _ _ rfl, cell_nw _ _ _ _ _ rfl, cell_nw _ _ _ _ _ rfl⟩
  | 2, _ => exact ⟨v2, r2, c2, h2.1, h2.2, cell_nw _ _ _ _ _ rfl, cell_nw _ _ _ _ _ rfl, cell_nw _ _ _ _ _ rfl⟩
  | 3, _ => exact ⟨v3, r3, c3, h3.1, h3.2, cell_nw _ _ _ _ _ rfl, cell_nw _ _ _ _ _ rfl, cell_nw _ _ _ _ _ rfl⟩
/-- two integers, each outside of some bounds -/
def OutRow (lo hi : Int) (B : Nat) (w : World) : Prop := ∀ k : Nat, k < 2 → ∃ a : Int, -9223372036854775808 ≤ a ∧ a ≤ 9223372036854775807 ∧ ¬ (lo ≤ a ∧ a ≤ hi) ∧ w.cell? ⟨B, k, none⟩ = some (.int .i64 a)
theorem OutRow.carry {lo hi : Int} {B : Nat} {w w' : World} (h : OutRow lo hi B w) (hb : Below w.heap.size w w') : OutRow lo hi B w' := fun k hk => by
  obtain ⟨a, h1, h2, h3, h4⟩ := h k hk
  exact ⟨a, h1, h2, h3, cell_later hb h4⟩
theorem outRow_mk {lo hi : Int} {w : World} {B : Nat} (hB : B = w.heap.size) {t : TypeId} {a b : Int} (ha : (-9223372036854775808 ≤ a ∧ a ≤ 9223372036854775807) ∧ ¬ (lo ≤ a ∧ a ≤ hi)) (hb : (-9223372036854775808 ≤ b ∧ b ≤ 9223372036854775807) ∧ ¬ (lo ≤ b ∧ b ≤ hi)) :
    OutRow lo hi B (w.alloc (.cells #[.int .i64 a, .int .i64 b] t)) := fun k hk => by
  subst hB
  match k, hk with
  | 0, _ => exact ⟨a, ha.1.1, ha.1.2, ha.2, cell_nw _ _ _ _ _ rfl⟩
  | 1, _ => exact ⟨b, hb.1.1, hb.1.2, hb.2, cell_nw _ _ _ _ _ rfl⟩
theorem rdE_two {w : World} {B : Nat} {v r c v2 r2 c2 : Int} (h0 : w.cell? ⟨B, 0, none⟩ = some (.int .u64 v)) (h1 : w.cell? ⟨B, 1, none⟩ = some (.int .u32 r)) (h2 : w.cell? ⟨B, 2, none⟩ = some (.int .u32 c))
    (h3 : w.cell? ⟨B, 3, none⟩ = some (.int .u64 v2)) (h4 : w.cell? ⟨B, 4, none⟩ = some (.int .u32 r2)) (h5 : w.cell? ⟨B, 5, none⟩ = some (.int .u32 c2)) : RdE w (some ⟨B, 0, none⟩) [(v, r, c), (v2, r2, c2)] :=
  Or.inr ⟨B, 0, rfl, fun k x hk => by
    match k, hk with
    | 0, hk => simp only [List.getElem?_cons_zero, Option.some.injEq] at hk; subst hk; exact ⟨h0, h1, h2⟩
    | 1, hk => simp only [List.getElem?_cons_succ, List.getElem?_cons_zero, Option.some.injEq] at hk; subst hk; exact ⟨h3, h4, h5⟩
    | k + 2, hk => simp at hk⟩
theorem Chain_two_bad (v r c v2 r2 c2 : Int) (B : Nat) (w : World) (hf : Ch.Fits v r c) (hf2 : Ch.Fits v2 r2 c2) (hn : ¬ Ch.Ok v2 r2 c2) (hr : RdE w (some ⟨B, 0, none⟩) [(v, r, c), (v2, r2, c2)]) :
    Calls Try.prog 21 #[.slice (some ⟨B, 0, none⟩) 2 2, .int .i64 1] w fun e w' => e = .returned (.tuple #[.slice none 0 0, .int .i64 2]) ∧ Below w.heap.size w w' := by
  refine (Chain_any [(v, r, c), (v2, r2, c2)] 1 (some ⟨B, 0, none⟩) 2 w (by simp) ?_ hr).mono ?_
  · intro x hx
    simp only [List.mem_cons, List.not_mem_nil, or_false] at hx
    rcases hx with rfl | rfl
    · exact hf
    · exact hf2
  · rintro e w' ⟨hb, h⟩
    rcases h with ⟨hA, _⟩ | ⟨_, rfl⟩
    · exact absurd (hA.1 (v2, r2, c2) (by simp)).1 hn
    · exact ⟨rfl, hb⟩
theorem Chain_nil_bad (t : Int) (w : World) (ht : ¬ (0 ≤ t ∧ t ≤ 4294967295)) :
    Calls Try.prog 21 #[.slice none 0 0, .int .i64 t] w fun e w' => e = .returned (.tuple #[.slice none 0 0, .int .i64 2]) ∧ Below w.heap.size w w' := by
  refine (Chain_any [] t none 0 w (by simp) (fun x hx => absurd hx List.not_mem_nil) (Or.inl rfl)).mono ?_
  rintro e w' ⟨hb, h⟩
  rcases h with ⟨hA, _⟩ | ⟨_, rfl⟩
  · exact absurd hA.2 ht
  · exact ⟨rfl, hb⟩
set_option maxRecDepth 100000 in
set_option maxHeartbeats 4000000 in
theorem ChargeWrong_true (v r n t q : Int) (g0 : (Lit.int .u64 v).wf = true) (g1 : (Lit.int .u32 r).wf = true) (g2 : (Lit.int .u32 n).wf = true) (g3 : (Lit.int .i64 t).wf = true) (g4 : (Lit.int .i64 q).wf = true) (w : World) :
    Calls Try.prog 11 #[.agg #[.int .u64 v, .int .u32 r, .int .u32 n], .int .i64 t, .int .i64 q] w fun e w' => e = .returned (.bool true) ∧ Below w.heap.size w w' := by
  have b0 := bounds_u64 g0
  have b1 := bounds_u32 g1
  have b2 := bounds_u32 g2
  have b3 := bounds_i64 g3
  have b4 := bounds_i64 g4
  clear g0 g1 g2 g3 g4
  obtain ⟨rr, c, hx, -, -, M⟩ := Made_ex v r n b0 b1 b2
  have A0 := Lib.hid M
  have HX := Lib.hid hx
  obtain ⟨x1, x2, x3, x4, x5, x6, _⟩ := hx
  clear M
  go_enter Try.func11, Try.ntmps11
  go_wp2_with fail
  refine (A0.out _).mono ?_; rintro e w1 ⟨rfl, hb1⟩
  have x0 : w1.cell? ⟨w.heap.size, 0, none⟩ = some (.int .u64 v) := by first | exact cell_later hb1 (cell_nw _ _ _ 0 _ rfl) | exact cell_later hb1 (cell_al _ (cell_nw _ _ _ 0 _ rfl)) | exact cell_later hb1 (cell_al _ (cell_al _ (cell_nw _ _ _ 0 _ rfl))) | exact cell_later hb1 (cell_dr (cell_nw _ _ _ 0 _ rfl)) | exact cell_later hb1 (cell_dr (cell_al _ (cell_nw _ _ _ 0 _ rfl))) | exact cell_later hb1 (cell_drN _ (cell_nw _ _ _ 0 _ rfl)) | exact cell_later hb1 (cell_drN _ (cell_al _ (cell_nw _ _ _ 0 _ rfl)))
  have x1 : w1.cell? ⟨w.heap.size, 1, none⟩ = some (.int .u32 r) := by first | exact cell_later hb1 (cell_nw _ _ _ 1 _ rfl) | exact cell_later hb1 (cell_al _ (cell_nw _ _ _ 1 _ rfl)) | exact cell_later hb1 (cell_al _ (cell_al _ (cell_nw _ _ _ 1 _ rfl))) | exact cell_later hb1 (cell_dr (cell_nw _ _ _ 1 _ rfl)) | exact cell_later hb1 (cell_dr (cell_al _ (cell_nw _ _ _ 1 _ rfl))) | exact cell_later hb1 (cell_drN _ (cell_nw _ _ _ 1 _ rfl)) | exact cell_later hb1 (cell_drN _ (cell_al _ (cell_nw _ _ _ 1 _ rfl)))
  have x2 : w1.cell? ⟨w.heap.size, 2, none⟩ = some (.int .u32 n) := by first | exact cell_later hb1 (cell_nw _ _ _ 2 _ rfl) | exact cell_later hb1 (cell_al _ (cell_nw _ _ _ 2 _ rfl)) | exact cell_later hb1 (cell_al _ (cell_al _ (cell_nw _ _ _ 2 _ rfl))) | exact cell_later hb1 (cell_dr (cell_nw _ _ _ 2 _ rfl)) | exact cell_later hb1 (cell_dr (cell_al _ (cell_nw _ _ _ 2 _ rfl))) | exact cell_later hb1 (cell_drN _ (cell_nw _ _ _ 2 _ rfl)) | exact cell_later hb1 (cell_drN _ (cell_al _ (cell_nw _ _ _ 2 _ rfl)))
  have x0_1 := fun o1 => cell_al o1 (x0)
  have x0_2 := fun o1 o2 => cell_al o2 (cell_al o1 (x0))
  have x1_1 := fun o1 => cell_al o1 (x1)
  have x1_2 := fun o1 o2 => cell_al o2 (cell_al o1 (x1))
  have x2_1 := fun o1 => cell_al o1 (x2)
  have x2_2 := fun o1 o2 => cell_al o2 (cell_al o1 (x2))
  go_upto_region 2 with fail
  go_cut [8] (fun s8 wx => ∃ B : Nat, s8 = .slice (some ⟨B, 0, none⟩) 4 4 ∧ Below w.heap.size w wx ∧ BadRow B 4 wx ∧ wx.cell? ⟨w1.heap.size, 0, none⟩ = some (.int .u64 v) ∧ wx.cell? ⟨w1.heap.size, 1, none⟩ = some (.int .u32 rr) ∧ wx.cell? ⟨w1.heap.size, 2, none⟩ = some (.int .u32 c))
  case first =>
    go_wp2_with fail
    all_goals go_meet
    all_goals
      case rel =>
        refine ⟨_, rfl, ?_, badRow_mk (by simp) ?_ ?_ ?_ ?_, cell_al _ (cell_nw _ _ _ _ _ rfl), cell_al _ (cell_nw _ _ _ _ _ rfl), cell_al _ (cell_nw _ _ _ _ _ rfl)⟩
        · repeat (first | exact Below.refl _ _ | refine Below.step ?_ (by assumption) | refine Below.setCell ?_ (by first | (simp; done) | (simp; omega) | omega) _ | refine Below.allocS ?_ _ | refine Below.drew ?_ | refine below_drewN ?_ _)
        all_goals (unfold Ch.Fits Ch.Ok; omega)
  case rest =>
    obtain ⟨B, rfl, hb0, hbad, p0, p1, p2⟩ := hcut
    go_wp2_with fail
    go_loopw [69] (fun s wr => ∃ k : Nat, k ≤ 4 ∧ s = .int .i64 k ∧ Below wc.heap.size wc wr) (fun s _ => 4 - (intOf s).toNat)
    case atStart => exact ⟨0, by omega, rfl, Below.refl _ _⟩
    case round =>
      obtain ⟨k1, hk1, rfl, hb⟩ := hrel
      by_cases hlt : k1 < 4
      · have z1 : decide ((k1 : Int) < 4) = true := by simp; omega
        obtain ⟨vy, ry, cy, hfy, hny, q0, q1, q2⟩ := (hbad.carry hb) k1 hlt
        have A1 := Lib.hid fun W => Add_bad vy ry cy 1 W hfy (fun h => hny h.1)
        have A2 := Lib.hid fun W => Until_bad vy ry cy 0 W hfy hny
        have A3 := Lib.hid fun W => Weigh_bad vy ry cy 1 W hfy (fun h => hny h.1)
        have A4 := Lib.hid fun W => Less_bad v rr c vy ry cy W HX.out.fits hfy (fun h => hny h.2)
        have A5 := Lib.hid fun W => Less_bad vy ry cy v rr c W hfy HX.out.fits (fun h => hny h.1)
        have A6 := Lib.hid fun W B h => Chain_two_bad v rr c vy ry cy B W HX.out.fits hfy hny h
        have A7 := Lib.hid fun W => right_no vy ry cy W hfy hny
        clear hfy hny
        obtain ⟨wo, rfl⟩ : ∃ wo : World, wo = wr := ⟨_, rfl⟩
        replace p0 : wo.cell? ⟨w1.heap.size, 0, none⟩ = some (.int .u64 v) := by first | exact cell_later hb (p0) | exact cell_later hb (cell_al _ (p0)) | exact cell_later hb (cell_al _ (cell_al _ (p0))) | exact cell_later hb (cell_dr (p0)) | exact cell_later hb (cell_dr (cell_al _ (p0))) | exact cell_later hb (cell_drN _ (p0)) | exact cell_later hb (cell_drN _ (cell_al _ (p0)))
        replace p1 : wo.cell? ⟨w1.heap.size, 1, none⟩ = some (.int .u32 rr) := by first | exact cell_later hb (p1) | exact cell_later hb (cell_al _ (p1)) | exact cell_later hb (cell_al _ (cell_al _ (p1))) | exact cell_later hb (cell_dr (p1)) | exact cell_later hb (cell_dr (cell_al _ (p1))) | exact cell_later hb (cell_drN _ (p1)) | exact cell_later hb (cell_drN _ (cell_al _ (p1)))
        replace p2 : wo.cell? ⟨w1.heap.size, 2, none⟩ = some (.int .u32 c) := by first | exact cell_later hb (p2) | exact cell_later hb (cell_al _ (p2)) | exact cell_later hb (cell_al _ (cell_al _ (p2))) | exact cell_later hb (cell_dr (p2)) | exact cell_later hb (cell_dr (cell_al _ (p2))) | exact cell_later hb (cell_drN _ (p2)) | exact cell_later hb (cell_drN _ (cell_al _ (p2)))
        have p0_1 := fun o1 => cell_al o1 (p0)
        have p0_2 := fun o1 o2 => cell_al o2 (cell_al o1 (p0))
        have p1_1 := fun o1 => cell_al o1 (p1)
        have p1_2 := fun o1 o2 => cell_al o2 (cell_al o1 (p1))
        have p2_1 := fun o1 => cell_al o1 (p2)
        have p2_2 := fun o1 o2 => cell_al o2 (cell_al o1 (p2))
        go_wp2_with fail
        refine (A1.out _).mono ?_; rintro e w2 ⟨rfl, hb2⟩
        clear p0_1 p0_2 p1_1 p1_2 p2_1 p2_2
        replace p0 : w2.cell? ⟨w1.heap.size, 0, none⟩ = some (.int .u64 v) := by first | exact cell_later hb2 (p0) | exact cell_later hb2 (cell_al _ (p0)) | exact cell_later hb2 (cell_al _ (cell_al _ (p0))) | exact cell_later hb2 (cell_dr (p0)) | exact cell_later hb2 (cell_dr (cell_al _ (p0))) | exact cell_later hb2 (cell_drN _ (p0)) | exact cell_later hb2 (cell_drN _ (cell_al _ (p0)))
        replace p1 : w2.cell? ⟨w1.heap.size, 1, none⟩ = some (.int .u32 rr) := by first | exact cell_later hb2 (p1) | exact cell_later hb2 (cell_al _ (p1)) | exact cell_later hb2 (cell_al _ (cell_al _ (p1))) | exact cell_later hb2 (cell_dr (p1)) | exact cell_later hb2 (cell_dr (cell_al _ (p1))) | exact cell_later hb2 (cell_drN _ (p1)) | exact cell_later hb2 (cell_drN _ (cell_al _ (p1)))
        replace p2 : w2.cell? ⟨w1.heap.size, 2, none⟩ = some (.int .u32 c) := by first | exact cell_later hb2 (p2) | exact cell_later hb2 (cell_al _ (p2)) | exact cell_later hb2 (cell_al _ (cell_al _ (p2))) | exact cell_later hb2 (cell_dr (p2)) | exact cell_later hb2 (cell_dr (cell_al _ (p2))) | exact cell_later hb2 (cell_drN _ (p2)) | exact cell_later hb2 (cell_drN _ (cell_al _ (p2)))
        have y0 : w2.cell? ⟨wo.heap.size, 0, none⟩ = some (.int .u64 vy) := by first | exact cell_later hb2 (cell_nw _ _ _ 0 _ rfl) | exact cell_later hb2 (cell_al _ (cell_nw _ _ _ 0 _ rfl)) | exact cell_later hb2 (cell_al _ (cell_al _ (cell_nw _ _ _ 0 _ rfl))) | exact cell_later hb2 (cell_dr (cell_nw _ _ _ 0 _ rfl)) | exact cell_later hb2 (cell_dr (cell_al _ (cell_nw _ _ _ 0 _ rfl))) | exact cell_later hb2 (cell_drN _ (cell_nw _ _ _ 0 _ rfl)) | exact cell_later hb2 (cell_drN _ (cell_al _ (cell_nw _ _ _ 0 _ rfl)))
        have y1 : w2.cell? ⟨wo.heap.size, 1, none⟩ = some (.int .u32 ry) := by first | exact cell_later hb2 (cell_nw _ _ _ 1 _ rfl) | exact cell_later hb2 (cell_al _ (cell_nw _ _ _ 1 _ rfl)) | exact cell_later hb2 (cell_al _ (cell_al _ (cell_nw _ _ _ 1 _ rfl))) | exact cell_later hb2 (cell_dr (cell_nw _ _ _ 1 _ rfl)) | exact cell_later hb2 (cell_dr (cell_al _ (cell_nw _ _ _ 1 _ rfl))) | exact cell_later hb2 (cell_drN _ (cell_nw _ _ _ 1 _ rfl)) | exact cell_later hb2 (cell_drN _ (cell_al _ (cell_nw _ _ _ 1 _ rfl)))
        have y2 : w2.cell? ⟨wo.heap.size, 2, none⟩ = some (.int .u32 cy) := by first | exact cell_later hb2 (cell_nw _ _ _ 2 _ rfl) | exact cell_later hb2 (cell_al _ (cell_nw _ _ _ 2 _ rfl)) | exact cell_later hb2 (cell_al _ (cell_al _ (cell_nw _ _ _ 2 _ rfl))) | exact cell_later hb2 (cell_dr (cell_nw _ _ _ 2 _ rfl)) | exact cell_later hb2 (cell_dr (cell_al _ (cell_nw _ _ _ 2 _ rfl))) | exact cell_later hb2 (cell_drN _ (cell_nw _ _ _ 2 _ rfl)) | exact cell_later hb2 (cell_drN _ (cell_al _ (cell_nw _ _ _ 2 _ rfl)))
        have p0_1 := fun o1 => cell_al o1 (p0)
        have p0_2 := fun o1 o2 => cell_al o2 (cell_al o1 (p0))
        have p1_1 := fun o1 => cell_al o1 (p1)
        have p1_2 := fun o1 o2 => cell_al o2 (cell_al o1 (p1))
        have p2_1 := fun o1 => cell_al o1 (p2)
        have p2_2 := fun o1 o2 => cell_al o2 (cell_al o1 (p2))
        have y0_1 := fun o1 => cell_al o1 (y0)
        have y0_2 := fun o1 o2 => cell_al o2 (cell_al o1 (y0))
        have y1_1 := fun o1 => cell_al o1 (y1)
        have y1_2 := fun o1 o2 => cell_al o2 (cell_al o1 (y1))
        have y2_1 := fun o1 => cell_al o1 (y2)
        have y2_2 := fun o1 o2 => cell_al o2 (cell_al o1 (y2))
        clear q0 q1 q2
        go_wp2_with fail
        refine (A2.out _).mono ?_; rintro e w3 ⟨rfl, hb3⟩
        clear p0_1 p0_2 p1_1 p1_2 p2_1 p2_2 y0_1 y0_2 y1_1 y1_2 y2_1 y2_2
        replace p0 : w3.cell? ⟨w1.heap.size, 0, none⟩ = some (.int .u64 v) := by first | exact cell_later hb3 (p0) | exact cell_later hb3 (cell_al _ (p0)) | exact cell_later hb3 (cell_al _ (cell_al _ (p0))) | exact cell_later hb3 (cell_dr (p0)) | exact cell_later hb3 (cell_dr (cell_al _ (p0))) | exact cell_later hb3 (cell_drN _ (p0)) | exact cell_later hb3 (cell_drN _ (cell_al _ (p0)))
        replace p1 : w3.cell? ⟨w1.heap.size, 1, none⟩ = some (.int .u32 rr) := by first | exact cell_later hb3 (p1) | exact cell_later hb3 (cell_al _ (p1)) | exact cell_later hb3 (cell_al _ (cell_al _ (p1))) | exact cell_later hb3 (cell_dr (p1)) | exact cell_later hb3 (cell_dr (cell_al _ (p1))) | exact cell_later hb3 (cell_drN _ (p1)) | exact cell_later hb3 (cell_drN _ (cell_al _ (p1)))
        replace p2 : w3.cell? ⟨w1.heap.size, 2, none⟩ = some (.int .u32 c) := by first | exact cell_later hb3 (p2) | exact cell_later hb3 (cell_al _ (p2)) | exact cell_later hb3 (cell_al _ (cell_al _ (p2))) | exact cell_later hb3 (cell_dr (p2)) | exact cell_later hb3 (cell_dr (cell_al _ (p2))) | exact cell_later hb3 (cell_drN _ (p2)) | exact cell_later hb3 (cell_drN _ (cell_al _ (p2)))
        replace y0 : w3.cell? ⟨wo.heap.size, 0, none⟩ = some (.int .u64 vy) := by first | exact cell_later hb3 (y0) | exact cell_later hb3 (cell_al _ (y0)) | exact cell_later hb3 (cell_al _ (cell_al _ (y0))) | exact cell_later hb3 (cell_dr (y0)) | exact cell_later hb3 (cell_dr (cell_al _ (y0))) | exact cell_later hb3 (cell_drN _ (y0)) | exact cell_later hb3 (cell_drN _ (cell_al _ (y0)))
        replace y1 : w3.cell? ⟨wo.heap.size, 1, none⟩ = some (.int .u32 ry) := by first | exact cell_later hb3 (y1) | exact cell_later hb3 (cell_al _ (y1)) | exact cell_later hb3 (cell_al _ (cell_al _ (y1))) | exact cell_later hb3 (cell_dr (y1)) | exact cell_later hb3 (cell_dr (cell_al _ (y1))) | exact cell_later hb3 (cell_drN _ (y1)) | exact cell_later hb3 (cell_drN _ (cell_al _ (y1)))
        replace y2 : w3.cell? ⟨wo.heap.size, 2, none⟩ = some (.int .u32 cy) := by first | exact cell_later hb3 (y2) | exact cell_later hb3 (cell_al _ (y2)) | exact cell_later hb3 (cell_al _ (cell_al _ (y2))) | exact cell_later hb3 (cell_dr (y2)) | exact cell_later hb3 (cell_dr (cell_al _ (y2))) | exact cell_later hb3 (cell_drN _ (y2)) | exact cell_later hb3 (cell_drN _ (cell_al _ (y2)))
        have p0_1 := fun o1 => cell_al o1 (p0)
        have p0_2 := fun o1 o2 => cell_al o2 (cell_al o1 (p0))
        have p1_1 := fun o1 => cell_al o1 (p1)
        have p1_2 := fun o1 o2 => cell_al o2 (cell_al o1 (p1))
        have p2_1 := fun o1 => cell_al o1 (p2)
        have p2_2 := fun o1 o2 => cell_al o2 (cell_al o1 (p2))
        have y0_1 := fun o1 => cell_al o1 (y0)
        have y0_2 := fun o1 o2 => cell_al o2 (cell_al o1 (y0))
        have y1_1 := fun o1 => cell_al o1 (y1)
        have y1_2 := fun o1 o2 => cell_al o2 (cell_al o1 (y1))
        have y2_1 := fun o1 => cell_al o1 (y2)
        have y2_2 := fun o1 o2 => cell_al o2 (cell_al o1 (y2))
        go_wp2_with fail
        refine (A3.out _).mono ?_; rintro e w4 ⟨rfl, hb4⟩
        clear p0_1 p0_2 p1_1 p1_2 p2_1 p2_2 y0_1 y0_2 y1_1 y1_2 y2_1 y2_2
        replace p0 : w4.cell? ⟨w1.heap.size, 0, none⟩ = some (.int .u64 v) := by first | exact cell_later hb4 (p0) | exact cell_later hb4 (cell_al _ (p0)) | exact cell_later hb4 (cell_al _ (cell_al _ (p0))) | exact cell_later hb4 (cell_dr (p0)) | exact cell_later hb4 (cell_dr (cell_al _ (p0))) | exact cell_later hb4 (cell_drN _ (p0)) | exact cell_later hb4 (cell_drN _ (cell_al _ (p0)))
        replace p1 : w4.cell? ⟨w1.heap.size, 1, none⟩ = some (.int .u32 rr) := by first | exact cell_later hb4 (p1) | exact cell_later hb4 (cell_al _ (p1)) | exact cell_later hb4 (cell_al _ (cell_al _ (p1))) | exact cell_later hb4 (cell_dr (p1)) | exact cell_later hb4 (cell_dr (cell_al _ (p1))) | exact cell_later hb4 (cell_drN _ (p1)) | exact cell_later hb4 (cell_drN _ (cell_al _ (p1)))
        replace p2 : w4.cell? ⟨w1.heap.size, 2, none⟩ = some (.int .u32 c) := by first | exact cell_later hb4 (p2) | exact cell_later hb4 (cell_al _ (p2)) | exact cell_later hb4 (cell_al _ (cell_al _ (p2))) | exact cell_later hb4 (cell_dr (p2)) | exact cell_later hb4 (cell_dr (cell_al _ (p2))) | exact cell_later hb4 (cell_drN _ (p2)) | exact cell_later hb4 (cell_drN _ (cell_al _ (p2)))
        replace y0 : w4.cell? ⟨wo.heap.size, 0, none⟩ = some (.int .u64 vy) := by first | exact cell_later hb4 (y0) | exact cell_later hb4 (cell_al _ (y0)) | exact cell_later hb4 (cell_al _ (cell_al _ (y0))) | exact cell_later hb4 (cell_dr (y0)) | exact cell_later hb4 (cell_dr (cell_al _ (y0))) | exact cell_later hb4 (cell_drN _ (y0)) | exact cell_later hb4 (cell_drN _ (cell_al _ (y0)))
        replace y1 : w4.cell? ⟨wo.heap.size, 1, none⟩ = some (.int .u32 ry) := by first | exact cell_later hb4 (y1) | exact cell_later hb4 (cell_al _ (y1)) | exact cell_later hb4 (cell_al _ (cell_al _ (y1))) | exact cell_later hb4 (cell_dr (y1)) | exact cell_later hb4 (cell_dr (cell_al _ (y1))) | exact cell_later hb4 (cell_drN _ (y1)) | exact cell_later hb4 (cell_drN _ (cell_al _ (y1)))
        replace y2 : w4.cell? ⟨wo.heap.size, 2, none⟩ = some (.int .u32 cy) := by first | exact cell_later hb4 (y2) | exact cell_later hb4 (cell_al _ (y2)) | exact cell_later hb4 (cell_al _ (cell_al _ (y2))) | exact cell_later hb4 (cell_dr (y2)) | exact cell_later hb4 (cell_dr (cell_al _ (y2))) | exact cell_later hb4 (cell_drN _ (y2)) | exact cell_later hb4 (cell_drN _ (cell_al _ (y2)))
        have p0_1 := fun o1 => cell_al o1 (p0)
        have p0_2 := fun o1 o2 => cell_al o2 (cell_al o1 (p0))
        have p1_1 := fun o1 => cell_al o1 (p1)
        have p1_2 := fun o1 o2 => cell_al o2 (cell_al o1 (p1))
        have p2_1 := fun o1 => cell_al o1 (p2)
        have p2_2 := fun o1 o2 => cell_al o2 (cell_al o1 (p2))
        have y0_1 := fun o1 => cell_al o1 (y0)
        have y0_2 := fun o1 o2 => cell_al o2 (cell_al o1 (y0))
        have y1_1 := fun o1 => cell_al o1 (y1)
        have y1_2 := fun o1 o2 => cell_al o2 (cell_al o1 (y1))
        have y2_1 := fun o1 => cell_al o1 (y2)
        have y2_2 := fun o1 o2 => cell_al o2 (cell_al o1 (y2))
        go_wp2_with fail
        refine (A4.out _).mono ?_; rintro e w5 ⟨rfl, hb5⟩
        clear p0_1 p0_2 p1_1 p1_2 p2_1 p2_2 y0_1 y0_2 y1_1 y1_2 y2_1 y2_2
        replace p0 : w5.cell? ⟨w1.heap.size, 0, none⟩ = some (.int .u64 v) := by first | exact cell_later hb5 (p0) | exact cell_later hb5 (cell_al _ (p0)) | exact cell_later hb5 (cell_al _ (cell_al _ (p0))) | exact cell_later hb5 (cell_dr (p0)) | exact cell_later hb5 (cell_dr (cell_al _ (p0))) | exact cell_later hb5 (cell_drN _ (p0)) | exact cell_later hb5 (cell_drN _ (cell_al _ (p0)))
        replace p1 : w5.cell? ⟨w1.heap.size, 1, none⟩ = some (.int .u32 rr) := by first | exact cell_later hb5 (p1) | exact cell_later hb5 (cell_al _ (p1)) | exact cell_later hb5 (cell_al _ (cell_al _ (p1))) | exact cell_later hb5 (cell_dr (p1)) | exact cell_later hb5 (cell_dr (cell_al _ (p1))) | exact cell_later hb5 (cell_drN _ (p1)) | exact cell_later hb5 (cell_drN _ (cell_al _ (p1)))
        replace p2 : w5.cell? ⟨w1.heap.size, 2, none⟩ = some (.int .u32 c) := by first | exact cell_later hb5 (p2) | exact cell_later hb5 (cell_al _ (p2)) | exact cell_later hb5 (cell_al _ (cell_al _ (p2))) | exact cell_later hb5 (cell_dr (p2)) | exact cell_later hb5 (cell_dr (cell_al _ (p2))) | exact cell_later hb5 (cell_drN _ (p2)) | exact cell_later hb5 (cell_drN _ (cell_al _ (p2)))
        replace y0 : w5.cell? ⟨wo.heap.size, 0, none⟩ = some (.int .u64 vy) := by first | exact cell_later hb5 (y0) | exact cell_later hb5 (cell_al _ (y0)) | exact cell_later hb5 (cell_al _ (cell_al _ (y0))) | exact cell_later hb5 (cell_dr (y0)) | exact cell_later hb5 (cell_dr (cell_al _ (y0))) | exact cell_later hb5 (cell_drN _ (y0)) | exact cell_later hb5 (cell_drN _ (cell_al _ (y0)))
        replace y1 : w5.cell? ⟨wo.heap.size, 1, none⟩ = some (.int .u32 ry) := by first | exact cell_later hb5 (y1) | exact cell_later hb5 (cell_al _ (y1)) | exact cell_later hb5 (cell_al _ (cell_al _ (y1))) | exact cell_later hb5 (cell_dr (y1)) | exact cell_later hb5 (cell_dr (cell_al _ (y1))) | exact cell_later hb5 (cell_drN _ (y1)) | exact cell_later hb5 (cell_drN _ (cell_al _ (y1)))
        replace y2 : w5.cell? ⟨wo.heap.size, 2, none⟩ = some (.int .u32 cy) := by first | exact cell_later hb5 (y2) | exact cell_later hb5 (cell_al _ (y2)) | exact cell_later hb5 (cell_al _ (cell_al _ (y2))) | exact cell_later hb5 (cell_dr (y2)) | exact cell_later hb5 (cell_dr (cell_al _ (y2))) | exact cell_later hb5 (cell_drN _ (y2)) | exact cell_later hb5 (cell_drN _ (cell_al _ (y2)))
        have p0_1 := fun o1 => cell_al o1 (p0)
        have p0_2 := fun o1 o2 => cell_al o2 (cell_al o1 (p0))
        have p1_1 := fun o1 => cell_al o1 (p1)
        have p1_2 := fun o1 o2 => cell_al o2 (cell_al o1 (p1))
        have p2_1 := fun o1 => cell_al o1 (p2)
        have p2_2 := fun o1 o2 => cell_al o2 (cell_al o1 (p2))
        have y0_1 := fun o1 => cell_al o1 (y0)
        have y0_2 := fun o1 o2 => cell_al o2 (cell_al o1 (y0))
        have y1_1 := fun o1 => cell_al o1 (y1)
        have y1_2 := fun o1 o2 => cell_al o2 (cell_al o1 (y1))
        have y2_1 := fun o1 => cell_al o1 (y2)
        have y2_2 := fun o1 o2 => cell_al o2 (cell_al o1 (y2))
        go_wp2_with fail
        refine (A5.out _).mono ?_; rintro e w6 ⟨rfl, hb6⟩
        clear p0_1 p0_2 p1_1 p1_2 p2_1 p2_2 y0_1 y0_2 y1_1 y1_2 y2_1 y2_2
        replace p0 : w6.cell? ⟨w1.heap.size, 0, none⟩ = some (.int .u64 v) := by first | exact cell_later hb6 (p0) | exact cell_later hb6 (cell_al _ (p0)) | exact cell_later hb6 (cell_al _ (cell_al _ (p0))) | exact cell_later hb6 (cell_dr (p0)) | exact cell_later hb6 (cell_dr (cell_al _ (p0))) | exact cell_later hb6 (cell_drN _ (p0)) | exact cell_later hb6 (cell_drN _ (cell_al _ (p0)))
        replace p1 : w6.cell? ⟨w1.heap.size, 1, none⟩ = some (.int .u32 rr) := by first | exact cell_later hb6 (p1) | exact cell_later hb6 (cell_al _ (p1)) | exact cell_later hb6 (cell_al _ (cell_al _ (p1))) | exact cell_later hb6 (cell_dr (p1)) | exact cell_later hb6 (cell_dr (cell_al _ (p1))) | exact cell_later hb6 (cell_drN _ (p1)) | exact cell_later hb6 (cell_drN _ (cell_al _ (p1)))
        replace p2 : w6.cell? ⟨w1.heap.size, 2, none⟩ = some (.int .u32 c) := by first | exact cell_later hb6 (p2) | exact cell_later hb6 (cell_al _ (p2)) | exact cell_later hb6 (cell_al _ (cell_al _ (p2))) | exact cell_later hb6 (cell_dr (p2)) | exact cell_later hb6 (cell_dr (cell_al _ (p2))) | exact cell_later hb6 (cell_drN _ (p2)) | exact cell_later hb6 (cell_drN _ (cell_al _ (p2)))
        replace y0 : w6.cell? ⟨wo.heap.size, 0, none⟩ = some (.int .u64 vy) := by first | exact cell_later hb6 (y0) | exact cell_later hb6 (cell_al _ (y0)) | exact cell_later hb6 (cell_al _ (cell_al _ (y0))) | exact cell_later hb6 (cell_dr (y0)) | exact cell_later hb6 (cell_dr (cell_al _ (y0))) | exact cell_later hb6 (cell_drN _ (y0)) | exact cell_later hb6 (cell_drN _ (cell_al _ (y0)))
        replace y1 : w6.cell? ⟨wo.heap.size, 1, none⟩ = some (.int .u32 ry) := by first | exact cell_later hb6 (y1) | exact cell_later hb6 (cell_al _ (y1)) | exact cell_later hb6 (cell_al _ (cell_al _ (y1))) | exact cell_later hb6 (cell_dr (y1)) | exact cell_later hb6 (cell_dr (cell_al _ (y1))) | exact cell_later hb6 (cell_drN _ (y1)) | exact cell_later hb6 (cell_drN _ (cell_al _ (y1)))
        replace y2 : w6.cell? ⟨wo.heap.size, 2, none⟩ = some (.int .u32 cy) := by first | exact cell_later hb6 (y2) | exact cell_later hb6 (cell_al _ (y2)) | exact cell_later hb6 (cell_al _ (cell_al _ (y2))) | exact cell_later hb6 (cell_dr (y2)) | exact cell_later hb6 (cell_dr (cell_al _ (y2))) | exact cell_later hb6 (cell_drN _ (y2)) | exact cell_later hb6 (cell_drN _ (cell_al _ (y2)))
        have p0_1 := fun o1 => cell_al o1 (p0)
        have p0_2 := fun o1 o2 => cell_al o2 (cell_al o1 (p0))
        have p1_1 := fun o1 => cell_al o1 (p1)
        have p1_2 := fun o1 o2 => cell_al o2 (cell_al o1 (p1))
        have p2_1 := fun o1 => cell_al o1 (p2)
        have p2_2 := fun o1 o2 => cell_al o2 (cell_al o1 (p2))
        have y0_1 := fun o1 => cell_al o1 (y0)
        have y0_2 := fun o1 o2 => cell_al o2 (cell_al o1 (y0))
        have y1_1 := fun o1 => cell_al o1 (y1)
        have y1_2 := fun o1 o2 => cell_al o2 (cell_al o1 (y1))
        have y2_1 := fun o1 => cell_al o1 (y2)
        have y2_2 := fun o1 o2 => cell_al o2 (cell_al o1 (y2))
        go_wp2_with fail
        refine (A6.out _ _ (rdE_two (cell_nw _ _ _ _ _ rfl) (cell_nw _ _ _ _ _ rfl) (cell_nw _ _ _ _ _ rfl) (cell_nw _ _ _ _ _ rfl) (cell_nw _ _ _ _ _ rfl) (cell_nw _ _ _ _ _ rfl))).mono ?_; rintro e w7 ⟨rfl, hb7⟩
        clear p0_1 p0_2 p1_1 p1_2 p2_1 p2_2 y0_1 y0_2 y1_1 y1_2 y2_1 y2_2
        replace p0 : w7.cell? ⟨w1.heap.size, 0, none⟩ = some (.int .u64 v) := by first | exact cell_later hb7 (p0) | exact cell_later hb7 (cell_al _ (p0)) | exact cell_later hb7 (cell_al _ (cell_al _ (p0))) | exact cell_later hb7 (cell_dr (p0)) | exact cell_later hb7 (cell_dr (cell_al _ (p0))) | exact cell_later hb7 (cell_drN _ (p0)) | exact cell_later hb7 (cell_drN _ (cell_al _ (p0)))
        replace p1 : w7.cell? ⟨w1.heap.size, 1, none⟩ = some (.int .u32 rr) := by first | exact cell_later hb7 (p1) | exact cell_later hb7 (cell_al _ (p1)) | exact cell_later hb7 (cell_al _ (cell_al _ (p1))) | exact cell_later hb7 (cell_dr (p1)) | exact cell_later hb7 (cell_dr (cell_al _ (p1))) | exact cell_later hb7 (cell_drN _ (p1)) | exact cell_later hb7 (cell_drN _ (cell_al _ (p1)))
        replace p2 : w7.cell? ⟨w1.heap.size, 2, none⟩ = some (.int .u32 c) := by first | exact cell_later hb7 (p2) | exact cell_later hb7 (cell_al _ (p2)) | exact cell_later hb7 (cell_al _ (cell_al _ (p2))) | exact cell_later hb7 (cell_dr (p2)) | exact cell_later hb7 (cell_dr (cell_al _ (p2))) | exact cell_later hb7 (cell_drN _ (p2)) | exact cell_later hb7 (cell_drN _ (cell_al _ (p2)))
        replace y0 : w7.cell? ⟨wo.heap.size, 0, none⟩ = some (.int .u64 vy) := by first | exact cell_later hb7 (y0) | exact cell_later hb7 (cell_al _ (y0)) | exact cell_later hb7 (cell_al _ (cell_al _ (y0))) | exact cell_later hb7 (cell_dr (y0)) | exact cell_later hb7 (cell_dr (cell_al _ (y0))) | exact cell_later hb7 (cell_drN _ (y0)) | exact cell_later hb7 (cell_drN _ (cell_al _ (y0)))
        replace y1 : w7.cell? ⟨wo.heap.size, 1, none⟩ = some (.int .u32 ry) := by first | exact cell_later hb7 (y1) | exact cell_later hb7 (cell_al _ (y1)) | exact cell_later hb7 (cell_al _ (cell_al _ (y1))) | exact cell_later hb7 (cell_dr (y1)) | exact cell_later hb7 (cell_dr (cell_al _ (y1))) | exact cell_later hb7 (cell_drN _ (y1)) | exact cell_later hb7 (cell_drN _ (cell_al _ (y1)))
        replace y2 : w7.cell? ⟨wo.heap.size, 2, none⟩ = some (.int .u32 cy) := by first | exact cell_later hb7 (y2) | exact cell_later hb7 (cell_al _ (y2)) | exact cell_later hb7 (cell_al _ (cell_al _ (y2))) | exact cell_later hb7 (cell_dr (y2)) | exact cell_later hb7 (cell_dr (cell_al _ (y2))) | exact cell_later hb7 (cell_drN _ (y2)) | exact cell_later hb7 (cell_drN _ (cell_al _ (y2)))
        have l0 : w7.cell? ⟨w6.heap.size, 0, none⟩ = some (.int .u64 v) := by first | exact cell_later hb7 (cell_nw _ _ _ 0 _ rfl) | exact cell_later hb7 (cell_al _ (cell_nw _ _ _ 0 _ rfl)) | exact cell_later hb7 (cell_al _ (cell_al _ (cell_nw _ _ _ 0 _ rfl))) | exact cell_later hb7 (cell_dr (cell_nw _ _ _ 0 _ rfl)) | exact cell_later hb7 (cell_dr (cell_al _ (cell_nw _ _ _ 0 _ rfl))) | exact cell_later hb7 (cell_drN _ (cell_nw _ _ _ 0 _ rfl)) | exact cell_later hb7 (cell_drN _ (cell_al _ (cell_nw _ _ _ 0 _ rfl)))
        have l1 : w7.cell? ⟨w6.heap.size, 1, none⟩ = some (.int .u32 rr) := by first | exact cell_later hb7 (cell_nw _ _ _ 1 _ rfl) | exact cell_later hb7 (cell_al _ (cell_nw _ _ _ 1 _ rfl)) | exact cell_later hb7 (cell_al _ (cell_al _ (cell_nw _ _ _ 1 _ rfl))) | exact cell_later hb7 (cell_dr (cell_nw _ _ _ 1 _ rfl)) | exact cell_later hb7 (cell_dr (cell_al _ (cell_nw _ _ _ 1 _ rfl))) | exact cell_later hb7 (cell_drN _ (cell_nw _ _ _ 1 _ rfl)) | exact cell_later hb7 (cell_drN _ (cell_al _ (cell_nw _ _ _ 1 _ rfl)))
        have l2 : w7.cell? ⟨w6.heap.size, 2, none⟩ = some (.int .u32 c) := by first | exact cell_later hb7 (cell_nw _ _ _ 2 _ rfl) | exact cell_later hb7 (cell_al _ (cell_nw _ _ _ 2 _ rfl)) | exact cell_later hb7 (cell_al _ (cell_al _ (cell_nw _ _ _ 2 _ rfl))) | exact cell_later hb7 (cell_dr (cell_nw _ _ _ 2 _ rfl)) | exact cell_later hb7 (cell_dr (cell_al _ (cell_nw _ _ _ 2 _ rfl))) | exact cell_later hb7 (cell_drN _ (cell_nw _ _ _ 2 _ rfl)) | exact cell_later hb7 (cell_drN _ (cell_al _ (cell_nw _ _ _ 2 _ rfl)))
        have l3 : w7.cell? ⟨w6.heap.size, 3, none⟩ = some (.int .u64 vy) := by first | exact cell_later hb7 (cell_nw _ _ _ 3 _ rfl) | exact cell_later hb7 (cell_al _ (cell_nw _ _ _ 3 _ rfl)) | exact cell_later hb7 (cell_al _ (cell_al _ (cell_nw _ _ _ 3 _ rfl))) | exact cell_later hb7 (cell_dr (cell_nw _ _ _ 3 _ rfl)) | exact cell_later hb7 (cell_dr (cell_al _ (cell_nw _ _ _ 3 _ rfl))) | exact cell_later hb7 (cell_drN _ (cell_nw _ _ _ 3 _ rfl)) | exact cell_later hb7 (cell_drN _ (cell_al _ (cell_nw _ _ _ 3 _ rfl)))
        have l4 : w7.cell? ⟨w6.heap.size, 4, none⟩ = some (.int .u32 ry) := by first | exact cell_later hb7 (cell_nw _ _ _ 4 _ rfl) | exact cell_later hb7 (cell_al _ (cell_nw _ _ _ 4 _ rfl)) | exact cell_later hb7 (cell_al _ (cell_al _ (cell_nw _ _ _ 4 _ rfl))) | exact cell_later hb7 (cell_dr (cell_nw _ _ _ 4 _ rfl)) | exact cell_later hb7 (cell_dr (cell_al _ (cell_nw _ _ _ 4 _ rfl))) | exact cell_later hb7 (cell_drN _ (cell_nw _ _ _ 4 _ rfl)) | exact cell_later hb7 (cell_drN _ (cell_al _ (cell_nw _ _ _ 4 _ rfl)))
        have l5 : w7.cell? ⟨w6.heap.size, 5, none⟩ = some (.int .u32 cy) := by first | exact cell_later hb7 (cell_nw _ _ _ 5 _ rfl) | exact cell_later hb7 (cell_al _ (cell_nw _ _ _ 5 _ rfl)) | exact cell_later hb7 (cell_al _ (cell_al _ (cell_nw _ _ _ 5 _ rfl))) | exact cell_later hb7 (cell_dr (cell_nw _ _ _ 5 _ rfl)) | exact cell_later hb7 (cell_dr (cell_al _ (cell_nw _ _ _ 5 _ rfl))) | exact cell_later hb7 (cell_drN _ (cell_nw _ _ _ 5 _ rfl)) | exact cell_later hb7 (cell_drN _ (cell_al _ (cell_nw _ _ _ 5 _ rfl)))
        have p0_1 := fun o1 => cell_al o1 (p0)
        have p0_2 := fun o1 o2 => cell_al o2 (cell_al o1 (p0))
        have p1_1 := fun o1 => cell_al o1 (p1)
        have p1_2 := fun o1 o2 => cell_al o2 (cell_al o1 (p1))
        have p2_1 := fun o1 => cell_al o1 (p2)
        have p2_2 := fun o1 o2 => cell_al o2 (cell_al o1 (p2))
        have y0_1 := fun o1 => cell_al o1 (y0)
        have y0_2 := fun o1 o2 => cell_al o2 (cell_al o1 (y0))
        have y1_1 := fun o1 => cell_al o1 (y1)
        have y1_2 := fun o1 o2 => cell_al o2 (cell_al o1 (y1))
        have y2_1 := fun o1 => cell_al o1 (y2)
        have y2_2 := fun o1 o2 => cell_al o2 (cell_al o1 (y2))
        have l0_1 := fun o1 => cell_al o1 (l0)
        have l0_2 := fun o1 o2 => cell_al o2 (cell_al o1 (l0))
        have l1_1 := fun o1 => cell_al o1 (l1)
        have l1_2 := fun o1 o2 => cell_al o2 (cell_al o1 (l1))
        have l2_1 := fun o1 => cell_al o1 (l2)
        have l2_2 := fun o1 o2 => cell_al o2 (cell_al o1 (l2))
        have l3_1 := fun o1 => cell_al o1 (l3)
        have l3_2 := fun o1 o2 => cell_al o2 (cell_al o1 (l3))
        have l4_1 := fun o1 => cell_al o1 (l4)
        have l4_2 := fun o1 o2 => cell_al o2 (cell_al o1 (l4))
        have l5_1 := fun o1 => cell_al o1 (l5)
        have l5_2 := fun o1 o2 => cell_al o2 (cell_al o1 (l5))
        go_wp2_with fail
        refine (A7.out _).mono ?_; rintro e w8 ⟨rfl, hb8⟩
        clear p0_1 p0_2 p1_1 p1_2 p2_1 p2_2 y0_1 y0_2 y1_1 y1_2 y2_1 y2_2 l0_1 l0_2 l1_1 l1_2 l2_1 l2_2 l3_1 l3_2 l4_1 l4_2 l5_1 l5_2
        replace p0 : w8.cell? ⟨w1.heap.size, 0, none⟩ = some (.int .u64 v) := by first | exact cell_later hb8 (p0) | exact cell_later hb8 (cell_al _ (p0)) | exact cell_later hb8 (cell_al _ (cell_al _ (p0))) | exact cell_later hb8 (cell_dr (p0)) | exact cell_later hb8 (cell_dr (cell_al _ (p0))) | exact cell_later hb8 (cell_drN _ (p0)) | exact cell_later hb8 (cell_drN _ (cell_al _ (p0)))
        replace p1 : w8.cell? ⟨w1.heap.size, 1, none⟩ = some (.int .u32 rr) := by first | exact cell_later hb8 (p1) | exact cell_later hb8 (cell_al _ (p1)) | exact cell_later hb8 (cell_al _ (cell_al _ (p1))) | exact cell_later hb8 (cell_dr (p1)) | exact cell_later hb8 (cell_dr (cell_al _ (p1))) | exact cell_later hb8 (cell_drN _ (p1)) | exact cell_later hb8 (cell_drN _ (cell_al _ (p1)))
        replace p2 : w8.cell? ⟨w1.heap.size, 2, none⟩ = some (.int .u32 c) := by first | exact cell_later hb8 (p2) | exact cell_later hb8 (cell_al _ (p2)) | exact cell_later hb8 (cell_al _ (cell_al _ (p2))) | exact cell_later hb8 (cell_dr (p2)) | exact cell_later hb8 (cell_dr (cell_al _ (p2))) | exact cell_later hb8 (cell_drN _ (p2)) | exact cell_later hb8 (cell_drN _ (cell_al _ (p2)))
        replace y0 : w8.cell? ⟨wo.heap.size, 0, none⟩ = some (.int .u64 vy) := by first | exact cell_later hb8 (y0) | exact cell_later hb8 (cell_al _ (y0)) | exact cell_later hb8 (cell_al _ (cell_al _ (y0))) | exact cell_later hb8 (cell_dr (y0)) | exact cell_later hb8 (cell_dr (cell_al _ (y0))) | exact cell_later hb8 (cell_drN _ (y0)) | exact cell_later hb8 (cell_drN _ (cell_al _ (y0)))
        replace y1 : w8.cell? ⟨wo.heap.size, 1, none⟩ = some (.int .u32 ry) := by first | exact cell_later hb8 (y1) | exact cell_later hb8 (cell_al _ (y1)) | exact cell_later hb8 (cell_al _ (cell_al _ (y1))) | exact cell_later hb8 (cell_dr (y1)) | exact cell_later hb8 (cell_dr (cell_al _ (y1))) | exact cell_later hb8 (cell_drN _ (y1)) | exact cell_later hb8 (cell_drN _ (cell_al _ (y1)))
        replace y2 : w8.cell? ⟨wo.heap.size, 2, none⟩ = some (.int .u32 cy) := by first | exact cell_later hb8 (y2) | exact cell_later hb8 (cell_al _ (y2)) | exact cell_later hb8 (cell_al _ (cell_al _ (y2))) | exact cell_later hb8 (cell_dr (y2)) | exact cell_later hb8 (cell_dr (cell_al _ (y2))) | exact cell_later hb8 (cell_drN _ (y2)) | exact cell_later hb8 (cell_drN _ (cell_al _ (y2)))
        replace l0 : w8.cell? ⟨w6.heap.size, 0, none⟩ = some (.int .u64 v) := by first | exact cell_later hb8 (l0) | exact cell_later hb8 (cell_al _ (l0)) | exact cell_later hb8 (cell_al _ (cell_al _ (l0))) | exact cell_later hb8 (cell_dr (l0)) | exact cell_later hb8 (cell_dr (cell_al _ (l0))) | exact cell_later hb8 (cell_drN _ (l0)) | exact cell_later hb8 (cell_drN _ (cell_al _ (l0)))
        replace l1 : w8.cell? ⟨w6.heap.size, 1, none⟩ = some (.int .u32 rr) := by first | exact cell_later hb8 (l1) | exact cell_later hb8 (cell_al _ (l1)) | exact cell_later hb8 (cell_al _ (cell_al _ (l1))) | exact cell_later hb8 (cell_dr (l1)) | exact cell_later hb8 (cell_dr (cell_al _ (l1))) | exact cell_later hb8 (cell_drN _ (l1)) | exact cell_later hb8 (cell_drN _ (cell_al _ (l1)))
        replace l2 : w8.cell? ⟨w6.heap.size, 2, none⟩ = some (.int .u32 c) := by first | exact cell_later hb8 (l2) | exact cell_later hb8 (cell_al _ (l2)) | exact cell_later hb8 (cell_al _ (cell_al _ (l2))) | exact cell_later hb8 (cell_dr (l2)) | exact cell_later hb8 (cell_dr (cell_al _ (l2))) | exact cell_later hb8 (cell_drN _ (l2)) | exact cell_later hb8 (cell_drN _ (cell_al _ (l2)))
        replace l3 : w8.cell? ⟨w6.heap.size, 3, none⟩ = some (.int .u64 vy) := by first | exact cell_later hb8 (l3) | exact cell_later hb8 (cell_al _ (l3)) | exact cell_later hb8 (cell_al _ (cell_al _ (l3))) | exact cell_later hb8 (cell_dr (l3)) | exact cell_later hb8 (cell_dr (cell_al _ (l3))) | exact cell_later hb8 (cell_drN _ (l3)) | exact cell_later hb8 (cell_drN _ (cell_al _ (l3)))
        replace l4 : w8.cell? ⟨w6.heap.size, 4, none⟩ = some (.int .u32 ry) := by first | exact cell_later hb8 (l4) | exact cell_later hb8 (cell_al _ (l4)) | exact cell_later hb8 (cell_al _ (cell_al _ (l4))) | exact cell_later hb8 (cell_dr (l4)) | exact cell_later hb8 (cell_dr (cell_al _ (l4))) | exact cell_later hb8 (cell_drN _ (l4)) | exact cell_later hb8 (cell_drN _ (cell_al _ (l4)))
        replace l5 : w8.cell? ⟨w6.heap.size, 5, none⟩ = some (.int .u32 cy) := by first | exact cell_later hb8 (l5) | exact cell_later hb8 (cell_al _ (l5)) | exact cell_later hb8 (cell_al _ (cell_al _ (l5))) | exact cell_later hb8 (cell_dr (l5)) | exact cell_later hb8 (cell_dr (cell_al _ (l5))) | exact cell_later hb8 (cell_drN _ (l5)) | exact cell_later hb8 (cell_drN _ (cell_al _ (l5)))
        have p0_1 := fun o1 => cell_al o1 (p0)
        have p0_2 := fun o1 o2 => cell_al o2 (cell_al o1 (p0))
        have p1_1 := fun o1 => cell_al o1 (p1)
        have p1_2 := fun o1 o2 => cell_al o2 (cell_al o1 (p1))
        have p2_1 := fun o1 => cell_al o1 (p2)
        have p2_2 := fun o1 o2 => cell_al o2 (cell_al o1 (p2))
        have y0_1 := fun o1 => cell_al o1 (y0)
        have y0_2 := fun o1 o2 => cell_al o2 (cell_al o1 (y0))
        have y1_1 := fun o1 => cell_al o1 (y1)
        have y1_2 := fun o1 o2 => cell_al o2 (cell_al o1 (y1))
        have y2_1 := fun o1 => cell_al o1 (y2)
        have y2_2 := fun o1 o2 => cell_al o2 (cell_al o1 (y2))
        have l0_1 := fun o1 => cell_al o1 (l0)
        have l0_2 := fun o1 o2 => cell_al o2 (cell_al o1 (l0))
        have l1_1 := fun o1 => cell_al o1 (l1)
        have l1_2 := fun o1 o2 => cell_al o2 (cell_al o1 (l1))
        have l2_1 := fun o1 => cell_al o1 (l2)
        have l2_2 := fun o1 o2 => cell_al o2 (cell_al o1 (l2))
        have l3_1 := fun o1 => cell_al o1 (l3)
        have l3_2 := fun o1 o2 => cell_al o2 (cell_al o1 (l3))
        have l4_1 := fun o1 => cell_al o1 (l4)
        have l4_2 := fun o1 o2 => cell_al o2 (cell_al o1 (l4))
        have l5_1 := fun o1 => cell_al o1 (l5)
        have l5_2 := fun o1 o2 => cell_al o2 (cell_al o1 (l5))
        have hz : Below wo.heap.size wo w8 := by
          repeat (first | exact Below.refl _ _ | refine Below.step ?_ (by assumption) | refine Below.setCell ?_ (by first | (simp; done) | (simp; omega) | omega) _ | refine Below.allocS ?_ _ | refine Below.drew ?_ | refine below_drewN ?_ _)
        clear A1 A2 A3 A4 A5 A6 A7
        go_wp2_with fail
        go_roundw
        case rel => exact ⟨k1 + 1, by omega, by go_num, Below.step hb hz⟩
        case measure => simp [intOf]; omega
      · replace p0 := cell_later hb p0
        replace p1 := cell_later hb p1
        replace p2 := cell_later hb p2
        have hbw := Below.step hb0 hb
        clear hbad hb0 hb
        go_upto_region 15 with fail
        go_cut [138, 139, 140] (fun a b d wx => ∃ B : Nat, a = .slice (some ⟨B, 0, none⟩) 2 2 ∧ b = .int .i64 2 ∧ d = .int .i64 0 ∧ Below wr.heap.size wr wx ∧ OutRow 0 4294967295 B wx)
        case first =>
          go_wp2_with fail
          all_goals go_meet
          all_goals
            case rel =>
              refine ⟨_, rfl, rfl, rfl, Below.allocS (Below.refl _ _) _, outRow_mk rfl ?_ ?_⟩
              all_goals omega
        case rest =>
          obtain ⟨B2, rfl, rfl, rfl, hb2, hout⟩ := hcut
          replace p0 := cell_later hb2 p0
          replace p1 := cell_later hb2 p1
          replace p2 := cell_later hb2 p2
          replace hbw := Below.step hbw hb2
          clear hb2
          go_wp2_with fail
          obtain ⟨wq, rfl⟩ : ∃ wo : World, wo = wc := ⟨_, rfl⟩
          go_loopw [140] (fun s wr => ∃ k : Nat, k ≤ 2 ∧ s = .int .i64 k ∧ Below wq.heap.size wq wr) (fun s _ => 2 - (intOf s).toNat)
          case atStart => exact ⟨0, by omega, rfl, Below.refl _ _⟩
          case round =>
            obtain ⟨k2, hk2, rfl, hb⟩ := hrel
            by_cases hlt2 : k2 < 2
            · have z2 : decide ((k2 : Int) < 2) = true := by simp; omega
              obtain ⟨a, a0, a1, hna, ca⟩ := (hout.carry hb) k2 hlt2
              have A1 := Lib.hid fun W => Add_bad v rr c a W HX.out.fits (fun h => hna h.2)
              have A2 := Lib.hid fun W => Chain_nil_bad a W hna
              have A3 := Lib.hid fun W => Most_bad 1 a W (fun h => hna h.2.2)
              clear hna
              obtain ⟨wo, rfl⟩ : ∃ wo : World, wo = wr := ⟨_, rfl⟩
              replace p0 : wo.cell? ⟨w1.heap.size, 0, none⟩ = some (.int .u64 v) := by first | exact cell_later hb (p0) | exact cell_later hb (cell_al _ (p0)) | exact cell_later hb (cell_al _ (cell_al _ (p0))) | exact cell_later hb (cell_dr (p0)) | exact cell_later hb (cell_dr (cell_al _ (p0))) | exact cell_later hb (cell_drN _ (p0)) | exact cell_later hb (cell_drN _ (cell_al _ (p0)))
              replace p1 : wo.cell? ⟨w1.heap.size, 1, none⟩ = some (.int .u32 rr) := by first | exact cell_later hb (p1) | exact cell_later hb (cell_al _ (p1)) | exact cell_later hb (cell_al _ (cell_al _ (p1))) | exact cell_later hb (cell_dr (p1)) | exact cell_later hb (cell_dr (cell_al _ (p1))) | exact cell_later hb (cell_drN _ (p1)) | exact cell_later hb (cell_drN _ (cell_al _ (p1)))
              replace p2 : wo.cell? ⟨w1.heap.size, 2, none⟩ = some (.int .u32 c) := by first | exact cell_later hb (p2) | exact cell_later hb (cell_al _ (p2)) | exact cell_later hb (cell_al _ (cell_al _ (p2))) | exact cell_later hb (cell_dr (p2)) | exact cell_later hb (cell_dr (cell_al _ (p2))) | exact cell_later hb (cell_drN _ (p2)) | exact cell_later hb (cell_drN _ (cell_al _ (p2)))
              have p0_1 := fun o1 => cell_al o1 (p0)
              have p1_1 := fun o1 => cell_al o1 (p1)
              have p2_1 := fun o1 => cell_al o1 (p2)
              go_wp2_with fail
              refine (A1.out _).mono ?_; rintro e w2 ⟨rfl, hb2⟩
              clear p0_1 p1_1 p2_1
              replace p0 : w2.cell? ⟨w1.heap.size, 0, none⟩ = some (.int .u64 v) := by first | exact cell_later hb2 (p0) | exact cell_later hb2 (cell_al _ (p0)) | exact cell_later hb2 (cell_al _ (cell_al _ (p0))) | exact cell_later hb2 (cell_dr (p0)) | exact cell_later hb2 (cell_dr (cell_al _ (p0))) | exact cell_later hb2 (cell_drN _ (p0)) | exact cell_later hb2 (cell_drN _ (cell_al _ (p0)))
              replace p1 : w2.cell? ⟨w1.heap.size, 1, none⟩ = some (.int .u32 rr) := by first | exact cell_later hb2 (p1) | exact cell_later hb2 (cell_al _ (p1)) | exact cell_later hb2 (cell_al _ (cell_al _ (p1))) | exact cell_later hb2 (cell_dr (p1)) | exact cell_later hb2 (cell_dr (cell_al _ (p1))) | exact cell_later hb2 (cell_drN _ (p1)) | exact cell_later hb2 (cell_drN _ (cell_al _ (p1)))
              replace p2 : w2.cell? ⟨w1.heap.size, 2, none⟩ = some (.int .u32 c) := by first | exact cell_later hb2 (p2) | exact cell_later hb2 (cell_al _ (p2)) | exact cell_later hb2 (cell_al _ (cell_al _ (p2))) | exact cell_later hb2 (cell_dr (p2)) | exact cell_later hb2 (cell_dr (cell_al _ (p2))) | exact cell_later hb2 (cell_drN _ (p2)) | exact cell_later hb2 (cell_drN _ (cell_al _ (p2)))
              have p0_1 := fun o1 => cell_al o1 (p0)
              have p1_1 := fun o1 => cell_al o1 (p1)
              have p2_1 := fun o1 => cell_al o1 (p2)
              clear ca
              go_wp2_with fail
              refine (A2.out _).mono ?_; rintro e w3 ⟨rfl, hb3⟩
              clear p0_1 p1_1 p2_1
              replace p0 : w3.cell? ⟨w1.heap.size, 0, none⟩ = some (.int .u64 v) := by first | exact cell_later hb3 (p0) | exact cell_later hb3 (cell_al _ (p0)) | exact cell_later hb3 (cell_al _ (cell_al _ (p0))) | exact cell_later hb3 (cell_dr (p0)) | exact cell_later hb3 (cell_dr (cell_al _ (p0))) | exact cell_later hb3 (cell_drN _ (p0)) | exact cell_later hb3 (cell_drN _ (cell_al _ (p0)))
              replace p1 : w3.cell? ⟨w1.heap.size, 1, none⟩ = some (.int .u32 rr) := by first | exact cell_later hb3 (p1) | exact cell_later hb3 (cell_al _ (p1)) | exact cell_later hb3 (cell_al _ (cell_al _ (p1))) | exact cell_later hb3 (cell_dr (p1)) | exact cell_later hb3 (cell_dr (cell_al _ (p1))) | exact cell_later hb3 (cell_drN _ (p1)) | exact cell_later hb3 (cell_drN _ (cell_al _ (p1)))
              replace p2 : w3.cell? ⟨w1.heap.size, 2, none⟩ = some (.int .u32 c) := by first | exact cell_later hb3 (p2) | exact cell_later hb3 (cell_al _ (p2)) | exact cell_later hb3 (cell_al _ (cell_al _ (p2))) | exact cell_later hb3 (cell_dr (p2)) | exact cell_later hb3 (cell_dr (cell_al _ (p2))) | exact cell_later hb3 (cell_drN _ (p2)) | exact cell_later hb3 (cell_drN _ (cell_al _ (p2)))
              have p0_1 := fun o1 => cell_al o1 (p0)
              have p1_1 := fun o1 => cell_al o1 (p1)
              have p2_1 := fun o1 => cell_al o1 (p2)
              go_wp2_with fail
              refine (A3.out _).mono ?_; rintro e w4 ⟨rfl, hb4⟩
              clear p0_1 p1_1 p2_1
              replace p0 : w4.cell? ⟨w1.heap.size, 0, none⟩ = some (.int .u64 v) := by first | exact cell_later hb4 (p0) | exact cell_later hb4 (cell_al _ (p0)) | exact cell_later hb4 (cell_al _ (cell_al _ (p0))) | exact cell_later hb4 (cell_dr (p0)) | exact cell_later hb4 (cell_dr (cell_al _ (p0))) | exact cell_later hb4 (cell_drN _ (p0)) | exact cell_later hb4 (cell_drN _ (cell_al _ (p0)))
              replace p1 : w4.cell? ⟨w1.heap.size, 1, none⟩ = some (.int .u32 rr) := by first | exact cell_later hb4 (p1) | exact cell_later hb4 (cell_al _ (p1)) | exact cell_later hb4 (cell_al _ (cell_al _ (p1))) | exact cell_later hb4 (cell_dr (p1)) | exact cell_later hb4 (cell_dr (cell_al _ (p1))) | exact cell_later hb4 (cell_drN _ (p1)) | exact cell_later hb4 (cell_drN _ (cell_al _ (p1)))
              replace p2 : w4.cell? ⟨w1.heap.size, 2, none⟩ = some (.int .u32 c) := by first | exact cell_later hb4 (p2) | exact cell_later hb4 (cell_al _ (p2)) | exact cell_later hb4 (cell_al _ (cell_al _ (p2))) | exact cell_later hb4 (cell_dr (p2)) | exact cell_later hb4 (cell_dr (cell_al _ (p2))) | exact cell_later hb4 (cell_drN _ (p2)) | exact cell_later hb4 (cell_drN _ (cell_al _ (p2)))
              have p0_1 := fun o1 => cell_al o1 (p0)
              have p1_1 := fun o1 => cell_al o1 (p1)
              have p2_1 := fun o1 => cell_al o1 (p2)
              have hz : Below wo.heap.size wo w4 := by
                repeat (first | exact Below.refl _ _ | refine Below.step ?_ (by assumption) | refine Below.setCell ?_ (by first | (simp; done) | (simp; omega) | omega) _ | refine Below.allocS ?_ _ | refine Below.drew ?_ | refine below_drewN ?_ _)
              clear A1 A2 A3
              go_wp2_with fail
              go_roundw
              case rel => exact ⟨k2 + 1, by omega, by go_num, Below.step hb hz⟩
              case measure => simp [intOf]; omega
            · replace p0 := cell_later hb p0
              replace p1 := cell_later hb p1
              replace p2 := cell_later hb p2
              replace hbw := Below.step hbw hb
              clear hout hb
              go_upto_region 24 with fail
              go_cut [175, 176, 177] (fun a b d wx => ∃ B : Nat, a = .slice (some ⟨B, 0, none⟩) 2 2 ∧ b = .int .i64 2 ∧ d = .int .i64 0 ∧ Below wr.heap.size wr wx ∧ OutRow 1 65536 B wx)
              case first =>
                go_wp2_with fail
                all_goals go_meet
                all_goals
                  case rel =>
                    refine ⟨_, rfl, rfl, rfl, Below.allocS (Below.refl _ _) _, outRow_mk rfl ?_ ?_⟩
                    all_goals omega
              case rest =>
                obtain ⟨B3, rfl, rfl, rfl, hb2, hout⟩ := hcut
                replace p0 := cell_later hb2 p0
                replace p1 := cell_later hb2 p1
                replace p2 := cell_later hb2 p2
                replace hbw := Below.step hbw hb2
                clear hb2
                go_wp2_with fail
                obtain ⟨wt, rfl⟩ : ∃ wo : World, wo = wc := ⟨_, rfl⟩
                go_loopw [177] (fun s wr => ∃ k : Nat, k ≤ 2 ∧ s = .int .i64 k ∧ Below wt.heap.size wt wr) (fun s _ => 2 - (intOf s).toNat)
                case atStart => exact ⟨0, by omega, rfl, Below.refl _ _⟩
                case round =>
                  obtain ⟨k3, hk3, rfl, hb⟩ := hrel
                  by_cases hlt3 : k3 < 2
                  · have z3 : decide ((k3 : Int) < 2) = true := by simp; omega
                    obtain ⟨a, a0, a1, hna, ca⟩ := (hout.carry hb) k3 hlt3
                    have A1 := Lib.hid fun W => Weigh_bad v rr c a W HX.out.fits (fun h => hna h.2)
                    have A2 := Lib.hid fun W => Most_bad a 1 W (fun h => hna ⟨h.1, h.2.1⟩)
                    clear hna
                    obtain ⟨wo, rfl⟩ : ∃ wo : World, wo = wr := ⟨_, rfl⟩
                    replace p0 : wo.cell? ⟨w1.heap.size, 0, none⟩ = some (.int .u64 v) := by first | exact cell_later hb (p0) | exact cell_later hb (cell_al _ (p0)) | exact cell_later hb (cell_al _ (cell_al _ (p0))) | exact cell_later hb (cell_dr (p0)) | exact cell_later hb (cell_dr (cell_al _ (p0))) | exact cell_later hb (cell_drN _ (p0)) | exact cell_later hb (cell_drN _ (cell_al _ (p0)))
                    replace p1 : wo.cell? ⟨w1.heap.size, 1, none⟩ = some (.int .u32 rr) := by first | exact cell_later hb (p1) | exact cell_later hb (cell_al _ (p1)) | exact cell_later hb (cell_al _ (cell_al _ (p1))) | exact cell_later hb (cell_dr (p1)) | exact cell_later hb (cell_dr (cell_al _ (p1))) | exact cell_later hb (cell_drN _ (p1)) | exact cell_later hb (cell_drN _ (cell_al _ (p1)))
                    replace p2 : wo.cell? ⟨w1.heap.size, 2, none⟩ = some (.int .u32 c) := by first | exact cell_later hb (p2) | exact cell_later hb (cell_al _ (p2)) | exact cell_later hb (cell_al _ (cell_al _ (p2))) | exact cell_later hb (cell_dr (p2)) | exact cell_later hb (cell_dr (cell_al _ (p2))) | exact cell_later hb (cell_drN _ (p2)) | exact cell_later hb (cell_drN _ (cell_al _ (p2)))
                    have p0_1 := fun o1 => cell_al o1 (p0)
                    have p1_1 := fun o1 => cell_al o1 (p1)
                    have p2_1 := fun o1 => cell_al o1 (p2)
                    go_wp2_with fail
                    refine (A1.out _).mono ?_; rintro e w2 ⟨rfl, hb2⟩
                    clear p0_1 p1_1 p2_1
                    replace p0 : w2.cell? ⟨w1.heap.size, 0, none⟩ = some (.int .u64 v) := by first | exact cell_later hb2 (p0) | exact cell_later hb2 (cell_al _ (p0)) | exact cell_later hb2 (cell_al _ (cell_al _ (p0))) | exact cell_later hb2 (cell_dr (p0)) | exact cell_later hb2 (cell_dr (cell_al _ (p0))) | exact cell_later hb2 (cell_drN _ (p0)) | exact cell_later hb2 (cell_drN _ (cell_al _ (p0)))
                    replace p1 : w2.cell? ⟨w1.heap.size, 1, none⟩ = some (.int .u32 rr) := by first | exact cell_later hb2 (p1) | exact cell_later hb2 (cell_al _ (p1)) | exact cell_later hb2 (cell_al _ (cell_al _ (p1))) | exact cell_later hb2 (cell_dr (p1)) | exact cell_later hb2 (cell_dr (cell_al _ (p1))) | exact cell_later hb2 (cell_drN _ (p1)) | exact cell_later hb2 (cell_drN _ (cell_al _ (p1)))
                    replace p2 : w2.cell? ⟨w1.heap.size, 2, none⟩ = some (.int .u32 c) := by first | exact cell_later hb2 (p2) | exact cell_later hb2 (cell_al _ (p2)) | exact cell_later hb2 (cell_al _ (cell_al _ (p2))) | exact cell_later hb2 (cell_dr (p2)) | exact cell_later hb2 (cell_dr (cell_al _ (p2))) | exact cell_later hb2 (cell_drN _ (p2)) | exact cell_later hb2 (cell_drN _ (cell_al _ (p2)))
                    have p0_1 := fun o1 => cell_al o1 (p0)
                    have p1_1 := fun o1 => cell_al o1 (p1)
                    have p2_1 := fun o1 => cell_al o1 (p2)
                    clear ca
                    go_wp2_with fail
                    refine (A2.out _).mono ?_; rintro e w3 ⟨rfl, hb3⟩
                    clear p0_1 p1_1 p2_1
                    replace p0 : w3.cell? ⟨w1.heap.size, 0, none⟩ = some (.int .u64 v) := by first | exact cell_later hb3 (p0) | exact cell_later hb3 (cell_al _ (p0)) | exact cell_later hb3 (cell_al _ (cell_al _ (p0))) | exact cell_later hb3 (cell_dr (p0)) | exact cell_later hb3 (cell_dr (cell_al _ (p0))) | exact cell_later hb3 (cell_drN _ (p0)) | exact cell_later hb3 (cell_drN _ (cell_al _ (p0)))
                    replace p1 : w3.cell? ⟨w1.heap.size, 1, none⟩ = some (.int .u32 rr) := by first | exact cell_later hb3 (p1) | exact cell_later hb3 (cell_al _ (p1)) | exact cell_later hb3 (cell_al _ (cell_al _ (p1))) | exact cell_later hb3 (cell_dr (p1)) | exact cell_later hb3 (cell_dr (cell_al _ (p1))) | exact cell_later hb3 (cell_drN _ (p1)) | exact cell_later hb3 (cell_drN _ (cell_al _ (p1)))
                    replace p2 : w3.cell? ⟨w1.heap.size, 2, none⟩ = some (.int .u32 c) := by first | exact cell_later hb3 (p2) | exact cell_later hb3 (cell_al _ (p2)) | exact cell_later hb3 (cell_al _ (cell_al _ (p2))) | exact cell_later hb3 (cell_dr (p2)) | exact cell_later hb3 (cell_dr (cell_al _ (p2))) | exact cell_later hb3 (cell_drN _ (p2)) | exact cell_later hb3 (cell_drN _ (cell_al _ (p2)))
                    have p0_1 := fun o1 => cell_al o1 (p0)
                    have p1_1 := fun o1 => cell_al o1 (p1)
                    have p2_1 := fun o1 => cell_al o1 (p2)
                    have hz : Below wo.heap.size wo w3 := by
                      repeat (first | exact Below.refl _ _ | refine Below.step ?_ (by assumption) | refine Below.setCell ?_ (by first | (simp; done) | (simp; omega) | omega) _ | refine Below.allocS ?_ _ | refine Below.drew ?_ | refine below_drewN ?_ _)
                    clear A1 A2
                    go_wp2_with fail
                    go_roundw
                    case rel => exact ⟨k3 + 1, by omega, by go_num, Below.step hb hz⟩
                    case measure => simp [intOf]; omega
                  · go_wp2_with fail
                    refine (awake_any _).mono ?_; rintro e w9 ⟨rfl, hb9⟩
                    go_wp2_with fail
                    go_ret
                    exact ⟨rfl, Below.step (Below.step hbw hb) hb9⟩
end Go.Proofs.Ytbddiagnijcmhaa
