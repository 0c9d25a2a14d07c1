/-
  PickFloors: floors never fall; a new task begins at the floor of its group, and one that wakes not below it by more than the credit.
-/
import Derived.Test.YtfgmglghlapbcaaGreatPickFm
import Derived.Deep.DeepCutAuto
namespace Go.Proofs.YtfgmglghlapbcaaGreat
open Go.RowKit Go.Maps Go.IntWalk Go.Lib Go.Sort Go.Shelf
set_option linter.unusedVariables false
set_option linter.unusedSimpArgs false
/-- the floors in memory -/
structure FlrC (w : World) (F : List Nat) (b n : Nat) (f : Nat → Int) : Prop where
  off : b ∉ F
  lt : b < w.heap.size
  frz : FrzC w b
  cell : ∀ j, j < n → w.cell? ⟨b, j, none⟩ = some (.int .u64 (f j))
theorem FlrC.step {w w' : World} {F F' : List Nat} {b n : Nat} {f : Nat → Int} (h : FlrC w F b n f) (hk : Kept F w w') (hn : ∀ b ∈ F', b ∈ F ∨ w.heap.size ≤ b) : FlrC w' F' b n f :=
  ⟨fun m => by rcases hn b m with q | q; exact h.off q; have := h.lt; omega, Nat.lt_of_lt_of_le h.lt hk.size, fun j => hk.frz (h.frz j) h.lt h.off, fun j hj => hk.cellAt (h.cell j hj) h.off⟩
theorem FlrC.later {w w' : World} {F : List Nat} {b n : Nat} {f : Nat → Int} (h : FlrC w F b n f) (hb : Below w.heap.size w w') : FlrC w' F b n f := h.step (Kept.of hb) fun b hb => Or.inl hb
theorem FlrC.set {w : World} {F : List Nat} {b n k : Nat} {f : Nat → Int} (h : FlrC w F b n f) (hk : k < n) (v : Int) : FlrC (w.setCell ⟨b, k, none⟩ (.int .u64 v)) F b n (fun j => if j = k then v else f j) := by
  refine ⟨h.off, by rw [World.size_setCell]; exact h.lt, h.frz.set _ _, fun j hj => ?_⟩
  by_cases q : j = k
  · subst q
    rw [if_pos rfl]
    exact cell_set_eq (h.cell j hj)
  · rw [if_neg q]
    exact cell_set_ne (h.cell j hj) (Or.inr q)
theorem infoU : (Tryz.prog.info? 25).map (fun i => (i.zero, i.size, i.bytes)) = some (some (.int .u64 0), 1, 8) := by kernel_rfl
theorem nums_new {w : World} {base e g n : Nat} (h : w.ownsRow base e 1 (.slice (some ⟨g, 0, none⟩) n n) n (List.replicate n (.int .u64 0))) : (∀ j, j < n → w.cell? ⟨g, j, none⟩ = some (.int .u64 0)) ∧ FrzC w g :=
  ⟨fun j hj => (h.cellAt j (by omega)).trans (by rw [List.getElem?_replicate, if_pos hj]), fun j => h.frozenAt j⟩
theorem FlrC.congr {w : World} {F : List Nat} {b n : Nat} {f g : Nat → Int} (h : FlrC w F b n f) (e : ∀ j, j < n → g j = f j) : FlrC w F b n g := ⟨h.off, h.lt, h.frz, fun j hj => by rw [e j hj]; exact h.cell j hj⟩
/-- the groups in memory, beside the floors -/
def GrC (w : World) (F : List Nat) (fb bgs n cgs : Nat) (Gs : Grps) : Prop := HeldR encG (fb :: F) w (.slice (some ⟨bgs, 0, none⟩) n cgs) Gs
theorem GrC.held {w : World} {F : List Nat} {fb bgs n cgs : Nat} {Gs : Grps} (h : GrC w F fb bgs n cgs Gs) : HeldR encG F w (.slice (some ⟨bgs, 0, none⟩) n cgs) Gs := HeldR.step h (Kept.refl _ _) fun b hb => Or.inl (List.mem_cons_of_mem _ hb)
theorem GrC.step {w w' : World} {F F' : List Nat} {fb bgs n cgs : Nat} {Gs : Grps} (h : GrC w F fb bgs n cgs Gs) (hk : Kept F w w') (hn : ∀ b ∈ F', b ∈ F ∨ w.heap.size ≤ b) : GrC w' F' fb bgs n cgs Gs :=
  HeldR.step h (hk.mono fun b hb => List.mem_cons_of_mem _ hb) fun b hb => by
    rcases List.mem_cons.1 hb with rfl | hb
    · exact Or.inl List.mem_cons_self
    · rcases hn b hb with q | q
      · exact Or.inl (List.mem_cons_of_mem _ q)
      · exact Or.inr q
theorem GrC.set {w : World} {F : List Nat} {fb bgs n cgs : Nat} {Gs : Grps} (h : GrC w F fb bgs n cgs Gs) (k : Nat) (v : Value) : GrC (w.setCell ⟨fb, k, none⟩ v) F fb bgs n cgs Gs :=
  HeldR.step h ((Kept.refl _ _).setCell (Or.inl (by simp)) _) fun b hb => Or.inl hb
theorem TW.set {w wr : World} {t fb : Nat} {s : TSt} {F : List Nat} (h : TW w t s wr F) (hf : fb ∉ F) (hb : w.heap.size ≤ fb) (k : Nat) (v : Value) : TW w t s (wr.setCell ⟨fb, k, none⟩ v) F :=
  ⟨h.inn.kept (G := [fb]) ((Kept.refl _ _).setCell (Or.inl (by simp)) _) (fun b hm m => by simp at m; subst m; exact hf hm), h.own, h.bel.setCell hb _⟩
set_option maxRecDepth 100000 in
set_option maxHeartbeats 8000000 in
theorem PickFloors_true (s0 : Option Addr) (l0 c0 : Nat) (F0 : Nat → Nat → Value) (s1 : Option Addr) (l1 c1 : Nat) (F1 : Nat → Nat → Value) (a2 : Int) (s2 : Option Addr) (l2 c2 : Nat) (F2 : Nat → Nat → Value) (w : World)
    (r0 : PlainRow [some .u8] w s0 l0 c0 F0) (r1 : PlainRow [some .u16] w s1 l1 c1 F1) (g2 : (Lit.int .u32 a2).wf = true) (r2 : PlainRow [some .u8, some .u8, some .u8, some .u32, some .u16, some .u16, some .u32] w s2 l2 c2 F2) :
    Calls Tryz.prog 5 #[.slice s0 l0 c0, .slice s1 l1 c1, .int .u32 a2, .slice s2 l2 c2] w fun e w' => e = .returned (.bool true) ∧ Below w.heap.size w w' := by
  have b2 := sm32 g2
  obtain ⟨iu, ji, jz0, jz1, jz2⟩ := info_parts infoU
  obtain ⟨xs0, n0⟩ := nums_of r0
  obtain ⟨xs1, n1⟩ := nums_of r1
  have A1 := Lib.hid (Groups_at s0 s1 l0 l1 c0 c1 xs0 xs1 w (row_num n0) (row_num n1) (fun x hx => sm8 (fit_num n0 x hx)) (fun x hx => sm16 (fit_num n1 x hx)))
  have A2 := Lib.hid fun W bgs cgs Gs (h : RecsAt encG W (.slice (some ⟨bgs, 0, none⟩) Gs.length cgs) Gs) (hr : RightG Gs) => pNew_at (.slice (some ⟨bgs, 0, none⟩) Gs.length cgs) Gs a2 W h hr (by omega)
  obtain ⟨hle, hmax, hnn⟩ := sml_le r2
  obtain ⟨m, hm⟩ : ∃ m, m = min l2 60 := ⟨_, rfl⟩
  have e0 : min (l2 : Int) 60 = (m : Int) := by omega
  have hml : m ≤ l2 := by omega
  have hm60 : m ≤ 60 := by omega
  have hmc : (m : Int) ≤ (c2 : Int) := by omega
  have hmc2 : m ≤ c2 := by omega
  have HPR := Lib.hid (show PlainRow smK w s2 l2 c2 F2 from r2)
  have AW := Lib.hid awake_at
  have wc : IntKind.u64.wrap a2 = a2 := IntWalk.u64_in _ (by omega)
  have HM0 := Lib.hid fun Gs (hr : RightG Gs) => MdOk.new (Gs := Gs) (cr := a2) hr b2.1
  clear r0 r1 r2 n0 n1 g2 hm
  go_enter Tryz.func5, Tryz.ntmps5
  go_wp2_with fail
  refine A1.out.mono ?_; clear A1; rintro e w1 ⟨Gs, vg, rfl, hr, hl7, hog, hb1⟩
  have HRI := Lib.hid hr
  have hpos := hr.pos
  obtain ⟨bgs, cgs, rfl⟩ := own_pos hog hpos
  have HRG := Lib.hid (own_recs encG_ok hog)
  have HOG := Lib.hid hog
  have HB1 := Lib.hid hb1
  clear hog hr hb1
  go_wp2_with fail
  refine (A2.out w1 bgs cgs Gs HRG.out HRI.out).mono ?_; clear A2; rintro e w2 ⟨t, F, rfl, hT, hF, hb2⟩
  have HB2 := Lib.hid (Below.step HB1.out hb2)
  have HT := Lib.hid hT
  have HF := Lib.hid (fun b hb => Nat.le_trans HB1.out.size (hF b hb))
  have HGR0 := Lib.hid ((own_heldR encG_ok (F := []) HOG.out rfl rfl (fun b hb => by cases hb)).step (Kept.of hb2) (F' := F) (fun b hb => Or.inr (hF b hb)))
  have HM := Lib.hid (HM0.out Gs HRI.out)
  obtain ⟨n, hn⟩ : ∃ n, n = Gs.length := ⟨_, rfl⟩
  rw [← hn] at hl7 hpos HGR0 ⊢
  have HN := Lib.hid hn
  clear hT hF hb2 HRG HOG HM0 HB1 hn
  go_wp2_with (at_make; refine wpList_make_full _ rfl _ _ 61 rfl w2.heap.size 25 iu (.int .u64 0) 1 Tryz.underlying61 ji jz0 jz1 _ _ _ _ n rfl rfl rfl rfl ?c1 ?c2 (Nat.le_refl _) ?_)
  case c1 => rw [jz2]; omega
  case c2 => unfold maxLen; omega
  intro w3 hown hgrow
  have hb3 : Below w2.heap.size w2 w3 := (Below.refl _ _).grown hgrow (Nat.le_refl _) (fun k hk => by cases hk)
  simp only [toList_madeCells_one] at hown
  obtain ⟨fb, hfb⟩ : ∃ b, b = w2.heap.size := ⟨_, rfl⟩
  rw [← hfb] at hown ⊢
  obtain ⟨zb, zf⟩ := nums_new hown
  have HFL0 := Lib.hid (show FlrC w3 F fb n (fun _ => 0) from ⟨fun m => by have := HT.out.lt _ m; omega, (hown.lt fb rfl).2, zf, zb⟩)
  have HW0 := Lib.hid (show TW w t (newT Gs a2) w3 F from ⟨HT.out.below hb3, HF.out, Below.step HB2.out hb3⟩)
  have HGR := Lib.hid (show GrC w3 F fb bgs n cgs Gs from HGR0.out.step (F' := fb :: F) (Kept.of hb3) (fun b hb => by
    rcases List.mem_cons.1 hb with q | hb
    · exact Or.inr (by omega)
    · exact Or.inl hb))
  have HFI := Lib.hid (show FlI (newT Gs a2) from fls_new Gs a2)
  have HFB := Lib.hid (show w.heap.size ≤ fb by have := HB2.out.size; omega)
  clear hown hgrow zb zf hfb hb3 HT HF HB2 HGR0
  go_wp2_with fail
  go_loopw [55] (fun i wr => ∃ (k : Nat) (s : TSt) (F : List Nat), k ≤ m ∧ i = .int .i64 k ∧ MdOk Gs a2 s ∧ FlI s ∧ TW w t s wr F ∧ GrC wr F fb bgs n cgs Gs ∧ FlrC wr F fb n s.fl) (fun i _ => m - (intOf i).toNat)
  case atStart => exact ⟨0, _, _, Nat.zero_le _, rfl, HM.out, HFI.out, HW0.out, HGR.out, HFL0.out⟩
  case round =>
    clear HM HFI HW0 HGR HFL0
    obtain ⟨k, s, F, hk, rfl, hM, hF, hI, hG, hL⟩ := hrel
    have HM := Lib.hid hM
    have HFI := Lib.hid hF
    have HI := Lib.hid hI
    have HGR := Lib.hid hG
    have HFL := Lib.hid hL
    clear hM hF hI hG hL
    by_cases hlt : k < m
    · obtain ⟨b, off, x, rfl, hfit, u0, u1, u2, u3, u4, u5, u6⟩ := sml_cells HPR.out (show k < l2 by omega)
      have hkm : (k : Int) < (m : Int) := by omega
      have z0 : decide ((k : Int) < (m : Int)) = true := decide_eq_true hkm
      have hk0 : (0 : Int) ≤ (k : Int) := by omega
      replace u0 := cell_later HI.out.bel u0
      replace u1 := cell_later HI.out.bel u1
      replace u2 := cell_later HI.out.bel u2
      replace u3 := cell_later HI.out.bel u3
      replace u4 := cell_later HI.out.bel u4
      replace u5 := cell_later HI.out.bel u5
      replace u6 := cell_later HI.out.bel u6
      have HNS := Lib.hid (show s.n = n from HM.out.n.trans HN.out.symm)
      obtain ⟨s2, hs2⟩ : ∃ s2, s2 = doS s x := ⟨_, rfl⟩
      have HM2 := Lib.hid (show MdOk Gs a2 s2 by rw [hs2]; exact HM.out.do hfit)
      have HFI2 := Lib.hid (show FlI s2 by rw [hs2]; exact HFI.out.do x)
      have HGE := Lib.hid (show ∀ k, s.fl k ≤ s2.fl k by rw [hs2]; exact (fls_do s x).ge)
      have HNS2 := Lib.hid (show s2.n = n from HM2.out.n.trans HN.out.symm)
      obtain ⟨id, hid⟩ : ∃ id, id = x.id := ⟨_, rfl⟩
      obtain ⟨g, hg⟩ : ∃ g : Nat, g = (x.at n).toNat := ⟨_, rfl⟩
      have hgi : x.at n = (g : Int) := by rw [hg]; unfold Sml.at; have := Int.emod_nonneg x.g (show (n : Int) ≠ 0 by omega); omega
      have hgn : g < n := by have : x.g % (n : Int) < n := Int.emod_lt_of_pos _ (by omega); unfold Sml.at at hgi; omega
      have A3 := Lib.hid fun W F (h : TreeIn W t F s) => do_at (some ⟨bgs, 0, none⟩) n cgs x W h HNS.out.symm hfit ⟨hpos, by omega⟩
      rw [← hid, ← hs2] at A3
      have HSP := Lib.hid fun h0 h1 h2 => spawn_got (s := s) (x := x) HM.out.ok h0 h1 h2
      have HWK := Lib.hid fun h0 h1 h2 => wake_got (s := s) (x := x) HM.out.ok hfit h0 h1 h2
      rw [← hs2, ← hid, HNS.out, hgi, Int.toNat_natCast] at HSP HWK
      rw [HM.out.cr] at HWK
      have HX := Lib.hid hfit
      have HID := Lib.hid (show 1 ≤ id ∧ id ≤ 12 by rw [hid]; unfold Sml.id; have := hfit.i; omega)
      obtain ⟨xk, xi, xg, xv, xr, xq, xm⟩ := x
      dsimp only at u0 u1 u2 u3 u4 u5 u6 HSP HWK hid hgi A3
      have t1 : Int.tmod xi 12 = id - 1 := by rw [Int.tmod_eq_emod_of_nonneg HX.out.i.1, hid]; unfold Sml.id; dsimp only; omega
      have t2 : Int.tmod xg (n : Int) = (g : Int) := by rw [Int.tmod_eq_emod_of_nonneg HX.out.g.1, ← hgi]; rfl
      have t3 : Int.tmod xk 10 = xk % 10 := Int.tmod_eq_emod_of_nonneg HX.out.k.1
      have t5 : ((n : Int) = 0) = False := by simp; omega
      have w1 : IntKind.i64.wrap xi = xi := IntWalk.i64_in _ (by have := HX.out.i; dsimp only at this; omega)
      have w2 : IntKind.i64.wrap xg = xg := IntWalk.i64_in _ (by have := HX.out.g; dsimp only at this; omega)
      have w3 : IntKind.i64.wrap (id - 1) = id - 1 := IntWalk.i64_in _ (by have := HID.out; omega)
      have w4 : 1 + (id - 1) = id := by omega
      have w5 : IntKind.i64.wrap id = id := IntWalk.i64_in _ (by have := HID.out; omega)
      have HWI := Lib.hid (show (Lit.int .i64 id).wf = true from wfI (by have := HID.out; omega) (by have := HID.out; omega))
      have HS2 := Lib.hid hs2
      clear hs2 hfit hid hg hgi
      have hlt := HI.out.inn.lt
      have hb : Below wr.heap.size wr (wr.alloc (.cells #[.int .u8 xk, .int .u8 xi, .int .u8 xg, .int .u32 xv, .int .u16 xr, .int .u16 xq, .int .u32 xm] 64)) := below_a _ _
      have t12 : Step F wr F (wr.alloc (.cells #[.int .u8 xk, .int .u8 xi, .int .u8 xg, .int .u32 xv, .int .u16 xr, .int .u16 xq, .int .u32 xm] 64)) := Step.of hb
      have H12 := Lib.hid (HI.out.later hb)
      replace HGR := Lib.hid (HGR.out.step t12.kept t12.new)
      replace HFL := Lib.hid (HFL.out.step t12.kept t12.new)
      clear t12
      have ac0 : (wr.alloc (.cells #[.int .u8 xk, .int .u8 xi, .int .u8 xg, .int .u32 xv, .int .u16 xr, .int .u16 xq, .int .u32 xm] 64)).cell? ⟨wr.heap.size, 0, none⟩ = some (.int .u8 xk) := cell_nw _ _ _ 0 _ rfl
      have ac1 : (wr.alloc (.cells #[.int .u8 xk, .int .u8 xi, .int .u8 xg, .int .u32 xv, .int .u16 xr, .int .u16 xq, .int .u32 xm] 64)).cell? ⟨wr.heap.size, 1, none⟩ = some (.int .u8 xi) := cell_nw _ _ _ 1 _ rfl
      have ac2 : (wr.alloc (.cells #[.int .u8 xk, .int .u8 xi, .int .u8 xg, .int .u32 xv, .int .u16 xr, .int .u16 xq, .int .u32 xm] 64)).cell? ⟨wr.heap.size, 2, none⟩ = some (.int .u8 xg) := cell_nw _ _ _ 2 _ rfl
      have ac3 : (wr.alloc (.cells #[.int .u8 xk, .int .u8 xi, .int .u8 xg, .int .u32 xv, .int .u16 xr, .int .u16 xq, .int .u32 xm] 64)).cell? ⟨wr.heap.size, 3, none⟩ = some (.int .u32 xv) := cell_nw _ _ _ 3 _ rfl
      have ac4 : (wr.alloc (.cells #[.int .u8 xk, .int .u8 xi, .int .u8 xg, .int .u32 xv, .int .u16 xr, .int .u16 xq, .int .u32 xm] 64)).cell? ⟨wr.heap.size, 4, none⟩ = some (.int .u16 xr) := cell_nw _ _ _ 4 _ rfl
      have ac5 : (wr.alloc (.cells #[.int .u8 xk, .int .u8 xi, .int .u8 xg, .int .u32 xv, .int .u16 xr, .int .u16 xq, .int .u32 xm] 64)).cell? ⟨wr.heap.size, 5, none⟩ = some (.int .u16 xq) := cell_nw _ _ _ 5 _ rfl
      have ac6 : (wr.alloc (.cells #[.int .u8 xk, .int .u8 xi, .int .u8 xg, .int .u32 xv, .int .u16 xr, .int .u16 xq, .int .u32 xm] 64)).cell? ⟨wr.heap.size, 6, none⟩ = some (.int .u32 xm) := cell_nw _ _ _ 6 _ rfl
      have oac : wr.heap.size ∉ F := fun m => by have := hlt _ m; omega
      have lac := lt_of_cell ac0
      have hS_ac := Lib.hid (show (wr.alloc (.cells #[.int .u8 xk, .int .u8 xi, .int .u8 xg, .int .u32 xv, .int .u16 xr, .int .u16 xq, .int .u32 xm] 64)).heap.size = wr.heap.size + 1 by simp)
      clear hb hlt
      go_wp2_with fail
      generalize (wr.alloc (.cells #[.int .u8 xk, .int .u8 xi, .int .u8 xg, .int .u32 xv, .int .u16 xr, .int .u16 xq, .int .u32 xm] 64)) = W11 at *
      generalize wr.heap.size = b_ac at *
      go_wp2_with fail
      refine (pGet_at id W11 H12.out.inn HWI.out).mono ?_
      rintro e w13 ⟨rfl, hb⟩
      have t14 : Step F W11 F w13 := Step.of hb
      have H14 := Lib.hid (H12.out.later hb)
      replace ac0 := t14.cell oac ac0
      replace ac1 := t14.cell oac ac1
      replace ac2 := t14.cell oac ac2
      replace ac3 := t14.cell oac ac3
      replace ac4 := t14.cell oac ac4
      replace ac5 := t14.cell oac ac5
      replace ac6 := t14.cell oac ac6
      replace oac := t14.off oac lac
      replace lac := lt_of_cell ac0
      replace HGR := Lib.hid (HGR.out.step t14.kept t14.new)
      replace HFL := Lib.hid (HFL.out.step t14.kept t14.new)
      clear t14
      clear hb
      obtain ⟨wasB, hwas⟩ : ∃ b, b = decide (findC s id = 0) := ⟨_, rfl⟩
      rw [← hwas]
      have HWAS := Lib.hid hwas
      clear hwas
      have hlt := H14.out.inn.lt
      have hb : Below w13.heap.size w13 (w13.alloc (.cells #[.int .u64 (pgetX s id).1, .int .u32 (pgetX s id).2.1, .int .u32 (pgetX s id).2.2] 40)) := below_a _ _
      have t16 : Step F w13 F (w13.alloc (.cells #[.int .u64 (pgetX s id).1, .int .u32 (pgetX s id).2.1, .int .u32 (pgetX s id).2.2] 40)) := Step.of hb
      have H16 := Lib.hid (H14.out.later hb)
      replace ac0 := t16.cell oac ac0
      replace ac1 := t16.cell oac ac1
      replace ac2 := t16.cell oac ac2
      replace ac3 := t16.cell oac ac3
      replace ac4 := t16.cell oac ac4
      replace ac5 := t16.cell oac ac5
      replace ac6 := t16.cell oac ac6
      replace oac := t16.off oac lac
      replace lac := lt_of_cell ac0
      replace HGR := Lib.hid (HGR.out.step t16.kept t16.new)
      replace HFL := Lib.hid (HFL.out.step t16.kept t16.new)
      clear t16
      have x0 : (w13.alloc (.cells #[.int .u64 (pgetX s id).1, .int .u32 (pgetX s id).2.1, .int .u32 (pgetX s id).2.2] 40)).cell? ⟨w13.heap.size, 0, none⟩ = some (.int .u64 (pgetX s id).1) := cell_nw _ _ _ 0 _ rfl
      have x1 : (w13.alloc (.cells #[.int .u64 (pgetX s id).1, .int .u32 (pgetX s id).2.1, .int .u32 (pgetX s id).2.2] 40)).cell? ⟨w13.heap.size, 1, none⟩ = some (.int .u32 (pgetX s id).2.1) := cell_nw _ _ _ 1 _ rfl
      have x2 : (w13.alloc (.cells #[.int .u64 (pgetX s id).1, .int .u32 (pgetX s id).2.1, .int .u32 (pgetX s id).2.2] 40)).cell? ⟨w13.heap.size, 2, none⟩ = some (.int .u32 (pgetX s id).2.2) := cell_nw _ _ _ 2 _ rfl
      have ox : w13.heap.size ∉ F := fun m => by have := hlt _ m; omega
      have lx := lt_of_cell x0
      have hS_x := Lib.hid (show (w13.alloc (.cells #[.int .u64 (pgetX s id).1, .int .u32 (pgetX s id).2.1, .int .u32 (pgetX s id).2.2] 40)).heap.size = w13.heap.size + 1 by simp)
      clear hb hlt
      go_wp2_with fail
      generalize (w13.alloc (.cells #[.int .u64 (pgetX s id).1, .int .u32 (pgetX s id).2.1, .int .u32 (pgetX s id).2.2] 40)) = W15 at *
      generalize w13.heap.size = b_x at *
      clear x0 x1 x2 ox lx
      go_wp2_with fail
      refine (A3.out W15 _ H16.out.inn).mono ?_
      rintro e w17 ⟨rfl, hA⟩
      obtain ⟨F18, h18, t18⟩ := H16.out.step hA
      have H18 := Lib.hid (show TW w t s2 w17 F18 from h18)
      replace ac0 := t18.cell oac ac0
      replace ac1 := t18.cell oac ac1
      replace ac2 := t18.cell oac ac2
      replace ac3 := t18.cell oac ac3
      replace ac4 := t18.cell oac ac4
      replace ac5 := t18.cell oac ac5
      replace ac6 := t18.cell oac ac6
      replace oac := t18.off oac lac
      replace lac := lt_of_cell ac0
      replace HGR := Lib.hid (HGR.out.step t18.kept t18.new)
      replace HFL := Lib.hid (HFL.out.step t18.kept t18.new)
      clear t18 h18 hA
      go_wp2_with fail
      refine (pGet_at id w17 H18.out.inn HWI.out).mono ?_
      rintro e w19 ⟨rfl, hb⟩
      have t20 : Step F18 w17 F18 w19 := Step.of hb
      have H20 := Lib.hid (H18.out.later hb)
      replace ac0 := t20.cell oac ac0
      replace ac1 := t20.cell oac ac1
      replace ac2 := t20.cell oac ac2
      replace ac3 := t20.cell oac ac3
      replace ac4 := t20.cell oac ac4
      replace ac5 := t20.cell oac ac5
      replace ac6 := t20.cell oac ac6
      replace oac := t20.off oac lac
      replace lac := lt_of_cell ac0
      replace HGR := Lib.hid (HGR.out.step t20.kept t20.new)
      replace HFL := Lib.hid (HFL.out.step t20.kept t20.new)
      clear t20
      clear hb
      obtain ⟨isB, his⟩ : ∃ b, b = decide (findC s2 id = 0) := ⟨_, rfl⟩
      obtain ⟨⟨yv, yr, yw⟩, hy⟩ : ∃ y, y = pgetX s2 id := ⟨_, rfl⟩
      rw [← his, ← hy]
      have HIS := Lib.hid his
      have HY := Lib.hid hy
      clear his hy
      have q0 := HFL.out.cell g hgn
      have hlt := H20.out.inn.lt
      have hb : Below w19.heap.size w19 (w19.alloc (.cells #[.int .u64 yv, .int .u32 yr, .int .u32 yw] 40)) := below_a _ _
      replace q0 := cell_later hb q0
      have t22 : Step F18 w19 F18 (w19.alloc (.cells #[.int .u64 yv, .int .u32 yr, .int .u32 yw] 40)) := Step.of hb
      have H22 := Lib.hid (H20.out.later hb)
      replace ac0 := t22.cell oac ac0
      replace ac1 := t22.cell oac ac1
      replace ac2 := t22.cell oac ac2
      replace ac3 := t22.cell oac ac3
      replace ac4 := t22.cell oac ac4
      replace ac5 := t22.cell oac ac5
      replace ac6 := t22.cell oac ac6
      replace oac := t22.off oac lac
      replace lac := lt_of_cell ac0
      replace HGR := Lib.hid (HGR.out.step t22.kept t22.new)
      replace HFL := Lib.hid (HFL.out.step t22.kept t22.new)
      clear t22
      have y0 : (w19.alloc (.cells #[.int .u64 yv, .int .u32 yr, .int .u32 yw] 40)).cell? ⟨w19.heap.size, 0, none⟩ = some (.int .u64 yv) := cell_nw _ _ _ 0 _ rfl
      have y1 : (w19.alloc (.cells #[.int .u64 yv, .int .u32 yr, .int .u32 yw] 40)).cell? ⟨w19.heap.size, 1, none⟩ = some (.int .u32 yr) := cell_nw _ _ _ 1 _ rfl
      have y2 : (w19.alloc (.cells #[.int .u64 yv, .int .u32 yr, .int .u32 yw] 40)).cell? ⟨w19.heap.size, 2, none⟩ = some (.int .u32 yw) := cell_nw _ _ _ 2 _ rfl
      have oy : w19.heap.size ∉ F18 := fun m => by have := hlt _ m; omega
      have ly := lt_of_cell y0
      have hS_y := Lib.hid (show (w19.alloc (.cells #[.int .u64 yv, .int .u32 yr, .int .u32 yw] 40)).heap.size = w19.heap.size + 1 by simp)
      clear hb hlt
      go_upto_region 13 with fail
      generalize (w19.alloc (.cells #[.int .u64 yv, .int .u32 yr, .int .u32 yw] 40)) = W21 at *
      generalize w19.heap.size = b_y at *
      obtain ⟨fg, hfg⟩ : ∃ x, x = s.fl g := ⟨_, rfl⟩
      rw [← hfg] at q0
      have HFG := Lib.hid hfg
      clear hfg
      go_cut [55, 91] (fun s55 s91 wx => s55 = .int .i64 k ∧ s91 = .bool (isB && !wasB) ∧ W21 = wx)
      case first =>
        cases isB <;> cases wasB <;> (go_wp2_with fail; go_meet; case rel => exact ⟨rfl, rfl, rfl⟩)
      case rest =>
        obtain ⟨rfl, rfl, rfl⟩ := hcut
        obtain ⟨nb, hnb⟩ : ∃ nb, nb = (isB && !wasB) := ⟨_, rfl⟩
        rw [← hnb]
        have HNB := Lib.hid hnb
        clear hnb
        go_upto_if 91 with fail
        go_cut [55] (fun s55 wx => s55 = .int .i64 k ∧ Below W21.heap.size W21 wx)
        case first =>
          cases nb with
          | false =>
            go_wp2_with fail
            go_meet
            case rel => exact ⟨rfl, Below.refl _ _⟩
          | true =>
            have hiw : isB = true ∧ wasB = false := by have := HNB.out; revert this; cases isB <;> cases wasB <;> simp
            have h1 : findC s id ≠ 0 := of_decide_eq_false (HWAS.out.symm.trans hiw.2)
            have h2 : findC s2 id = 0 := of_decide_eq_true (HIS.out.symm.trans hiw.1)
            have HH := Lib.hid (And.intro h1 h2)
            have hkb : 0 ≤ xk % 10 ∧ xk % 10 ≤ 9 := by omega
            obtain ⟨kk, hkk⟩ : ∃ kk, kk = xk % 10 := ⟨_, rfl⟩
            rw [← hkk] at t3 hkb
            have w6 : IntKind.u8.wrap kk = kk := IntWalk.u8_in _ (by omega)
            have HKK := Lib.hid hkk
            clear h1 h2 hkk hiw
            have hgi : (g : Int) < (n : Int) := by omega
            have hg0 : (0 : Int) ≤ (g : Int) := by omega
            by_cases hk2 : kk = 2
            · subst hk2
              obtain ⟨v1, v2⟩ := HWK.out HKK.out.symm HH.out.1 HH.out.2
              rw [← HY.out, ← HFG.out] at v1
              rw [← HY.out] at v2
              dsimp only at v1 v2
              have y9 : IntKind.u64.wrap xv = xv := IntWalk.u64_in _ (by have := HX.out.v; dsimp only at this; omega)
              have e9 : decide (yv < xv) = false := decide_eq_false (by omega)
              have e10 : ¬ yv < xv := by omega
              by_cases hlt9 : yv < fg
              · have e6 : decide (yv < fg) = true := decide_eq_true hlt9
                have e7 : IntKind.u64.wrap (fg - yv) = fg - yv := IntWalk.u64_in _ (by have f0 := HM.out.ok.core.fok g; rw [← HFG.out] at f0; unfold FlOk at f0; have f1 := HX.out.v; dsimp only at f1; omega)
                have e8 : decide (fg - yv > a2) = false := decide_eq_false (by omega)
                have e11 : ¬ a2 < fg - yv := by omega
                clear v1 v2
                go_wp2_with fail
                go_quiet (fail)
                go_wp2_with fail
                go_meet
                case rel => exact ⟨rfl, below_drewN (Below.refl _ _) _⟩
              · have e6 : decide (yv < fg) = false := decide_eq_false hlt9
                clear v1 v2
                go_wp2_with fail
                go_quiet (fail)
                go_wp2_with fail
                go_meet
                case rel => exact ⟨rfl, below_drewN (Below.refl _ _) _⟩
            · by_cases hk1 : kk = 0 ∨ kk = 1
              · have v1 := HSP.out (by rw [← HKK.out]; exact hk1) HH.out.1 HH.out.2
                rw [← HY.out, ← HFG.out] at v1
                simp only [Prod.mk.injEq] at v1
                obtain ⟨rfl, rfl, -⟩ := v1
                have e6 : (yv != yv) = false := by simp
                have e7 : ((0 : Int) != 0) = false := by simp
                rcases hk1 with rfl | rfl
                · go_wp2_with fail
                  go_quiet (fail)
                  go_wp2_with fail
                  go_meet
                  case rel => exact ⟨rfl, below_drewN (Below.refl _ _) _⟩
                · go_wp2_with fail
                  go_quiet (fail)
                  go_wp2_with fail
                  go_meet
                  case rel => exact ⟨rfl, below_drewN (Below.refl _ _) _⟩
              · have e0 : (kk == 0) = false := by simp; omega
                have e1 : (kk == 1) = false := by simp; omega
                have e2 : (kk == 2) = false := by simp; omega
                have e3 : ¬ kk = 0 := by omega
                have e4 : ¬ kk = 1 := by omega
                clear hk1
                go_wp2_with fail
                go_meet
                case rel => exact ⟨rfl, Below.refl _ _⟩
        case rest =>
          obtain ⟨rfl, hb⟩ := hcut
          obtain ⟨wq, rfl⟩ : ∃ wq : World, wq = wc := ⟨_, rfl⟩
          clear q0 y0 y1 y2 oy ly ac0 ac1 ac2 ac3 ac4 ac5 ac6 oac lac
          have t23 : Step F18 W21 F18 wq := Step.of hb
          have H23 := Lib.hid (H22.out.later hb)
          replace HGR := Lib.hid (HGR.out.step t23.kept t23.new)
          replace HFL := Lib.hid (HFL.out.step t23.kept t23.new)
          clear t23
          clear hb
          clear hkm z0 t1 t2 t3 w1 w2 w3 w4 w5
          have AL := Lib.hid fun W F h (q : TreeIn W t F s2) (hV : HeldR encG F W (.slice (some ⟨bgs, 0, none⟩) Gs.length cgs) Gs) => alone_at W h q HM2.out.ok HRI.out HM2.out.par HM2.out.n hV
          rw [← HN.out] at AL
          have HFL2 := Lib.hid (HFL.out.congr (g := fun j => if j < 0 then s2.fl j else s.fl j) fun j hj => by rw [if_neg (by omega)])
          clear HFL
          go_wp2_with fail
          go_loopw [141] (fun i wr => ∃ h : Nat, h ≤ n ∧ i = .int .i64 h ∧ TW w t s2 wr F18 ∧ GrC wr F18 fb bgs n cgs Gs ∧ FlrC wr F18 fb n (fun j => if j < h then s2.fl j else s.fl j)) (fun i _ => n - (intOf i).toNat)
          case atStart => exact ⟨0, Nat.zero_le _, rfl, H23.out, HGR.out, HFL2.out⟩
          case round =>
            clear H23 HGR HFL2
            obtain ⟨h, hh, rfl, hI, hG, hL⟩ := hrel
            have HJ := Lib.hid hI
            have HGR := Lib.hid hG
            have HFL := Lib.hid hL
            clear hI hG hL
            by_cases hlh : h < n
            · have hhi : (h : Int) < (n : Int) := by omega
              have z0 : decide ((h : Int) < (n : Int)) = true := decide_eq_true hhi
              have hh0 : (0 : Int) ≤ (h : Int) := by omega
              have wh : IntKind.i64.wrap ((h : Int) + 1) = (h : Int) + 1 := IntWalk.i64_in _ (by omega)
              have q0 := HFL.out.cell h hlh
              rw [if_neg (Nat.lt_irrefl h)] at q0
              obtain ⟨fo, hfo⟩ : ∃ x, x = s.fl h := ⟨_, rfl⟩
              rw [← hfo] at q0
              have HFO := Lib.hid hfo
              obtain ⟨⟨sv, sr, sf⟩, hsp⟩ : ∃ p, p = pSpotV s2 (h : Int) := ⟨_, rfl⟩
              have hsf : sf = s2.fl h := by
                have e9 : (sv, sr, sf).2.2 = (pSpotV s2 (h : Int)).2.2 := by rw [hsp]
                rw [show (pSpotV s2 (h : Int)).2.2 = s2.fl h by unfold pSpotV; rw [if_pos (show hasV (s2.n : Int) (h : Int) = true from decide_eq_true (by have := HNS2.out; omega)), Int.toNat_natCast]] at e9
                exact e9
              have HSF := Lib.hid hsf
              have hge : fo ≤ sf := by rw [hfo, hsf]; exact HGE.out h
              have HSC := Lib.hid (show pSpotC s2 (h : Int) = 0 by unfold pSpotC; rw [if_pos (show hasV (s2.n : Int) (h : Int) = true from decide_eq_true (by have := HNS2.out; omega))])
              have HSP2 := Lib.hid hsp
              clear hfo hsp hsf
              go_wp2_with fail
              refine (pSpot_at (h : Int) wr HJ.out.inn).mono ?_
              rintro e w201 ⟨rfl, hb⟩
              rw [HSC.out, ← HSP2.out]
              replace q0 := cell_later hb q0
              have t202 : Step F18 wr F18 w201 := Step.of hb
              have H202 := Lib.hid (HJ.out.later hb)
              replace HGR := Lib.hid (HGR.out.step t202.kept t202.new)
              replace HFL := Lib.hid (HFL.out.step t202.kept t202.new)
              clear t202
              clear hb
              have hfl := HFL.out.lt
              have hlt := H202.out.inn.lt
              have hb : Below w201.heap.size w201 (w201.alloc (.cells #[.int .u64 sv, .int .u32 sr, .int .u64 sf] 55)) := below_a _ _
              replace q0 := cell_later hb q0
              have t204 : Step F18 w201 F18 (w201.alloc (.cells #[.int .u64 sv, .int .u32 sr, .int .u64 sf] 55)) := Step.of hb
              have H204 := Lib.hid (H202.out.later hb)
              replace HGR := Lib.hid (HGR.out.step t204.kept t204.new)
              replace HFL := Lib.hid (HFL.out.step t204.kept t204.new)
              clear t204
              have p0 : (w201.alloc (.cells #[.int .u64 sv, .int .u32 sr, .int .u64 sf] 55)).cell? ⟨w201.heap.size, 0, none⟩ = some (.int .u64 sv) := cell_nw _ _ _ 0 _ rfl
              have p1 : (w201.alloc (.cells #[.int .u64 sv, .int .u32 sr, .int .u64 sf] 55)).cell? ⟨w201.heap.size, 1, none⟩ = some (.int .u32 sr) := cell_nw _ _ _ 1 _ rfl
              have p2 : (w201.alloc (.cells #[.int .u64 sv, .int .u32 sr, .int .u64 sf] 55)).cell? ⟨w201.heap.size, 2, none⟩ = some (.int .u64 sf) := cell_nw _ _ _ 2 _ rfl
              have op : w201.heap.size ∉ F18 := fun m => by have := hlt _ m; omega
              have lp := lt_of_cell p0
              have hS_p := Lib.hid (show (w201.alloc (.cells #[.int .u64 sv, .int .u32 sr, .int .u64 sf] 55)).heap.size = w201.heap.size + 1 by simp)
              clear hb hlt
              go_wp2_with fail
              generalize (w201.alloc (.cells #[.int .u64 sv, .int .u32 sr, .int .u64 sf] 55)) = W203 at *
              generalize w201.heap.size = b_p at *
              have e1 : decide (sf < fo) = false := decide_eq_false (by omega)
              have e2 : ¬ sf < fo := by omega
              go_quiet (fail)
              first | refine wp_world (fun W4 hW4 => ?_) | refine q_world (fun W4 hW4 => ?_)
              have hb : Below W203.heap.size W203 W4 := by rw [hW4]; exact below_drewN (Below.refl _ _) _
              replace q0 := cell_later hb q0
              have t205 : Step F18 W203 F18 W4 := Step.of hb
              have H205 := Lib.hid (H204.out.later hb)
              replace p0 := t205.cell op p0
              replace p1 := t205.cell op p1
              replace p2 := t205.cell op p2
              replace op := t205.off op lp
              replace lp := lt_of_cell p0
              replace HGR := Lib.hid (HGR.out.step t205.kept t205.new)
              replace HFL := Lib.hid (HFL.out.step t205.kept t205.new)
              clear t205
              clear hb hW4
              have qf := HFL.out.frz h
              have HJ5 := Lib.hid (show TW w t s2 (W4.setCell ⟨fb, h, none⟩ (.int .u64 sf)) F18 from H205.out.set HFL.out.off HFB.out h _)
              have HG5 := Lib.hid (show GrC (W4.setCell ⟨fb, h, none⟩ (.int .u64 sf)) F18 fb bgs n cgs Gs from HGR.out.set h _)
              have HL5 := Lib.hid (show FlrC (W4.setCell ⟨fb, h, none⟩ (.int .u64 sf)) F18 fb n (fun j => if j < h + 1 then s2.fl j else s.fl j) from (HFL.out.set hlh sf).congr fun j hj => by
                by_cases q : j = h
                · subst q; rw [if_pos (Nat.lt_succ_self _), if_pos rfl]; exact HSF.out.symm
                · rw [if_neg q]
                  by_cases q2 : j < h
                  · rw [if_pos q2, if_pos (by omega)]
                  · rw [if_neg q2, if_neg (by omega)])
              have hne : b_p ≠ fb := by omega
              have r0 : (W4.setCell ⟨fb, h, none⟩ (.int .u64 sf)).cell? ⟨b_p, 0, none⟩ = some (.int .u64 sv) := cell_set_ne p0 (Or.inl hne)
              have r1 : (W4.setCell ⟨fb, h, none⟩ (.int .u64 sf)).cell? ⟨b_p, 1, none⟩ = some (.int .u32 sr) := cell_set_ne p1 (Or.inl hne)
              have r2 : (W4.setCell ⟨fb, h, none⟩ (.int .u64 sf)).cell? ⟨b_p, 2, none⟩ = some (.int .u64 sf) := cell_set_ne p2 (Or.inl hne)
              clear H205 HGR HFL
              go_wp2_with fail
              generalize (W4.setCell ⟨fb, h, none⟩ (.int .u64 sf)) = W5 at *
              clear p0 p1 p2 op lp q0 qf
              obtain ⟨TL, hTL⟩ : ∃ T, T = tasksM (s2.M h) := ⟨_, rfl⟩
              have HTT := Lib.hid (show tasksT s2 (h : Int) = TL by unfold tasksT; rw [if_pos (show hasV (s2.n : Int) (h : Int) = true from decide_eq_true (by have := HNS2.out; omega)), Int.toNat_natCast, hTL])
              have HTL := Lib.hid hTL
              obtain ⟨tn, htn⟩ : ∃ k, k = TL.length := ⟨_, rfl⟩
              have HTN := Lib.hid htn
              clear hTL
              go_wp2_with fail
              refine (pTasks_at (h : Int) W5 HJ5.out.inn).mono ?_
              rintro e w301 ⟨tv, rfl, ho, hb⟩
              rw [HTT.out, ← htn] at ho
              obtain ⟨ta, tc, rfl⟩ := own_shapeT ho
              have HTK := Lib.hid (own_tasks (F := F18) ho HJ5.out.inn.lt)
              clear ho htn
              replace r0 := cell_later hb r0
              replace r1 := cell_later hb r1
              replace r2 := cell_later hb r2
              have t302 : Step F18 W5 F18 w301 := Step.of hb
              have H302 := Lib.hid (HJ5.out.later hb)
              replace HG5 := Lib.hid (HG5.out.step t302.kept t302.new)
              replace HL5 := Lib.hid (HL5.out.step t302.kept t302.new)
              clear t302
              clear hb
              by_cases htz : 0 < tn
              · have e3 : decide ((tn : Int) > 0) = true := decide_eq_true (by omega)
                have e4 : decide (0 < tn) = true := decide_eq_true htz
                have e5 : (0 : Int) < (tn : Int) := by omega
                obtain ⟨bt, rfl, hTC⟩ := HTK.out 0 htz
                obtain ⟨y0, rr, hyr⟩ : ∃ y0 rr, TL = y0 :: rr := by cases hq : TL with | nil => (exfalso; have := HTN.out; rw [hq] at this; simp at this; omega) | cons a b => exact ⟨a, b, rfl⟩
                obtain ⟨f1, f2, f3, f4⟩ := floor_head HM2.out.ok HFI2.out (HTL.out.symm.trans hyr)
                have q6 : w301.cell? ⟨bt, 0, none⟩ = some (.int .i64 y0) := by have := hTC.cell 0 htz; rw [hyr] at this; exact this
                have HWO := Lib.hid (show (Lit.int .i64 y0).wf = true from wfI (by omega) (by omega))
                obtain ⟨⟨ov, orr, ow⟩, hov⟩ : ∃ p, p = pgetX s2 y0 := ⟨_, rfl⟩
                rw [← hov, ← HSF.out] at f4
                dsimp only at f4
                have HO := Lib.hid (show findC s2 y0 = 0 ∧ findG s2 y0 = (h : Int) ∧ pgetX s2 y0 = (ov, orr, ow) from ⟨f1, f2, hov.symm⟩)
                have HF4 := Lib.hid f4
                clear hTC hyr f1 f2 f3 f4 hov
                go_wp2_with fail
                refine (pGet_at y0 w301 H302.out.inn HWO.out).mono ?_
                rintro e w303 ⟨rfl, hb⟩
                rw [HO.out.2.1, HO.out.2.2, decide_eq_true HO.out.1]
                replace r0 := cell_later hb r0
                replace r1 := cell_later hb r1
                replace r2 := cell_later hb r2
                have t304 : Step F18 w301 F18 w303 := Step.of hb
                have H304 := Lib.hid (H302.out.later hb)
                replace HG5 := Lib.hid (HG5.out.step t304.kept t304.new)
                replace HL5 := Lib.hid (HL5.out.step t304.kept t304.new)
                replace HTK := Lib.hid (HTK.out.step t304.kept t304.new)
                clear t304
                clear hb
                by_cases hgt : sf < ov
                · have e6 : decide (ov > sf) = true := decide_eq_true hgt
                  have e8 : decide (sf < ov) = true := decide_eq_true hgt
                  have HMK := Lib.hid (HF4.out hgt)
                  have hlt := H304.out.inn.lt
                  have hb : Below w303.heap.size w303 (w303.alloc (.cells #[.int .u64 ov, .int .u32 orr, .int .u32 ow] 40)) := below_a _ _
                  replace r0 := cell_later hb r0
                  replace r1 := cell_later hb r1
                  replace r2 := cell_later hb r2
                  have t306 : Step F18 w303 F18 (w303.alloc (.cells #[.int .u64 ov, .int .u32 orr, .int .u32 ow] 40)) := Step.of hb
                  have H306 := Lib.hid (H304.out.later hb)
                  replace HG5 := Lib.hid (HG5.out.step t306.kept t306.new)
                  replace HL5 := Lib.hid (HL5.out.step t306.kept t306.new)
                  replace HTK := Lib.hid (HTK.out.step t306.kept t306.new)
                  clear t306
                  have o0 : (w303.alloc (.cells #[.int .u64 ov, .int .u32 orr, .int .u32 ow] 40)).cell? ⟨w303.heap.size, 0, none⟩ = some (.int .u64 ov) := cell_nw _ _ _ 0 _ rfl
                  have o1 : (w303.alloc (.cells #[.int .u64 ov, .int .u32 orr, .int .u32 ow] 40)).cell? ⟨w303.heap.size, 1, none⟩ = some (.int .u32 orr) := cell_nw _ _ _ 1 _ rfl
                  have o2 : (w303.alloc (.cells #[.int .u64 ov, .int .u32 orr, .int .u32 ow] 40)).cell? ⟨w303.heap.size, 2, none⟩ = some (.int .u32 ow) := cell_nw _ _ _ 2 _ rfl
                  have oo : w303.heap.size ∉ F18 := fun m => by have := hlt _ m; omega
                  have lo := lt_of_cell o0
                  have hS_o := Lib.hid (show (w303.alloc (.cells #[.int .u64 ov, .int .u32 orr, .int .u32 ow] 40)).heap.size = w303.heap.size + 1 by simp)
                  clear hb hlt
                  go_wp2_with fail
                  generalize (w303.alloc (.cells #[.int .u64 ov, .int .u32 orr, .int .u32 ow] 40)) = W305 at *
                  generalize w303.heap.size = b_o at *
                  have A9 := AL.out W305 _ h H306.out.inn HG5.out.held
                  rw [HMK.out] at A9
                  refine A9.mono ?_; clear A9; rintro e w9 ⟨rfl, hb9⟩
                  have t401 : Step F18 W305 F18 w9 := Step.of hb9
                  have H401 := Lib.hid (H306.out.later hb9)
                  replace HG5 := Lib.hid (HG5.out.step t401.kept t401.new)
                  replace HL5 := Lib.hid (HL5.out.step t401.kept t401.new)
                  replace HTK := Lib.hid (HTK.out.step t401.kept t401.new)
                  clear t401
                  clear hb9
                  go_wp2_with fail
                  go_roundw
                  case rel => exact ⟨h + 1, by omega, by go_num, H401.out, HG5.out, HL5.out⟩
                  case measure => simp [intOf]; omega
                · have e6 : decide (ov > sf) = false := decide_eq_false (by omega)
                  have e7 : ov ≤ sf := by omega
                  have e8 : decide (sf < ov) = false := decide_eq_false hgt
                  have hlt := H304.out.inn.lt
                  have hb : Below w303.heap.size w303 (w303.alloc (.cells #[.int .u64 ov, .int .u32 orr, .int .u32 ow] 40)) := below_a _ _
                  replace r0 := cell_later hb r0
                  replace r1 := cell_later hb r1
                  replace r2 := cell_later hb r2
                  have t306 : Step F18 w303 F18 (w303.alloc (.cells #[.int .u64 ov, .int .u32 orr, .int .u32 ow] 40)) := Step.of hb
                  have H306 := Lib.hid (H304.out.later hb)
                  replace HG5 := Lib.hid (HG5.out.step t306.kept t306.new)
                  replace HL5 := Lib.hid (HL5.out.step t306.kept t306.new)
                  replace HTK := Lib.hid (HTK.out.step t306.kept t306.new)
                  clear t306
                  have o0 : (w303.alloc (.cells #[.int .u64 ov, .int .u32 orr, .int .u32 ow] 40)).cell? ⟨w303.heap.size, 0, none⟩ = some (.int .u64 ov) := cell_nw _ _ _ 0 _ rfl
                  have o1 : (w303.alloc (.cells #[.int .u64 ov, .int .u32 orr, .int .u32 ow] 40)).cell? ⟨w303.heap.size, 1, none⟩ = some (.int .u32 orr) := cell_nw _ _ _ 1 _ rfl
                  have o2 : (w303.alloc (.cells #[.int .u64 ov, .int .u32 orr, .int .u32 ow] 40)).cell? ⟨w303.heap.size, 2, none⟩ = some (.int .u32 ow) := cell_nw _ _ _ 2 _ rfl
                  have oo : w303.heap.size ∉ F18 := fun m => by have := hlt _ m; omega
                  have lo := lt_of_cell o0
                  have hS_o := Lib.hid (show (w303.alloc (.cells #[.int .u64 ov, .int .u32 orr, .int .u32 ow] 40)).heap.size = w303.heap.size + 1 by simp)
                  clear hb hlt
                  go_wp2_with fail
                  generalize (w303.alloc (.cells #[.int .u64 ov, .int .u32 orr, .int .u32 ow] 40)) = W305 at *
                  generalize w303.heap.size = b_o at *
                  go_roundw
                  case rel => exact ⟨h + 1, by omega, by go_num, H306.out, HG5.out, HL5.out⟩
                  case measure => simp [intOf]; omega
              · have e3 : decide ((tn : Int) > 0) = false := decide_eq_false (by omega)
                have e4 : decide (0 < tn) = false := decide_eq_false htz
                have e5 : ¬ (0 : Int) < (tn : Int) := by omega
                have e8 : tn = 0 := by omega
                have HE8 := Lib.hid e8
                clear e8
                go_wp2_with fail
                go_roundw
                case rel => exact ⟨h + 1, by omega, by go_num, H302.out, HG5.out, HL5.out⟩
                case measure => simp [intOf]; omega
            · have HHN := Lib.hid (show h = n by omega)
              have z0 : decide ((h : Int) < (n : Int)) = false := decide_eq_false (by omega)
              have z1 : ¬ (h : Int) < (n : Int) := by omega
              have z2 : ¬ h < n := hlh
              have HL6 := Lib.hid (HFL.out.congr (g := s2.fl) fun j hj => by rw [if_pos (by have := HHN.out; omega)])
              clear hh hlh
              go_wp2_with fail
              go_roundw
              case rel => exact ⟨k + 1, _, _, by omega, by go_num, HM2.out, HFI2.out, HJ.out, HGR.out, HL6.out⟩
              case measure => simp [intOf]; omega
    · have HKM := Lib.hid (show k = m by omega)
      have z0 : decide ((k : Int) < (m : Int)) = false := decide_eq_false (by omega)
      have z1 : ¬ (k : Int) < (m : Int) := by omega
      have z2 : ¬ k < m := hlt
      clear hk hlt
      go_wp2_with fail
      refine (AW.out wr).mono ?_
      rintro e w9 ⟨rfl, hb9⟩
      have HB9 := Lib.hid (Below.step HI.out.bel hb9)
      clear hb9
      go_wp2_with fail
      go_ret
      exact ⟨rfl, HB9.out⟩
end Go.Proofs.YtfgmglghlapbcaaGreat
