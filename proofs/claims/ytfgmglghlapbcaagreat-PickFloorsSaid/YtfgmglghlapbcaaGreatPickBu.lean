/-
  Layer 25's statements: busy; who leads hangs on the members alone.
-/
import Derived.Test.YtfgmglghlapbcaaGreatPickTw
import Derived.Test.YtfgmglghlapbcaaGreatPkCa
namespace Go.Proofs.YtfgmglghlapbcaaGreat
open Go.RowKit Go.Maps Go.IntWalk Go.Lib Go.Sort Go.Shelf
set_option linter.unusedVariables false
set_option linter.unusedSimpArgs false
theorem tok_down {s : TSt} (h : TOk s) : DownT s := fun g hg hne hf => by
  have hin : inM (s.M g) (firstI (s.M g)) = true := by
    cases e : s.M g with
    | nil => rw [e] at hne; simp at hne
    | cons a r => unfold inM entM firstI; rw [List.find?_cons_of_pos (by simp)]; rfl
  rcases h.core.ids g _ hin with ⟨_, q⟩ | ⟨c, c0, cn, ce, cp⟩
  · omega
  · have := parG_lt h.core.right c0 cn
    exact ⟨c, ce, by omega, cn⟩
theorem leadF_congr {s s' : TSt} (hM : ∀ k, s'.M k = s.M k) : ∀ (f g : Nat) (ch : List Int), leadF s' f g ch = leadF s f g ch
  | 0, _, _ => rfl
  | f + 1, g, ch => by unfold leadF; rw [hM, leadF_congr hM f]
theorem leadT_congr {s s' : TSt} (hM : ∀ k, s'.M k = s.M k) (hn : s'.n = s.n) : leadT s' = leadT s := by unfold leadT; rw [hn, leadF_congr hM]
theorem tasksT_congr {s s' : TSt} (hM : ∀ k, s'.M k = s.M k) (hn : s'.n = s.n) (g : Int) : tasksT s' g = tasksT s g := by unfold tasksT; rw [hn, hM]
def nonE (s : TSt) (g : Nat) : Bool := !(s.M g).isEmpty
/-- a group below is one of those from k on, and has members -/
def mkB (s : TSt) (k h : Nat) : Bool := (List.range s.n).any fun c => decide (k ≤ c) && (decide (0 < c) && (decide (parG s.Gs c = h) && nonE s c))
theorem mkB_iff {s : TSt} {k h : Nat} : mkB s k h = true ↔ ∃ c, k ≤ c ∧ 0 < c ∧ c < s.n ∧ parG s.Gs c = h ∧ nonE s c = true := by
  unfold mkB
  rw [List.any_eq_true]
  constructor
  · rintro ⟨c, hc, h1⟩
    simp only [Bool.and_eq_true, decide_eq_true_eq, List.mem_range] at h1 hc
    exact ⟨c, h1.1, h1.2.1, hc, h1.2.2.1, h1.2.2.2⟩
  · rintro ⟨c, h1, h2, h3, h4, h5⟩
    refine ⟨c, List.mem_range.2 h3, ?_⟩
    simp only [Bool.and_eq_true, decide_eq_true_eq]
    exact ⟨h1, h2, h4, h5⟩
theorem mkB_top (s : TSt) (h : Nat) : mkB s s.n h = false := by
  cases e : mkB s s.n h with
  | false => rfl
  | true => obtain ⟨c, h1, _, h2, _⟩ := mkB_iff.1 e; omega
theorem tasksM_in {M : Mems} {id : Int} (h : inM M id = true) (hl : id < 65536) : tasksM M ≠ [] := by
  obtain ⟨x, hx⟩ := inM_some h
  unfold entM at hx
  cases e : M.find? (fun y => y.1 == id) with
  | none => rw [e] at hx; cases hx
  | some y =>
    have h1 := List.mem_of_find?_eq_some e
    have h2 := List.find?_some e
    simp only [beq_iff_eq] at h2
    intro q
    have : id ∈ tasksM M := by
      unfold tasksM
      rw [List.mem_filter]
      exact ⟨List.mem_map.2 ⟨y, h1, h2⟩, by simpa using hl⟩
    rw [q] at this
    cases this
theorem tasksM_nil {M : Mems} (h : M.isEmpty = true) : tasksM M = [] := by rw [List.isEmpty_iff.1 h]; rfl
/-- what busy says of a group -/
theorem busy_step {s : TSt} (h : TOk s) {g : Nat} (hg : g < s.n) : (mkB s (g + 1) g || decide (0 < (tasksM (s.M g)).length)) = nonE s g := by
  cases e : nonE s g with
  | true =>
    have e' : (s.M g).isEmpty = false := by unfold nonE at e; simpa using e
    obtain ⟨id, hi⟩ := inM_ex e'
    rcases h.core.ids g id hi with ⟨_, q⟩ | ⟨c, c0, cn, ce, cp⟩
    · have := tasksM_in hi (by omega)
      have : 0 < (tasksM (s.M g)).length := List.length_pos_iff.2 this
      rw [decide_eq_true this, Bool.or_true]
    · have pl := parG_lt h.core.right c0 cn
      have hs := h.seat c c0 cn
      unfold Seated at hs
      rw [cp, ← ce, hi] at hs
      rw [mkB_iff.2 ⟨c, by omega, c0, cn, cp, by unfold nonE; exact hs.symm⟩, Bool.true_or]
  | false =>
    have e' : (s.M g).isEmpty = true := by unfold nonE at e; simpa using e
    rw [tasksM_nil e']
    cases q : mkB s (g + 1) g with
    | false => rfl
    | true =>
      obtain ⟨c, _, c0, cn, cp, ce⟩ := mkB_iff.1 q
      have hs := h.seat c c0 cn
      unfold Seated at hs
      unfold nonE at ce
      rw [cp, ce] at hs
      have := inM_ne hs
      rw [e'] at this
      cases this
theorem mkB_next {s : TSt} {g h : Nat} (hg : g < s.n) : mkB s g h = (mkB s (g + 1) h || (decide (0 < g) && (decide (parG s.Gs g = h) && nonE s g))) := by
  cases e : mkB s g h with
  | true =>
    obtain ⟨c, c1, c0, cn, cp, ce⟩ := mkB_iff.1 e
    by_cases q : c = g
    · subst q
      rw [decide_eq_true c0, decide_eq_true cp, ce]
      simp
    · rw [mkB_iff.2 ⟨c, by omega, c0, cn, cp, ce⟩, Bool.true_or]
  | false =>
    cases q : mkB s (g + 1) h with
    | true =>
      obtain ⟨c, c1, c0, cn, cp, ce⟩ := mkB_iff.1 q
      rw [mkB_iff.2 ⟨c, by omega, c0, cn, cp, ce⟩] at e
      cases e
    | false =>
      symm
      by_cases g0 : 0 < g
      · by_cases gp : parG s.Gs g = h
        · cases ge : nonE s g with
          | true => rw [mkB_iff.2 ⟨g, Nat.le_refl _, g0, hg, gp, ge⟩] at e; cases e
          | false => simp
        · simp [gp]
      · simp [g0]
theorem set_one {s : TSt} {g : Nat} {ne : Bool} (hx : ∀ h, mkB s g h = (mkB s (g + 1) h || (decide (0 < g) && (decide (parG s.Gs g = h) && nonE s g)))) (hn : ne = nonE s g) (h : ¬ 0 < g ∨ ne = false) (j : Nat) :
    (if g ≤ j then nonE s j else mkB s g j) = (if j = g then ne else if g + 1 ≤ j then nonE s j else mkB s (g + 1) j) := by
  by_cases q : j = g
  · rw [if_pos q, if_pos (by omega), q, hn]
  · rw [if_neg q]
    by_cases q2 : g ≤ j
    · rw [if_pos q2, if_pos (by omega)]
    · rw [if_neg q2, if_neg (by omega), hx]
      rcases h with h | h
      · simp [h]
      · rw [← hn, h]; simp
theorem set_two {s : TSt} {g pg : Nat} (hx : ∀ h, mkB s g h = (mkB s (g + 1) h || (decide (0 < g) && (decide (parG s.Gs g = h) && nonE s g)))) (hp : pg = parG s.Gs g) (hn : true = nonE s g) (h0 : 0 < g) (hpl : pg < g) (j : Nat) :
    (if g ≤ j then nonE s j else mkB s g j) = (if j = pg then true else if j = g then true else if g + 1 ≤ j then nonE s j else mkB s (g + 1) j) := by
  by_cases q0 : j = pg
  · rw [if_pos q0, if_neg (by omega), hx, ← hn, ← hp, q0]
    simp [h0]
  · rw [if_neg q0]
    by_cases q : j = g
    · rw [if_pos q, if_pos (by omega), q, hn]
    · rw [if_neg q]
      by_cases q2 : g ≤ j
      · rw [if_pos q2, if_pos (by omega)]
      · rw [if_neg q2, if_neg (by omega), hx, ← hp]
        simp [show ¬ pg = j from fun e => q0 e.symm]
def BusyP (s : TSt) (w : World) (e : Ending) (w' : World) : Prop := ∃ b, e = .returned (.slice (some ⟨b, 0, none⟩) s.n s.n) ∧ w.heap.size ≤ b ∧ b < w'.heap.size ∧ BoolC w' b s.n (nonE s) ∧ Below w.heap.size w w'
set_option maxRecDepth 100000 in
set_option maxHeartbeats 4000000 in
theorem busy_at {t bgs cgs : Nat} {F : List Nat} {s : TSt} {Gs : Grps} (w : World) (h : TreeIn w t F s) (hok : TOk s) (hr : RightG Gs) (hG : parG s.Gs = parG Gs) (hn : s.n = Gs.length) (hV : RecsAt encG w (.slice (some ⟨bgs, 0, none⟩) Gs.length cgs) Gs) :
    Calls Tryz.prog 14 #[.pointer (some ⟨t, 0, none⟩), .slice (some ⟨bgs, 0, none⟩) Gs.length cgs] w (BusyP s w) := by
  obtain ⟨ibo, ji, jz0, jz1, jz2⟩ := info_parts infoB
  have HT := Lib.hid h
  have HOK := Lib.hid hok
  have hpos := hr.pos
  have hle := hr.le
  obtain ⟨n, hn'⟩ : ∃ n, n = s.n := ⟨_, rfl⟩
  have HN := Lib.hid hn'
  have hnl : n = Gs.length := hn'.trans hn
  have HGE := Lib.hid (show bgs < w.heap.size ∧ ∀ k, k < n → w.cell? ⟨bgs, k * 2, none⟩ = some (.int .i64 (parG s.Gs k : Nat)) by
    have cell : ∀ k, k < n → w.cell? ⟨bgs, k * 2, none⟩ = some (.int .i64 (parG s.Gs k : Nat)) := fun k hk => by
      have hkl : k < Gs.length := by omega
      obtain ⟨_, b, off, e, hc⟩ := hV.at encG_ok (i := k) (x := Gs[k]!) (by rw [List.getElem?_eq_getElem hkl, getElem!_pos Gs k hkl])
      cases e
      have := hc 0 _ rfl
      rw [hG, (hr.par hkl).1]
      simpa using this
    exact ⟨lt_of_cell (cell 0 (by omega)), cell⟩)
  unfold BusyP
  rw [← hnl, ← hn']
  rw [← hnl] at hpos hle
  clear h hok hn hn' hV hG hr hnl
  go_enter Tryz.func14, Tryz.ntmps14
  go_wp2_with (at_make; refine wpList_make_full _ rfl _ _ 34 rfl w.heap.size 4 ibo (.bool false) 1 Tryz.underlying34 ji jz0 jz1 _ _ _ _ n rfl rfl rfl rfl ?c1 ?c2 (Nat.le_refl _) ?_)
  case c1 => rw [jz2]; omega
  case c2 => unfold maxLen; omega
  intro w7 hown hgrow
  have hb7 : Below w.heap.size w w7 := (Below.refl _ _).grown hgrow (Nat.le_refl _) (fun k hk => by cases hk)
  simp only [toList_madeCells_one] at hown
  obtain ⟨bz, hbz⟩ : ∃ b, b = w.heap.size := ⟨_, rfl⟩
  rw [← hbz] at hown ⊢
  obtain ⟨zb, zf⟩ := bools_new hown
  have ZB := Lib.hid (zb.congr (C := fun h => if n ≤ h then nonE s h else mkB s n h) fun j hj => by rw [if_neg (by omega), HN.out, mkB_top])
  have ZF := Lib.hid zf
  have HBZ := Lib.hid hbz
  have HB7 := Lib.hid hb7
  have w0 : IntKind.i64.wrap ((n : Int) - 1) = (n : Int) - 1 := IntWalk.i64_in _ (by omega)
  clear hown hgrow zb zf hbz hb7
  go_wp2_with fail
  go_loopw [6] (fun i wr => ∃ k : Nat, k ≤ n ∧ i = .int .i64 ((k : Int) - 1) ∧ BoolC wr bz n (fun h => if k ≤ h then nonE s h else mkB s k h) ∧ FrzC wr bz ∧ Below w.heap.size w wr) (fun i _ => (intOf i + 1).toNat)
  case atStart => exact ⟨n, Nat.le_refl _, rfl, ZB.out, ZF.out, HB7.out⟩
  case round =>
    obtain ⟨k, hk, rfl, hB, hF, hb⟩ := hrel
    have HBB := Lib.hid hB
    have HFF := Lib.hid hF
    have HB := Lib.hid hb
    clear hB hF
    by_cases hz : 0 < k
    · obtain ⟨g, rfl⟩ : ∃ g, k = g + 1 := ⟨k - 1, by omega⟩
      have e0 : (((g + 1 : Nat)) : Int) - 1 = (g : Int) := by omega
      have hgn : g < n := by omega
      have hgi : (g : Int) < (n : Int) := by omega
      have hg0 : (0 : Int) ≤ (g : Int) := by omega
      have z0 : decide ((g : Int) ≥ 0) = true := decide_eq_true (by omega)
      have w1 : IntKind.i64.wrap ((g : Int) - 1) = (g : Int) - 1 := IntWalk.i64_in _ (by omega)
      have q0 := HBB.out g hgn
      simp only [show ¬ (g + 1 ≤ g) by omega, if_false] at q0
      have f0 := HFF.out g
      have A2 := pTasks_at (g : Int) wr (HT.out.below hb)
      rw [show tasksT s (g : Int) = tasksM (s.M g) by unfold tasksT; rw [show hasV (s.n : Int) (g : Int) = true from decide_eq_true (by rw [← HN.out]; omega), if_pos rfl, Int.toNat_natCast]] at A2
      have hst := busy_step HOK.out (g := g) (by rw [← HN.out]; exact hgn)
      have HNX := Lib.hid (fun h => mkB_next (s := s) (g := g) (h := h) (by rw [← HN.out]; exact hgn))
      have hpg := HGE.out.2 g hgn
      have hne : bgs ≠ bz := by have := HGE.out.1; have := HBZ.out; omega
      have HPL := Lib.hid (fun g0 : 0 < g => parG_lt HOK.out.core.right g0 (by rw [← HN.out]; exact hgn))
      generalize mkB s (g + 1) g = mb at *
      obtain ⟨tl, htl⟩ : ∃ x, x = tasksM (s.M g) := ⟨_, rfl⟩
      obtain ⟨ne, hnb⟩ : ∃ x, x = nonE s g := ⟨_, rfl⟩
      obtain ⟨pg, hpp⟩ : ∃ x, x = parG s.Gs g := ⟨_, rfl⟩
      rw [← htl] at A2 hst
      rw [← hnb] at hst
      have HPG := Lib.hid hpp
      have HNE := Lib.hid hnb
      rw [← hpp] at hpg
      rw [e0]
      replace A2 := Lib.hid A2
      clear htl hnb hpp e0 hk hz
      cases mb with
      | true =>
        obtain rfl : ne = true := by simpa using hst.symm
        have PC := cell_later hb hpg
        clear hst A2 hb hpg
        by_cases hg : 0 < g
        · have z3 : decide ((g : Int) > 0) = true := decide_eq_true (by omega)
          have z4 : (0 : Int) < (g : Int) := by omega
          have hpl := HPL.out hg
          rw [← HPG.out] at hpl
          have y0 := cell_set_eq (u := .bool true) q0
          have y1 := cell_set_ne (b' := bz) (o' := g) (u := .bool true) PC (Or.inl hne)
          have y2 := cell_set_ne (b' := bz) (o' := g) (u := .bool true) (HBB.out pg (by omega)) (Or.inr (by omega))
          have y3 := (HFF.out.set ⟨bz, g, none⟩ (.bool true)) pg
          have HPP := Lib.hid hpl
          have hpi : (pg : Int) < (n : Int) := by omega
          have hp0 : (0 : Int) ≤ (pg : Int) := by omega
          clear hpl
          go_wp2_with fail
          go_roundw
          case rel => exact ⟨g, by omega, rfl, (((HBB.out.set hgn true).set (by have := HPP.out; omega) true).congr fun j hj => set_two HNX.out HPG.out HNE.out hg HPP.out j), ((HFF.out.set _ _).set _ _), ((HB.out.setCell (by rw [HBZ.out]; exact Nat.le_refl _) _).setCell (by rw [HBZ.out]; exact Nat.le_refl _) _)⟩
          case measure => simp [intOf] <;> omega
        · have z3 : decide ((g : Int) > 0) = false := decide_eq_false (by omega)
          have z4 : ¬ (0 : Int) < (g : Int) := by omega
          have y0 := cell_set_eq (u := .bool true) q0
          go_wp2_with fail
          go_roundw
          case rel => exact ⟨g, by omega, rfl, ((HBB.out.set hgn true).congr fun j hj => set_one HNX.out HNE.out (Or.inl hg) j), (HFF.out.set _ _), (HB.out.setCell (by rw [HBZ.out]; exact Nat.le_refl _) _)⟩
          case measure => simp [intOf] <;> omega
      | false =>
        rw [Bool.false_or] at hst
        clear hb
        go_wp2_with fail
        refine A2.out.mono ?_; clear A2; rintro e w8 ⟨v8, rfl, ho8, hb8⟩
        obtain ⟨ta, tc, rfl⟩ := own_shapeT ho8
        have PC := cell_later hb8 (cell_later HB.out hpg)
        have HB8 := Lib.hid (Below.step HB.out hb8)
        have HBB8 := Lib.hid (HBB.out.later hb8)
        have HFF8 := Lib.hid (HFF.out.later hb8 (lt_of_cell q0))
        replace q0 := cell_later hb8 q0
        have f8 := HFF8.out g
        clear ho8 hb8 hpg
        by_cases ht : 0 < tl.length
        · obtain rfl : ne = true := by rw [← hst]; exact decide_eq_true ht
          have z2 : decide ((tl.length : Int) > 0) = true := decide_eq_true (by omega)
          have z5 : (0 : Int) < (tl.length : Int) := by omega
          clear hst
          by_cases hg : 0 < g
          · have z3 : decide ((g : Int) > 0) = true := decide_eq_true (by omega)
            have z4 : (0 : Int) < (g : Int) := by omega
            have hpl := HPL.out hg
            rw [← HPG.out] at hpl
            have y0 := cell_set_eq (u := .bool true) q0
            have y1 := cell_set_ne (b' := bz) (o' := g) (u := .bool true) PC (Or.inl hne)
            have y2 := cell_set_ne (b' := bz) (o' := g) (u := .bool true) (HBB8.out pg (by omega)) (Or.inr (by omega))
            have y3 := (HFF8.out.set ⟨bz, g, none⟩ (.bool true)) pg
            have HPP := Lib.hid hpl
            have hpi : (pg : Int) < (n : Int) := by omega
            have hp0 : (0 : Int) ≤ (pg : Int) := by omega
            clear hpl
            go_wp2_with fail
            go_roundw
            case rel => exact ⟨g, by omega, rfl, (((HBB8.out.set hgn true).set (by have := HPP.out; omega) true).congr fun j hj => set_two HNX.out HPG.out HNE.out hg HPP.out j), ((HFF8.out.set _ _).set _ _), ((HB8.out.setCell (by rw [HBZ.out]; exact Nat.le_refl _) _).setCell (by rw [HBZ.out]; exact Nat.le_refl _) _)⟩
            case measure => simp [intOf] <;> omega
          · have z3 : decide ((g : Int) > 0) = false := decide_eq_false (by omega)
            have z4 : ¬ (0 : Int) < (g : Int) := by omega
            have y0 := cell_set_eq (u := .bool true) q0
            go_wp2_with fail
            go_roundw
            case rel => exact ⟨g, by omega, rfl, ((HBB8.out.set hgn true).congr fun j hj => set_one HNX.out HNE.out (Or.inl hg) j), (HFF8.out.set _ _), (HB8.out.setCell (by rw [HBZ.out]; exact Nat.le_refl _) _)⟩
            case measure => simp [intOf] <;> omega
        · obtain rfl : ne = false := by rw [← hst]; exact decide_eq_false ht
          have z2 : decide ((tl.length : Int) > 0) = false := decide_eq_false (by omega)
          have z5 : ¬ (0 : Int) < (tl.length : Int) := by omega
          clear hst
          have y0 := cell_set_eq (u := .bool false) q0
          by_cases hg : 0 < g
          · have z3 : decide ((g : Int) > 0) = true := decide_eq_true (by omega)
            have z4 : (0 : Int) < (g : Int) := by omega
            go_wp2_with fail
            go_roundw
            case rel => exact ⟨g, by omega, rfl, ((HBB8.out.set hgn false).congr fun j hj => set_one HNX.out HNE.out (Or.inr rfl) j), (HFF8.out.set _ _), (HB8.out.setCell (by rw [HBZ.out]; exact Nat.le_refl _) _)⟩
            case measure => simp [intOf] <;> omega
          · have z3 : decide ((g : Int) > 0) = false := decide_eq_false (by omega)
            have z4 : ¬ (0 : Int) < (g : Int) := by omega
            go_wp2_with fail
            go_roundw
            case rel => exact ⟨g, by omega, rfl, ((HBB8.out.set hgn false).congr fun j hj => set_one HNX.out HNE.out (Or.inr rfl) j), (HFF8.out.set _ _), (HB8.out.setCell (by rw [HBZ.out]; exact Nat.le_refl _) _)⟩
            case measure => simp [intOf] <;> omega
    · obtain rfl : k = 0 := by omega
      have e0 : (((0 : Nat)) : Int) - 1 = -1 := by omega
      rw [e0]
      clear hk hz hb
      have LZ := Lib.hid (lt_of_cell (HBB.out 0 hpos))
      go_wp2_with fail
      go_ret
      exact ⟨bz, rfl, by rw [HBZ.out]; exact Nat.le_refl _, LZ.out, HBB.out.congr fun j _ => by rw [if_pos (Nat.zero_le _)], HB.out⟩
end Go.Proofs.YtfgmglghlapbcaaGreat
