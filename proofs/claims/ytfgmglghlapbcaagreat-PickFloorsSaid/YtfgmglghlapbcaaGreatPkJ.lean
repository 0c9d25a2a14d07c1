/-
  Layer 25 (pick): Leave.
  Layer 25 (pick): what Spawn, Wake and Come ask of a floor.
-/
import Derived.Test.YtfgmglghlapbcaaGreatPkF
namespace Go.Proofs.YtfgmglghlapbcaaGreat
open Go.RowKit Go.Maps Go.IntWalk Go.Lib Go.Sort Go.Shelf
set_option linter.unusedVariables false
set_option linter.unusedSimpArgs false
attribute [local go_sem] Oper.semAt_some
/-! ### who leaves -/
def lvQ (s : TSt) (g : Nat) (id : Int) : TSt := { s with M := upd s.M g (leaveM qN (s.M g) id), fl := upd s.fl g (leaveF qN (s.M g) id (s.fl g)) }
def lvA (s : TSt) (own p : Nat) : TSt := { lvQ s p (65536 + own) with A := upd s.A own (leaveE qN (s.M p) (65536 + own)) }
def lvStep (P : Nat → Nat) (q : TSt × Bool) (own : Nat) : TSt × Bool := if q.2 then q else if (q.1.M own).isEmpty then (lvA q.1 own (P own), false) else (q.1, true)
def lvUp (P : Nat → Nat) (s : TSt) (l : List Nat) : TSt × Bool := l.foldl (lvStep P) (s, false)
theorem lvUp_snoc (P : Nat → Nat) (s : TSt) (l : List Nat) (x : Nat) : lvUp P s (l ++ [x]) = lvStep P (lvUp P s l) x := by
  unfold lvUp
  rw [List.foldl_append]
  rfl
theorem lv_stop (P : Nat → Nat) (s : TSt) (l : List Nat) : l.foldl (lvStep P) (s, true) = (s, true) := by
  induction l with
  | nil => rfl
  | cons a l ih => exact ih
theorem lvUp_pre {P : Nat → Nat} {s s' : TSt} {pre l : List Nat} (hp : pre <+: l) (h : lvUp P s pre = (s', true)) : lvUp P s l = (s', true) := by
  obtain ⟨r, rfl⟩ := hp
  unfold lvUp at h ⊢
  rw [List.foldl_append, h]
  exact lv_stop P s' r
theorem lvUp_Gs (P : Nat → Nat) (s : TSt) (l : List Nat) : (lvUp P s l).1.Gs = s.Gs := by
  unfold lvUp
  suffices h : ∀ q : TSt × Bool, q.1.Gs = s.Gs → (l.foldl (lvStep P) q).1.Gs = s.Gs from h _ rfl
  induction l with
  | nil => exact fun q h => h
  | cons a l ih =>
    intro q h
    refine ih _ ?_
    unfold lvStep
    split
    · exact h
    · split
      · exact h
      · exact h
def plvX (s : TSt) (id : Int) : Ent := if findC s id = 0 then leaveE qN (s.M (findG s id).toNat) id else (0, 0, 0)
def lvT (s : TSt) (id : Int) : TSt := { s with T := setF s.T id none, c := delC (s.T id) s.c }
def plvS (s : TSt) (id : Int) : TSt := if findC s id = 0 then (lvUp (parG s.Gs) (lvT (lvQ s (findG s id).toNat id) id) (pathT (parG s.Gs) (findG s id).toNat)).1 else s
theorem leaveE_fits {w : World} {q : Nat} {F : List Nat} {n : Int} {M : Mems} {fl : Int} (h : QIn w q F n M fl) (id : Int) : Ch.Fits (leaveE n M id).1 (leaveE n M id).2.1 (leaveE n M id).2.2 := by
  unfold leaveE
  split
  · cases hm : entM M id with
    | none => unfold Ch.Fits; simp
    | some x =>
      have := h.ids.1.ok _ ((ent_some h.ids.1.nod).1 hm)
      exact Ch.Ok.fits this
  · unfold Ch.Fits; simp
set_option maxRecDepth 100000 in
set_option maxHeartbeats 4000000 in
theorem pLeave_at {t : Nat} {F : List Nat} {s : TSt} (id : Int) (w : World) (h : TreeIn w t F s) (hid : (Lit.int .i64 id).wf = true) :
    Calls Tryz.prog 18 #[.pointer (some ⟨t, 0, none⟩), .int .i64 id] w (TDid w t F (.tuple #[.agg #[.int .u64 (plvX s id).1, .int .u32 (plvX s id).2.1, .int .u32 (plvX s id).2.2], .int .i64 (findC s id)]) (plvS s id)) := by
  have HT := Lib.hid h
  obtain ⟨bg, bq, ba, bm, qp, Fq, hr, rfl⟩ := h
  have i := hr.lt
  obtain ⟨W0, hW0⟩ : ∃ W0, W0 = (w.alloc (.cells #[.pointer (some ⟨t, 0, none⟩)] 29)).alloc (.cells #[.int .u64 0, .int .u32 0, .int .u32 0] 40) := ⟨_, rfl⟩
  have hB0 : Below w.heap.size w W0 := by rw [hW0]; exact Below.allocS (Below.allocS (Below.refl _ _) _) _
  have hsz0 : W0.heap.size = w.heap.size + 2 := by rw [hW0]; simp
  have b0 : W0.cell? ⟨w.heap.size, 0, none⟩ = some (.pointer (some ⟨t, 0, none⟩)) := by rw [hW0]; exact cell_al _ (cell_nw _ _ _ 0 _ rfl)
  have z0 : W0.cell? ⟨w.heap.size + 1, 0, none⟩ = some (.int .u64 0) := by rw [hW0]; exact cell_nwE (by simp) _ _ 0 _ rfl
  have z1 : W0.cell? ⟨w.heap.size + 1, 1, none⟩ = some (.int .u32 0) := by rw [hW0]; exact cell_nwE (by simp) _ _ 1 _ rfl
  have z2 : W0.cell? ⟨w.heap.size + 1, 2, none⟩ = some (.int .u32 0) := by rw [hW0]; exact cell_nwE (by simp) _ _ 2 _ rfl
  have f0 : ∀ j, W0.frozen? ⟨w.heap.size + 1, j, none⟩ = false := fun j => by rw [hW0]; exact frz_nwE (by simp) _ _ j
  have hr0 := hr.below hB0
  have A1 := Lib.hid (pfind_at id hr0 hid)
  have HR0 := Lib.hid hr0
  have HB0 := Lib.hid hB0
  have HW0 := Lib.hid hW0
  clear hW0 hB0 hr hr0
  by_cases hc : findC s id = 0
  · obtain ⟨g, hg, hfg⟩ := findC_zero hc
    obtain ⟨hg0, hg1⟩ := HR0.out.tok id g hg
    obtain ⟨gn, rfl⟩ : ∃ gn : Nat, g = gn := ⟨g.toNat, by omega⟩
    have hgn : gn < s.n := by omega
    have HS := Lib.hid (show plvS s id = (lvUp (parG s.Gs) (lvT (lvQ s gn id) id) (pathT (parG s.Gs) gn)).1 by unfold plvS; rw [if_pos hc, hfg]; rfl)
    have HX := Lib.hid (show plvX s id = leaveE qN (s.M gn) id by unfold plvX; rw [if_pos hc, hfg]; rfl)
    have HFG := Lib.hid hfg
    have HF0 := Lib.hid hc
    have HTG := Lib.hid hg
    rw [HS.out, HX.out, hc]
    clear hc hfg hg
    have hof := HR0.out.off gn hgn
    have ltF : ∀ b ∈ Fq gn, b < w.heap.size := fun b hb => HT.out.lt b (tf_queue hgn hb)
    have nx : w.heap.size ∉ Fq gn := fun m => by have := ltF _ m; omega
    have nx1 : w.heap.size + 1 ∉ Fq gn := fun m => by have := ltF _ m; omega
    have HQ := Lib.hid (HR0.out.q gn hgn)
    obtain ⟨cq, q1⟩ := HR0.out.g1
    have q2 := HR0.out.qc gn hgn
    have HLE := Lib.hid (leaveE_fits HQ.out id)
    obtain ⟨x, hx⟩ : ∃ x, x = leaveE qN (s.M gn) id := ⟨_, rfl⟩
    have HN := Lib.hid HR0.out.pos
    have HX0 := Lib.hid hx
    refine (callsIn_wide (n := 3)).1 ?_
    have hf : Fence.wide.fn 18 := trivial
    have hro : Fence.wide.round = none := rfl
    rw [← hx]
    clear hof ltF hx
    refine callsIn_of_wp_marks Tryz.func18 rfl hf ?_ hro
    simp only [Tryz.ntmps18, List.size_toArray, List.length_cons, List.length_nil, Nat.reduceAdd, Nat.reduceSub, Array.replicate_succ, Array.replicate_zero, List.push_toArray, List.append_toArray, List.nil_append, List.cons_append]
    refine wpIn_wide.2 ?_
    go_wp2_with fail
    rw [← HW0.out]
    refine A1.out.mono ?_; rintro e w5 ⟨rfl, rfl⟩
    rw [HFG.out, HF0.out]
    go_wp2_with fail
    have A2 := Leave_at id W0 HQ.out hid
    rw [← HX0.out] at A2
    refine A2.mono ?_; rintro e w5 ⟨rfl, hA5⟩
    clear A2
    obtain ⟨F5, h5, s5⟩ := hA5
    obtain ⟨hr5, hs5⟩ := HR0.out.queue hgn h5 s5
    replace b0 := s5.cell nx b0
    replace z0 := s5.cell nx1 z0
    replace z1 := s5.cell nx1 z1
    replace z2 := s5.cell nx1 z2
    have l1 := lt_of_cell z0
    replace f0 := fun j => s5.kept.frz (f0 j) (by omega) nx1
    have g3 := hr5.g3
    have lt5 := h5.lt
    have H5 := Lib.hid (show w.heap.size ∉ F5 ∧ w.heap.size + 1 ∉ F5 ∧ w5.heap.size ∉ F5 from ⟨s5.off nx (by omega), s5.off nx1 (by omega), fun m => by have := lt5 _ m; omega⟩)
    clear lt5
    have HR5 := Lib.hid hr5
    have HS5 := Lib.hid ((Step.of (F := TF t bg bq ba bm Fq s.n) HB0.out).trans hs5)
    clear h5 s5 hr5 hs5 q1 q2
    have hr6 := HR5.out.below (below_a w5 (.cells #[.int .u64 x.1, .int .u32 x.2.1, .int .u32 x.2.2] 40))
    have b6 := cell_al (.cells #[.int .u64 x.1, .int .u32 x.2.1, .int .u32 x.2.2] 40) b0
    have g6 := hr6.g3
    have l5 : w.heap.size + 2 ≤ w5.heap.size := by omega
    obtain ⟨w7, hrun, hm7, hg7⟩ := hr6.map.del hid 0
    obtain ⟨hr7, hk7⟩ := hr6.del hg7 hm7
    have nbm : bm < w.heap.size := i.2.2.2.2
    have m0 : ∀ b, w.heap.size ≤ b → b ∉ [bm] := fun b hb m => by simp at m; omega
    have b7 := hk7.cellAt b6 (m0 _ (Nat.le_refl _))
    have B7 := Lib.hid b7
    have Z7 := Lib.hid (show w7.cell? ⟨w.heap.size + 1, 0, none⟩ = some (.int .u64 0) ∧ w7.cell? ⟨w.heap.size + 1, 1, none⟩ = some (.int .u32 0) ∧ w7.cell? ⟨w.heap.size + 1, 2, none⟩ = some (.int .u32 0) from ⟨hk7.cellAt (cell_al _ z0) (m0 _ (by omega)), hk7.cellAt (cell_al _ z1) (m0 _ (by omega)), hk7.cellAt (cell_al _ z2) (m0 _ (by omega))⟩)
    have Y7 := Lib.hid (show w7.cell? ⟨w5.heap.size, 0, none⟩ = some (.int .u64 x.1) ∧ w7.cell? ⟨w5.heap.size, 1, none⟩ = some (.int .u32 x.2.1) ∧ w7.cell? ⟨w5.heap.size, 2, none⟩ = some (.int .u32 x.2.2) from ⟨hk7.cellAt (cell_nw w5 _ _ 0 _ rfl) (m0 _ (by omega)), hk7.cellAt (cell_nw w5 _ _ 1 _ rfl) (m0 _ (by omega)), hk7.cellAt (cell_nw w5 _ _ 2 _ rfl) (m0 _ (by omega))⟩)
    have FZ7 := Lib.hid (show ∀ j, w7.frozen? ⟨w.heap.size + 1, j, none⟩ = false from fun j => hk7.frz (frz_later (below_a w5 _) (f0 j) (by omega)) (by simp; omega) (m0 _ (by omega)))
    have HR7 := Lib.hid (show TRaw w7 t bg bq ba bm qp (upd Fq gn F5) (lvT (lvQ s gn id) id) from hr7)
    have HS7 := Lib.hid (show Step (TF t bg bq ba bm Fq s.n) w (TF t bg bq ba bm (upd Fq gn F5) s.n) w7 from HS5.out.trans ((Step.of (below_a w5 _)).trans (Step.inn hk7 (fun b hb => by simp at hb; subst hb; exact tf_own (by simp)))))
    have l7 := hk7.size
    have L7 := Lib.hid (show w5.heap.size < w7.heap.size by simp at l7; omega)
    clear hr6 hm7 hg7 hr7 hk7 b0 z0 z1 z2 f0 l7 g3 nbm m0
    go_wp2_with fail
    refine (pup_at _ _ _).mono ?_; rintro e w10 ⟨rfl, rfl⟩
    go_wp2_with fail
    refine wp_world (fun W1 hW1 => ?_)
    have hsz : W1.heap.size = w7.heap.size + 2 := by rw [hW1]; simp
    have hB1 : Below w7.heap.size w7 W1 := by rw [hW1]; exact Below.allocS (Below.allocS (Below.refl _ _) _) _
    have BT : Boxed W1 w7.heap.size 29 (.pointer (some ⟨t, 0, none⟩)) := by rw [hW1]; exact (Boxed.new _ _ _).alloc _
    have BG : Boxed W1 (w7.heap.size + 1) 3 (.int .i64 (gn : Nat)) := by
      have := Boxed.new (w7.alloc (.cells #[.pointer (some ⟨t, 0, none⟩)] 29)) 3 (.int .i64 (gn : Nat))
      rw [← hW1] at this
      simpa using this
    have hr1 := HR7.out.below hB1
    obtain ⟨cg, g1⟩ := hr1.g0
    have hri : RightG s.Gs := hr1.right
    have hgc : ∀ k, k ≤ gn → W1.cell? ⟨bg, k * 2, none⟩ = some (.int .i64 (parG s.Gs k : Nat)) := fun k hk => by
      have hkn : k < s.Gs.length := Nat.lt_of_le_of_lt hk hgn
      rw [(hri.par hkn).1]
      exact (hr1.gc k hkn).1
    have lts := hr1.lt
    have lt9 := HR7.out.lt
    have HRI := Lib.hid hri
    have hU0 : UpS w7 [] [w7.heap.size + 1, w7.heap.size] t bg bq ba bm qp (TF t bg bq ba bm (upd Fq gn F5) s.n) s.n (lvT (lvQ s gn id) id) W1 := UpS.start (X := []) (Y := [w7.heap.size + 1, w7.heap.size]) HR7.out hB1 (fun b hb => by simp at hb; omega) (fun b hb => by simp at hb)
    have lb := lt_of_cell b7
    have hne := hr1.ne
    have hbf : ∀ b, w.heap.size ≤ b → b < w5.heap.size + 1 → b ∉ F5 → b ∉ TF t bg bq ba bm (upd Fq gn F5) s.n := fun b h0 h1 h5 m => by
      rcases tf_mem m with q | ⟨k, hk, q⟩
      · simp only [List.mem_cons, List.not_mem_nil, or_false] at q; omega
      · by_cases e : k = gn
        · subst e; rw [upd_same] at q; exact h5 q
        · rw [upd_other _ _ e] at q
          have := HT.out.lt b (tf_queue hk q)
          omega
    have hbn := hbf w.heap.size (by omega) (by omega) H5.out.1
    have hbz := hbf (w.heap.size + 1) (by omega) (by omega) H5.out.2.1
    have hby := hbf w5.heap.size (by omega) (by omega) H5.out.2.2
    clear hbf
    obtain ⟨s7, hs7⟩ : ∃ s7, s7 = lvT (lvQ s gn id) id := ⟨_, rfl⟩
    rw [← hs7] at hU0 ⊢
    have e7 : s7.Gs = s.Gs := by rw [hs7]; rfl
    have HL7 := Lib.hid hs7
    clear hW1 hs7 hr1
    refine wpIn_wide.1 (range_boxF (n := 3) hro (by decide) (gf := 91) (lb := #[.pointer (some ⟨w7.heap.size + 1, 0, none⟩), .pointer (some ⟨w7.heap.size, 0, none⟩)]) rfl trivial (enters_of Tryz.func91 (by kernel_rfl) rfl)
      (by omega) (pup_stops (3 - 1) (by decide) (w7.heap.size + 1) w7.heap.size t bg s.n cg gn (parG s.Gs) (hri.befores hgn) hgn (by have := hri.le; have : s.n = s.Gs.length := rfl; omega) (by omega) (by omega) (by omega) W1 BG BT g1 hgc)
      (fun h k => h.t k) (KpS.refl _) (kps_b (fun x hx => by simp at hx; omega)) (Below.refl _ _) (fun _ => rfl)
      (fun pre W => ∃ sp, lvUp (parG s.Gs) s7 pre = (sp, false) ∧ UpS w7 [] [w7.heap.size + 1, w7.heap.size] t bg bq ba bm qp (TF t bg bq ba bm (upd Fq gn F5) s.n) s.n sp W)
      (fun c pre W => ∃ sp, (c = .exit 0 ∧ lvUp (parG s.Gs) s7 pre = (sp, true)) ∧ UpS w7 [] [w7.heap.size + 1, w7.heap.size] t bg bq ba bm qp (TF t bg bq ba bm (upd Fq gn F5) s.n) s.n sp W)
      (ownLoop_upE (fun pre sp => lvUp (parG s.Gs) s7 pre = (sp, false)) (by omega)) (fun c => ownLoop_upE (fun pre sp => c = .exit 0 ∧ lvUp (parG s.Gs) s7 pre = (sp, true)) (by omega)) (fun x A v ⟨sp, e, h⟩ => ⟨sp, e, h.setY (by simp) v⟩) (fun c x A v ⟨sp, e, h⟩ => ⟨sp, e, h.setY (by simp) v⟩) ⟨_, rfl, hU0⟩
      ?F ?assign ?body ?done ?stop)
    case assign =>
      rintro l pre x W K hI hK
      gi_wp2
      exact hK
    case body =>
      rintro l pre x W hl hlr ⟨sp, hsp, hI⟩ hpx
      have hx := pathT_mem gn (hpx.subset (List.mem_append_right pre (List.mem_singleton.2 rfl)))
      have hxn : x < s.n := by omega
      have hpn : parG s.Gs x < s.n := by omega
      have HSN := Lib.hid (lvUp_snoc (parG s.Gs) s7 pre x)
      obtain ⟨_, ⟨cw, q1⟩, ⟨ca, q3⟩, _, qc, _, faz⟩ := hI.cells
      have q2 := qc x hxn
      have q4 := qc _ hpn
      have bW := hI.base (by simp) hbn B7.out
      obtain ⟨Fx, hqx, _, _⟩ := hI.queue hxn
      have hxm : (x : Int) < (s.n : Int) := by omega
      have A9' := Len_at' W hqx
      clear hqx
      by_cases hm : (sp.M x).isEmpty = true
      · rw [List.isEmpty_iff.1 hm] at A9'
        have A9 := Lib.hid (show Calls Tryz.prog 43 #[.pointer (some ⟨qp x, 0, none⟩)] W fun e w' => e = .returned (.int .i64 0) ∧ W = w' from A9')
        clear A9'
        gi_wp2
        refine ⟨trivial, callsIn_round (A9.out.mono ?_)⟩; rintro e w5 ⟨rfl, rfl⟩
        gi_wp2
        have hI' := hI.below (Below.refl W.heap.size W).drew
        obtain ⟨Fp, hq, hFp, hgo⟩ := hI'.queue hpn
        have nt : t ∉ ba :: Fp := fun m => by
          rcases List.mem_cons.1 m with q | q
          · exact hne.2.2.1 q
          · exact (hFp t q).2.1 (by simp)
        have nq : bq ∉ ba :: Fp := fun m => by
          rcases List.mem_cons.1 m with q | q
          · exact hne.2.2.2.2.2.2.2.1 q
          · exact (hFp bq q).2.1 (by simp)
        have nx : w.heap.size ∉ ba :: Fp := fun m => by
          rcases List.mem_cons.1 m with q | q
          · omega
          · rcases (hFp _ q).1 with q | q
            · exact hbn q
            · omega
        have nba : ba ∉ Fp := fun m => (hFp ba m).2.1 (by simp)
        have fa0 := faz (x * 3)
        have fa1 := faz (x * 3 + 1)
        have fa2 := faz (x * 3 + 2)
        have HQ := Lib.hid hq
        have HGO := Lib.hid hgo
        have z1 : IntKind.i64.wrap (65536 + (x : Int)) = 65536 + (x : Int) := IntWalk.i64_in _ (by have := HN.out; omega)
        have HID := Lib.hid (show (Lit.int .i64 (65536 + (x : Int))).wf = true from wfI (by omega) (by have := HN.out; omega))
        have hpm : (parG s.Gs x : Int) < (s.n : Int) := by omega
        have HAC := Lib.hid (hI.cells.2.2.2.2.2.1 x hxn)
        have HXN := Lib.hid hxn
        have HM := Lib.hid (show lvUp (parG s.Gs) s7 (pre ++ [x]) = (lvA sp x (parG s.Gs x), false) by rw [HSN.out, hsp]; unfold lvStep; rw [if_neg (by simp), if_pos hm])
        have HFE := Lib.hid (leaveE_fits hq (65536 + (x : Int)))
        clear hI' hI hq hgo hFp qc hx hpx hU0 hlr hl faz hm hsp A9
        generalize parG s.Gs x = px at *
        have hS0 : Kept (ba :: Fp) W W.drew ∧ W.drew.cell? ⟨w.heap.size, 0, none⟩ = some (.pointer (some ⟨t, 0, none⟩)) ∧ W.drew.cell? ⟨t, 2, none⟩ = some (.slice (some ⟨ba, 0, none⟩) s.n ca) ∧ W.drew.cell? ⟨t, 1, none⟩ = some (.slice (some ⟨bq, 0, none⟩) s.n cw) ∧ W.drew.cell? ⟨bq, px, none⟩ = some (.pointer (some ⟨qp px, 0, none⟩)) := ⟨Kept.drew (Kept.refl _ _), cell_dr bW, cell_dr q3, cell_dr q1, cell_dr q4⟩
        refine wpIn_region_held_drew (by kernel_rfl) (S := fun w' => Kept (ba :: Fp) W w' ∧ w'.cell? ⟨w.heap.size, 0, none⟩ = some (.pointer (some ⟨t, 0, none⟩)) ∧ w'.cell? ⟨t, 2, none⟩ = some (.slice (some ⟨ba, 0, none⟩) s.n ca) ∧ w'.cell? ⟨t, 1, none⟩ = some (.slice (some ⟨bq, 0, none⟩) s.n cw) ∧ w'.cell? ⟨bq, px, none⟩ = some (.pointer (some ⟨qp px, 0, none⟩))) (by kernel_rfl) hS0 (fun hHeld => ?_)
        refine takeH (i := 0) (v := ?v0_54) rfl (by kernel_rfl) (fun _ _ _ h => h) (by rfl) ?hy0_54 (by assumption) ?rest0_54
        case hy0_54 => (intro w hSw; (try dsimp only at hSw); go_simp; try with_reducible rfl)
        try simp only [Act.put, List.setIfInBounds_toArray, List.set_cons_zero, List.set_cons_succ]
        refine takeH (i := 1) (v := ?v1_55) rfl (by kernel_rfl) (fun _ _ _ h => h) (by rfl) ?hy1_55 (by assumption) ?rest1_55
        case hy1_55 => (intro w hSw; (try dsimp only at hSw); go_simp; try with_reducible rfl)
        try simp only [Act.put, List.setIfInBounds_toArray, List.set_cons_zero, List.set_cons_succ]
        refine takeH (i := 2) (v := ?v2_56) rfl (by kernel_rfl) (fun _ _ _ h => h) (by rfl) ?hy2_56 (by assumption) ?rest2_56
        case hy2_56 => (intro w hSw; (try dsimp only at hSw); go_simp; try with_reducible rfl)
        try simp only [Act.put, List.setIfInBounds_toArray, List.set_cons_zero, List.set_cons_succ]
        refine takeH (i := 3) (v := ?v3_57) rfl (by kernel_rfl) (fun _ _ _ h => h) (by rfl) ?hy3_57 (by assumption) ?rest3_57
        case hy3_57 => (intro w hSw; (try dsimp only at hSw); go_simp; try with_reducible rfl)
        try simp only [Act.put, List.setIfInBounds_toArray, List.set_cons_zero, List.set_cons_succ]
        refine takeH (i := 4) (v := ?v4_58) rfl (by kernel_rfl) (fun _ _ _ h => h) (by rfl) ?hy4_58 (by assumption) ?rest4_58
        case hy4_58 => (intro w hSw; (try dsimp only at hSw); go_simp; try with_reducible rfl)
        try simp only [Act.put, List.setIfInBounds_toArray, List.set_cons_zero, List.set_cons_succ]
        refine takeH (i := 5) (v := ?v5_59) rfl (by kernel_rfl) (fun _ _ _ h => h) (by rfl) ?hy5_59 (by assumption) ?rest5_59
        case hy5_59 => (intro w hSw; (try dsimp only at hSw); go_simp; try with_reducible rfl)
        try simp only [Act.put, List.setIfInBounds_toArray, List.set_cons_zero, List.set_cons_succ]
        refine takeH (i := 6) (v := ?v6_60) rfl (by kernel_rfl) (fun _ _ _ h => h) (by rfl) ?hy6_60 (by assumption) ?rest6_60
        case hy6_60 => (intro w hSw; (try dsimp only at hSw); go_simp; try with_reducible rfl)
        try simp only [Act.put, List.setIfInBounds_toArray, List.set_cons_zero, List.set_cons_succ]
        refine takeH (i := 7) (v := ?v7_61) rfl (by kernel_rfl) (fun _ _ _ h => h) (by rfl) ?hy7_61 (by assumption) ?rest7_61
        case hy7_61 => (intro w hSw; (try dsimp only at hSw); go_simp; try with_reducible rfl)
        try simp only [Act.put, List.setIfInBounds_toArray, List.set_cons_zero, List.set_cons_succ]
        refine takeH (i := 8) (v := ?v8_62) rfl (by kernel_rfl) (fun _ _ _ h => h) (by rfl) ?hy8_62 (by assumption) ?rest8_62
        case hy8_62 => (intro w hSw; (try dsimp only at hSw); go_simp; try with_reducible rfl)
        try simp only [Act.put, List.setIfInBounds_toArray, List.set_cons_zero, List.set_cons_succ]
        refine takeH (i := 9) (v := ?v9_63) rfl (by kernel_rfl) (fun _ _ _ h => h) (by rfl) ?hy9_63 (by assumption) ?rest9_63
        case hy9_63 => (intro w hSw; (try dsimp only at hSw); go_simp; try with_reducible rfl)
        try simp only [Act.put, List.setIfInBounds_toArray, List.set_cons_zero, List.set_cons_succ]
        refine takeH (i := 10) (v := ?v10_64) rfl (by kernel_rfl) (fun _ _ _ h => h) (by rfl) ?hy10_64 (by assumption) ?rest10_64
        case hy10_64 => (intro w hSw; (try dsimp only at hSw); go_simp; try with_reducible rfl)
        try simp only [Act.put, List.setIfInBounds_toArray, List.set_cons_zero, List.set_cons_succ]
        refine takeH (i := 11) (v := ?v11_65) rfl (by kernel_rfl) (fun _ _ _ h => h) (by rfl) ?hy11_65 (by assumption) ?rest11_65
        case hy11_65 => (intro w hSw; (try dsimp only at hSw); go_simp; try with_reducible rfl)
        try simp only [Act.put, List.setIfInBounds_toArray, List.set_cons_zero, List.set_cons_succ]
        refine takeH (i := 12) (v := ?v12_66) rfl (by kernel_rfl) (fun _ _ _ h => h) (by rfl) ?hy12_66 (by assumption) ?rest12_66
        case hy12_66 => (intro w hSw; (try dsimp only at hSw); go_simp; try with_reducible rfl)
        try simp only [Act.put, List.setIfInBounds_toArray, List.set_cons_zero, List.set_cons_succ]
        refine takeH (i := 13) (v := ?v13_67) rfl (by kernel_rfl) (fun _ _ _ h => h) (by rfl) ?hy13_67 (by assumption) ?rest13_67
        case hy13_67 => (intro w hSw; (try dsimp only at hSw); go_simp; try with_reducible rfl)
        try simp only [Act.put, List.setIfInBounds_toArray, List.set_cons_zero, List.set_cons_succ]
        refine wpAnyH_ready (rs := [14]) (by kernel_rfl) (by simp) ?_
        refine consH rfl (fun K hK => ?_) (AllReadyH.nil)
        go_simp
        refine (Leave_at (65536 + (x : Int)) _ HQ.out HID.out).mono ?_
        rintro e w12 ⟨rfl, hA12⟩
        obtain ⟨F12, h12, s12⟩ := hA12
        have hk12 : Kept (ba :: Fp) W.drew w12 := s12.kept.mono (fun b hb => List.mem_cons_of_mem _ hb)
        have e0 := s12.cell nba (cell_dr HAC.out.1)
        have e1 := s12.cell nba (cell_dr HAC.out.2.1)
        have e2 := s12.cell nba (cell_dr HAC.out.2.2)
        have lba : ba < W.drew.heap.size := lt_of_cell (cell_dr HAC.out.1)
        have fz0 := s12.kept.frz (show W.drew.frozen? ⟨ba, x * 3, none⟩ = false from fa0) lba nba
        have fz1 := s12.kept.frz (show W.drew.frozen? ⟨ba, x * 3 + 1, none⟩ = false from fa1) lba nba
        have fz2 := s12.kept.frz (show W.drew.frozen? ⟨ba, x * 3 + 2, none⟩ = false from fa2) lba nba
        generalize hle : leaveE qN (sp.M px) (65536 + (x : Int)) = xe at *
        go_wp2_with fail
        refine hK.out _ _ ?_ (fun hHeld14 => ?_)
        · (first | assumption | (refine heldK_4 (by assumption) ?_ (by assumption) (by assumption) (by assumption) (by assumption) ; assumption) | (refine heldK_4 (Kept.of (below_ad _ _)) ?_ (by assumption) (by assumption) (by assumption) (by assumption) ; assumption) | (refine heldK_4 (Kept.of (below_a _ _)) ?_ (by assumption) (by assumption) (by assumption) (by assumption) ; assumption))
        clear hK K
        try simp only [Act.put, List.setIfInBounds_toArray, List.set_cons_zero, List.set_cons_succ]
        refine takeH (i := 15) (v := ?v15_68) rfl (by kernel_rfl) (fun _ _ _ h => h) (by rfl) ?hy15_68 (by assumption) ?rest15_68
        case hy15_68 => (intro w hSw; (try dsimp only at hSw); go_simp; try with_reducible rfl)
        try simp only [Act.put, List.setIfInBounds_toArray, List.set_cons_zero, List.set_cons_succ]
        refine takeH (i := 16) (v := ?v16_69) rfl (by kernel_rfl) (fun _ _ _ h => h) (by rfl) ?hy16_69 (by assumption) ?rest16_69
        case hy16_69 => (intro w hSw; (try dsimp only at hSw); go_simp; try with_reducible rfl)
        try simp only [Act.put, List.setIfInBounds_toArray, List.set_cons_zero, List.set_cons_succ]
        refine takeH (i := 17) (v := ?v17_70) rfl (by kernel_rfl) (fun _ _ _ h => h) (by rfl) ?hy17_70 (by assumption) ?rest17_70
        case hy17_70 => (intro w hSw; (try dsimp only at hSw); go_simp; try with_reducible rfl)
        try simp only [Act.put, List.setIfInBounds_toArray, List.set_cons_zero, List.set_cons_succ]
        refine takeH (i := 18) (v := ?v18_71) rfl (by kernel_rfl) (fun _ _ _ h => h) (by rfl) ?hy18_71 (by assumption) ?rest18_71
        case hy18_71 => (intro w hSw; (try dsimp only at hSw); go_simp; try with_reducible rfl)
        try simp only [Act.put, List.setIfInBounds_toArray, List.set_cons_zero, List.set_cons_succ]
        refine wpAnyH_ready (rs := [19]) (by kernel_rfl) (by simp) ?_
        refine consH rfl (fun K hK => ?_) (AllReadyH.nil)
        go_simp
        have hk19 := (set3_kept w12 ba (x * 3) xe).mono (T := ba :: Fp) (fun b hb => by simp at hb; subst hb; simp)
        unfold set3 at hk19
        refine hK.out _ _ ?_ (fun hHeld19 => ?_)
        · (first | assumption | (refine heldK_4 (by assumption) ?_ (by assumption) (by assumption) (by assumption) (by assumption) ; assumption) | (refine heldK_4 (Kept.of (below_ad _ _)) ?_ (by assumption) (by assumption) (by assumption) (by assumption) ; assumption) | (refine heldK_4 (Kept.of (below_a _ _)) ?_ (by assumption) (by assumption) (by assumption) (by assumption) ; assumption))
        clear hK K
        try simp only [Act.put, List.setIfInBounds_toArray, List.set_cons_zero, List.set_cons_succ]
        refine wpAnyH_done (by kernel_rfl) ?_ _
        skip
        gi_wp2
        obtain ⟨u12, kp12, kl12⟩ := HGO.out _ _ _ ⟨F12, h12, s12⟩
        subst hle
        obtain ⟨u13, kp13, kl13⟩ := u12.aside HXN.out HFE.out
        exact ⟨((KeepsLoop.below (Below.refl W.heap.size W).drew).trans (kl12 _)).trans (kl13 _), KpS.t kp12 kp13, _, HM.out, u13⟩
      · obtain ⟨m, hm0⟩ : ∃ m, m = (sp.M x).length := ⟨_, rfl⟩
        have hm1 : 0 < m := by
          rw [hm0]
          exact List.length_pos_iff.2 (fun e => hm (by rw [e]; rfl))
        rw [← hm0] at A9'
        have A9 := Lib.hid A9'
        have y9 : decide ((m : Int) > 0) = true := decide_eq_true (by omega)
        have HM := Lib.hid (show lvUp (parG s.Gs) s7 (pre ++ [x]) = (sp, true) by rw [HSN.out, hsp]; unfold lvStep; rw [if_neg (by simp), if_neg hm])
        clear A9' hm0 hm
        gi_wp2
        refine ⟨trivial, callsIn_round (A9.out.mono ?_)⟩; rintro e w5 ⟨rfl, rfl⟩
        gi_wp2
        exact ⟨KeepsLoop.refl _ _, sp, ⟨rfl, HM.out⟩, hI⟩
    case done =>
      rintro D ys W hD rfl ⟨sp, hsp, hI⟩ hK
      have z0 := hI.base (by simp) hbz Z7.out.1
      have z1 := hI.base (by simp) hbz Z7.out.2.1
      have z2 := hI.base (by simp) hbz Z7.out.2.2
      have y0 := hI.base (by simp) hby Y7.out.1
      have y1 := hI.base (by simp) hby Y7.out.2.1
      have y2 := hI.base (by simp) hby Y7.out.2.2
      have l7 : w.heap.size + 1 < w7.heap.size := by have := L7.out; omega
      have fz0 := hI.baseF (by simp) hbz l7 (FZ7.out 0)
      have fz1 := hI.baseF (by simp) hbz l7 (FZ7.out 1)
      have fz2 := hI.baseF (by simp) hbz l7 (FZ7.out 2)
      gi_wp2
      go_wp2_with fail
      rw [show (lvUp (parG s.Gs) (lvT (lvQ s gn id) id) (pathT (parG s.Gs) gn)).1 = sp by rw [← HL7.out, hsp]]
      have hDn : w.heap.size + 1 ≠ D := by omega
      have hpk := putObj_kept (((W.setCell ⟨w.heap.size + 1, 0, none⟩ (.int .u64 x.1)).setCell ⟨w.heap.size + 1, 1, none⟩ (.int .u32 x.2.1)).setCell ⟨w.heap.size + 1, 2, none⟩ (.int .u32 x.2.2)) D (.deferred none)
      have r0 := hpk.cellAt (cell_set_ne (cell_set_ne (cell_set_eq z0) (Or.inr (by omega))) (Or.inr (by omega))) (by simpa using hDn)
      have r1 := hpk.cellAt (cell_set_ne (cell_set_eq (cell_set_ne z1 (Or.inr (by omega)))) (Or.inr (by omega))) (by simpa using hDn)
      have r2 := hpk.cellAt (cell_set_eq (cell_set_ne (cell_set_ne z2 (Or.inr (by omega))) (Or.inr (by omega)))) (by simpa using hDn)
      refine retColl (D := D) (v := .tuple #[.agg #[.int .u64 x.1, .int .u32 x.2.1, .int .u32 x.2.2], .int .i64 0]) rfl ?_ (by simp [results, Tryz.results18, go_sem, r0, r1, r2]) ⟨rfl, ?_⟩
      · exact (heap_set_ne (Ne.symm hDn)).trans ((heap_set_ne (Ne.symm hDn)).trans ((heap_set_ne (Ne.symm hDn)).trans hK))
      · refine hI.fin (G := [w.heap.size + 1, D]) HS7.out (fun b hb => by simp at hb) (Kept.trans (Kept.mono ((((Kept.refl [w.heap.size + 1] W).setCell (Or.inl (by simp)) _).setCell (Or.inl (by simp)) _).setCell (Or.inl (by simp)) _) (fun b hb => by simp at hb; subst hb; simp)) (hpk.mono (fun b hb => by simp at hb; subst hb; simp))) (fun b hb => ?_)
        simp only [List.mem_cons, List.not_mem_nil, or_false] at hb
        rcases hb with rfl | rfl
        · exact .inl ⟨by omega, l7, hbz⟩
        · exact .inr ⟨by omega, _, hK, rfl, rfl⟩
    case stop =>
      rintro D c pre W hD hpx ⟨sp, ⟨rfl, hsp⟩, hI⟩ hK
      have hsp := lvUp_pre hpx hsp
      have z0 := hI.base (by simp) hbz Z7.out.1
      have z1 := hI.base (by simp) hbz Z7.out.2.1
      have z2 := hI.base (by simp) hbz Z7.out.2.2
      have y0 := hI.base (by simp) hby Y7.out.1
      have y1 := hI.base (by simp) hby Y7.out.2.1
      have y2 := hI.base (by simp) hby Y7.out.2.2
      have l7 : w.heap.size + 1 < w7.heap.size := by have := L7.out; omega
      have fz0 := hI.baseF (by simp) hbz l7 (FZ7.out 0)
      have fz1 := hI.baseF (by simp) hbz l7 (FZ7.out 1)
      have fz2 := hI.baseF (by simp) hbz l7 (FZ7.out 2)
      gi_wp2
      go_wp2_with fail
      rw [show (lvUp (parG s.Gs) (lvT (lvQ s gn id) id) (pathT (parG s.Gs) gn)).1 = sp by rw [← HL7.out, hsp]]
      have hDn : w.heap.size + 1 ≠ D := by omega
      have hpk := putObj_kept (((W.setCell ⟨w.heap.size + 1, 0, none⟩ (.int .u64 x.1)).setCell ⟨w.heap.size + 1, 1, none⟩ (.int .u32 x.2.1)).setCell ⟨w.heap.size + 1, 2, none⟩ (.int .u32 x.2.2)) D (.deferred none)
      have r0 := hpk.cellAt (cell_set_ne (cell_set_ne (cell_set_eq z0) (Or.inr (by omega))) (Or.inr (by omega))) (by simpa using hDn)
      have r1 := hpk.cellAt (cell_set_ne (cell_set_eq (cell_set_ne z1 (Or.inr (by omega)))) (Or.inr (by omega))) (by simpa using hDn)
      have r2 := hpk.cellAt (cell_set_eq (cell_set_ne (cell_set_ne z2 (Or.inr (by omega))) (Or.inr (by omega)))) (by simpa using hDn)
      refine retColl (D := D) (v := .tuple #[.agg #[.int .u64 x.1, .int .u32 x.2.1, .int .u32 x.2.2], .int .i64 0]) rfl ?_ (by simp [results, Tryz.results18, go_sem, r0, r1, r2]) ⟨rfl, ?_⟩
      · exact (heap_set_ne (Ne.symm hDn)).trans ((heap_set_ne (Ne.symm hDn)).trans ((heap_set_ne (Ne.symm hDn)).trans hK))
      · refine hI.fin (G := [w.heap.size + 1, D]) HS7.out (fun b hb => by simp at hb) (Kept.trans (Kept.mono ((((Kept.refl [w.heap.size + 1] W).setCell (Or.inl (by simp)) _).setCell (Or.inl (by simp)) _).setCell (Or.inl (by simp)) _) (fun b hb => by simp at hb; subst hb; simp)) (hpk.mono (fun b hb => by simp at hb; subst hb; simp))) (fun b hb => ?_)
        simp only [List.mem_cons, List.not_mem_nil, or_false] at hb
        rcases hb with rfl | rfl
        · exact .inl ⟨by omega, l7, hbz⟩
        · exact .inr ⟨by omega, _, hK, rfl, rfl⟩
  · have HS := Lib.hid (show plvS s id = s by unfold plvS; rw [if_neg hc])
    have HX := Lib.hid (show plvX s id = (0, 0, 0) by unfold plvX; rw [if_neg hc])
    have y1 : (findC s id != 0) = true := by simp [hc]
    rw [HS.out, HX.out]
    clear hc
    go_enter Tryz.func18, Tryz.ntmps18
    go_wp2_with fail
    rw [← HW0.out]
    refine A1.out.mono ?_; rintro e w5 ⟨rfl, rfl⟩
    have fa := f0 0
    have fb := f0 1
    have fc := f0 2
    go_wp2_with fail
    refine bodyPost_ret (v := .tuple #[.agg #[.int .u64 0, .int .u32 0, .int .u32 0], .int .i64 (findC s id)]) (by simp [results, Tryz.results18, go_sem, *]) rfl ⟨rfl, TAfter.same HT.out ?_⟩
    exact ((HB0.out.setCell (by simp) _).setCell (by simp) _).setCell (by simp) _
end Go.Proofs.YtfgmglghlapbcaaGreat
namespace Go.Proofs.YtfgmglghlapbcaaGreat
open Go.RowKit Go.Maps Go.IntWalk Go.Lib Go.Sort Go.Shelf
set_option linter.unusedVariables false
set_option linter.unusedSimpArgs false
theorem SpawnF_at (fl k : Int) (bk : Nat) (w : World) (hf : 0 ≤ fl ∧ fl ≤ 18446744073709551615) (hk : (Lit.int .i64 k).wf = true) (c : w.cell? ⟨bk, 0, none⟩ = some (.int .i64 k)) :
    Calls Tryz.prog 72 #[.int .u64 fl, .pointer (some ⟨bk, 0, none⟩)] w (PlP w (newX fl k) (newC k)) := by
  have A1 := Lib.hid fun W => plNew_at fl k W hf hk
  have c1 := cell_al (.cells #[.int .u64 0, .int .u32 0, .int .u32 0] 40) c
  generalize newX fl k = x at *
  generalize newC k = cc at *
  clear hf hk
  go_enter Tryz.func72, Tryz.ntmps72
  go_wp2_with fail
  refine (A1.out _).mono ?_; rintro e w5 ⟨rfl, hb5⟩
  have z0 : w5.cell? ⟨w.heap.size, 0, none⟩ = some (.int .u64 0) := cell_later hb5 (cell_nw w #[.int .u64 0, .int .u32 0, .int .u32 0] 40 0 _ rfl)
  have f0 : w5.frozen? ⟨w.heap.size, 0, none⟩ = false := frz_later hb5 (frz_nw w #[.int .u64 0, .int .u32 0, .int .u32 0] 40 0) (by simp)
  have z1 : w5.cell? ⟨w.heap.size, 1, none⟩ = some (.int .u32 0) := cell_later hb5 (cell_nw w #[.int .u64 0, .int .u32 0, .int .u32 0] 40 1 _ rfl)
  have f1 : w5.frozen? ⟨w.heap.size, 1, none⟩ = false := frz_later hb5 (frz_nw w #[.int .u64 0, .int .u32 0, .int .u32 0] 40 1) (by simp)
  have z2 : w5.cell? ⟨w.heap.size, 2, none⟩ = some (.int .u32 0) := cell_later hb5 (cell_nw w #[.int .u64 0, .int .u32 0, .int .u32 0] 40 2 _ rfl)
  have f2 : w5.frozen? ⟨w.heap.size, 2, none⟩ = false := frz_later hb5 (frz_nw w #[.int .u64 0, .int .u32 0, .int .u32 0] 40 2) (by simp)
  have HB5 := Lib.hid (Below.step (below_a w (.cells #[.int .u64 0, .int .u32 0, .int .u32 0] 40)) hb5)
  clear hb5
  go_wp2_with fail
  refine bodyPost_ret (v := .tuple #[.agg #[.int .u64 (x).1, .int .u32 (x).2.1, .int .u32 (x).2.2], .int .i64 cc]) (by simp [results, Tryz.results72, go_sem, z0, z1, z2, f0, f1, f2]) rfl ⟨rfl, ?_⟩
  exact ((HB5.out.setCell (by simp) _).setCell (by simp) _).setCell (by simp) _
/-- charge.Add of nothing: an entity that is right stays -/
def comeX (x : Ent) : Ent := if Ch.Ok x.1 x.2.1 x.2.2 then x else (0, 0, 0)
def comeC (x : Ent) : Int := if Ch.Ok x.1 x.2.1 x.2.2 then 0 else 2
theorem add_nothing {v r c : Int} (h : Ch.Ok v r c) : Ch.addV v r c 0 = v ∧ Ch.addR v r c 0 = r := by
  unfold Ch.Ok at h
  have e : (0 * 1048576 + r) / c = 0 := by rw [Int.zero_mul, Int.zero_add]; exact Int.ediv_eq_zero_of_lt (by omega) (by omega)
  have m : (0 * 1048576 + r) % c = r := by rw [Int.zero_mul, Int.zero_add]; exact Int.emod_eq_of_lt (by omega) (by omega)
  unfold Ch.addV Ch.addR Ch.atEnd
  simp only [e, m]
  by_cases q : 18446744073709551615 - v ≤ 0
  · rw [if_pos q, if_pos q]; omega
  · rw [if_neg q, if_neg q]; omega
theorem Come_any (v r c : Int) (w : World) (hx : Ch.Fits v r c) : Calls Tryz.prog 49 #[.agg #[.int .u64 v, .int .u32 r, .int .u32 c], .int .i64 0] w (PlP w (comeX (v, r, c)) (comeC (v, r, c))) := by
  unfold comeX comeC
  by_cases h : Ch.Ok v r c
  · rw [if_pos h, if_pos h]
    have := Add_ok v r c 0 w h (by decide)
    rw [(add_nothing h).1, (add_nothing h).2] at this
    exact this
  · rw [if_neg h, if_neg h]
    exact Add_bad v r c 0 w hx (fun q => h q.1)
theorem ComeF_at (fl v r k : Int) (bx : Nat) (w : World) (hx : Ch.Fits v r k) (c0 : w.cell? ⟨bx, 0, none⟩ = some (.int .u64 v)) (c1 : w.cell? ⟨bx, 1, none⟩ = some (.int .u32 r)) (c2 : w.cell? ⟨bx, 2, none⟩ = some (.int .u32 k)) :
    Calls Tryz.prog 48 #[.int .u64 fl, .pointer (some ⟨bx, 0, none⟩)] w (PlP w (comeX (v, r, k)) (comeC (v, r, k))) := by
  have A1 := Lib.hid fun W => Come_any v r k W hx
  have d0 := cell_al (.cells #[.int .u64 0, .int .u32 0, .int .u32 0] 40) c0
  have d1 := cell_al (.cells #[.int .u64 0, .int .u32 0, .int .u32 0] 40) c1
  have d2 := cell_al (.cells #[.int .u64 0, .int .u32 0, .int .u32 0] 40) c2
  generalize comeX (v, r, k) = x at *
  generalize comeC (v, r, k) = cc at *
  clear hx
  go_enter Tryz.func48, Tryz.ntmps48
  go_wp2_with fail
  refine (A1.out _).mono ?_; rintro e w5 ⟨rfl, hb5⟩
  have z0 : w5.cell? ⟨w.heap.size, 0, none⟩ = some (.int .u64 0) := cell_later hb5 (cell_nw w #[.int .u64 0, .int .u32 0, .int .u32 0] 40 0 _ rfl)
  have f0 : w5.frozen? ⟨w.heap.size, 0, none⟩ = false := frz_later hb5 (frz_nw w #[.int .u64 0, .int .u32 0, .int .u32 0] 40 0) (by simp)
  have z1 : w5.cell? ⟨w.heap.size, 1, none⟩ = some (.int .u32 0) := cell_later hb5 (cell_nw w #[.int .u64 0, .int .u32 0, .int .u32 0] 40 1 _ rfl)
  have f1 : w5.frozen? ⟨w.heap.size, 1, none⟩ = false := frz_later hb5 (frz_nw w #[.int .u64 0, .int .u32 0, .int .u32 0] 40 1) (by simp)
  have z2 : w5.cell? ⟨w.heap.size, 2, none⟩ = some (.int .u32 0) := cell_later hb5 (cell_nw w #[.int .u64 0, .int .u32 0, .int .u32 0] 40 2 _ rfl)
  have f2 : w5.frozen? ⟨w.heap.size, 2, none⟩ = false := frz_later hb5 (frz_nw w #[.int .u64 0, .int .u32 0, .int .u32 0] 40 2) (by simp)
  have HB5 := Lib.hid (Below.step (below_a w (.cells #[.int .u64 0, .int .u32 0, .int .u32 0] 40)) hb5)
  clear hb5
  go_wp2_with fail
  refine bodyPost_ret (v := .tuple #[.agg #[.int .u64 (x).1, .int .u32 (x).2.1, .int .u32 (x).2.2], .int .i64 cc]) (by simp [results, Tryz.results48, go_sem, z0, z1, z2, f0, f1, f2]) rfl ⟨rfl, ?_⟩
  exact ((HB5.out.setCell (by simp) _).setCell (by simp) _).setCell (by simp) _
set_option maxRecDepth 100000 in
theorem WakeF_at {t : Nat} {F : List Nat} {s : TSt} (fl v r k : Int) (bx bt : Nat) (w : World) (h : TreeIn w t F s) (hx : Ch.Fits v r k) (hf : 0 ≤ fl ∧ fl ≤ 18446744073709551615) (c0 : w.cell? ⟨bx, 0, none⟩ = some (.int .u64 v)) (c1 : w.cell? ⟨bx, 1, none⟩ = some (.int .u32 r)) (c2 : w.cell? ⟨bx, 2, none⟩ = some (.int .u32 k))
    (ct : w.cell? ⟨bt, 0, none⟩ = some (.pointer (some ⟨t, 0, none⟩))) :
    Calls Tryz.prog 74 #[.int .u64 fl, .pointer (some ⟨bx, 0, none⟩), .pointer (some ⟨bt, 0, none⟩)] w (PlP w (wokenX (v, r, k) fl s.cr) (wokenC (v, r, k))) := by
  obtain ⟨bg, bq, ba, bm, qp, Fq, hr, rfl⟩ := h
  have A1 := Lib.hid fun W => plWoken_at v r k fl s.cr W hx hf hr.cr0
  obtain ⟨W0, hW0⟩ : ∃ W0, W0 = w.alloc (.cells #[.int .u64 0, .int .u32 0, .int .u32 0] 40) := ⟨_, rfl⟩
  have hB0 : Below w.heap.size w W0 := by rw [hW0]; exact below_a _ _
  have d0 := cell_later hB0 c0
  have d1 := cell_later hB0 c1
  have d2 := cell_later hB0 c2
  have dt := cell_later hB0 ct
  have d4 := cell_later hB0 hr.g4
  have y0 : W0.cell? ⟨w.heap.size, 0, none⟩ = some (.int .u64 0) := by rw [hW0]; exact cell_nw _ _ _ 0 _ rfl
  have y1 : W0.cell? ⟨w.heap.size, 1, none⟩ = some (.int .u32 0) := by rw [hW0]; exact cell_nw _ _ _ 1 _ rfl
  have y2 : W0.cell? ⟨w.heap.size, 2, none⟩ = some (.int .u32 0) := by rw [hW0]; exact cell_nw _ _ _ 2 _ rfl
  have yf : ∀ j, W0.frozen? ⟨w.heap.size, j, none⟩ = false := fun j => by rw [hW0]; exact frz_nw _ _ _ j
  generalize wokenX (v, r, k) fl s.cr = x at *
  generalize wokenC (v, r, k) = cc at *
  have HW0 := Lib.hid hW0
  have HB0 := Lib.hid hB0
  have YF := Lib.hid yf
  have nx : bx ∉ [w.heap.size] := by have := lt_of_cell c0; simp; omega
  have nb : bt ∉ [w.heap.size] := by have := lt_of_cell ct; simp; omega
  have nt : t ∉ [w.heap.size] := by have := hr.lt; simp; omega
  clear hx hf hr hW0 hB0 c0 c1 c2 ct yf
  go_enter Tryz.func74, Tryz.ntmps74
  go_wp2_with fail
  rw [← HW0.out]
  have hS0 : Kept [w.heap.size] W0 W0.drew ∧ W0.drew.cell? ⟨bx, 0, none⟩ = some (.int .u64 v) ∧ W0.drew.cell? ⟨bx, 1, none⟩ = some (.int .u32 r) ∧ W0.drew.cell? ⟨bx, 2, none⟩ = some (.int .u32 k) ∧ W0.drew.cell? ⟨bt, 0, none⟩ = some (.pointer (some ⟨t, 0, none⟩)) ∧ W0.drew.cell? ⟨t, 4, none⟩ = some (.int .u64 s.cr) := ⟨Kept.drew (Kept.refl _ _), cell_dr d0, cell_dr d1, cell_dr d2, cell_dr dt, cell_dr d4⟩
  refine wp_region_held_drew (S := fun w' => Kept [w.heap.size] W0 w' ∧ w'.cell? ⟨bx, 0, none⟩ = some (.int .u64 v) ∧ w'.cell? ⟨bx, 1, none⟩ = some (.int .u32 r) ∧ w'.cell? ⟨bx, 2, none⟩ = some (.int .u32 k) ∧ w'.cell? ⟨bt, 0, none⟩ = some (.pointer (some ⟨t, 0, none⟩)) ∧ w'.cell? ⟨t, 4, none⟩ = some (.int .u64 s.cr)) (by kernel_rfl) hS0 (fun hHeld => ?_)
  refine takeH (i := 0) (v := ?v0_72) rfl (by kernel_rfl) (fun _ _ _ h => h) (by rfl) ?hy0_72 (by assumption) ?rest0_72
  case hy0_72 => (intro w hSw; (try dsimp only at hSw); go_simp; try with_reducible rfl)
  try simp only [Act.put, List.setIfInBounds_toArray, List.set_cons_zero, List.set_cons_succ]
  refine takeH (i := 1) (v := ?v1_73) rfl (by kernel_rfl) (fun _ _ _ h => h) (by rfl) ?hy1_73 (by assumption) ?rest1_73
  case hy1_73 => (intro w hSw; (try dsimp only at hSw); go_simp; try with_reducible rfl)
  try simp only [Act.put, List.setIfInBounds_toArray, List.set_cons_zero, List.set_cons_succ]
  refine takeH (i := 2) (v := ?v2_74) rfl (by kernel_rfl) (fun _ _ _ h => h) (by rfl) ?hy2_74 (by assumption) ?rest2_74
  case hy2_74 => (intro w hSw; (try dsimp only at hSw); go_simp; try with_reducible rfl)
  try simp only [Act.put, List.setIfInBounds_toArray, List.set_cons_zero, List.set_cons_succ]
  refine takeH (i := 3) (v := ?v3_75) rfl (by kernel_rfl) (fun _ _ _ h => h) (by rfl) ?hy3_75 (by assumption) ?rest3_75
  case hy3_75 => (intro w hSw; (try dsimp only at hSw); go_simp; try with_reducible rfl)
  try simp only [Act.put, List.setIfInBounds_toArray, List.set_cons_zero, List.set_cons_succ]
  refine takeH (i := 4) (v := ?v4_76) rfl (by kernel_rfl) (fun _ _ _ h => h) (by rfl) ?hy4_76 (by assumption) ?rest4_76
  case hy4_76 => (intro w hSw; (try dsimp only at hSw); go_simp; try with_reducible rfl)
  try simp only [Act.put, List.setIfInBounds_toArray, List.set_cons_zero, List.set_cons_succ]
  refine takeH (i := 5) (v := ?v5_77) rfl (by kernel_rfl) (fun _ _ _ h => h) (by rfl) ?hy5_77 (by assumption) ?rest5_77
  case hy5_77 => (intro w hSw; (try dsimp only at hSw); go_simp; try with_reducible rfl)
  try simp only [Act.put, List.setIfInBounds_toArray, List.set_cons_zero, List.set_cons_succ]
  refine wpAnyH_ready (rs := [6]) (by kernel_rfl) (by simp) ?_
  refine consH rfl (fun K hK => ?_) (AllReadyH.nil)
  go_simp
  refine (A1.out _).mono ?_
  rintro e w5 ⟨rfl, hb5⟩
  have hk5 : Kept [w.heap.size] W0.drew w5 := Kept.of hb5
  have lw := lt_of_cell y0
  have z0 := cell_later hb5 (cell_dr y0)
  have z1 := cell_later hb5 (cell_dr y1)
  have z2 := cell_later hb5 (cell_dr y2)
  have f0 := frz_later hb5 (show W0.drew.frozen? ⟨w.heap.size, 0, none⟩ = false from YF.out 0) lw
  have f1 := frz_later hb5 (show W0.drew.frozen? ⟨w.heap.size, 1, none⟩ = false from YF.out 1) lw
  have f2 := frz_later hb5 (show W0.drew.frozen? ⟨w.heap.size, 2, none⟩ = false from YF.out 2) lw
  have HB5 := Lib.hid (Below.step (HB0.out.drew) hb5)
  go_wp2_with fail
  refine hK.out _ _ ?_ (fun hHeld6 => ?_)
  · (first | assumption | (refine heldK_5 (by assumption) ?_ (by assumption) (by assumption) (by assumption) (by assumption) (by assumption) ; assumption) | (refine heldK_5 (Kept.of (below_ad _ _)) ?_ (by assumption) (by assumption) (by assumption) (by assumption) (by assumption) ; assumption) | (refine heldK_5 (Kept.of (below_a _ _)) ?_ (by assumption) (by assumption) (by assumption) (by assumption) (by assumption) ; assumption))
  clear hK K
  try simp only [Act.put, List.setIfInBounds_toArray, List.set_cons_zero, List.set_cons_succ]
  refine takeH (i := 7) (v := ?v7_78) rfl (by kernel_rfl) (fun _ _ _ h => h) (by rfl) ?hy7_78 (by assumption) ?rest7_78
  case hy7_78 => (intro w hSw; (try dsimp only at hSw); go_simp; try with_reducible rfl)
  try simp only [Act.put, List.setIfInBounds_toArray, List.set_cons_zero, List.set_cons_succ]
  refine takeH (i := 8) (v := ?v8_79) rfl (by kernel_rfl) (fun _ _ _ h => h) (by rfl) ?hy8_79 (by assumption) ?rest8_79
  case hy8_79 => (intro w hSw; (try dsimp only at hSw); go_simp; try with_reducible rfl)
  try simp only [Act.put, List.setIfInBounds_toArray, List.set_cons_zero, List.set_cons_succ]
  refine wpAnyH_ready (rs := [9]) (by kernel_rfl) (by simp) ?_
  refine consH rfl (fun K hK => ?_) (AllReadyH.nil)
  go_simp
  have hk9 := (((Kept.refl [w.heap.size] w5).setCell (p := ⟨w.heap.size, 0, none⟩) (Or.inl (by simp)) (.int .u64 x.1)).setCell (p := ⟨w.heap.size, 1, none⟩) (Or.inl (by simp)) (.int .u32 x.2.1)).setCell (p := ⟨w.heap.size, 2, none⟩) (Or.inl (by simp)) (.int .u32 x.2.2)
  refine hK.out _ _ ?_ (fun hHeld9 => ?_)
  · (first | assumption | (refine heldK_5 (by assumption) ?_ (by assumption) (by assumption) (by assumption) (by assumption) (by assumption) ; assumption) | (refine heldK_5 (Kept.of (below_ad _ _)) ?_ (by assumption) (by assumption) (by assumption) (by assumption) (by assumption) ; assumption) | (refine heldK_5 (Kept.of (below_a _ _)) ?_ (by assumption) (by assumption) (by assumption) (by assumption) (by assumption) ; assumption))
  clear hK K
  try simp only [Act.put, List.setIfInBounds_toArray, List.set_cons_zero, List.set_cons_succ]
  refine takeH (i := 10) (v := ?v10_80) rfl (by kernel_rfl) (fun _ _ _ h => h) (by rfl) ?hy10_80 (by assumption) ?rest10_80
  case hy10_80 => (intro w hSw; (try dsimp only at hSw); go_simp; try with_reducible rfl)
  try simp only [Act.put, List.setIfInBounds_toArray, List.set_cons_zero, List.set_cons_succ]
  refine wpAnyH_done (by kernel_rfl) ?_ _
  skip
  go_wp2_with fail
  refine bodyPost_ret (v := .tuple #[.agg #[.int .u64 (x).1, .int .u32 (x).2.1, .int .u32 (x).2.2], .int .i64 cc]) (by simp [results, Tryz.results74, go_sem, z0, z1, z2, f0, f1, f2]) rfl ⟨rfl, ?_⟩
  exact ((HB5.out.setCell (by simp) _).setCell (by simp) _).setCell (by simp) _
end Go.Proofs.YtfgmglghlapbcaaGreat
