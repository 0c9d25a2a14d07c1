/-
  Layer 25's statements: Groups.
-/
import Derived.Test.YtfgmglghlapbcaaGreatPickT
namespace Go.Proofs.YtfgmglghlapbcaaGreat
open Go.RowKit Go.Maps Go.IntWalk Go.Lib Go.Sort Go.Shelf
set_option linter.unusedVariables false
set_option linter.unusedSimpArgs false
/-- append to an own row: what was in it may still be read where it lay -/
theorem step_append_own3 {P : Program} {ops : Array Oper} {o : Oper} {a : Act} {w : World} {K : Act → World → Prop} {Q : Exit → Act → World → Prop} {E : Prop}
    (hg : o.guard = none) (s x : Operand) (t : TypeId) (hop : o.op = Op.call { callee := Callee.builtin Builtin.append, args := #[s, x], argTypes := #[t, t] })
    (base : Nat) (e : TypeId) (i : TypeInfo) (z : Value) (size bytes : Nat) (h1 : P.underlying t = some (.slice e)) (h2 : P.info? e = some i) (h3 : i.zero = some z) (h4 : i.size = size) (h5 : i.bytes = bytes) (h6 : z.cells.size = size) (h7 : 0 < size)
    (v : Value) (n : Nat) (xs : List Value) (hs : a.eval s = v) (hown : w.ownsRow base e size v n xs)
    (ad : Addr) (m c : Nat) (news : List Value) (hx : a.eval x = .slice (some ad) m c) (hn : news.length = m * size) (hc : ∀ j u, news[j]? = some u → w.cell? (ad.add j) = some u) (h1c : ∀ u ∈ news, u.oneCell' = true)
    (b1 : n + m ≤ maxLen) (b2 : (n + m) * bytes ≤ 140737488355328) (hbase : base ≤ w.heap.size) (hm : 0 < m)
    (hK : ∀ v' w', w'.ownsRow base e size v' (n + m) (xs ++ news) → w.grownBy w' v.ownBlock → (v'.ownBlock = v.ownBlock ∨ v'.ownBlock = some w.heap.size) → (∀ g j u, v.ownBlock = some g → xs[j]? = some u → w'.cell? ⟨g, j, none⟩ = some u) → K (a.put o.dst v') w') :
    if Region.wanted o (yielded ops a.tmps) = true then Oper.wp P o a w K Q else E := by
  have hw : Region.wanted o (yielded ops a.tmps) = true := by simp [Region.wanted, hg]
  rw [if_pos hw]
  obtain ⟨v', w', hrun, r1, r2, _⟩ := run_append_own (P := P) w base t o.type e i z size bytes h1 h2 h3 h4 h5 h6 h7 v n xs hown ad m c news hn hc h1c b1 b2 hbase
  have h8 := run_append_place (P := P) (w := w) base t o.type e i z size bytes h1 h2 h3 h4 h5 h6 h7 v n xs hown ad m c news hn hc h1c b1 b2 hm hrun
  have h9 : ∀ g j u, v.ownBlock = some g → xs[j]? = some u → w'.cell? ⟨g, j, none⟩ = some u := fun g j u hv hj => by
    have hlt := (hown.lt g hv).2
    rcases h8 with q | q
    · have hjl : j < xs.length := (List.getElem?_eq_some_iff.1 hj).1
      have := r1.cells (g := g) (q.trans hv) j u (by rw [List.getElem?_append_left hjl]; exact hj)
      rwa [addN, Nat.zero_add] at this
    · rcases hown.2 with ⟨rfl, _⟩ | ⟨g', cap, cur, rfl, hbg, hgg, hnc, hcm, hcs, htake⟩
      · cases hv
      · cases hv
        have holds : ∀ j u, xs[j]? = some u → w.cell? ((⟨g', 0, none⟩ : Addr).add j) = some u := hown.cells (g := g') rfl
        by_cases hroom : n + m ≤ cap
        · have hfit : n * i.size + news.length ≤ cur.size := by rw [hn, hcs, h4, ← Nat.add_mul]; exact Nat.mul_le_mul_right _ hroom
          rw [run_append_room (P := P) w t o.type e i h1 h2 g' n cap cur hgg ad m c news (by rw [h4]; exact hn) hc h1c hroom hfit] at hrun
          cases hrun
          exact absurd (Option.some.inj q) (by omega)
        · rw [run_append_grow (P := P) w t o.type e i z h1 h2 h3 ⟨g', 0, none⟩ n cap xs (by rw [h4]; exact hown.1) holds ad m c news (by rw [h4]; exact hn) hc (by omega) (by unfold maxLen at b1; omega) (growslice_fits (by omega) (by rw [h5]; exact b2))] at hrun
          cases hrun
          have := holds j u hj
          rw [addN, Nat.zero_add] at this
          exact cell_al _ (cell_dr this)
  unfold Oper.wp
  simp [execOp, hop, resolve, invoke, builtin, hs, hx, hrun, Result.andThen]
  exact hK v' w' r1 r2 h8 h9
/-! ### one more group -/
theorem upL_congr {P Q : Nat → Nat} : ∀ g, (∀ k, k ≤ g → P k = Q k) → upL P g = upL Q g := by
  intro g
  induction g using Nat.strongRecOn with
  | ind g ih =>
    intro h
    conv => lhs; rw [upL]
    conv => rhs; rw [upL]
    rw [h g (Nat.le_refl _)]
    congr 1
    by_cases q : 0 < g ∧ Q g < g
    · rw [dif_pos q, dif_pos q]
      exact ih _ q.2 fun k hk => h k (by omega)
    · rw [dif_neg q, dif_neg q]
theorem snoc_old {Gs : Grps} {x : Int × Int} {k : Nat} (h : k < Gs.length) : (Gs ++ [x])[k]! = Gs[k]! := by
  rw [getElem!_pos (Gs ++ [x]) k (by simp; omega), getElem!_pos Gs k h, List.getElem_append_left h]
theorem snoc_new {Gs : Grps} {x : Int × Int} : (Gs ++ [x])[Gs.length]! = x := by
  rw [getElem!_pos (Gs ++ [x]) Gs.length (by simp)]
  simp
theorem snoc_par {Gs : Grps} {x : Int × Int} {k : Nat} (h : k < Gs.length) : parG (Gs ++ [x]) k = parG Gs k := by unfold parG; rw [snoc_old h]
theorem snoc_up {Gs : Grps} {x : Int × Int} {k : Nat} (h : k < Gs.length) : upL (parG (Gs ++ [x])) k = upL (parG Gs) k := upL_congr k fun j hj => snoc_par (by omega)
theorem RightG.snoc {Gs : Grps} (h : RightG Gs) {up : Nat} {wt : Int} (hu : up < Gs.length) (hd : ((upL (parG Gs) up).length : Int) - 1 ≤ 3) (hw : 1 ≤ wt ∧ wt ≤ 65536) (hl : Gs.length < 256) :
    RightG (Gs ++ [((up : Int), wt)]) ∧ upL (parG (Gs ++ [((up : Int), wt)])) Gs.length = Gs.length :: upL (parG Gs) up := by
  have hp : parG (Gs ++ [((up : Int), wt)]) Gs.length = up := by unfold parG; rw [snoc_new]; simp
  have hu2 : upL (parG (Gs ++ [((up : Int), wt)])) Gs.length = Gs.length :: upL (parG Gs) up := by rw [upL_pos (by omega) (by omega), hp, snoc_up hu]
  refine ⟨⟨by simp; omega, by simp, by rw [snoc_old h.pos]; exact h.root, fun g h1 h2 => ?_⟩, hu2⟩
  by_cases e : g < Gs.length
  · have i := h.rest g h1 e
    unfold gErr at i ⊢
    rw [snoc_old e, snoc_up e]
    exact i
  · have e' : g = Gs.length := by simp at h2; omega
    subst e'
    unfold gErr
    rw [snoc_new, hu2]
    simp only [List.length_cons]
    push_cast
    rw [if_neg (by omega), if_neg (by omega), if_neg (by omega)]
/-- the groups on the way, and their depths -/
structure GrOk (Gs : Grps) (ds : List Int) : Prop where
  right : RightG Gs
  len : ds.length = Gs.length
  dep : ∀ j, j < Gs.length → ds[j]! = ((upL (parG Gs) j).length : Int) - 1
theorem GrOk.le {Gs : Grps} {ds : List Int} (h : GrOk Gs ds) {j : Nat} (hj : j < Gs.length) : 0 ≤ ds[j]! ∧ ds[j]! ≤ 4 := by
  rw [h.dep j hj]
  by_cases hz : j = 0
  · subst hz; rw [upL_zero]; simp
  · have := (gErr_par (h.right.rest j (by omega) hj)).2.2.2.2
    rw [upL] at this ⊢
    simp only [List.length_cons] at this ⊢
    push_cast at this ⊢
    omega
theorem GrOk.snoc {Gs : Grps} {ds : List Int} (h : GrOk Gs ds) {up : Nat} {wt : Int} (hu : up < Gs.length) (hd : ds[up]! ≠ 4) (hw : 1 ≤ wt ∧ wt ≤ 65536) (hl : Gs.length < 256) : GrOk (Gs ++ [((up : Int), wt)]) (ds ++ [ds[up]! + 1]) := by
  have hle := h.le hu
  have e := h.dep up hu
  obtain ⟨r1, r2⟩ := h.right.snoc (wt := wt) hu (by omega) hw hl
  refine ⟨r1, by simp [h.len], fun j hj => ?_⟩
  by_cases q : j < Gs.length
  · rw [snoc_up q, ← h.dep j q, getElem!_pos (ds ++ [ds[up]! + 1]) j (by simp; rw [h.len]; omega), getElem!_pos ds j (by rw [h.len]; exact q), List.getElem_append_left (by rw [h.len]; exact q)]
  · have e' : j = Gs.length := by simp at hj; omega
    subst e'
    rw [r2, e]
    have hx : (ds ++ [((upL (parG Gs) up).length : Int) - 1 + 1])[Gs.length]! = ((upL (parG Gs) up).length : Int) - 1 + 1 := by
      rw [getElem!_pos (ds ++ [((upL (parG Gs) up).length : Int) - 1 + 1]) Gs.length (by simp [h.len])]
      simp [← h.len]
    rw [hx]
    simp only [List.length_cons]
    push_cast
    omega
theorem GrOk.one : GrOk [(0, 1)] [0] := ⟨⟨by decide, by decide, rfl, fun g h1 h2 => by simp at h2; omega⟩, rfl, fun j hj => by
  have : j = 0 := by simp at hj; omega
  subst this
  rw [upL_zero]; rfl⟩
/-! ### Groups -/
structure GrIn (base : Nat) (w : World) (v1 v2 : Value) (Gs : Grps) (ds : List Int) : Prop where
  o1 : w.ownsRow base 53 2 v1 Gs.length (flatR encG Gs)
  o2 : w.ownsRow base 3 1 v2 ds.length (intsV ds)
  ne : ∀ b, v1.ownBlock = some b → v2.ownBlock ≠ some b
theorem grin_done {base : Nat} {w : World} {Gs : Grps} {ds : List Int} {x : Int × Int} {y : Int} {k b1 b2 c1 c2 : Nat} (o1 : w.ownsRow base 53 2 (.slice (some ⟨b1, 0, none⟩) (k + 1 + 1) c1) (k + 1 + 1) (flatR encG Gs ++ [.int .i64 x.1, .int .i64 x.2])) (o2 : w.ownsRow base 3 1 (.slice (some ⟨b2, 0, none⟩) (k + 1 + 1) c2) (k + 1 + 1) (intsV ds ++ [.int .i64 y]))
    (ne : b1 ≠ b2) (hg : Gs.length = k + 1) (hd : ds.length = k + 1) : GrIn base w (.slice (some ⟨b1, 0, none⟩) (k + 1 + 1 : Nat) c1) (.slice (some ⟨b2, 0, none⟩) (k + 1 + 1 : Nat) c2) (Gs ++ [x]) (ds ++ [y]) := by
  refine ⟨?_, ?_, fun b e e' => ne ((Option.some.inj e).trans (Option.some.inj e').symm)⟩
  · rw [flatR_app, List.length_append, hg]
    exact o1
  · rw [ints_snoc, List.length_append, hd]
    exact o2
def GroupsP (w : World) (e : Ending) (w' : World) : Prop := ∃ Gs v, e = .returned v ∧ RightG Gs ∧ Gs.length ≤ 7 ∧ w'.ownsRow w.heap.size 53 2 v Gs.length (flatR encG Gs) ∧ Below w.heap.size w w'
set_option maxRecDepth 100000 in
set_option maxHeartbeats 4000000 in
theorem Groups_at (a a' : Option Addr) (n n' c c' : Nat) (ps ws : List Int) (w : World) (hp : RowAt .u8 w a n ps) (hw : RowAt .u16 w a' n' ws) (hpb : ∀ x ∈ ps, 0 ≤ x ∧ x ≤ 255) (hwb : ∀ x ∈ ws, 0 ≤ x ∧ x ≤ 65535) :
    Calls Tryz.prog 9 #[.slice a n c, .slice a' n' c'] w (GroupsP w) := by
  obtain ⟨ig, hi, hz0, hz1, hz2⟩ := info_parts infoGroup
  obtain ⟨ii, hj, hy0, hy1, hy2⟩ := info_parts infoI
  have HP := Lib.hid hp
  have HW := Lib.hid hw
  have HPB := Lib.hid hpb
  have HWB := Lib.hid hwb
  obtain ⟨m, hm⟩ : ∃ m : Nat, m = min (min n n') 6 := ⟨_, rfl⟩
  have hmi : min (min (n : Int) (n' : Int)) 6 = (m : Int) := by omega
  have hmn : m ≤ n ∧ m ≤ n' ∧ m ≤ 6 := by omega
  have HM := Lib.hid hmn
  clear hp hw hpb hwb hm hmn
  have hB0 : Below w.heap.size w ((w.alloc (.cells #[.int .i64 0, .int .i64 1] 53)).alloc (.cells #[.int .i64 0] 3)) := Below.allocS (Below.allocS (Below.refl _ _) _) _
  have hG0 : GrIn w.heap.size ((w.alloc (.cells #[.int .i64 0, .int .i64 1] 53)).alloc (.cells #[.int .i64 0] 3)) (.slice (some ⟨w.heap.size, 0, none⟩) 1 1) (.slice (some ⟨w.heap.size + 1, 0, none⟩) 1 1) [(0, 1)] [0] := by
    refine ⟨(World.ownsRow_lit w #[.int .i64 0, .int .i64 1] 1 (Nat.le_refl _) (by unfold maxLen; omega) rfl).alloc _, ?_, fun b e e' => by have h1 : w.heap.size = b := Option.some.inj e; have h2 : w.heap.size + 1 = b := Option.some.inj e'; omega⟩
    have := World.ownsRow_lit (base := w.heap.size) (e := 3) (size := 1) (w.alloc (.cells #[.int .i64 0, .int .i64 1] 53)) #[.int .i64 0] 1 (by simp) (by unfold maxLen; omega) rfl
    rw [show (w.alloc (.cells #[.int .i64 0, .int .i64 1] 53)).heap.size = w.heap.size + 1 by simp] at this
    exact this
  have HB0 := Lib.hid hB0
  have HG0 := Lib.hid hG0
  clear hB0 hG0
  go_enter Tryz.func9, Tryz.ntmps9
  go_upto_region 3 with fail
  go_cut [12, 13, 14, 15, 16, 17] (fun s12 s13 s14 s15 s16 s17 wx => s16 = .int .i64 m ∧ s17 = .int .i64 0 ∧ wx = (w.alloc (.cells #[.int .i64 0, .int .i64 1] 53)).alloc (.cells #[.int .i64 0] 3))
  case first =>
    go_wp2_with fail
    all_goals go_meet
    all_goals
      case rel => exact ⟨by congr 1; omega, rfl, rfl⟩
  case rest =>
    obtain ⟨rfl, rfl, rfl⟩ := hcut
    go_wp2_with fail
    go_loopw [5, 6, 17] (fun v1 v2 i wr => ∃ (k : Nat) (Gs : Grps) (ds : List Int) (bo co d cd : Nat), k ≤ m ∧ i = .int .i64 k ∧ v1 = .slice (some ⟨bo, 0, none⟩) (k + 1 : Nat) co ∧ v2 = .slice (some ⟨d, 0, none⟩) (k + 1 : Nat) cd ∧ Gs.length = k + 1 ∧ GrIn w.heap.size wr (.slice (some ⟨bo, 0, none⟩) (k + 1 : Nat) co) (.slice (some ⟨d, 0, none⟩) (k + 1 : Nat) cd) Gs ds ∧ Below w.heap.size w wr ∧ Hid (GrOk Gs ds)) (fun _ _ i _ => m - (intOf i).toNat)
    case atStart => exact ⟨0, _, _, _, _, _, _, Nat.zero_le _, rfl, rfl, rfl, rfl, HG0.out, HB0.out, Lib.hid GrOk.one⟩
    case round =>
      obtain ⟨k, Gs, ds, bo, co, d, cd, hk, rfl, rfl, rfl, hgl, hG, hB, hok⟩ := hrel
      have HB := Lib.hid hB
      have HG := Lib.hid hG
      by_cases hlt : k < m
      · have hki : (k : Int) < (m : Int) := by omega
        have z0 : decide ((k : Int) < (m : Int)) = true := decide_eq_true hki
        obtain ⟨b, off, rfl, hpc⟩ := HP.out.2 (by have := HM.out; omega)
        obtain ⟨b', off', rfl, hwc⟩ := HW.out.2 (by have := HM.out; omega)
        have hkp : k < ps.length := by rw [HP.out.1]; have := HM.out; omega
        have hkw : k < ws.length := by rw [HW.out.1]; have := HM.out; omega
        have cp := cell_later hB (hpc k _ (List.getElem?_eq_getElem hkp))
        have cw := cell_later hB (hwc k _ (List.getElem?_eq_getElem hkw))
        have bp := HPB.out _ (List.getElem_mem hkp)
        have bw := HWB.out _ (List.getElem_mem hkw)
        have hkw' := hkw
        generalize ps[k] = p at *
        generalize ws[k] = wv at *
        have hkn : (k : Int) < (n : Int) := by have := HM.out; omega
        have hkn' : (k : Int) < (n' : Int) := by have := HM.out; omega
        obtain ⟨up, hup⟩ : ∃ up : Nat, up = p.toNat % (k + 1) := ⟨_, rfl⟩
        have hul : up < k + 1 := by rw [hup]; exact Nat.mod_lt _ (by omega)
        have hmod : Int.tmod p ((k : Int) + 1) = (up : Int) := by
          rw [Int.tmod_eq_emod_of_nonneg bp.1, hup]
          push_cast
          rw [show ((p.toNat : Nat) : Int) = p by omega]
        have hmod' : p.tmod ((k + 1 : Nat) : Int) = (up : Int) := by push_cast; exact hmod
        have z1 : IntKind.i64.wrap p = p := IntWalk.i64_in _ (by omega)
        have z2 : IntKind.i64.wrap (up : Int) = (up : Int) := IntWalk.i64_in _ (by have := HM.out; omega)
        have z3 : IntKind.i64.wrap wv = wv := IntWalk.i64_in _ (by omega)
        have z4 : IntKind.i64.wrap (1 + wv) = 1 + wv := IntWalk.i64_in _ (by omega)
        have hdl : ds.length = k + 1 := by rw [hok.out.len, hgl]
        have hle := hok.out.le (j := up) (by omega)
        have hle0 := hok.out.le (j := 0) (by omega)
        have o2 := hG.o2
        rw [hdl] at o2
        have dcell : ∀ j, j < k + 1 → wr.cell? ⟨d, j, none⟩ = some (.int .i64 ds[j]!) := fun j hj => by
          rw [o2.cellAt j (by omega)]
          unfold intsV
          rw [List.getElem?_map, List.getElem?_eq_getElem (by rw [hdl]; exact hj), getElem!_pos ds j (by rw [hdl]; exact hj)]
          rfl
        have du := dcell up hul
        have hui : (up : Int) < ((k + 1 : Nat) : Int) := by omega
        have hui' : (up : Int) < (k : Int) + 1 := by omega
        have hk1 : ((k : Int) + 1 = 0) = False := by simp; omega
        have hbl' := lt_of_cell (hwc k _ (List.getElem?_eq_getElem hkw'))
        clear hpc hwc hkp hkw hkw' hB hG
        have hb'l : b' < w.heap.size := hbl'
        have o1 : wr.ownsRow w.heap.size 53 2 (.slice (some ⟨bo, 0, none⟩) (k + 1 : Nat) co) (k + 1) (flatR encG Gs) := by
          have := HG.out.o1
          rw [hgl] at this
          exact this
        have ne : bo ≠ d := fun e => HG.out.ne bo rfl (by rw [e]; rfl)
        have hW := HB.out
        have HOK := hok
        have hgl' := Lib.hid hgl
        have hdl' := Lib.hid hdl
        have hkm6 : k < 6 := by have := HM.out; omega
        obtain ⟨dv, hdv⟩ : ∃ dv, dv = ds[up]! := ⟨_, rfl⟩
        rw [← hdv] at du hle
        by_cases h4 : dv = 4
        · rw [h4] at du
          have hz : ds[0]! = 0 := by rw [hok.out.dep 0 (by omega), upL_zero]; rfl
          have dd := dcell 0 (by omega)
          rw [hz] at dd
          have xg : (intsV ds)[0]? = some (.int .i64 0) := by
            unfold intsV
            rw [List.getElem?_map, List.getElem?_eq_getElem (by rw [hdl]; omega)]
            rw [getElem!_pos ds 0 (by rw [hdl]; omega)] at hz
            rw [hz]
            rfl
          have HSN := Lib.hid (show GrOk (Gs ++ [((0 : Int), 1 + wv)]) (ds ++ [1]) by
            have := hok.out.snoc (up := 0) (wt := 1 + wv) (by omega) (by rw [hz]; decide) (by omega) (by omega)
            rw [hz] at this
            exact this)
          have XG := Lib.hid xg
          have z6 : IntKind.i64.wrap (1 : Int) = 1 := rfl
          clear hup hdv hle hle0 hz dcell hgl hdl h4 xg
          go_wp2_with fail
          have hs : wr.drew.cell? ⟨b', off' + k, none⟩ = some (.int .u16 wv) ∧ wr.drew.cell? ⟨d, 0, none⟩ = some (.int .i64 (0)) := ⟨cell_dr cw, cell_dr dd⟩
          have hS0 : (fun w' : World => w'.cell? ⟨b', off' + k, none⟩ = some (.int .u16 wv) ∧ w'.cell? ⟨d, 0, none⟩ = some (.int .i64 (0))) (wr.drew) := ⟨cell_dr cw, cell_dr dd⟩
          refine wp_region_held_drew (S := fun w' : World => w'.cell? ⟨b', off' + k, none⟩ = some (.int .u16 wv) ∧ w'.cell? ⟨d, 0, none⟩ = some (.int .i64 (0))) (by kernel_rfl) hS0 (fun hHeld => ?_)
          have hS00 : Below wr.heap.size wr wr := Below.refl _ _
          obtain ⟨wc210, hwc210⟩ : ∃ X, X = wr.drew := ⟨_, rfl⟩
          rw [← hwc210] at hHeld ⊢
          have hWc210 : Below wr.heap.size wr wc210 := by rw [hwc210]; exact (Below.refl _ _).drew
          clear hwc210
          refine takeH (i := 0) (v := ?v0_211) rfl (by kernel_rfl) (fun _ _ _ h => h) (by rfl) ?hy0_211 (by assumption) ?rest0_211
          case hy0_211 => (intro w hSw; (try dsimp only at hSw); go_simp; try with_reducible rfl)
          try simp only [Act.put, List.setIfInBounds_toArray, List.set_cons_zero, List.set_cons_succ]
          refine takeH (i := 1) (v := ?v1_212) rfl (by kernel_rfl) (fun _ _ _ h => h) (by rfl) ?hy1_212 (by assumption) ?rest1_212
          case hy1_212 => (intro w hSw; (try dsimp only at hSw); go_simp; try with_reducible rfl)
          try simp only [Act.put, List.setIfInBounds_toArray, List.set_cons_zero, List.set_cons_succ]
          refine takeH (i := 2) (v := ?v2_213) rfl (by kernel_rfl) (fun _ _ _ h => h) (by rfl) ?hy2_213 (by assumption) ?rest2_213
          case hy2_213 => (intro w hSw; (try dsimp only at hSw); go_simp; try with_reducible rfl)
          try simp only [Act.put, List.setIfInBounds_toArray, List.set_cons_zero, List.set_cons_succ]
          refine takeH (i := 3) (v := ?v3_214) rfl (by kernel_rfl) (fun _ _ _ h => h) (by rfl) ?hy3_214 (by assumption) ?rest3_214
          case hy3_214 => (intro w hSw; (try dsimp only at hSw); go_simp; try with_reducible rfl)
          try simp only [Act.put, List.setIfInBounds_toArray, List.set_cons_zero, List.set_cons_succ]
          refine takeH (i := 4) (v := ?v4_215) rfl (by kernel_rfl) (fun _ _ _ h => h) (by rfl) ?hy4_215 (by assumption) ?rest4_215
          case hy4_215 => (intro w hSw; (try dsimp only at hSw); go_simp; try with_reducible rfl)
          try simp only [Act.put, List.setIfInBounds_toArray, List.set_cons_zero, List.set_cons_succ]
          refine takeH (i := 5) (v := ?v5_216) rfl (by kernel_rfl) (fun _ _ _ h => h) (by rfl) ?hy5_216 (by assumption) ?rest5_216
          case hy5_216 => (intro w hSw; (try dsimp only at hSw); go_simp; try with_reducible rfl)
          try simp only [Act.put, List.setIfInBounds_toArray, List.set_cons_zero, List.set_cons_succ]
          refine takeH (i := 6) (v := ?v6_217) rfl (by kernel_rfl) (fun _ _ _ h => h) (by rfl) ?hy6_217 (by assumption) ?rest6_217
          case hy6_217 => (intro w hSw; (try dsimp only at hSw); go_simp; try with_reducible rfl)
          try simp only [Act.put, List.setIfInBounds_toArray, List.set_cons_zero, List.set_cons_succ]
          refine takeH (i := 7) (v := ?v7_218) rfl (by kernel_rfl) (fun _ _ _ h => h) (by rfl) ?hy7_218 (by assumption) ?rest7_218
          case hy7_218 => (intro w hSw; (try dsimp only at hSw); go_simp; try with_reducible rfl)
          try simp only [Act.put, List.setIfInBounds_toArray, List.set_cons_zero, List.set_cons_succ]
          refine takeH (i := 8) (v := ?v8_219) rfl (by kernel_rfl) (fun _ _ _ h => h) (by rfl) ?hy8_219 (by assumption) ?rest8_219
          case hy8_219 => (intro w hSw; (try dsimp only at hSw); go_simp; try with_reducible rfl)
          try simp only [Act.put, List.setIfInBounds_toArray, List.set_cons_zero, List.set_cons_succ]
          refine takeH (i := 11) (v := ?v11_220) rfl (by kernel_rfl) (fun _ _ _ h => h) (by rfl) ?hy11_220 (by assumption) ?rest11_220
          case hy11_220 => (intro w hSw; (try dsimp only at hSw); go_simp; try with_reducible rfl)
          try simp only [Act.put, List.setIfInBounds_toArray, List.set_cons_zero, List.set_cons_succ]
          refine takeH (i := 12) (v := ?v12_221) rfl (by kernel_rfl) (fun _ _ _ h => h) (by rfl) ?hy12_221 (by assumption) ?rest12_221
          case hy12_221 => (intro w hSw; (try dsimp only at hSw); go_simp; try with_reducible rfl)
          try simp only [Act.put, List.setIfInBounds_toArray, List.set_cons_zero, List.set_cons_succ]
          refine takeH (i := 13) (v := ?v13_222) rfl (by kernel_rfl) (fun _ _ _ h => h) (by rfl) ?hy13_222 (by assumption) ?rest13_222
          case hy13_222 => (intro w hSw; (try dsimp only at hSw); go_simp; try with_reducible rfl)
          try simp only [Act.put, List.setIfInBounds_toArray, List.set_cons_zero, List.set_cons_succ]
          refine takeH (i := 14) (v := ?v14_223) rfl (by kernel_rfl) (fun _ _ _ h => h) (by rfl) ?hy14_223 (by assumption) ?rest14_223
          case hy14_223 => (intro w hSw; (try dsimp only at hSw); go_simp; try with_reducible rfl)
          try simp only [Act.put, List.setIfInBounds_toArray, List.set_cons_zero, List.set_cons_succ]
          refine takeH (i := 15) (v := ?v15_224) rfl (by kernel_rfl) (fun _ _ _ h => h) (by rfl) ?hy15_224 (by assumption) ?rest15_224
          case hy15_224 => (intro w hSw; (try dsimp only at hSw); go_simp; try with_reducible rfl)
          try simp only [Act.put, List.setIfInBounds_toArray, List.set_cons_zero, List.set_cons_succ]
          refine takeH (i := 16) (v := ?v16_225) rfl (by kernel_rfl) (fun _ _ _ h => h) (by rfl) ?hy16_225 (by assumption) ?rest16_225
          case hy16_225 => (intro w hSw; (try dsimp only at hSw); go_simp; try with_reducible rfl)
          try simp only [Act.put, List.setIfInBounds_toArray, List.set_cons_zero, List.set_cons_succ]
          refine wpAnyH_ready (rs := [9, 17]) (by kernel_rfl) (by simp) ?_
          refine consH rfl (fun K hK => ?_) (consH rfl (fun K hK => ?_) (AllReadyH.nil))
          · skip
            go_simp
            replace o1 := own_below o1 hWc210
            replace o2 := own_below o2 hWc210
            replace hW := Below.step hW hWc210
            obtain ⟨w226, hw226⟩ : ∃ X, X = wc210.alloc (.cells #[.int .i64 (0), .int .i64 (1 + wv)] 53) := ⟨_, rfl⟩
            rw [← hw226]
            have hb226 : Below wc210.heap.size wc210 w226 := by rw [hw226]; exact below_a _ _
            have q1 : d ≠ wc210.heap.size := by have := (o2.lt d rfl).2; omega
            replace o1 := own_below o1 hb226
            replace o2 := own_below o2 hb226
            have l1 : ∀ j u, ([.int .i64 (0), .int .i64 (1 + wv)] : List Value)[j]? = some u → w226.cell? ⟨wc210.heap.size, j, none⟩ = some u := fun j u h => by rw [hw226]; exact cellN rfl (by simpa using h)
            have hs226 : w226.cell? ⟨b', off' + k, none⟩ = some (.int .u16 wv) ∧ w226.cell? ⟨d, 0, none⟩ = some (.int .i64 (0)) := ⟨cell_later hb226 (by first | exact hHeld.1 | exact hs.1), cell_later hb226 (by first | exact hHeld.2 | exact hs.2)⟩
            clear hs
            have hs := hs226
            clear hs226
            replace hW := Below.step hW hb226
            clear hw226
            refine hK.out _ _ (hs) (fun hHeld9 => ?_)
            clear hK K
            try simp only [Act.put, List.setIfInBounds_toArray, List.set_cons_zero, List.set_cons_succ]
            refine wpAnyH_ready (rs := [10, 17]) (by kernel_rfl) (by simp) ?_
            refine consH rfl (fun K hK => ?_) (consH rfl (fun K hK => ?_) (AllReadyH.nil))
            · skip
              refine step_append_own3 rfl (.tmp 33) (.tmp 42) 27 rfl w.heap.size 53 ig (.agg #[.int .i64 0, .int .i64 0]) 2 16 Tryz.underlying27 hi hz0 hz1 hz2 rfl (by decide) _ (k + 1) (flatR encG Gs) rfl o1 _ 1 1 [.int .i64 (0), .int .i64 (1 + wv)] rfl rfl (fun j u h => by rw [addN, Nat.zero_add]; exact l1 j u h) (fun u hu => by simp at hu; rcases hu with rfl | rfl <;> rfl) (by unfold maxLen; omega) (by omega) hW.size (by decide) ?_
              intro v227 w227 oa227 ga227 pa227 ka227
              obtain ⟨x227, y227, rfl⟩ := own_some oa227
              have kp227 : Kept [bo] w226 w227 := grown_kept ga227
              have lt227 := (o2.lt d rfl).2
              have ge227 := (o1.lt bo rfl).1
              have ne227 : x227 ≠ d := by
                rcases pa227 with q | q
                · have h1 : x227 = bo := Option.some.inj q
                  omega
                · have h1 : x227 = w226.heap.size := Option.some.inj q
                  omega
              replace hW : Below w.heap.size w w227 := hW.grown ga227 hW.size (fun g hg => (o1.lt g hg).1)
              replace o2 := own_kept o2 kp227 (fun b e m => by have h1 : d = b := Option.some.inj e; have h2 : b = bo := (by simpa using m); omega)
              replace hs : w227.cell? ⟨b', off' + k, none⟩ = some (.int .u16 wv) ∧ w227.cell? ⟨d, 0, none⟩ = some (.int .i64 (0)) := ⟨kp227.cellAt hs.1 (by simp; omega), kp227.cellAt hs.2 (by simp; omega)⟩
              clear o1
              have o1 := oa227
              clear oa227 ga227 pa227 ka227 kp227 l1 q1
              refine hK.out _ _ (hs) (fun hHeld10 => ?_)
              clear hK K
              try simp only [Act.put, List.setIfInBounds_toArray, List.set_cons_zero, List.set_cons_succ]
              refine wpAnyH_ready (rs := [17]) (by kernel_rfl) (by simp) ?_
              refine consH rfl (fun K hK => ?_) (AllReadyH.nil)
              go_simp
              obtain ⟨w228, hw228⟩ : ∃ X, X = w227.alloc (.cells #[.int .i64 (1)] 3) := ⟨_, rfl⟩
              rw [← hw228]
              have hb228 : Below w227.heap.size w227 w228 := by rw [hw228]; exact below_a _ _
              have q2 : x227 ≠ w227.heap.size := by have := (o1.lt x227 rfl).2; omega
              replace o1 := own_below o1 hb228
              replace o2 := own_below o2 hb228
              have l2 : ∀ j u, ([.int .i64 (1)] : List Value)[j]? = some u → w228.cell? ⟨w227.heap.size, j, none⟩ = some u := fun j u h => by rw [hw228]; exact cellN rfl (by simpa using h)
              replace hs : w228.cell? ⟨b', off' + k, none⟩ = some (.int .u16 wv) ∧ w228.cell? ⟨d, 0, none⟩ = some (.int .i64 (0)) := ⟨cell_later hb228 hs.1, cell_later hb228 hs.2⟩
              replace hW := Below.step hW hb228
              clear hw228
              refine hK.out _ _ (hs) (fun hHeld17 => ?_)
              clear hK K
              try simp only [Act.put, List.setIfInBounds_toArray, List.set_cons_zero, List.set_cons_succ]
              refine wpAnyH_ready (rs := [18]) (by kernel_rfl) (by simp) ?_
              refine consH rfl (fun K hK => ?_) (AllReadyH.nil)
              refine step_append_own3 rfl (.tmp 44) (.tmp 50) 37 rfl w.heap.size 3 ii (.int .i64 0) 1 8 Tryz.underlying37 hj hy0 hy1 hy2 rfl (by decide) _ (k + 1) (intsV ds) rfl o2 _ 1 1 [.int .i64 (1)] rfl rfl (fun j u h => by rw [addN, Nat.zero_add]; exact l2 j u h) (fun u hu => by simp at hu; subst hu; rfl) (by unfold maxLen; omega) (by omega) hW.size (by decide) ?_
              intro v229 w229 oa229 ga229 pa229 ka229
              obtain ⟨x229, y229, rfl⟩ := own_some oa229
              have kp229 : Kept [d] w228 w229 := grown_kept ga229
              have lt229 := (o1.lt x227 rfl).2
              have ge229 := (o2.lt d rfl).1
              have ne229 : x229 ≠ x227 := by
                rcases pa229 with q | q
                · have h1 : x229 = d := Option.some.inj q
                  omega
                · have h1 : x229 = w228.heap.size := Option.some.inj q
                  omega
              replace hW : Below w.heap.size w w229 := hW.grown ga229 hW.size (fun g hg => (o2.lt g hg).1)
              replace o1 := own_kept o1 kp229 (fun b e m => by have h1 : x227 = b := Option.some.inj e; have h2 : b = d := (by simpa using m); omega)
              replace hs : w229.cell? ⟨b', off' + k, none⟩ = some (.int .u16 wv) ∧ w229.cell? ⟨d, 0, none⟩ = some (.int .i64 (0)) := ⟨kp229.cellAt hs.1 (by simp; omega), ka229 d 0 _ rfl XG.out⟩
              clear o2
              have o2 := oa229
              clear oa229 ga229 pa229 ka229 kp229 l2 q2
              refine hK.out _ _ (hs) (fun hHeld18 => ?_)
              clear hK K
              try simp only [Act.put, List.setIfInBounds_toArray, List.set_cons_zero, List.set_cons_succ]
              refine takeH (i := 19) (v := ?v19_230) rfl (by kernel_rfl) (fun _ _ _ h => h) (by rfl) ?hy19_230 (by assumption) ?rest19_230
              case hy19_230 => (intro w hSw; (try dsimp only at hSw); go_simp; try with_reducible rfl)
              try simp only [Act.put, List.setIfInBounds_toArray, List.set_cons_zero, List.set_cons_succ]
              refine takeH (i := 20) (v := ?v20_231) rfl (by kernel_rfl) (fun _ _ _ h => h) (by rfl) ?hy20_231 (by assumption) ?rest20_231
              case hy20_231 => (intro w hSw; (try dsimp only at hSw); go_simp; try with_reducible rfl)
              try simp only [Act.put, List.setIfInBounds_toArray, List.set_cons_zero, List.set_cons_succ]
              refine wpAnyH_done (by kernel_rfl) ?_ _
              have hGN := Lib.hid (grin_done (x := (0, 1 + wv)) (y := 1) o1 o2 (show (x227 : Nat) ≠ x229 by omega) hgl'.out hdl'.out)
              have HWN := Lib.hid hW
              clear o1 o2 hs
              go_wp2_with fail
              go_roundw
              case rel => exact ⟨k + 1, _, _, _, _, _, _, by omega, by go_num, rfl, rfl, by simp [hgl'.out], hGN.out, HWN.out, HSN⟩
              case measure => simp [intOf]; omega
            · skip
              go_simp
              obtain ⟨w232, hw232⟩ : ∃ X, X = w226.alloc (.cells #[.int .i64 (1)] 3) := ⟨_, rfl⟩
              rw [← hw232]
              have hb232 : Below w226.heap.size w226 w232 := by rw [hw232]; exact below_a _ _
              have q2 : bo ≠ w226.heap.size := by have := (o1.lt bo rfl).2; omega
              replace o1 := own_below o1 hb232
              replace o2 := own_below o2 hb232
              have l2 : ∀ j u, ([.int .i64 (1)] : List Value)[j]? = some u → w232.cell? ⟨w226.heap.size, j, none⟩ = some u := fun j u h => by rw [hw232]; exact cellN rfl (by simpa using h)
              replace l1 := fun j u h => cell_later hb232 (l1 j u h)
              replace hs : w232.cell? ⟨b', off' + k, none⟩ = some (.int .u16 wv) ∧ w232.cell? ⟨d, 0, none⟩ = some (.int .i64 (0)) := ⟨cell_later hb232 hs.1, cell_later hb232 hs.2⟩
              replace hW := Below.step hW hb232
              clear hw232
              refine hK.out _ _ (hs) (fun hHeld17 => ?_)
              clear hK K
              try simp only [Act.put, List.setIfInBounds_toArray, List.set_cons_zero, List.set_cons_succ]
              refine wpAnyH_ready (rs := [10]) (by kernel_rfl) (by simp) ?_
              refine consH rfl (fun K hK => ?_) (AllReadyH.nil)
              refine step_append_own3 rfl (.tmp 33) (.tmp 42) 27 rfl w.heap.size 53 ig (.agg #[.int .i64 0, .int .i64 0]) 2 16 Tryz.underlying27 hi hz0 hz1 hz2 rfl (by decide) _ (k + 1) (flatR encG Gs) rfl o1 _ 1 1 [.int .i64 (0), .int .i64 (1 + wv)] rfl rfl (fun j u h => by rw [addN, Nat.zero_add]; exact l1 j u h) (fun u hu => by simp at hu; rcases hu with rfl | rfl <;> rfl) (by unfold maxLen; omega) (by omega) hW.size (by decide) ?_
              intro v233 w233 oa233 ga233 pa233 ka233
              obtain ⟨x233, y233, rfl⟩ := own_some oa233
              have kp233 : Kept [bo] w232 w233 := grown_kept ga233
              have lt233 := (o2.lt d rfl).2
              have ge233 := (o1.lt bo rfl).1
              have ne233 : x233 ≠ d := by
                rcases pa233 with q | q
                · have h1 : x233 = bo := Option.some.inj q
                  omega
                · have h1 : x233 = w232.heap.size := Option.some.inj q
                  omega
              replace hW : Below w.heap.size w w233 := hW.grown ga233 hW.size (fun g hg => (o1.lt g hg).1)
              replace o2 := own_kept o2 kp233 (fun b e m => by have h1 : d = b := Option.some.inj e; have h2 : b = bo := (by simpa using m); omega)
              replace l2 := fun j u h => kp233.cellAt (l2 j u h) (by simp; omega)
              replace hs : w233.cell? ⟨b', off' + k, none⟩ = some (.int .u16 wv) ∧ w233.cell? ⟨d, 0, none⟩ = some (.int .i64 (0)) := ⟨kp233.cellAt hs.1 (by simp; omega), kp233.cellAt hs.2 (by simp; omega)⟩
              clear o1
              have o1 := oa233
              clear oa233 ga233 pa233 ka233 kp233 l1 q1
              refine hK.out _ _ (hs) (fun hHeld10 => ?_)
              clear hK K
              try simp only [Act.put, List.setIfInBounds_toArray, List.set_cons_zero, List.set_cons_succ]
              refine wpAnyH_ready (rs := [18]) (by kernel_rfl) (by simp) ?_
              refine consH rfl (fun K hK => ?_) (AllReadyH.nil)
              refine step_append_own3 rfl (.tmp 44) (.tmp 50) 37 rfl w.heap.size 3 ii (.int .i64 0) 1 8 Tryz.underlying37 hj hy0 hy1 hy2 rfl (by decide) _ (k + 1) (intsV ds) rfl o2 _ 1 1 [.int .i64 (1)] rfl rfl (fun j u h => by rw [addN, Nat.zero_add]; exact l2 j u h) (fun u hu => by simp at hu; subst hu; rfl) (by unfold maxLen; omega) (by omega) hW.size (by decide) ?_
              intro v234 w234 oa234 ga234 pa234 ka234
              obtain ⟨x234, y234, rfl⟩ := own_some oa234
              have kp234 : Kept [d] w233 w234 := grown_kept ga234
              have lt234 := (o1.lt x233 rfl).2
              have ge234 := (o2.lt d rfl).1
              have ne234 : x234 ≠ x233 := by
                rcases pa234 with q | q
                · have h1 : x234 = d := Option.some.inj q
                  omega
                · have h1 : x234 = w233.heap.size := Option.some.inj q
                  omega
              replace hW : Below w.heap.size w w234 := hW.grown ga234 hW.size (fun g hg => (o2.lt g hg).1)
              replace o1 := own_kept o1 kp234 (fun b e m => by have h1 : x233 = b := Option.some.inj e; have h2 : b = d := (by simpa using m); omega)
              replace hs : w234.cell? ⟨b', off' + k, none⟩ = some (.int .u16 wv) ∧ w234.cell? ⟨d, 0, none⟩ = some (.int .i64 (0)) := ⟨kp234.cellAt hs.1 (by simp; omega), ka234 d 0 _ rfl XG.out⟩
              clear o2
              have o2 := oa234
              clear oa234 ga234 pa234 ka234 kp234 l2 q2
              refine hK.out _ _ (hs) (fun hHeld18 => ?_)
              clear hK K
              try simp only [Act.put, List.setIfInBounds_toArray, List.set_cons_zero, List.set_cons_succ]
              refine takeH (i := 19) (v := ?v19_235) rfl (by kernel_rfl) (fun _ _ _ h => h) (by rfl) ?hy19_235 (by assumption) ?rest19_235
              case hy19_235 => (intro w hSw; (try dsimp only at hSw); go_simp; try with_reducible rfl)
              try simp only [Act.put, List.setIfInBounds_toArray, List.set_cons_zero, List.set_cons_succ]
              refine takeH (i := 20) (v := ?v20_236) rfl (by kernel_rfl) (fun _ _ _ h => h) (by rfl) ?hy20_236 (by assumption) ?rest20_236
              case hy20_236 => (intro w hSw; (try dsimp only at hSw); go_simp; try with_reducible rfl)
              try simp only [Act.put, List.setIfInBounds_toArray, List.set_cons_zero, List.set_cons_succ]
              refine wpAnyH_done (by kernel_rfl) ?_ _
              have hGN := Lib.hid (grin_done (x := (0, 1 + wv)) (y := 1) o1 o2 (show (x233 : Nat) ≠ x234 by omega) hgl'.out hdl'.out)
              have HWN := Lib.hid hW
              clear o1 o2 hs
              go_wp2_with fail
              go_roundw
              case rel => exact ⟨k + 1, _, _, _, _, _, _, by omega, by go_num, rfl, rfl, by simp [hgl'.out], hGN.out, HWN.out, HSN⟩
              case measure => simp [intOf]; omega
          · skip
            go_simp
            replace o1 := own_below o1 hWc210
            replace o2 := own_below o2 hWc210
            replace hW := Below.step hW hWc210
            obtain ⟨w237, hw237⟩ : ∃ X, X = wc210.alloc (.cells #[.int .i64 (1)] 3) := ⟨_, rfl⟩
            rw [← hw237]
            have hb237 : Below wc210.heap.size wc210 w237 := by rw [hw237]; exact below_a _ _
            have q2 : bo ≠ wc210.heap.size := by have := (o1.lt bo rfl).2; omega
            replace o1 := own_below o1 hb237
            replace o2 := own_below o2 hb237
            have l2 : ∀ j u, ([.int .i64 (1)] : List Value)[j]? = some u → w237.cell? ⟨wc210.heap.size, j, none⟩ = some u := fun j u h => by rw [hw237]; exact cellN rfl (by simpa using h)
            have hs237 : w237.cell? ⟨b', off' + k, none⟩ = some (.int .u16 wv) ∧ w237.cell? ⟨d, 0, none⟩ = some (.int .i64 (0)) := ⟨cell_later hb237 (by first | exact hHeld.1 | exact hs.1), cell_later hb237 (by first | exact hHeld.2 | exact hs.2)⟩
            clear hs
            have hs := hs237
            clear hs237
            replace hW := Below.step hW hb237
            clear hw237
            refine hK.out _ _ (hs) (fun hHeld17 => ?_)
            clear hK K
            try simp only [Act.put, List.setIfInBounds_toArray, List.set_cons_zero, List.set_cons_succ]
            refine wpAnyH_ready (rs := [9]) (by kernel_rfl) (by simp) ?_
            refine consH rfl (fun K hK => ?_) (AllReadyH.nil)
            go_simp
            obtain ⟨w238, hw238⟩ : ∃ X, X = w237.alloc (.cells #[.int .i64 (0), .int .i64 (1 + wv)] 53) := ⟨_, rfl⟩
            rw [← hw238]
            have hb238 : Below w237.heap.size w237 w238 := by rw [hw238]; exact below_a _ _
            have q1 : d ≠ w237.heap.size := by have := (o2.lt d rfl).2; omega
            replace o1 := own_below o1 hb238
            replace o2 := own_below o2 hb238
            have l1 : ∀ j u, ([.int .i64 (0), .int .i64 (1 + wv)] : List Value)[j]? = some u → w238.cell? ⟨w237.heap.size, j, none⟩ = some u := fun j u h => by rw [hw238]; exact cellN rfl (by simpa using h)
            replace l2 := fun j u h => cell_later hb238 (l2 j u h)
            replace hs : w238.cell? ⟨b', off' + k, none⟩ = some (.int .u16 wv) ∧ w238.cell? ⟨d, 0, none⟩ = some (.int .i64 (0)) := ⟨cell_later hb238 hs.1, cell_later hb238 hs.2⟩
            replace hW := Below.step hW hb238
            clear hw238
            refine hK.out _ _ (hs) (fun hHeld9 => ?_)
            clear hK K
            try simp only [Act.put, List.setIfInBounds_toArray, List.set_cons_zero, List.set_cons_succ]
            refine wpAnyH_ready (rs := [10]) (by kernel_rfl) (by simp) ?_
            refine consH rfl (fun K hK => ?_) (AllReadyH.nil)
            refine step_append_own3 rfl (.tmp 33) (.tmp 42) 27 rfl w.heap.size 53 ig (.agg #[.int .i64 0, .int .i64 0]) 2 16 Tryz.underlying27 hi hz0 hz1 hz2 rfl (by decide) _ (k + 1) (flatR encG Gs) rfl o1 _ 1 1 [.int .i64 (0), .int .i64 (1 + wv)] rfl rfl (fun j u h => by rw [addN, Nat.zero_add]; exact l1 j u h) (fun u hu => by simp at hu; rcases hu with rfl | rfl <;> rfl) (by unfold maxLen; omega) (by omega) hW.size (by decide) ?_
            intro v239 w239 oa239 ga239 pa239 ka239
            obtain ⟨x239, y239, rfl⟩ := own_some oa239
            have kp239 : Kept [bo] w238 w239 := grown_kept ga239
            have lt239 := (o2.lt d rfl).2
            have ge239 := (o1.lt bo rfl).1
            have ne239 : x239 ≠ d := by
              rcases pa239 with q | q
              · have h1 : x239 = bo := Option.some.inj q
                omega
              · have h1 : x239 = w238.heap.size := Option.some.inj q
                omega
            replace hW : Below w.heap.size w w239 := hW.grown ga239 hW.size (fun g hg => (o1.lt g hg).1)
            replace o2 := own_kept o2 kp239 (fun b e m => by have h1 : d = b := Option.some.inj e; have h2 : b = bo := (by simpa using m); omega)
            replace l2 := fun j u h => kp239.cellAt (l2 j u h) (by simp; omega)
            replace hs : w239.cell? ⟨b', off' + k, none⟩ = some (.int .u16 wv) ∧ w239.cell? ⟨d, 0, none⟩ = some (.int .i64 (0)) := ⟨kp239.cellAt hs.1 (by simp; omega), kp239.cellAt hs.2 (by simp; omega)⟩
            clear o1
            have o1 := oa239
            clear oa239 ga239 pa239 ka239 kp239 l1 q1
            refine hK.out _ _ (hs) (fun hHeld10 => ?_)
            clear hK K
            try simp only [Act.put, List.setIfInBounds_toArray, List.set_cons_zero, List.set_cons_succ]
            refine wpAnyH_ready (rs := [18]) (by kernel_rfl) (by simp) ?_
            refine consH rfl (fun K hK => ?_) (AllReadyH.nil)
            refine step_append_own3 rfl (.tmp 44) (.tmp 50) 37 rfl w.heap.size 3 ii (.int .i64 0) 1 8 Tryz.underlying37 hj hy0 hy1 hy2 rfl (by decide) _ (k + 1) (intsV ds) rfl o2 _ 1 1 [.int .i64 (1)] rfl rfl (fun j u h => by rw [addN, Nat.zero_add]; exact l2 j u h) (fun u hu => by simp at hu; subst hu; rfl) (by unfold maxLen; omega) (by omega) hW.size (by decide) ?_
            intro v240 w240 oa240 ga240 pa240 ka240
            obtain ⟨x240, y240, rfl⟩ := own_some oa240
            have kp240 : Kept [d] w239 w240 := grown_kept ga240
            have lt240 := (o1.lt x239 rfl).2
            have ge240 := (o2.lt d rfl).1
            have ne240 : x240 ≠ x239 := by
              rcases pa240 with q | q
              · have h1 : x240 = d := Option.some.inj q
                omega
              · have h1 : x240 = w239.heap.size := Option.some.inj q
                omega
            replace hW : Below w.heap.size w w240 := hW.grown ga240 hW.size (fun g hg => (o2.lt g hg).1)
            replace o1 := own_kept o1 kp240 (fun b e m => by have h1 : x239 = b := Option.some.inj e; have h2 : b = d := (by simpa using m); omega)
            replace hs : w240.cell? ⟨b', off' + k, none⟩ = some (.int .u16 wv) ∧ w240.cell? ⟨d, 0, none⟩ = some (.int .i64 (0)) := ⟨kp240.cellAt hs.1 (by simp; omega), ka240 d 0 _ rfl XG.out⟩
            clear o2
            have o2 := oa240
            clear oa240 ga240 pa240 ka240 kp240 l2 q2
            refine hK.out _ _ (hs) (fun hHeld18 => ?_)
            clear hK K
            try simp only [Act.put, List.setIfInBounds_toArray, List.set_cons_zero, List.set_cons_succ]
            refine takeH (i := 19) (v := ?v19_241) rfl (by kernel_rfl) (fun _ _ _ h => h) (by rfl) ?hy19_241 (by assumption) ?rest19_241
            case hy19_241 => (intro w hSw; (try dsimp only at hSw); go_simp; try with_reducible rfl)
            try simp only [Act.put, List.setIfInBounds_toArray, List.set_cons_zero, List.set_cons_succ]
            refine takeH (i := 20) (v := ?v20_242) rfl (by kernel_rfl) (fun _ _ _ h => h) (by rfl) ?hy20_242 (by assumption) ?rest20_242
            case hy20_242 => (intro w hSw; (try dsimp only at hSw); go_simp; try with_reducible rfl)
            try simp only [Act.put, List.setIfInBounds_toArray, List.set_cons_zero, List.set_cons_succ]
            refine wpAnyH_done (by kernel_rfl) ?_ _
            have hGN := Lib.hid (grin_done (x := (0, 1 + wv)) (y := 1) o1 o2 (show (x239 : Nat) ≠ x240 by omega) hgl'.out hdl'.out)
            have HWN := Lib.hid hW
            clear o1 o2 hs
            go_wp2_with fail
            go_roundw
            case rel => exact ⟨k + 1, _, _, _, _, _, _, by omega, by go_num, rfl, rfl, by simp [hgl'.out], hGN.out, HWN.out, HSN⟩
            case measure => simp [intOf]; omega
        · have z5 : (dv == 4) = false := beq_eq_false_iff_ne.2 h4
          have dd := du
          have xg : (intsV ds)[up]? = some (.int .i64 dv) := by
            unfold intsV
            rw [List.getElem?_map, List.getElem?_eq_getElem (by rw [hdl]; omega), hdv, getElem!_pos ds up (by rw [hdl]; omega)]
            rfl
          have HSN := Lib.hid (show GrOk (Gs ++ [((up : Int), 1 + wv)]) (ds ++ [dv + 1]) by
            have := hok.out.snoc (up := up) (wt := 1 + wv) (by omega) (by rw [← hdv]; exact h4) (by omega) (by omega)
            rw [← hdv] at this
            exact this)
          have XG := Lib.hid xg
          have z6 : IntKind.i64.wrap (dv + 1) = dv + 1 := IntWalk.i64_in _ (by omega)
          clear hup hdv hle hle0 dcell hgl hdl h4 xg
          go_wp2_with fail
          have hs : wr.drew.cell? ⟨b', off' + k, none⟩ = some (.int .u16 wv) ∧ wr.drew.cell? ⟨d, up, none⟩ = some (.int .i64 (dv)) := ⟨cell_dr cw, cell_dr dd⟩
          have hS0 : (fun w' : World => w'.cell? ⟨b', off' + k, none⟩ = some (.int .u16 wv) ∧ w'.cell? ⟨d, up, none⟩ = some (.int .i64 (dv))) (wr.drew) := ⟨cell_dr cw, cell_dr dd⟩
          refine wp_region_held_drew (S := fun w' : World => w'.cell? ⟨b', off' + k, none⟩ = some (.int .u16 wv) ∧ w'.cell? ⟨d, up, none⟩ = some (.int .i64 (dv))) (by kernel_rfl) hS0 (fun hHeld => ?_)
          have hS00 : Below wr.heap.size wr wr := Below.refl _ _
          obtain ⟨wc243, hwc243⟩ : ∃ X, X = wr.drew := ⟨_, rfl⟩
          rw [← hwc243] at hHeld ⊢
          have hWc243 : Below wr.heap.size wr wc243 := by rw [hwc243]; exact (Below.refl _ _).drew
          clear hwc243
          refine takeH (i := 0) (v := ?v0_244) rfl (by kernel_rfl) (fun _ _ _ h => h) (by rfl) ?hy0_244 (by assumption) ?rest0_244
          case hy0_244 => (intro w hSw; (try dsimp only at hSw); go_simp; try with_reducible rfl)
          try simp only [Act.put, List.setIfInBounds_toArray, List.set_cons_zero, List.set_cons_succ]
          refine takeH (i := 1) (v := ?v1_245) rfl (by kernel_rfl) (fun _ _ _ h => h) (by rfl) ?hy1_245 (by assumption) ?rest1_245
          case hy1_245 => (intro w hSw; (try dsimp only at hSw); go_simp; try with_reducible rfl)
          try simp only [Act.put, List.setIfInBounds_toArray, List.set_cons_zero, List.set_cons_succ]
          refine takeH (i := 2) (v := ?v2_246) rfl (by kernel_rfl) (fun _ _ _ h => h) (by rfl) ?hy2_246 (by assumption) ?rest2_246
          case hy2_246 => (intro w hSw; (try dsimp only at hSw); go_simp; try with_reducible rfl)
          try simp only [Act.put, List.setIfInBounds_toArray, List.set_cons_zero, List.set_cons_succ]
          refine takeH (i := 3) (v := ?v3_247) rfl (by kernel_rfl) (fun _ _ _ h => h) (by rfl) ?hy3_247 (by assumption) ?rest3_247
          case hy3_247 => (intro w hSw; (try dsimp only at hSw); go_simp; try with_reducible rfl)
          try simp only [Act.put, List.setIfInBounds_toArray, List.set_cons_zero, List.set_cons_succ]
          refine takeH (i := 4) (v := ?v4_248) rfl (by kernel_rfl) (fun _ _ _ h => h) (by rfl) ?hy4_248 (by assumption) ?rest4_248
          case hy4_248 => (intro w hSw; (try dsimp only at hSw); go_simp; try with_reducible rfl)
          try simp only [Act.put, List.setIfInBounds_toArray, List.set_cons_zero, List.set_cons_succ]
          refine takeH (i := 5) (v := ?v5_249) rfl (by kernel_rfl) (fun _ _ _ h => h) (by rfl) ?hy5_249 (by assumption) ?rest5_249
          case hy5_249 => (intro w hSw; (try dsimp only at hSw); go_simp; try with_reducible rfl)
          try simp only [Act.put, List.setIfInBounds_toArray, List.set_cons_zero, List.set_cons_succ]
          refine takeH (i := 6) (v := ?v6_250) rfl (by kernel_rfl) (fun _ _ _ h => h) (by rfl) ?hy6_250 (by assumption) ?rest6_250
          case hy6_250 => (intro w hSw; (try dsimp only at hSw); go_simp; try with_reducible rfl)
          try simp only [Act.put, List.setIfInBounds_toArray, List.set_cons_zero, List.set_cons_succ]
          refine takeH (i := 7) (v := ?v7_251) rfl (by kernel_rfl) (fun _ _ _ h => h) (by rfl) ?hy7_251 (by assumption) ?rest7_251
          case hy7_251 => (intro w hSw; (try dsimp only at hSw); go_simp; try with_reducible rfl)
          try simp only [Act.put, List.setIfInBounds_toArray, List.set_cons_zero, List.set_cons_succ]
          refine takeH (i := 8) (v := ?v8_252) rfl (by kernel_rfl) (fun _ _ _ h => h) (by rfl) ?hy8_252 (by assumption) ?rest8_252
          case hy8_252 => (intro w hSw; (try dsimp only at hSw); go_simp; try with_reducible rfl)
          try simp only [Act.put, List.setIfInBounds_toArray, List.set_cons_zero, List.set_cons_succ]
          refine takeH (i := 11) (v := ?v11_253) rfl (by kernel_rfl) (fun _ _ _ h => h) (by rfl) ?hy11_253 (by assumption) ?rest11_253
          case hy11_253 => (intro w hSw; (try dsimp only at hSw); go_simp; try with_reducible rfl)
          try simp only [Act.put, List.setIfInBounds_toArray, List.set_cons_zero, List.set_cons_succ]
          refine takeH (i := 12) (v := ?v12_254) rfl (by kernel_rfl) (fun _ _ _ h => h) (by rfl) ?hy12_254 (by assumption) ?rest12_254
          case hy12_254 => (intro w hSw; (try dsimp only at hSw); go_simp; try with_reducible rfl)
          try simp only [Act.put, List.setIfInBounds_toArray, List.set_cons_zero, List.set_cons_succ]
          refine takeH (i := 13) (v := ?v13_255) rfl (by kernel_rfl) (fun _ _ _ h => h) (by rfl) ?hy13_255 (by assumption) ?rest13_255
          case hy13_255 => (intro w hSw; (try dsimp only at hSw); go_simp; try with_reducible rfl)
          try simp only [Act.put, List.setIfInBounds_toArray, List.set_cons_zero, List.set_cons_succ]
          refine takeH (i := 14) (v := ?v14_256) rfl (by kernel_rfl) (fun _ _ _ h => h) (by rfl) ?hy14_256 (by assumption) ?rest14_256
          case hy14_256 => (intro w hSw; (try dsimp only at hSw); go_simp; try with_reducible rfl)
          try simp only [Act.put, List.setIfInBounds_toArray, List.set_cons_zero, List.set_cons_succ]
          refine takeH (i := 15) (v := ?v15_257) rfl (by kernel_rfl) (fun _ _ _ h => h) (by rfl) ?hy15_257 (by assumption) ?rest15_257
          case hy15_257 => (intro w hSw; (try dsimp only at hSw); go_simp; try with_reducible rfl)
          try simp only [Act.put, List.setIfInBounds_toArray, List.set_cons_zero, List.set_cons_succ]
          refine takeH (i := 16) (v := ?v16_258) rfl (by kernel_rfl) (fun _ _ _ h => h) (by rfl) ?hy16_258 (by assumption) ?rest16_258
          case hy16_258 => (intro w hSw; (try dsimp only at hSw); go_simp; try with_reducible rfl)
          try simp only [Act.put, List.setIfInBounds_toArray, List.set_cons_zero, List.set_cons_succ]
          refine wpAnyH_ready (rs := [9, 17]) (by kernel_rfl) (by simp) ?_
          refine consH rfl (fun K hK => ?_) (consH rfl (fun K hK => ?_) (AllReadyH.nil))
          · skip
            go_simp
            replace o1 := own_below o1 hWc243
            replace o2 := own_below o2 hWc243
            replace hW := Below.step hW hWc243
            obtain ⟨w259, hw259⟩ : ∃ X, X = wc243.alloc (.cells #[.int .i64 ((up : Int)), .int .i64 (1 + wv)] 53) := ⟨_, rfl⟩
            rw [← hw259]
            have hb259 : Below wc243.heap.size wc243 w259 := by rw [hw259]; exact below_a _ _
            have q1 : d ≠ wc243.heap.size := by have := (o2.lt d rfl).2; omega
            replace o1 := own_below o1 hb259
            replace o2 := own_below o2 hb259
            have l1 : ∀ j u, ([.int .i64 ((up : Int)), .int .i64 (1 + wv)] : List Value)[j]? = some u → w259.cell? ⟨wc243.heap.size, j, none⟩ = some u := fun j u h => by rw [hw259]; exact cellN rfl (by simpa using h)
            have hs259 : w259.cell? ⟨b', off' + k, none⟩ = some (.int .u16 wv) ∧ w259.cell? ⟨d, up, none⟩ = some (.int .i64 (dv)) := ⟨cell_later hb259 (by first | exact hHeld.1 | exact hs.1), cell_later hb259 (by first | exact hHeld.2 | exact hs.2)⟩
            clear hs
            have hs := hs259
            clear hs259
            replace hW := Below.step hW hb259
            clear hw259
            refine hK.out _ _ (hs) (fun hHeld9 => ?_)
            clear hK K
            try simp only [Act.put, List.setIfInBounds_toArray, List.set_cons_zero, List.set_cons_succ]
            refine wpAnyH_ready (rs := [10, 17]) (by kernel_rfl) (by simp) ?_
            refine consH rfl (fun K hK => ?_) (consH rfl (fun K hK => ?_) (AllReadyH.nil))
            · skip
              refine step_append_own3 rfl (.tmp 33) (.tmp 42) 27 rfl w.heap.size 53 ig (.agg #[.int .i64 0, .int .i64 0]) 2 16 Tryz.underlying27 hi hz0 hz1 hz2 rfl (by decide) _ (k + 1) (flatR encG Gs) rfl o1 _ 1 1 [.int .i64 ((up : Int)), .int .i64 (1 + wv)] rfl rfl (fun j u h => by rw [addN, Nat.zero_add]; exact l1 j u h) (fun u hu => by simp at hu; rcases hu with rfl | rfl <;> rfl) (by unfold maxLen; omega) (by omega) hW.size (by decide) ?_
              intro v260 w260 oa260 ga260 pa260 ka260
              obtain ⟨x260, y260, rfl⟩ := own_some oa260
              have kp260 : Kept [bo] w259 w260 := grown_kept ga260
              have lt260 := (o2.lt d rfl).2
              have ge260 := (o1.lt bo rfl).1
              have ne260 : x260 ≠ d := by
                rcases pa260 with q | q
                · have h1 : x260 = bo := Option.some.inj q
                  omega
                · have h1 : x260 = w259.heap.size := Option.some.inj q
                  omega
              replace hW : Below w.heap.size w w260 := hW.grown ga260 hW.size (fun g hg => (o1.lt g hg).1)
              replace o2 := own_kept o2 kp260 (fun b e m => by have h1 : d = b := Option.some.inj e; have h2 : b = bo := (by simpa using m); omega)
              replace hs : w260.cell? ⟨b', off' + k, none⟩ = some (.int .u16 wv) ∧ w260.cell? ⟨d, up, none⟩ = some (.int .i64 (dv)) := ⟨kp260.cellAt hs.1 (by simp; omega), kp260.cellAt hs.2 (by simp; omega)⟩
              clear o1
              have o1 := oa260
              clear oa260 ga260 pa260 ka260 kp260 l1 q1
              refine hK.out _ _ (hs) (fun hHeld10 => ?_)
              clear hK K
              try simp only [Act.put, List.setIfInBounds_toArray, List.set_cons_zero, List.set_cons_succ]
              refine wpAnyH_ready (rs := [17]) (by kernel_rfl) (by simp) ?_
              refine consH rfl (fun K hK => ?_) (AllReadyH.nil)
              go_simp
              obtain ⟨w261, hw261⟩ : ∃ X, X = w260.alloc (.cells #[.int .i64 (dv + 1)] 3) := ⟨_, rfl⟩
              rw [← hw261]
              have hb261 : Below w260.heap.size w260 w261 := by rw [hw261]; exact below_a _ _
              have q2 : x260 ≠ w260.heap.size := by have := (o1.lt x260 rfl).2; omega
              replace o1 := own_below o1 hb261
              replace o2 := own_below o2 hb261
              have l2 : ∀ j u, ([.int .i64 (dv + 1)] : List Value)[j]? = some u → w261.cell? ⟨w260.heap.size, j, none⟩ = some u := fun j u h => by rw [hw261]; exact cellN rfl (by simpa using h)
              replace hs : w261.cell? ⟨b', off' + k, none⟩ = some (.int .u16 wv) ∧ w261.cell? ⟨d, up, none⟩ = some (.int .i64 (dv)) := ⟨cell_later hb261 hs.1, cell_later hb261 hs.2⟩
              replace hW := Below.step hW hb261
              clear hw261
              refine hK.out _ _ (hs) (fun hHeld17 => ?_)
              clear hK K
              try simp only [Act.put, List.setIfInBounds_toArray, List.set_cons_zero, List.set_cons_succ]
              refine wpAnyH_ready (rs := [18]) (by kernel_rfl) (by simp) ?_
              refine consH rfl (fun K hK => ?_) (AllReadyH.nil)
              refine step_append_own3 rfl (.tmp 44) (.tmp 50) 37 rfl w.heap.size 3 ii (.int .i64 0) 1 8 Tryz.underlying37 hj hy0 hy1 hy2 rfl (by decide) _ (k + 1) (intsV ds) rfl o2 _ 1 1 [.int .i64 (dv + 1)] rfl rfl (fun j u h => by rw [addN, Nat.zero_add]; exact l2 j u h) (fun u hu => by simp at hu; subst hu; rfl) (by unfold maxLen; omega) (by omega) hW.size (by decide) ?_
              intro v262 w262 oa262 ga262 pa262 ka262
              obtain ⟨x262, y262, rfl⟩ := own_some oa262
              have kp262 : Kept [d] w261 w262 := grown_kept ga262
              have lt262 := (o1.lt x260 rfl).2
              have ge262 := (o2.lt d rfl).1
              have ne262 : x262 ≠ x260 := by
                rcases pa262 with q | q
                · have h1 : x262 = d := Option.some.inj q
                  omega
                · have h1 : x262 = w261.heap.size := Option.some.inj q
                  omega
              replace hW : Below w.heap.size w w262 := hW.grown ga262 hW.size (fun g hg => (o2.lt g hg).1)
              replace o1 := own_kept o1 kp262 (fun b e m => by have h1 : x260 = b := Option.some.inj e; have h2 : b = d := (by simpa using m); omega)
              replace hs : w262.cell? ⟨b', off' + k, none⟩ = some (.int .u16 wv) ∧ w262.cell? ⟨d, up, none⟩ = some (.int .i64 (dv)) := ⟨kp262.cellAt hs.1 (by simp; omega), ka262 d up _ rfl XG.out⟩
              clear o2
              have o2 := oa262
              clear oa262 ga262 pa262 ka262 kp262 l2 q2
              refine hK.out _ _ (hs) (fun hHeld18 => ?_)
              clear hK K
              try simp only [Act.put, List.setIfInBounds_toArray, List.set_cons_zero, List.set_cons_succ]
              refine takeH (i := 19) (v := ?v19_263) rfl (by kernel_rfl) (fun _ _ _ h => h) (by rfl) ?hy19_263 (by assumption) ?rest19_263
              case hy19_263 => (intro w hSw; (try dsimp only at hSw); go_simp; try with_reducible rfl)
              try simp only [Act.put, List.setIfInBounds_toArray, List.set_cons_zero, List.set_cons_succ]
              refine takeH (i := 20) (v := ?v20_264) rfl (by kernel_rfl) (fun _ _ _ h => h) (by rfl) ?hy20_264 (by assumption) ?rest20_264
              case hy20_264 => (intro w hSw; (try dsimp only at hSw); go_simp; try with_reducible rfl)
              try simp only [Act.put, List.setIfInBounds_toArray, List.set_cons_zero, List.set_cons_succ]
              refine wpAnyH_done (by kernel_rfl) ?_ _
              have hGN := Lib.hid (grin_done (x := ((up : Int), 1 + wv)) (y := dv + 1) o1 o2 (show (x260 : Nat) ≠ x262 by omega) hgl'.out hdl'.out)
              have HWN := Lib.hid hW
              clear o1 o2 hs
              go_wp2_with fail
              go_roundw
              case rel => exact ⟨k + 1, _, _, _, _, _, _, by omega, by go_num, rfl, rfl, by simp [hgl'.out], hGN.out, HWN.out, HSN⟩
              case measure => simp [intOf]; omega
            · skip
              go_simp
              obtain ⟨w265, hw265⟩ : ∃ X, X = w259.alloc (.cells #[.int .i64 (dv + 1)] 3) := ⟨_, rfl⟩
              rw [← hw265]
              have hb265 : Below w259.heap.size w259 w265 := by rw [hw265]; exact below_a _ _
              have q2 : bo ≠ w259.heap.size := by have := (o1.lt bo rfl).2; omega
              replace o1 := own_below o1 hb265
              replace o2 := own_below o2 hb265
              have l2 : ∀ j u, ([.int .i64 (dv + 1)] : List Value)[j]? = some u → w265.cell? ⟨w259.heap.size, j, none⟩ = some u := fun j u h => by rw [hw265]; exact cellN rfl (by simpa using h)
              replace l1 := fun j u h => cell_later hb265 (l1 j u h)
              replace hs : w265.cell? ⟨b', off' + k, none⟩ = some (.int .u16 wv) ∧ w265.cell? ⟨d, up, none⟩ = some (.int .i64 (dv)) := ⟨cell_later hb265 hs.1, cell_later hb265 hs.2⟩
              replace hW := Below.step hW hb265
              clear hw265
              refine hK.out _ _ (hs) (fun hHeld17 => ?_)
              clear hK K
              try simp only [Act.put, List.setIfInBounds_toArray, List.set_cons_zero, List.set_cons_succ]
              refine wpAnyH_ready (rs := [10]) (by kernel_rfl) (by simp) ?_
              refine consH rfl (fun K hK => ?_) (AllReadyH.nil)
              refine step_append_own3 rfl (.tmp 33) (.tmp 42) 27 rfl w.heap.size 53 ig (.agg #[.int .i64 0, .int .i64 0]) 2 16 Tryz.underlying27 hi hz0 hz1 hz2 rfl (by decide) _ (k + 1) (flatR encG Gs) rfl o1 _ 1 1 [.int .i64 ((up : Int)), .int .i64 (1 + wv)] rfl rfl (fun j u h => by rw [addN, Nat.zero_add]; exact l1 j u h) (fun u hu => by simp at hu; rcases hu with rfl | rfl <;> rfl) (by unfold maxLen; omega) (by omega) hW.size (by decide) ?_
              intro v266 w266 oa266 ga266 pa266 ka266
              obtain ⟨x266, y266, rfl⟩ := own_some oa266
              have kp266 : Kept [bo] w265 w266 := grown_kept ga266
              have lt266 := (o2.lt d rfl).2
              have ge266 := (o1.lt bo rfl).1
              have ne266 : x266 ≠ d := by
                rcases pa266 with q | q
                · have h1 : x266 = bo := Option.some.inj q
                  omega
                · have h1 : x266 = w265.heap.size := Option.some.inj q
                  omega
              replace hW : Below w.heap.size w w266 := hW.grown ga266 hW.size (fun g hg => (o1.lt g hg).1)
              replace o2 := own_kept o2 kp266 (fun b e m => by have h1 : d = b := Option.some.inj e; have h2 : b = bo := (by simpa using m); omega)
              replace l2 := fun j u h => kp266.cellAt (l2 j u h) (by simp; omega)
              replace hs : w266.cell? ⟨b', off' + k, none⟩ = some (.int .u16 wv) ∧ w266.cell? ⟨d, up, none⟩ = some (.int .i64 (dv)) := ⟨kp266.cellAt hs.1 (by simp; omega), kp266.cellAt hs.2 (by simp; omega)⟩
              clear o1
              have o1 := oa266
              clear oa266 ga266 pa266 ka266 kp266 l1 q1
              refine hK.out _ _ (hs) (fun hHeld10 => ?_)
              clear hK K
              try simp only [Act.put, List.setIfInBounds_toArray, List.set_cons_zero, List.set_cons_succ]
              refine wpAnyH_ready (rs := [18]) (by kernel_rfl) (by simp) ?_
              refine consH rfl (fun K hK => ?_) (AllReadyH.nil)
              refine step_append_own3 rfl (.tmp 44) (.tmp 50) 37 rfl w.heap.size 3 ii (.int .i64 0) 1 8 Tryz.underlying37 hj hy0 hy1 hy2 rfl (by decide) _ (k + 1) (intsV ds) rfl o2 _ 1 1 [.int .i64 (dv + 1)] rfl rfl (fun j u h => by rw [addN, Nat.zero_add]; exact l2 j u h) (fun u hu => by simp at hu; subst hu; rfl) (by unfold maxLen; omega) (by omega) hW.size (by decide) ?_
              intro v267 w267 oa267 ga267 pa267 ka267
              obtain ⟨x267, y267, rfl⟩ := own_some oa267
              have kp267 : Kept [d] w266 w267 := grown_kept ga267
              have lt267 := (o1.lt x266 rfl).2
              have ge267 := (o2.lt d rfl).1
              have ne267 : x267 ≠ x266 := by
                rcases pa267 with q | q
                · have h1 : x267 = d := Option.some.inj q
                  omega
                · have h1 : x267 = w266.heap.size := Option.some.inj q
                  omega
              replace hW : Below w.heap.size w w267 := hW.grown ga267 hW.size (fun g hg => (o2.lt g hg).1)
              replace o1 := own_kept o1 kp267 (fun b e m => by have h1 : x266 = b := Option.some.inj e; have h2 : b = d := (by simpa using m); omega)
              replace hs : w267.cell? ⟨b', off' + k, none⟩ = some (.int .u16 wv) ∧ w267.cell? ⟨d, up, none⟩ = some (.int .i64 (dv)) := ⟨kp267.cellAt hs.1 (by simp; omega), ka267 d up _ rfl XG.out⟩
              clear o2
              have o2 := oa267
              clear oa267 ga267 pa267 ka267 kp267 l2 q2
              refine hK.out _ _ (hs) (fun hHeld18 => ?_)
              clear hK K
              try simp only [Act.put, List.setIfInBounds_toArray, List.set_cons_zero, List.set_cons_succ]
              refine takeH (i := 19) (v := ?v19_268) rfl (by kernel_rfl) (fun _ _ _ h => h) (by rfl) ?hy19_268 (by assumption) ?rest19_268
              case hy19_268 => (intro w hSw; (try dsimp only at hSw); go_simp; try with_reducible rfl)
              try simp only [Act.put, List.setIfInBounds_toArray, List.set_cons_zero, List.set_cons_succ]
              refine takeH (i := 20) (v := ?v20_269) rfl (by kernel_rfl) (fun _ _ _ h => h) (by rfl) ?hy20_269 (by assumption) ?rest20_269
              case hy20_269 => (intro w hSw; (try dsimp only at hSw); go_simp; try with_reducible rfl)
              try simp only [Act.put, List.setIfInBounds_toArray, List.set_cons_zero, List.set_cons_succ]
              refine wpAnyH_done (by kernel_rfl) ?_ _
              have hGN := Lib.hid (grin_done (x := ((up : Int), 1 + wv)) (y := dv + 1) o1 o2 (show (x266 : Nat) ≠ x267 by omega) hgl'.out hdl'.out)
              have HWN := Lib.hid hW
              clear o1 o2 hs
              go_wp2_with fail
              go_roundw
              case rel => exact ⟨k + 1, _, _, _, _, _, _, by omega, by go_num, rfl, rfl, by simp [hgl'.out], hGN.out, HWN.out, HSN⟩
              case measure => simp [intOf]; omega
          · skip
            go_simp
            replace o1 := own_below o1 hWc243
            replace o2 := own_below o2 hWc243
            replace hW := Below.step hW hWc243
            obtain ⟨w270, hw270⟩ : ∃ X, X = wc243.alloc (.cells #[.int .i64 (dv + 1)] 3) := ⟨_, rfl⟩
            rw [← hw270]
            have hb270 : Below wc243.heap.size wc243 w270 := by rw [hw270]; exact below_a _ _
            have q2 : bo ≠ wc243.heap.size := by have := (o1.lt bo rfl).2; omega
            replace o1 := own_below o1 hb270
            replace o2 := own_below o2 hb270
            have l2 : ∀ j u, ([.int .i64 (dv + 1)] : List Value)[j]? = some u → w270.cell? ⟨wc243.heap.size, j, none⟩ = some u := fun j u h => by rw [hw270]; exact cellN rfl (by simpa using h)
            have hs270 : w270.cell? ⟨b', off' + k, none⟩ = some (.int .u16 wv) ∧ w270.cell? ⟨d, up, none⟩ = some (.int .i64 (dv)) := ⟨cell_later hb270 (by first | exact hHeld.1 | exact hs.1), cell_later hb270 (by first | exact hHeld.2 | exact hs.2)⟩
            clear hs
            have hs := hs270
            clear hs270
            replace hW := Below.step hW hb270
            clear hw270
            refine hK.out _ _ (hs) (fun hHeld17 => ?_)
            clear hK K
            try simp only [Act.put, List.setIfInBounds_toArray, List.set_cons_zero, List.set_cons_succ]
            refine wpAnyH_ready (rs := [9]) (by kernel_rfl) (by simp) ?_
            refine consH rfl (fun K hK => ?_) (AllReadyH.nil)
            go_simp
            obtain ⟨w271, hw271⟩ : ∃ X, X = w270.alloc (.cells #[.int .i64 ((up : Int)), .int .i64 (1 + wv)] 53) := ⟨_, rfl⟩
            rw [← hw271]
            have hb271 : Below w270.heap.size w270 w271 := by rw [hw271]; exact below_a _ _
            have q1 : d ≠ w270.heap.size := by have := (o2.lt d rfl).2; omega
            replace o1 := own_below o1 hb271
            replace o2 := own_below o2 hb271
            have l1 : ∀ j u, ([.int .i64 ((up : Int)), .int .i64 (1 + wv)] : List Value)[j]? = some u → w271.cell? ⟨w270.heap.size, j, none⟩ = some u := fun j u h => by rw [hw271]; exact cellN rfl (by simpa using h)
            replace l2 := fun j u h => cell_later hb271 (l2 j u h)
            replace hs : w271.cell? ⟨b', off' + k, none⟩ = some (.int .u16 wv) ∧ w271.cell? ⟨d, up, none⟩ = some (.int .i64 (dv)) := ⟨cell_later hb271 hs.1, cell_later hb271 hs.2⟩
            replace hW := Below.step hW hb271
            clear hw271
            refine hK.out _ _ (hs) (fun hHeld9 => ?_)
            clear hK K
            try simp only [Act.put, List.setIfInBounds_toArray, List.set_cons_zero, List.set_cons_succ]
            refine wpAnyH_ready (rs := [10]) (by kernel_rfl) (by simp) ?_
            refine consH rfl (fun K hK => ?_) (AllReadyH.nil)
            refine step_append_own3 rfl (.tmp 33) (.tmp 42) 27 rfl w.heap.size 53 ig (.agg #[.int .i64 0, .int .i64 0]) 2 16 Tryz.underlying27 hi hz0 hz1 hz2 rfl (by decide) _ (k + 1) (flatR encG Gs) rfl o1 _ 1 1 [.int .i64 ((up : Int)), .int .i64 (1 + wv)] rfl rfl (fun j u h => by rw [addN, Nat.zero_add]; exact l1 j u h) (fun u hu => by simp at hu; rcases hu with rfl | rfl <;> rfl) (by unfold maxLen; omega) (by omega) hW.size (by decide) ?_
            intro v272 w272 oa272 ga272 pa272 ka272
            obtain ⟨x272, y272, rfl⟩ := own_some oa272
            have kp272 : Kept [bo] w271 w272 := grown_kept ga272
            have lt272 := (o2.lt d rfl).2
            have ge272 := (o1.lt bo rfl).1
            have ne272 : x272 ≠ d := by
              rcases pa272 with q | q
              · have h1 : x272 = bo := Option.some.inj q
                omega
              · have h1 : x272 = w271.heap.size := Option.some.inj q
                omega
            replace hW : Below w.heap.size w w272 := hW.grown ga272 hW.size (fun g hg => (o1.lt g hg).1)
            replace o2 := own_kept o2 kp272 (fun b e m => by have h1 : d = b := Option.some.inj e; have h2 : b = bo := (by simpa using m); omega)
            replace l2 := fun j u h => kp272.cellAt (l2 j u h) (by simp; omega)
            replace hs : w272.cell? ⟨b', off' + k, none⟩ = some (.int .u16 wv) ∧ w272.cell? ⟨d, up, none⟩ = some (.int .i64 (dv)) := ⟨kp272.cellAt hs.1 (by simp; omega), kp272.cellAt hs.2 (by simp; omega)⟩
            clear o1
            have o1 := oa272
            clear oa272 ga272 pa272 ka272 kp272 l1 q1
            refine hK.out _ _ (hs) (fun hHeld10 => ?_)
            clear hK K
            try simp only [Act.put, List.setIfInBounds_toArray, List.set_cons_zero, List.set_cons_succ]
            refine wpAnyH_ready (rs := [18]) (by kernel_rfl) (by simp) ?_
            refine consH rfl (fun K hK => ?_) (AllReadyH.nil)
            refine step_append_own3 rfl (.tmp 44) (.tmp 50) 37 rfl w.heap.size 3 ii (.int .i64 0) 1 8 Tryz.underlying37 hj hy0 hy1 hy2 rfl (by decide) _ (k + 1) (intsV ds) rfl o2 _ 1 1 [.int .i64 (dv + 1)] rfl rfl (fun j u h => by rw [addN, Nat.zero_add]; exact l2 j u h) (fun u hu => by simp at hu; subst hu; rfl) (by unfold maxLen; omega) (by omega) hW.size (by decide) ?_
            intro v273 w273 oa273 ga273 pa273 ka273
            obtain ⟨x273, y273, rfl⟩ := own_some oa273
            have kp273 : Kept [d] w272 w273 := grown_kept ga273
            have lt273 := (o1.lt x272 rfl).2
            have ge273 := (o2.lt d rfl).1
            have ne273 : x273 ≠ x272 := by
              rcases pa273 with q | q
              · have h1 : x273 = d := Option.some.inj q
                omega
              · have h1 : x273 = w272.heap.size := Option.some.inj q
                omega
            replace hW : Below w.heap.size w w273 := hW.grown ga273 hW.size (fun g hg => (o2.lt g hg).1)
            replace o1 := own_kept o1 kp273 (fun b e m => by have h1 : x272 = b := Option.some.inj e; have h2 : b = d := (by simpa using m); omega)
            replace hs : w273.cell? ⟨b', off' + k, none⟩ = some (.int .u16 wv) ∧ w273.cell? ⟨d, up, none⟩ = some (.int .i64 (dv)) := ⟨kp273.cellAt hs.1 (by simp; omega), ka273 d up _ rfl XG.out⟩
            clear o2
            have o2 := oa273
            clear oa273 ga273 pa273 ka273 kp273 l2 q2
            refine hK.out _ _ (hs) (fun hHeld18 => ?_)
            clear hK K
            try simp only [Act.put, List.setIfInBounds_toArray, List.set_cons_zero, List.set_cons_succ]
            refine takeH (i := 19) (v := ?v19_274) rfl (by kernel_rfl) (fun _ _ _ h => h) (by rfl) ?hy19_274 (by assumption) ?rest19_274
            case hy19_274 => (intro w hSw; (try dsimp only at hSw); go_simp; try with_reducible rfl)
            try simp only [Act.put, List.setIfInBounds_toArray, List.set_cons_zero, List.set_cons_succ]
            refine takeH (i := 20) (v := ?v20_275) rfl (by kernel_rfl) (fun _ _ _ h => h) (by rfl) ?hy20_275 (by assumption) ?rest20_275
            case hy20_275 => (intro w hSw; (try dsimp only at hSw); go_simp; try with_reducible rfl)
            try simp only [Act.put, List.setIfInBounds_toArray, List.set_cons_zero, List.set_cons_succ]
            refine wpAnyH_done (by kernel_rfl) ?_ _
            have hGN := Lib.hid (grin_done (x := ((up : Int), 1 + wv)) (y := dv + 1) o1 o2 (show (x272 : Nat) ≠ x273 by omega) hgl'.out hdl'.out)
            have HWN := Lib.hid hW
            clear o1 o2 hs
            go_wp2_with fail
            go_roundw
            case rel => exact ⟨k + 1, _, _, _, _, _, _, by omega, by go_num, rfl, rfl, by simp [hgl'.out], hGN.out, HWN.out, HSN⟩
            case measure => simp [intOf]; omega
      · obtain rfl : k = m := by omega
        have z0 : decide ((k : Int) < (k : Int)) = false := decide_eq_false (by omega)
        clear hG hB
        go_wp2_with fail
        go_ret
        exact ⟨Gs, _, rfl, hok.out.right, by have := HM.out; omega, HG.out.o1, HB.out⟩
end Go.Proofs.YtfgmglghlapbcaaGreat
