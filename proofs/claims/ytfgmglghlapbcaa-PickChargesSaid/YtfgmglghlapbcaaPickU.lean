/-
  Layer 25's statements: Groups.
-/
import Derived.Test.YtfgmglghlapbcaaPickT
namespace Go.Proofs.Ytfgmglghlapbcaa
open Go.RowKit Go.Maps Go.IntWalk Go.Lib Go.Sort Go.Shelf
set_option linter.unusedVariables false
set_option linter.unusedSimpArgs false
/-- append to an own row: what was in it may still be read where it lay -/
theorem step_append_own3 {P : Program} {ops : Array Oper} {o : Oper} {a : Act} {w : World} {K : Act → World → Prop} {Q : Exit → Act → World → Prop} {E : Prop}
    (hg : o.guard = none) (s x : Operand) (t : TypeId) (hop : o.op = Op.call { callee := Callee.builtin Builtin.append, args := #[s, x], argTypes := #[t, t] })
    (base : Nat) (e : TypeId) (i : TypeInfo) (z : Value) (size bytes : Nat) (h1 : P.underlying t = some (.slice e)) (h2 : P.info? e = some i) (h3 : i.zero = some z) (h4 : i.size = size) (h5 : i.bytes = bytes) (h6 : z.cells.size = size) (h7 : 0 < size)
    (v : Value) (n : Nat) (xs : List Value) (hs : a.eval s = v) (hown : w.ownsRow base e size v n xs)
    (ad : Addr) (m c : Nat) (news : List Value) (hx : a.eval x = .slice (some ad) m c) (hn : news.length = m * size) (hc : ∀ j u, news[j]? = some u → w.cell? (ad.add j) = some u) (h1c : ∀ u ∈ news, u.oneCell' = true)
    (b1 : n + m ≤ maxLen) (b2 : (n + m) * bytes ≤ 140737488355328) (hbase : base ≤ w.heap.size) (hm : 0 < m)
    (hK : ∀ v' w', w'.ownsRow base e size v' (n + m) (xs ++ news) → w.grownBy w' v.ownBlock → (v'.ownBlock = v.ownBlock ∨ v'.ownBlock = some w.heap.size) → (∀ g j u, v.ownBlock = some g → xs[j]? = some u → w'.cell? ⟨g, j, none⟩ = some u) → K (a.put o.dst v') w') :
    if Region.wanted o (yielded ops a.tmps) = true then Oper.wp P o a w K Q else E := by
  have hw : Region.wanted o (yielded ops a.tmps) = true := by simp [Region.wanted, hg]
  rw [if_pos hw]
  obtain ⟨v', w', hrun, r1, r2, _⟩ := run_append_own (P := P) w base t o.type e i z size bytes h1 h2 h3 h4 h5 h6 h7 v n xs hown ad m c news hn hc h1c b1 b2 hbase
  have h8 := run_append_place (P := P) (w := w) base t o.type e i z size bytes h1 h2 h3 h4 h5 h6 h7 v n xs hown ad m c news hn hc h1c b1 b2 hm hrun
  have h9 : ∀ g j u, v.ownBlock = some g → xs[j]? = some u → w'.cell? ⟨g, j, none⟩ = some u := fun g j u hv hj => by
    have hlt := (hown.lt g hv).2
    rcases h8 with q | q
    · have hjl : j < xs.length := (List.getElem?_eq_some_iff.1 hj).1
      have := r1.cells (g := g) (q.trans hv) j u (by rw [List.getElem?_append_left hjl]; exact hj)
      rwa [addN, Nat.zero_add] at this
    · rcases hown.2 with ⟨rfl, _⟩ | ⟨g', cap, cur, rfl, hbg, hgg, hnc, hcm, hcs, htake⟩
      · cases hv
      · cases hv
        have holds : ∀ j u, xs[j]? = some u → w.cell? ((⟨g', 0, none⟩ : Addr).add j) = some u := hown.cells (g := g') rfl
        by_cases hroom : n + m ≤ cap
        · have hfit : n * i.size + news.length ≤ cur.size := by rw [hn, hcs, h4, ← Nat.add_mul]; exact Nat.mul_le_mul_right _ hroom
          rw [run_append_room (P := P) w t o.type e i h1 h2 g' n cap cur hgg ad m c news (by rw [h4]; exact hn) hc h1c hroom hfit] at hrun
          cases hrun
          exact absurd (Option.some.inj q) (by omega)
        · rw [run_append_grow (P := P) w t o.type e i z h1 h2 h3 ⟨g', 0, none⟩ n cap xs (by rw [h4]; exact hown.1) holds ad m c news (by rw [h4]; exact hn) hc (by omega) (by unfold maxLen at b1; omega) (growslice_fits (by omega) (by rw [h5]; exact b2))] at hrun
          cases hrun
          have := holds j u hj
          rw [addN, Nat.zero_add] at this
          exact cell_al _ (cell_dr this)
  unfold Oper.wp
  simp [execOp, hop, resolve, invoke, builtin, hs, hx, hrun, Result.andThen]
  exact hK v' w' r1 r2 h8 h9
/-! ### one more group -/
theorem upL_congr {P Q : Nat → Nat} : ∀ g, (∀ k, k ≤ g → P k = Q k) → upL P g = upL Q g := by
  intro g
  induction g using Nat.strongRecOn with
  | ind g ih =>
    intro h
    conv => lhs; rw [upL]
    conv => rhs; rw [upL]
    rw [h g (Nat.le_refl _)]
    congr 1
    by_cases q : 0 < g ∧ Q g < g
    · rw [dif_pos q, dif_pos q]
      exact ih _ q.2 fun k hk => h k (by omega)
    · rw [dif_neg q, dif_neg q]
theorem snoc_old {Gs : Grps} {x : Int × Int} {k : Nat} (h : k < Gs.length) : (Gs ++ [x])[k]! = Gs[k]! := by
  rw [getElem!_pos (Gs ++ [x]) k (by simp; omega), getElem!_pos Gs k h, List.getElem_append_left h]
theorem snoc_new {Gs : Grps} {x : Int × Int} : (Gs ++ [x])[Gs.length]! = x := by
  rw [getElem!_pos (Gs ++ [x]) Gs.length (by simp)]
  simp
theorem snoc_par {Gs : Grps} {x : Int × Int} {k : Nat} (h : k < Gs.length) : parG (Gs ++ [x]) k = parG Gs k := by unfold parG; rw [snoc_old h]
theorem snoc_up {Gs : Grps} {x : Int × Int} {k : Nat} (h : k < Gs.length) : upL (parG (Gs ++ [x])) k = upL (parG Gs) k := upL_congr k fun j hj => snoc_par (by omega)
theorem RightG.snoc {Gs : Grps} (h : RightG Gs) {up : Nat} {wt : Int} (hu : up < Gs.length) (hd : ((upL (parG Gs) up).length : Int) - 1 ≤ 3) (hw : 1 ≤ wt ∧ wt ≤ 65536) (hl : Gs.length < 256) :
    RightG (Gs ++ [((up : Int), wt)]) ∧ upL (parG (Gs ++ [((up : Int), wt)])) Gs.length = Gs.length :: upL (parG Gs) up := by
  have hp : parG (Gs ++ [((up : Int), wt)]) Gs.length = up := by unfold parG; rw [snoc_new]; simp
  have hu2 : upL (parG (Gs ++ [((up : Int), wt)])) Gs.length = Gs.length :: upL (parG Gs) up := by rw [upL_pos (by omega) (by omega), hp, snoc_up hu]
  refine ⟨⟨by simp; omega, by simp, by rw [snoc_old h.pos]; exact h.root, fun g h1 h2 => ?_⟩, hu2⟩
  by_cases e : g < Gs.length
  · have i := h.rest g h1 e
    unfold gErr at i ⊢
    rw [snoc_old e, snoc_up e]
    exact i
  · have e' : g = Gs.length := by simp at h2; omega
    subst e'
    unfold gErr
    rw [snoc_new, hu2]
    simp only [List.length_cons]
    push_cast
    rw [if_neg (by omega), if_neg (by omega), if_neg (by omega)]
/-- the groups on the way, and their depths -/
structure GrOk (Gs : Grps) (ds : List Int) : Prop where
  right : RightG Gs
  len : ds.length = Gs.length
  dep : ∀ j, j < Gs.length → ds[j]! = ((upL (parG Gs) j).length : Int) - 1
theorem GrOk.le {Gs : Grps} {ds : List Int} (h : GrOk Gs ds) {j : Nat} (hj : j < Gs.length) : 0 ≤ ds[j]! ∧ ds[j]! ≤ 4 := by
  rw [h.dep j hj]
  by_cases hz : j = 0
  · subst hz; rw [upL_zero]; simp
  · have := (gErr_par (h.right.rest j (by omega) hj)).2.2.2.2
    rw [upL] at this ⊢
    simp only [List.length_cons] at this ⊢
    push_cast at this ⊢
    omega
theorem GrOk.snoc {Gs : Grps} {ds : List Int} (h : GrOk Gs ds) {up : Nat} {wt : Int} (hu : up < Gs.length) (hd : ds[up]! ≠ 4) (hw : 1 ≤ wt ∧ wt ≤ 65536) (hl : Gs.length < 256) : GrOk (Gs ++ [((up : Int), wt)]) (ds ++ [ds[up]! + 1]) := by
  have hle := h.le hu
  have e := h.dep up hu
  obtain ⟨r1, r2⟩ := h.right.snoc (wt := wt) hu (by omega) hw hl
  refine ⟨r1, by simp [h.len], fun j hj => ?_⟩
  by_cases q : j < Gs.length
  · rw [snoc_up q, ← h.dep j q, getElem!_pos (ds ++ [ds[up]! + 1]) j (by simp; rw [h.len]; omega), getElem!_pos ds j (by rw [h.len]; exact q), List.getElem_append_left (by rw [h.len]; exact q)]
  · have e' : j = Gs.length := by simp at hj; omega
    subst e'
    rw [r2, e]
    have hx : (ds ++ [((upL (parG Gs) up).length : Int) - 1 + 1])[Gs.length]! = ((upL (parG Gs) up).length : Int) - 1 + 1 := by
      rw [getElem!_pos (ds ++ [((upL (parG Gs) up).length : Int) - 1 + 1]) Gs.length (by simp [h.len])]
      simp [← h.len]
    rw [hx]
    simp only [List.length_cons]
    push_cast
    omega
theorem GrOk.one : GrOk [(0, 1)] [0] := ⟨⟨by decide, by decide, rfl, fun g h1 h2 => by simp at h2; omega⟩, rfl, fun j hj => by
  have : j = 0 := by simp at hj; omega
  subst this
  rw [upL_zero]; rfl⟩
/-! ### Groups -/
structure GrIn (base : Nat) (w : World) (v1 v2 : Value) (Gs : Grps) (ds : List Int) : Prop where
  o1 : w.ownsRow base 34 2 v1 Gs.length (flatR encG Gs)
  o2 : w.ownsRow base 3 1 v2 ds.length (intsV ds)
  ne : ∀ b, v1.ownBlock = some b → v2.ownBlock ≠ some b
theorem grin_done {base : Nat} {w : World} {Gs : Grps} {ds : List Int} {x : Int × Int} {y : Int} {k b1 b2 c1 c2 : Nat} (o1 : w.ownsRow base 34 2 (.slice (some ⟨b1, 0, none⟩) (k + 1 + 1) c1) (k + 1 + 1) (flatR encG Gs ++ [.int .i64 x.1, .int .i64 x.2])) (o2 : w.ownsRow base 3 1 (.slice (some ⟨b2, 0, none⟩) (k + 1 + 1) c2) (k + 1 + 1) (intsV ds ++ [.int .i64 y]))
    (ne : b1 ≠ b2) (hg : Gs.length = k + 1) (hd : ds.length = k + 1) : GrIn base w (.slice (some ⟨b1, 0, none⟩) (k + 1 + 1 : Nat) c1) (.slice (some ⟨b2, 0, none⟩) (k + 1 + 1 : Nat) c2) (Gs ++ [x]) (ds ++ [y]) := by
  refine ⟨?_, ?_, fun b e e' => ne ((Option.some.inj e).trans (Option.some.inj e').symm)⟩
  · rw [flatR_app, List.length_append, hg]
    exact o1
  · rw [ints_snoc, List.length_append, hd]
    exact o2
def GroupsP (w : World) (e : Ending) (w' : World) : Prop := ∃ Gs v, e = .returned v ∧ RightG Gs ∧ Gs.length ≤ 7 ∧ w'.ownsRow w.heap.size 34 2 v Gs.length (flatR encG Gs) ∧ Below w.heap.size w w'
set_option maxRecDepth 100000 in
set_option maxHeartbeats 4000000 in
theorem Groups_at (a a' : Option Addr) (n n' c c' : Nat) (ps ws : List Int) (w : World) (hp : RowAt .u8 w a n ps) (hw : RowAt .u16 w a' n' ws) (hpb : ∀ x ∈ ps, 0 ≤ x ∧ x ≤ 255) (hwb : ∀ x ∈ ws, 0 ≤ x ∧ x ≤ 65535) :
    Calls Try.prog 5 #[.slice a n c, .slice a' n' c'] w (GroupsP w) := by
  obtain ⟨ig, hi, hz0, hz1, hz2⟩ := info_parts infoGroup
  obtain ⟨ii, hj, hy0, hy1, hy2⟩ := info_parts infoI
  have HP := Lib.hid hp
  have HW := Lib.hid hw
  have HPB := Lib.hid hpb
  have HWB := Lib.hid hwb
  obtain ⟨m, hm⟩ : ∃ m : Nat, m = min (min n n') 6 := ⟨_, rfl⟩
  have hmi : min (min (n : Int) (n' : Int)) 6 = (m : Int) := by omega
  have hmn : m ≤ n ∧ m ≤ n' ∧ m ≤ 6 := by omega
  have HM := Lib.hid hmn
  clear hp hw hpb hwb hm hmn
  have hB0 : Below w.heap.size w ((w.alloc (.cells #[.int .i64 0, .int .i64 1] 34)).alloc (.cells #[.int .i64 0] 3)) := Below.allocS (Below.allocS (Below.refl _ _) _) _
  have hG0 : GrIn w.heap.size ((w.alloc (.cells #[.int .i64 0, .int .i64 1] 34)).alloc (.cells #[.int .i64 0] 3)) (.slice (some ⟨w.heap.size, 0, none⟩) 1 1) (.slice (some ⟨w.heap.size + 1, 0, none⟩) 1 1) [(0, 1)] [0] := by
    refine ⟨(World.ownsRow_lit w #[.int .i64 0, .int .i64 1] 1 (Nat.le_refl _) (by unfold maxLen; omega) rfl).alloc _, ?_, fun b e e' => by have h1 : w.heap.size = b := Option.some.inj e; have h2 : w.heap.size + 1 = b := Option.some.inj e'; omega⟩
    have := World.ownsRow_lit (base := w.heap.size) (e := 3) (size := 1) (w.alloc (.cells #[.int .i64 0, .int .i64 1] 34)) #[.int .i64 0] 1 (by simp) (by unfold maxLen; omega) rfl
    rw [show (w.alloc (.cells #[.int .i64 0, .int .i64 1] 34)).heap.size = w.heap.size + 1 by simp] at this
    exact this
  have HB0 := Lib.hid hB0
  have HG0 := Lib.hid hG0
  clear hB0 hG0
  go_enter Try.func5, Try.ntmps5
  go_upto_region 3 with fail
  go_cut [12, 13, 14, 15, 16, 17] (fun s12 s13 s14 s15 s16 s17 wx => s16 = .int .i64 m ∧ s17 = .int .i64 0 ∧ wx = (w.alloc (.cells #[.int .i64 0, .int .i64 1] 34)).alloc (.cells #[.int .i64 0] 3))
  case first =>
    go_wp2_with fail
    all_goals go_meet
    all_goals
      case rel => exact ⟨by congr 1; omega, rfl, rfl⟩
  case rest =>
    obtain ⟨rfl, rfl, rfl⟩ := hcut
    go_wp2_with fail
    go_loopw [5, 6, 17] (fun v1 v2 i wr => ∃ (k : Nat) (Gs : Grps) (ds : List Int) (bo co d cd : Nat), k ≤ m ∧ i = .int .i64 k ∧ v1 = .slice (some ⟨bo, 0, none⟩) (k + 1 : Nat) co ∧ v2 = .slice (some ⟨d, 0, none⟩) (k + 1 : Nat) cd ∧ Gs.length = k + 1 ∧ GrIn w.heap.size wr (.slice (some ⟨bo, 0, none⟩) (k + 1 : Nat) co) (.slice (some ⟨d, 0, none⟩) (k + 1 : Nat) cd) Gs ds ∧ Below w.heap.size w wr ∧ Hid (GrOk Gs ds)) (fun _ _ i _ => m - (intOf i).toNat)
    case atStart => exact ⟨0, _, _, _, _, _, _, Nat.zero_le _, rfl, rfl, rfl, rfl, HG0.out, HB0.out, Lib.hid GrOk.one⟩
    case round =>
      obtain ⟨k, Gs, ds, bo, co, d, cd, hk, rfl, rfl, rfl, hgl, hG, hB, hok⟩ := hrel
      have HB := Lib.hid hB
      have HG := Lib.hid hG
      by_cases hlt : k < m
      · have hki : (k : Int) < (m : Int) := by omega
        have z0 : decide ((k : Int) < (m : Int)) = true := decide_eq_true hki
        obtain ⟨b, off, rfl, hpc⟩ := HP.out.2 (by have := HM.out; omega)
        obtain ⟨b', off', rfl, hwc⟩ := HW.out.2 (by have := HM.out; omega)
        have hkp : k < ps.length := by rw [HP.out.1]; have := HM.out; omega
        have hkw : k < ws.length := by rw [HW.out.1]; have := HM.out; omega
        have cp := cell_later hB (hpc k _ (List.getElem?_eq_getElem hkp))
        have cw := cell_later hB (hwc k _ (List.getElem?_eq_getElem hkw))
        have bp := HPB.out _ (List.getElem_mem hkp)
        have bw := HWB.out _ (List.getElem_mem hkw)
        have hkw' := hkw
        generalize ps[k] = p at *
        generalize ws[k] = wv at *
        have hkn : (k : Int) < (n : Int) := by have := HM.out; omega
        have hkn' : (k : Int) < (n' : Int) := by have := HM.out; omega
        obtain ⟨up, hup⟩ : ∃ up : Nat, up = p.toNat % (k + 1) := ⟨_, rfl⟩
        have hul : up < k + 1 := by rw [hup]; exact Nat.mod_lt _ (by omega)
        have hmod : Int.tmod p ((k : Int) + 1) = (up : Int) := by
          rw [Int.tmod_eq_emod_of_nonneg bp.1, hup]
          push_cast
          rw [show ((p.toNat : Nat) : Int) = p by omega]
        have hmod' : p.tmod ((k + 1 : Nat) : Int) = (up : Int) := by push_cast; exact hmod
        have z1 : IntKind.i64.wrap p = p := IntWalk.i64_in _ (by omega)
        have z2 : IntKind.i64.wrap (up : Int) = (up : Int) := IntWalk.i64_in _ (by have := HM.out; omega)
        have z3 : IntKind.i64.wrap wv = wv := IntWalk.i64_in _ (by omega)
        have z4 : IntKind.i64.wrap (1 + wv) = 1 + wv := IntWalk.i64_in _ (by omega)
        have hdl : ds.length = k + 1 := by rw [hok.out.len, hgl]
        have hle := hok.out.le (j := up) (by omega)
        have hle0 := hok.out.le (j := 0) (by omega)
        have o2 := hG.o2
        rw [hdl] at o2
        have dcell : ∀ j, j < k + 1 → wr.cell? ⟨d, j, none⟩ = some (.int .i64 ds[j]!) := fun j hj => by
          rw [o2.cellAt j (by omega)]
          unfold intsV
          rw [List.getElem?_map, List.getElem?_eq_getElem (by rw [hdl]; exact hj), getElem!_pos ds j (by rw [hdl]; exact hj)]
          rfl
        have du := dcell up hul
        have hui : (up : Int) < ((k + 1 : Nat) : Int) := by omega
        have hui' : (up : Int) < (k : Int) + 1 := by omega
        have hk1 : ((k : Int) + 1 = 0) = False := by simp; omega
        have hbl' := lt_of_cell (hwc k _ (List.getElem?_eq_getElem hkw'))
        clear hpc hwc hkp hkw hkw' hB hG
        have hb'l : b' < w.heap.size := hbl'
        have o1 : wr.ownsRow w.heap.size 34 2 (.slice (some ⟨bo, 0, none⟩) (k + 1 : Nat) co) (k + 1) (flatR encG Gs) := by
          have := HG.out.o1
          rw [hgl] at this
          exact this
        have ne : bo ≠ d := fun e => HG.out.ne bo rfl (by rw [e]; rfl)
        have hW := HB.out
        have HOK := hok
        have hgl' := Lib.hid hgl
        have hdl' := Lib.hid hdl
        have hkm6 : k < 6 := by have := HM.out; omega
        obtain ⟨dv, hdv⟩ : ∃ dv, dv = ds[up]! := ⟨_, rfl⟩
        rw [← hdv] at du hle
        by_cases h4 : dv = 4
        · rw [h4] at du
          have hz : ds[0]! = 0 := by rw [hok.out.dep 0 (by omega), upL_zero]; rfl
          have dd := dcell 0 (by omega)
          rw [hz] at dd
          have xg : (intsV ds)[0]? = some (.int .i64 0) := by
            unfold intsV
            rw [List.getElem?_map, List.getElem?_eq_getElem (by rw [hdl]; omega)]
            rw [getElem!_pos ds 0 (by rw [hdl]; omega)] at hz
            rw [hz]
            rfl
          have HSN := Lib.hid (show GrOk (Gs ++ [((0 : Int), 1 + wv)]) (ds ++ [1]) by
            have := hok.out.snoc (up := 0) (wt := 1 + wv) (by omega) (by rw [hz]; decide) (by omega) (by omega)
            rw [hz] at this
            exact this)
          have XG := Lib.hid xg
          have z6 : IntKind.i64.wrap (1 : Int) = 1 := rfl
          clear hup hdv hle hle0 hz dcell hgl hdl h4 xg
          go_wp2_with fail
          have hs : wr.drew.cell? ⟨b', off' + k, none⟩ = some (.int .u16 wv) ∧ wr.drew.cell? ⟨d, 0, none⟩ = some (.int .i64 (0)) := ⟨cell_dr cw, cell_dr dd⟩
          have hS0 : (fun w' : World => w'.cell? ⟨b', off' + k, none⟩ = some (.int .u16 wv) ∧ w'.cell? ⟨d, 0, none⟩ = some (.int .i64 (0))) (wr.drew) := ⟨cell_dr cw, cell_dr dd⟩
          refine wp_region_held_drew (S := fun w' : World => w'.cell? ⟨b', off' + k, none⟩ = some (.int .u16 wv) ∧ w'.cell? ⟨d, 0, none⟩ = some (.int .i64 (0))) (by kernel_rfl) hS0 (fun hHeld => ?_)
          have hS00 : Below wr.heap.size wr wr := Below.refl _ _
          obtain ⟨wc194, hwc194⟩ : ∃ X, X = wr.drew := ⟨_, rfl⟩
          rw [← hwc194] at hHeld ⊢
          have hWc194 : Below wr.heap.size wr wc194 := by rw [hwc194]; exact (Below.refl _ _).drew
          clear hwc194
          refine takeH (i := 0) (v := ?v0_195) rfl (by kernel_rfl) (fun _ _ _ h => h) (by rfl) ?hy0_195 (by assumption) ?rest0_195
          case hy0_195 => (intro w hSw; (try dsimp only at hSw); go_simp; try with_reducible rfl)
          try simp only [Act.put, List.setIfInBounds_toArray, List.set_cons_zero, List.set_cons_succ]
          refine takeH (i := 1) (v := ?v1_196) rfl (by kernel_rfl) (fun _ _ _ h => h) (by rfl) ?hy1_196 (by assumption) ?rest1_196
          case hy1_196 => (intro w hSw; (try dsimp only at hSw); go_simp; try with_reducible rfl)
          try simp only [Act.put, List.setIfInBounds_toArray, List.set_cons_zero, List.set_cons_succ]
          refine takeH (i := 2) (v := ?v2_197) rfl (by kernel_rfl) (fun _ _ _ h => h) (by rfl) ?hy2_197 (by assumption) ?rest2_197
          case hy2_197 => (intro w hSw; (try dsimp only at hSw); go_simp; try with_reducible rfl)
          try simp only [Act.put, List.setIfInBounds_toArray, List.set_cons_zero, List.set_cons_succ]
          refine takeH (i := 3) (v := ?v3_198) rfl (by kernel_rfl) (fun _ _ _ h => h) (by rfl) ?hy3_198 (by assumption) ?rest3_198
          case hy3_198 => (intro w hSw; (try dsimp only at hSw); go_simp; try with_reducible rfl)
          try simp only [Act.put, List.setIfInBounds_toArray, List.set_cons_zero, List.set_cons_succ]
          refine takeH (i := 4) (v := ?v4_199) rfl (by kernel_rfl) (fun _ _ _ h => h) (by rfl) ?hy4_199 (by assumption) ?rest4_199
          case hy4_199 => (intro w hSw; (try dsimp only at hSw); go_simp; try with_reducible rfl)
          try simp only [Act.put, List.setIfInBounds_toArray, List.set_cons_zero, List.set_cons_succ]
          refine takeH (i := 5) (v := ?v5_200) rfl (by kernel_rfl) (fun _ _ _ h => h) (by rfl) ?hy5_200 (by assumption) ?rest5_200
          case hy5_200 => (intro w hSw; (try dsimp only at hSw); go_simp; try with_reducible rfl)
          try simp only [Act.put, List.setIfInBounds_toArray, List.set_cons_zero, List.set_cons_succ]
          refine takeH (i := 6) (v := ?v6_201) rfl (by kernel_rfl) (fun _ _ _ h => h) (by rfl) ?hy6_201 (by assumption) ?rest6_201
          case hy6_201 => (intro w hSw; (try dsimp only at hSw); go_simp; try with_reducible rfl)
          try simp only [Act.put, List.setIfInBounds_toArray, List.set_cons_zero, List.set_cons_succ]
          refine takeH (i := 7) (v := ?v7_202) rfl (by kernel_rfl) (fun _ _ _ h => h) (by rfl) ?hy7_202 (by assumption) ?rest7_202
          case hy7_202 => (intro w hSw; (try dsimp only at hSw); go_simp; try with_reducible rfl)
          try simp only [Act.put, List.setIfInBounds_toArray, List.set_cons_zero, List.set_cons_succ]
          refine takeH (i := 8) (v := ?v8_203) rfl (by kernel_rfl) (fun _ _ _ h => h) (by rfl) ?hy8_203 (by assumption) ?rest8_203
          case hy8_203 => (intro w hSw; (try dsimp only at hSw); go_simp; try with_reducible rfl)
          try simp only [Act.put, List.setIfInBounds_toArray, List.set_cons_zero, List.set_cons_succ]
          refine takeH (i := 11) (v := ?v11_204) rfl (by kernel_rfl) (fun _ _ _ h => h) (by rfl) ?hy11_204 (by assumption) ?rest11_204
          case hy11_204 => (intro w hSw; (try dsimp only at hSw); go_simp; try with_reducible rfl)
          try simp only [Act.put, List.setIfInBounds_toArray, List.set_cons_zero, List.set_cons_succ]
          refine takeH (i := 12) (v := ?v12_205) rfl (by kernel_rfl) (fun _ _ _ h => h) (by rfl) ?hy12_205 (by assumption) ?rest12_205
          case hy12_205 => (intro w hSw; (try dsimp only at hSw); go_simp; try with_reducible rfl)
          try simp only [Act.put, List.setIfInBounds_toArray, List.set_cons_zero, List.set_cons_succ]
          refine takeH (i := 13) (v := ?v13_206) rfl (by kernel_rfl) (fun _ _ _ h => h) (by rfl) ?hy13_206 (by assumption) ?rest13_206
          case hy13_206 => (intro w hSw; (try dsimp only at hSw); go_simp; try with_reducible rfl)
          try simp only [Act.put, List.setIfInBounds_toArray, List.set_cons_zero, List.set_cons_succ]
          refine takeH (i := 14) (v := ?v14_207) rfl (by kernel_rfl) (fun _ _ _ h => h) (by rfl) ?hy14_207 (by assumption) ?rest14_207
          case hy14_207 => (intro w hSw; (try dsimp only at hSw); go_simp; try with_reducible rfl)
          try simp only [Act.put, List.setIfInBounds_toArray, List.set_cons_zero, List.set_cons_succ]
          refine takeH (i := 15) (v := ?v15_208) rfl (by kernel_rfl) (fun _ _ _ h => h) (by rfl) ?hy15_208 (by assumption) ?rest15_208
          case hy15_208 => (intro w hSw; (try dsimp only at hSw); go_simp; try with_reducible rfl)
          try simp only [Act.put, List.setIfInBounds_toArray, List.set_cons_zero, List.set_cons_succ]
          refine takeH (i := 16) (v := ?v16_209) rfl (by kernel_rfl) (fun _ _ _ h => h) (by rfl) ?hy16_209 (by assumption) ?rest16_209
          case hy16_209 => (intro w hSw; (try dsimp only at hSw); go_simp; try with_reducible rfl)
          try simp only [Act.put, List.setIfInBounds_toArray, List.set_cons_zero, List.set_cons_succ]
          refine wpAnyH_ready (rs := [9, 17]) (by kernel_rfl) (by simp) ?_
          refine consH rfl (fun K hK => ?_) (consH rfl (fun K hK => ?_) (AllReadyH.nil))
          · skip
            go_simp
            replace o1 := own_below o1 hWc194
            replace o2 := own_below o2 hWc194
            replace hW := Below.step hW hWc194
            obtain ⟨w210, hw210⟩ : ∃ X, X = wc194.alloc (.cells #[.int .i64 (0), .int .i64 (1 + wv)] 34) := ⟨_, rfl⟩
            rw [← hw210]
            have hb210 : Below wc194.heap.size wc194 w210 := by rw [hw210]; exact below_a _ _
            have q1 : d ≠ wc194.heap.size := by have := (o2.lt d rfl).2; omega
            replace o1 := own_below o1 hb210
            replace o2 := own_below o2 hb210
            have l1 : ∀ j u, ([.int .i64 (0), .int .i64 (1 + wv)] : List Value)[j]? = some u → w210.cell? ⟨wc194.heap.size, j, none⟩ = some u := fun j u h => by rw [hw210]; exact cellN rfl (by simpa using h)
            have hs210 : w210.cell? ⟨b', off' + k, none⟩ = some (.int .u16 wv) ∧ w210.cell? ⟨d, 0, none⟩ = some (.int .i64 (0)) := ⟨cell_later hb210 (by first | exact hHeld.1 | exact hs.1), cell_later hb210 (by first | exact hHeld.2 | exact hs.2)⟩
            clear hs
            have hs := hs210
            clear hs210
            replace hW := Below.step hW hb210
            clear hw210
            refine hK.out _ _ (hs) (fun hHeld9 => ?_)
            clear hK K
            try simp only [Act.put, List.setIfInBounds_toArray, List.set_cons_zero, List.set_cons_succ]
            refine wpAnyH_ready (rs := [10, 17]) (by kernel_rfl) (by simp) ?_
            refine consH rfl (fun K hK => ?_) (consH rfl (fun K hK => ?_) (AllReadyH.nil))
            · skip
              refine step_append_own3 rfl (.tmp 33) (.tmp 42) 25 rfl w.heap.size 34 ig (.agg #[.int .i64 0, .int .i64 0]) 2 16 Try.underlying25 hi hz0 hz1 hz2 rfl (by decide) _ (k + 1) (flatR encG Gs) rfl o1 _ 1 1 [.int .i64 (0), .int .i64 (1 + wv)] rfl rfl (fun j u h => by rw [addN, Nat.zero_add]; exact l1 j u h) (fun u hu => by simp at hu; rcases hu with rfl | rfl <;> rfl) (by unfold maxLen; omega) (by omega) hW.size (by decide) ?_
              intro v211 w211 oa211 ga211 pa211 ka211
              obtain ⟨x211, y211, rfl⟩ := own_some oa211
              have kp211 : Kept [bo] w210 w211 := grown_kept ga211
              have lt211 := (o2.lt d rfl).2
              have ge211 := (o1.lt bo rfl).1
              have ne211 : x211 ≠ d := by
                rcases pa211 with q | q
                · have h1 : x211 = bo := Option.some.inj q
                  omega
                · have h1 : x211 = w210.heap.size := Option.some.inj q
                  omega
              replace hW : Below w.heap.size w w211 := hW.grown ga211 hW.size (fun g hg => (o1.lt g hg).1)
              replace o2 := own_kept o2 kp211 (fun b e m => by have h1 : d = b := Option.some.inj e; have h2 : b = bo := (by simpa using m); omega)
              replace hs : w211.cell? ⟨b', off' + k, none⟩ = some (.int .u16 wv) ∧ w211.cell? ⟨d, 0, none⟩ = some (.int .i64 (0)) := ⟨kp211.cellAt hs.1 (by simp; omega), kp211.cellAt hs.2 (by simp; omega)⟩
              clear o1
              have o1 := oa211
              clear oa211 ga211 pa211 ka211 kp211 l1 q1
              refine hK.out _ _ (hs) (fun hHeld10 => ?_)
              clear hK K
              try simp only [Act.put, List.setIfInBounds_toArray, List.set_cons_zero, List.set_cons_succ]
              refine wpAnyH_ready (rs := [17]) (by kernel_rfl) (by simp) ?_
              refine consH rfl (fun K hK => ?_) (AllReadyH.nil)
              go_simp
              obtain ⟨w212, hw212⟩ : ∃ X, X = w211.alloc (.cells #[.int .i64 (1)] 3) := ⟨_, rfl⟩
              rw [← hw212]
              have hb212 : Below w211.heap.size w211 w212 := by rw [hw212]; exact below_a _ _
              have q2 : x211 ≠ w211.heap.size := by have := (o1.lt x211 rfl).2; omega
              replace o1 := own_below o1 hb212
              replace o2 := own_below o2 hb212
              have l2 : ∀ j u, ([.int .i64 (1)] : List Value)[j]? = some u → w212.cell? ⟨w211.heap.size, j, none⟩ = some u := fun j u h => by rw [hw212]; exact cellN rfl (by simpa using h)
              replace hs : w212.cell? ⟨b', off' + k, none⟩ = some (.int .u16 wv) ∧ w212.cell? ⟨d, 0, none⟩ = some (.int .i64 (0)) := ⟨cell_later hb212 hs.1, cell_later hb212 hs.2⟩
              replace hW := Below.step hW hb212
              clear hw212
              refine hK.out _ _ (hs) (fun hHeld17 => ?_)
              clear hK K
              try simp only [Act.put, List.setIfInBounds_toArray, List.set_cons_zero, List.set_cons_succ]
              refine wpAnyH_ready (rs := [18]) (by kernel_rfl) (by simp) ?_
              refine consH rfl (fun K hK => ?_) (AllReadyH.nil)
              refine step_append_own3 rfl (.tmp 44) (.tmp 50) 60 rfl w.heap.size 3 ii (.int .i64 0) 1 8 Try.underlying60 hj hy0 hy1 hy2 rfl (by decide) _ (k + 1) (intsV ds) rfl o2 _ 1 1 [.int .i64 (1)] rfl rfl (fun j u h => by rw [addN, Nat.zero_add]; exact l2 j u h) (fun u hu => by simp at hu; subst hu; rfl) (by unfold maxLen; omega) (by omega) hW.size (by decide) ?_
              intro v213 w213 oa213 ga213 pa213 ka213
              obtain ⟨x213, y213, rfl⟩ := own_some oa213
              have kp213 : Kept [d] w212 w213 := grown_kept ga213
              have lt213 := (o1.lt x211 rfl).2
              have ge213 := (o2.lt d rfl).1
              have ne213 : x213 ≠ x211 := by
                rcases pa213 with q | q
                · have h1 : x213 = d := Option.some.inj q
                  omega
                · have h1 : x213 = w212.heap.size := Option.some.inj q
                  omega
              replace hW : Below w.heap.size w w213 := hW.grown ga213 hW.size (fun g hg => (o2.lt g hg).1)
              replace o1 := own_kept o1 kp213 (fun b e m => by have h1 : x211 = b := Option.some.inj e; have h2 : b = d := (by simpa using m); omega)
              replace hs : w213.cell? ⟨b', off' + k, none⟩ = some (.int .u16 wv) ∧ w213.cell? ⟨d, 0, none⟩ = some (.int .i64 (0)) := ⟨kp213.cellAt hs.1 (by simp; omega), ka213 d 0 _ rfl XG.out⟩
              clear o2
              have o2 := oa213
              clear oa213 ga213 pa213 ka213 kp213 l2 q2
              refine hK.out _ _ (hs) (fun hHeld18 => ?_)
              clear hK K
              try simp only [Act.put, List.setIfInBounds_toArray, List.set_cons_zero, List.set_cons_succ]
              refine takeH (i := 19) (v := ?v19_214) rfl (by kernel_rfl) (fun _ _ _ h => h) (by rfl) ?hy19_214 (by assumption) ?rest19_214
              case hy19_214 => (intro w hSw; (try dsimp only at hSw); go_simp; try with_reducible rfl)
              try simp only [Act.put, List.setIfInBounds_toArray, List.set_cons_zero, List.set_cons_succ]
              refine takeH (i := 20) (v := ?v20_215) rfl (by kernel_rfl) (fun _ _ _ h => h) (by rfl) ?hy20_215 (by assumption) ?rest20_215
              case hy20_215 => (intro w hSw; (try dsimp only at hSw); go_simp; try with_reducible rfl)
              try simp only [Act.put, List.setIfInBounds_toArray, List.set_cons_zero, List.set_cons_succ]
              refine wpAnyH_done (by kernel_rfl) ?_ _
              have hGN := Lib.hid (grin_done (x := (0, 1 + wv)) (y := 1) o1 o2 (show (x211 : Nat) ≠ x213 by omega) hgl'.out hdl'.out)
              have HWN := Lib.hid hW
              clear o1 o2 hs
              go_wp2_with fail
              go_roundw
              case rel => exact ⟨k + 1, _, _, _, _, _, _, by omega, by go_num, rfl, rfl, by simp [hgl'.out], hGN.out, HWN.out, HSN⟩
              case measure => simp [intOf]; omega
            · skip
              go_simp
              obtain ⟨w216, hw216⟩ : ∃ X, X = w210.alloc (.cells #[.int .i64 (1)] 3) := ⟨_, rfl⟩
              rw [← hw216]
              have hb216 : Below w210.heap.size w210 w216 := by rw [hw216]; exact below_a _ _
              have q2 : bo ≠ w210.heap.size := by have := (o1.lt bo rfl).2; omega
              replace o1 := own_below o1 hb216
              replace o2 := own_below o2 hb216
              have l2 : ∀ j u, ([.int .i64 (1)] : List Value)[j]? = some u → w216.cell? ⟨w210.heap.size, j, none⟩ = some u := fun j u h => by rw [hw216]; exact cellN rfl (by simpa using h)
              replace l1 := fun j u h => cell_later hb216 (l1 j u h)
              replace hs : w216.cell? ⟨b', off' + k, none⟩ = some (.int .u16 wv) ∧ w216.cell? ⟨d, 0, none⟩ = some (.int .i64 (0)) := ⟨cell_later hb216 hs.1, cell_later hb216 hs.2⟩
              replace hW := Below.step hW hb216
              clear hw216
              refine hK.out _ _ (hs) (fun hHeld17 => ?_)
              clear hK K
              try simp only [Act.put, List.setIfInBounds_toArray, List.set_cons_zero, List.set_cons_succ]
              refine wpAnyH_ready (rs := [10]) (by kernel_rfl) (by simp) ?_
              refine consH rfl (fun K hK => ?_) (AllReadyH.nil)
              refine step_append_own3 rfl (.tmp 33) (.tmp 42) 25 rfl w.heap.size 34 ig (.agg #[.int .i64 0, .int .i64 0]) 2 16 Try.underlying25 hi hz0 hz1 hz2 rfl (by decide) _ (k + 1) (flatR encG Gs) rfl o1 _ 1 1 [.int .i64 (0), .int .i64 (1 + wv)] rfl rfl (fun j u h => by rw [addN, Nat.zero_add]; exact l1 j u h) (fun u hu => by simp at hu; rcases hu with rfl | rfl <;> rfl) (by unfold maxLen; omega) (by omega) hW.size (by decide) ?_
              intro v217 w217 oa217 ga217 pa217 ka217
              obtain ⟨x217, y217, rfl⟩ := own_some oa217
              have kp217 : Kept [bo] w216 w217 := grown_kept ga217
              have lt217 := (o2.lt d rfl).2
              have ge217 := (o1.lt bo rfl).1
              have ne217 : x217 ≠ d := by
                rcases pa217 with q | q
                · have h1 : x217 = bo := Option.some.inj q
                  omega
                · have h1 : x217 = w216.heap.size := Option.some.inj q
                  omega
              replace hW : Below w.heap.size w w217 := hW.grown ga217 hW.size (fun g hg => (o1.lt g hg).1)
              replace o2 := own_kept o2 kp217 (fun b e m => by have h1 : d = b := Option.some.inj e; have h2 : b = bo := (by simpa using m); omega)
              replace l2 := fun j u h => kp217.cellAt (l2 j u h) (by simp; omega)
              replace hs : w217.cell? ⟨b', off' + k, none⟩ = some (.int .u16 wv) ∧ w217.cell? ⟨d, 0, none⟩ = some (.int .i64 (0)) := ⟨kp217.cellAt hs.1 (by simp; omega), kp217.cellAt hs.2 (by simp; omega)⟩
              clear o1
              have o1 := oa217
              clear oa217 ga217 pa217 ka217 kp217 l1 q1
              refine hK.out _ _ (hs) (fun hHeld10 => ?_)
              clear hK K
              try simp only [Act.put, List.setIfInBounds_toArray, List.set_cons_zero, List.set_cons_succ]
              refine wpAnyH_ready (rs := [18]) (by kernel_rfl) (by simp) ?_
              refine consH rfl (fun K hK => ?_) (AllReadyH.nil)
              refine step_append_own3 rfl (.tmp 44) (.tmp 50) 60 rfl w.heap.size 3 ii (.int .i64 0) 1 8 Try.underlying60 hj hy0 hy1 hy2 rfl (by decide) _ (k + 1) (intsV ds) rfl o2 _ 1 1 [.int .i64 (1)] rfl rfl (fun j u h => by rw [addN, Nat.zero_add]; exact l2 j u h) (fun u hu => by simp at hu; subst hu; rfl) (by unfold maxLen; omega) (by omega) hW.size (by decide) ?_
              intro v218 w218 oa218 ga218 pa218 ka218
              obtain ⟨x218, y218, rfl⟩ := own_some oa218
              have kp218 : Kept [d] w217 w218 := grown_kept ga218
              have lt218 := (o1.lt x217 rfl).2
              have ge218 := (o2.lt d rfl).1
              have ne218 : x218 ≠ x217 := by
                rcases pa218 with q | q
                · have h1 : x218 = d := Option.some.inj q
                  omega
                · have h1 : x218 = w217.heap.size := Option.some.inj q
                  omega
              replace hW : Below w.heap.size w w218 := hW.grown ga218 hW.size (fun g hg => (o2.lt g hg).1)
              replace o1 := own_kept o1 kp218 (fun b e m => by have h1 : x217 = b := Option.some.inj e; have h2 : b = d := (by simpa using m); omega)
              replace hs : w218.cell? ⟨b', off' + k, none⟩ = some (.int .u16 wv) ∧ w218.cell? ⟨d, 0, none⟩ = some (.int .i64 (0)) := ⟨kp218.cellAt hs.1 (by simp; omega), ka218 d 0 _ rfl XG.out⟩
              clear o2
              have o2 := oa218
              clear oa218 ga218 pa218 ka218 kp218 l2 q2
              refine hK.out _ _ (hs) (fun hHeld18 => ?_)
              clear hK K
              try simp only [Act.put, List.setIfInBounds_toArray, List.set_cons_zero, List.set_cons_succ]
              refine takeH (i := 19) (v := ?v19_219) rfl (by kernel_rfl) (fun _ _ _ h => h) (by rfl) ?hy19_219 (by assumption) ?rest19_219
              case hy19_219 => (intro w hSw; (try dsimp only at hSw); go_simp; try with_reducible rfl)
              try simp only [Act.put, List.setIfInBounds_toArray, List.set_cons_zero, List.set_cons_succ]
              refine takeH (i := 20) (v := ?v20_220) rfl (by kernel_rfl) (fun _ _ _ h => h) (by rfl) ?hy20_220 (by assumption) ?rest20_220
              case hy20_220 => (intro w hSw; (try dsimp only at hSw); go_simp; try with_reducible rfl)
              try simp only [Act.put, List.setIfInBounds_toArray, List.set_cons_zero, List.set_cons_succ]
              refine wpAnyH_done (by kernel_rfl) ?_ _
              have hGN := Lib.hid (grin_done (x := (0, 1 + wv)) (y := 1) o1 o2 (show (x217 : Nat) ≠ x218 by omega) hgl'.out hdl'.out)
              have HWN := Lib.hid hW
              clear o1 o2 hs
              go_wp2_with fail
              go_roundw
              case rel => exact ⟨k + 1, _, _, _, _, _, _, by omega, by go_num, rfl, rfl, by simp [hgl'.out], hGN.out, HWN.out, HSN⟩
              case measure => simp [intOf]; omega
          · skip
            go_simp
            replace o1 := own_below o1 hWc194
            replace o2 := own_below o2 hWc194
            replace hW := Below.step hW hWc194
            obtain ⟨w221, hw221⟩ : ∃ X, X = wc194.alloc (.cells #[.int .i64 (1)] 3) := ⟨_, rfl⟩
            rw [← hw221]
            have hb221 : Below wc194.heap.size wc194 w221 := by rw [hw221]; exact below_a _ _
            have q2 : bo ≠ wc194.heap.size := by have := (o1.lt bo rfl).2; omega
            replace o1 := own_below o1 hb221
            replace o2 := own_below o2 hb221
            have l2 : ∀ j u, ([.int .i64 (1)] : List Value)[j]? = some u → w221.cell? ⟨wc194.heap.size, j, none⟩ = some u := fun j u h => by rw [hw221]; exact cellN rfl (by simpa using h)
            have hs221 : w221.cell? ⟨b', off' + k, none⟩ = some (.int .u16 wv) ∧ w221.cell? ⟨d, 0, none⟩ = some (.int .i64 (0)) := ⟨cell_later hb221 (by first | exact hHeld.1 | exact hs.1), cell_later hb221 (by first | exact hHeld.2 | exact hs.2)⟩
            clear hs
            have hs := hs221
            clear hs221
            replace hW := Below.step hW hb221
            clear hw221
            refine hK.out _ _ (hs) (fun hHeld17 => ?_)
            clear hK K
            try simp only [Act.put, List.setIfInBounds_toArray, List.set_cons_zero, List.set_cons_succ]
            refine wpAnyH_ready (rs := [9]) (by kernel_rfl) (by simp) ?_
            refine consH rfl (fun K hK => ?_) (AllReadyH.nil)
            go_simp
            obtain ⟨w222, hw222⟩ : ∃ X, X = w221.alloc (.cells #[.int .i64 (0), .int .i64 (1 + wv)] 34) := ⟨_, rfl⟩
            rw [← hw222]
            have hb222 : Below w221.heap.size w221 w222 := by rw [hw222]; exact below_a _ _
            have q1 : d ≠ w221.heap.size := by have := (o2.lt d rfl).2; omega
            replace o1 := own_below o1 hb222
            replace o2 := own_below o2 hb222
            have l1 : ∀ j u, ([.int .i64 (0), .int .i64 (1 + wv)] : List Value)[j]? = some u → w222.cell? ⟨w221.heap.size, j, none⟩ = some u := fun j u h => by rw [hw222]; exact cellN rfl (by simpa using h)
            replace l2 := fun j u h => cell_later hb222 (l2 j u h)
            replace hs : w222.cell? ⟨b', off' + k, none⟩ = some (.int .u16 wv) ∧ w222.cell? ⟨d, 0, none⟩ = some (.int .i64 (0)) := ⟨cell_later hb222 hs.1, cell_later hb222 hs.2⟩
            replace hW := Below.step hW hb222
            clear hw222
            refine hK.out _ _ (hs) (fun hHeld9 => ?_)
            clear hK K
            try simp only [Act.put, List.setIfInBounds_toArray, List.set_cons_zero, List.set_cons_succ]
            refine wpAnyH_ready (rs := [10]) (by kernel_rfl) (by simp) ?_
            refine consH rfl (fun K hK => ?_) (AllReadyH.nil)
            refine step_append_own3 rfl (.tmp 33) (.tmp 42) 25 rfl w.heap.size 34 ig (.agg #[.int .i64 0, .int .i64 0]) 2 16 Try.underlying25 hi hz0 hz1 hz2 rfl (by decide) _ (k + 1) (flatR encG Gs) rfl o1 _ 1 1 [.int .i64 (0), .int .i64 (1 + wv)] rfl rfl (fun j u h => by rw [addN, Nat.zero_add]; exact l1 j u h) (fun u hu => by simp at hu; rcases hu with rfl | rfl <;> rfl) (by unfold maxLen; omega) (by omega) hW.size (by decide) ?_
            intro v223 w223 oa223 ga223 pa223 ka223
            obtain ⟨x223, y223, rfl⟩ := own_some oa223
            have kp223 : Kept [bo] w222 w223 := grown_kept ga223
            have lt223 := (o2.lt d rfl).2
            have ge223 := (o1.lt bo rfl).1
            have ne223 : x223 ≠ d := by
              rcases pa223 with q | q
              · have h1 : x223 = bo := Option.some.inj q
                omega
              · have h1 : x223 = w222.heap.size := Option.some.inj q
                omega
            replace hW : Below w.heap.size w w223 := hW.grown ga223 hW.size (fun g hg => (o1.lt g hg).1)
            replace o2 := own_kept o2 kp223 (fun b e m => by have h1 : d = b := Option.some.inj e; have h2 : b = bo := (by simpa using m); omega)
            replace l2 := fun j u h => kp223.cellAt (l2 j u h) (by simp; omega)
            replace hs : w223.cell? ⟨b', off' + k, none⟩ = some (.int .u16 wv) ∧ w223.cell? ⟨d, 0, none⟩ = some (.int .i64 (0)) := ⟨kp223.cellAt hs.1 (by simp; omega), kp223.cellAt hs.2 (by simp; omega)⟩
            clear o1
            have o1 := oa223
            clear oa223 ga223 pa223 ka223 kp223 l1 q1
            refine hK.out _ _ (hs) (fun hHeld10 => ?_)
            clear hK K
            try simp only [Act.put, List.setIfInBounds_toArray, List.set_cons_zero, List.set_cons_succ]
            refine wpAnyH_ready (rs := [18]) (by kernel_rfl) (by simp) ?_
            refine consH rfl (fun K hK => ?_) (AllReadyH.nil)
            refine step_append_own3 rfl (.tmp 44) (.tmp 50) 60 rfl w.heap.size 3 ii (.int .i64 0) 1 8 Try.underlying60 hj hy0 hy1 hy2 rfl (by decide) _ (k + 1) (intsV ds) rfl o2 _ 1 1 [.int .i64 (1)] rfl rfl (fun j u h => by rw [addN, Nat.zero_add]; exact l2 j u h) (fun u hu => by simp at hu; subst hu; rfl) (by unfold maxLen; omega) (by omega) hW.size (by decide) ?_
            intro v224 w224 oa224 ga224 pa224 ka224
            obtain ⟨x224, y224, rfl⟩ := own_some oa224
            have kp224 : Kept [d] w223 w224 := grown_kept ga224
            have lt224 := (o1.lt x223 rfl).2
            have ge224 := (o2.lt d rfl).1
            have ne224 : x224 ≠ x223 := by
              rcases pa224 with q | q
              · have h1 : x224 = d := Option.some.inj q
                omega
              · have h1 : x224 = w223.heap.size := Option.some.inj q
                omega
            replace hW : Below w.heap.size w w224 := hW.grown ga224 hW.size (fun g hg => (o2.lt g hg).1)
            replace o1 := own_kept o1 kp224 (fun b e m => by have h1 : x223 = b := Option.some.inj e; have h2 : b = d := (by simpa using m); omega)
            replace hs : w224.cell? ⟨b', off' + k, none⟩ = some (.int .u16 wv) ∧ w224.cell? ⟨d, 0, none⟩ = some (.int .i64 (0)) := ⟨kp224.cellAt hs.1 (by simp; omega), ka224 d 0 _ rfl XG.out⟩
            clear o2
            have o2 := oa224
            clear oa224 ga224 pa224 ka224 kp224 l2 q2
            refine hK.out _ _ (hs) (fun hHeld18 => ?_)
            clear hK K
            try simp only [Act.put, List.setIfInBounds_toArray, List.set_cons_zero, List.set_cons_succ]
            refine takeH (i := 19) (v := ?v19_225) rfl (by kernel_rfl) (fun _ _ _ h => h) (by rfl) ?hy19_225 (by assumption) ?rest19_225
            case hy19_225 => (intro w hSw; (try dsimp only at hSw); go_simp; try with_reducible rfl)
            try simp only [Act.put, List.setIfInBounds_toArray, List.set_cons_zero, List.set_cons_succ]
            refine takeH (i := 20) (v := ?v20_226) rfl (by kernel_rfl) (fun _ _ _ h => h) (by rfl) ?hy20_226 (by assumption) ?rest20_226
            case hy20_226 => (intro w hSw; (try dsimp only at hSw); go_simp; try with_reducible rfl)
            try simp only [Act.put, List.setIfInBounds_toArray, List.set_cons_zero, List.set_cons_succ]
            refine wpAnyH_done (by kernel_rfl) ?_ _
            have hGN := Lib.hid (grin_done (x := (0, 1 + wv)) (y := 1) o1 o2 (show (x223 : Nat) ≠ x224 by omega) hgl'.out hdl'.out)
            have HWN := Lib.hid hW
            clear o1 o2 hs
            go_wp2_with fail
            go_roundw
            case rel => exact ⟨k + 1, _, _, _, _, _, _, by omega, by go_num, rfl, rfl, by simp [hgl'.out], hGN.out, HWN.out, HSN⟩
            case measure => simp [intOf]; omega
        · have z5 : (dv == 4) = false := beq_eq_false_iff_ne.2 h4
          have dd := du
          have xg : (intsV ds)[up]? = some (.int .i64 dv) := by
            unfold intsV
            rw [List.getElem?_map, List.getElem?_eq_getElem (by rw [hdl]; omega), hdv, getElem!_pos ds up (by rw [hdl]; omega)]
            rfl
          have HSN := Lib.hid (show GrOk (Gs ++ [((up : Int), 1 + wv)]) (ds ++ [dv + 1]) by
            have := hok.out.snoc (up := up) (wt := 1 + wv) (by omega) (by rw [← hdv]; exact h4) (by omega) (by omega)
            rw [← hdv] at this
            exact this)
          have XG := Lib.hid xg
          have z6 : IntKind.i64.wrap (dv + 1) = dv + 1 := IntWalk.i64_in _ (by omega)
          clear hup hdv hle hle0 dcell hgl hdl h4 xg
          go_wp2_with fail
          have hs : wr.drew.cell? ⟨b', off' + k, none⟩ = some (.int .u16 wv) ∧ wr.drew.cell? ⟨d, up, none⟩ = some (.int .i64 (dv)) := ⟨cell_dr cw, cell_dr dd⟩
          have hS0 : (fun w' : World => w'.cell? ⟨b', off' + k, none⟩ = some (.int .u16 wv) ∧ w'.cell? ⟨d, up, none⟩ = some (.int .i64 (dv))) (wr.drew) := ⟨cell_dr cw, cell_dr dd⟩
          refine wp_region_held_drew (S := fun w' : World => w'.cell? ⟨b', off' + k, none⟩ = some (.int .u16 wv) ∧ w'.cell? ⟨d, up, none⟩ = some (.int .i64 (dv))) (by kernel_rfl) hS0 (fun hHeld => ?_)
          have hS00 : Below wr.heap.size wr wr := Below.refl _ _
          obtain ⟨wc227, hwc227⟩ : ∃ X, X = wr.drew := ⟨_, rfl⟩
          rw [← hwc227] at hHeld ⊢
          have hWc227 : Below wr.heap.size wr wc227 := by rw [hwc227]; exact (Below.refl _ _).drew
          clear hwc227
          refine takeH (i := 0) (v := ?v0_228) rfl (by kernel_rfl) (fun _ _ _ h => h) (by rfl) ?hy0_228 (by assumption) ?rest0_228
          case hy0_228 => (intro w hSw; (try dsimp only at hSw); go_simp; try with_reducible rfl)
          try simp only [Act.put, List.setIfInBounds_toArray, List.set_cons_zero, List.set_cons_succ]
          refine takeH (i := 1) (v := ?v1_229) rfl (by kernel_rfl) (fun _ _ _ h => h) (by rfl) ?hy1_229 (by assumption) ?rest1_229
          case hy1_229 => (intro w hSw; (try dsimp only at hSw); go_simp; try with_reducible rfl)
          try simp only [Act.put, List.setIfInBounds_toArray, List.set_cons_zero, List.set_cons_succ]
          refine takeH (i := 2) (v := ?v2_230) rfl (by kernel_rfl) (fun _ _ _ h => h) (by rfl) ?hy2_230 (by assumption) ?rest2_230
          case hy2_230 => (intro w hSw; (try dsimp only at hSw); go_simp; try with_reducible rfl)
          try simp only [Act.put, List.setIfInBounds_toArray, List.set_cons_zero, List.set_cons_succ]
          refine takeH (i := 3) (v := ?v3_231) rfl (by kernel_rfl) (fun _ _ _ h => h) (by rfl) ?hy3_231 (by assumption) ?rest3_231
          case hy3_231 => (intro w hSw; (try dsimp only at hSw); go_simp; try with_reducible rfl)
          try simp only [Act.put, List.setIfInBounds_toArray, List.set_cons_zero, List.set_cons_succ]
          refine takeH (i := 4) (v := ?v4_232) rfl (by kernel_rfl) (fun _ _ _ h => h) (by rfl) ?hy4_232 (by assumption) ?rest4_232
          case hy4_232 => (intro w hSw; (try dsimp only at hSw); go_simp; try with_reducible rfl)
          try simp only [Act.put, List.setIfInBounds_toArray, List.set_cons_zero, List.set_cons_succ]
          refine takeH (i := 5) (v := ?v5_233) rfl (by kernel_rfl) (fun _ _ _ h => h) (by rfl) ?hy5_233 (by assumption) ?rest5_233
          case hy5_233 => (intro w hSw; (try dsimp only at hSw); go_simp; try with_reducible rfl)
          try simp only [Act.put, List.setIfInBounds_toArray, List.set_cons_zero, List.set_cons_succ]
          refine takeH (i := 6) (v := ?v6_234) rfl (by kernel_rfl) (fun _ _ _ h => h) (by rfl) ?hy6_234 (by assumption) ?rest6_234
          case hy6_234 => (intro w hSw; (try dsimp only at hSw); go_simp; try with_reducible rfl)
          try simp only [Act.put, List.setIfInBounds_toArray, List.set_cons_zero, List.set_cons_succ]
          refine takeH (i := 7) (v := ?v7_235) rfl (by kernel_rfl) (fun _ _ _ h => h) (by rfl) ?hy7_235 (by assumption) ?rest7_235
          case hy7_235 => (intro w hSw; (try dsimp only at hSw); go_simp; try with_reducible rfl)
          try simp only [Act.put, List.setIfInBounds_toArray, List.set_cons_zero, List.set_cons_succ]
          refine takeH (i := 8) (v := ?v8_236) rfl (by kernel_rfl) (fun _ _ _ h => h) (by rfl) ?hy8_236 (by assumption) ?rest8_236
          case hy8_236 => (intro w hSw; (try dsimp only at hSw); go_simp; try with_reducible rfl)
          try simp only [Act.put, List.setIfInBounds_toArray, List.set_cons_zero, List.set_cons_succ]
          refine takeH (i := 11) (v := ?v11_237) rfl (by kernel_rfl) (fun _ _ _ h => h) (by rfl) ?hy11_237 (by assumption) ?rest11_237
          case hy11_237 => (intro w hSw; (try dsimp only at hSw); go_simp; try with_reducible rfl)
          try simp only [Act.put, List.setIfInBounds_toArray, List.set_cons_zero, List.set_cons_succ]
          refine takeH (i := 12) (v := ?v12_238) rfl (by kernel_rfl) (fun _ _ _ h => h) (by rfl) ?hy12_238 (by assumption) ?rest12_238
          case hy12_238 => (intro w hSw; (try dsimp only at hSw); go_simp; try with_reducible rfl)
          try simp only [Act.put, List.setIfInBounds_toArray, List.set_cons_zero, List.set_cons_succ]
          refine takeH (i := 13) (v := ?v13_239) rfl (by kernel_rfl) (fun _ _ _ h => h) (by rfl) ?hy13_239 (by assumption) ?rest13_239
          case hy13_239 => (intro w hSw; (try dsimp only at hSw); go_simp; try with_reducible rfl)
          try simp only [Act.put, List.setIfInBounds_toArray, List.set_cons_zero, List.set_cons_succ]
          refine takeH (i := 14) (v := ?v14_240) rfl (by kernel_rfl) (fun _ _ _ h => h) (by rfl) ?hy14_240 (by assumption) ?rest14_240
          case hy14_240 => (intro w hSw; (try dsimp only at hSw); go_simp; try with_reducible rfl)
          try simp only [Act.put, List.setIfInBounds_toArray, List.set_cons_zero, List.set_cons_succ]
          refine takeH (i := 15) (v := ?v15_241) rfl (by kernel_rfl) (fun _ _ _ h => h) (by rfl) ?hy15_241 (by assumption) ?rest15_241
          case hy15_241 => (intro w hSw; (try dsimp only at hSw); go_simp; try with_reducible rfl)
          try simp only [Act.put, List.setIfInBounds_toArray, List.set_cons_zero, List.set_cons_succ]
          refine takeH (i := 16) (v := ?v16_242) rfl (by kernel_rfl) (fun _ _ _ h => h) (by rfl) ?hy16_242 (by assumption) ?rest16_242
          case hy16_242 => (intro w hSw; (try dsimp only at hSw); go_simp; try with_reducible rfl)
          try simp only [Act.put, List.setIfInBounds_toArray, List.set_cons_zero, List.set_cons_succ]
          refine wpAnyH_ready (rs := [9, 17]) (by kernel_rfl) (by simp) ?_
          refine consH rfl (fun K hK => ?_) (consH rfl (fun K hK => ?_) (AllReadyH.nil))
          · skip
            go_simp
            replace o1 := own_below o1 hWc227
            replace o2 := own_below o2 hWc227
            replace hW := Below.step hW hWc227
            obtain ⟨w243, hw243⟩ : ∃ X, X = wc227.alloc (.cells #[.int .i64 ((up : Int)), .int .i64 (1 + wv)] 34) := ⟨_, rfl⟩
            rw [← hw243]
            have hb243 : Below wc227.heap.size wc227 w243 := by rw [hw243]; exact below_a _ _
            have q1 : d ≠ wc227.heap.size := by have := (o2.lt d rfl).2; omega
            replace o1 := own_below o1 hb243
            replace o2 := own_below o2 hb243
            have l1 : ∀ j u, ([.int .i64 ((up : Int)), .int .i64 (1 + wv)] : List Value)[j]? = some u → w243.cell? ⟨wc227.heap.size, j, none⟩ = some u := fun j u h => by rw [hw243]; exact cellN rfl (by simpa using h)
            have hs243 : w243.cell? ⟨b', off' + k, none⟩ = some (.int .u16 wv) ∧ w243.cell? ⟨d, up, none⟩ = some (.int .i64 (dv)) := ⟨cell_later hb243 (by first | exact hHeld.1 | exact hs.1), cell_later hb243 (by first | exact hHeld.2 | exact hs.2)⟩
            clear hs
            have hs := hs243
            clear hs243
            replace hW := Below.step hW hb243
            clear hw243
            refine hK.out _ _ (hs) (fun hHeld9 => ?_)
            clear hK K
            try simp only [Act.put, List.setIfInBounds_toArray, List.set_cons_zero, List.set_cons_succ]
            refine wpAnyH_ready (rs := [10, 17]) (by kernel_rfl) (by simp) ?_
            refine consH rfl (fun K hK => ?_) (consH rfl (fun K hK => ?_) (AllReadyH.nil))
            · skip
              refine step_append_own3 rfl (.tmp 33) (.tmp 42) 25 rfl w.heap.size 34 ig (.agg #[.int .i64 0, .int .i64 0]) 2 16 Try.underlying25 hi hz0 hz1 hz2 rfl (by decide) _ (k + 1) (flatR encG Gs) rfl o1 _ 1 1 [.int .i64 ((up : Int)), .int .i64 (1 + wv)] rfl rfl (fun j u h => by rw [addN, Nat.zero_add]; exact l1 j u h) (fun u hu => by simp at hu; rcases hu with rfl | rfl <;> rfl) (by unfold maxLen; omega) (by omega) hW.size (by decide) ?_
              intro v244 w244 oa244 ga244 pa244 ka244
              obtain ⟨x244, y244, rfl⟩ := own_some oa244
              have kp244 : Kept [bo] w243 w244 := grown_kept ga244
              have lt244 := (o2.lt d rfl).2
              have ge244 := (o1.lt bo rfl).1
              have ne244 : x244 ≠ d := by
                rcases pa244 with q | q
                · have h1 : x244 = bo := Option.some.inj q
                  omega
                · have h1 : x244 = w243.heap.size := Option.some.inj q
                  omega
              replace hW : Below w.heap.size w w244 := hW.grown ga244 hW.size (fun g hg => (o1.lt g hg).1)
              replace o2 := own_kept o2 kp244 (fun b e m => by have h1 : d = b := Option.some.inj e; have h2 : b = bo := (by simpa using m); omega)
              replace hs : w244.cell? ⟨b', off' + k, none⟩ = some (.int .u16 wv) ∧ w244.cell? ⟨d, up, none⟩ = some (.int .i64 (dv)) := ⟨kp244.cellAt hs.1 (by simp; omega), kp244.cellAt hs.2 (by simp; omega)⟩
              clear o1
              have o1 := oa244
              clear oa244 ga244 pa244 ka244 kp244 l1 q1
              refine hK.out _ _ (hs) (fun hHeld10 => ?_)
              clear hK K
              try simp only [Act.put, List.setIfInBounds_toArray, List.set_cons_zero, List.set_cons_succ]
              refine wpAnyH_ready (rs := [17]) (by kernel_rfl) (by simp) ?_
              refine consH rfl (fun K hK => ?_) (AllReadyH.nil)
              go_simp
              obtain ⟨w245, hw245⟩ : ∃ X, X = w244.alloc (.cells #[.int .i64 (dv + 1)] 3) := ⟨_, rfl⟩
              rw [← hw245]
              have hb245 : Below w244.heap.size w244 w245 := by rw [hw245]; exact below_a _ _
              have q2 : x244 ≠ w244.heap.size := by have := (o1.lt x244 rfl).2; omega
              replace o1 := own_below o1 hb245
              replace o2 := own_below o2 hb245
              have l2 : ∀ j u, ([.int .i64 (dv + 1)] : List Value)[j]? = some u → w245.cell? ⟨w244.heap.size, j, none⟩ = some u := fun j u h => by rw [hw245]; exact cellN rfl (by simpa using h)
              replace hs : w245.cell? ⟨b', off' + k, none⟩ = some (.int .u16 wv) ∧ w245.cell? ⟨d, up, none⟩ = some (.int .i64 (dv)) := ⟨cell_later hb245 hs.1, cell_later hb245 hs.2⟩
              replace hW := Below.step hW hb245
              clear hw245
              refine hK.out _ _ (hs) (fun hHeld17 => ?_)
              clear hK K
              try simp only [Act.put, List.setIfInBounds_toArray, List.set_cons_zero, List.set_cons_succ]
              refine wpAnyH_ready (rs := [18]) (by kernel_rfl) (by simp) ?_
              refine consH rfl (fun K hK => ?_) (AllReadyH.nil)
              refine step_append_own3 rfl (.tmp 44) (.tmp 50) 60 rfl w.heap.size 3 ii (.int .i64 0) 1 8 Try.underlying60 hj hy0 hy1 hy2 rfl (by decide) _ (k + 1) (intsV ds) rfl o2 _ 1 1 [.int .i64 (dv + 1)] rfl rfl (fun j u h => by rw [addN, Nat.zero_add]; exact l2 j u h) (fun u hu => by simp at hu; subst hu; rfl) (by unfold maxLen; omega) (by omega) hW.size (by decide) ?_
              intro v246 w246 oa246 ga246 pa246 ka246
              obtain ⟨x246, y246, rfl⟩ := own_some oa246
              have kp246 : Kept [d] w245 w246 := grown_kept ga246
              have lt246 := (o1.lt x244 rfl).2
              have ge246 := (o2.lt d rfl).1
              have ne246 : x246 ≠ x244 := by
                rcases pa246 with q | q
                · have h1 : x246 = d := Option.some.inj q
                  omega
                · have h1 : x246 = w245.heap.size := Option.some.inj q
                  omega
              replace hW : Below w.heap.size w w246 := hW.grown ga246 hW.size (fun g hg => (o2.lt g hg).1)
              replace o1 := own_kept o1 kp246 (fun b e m => by have h1 : x244 = b := Option.some.inj e; have h2 : b = d := (by simpa using m); omega)
              replace hs : w246.cell? ⟨b', off' + k, none⟩ = some (.int .u16 wv) ∧ w246.cell? ⟨d, up, none⟩ = some (.int .i64 (dv)) := ⟨kp246.cellAt hs.1 (by simp; omega), ka246 d up _ rfl XG.out⟩
              clear o2
              have o2 := oa246
              clear oa246 ga246 pa246 ka246 kp246 l2 q2
              refine hK.out _ _ (hs) (fun hHeld18 => ?_)
              clear hK K
              try simp only [Act.put, List.setIfInBounds_toArray, List.set_cons_zero, List.set_cons_succ]
              refine takeH (i := 19) (v := ?v19_247) rfl (by kernel_rfl) (fun _ _ _ h => h) (by rfl) ?hy19_247 (by assumption) ?rest19_247
              case hy19_247 => (intro w hSw; (try dsimp only at hSw); go_simp; try with_reducible rfl)
              try simp only [Act.put, List.setIfInBounds_toArray, List.set_cons_zero, List.set_cons_succ]
              refine takeH (i := 20) (v := ?v20_248) rfl (by kernel_rfl) (fun _ _ _ h => h) (by rfl) ?hy20_248 (by assumption) ?rest20_248
              case hy20_248 => (intro w hSw; (try dsimp only at hSw); go_simp; try with_reducible rfl)
              try simp only [Act.put, List.setIfInBounds_toArray, List.set_cons_zero, List.set_cons_succ]
              refine wpAnyH_done (by kernel_rfl) ?_ _
              have hGN := Lib.hid (grin_done (x := ((up : Int), 1 + wv)) (y := dv + 1) o1 o2 (show (x244 : Nat) ≠ x246 by omega) hgl'.out hdl'.out)
              have HWN := Lib.hid hW
              clear o1 o2 hs
              go_wp2_with fail
              go_roundw
              case rel => exact ⟨k + 1, _, _, _, _, _, _, by omega, by go_num, rfl, rfl, by simp [hgl'.out], hGN.out, HWN.out, HSN⟩
              case measure => simp [intOf]; omega
            · skip
              go_simp
              obtain ⟨w249, hw249⟩ : ∃ X, X = w243.alloc (.cells #[.int .i64 (dv + 1)] 3) := ⟨_, rfl⟩
              rw [← hw249]
              have hb249 : Below w243.heap.size w243 w249 := by rw [hw249]; exact below_a _ _
              have q2 : bo ≠ w243.heap.size := by have := (o1.lt bo rfl).2; omega
              replace o1 := own_below o1 hb249
              replace o2 := own_below o2 hb249
              have l2 : ∀ j u, ([.int .i64 (dv + 1)] : List Value)[j]? = some u → w249.cell? ⟨w243.heap.size, j, none⟩ = some u := fun j u h => by rw [hw249]; exact cellN rfl (by simpa using h)
              replace l1 := fun j u h => cell_later hb249 (l1 j u h)
              replace hs : w249.cell? ⟨b', off' + k, none⟩ = some (.int .u16 wv) ∧ w249.cell? ⟨d, up, none⟩ = some (.int .i64 (dv)) := ⟨cell_later hb249 hs.1, cell_later hb249 hs.2⟩
              replace hW := Below.step hW hb249
              clear hw249
              refine hK.out _ _ (hs) (fun hHeld17 => ?_)
              clear hK K
              try simp only [Act.put, List.setIfInBounds_toArray, List.set_cons_zero, List.set_cons_succ]
              refine wpAnyH_ready (rs := [10]) (by kernel_rfl) (by simp) ?_
              refine consH rfl (fun K hK => ?_) (AllReadyH.nil)
              refine step_append_own3 rfl (.tmp 33) (.tmp 42) 25 rfl w.heap.size 34 ig (.agg #[.int .i64 0, .int .i64 0]) 2 16 Try.underlying25 hi hz0 hz1 hz2 rfl (by decide) _ (k + 1) (flatR encG Gs) rfl o1 _ 1 1 [.int .i64 ((up : Int)), .int .i64 (1 + wv)] rfl rfl (fun j u h => by rw [addN, Nat.zero_add]; exact l1 j u h) (fun u hu => by simp at hu; rcases hu with rfl | rfl <;> rfl) (by unfold maxLen; omega) (by omega) hW.size (by decide) ?_
              intro v250 w250 oa250 ga250 pa250 ka250
              obtain ⟨x250, y250, rfl⟩ := own_some oa250
              have kp250 : Kept [bo] w249 w250 := grown_kept ga250
              have lt250 := (o2.lt d rfl).2
              have ge250 := (o1.lt bo rfl).1
              have ne250 : x250 ≠ d := by
                rcases pa250 with q | q
                · have h1 : x250 = bo := Option.some.inj q
                  omega
                · have h1 : x250 = w249.heap.size := Option.some.inj q
                  omega
              replace hW : Below w.heap.size w w250 := hW.grown ga250 hW.size (fun g hg => (o1.lt g hg).1)
              replace o2 := own_kept o2 kp250 (fun b e m => by have h1 : d = b := Option.some.inj e; have h2 : b = bo := (by simpa using m); omega)
              replace l2 := fun j u h => kp250.cellAt (l2 j u h) (by simp; omega)
              replace hs : w250.cell? ⟨b', off' + k, none⟩ = some (.int .u16 wv) ∧ w250.cell? ⟨d, up, none⟩ = some (.int .i64 (dv)) := ⟨kp250.cellAt hs.1 (by simp; omega), kp250.cellAt hs.2 (by simp; omega)⟩
              clear o1
              have o1 := oa250
              clear oa250 ga250 pa250 ka250 kp250 l1 q1
              refine hK.out _ _ (hs) (fun hHeld10 => ?_)
              clear hK K
              try simp only [Act.put, List.setIfInBounds_toArray, List.set_cons_zero, List.set_cons_succ]
              refine wpAnyH_ready (rs := [18]) (by kernel_rfl) (by simp) ?_
              refine consH rfl (fun K hK => ?_) (AllReadyH.nil)
              refine step_append_own3 rfl (.tmp 44) (.tmp 50) 60 rfl w.heap.size 3 ii (.int .i64 0) 1 8 Try.underlying60 hj hy0 hy1 hy2 rfl (by decide) _ (k + 1) (intsV ds) rfl o2 _ 1 1 [.int .i64 (dv + 1)] rfl rfl (fun j u h => by rw [addN, Nat.zero_add]; exact l2 j u h) (fun u hu => by simp at hu; subst hu; rfl) (by unfold maxLen; omega) (by omega) hW.size (by decide) ?_
              intro v251 w251 oa251 ga251 pa251 ka251
              obtain ⟨x251, y251, rfl⟩ := own_some oa251
              have kp251 : Kept [d] w250 w251 := grown_kept ga251
              have lt251 := (o1.lt x250 rfl).2
              have ge251 := (o2.lt d rfl).1
              have ne251 : x251 ≠ x250 := by
                rcases pa251 with q | q
                · have h1 : x251 = d := Option.some.inj q
                  omega
                · have h1 : x251 = w250.heap.size := Option.some.inj q
                  omega
              replace hW : Below w.heap.size w w251 := hW.grown ga251 hW.size (fun g hg => (o2.lt g hg).1)
              replace o1 := own_kept o1 kp251 (fun b e m => by have h1 : x250 = b := Option.some.inj e; have h2 : b = d := (by simpa using m); omega)
              replace hs : w251.cell? ⟨b', off' + k, none⟩ = some (.int .u16 wv) ∧ w251.cell? ⟨d, up, none⟩ = some (.int .i64 (dv)) := ⟨kp251.cellAt hs.1 (by simp; omega), ka251 d up _ rfl XG.out⟩
              clear o2
              have o2 := oa251
              clear oa251 ga251 pa251 ka251 kp251 l2 q2
              refine hK.out _ _ (hs) (fun hHeld18 => ?_)
              clear hK K
              try simp only [Act.put, List.setIfInBounds_toArray, List.set_cons_zero, List.set_cons_succ]
              refine takeH (i := 19) (v := ?v19_252) rfl (by kernel_rfl) (fun _ _ _ h => h) (by rfl) ?hy19_252 (by assumption) ?rest19_252
              case hy19_252 => (intro w hSw; (try dsimp only at hSw); go_simp; try with_reducible rfl)
              try simp only [Act.put, List.setIfInBounds_toArray, List.set_cons_zero, List.set_cons_succ]
              refine takeH (i := 20) (v := ?v20_253) rfl (by kernel_rfl) (fun _ _ _ h => h) (by rfl) ?hy20_253 (by assumption) ?rest20_253
              case hy20_253 => (intro w hSw; (try dsimp only at hSw); go_simp; try with_reducible rfl)
              try simp only [Act.put, List.setIfInBounds_toArray, List.set_cons_zero, List.set_cons_succ]
              refine wpAnyH_done (by kernel_rfl) ?_ _
              have hGN := Lib.hid (grin_done (x := ((up : Int), 1 + wv)) (y := dv + 1) o1 o2 (show (x250 : Nat) ≠ x251 by omega) hgl'.out hdl'.out)
              have HWN := Lib.hid hW
              clear o1 o2 hs
              go_wp2_with fail
              go_roundw
              case rel => exact ⟨k + 1, _, _, _, _, _, _, by omega, by go_num, rfl, rfl, by simp [hgl'.out], hGN.out, HWN.out, HSN⟩
              case measure => simp [intOf]; omega
          · skip
            go_simp
            replace o1 := own_below o1 hWc227
            replace o2 := own_below o2 hWc227
            replace hW := Below.step hW hWc227
            obtain ⟨w254, hw254⟩ : ∃ X, X = wc227.alloc (.cells #[.int .i64 (dv + 1)] 3) := ⟨_, rfl⟩
            rw [← hw254]
            have hb254 : Below wc227.heap.size wc227 w254 := by rw [hw254]; exact below_a _ _
            have q2 : bo ≠ wc227.heap.size := by have := (o1.lt bo rfl).2; omega
            replace o1 := own_below o1 hb254
            replace o2 := own_below o2 hb254
            have l2 : ∀ j u, ([.int .i64 (dv + 1)] : List Value)[j]? = some u → w254.cell? ⟨wc227.heap.size, j, none⟩ = some u := fun j u h => by rw [hw254]; exact cellN rfl (by simpa using h)
            have hs254 : w254.cell? ⟨b', off' + k, none⟩ = some (.int .u16 wv) ∧ w254.cell? ⟨d, up, none⟩ = some (.int .i64 (dv)) := ⟨cell_later hb254 (by first | exact hHeld.1 | exact hs.1), cell_later hb254 (by first | exact hHeld.2 | exact hs.2)⟩
            clear hs
            have hs := hs254
            clear hs254
            replace hW := Below.step hW hb254
            clear hw254
            refine hK.out _ _ (hs) (fun hHeld17 => ?_)
            clear hK K
            try simp only [Act.put, List.setIfInBounds_toArray, List.set_cons_zero, List.set_cons_succ]
            refine wpAnyH_ready (rs := [9]) (by kernel_rfl) (by simp) ?_
            refine consH rfl (fun K hK => ?_) (AllReadyH.nil)
            go_simp
            obtain ⟨w255, hw255⟩ : ∃ X, X = w254.alloc (.cells #[.int .i64 ((up : Int)), .int .i64 (1 + wv)] 34) := ⟨_, rfl⟩
            rw [← hw255]
            have hb255 : Below w254.heap.size w254 w255 := by rw [hw255]; exact below_a _ _
            have q1 : d ≠ w254.heap.size := by have := (o2.lt d rfl).2; omega
            replace o1 := own_below o1 hb255
            replace o2 := own_below o2 hb255
            have l1 : ∀ j u, ([.int .i64 ((up : Int)), .int .i64 (1 + wv)] : List Value)[j]? = some u → w255.cell? ⟨w254.heap.size, j, none⟩ = some u := fun j u h => by rw [hw255]; exact cellN rfl (by simpa using h)
            replace l2 := fun j u h => cell_later hb255 (l2 j u h)
            replace hs : w255.cell? ⟨b', off' + k, none⟩ = some (.int .u16 wv) ∧ w255.cell? ⟨d, up, none⟩ = some (.int .i64 (dv)) := ⟨cell_later hb255 hs.1, cell_later hb255 hs.2⟩
            replace hW := Below.step hW hb255
            clear hw255
            refine hK.out _ _ (hs) (fun hHeld9 => ?_)
            clear hK K
            try simp only [Act.put, List.setIfInBounds_toArray, List.set_cons_zero, List.set_cons_succ]
            refine wpAnyH_ready (rs := [10]) (by kernel_rfl) (by simp) ?_
            refine consH rfl (fun K hK => ?_) (AllReadyH.nil)
            refine step_append_own3 rfl (.tmp 33) (.tmp 42) 25 rfl w.heap.size 34 ig (.agg #[.int .i64 0, .int .i64 0]) 2 16 Try.underlying25 hi hz0 hz1 hz2 rfl (by decide) _ (k + 1) (flatR encG Gs) rfl o1 _ 1 1 [.int .i64 ((up : Int)), .int .i64 (1 + wv)] rfl rfl (fun j u h => by rw [addN, Nat.zero_add]; exact l1 j u h) (fun u hu => by simp at hu; rcases hu with rfl | rfl <;> rfl) (by unfold maxLen; omega) (by omega) hW.size (by decide) ?_
            intro v256 w256 oa256 ga256 pa256 ka256
            obtain ⟨x256, y256, rfl⟩ := own_some oa256
            have kp256 : Kept [bo] w255 w256 := grown_kept ga256
            have lt256 := (o2.lt d rfl).2
            have ge256 := (o1.lt bo rfl).1
            have ne256 : x256 ≠ d := by
              rcases pa256 with q | q
              · have h1 : x256 = bo := Option.some.inj q
                omega
              · have h1 : x256 = w255.heap.size := Option.some.inj q
                omega
            replace hW : Below w.heap.size w w256 := hW.grown ga256 hW.size (fun g hg => (o1.lt g hg).1)
            replace o2 := own_kept o2 kp256 (fun b e m => by have h1 : d = b := Option.some.inj e; have h2 : b = bo := (by simpa using m); omega)
            replace l2 := fun j u h => kp256.cellAt (l2 j u h) (by simp; omega)
            replace hs : w256.cell? ⟨b', off' + k, none⟩ = some (.int .u16 wv) ∧ w256.cell? ⟨d, up, none⟩ = some (.int .i64 (dv)) := ⟨kp256.cellAt hs.1 (by simp; omega), kp256.cellAt hs.2 (by simp; omega)⟩
            clear o1
            have o1 := oa256
            clear oa256 ga256 pa256 ka256 kp256 l1 q1
            refine hK.out _ _ (hs) (fun hHeld10 => ?_)
            clear hK K
            try simp only [Act.put, List.setIfInBounds_toArray, List.set_cons_zero, List.set_cons_succ]
            refine wpAnyH_ready (rs := [18]) (by kernel_rfl) (by simp) ?_
            refine consH rfl (fun K hK => ?_) (AllReadyH.nil)
            refine step_append_own3 rfl (.tmp 44) (.tmp 50) 60 rfl w.heap.size 3 ii (.int .i64 0) 1 8 Try.underlying60 hj hy0 hy1 hy2 rfl (by decide) _ (k + 1) (intsV ds) rfl o2 _ 1 1 [.int .i64 (dv + 1)] rfl rfl (fun j u h => by rw [addN, Nat.zero_add]; exact l2 j u h) (fun u hu => by simp at hu; subst hu; rfl) (by unfold maxLen; omega) (by omega) hW.size (by decide) ?_
            intro v257 w257 oa257 ga257 pa257 ka257
            obtain ⟨x257, y257, rfl⟩ := own_some oa257
            have kp257 : Kept [d] w256 w257 := grown_kept ga257
            have lt257 := (o1.lt x256 rfl).2
            have ge257 := (o2.lt d rfl).1
            have ne257 : x257 ≠ x256 := by
              rcases pa257 with q | q
              · have h1 : x257 = d := Option.some.inj q
                omega
              · have h1 : x257 = w256.heap.size := Option.some.inj q
                omega
            replace hW : Below w.heap.size w w257 := hW.grown ga257 hW.size (fun g hg => (o2.lt g hg).1)
            replace o1 := own_kept o1 kp257 (fun b e m => by have h1 : x256 = b := Option.some.inj e; have h2 : b = d := (by simpa using m); omega)
            replace hs : w257.cell? ⟨b', off' + k, none⟩ = some (.int .u16 wv) ∧ w257.cell? ⟨d, up, none⟩ = some (.int .i64 (dv)) := ⟨kp257.cellAt hs.1 (by simp; omega), ka257 d up _ rfl XG.out⟩
            clear o2
            have o2 := oa257
            clear oa257 ga257 pa257 ka257 kp257 l2 q2
            refine hK.out _ _ (hs) (fun hHeld18 => ?_)
            clear hK K
            try simp only [Act.put, List.setIfInBounds_toArray, List.set_cons_zero, List.set_cons_succ]
            refine takeH (i := 19) (v := ?v19_258) rfl (by kernel_rfl) (fun _ _ _ h => h) (by rfl) ?hy19_258 (by assumption) ?rest19_258
            case hy19_258 => (intro w hSw; (try dsimp only at hSw); go_simp; try with_reducible rfl)
            try simp only [Act.put, List.setIfInBounds_toArray, List.set_cons_zero, List.set_cons_succ]
            refine takeH (i := 20) (v := ?v20_259) rfl (by kernel_rfl) (fun _ _ _ h => h) (by rfl) ?hy20_259 (by assumption) ?rest20_259
            case hy20_259 => (intro w hSw; (try dsimp only at hSw); go_simp; try with_reducible rfl)
            try simp only [Act.put, List.setIfInBounds_toArray, List.set_cons_zero, List.set_cons_succ]
            refine wpAnyH_done (by kernel_rfl) ?_ _
            have hGN := Lib.hid (grin_done (x := ((up : Int), 1 + wv)) (y := dv + 1) o1 o2 (show (x256 : Nat) ≠ x257 by omega) hgl'.out hdl'.out)
            have HWN := Lib.hid hW
            clear o1 o2 hs
            go_wp2_with fail
            go_roundw
            case rel => exact ⟨k + 1, _, _, _, _, _, _, by omega, by go_num, rfl, rfl, by simp [hgl'.out], hGN.out, HWN.out, HSN⟩
            case measure => simp [intOf]; omega
      · obtain rfl : k = m := by omega
        have z0 : decide ((k : Int) < (k : Int)) = false := decide_eq_false (by omega)
        clear hG hB
        go_wp2_with fail
        go_ret
        exact ⟨Gs, _, rfl, hok.out.right, by have := HM.out; omega, HG.out.o1, HB.out⟩
end Go.Proofs.Ytfgmglghlapbcaa
