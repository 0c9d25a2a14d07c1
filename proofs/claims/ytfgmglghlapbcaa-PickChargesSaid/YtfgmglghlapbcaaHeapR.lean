/-
  Layer 18 (heap): Out.
-/
import Derived.Test.YtfgmglghlapbcaaHeapQ
import Derived.Deep.DeepCutAuto
namespace Go.Proofs.Ytfgmglghlapbcaa
open Go.RowKit Go.Maps Go.IntWalk Go.Lib Go.Sort
set_option linter.unusedVariables false
theorem take_at {L : Items} {m i : Nat} (hi : i < m) : (L.take m)[i]! = L[i]! := by
  rw [List.getElem!_eq_getElem?_getD, List.getElem!_eq_getElem?_getD, List.getElem?_take_of_lt hi]
theorem flatI_take (L : Items) (m : Nat) : flatI (L.take m) = (flatI L).take (m * 2) := by
  induction L generalizing m with
  | nil => simp [flatI]
  | cons x r ih =>
    cases m with
    | zero => simp [flatI]
    | succ m =>
      rw [show (m + 1) * 2 = m * 2 + 1 + 1 by omega]
      simp only [List.take_succ_cons, flatI, ih]
/-- the items get fewer -/
theorem Raw.cut {w : World} {p g cap bm : Nat} {n : Int} {L : Items} {f : Int → Option Int} {c : Nat} (h : Raw w p (some g) cap bm n L f c) {m : Nat} (hm : m ≤ L.length) :
    Raw (w.setCell ⟨p, 0, none⟩ (.slice (some ⟨g, 0, none⟩) m cap)) p (some g) cap bm n (L.take m) f c := by
  obtain ⟨n1, n2⟩ := h.na g rfl
  have o := h.own
  change w.ownsRow (max p bm + 1) 122 2 (.slice (some ⟨g, 0, none⟩) L.length cap) L.length (flatI L) at o
  have hl : (L.take m).length = m := by rw [List.length_take]; omega
  refine ⟨?_, cell_set_ne h.c1 (Or.inr (by omega)), cell_set_ne h.c2 (Or.inr (by omega)), fun j => by rw [World.frozen?_setCell]; exact h.fp j, ?_, h.na, h.pb, h.map.setCell (Ne.symm h.pb) _, fun y hy => h.fits y (List.mem_of_mem_take hy), h.small, h.pos⟩
  · rw [hl]; exact cell_set_eq h.c0
  · rw [hl, flatI_take]
    exact (own_take o hm).kept (gset _ _ _ _) (Or.inr (by simp [Value.ownBlock]; omega))
/-- the last one is taken out -/
theorem Good.lastOut {w w2 : World} {p g : Nat} {cap bm : Nat} {n : Int} {V : Items} {f : Int → Option Int} (h : Good w p (some g) cap bm n V f) (h0 : 0 < V.length)
    (r : Raw w2 p (some g) cap bm n (V.take (V.length - 1)) (setF f V[V.length - 1]!.1 none) (V.length - 1)) : Good w2 p (some g) cap bm n (V.take (V.length - 1)) (setF f V[V.length - 1]!.1 none) := by
  have hl : (V.take (V.length - 1)).length = V.length - 1 := by rw [List.length_take]; omega
  refine ⟨by rw [hl]; exact r, heaped_take h.heaped, ?_, fun id q => ?_⟩
  · intro i j hi hj e
    rw [hl] at hi hj
    rw [take_at hi, take_at hj] at e
    exact h.apart i j (by omega) (by omega) e
  · by_cases e : id = V[V.length - 1]!.1
    · subst e
      rw [setF_same]
      constructor
      · intro q; cases q
      · rintro ⟨j, jl, hj, rfl⟩
        rw [hl] at jl
        rw [take_at jl] at hj
        have := h.apart j (V.length - 1) (by omega) (by omega) hj
        omega
    · rw [setF_other _ _ e, h.placed id q]
      constructor
      · rintro ⟨j, jl, hj, rfl⟩
        have : j ≠ V.length - 1 := fun q => e (by rw [← q]; exact hj.symm)
        exact ⟨j, by omega, by rw [take_at (by omega)]; exact hj, rfl⟩
      · rintro ⟨j, jl, hj, rfl⟩
        rw [hl] at jl
        rw [take_at jl] at hj
        exact ⟨j, by omega, hj, rfl⟩
/-- another one is taken out: the last one takes its place -/
theorem Good.moved {w w2 : World} {p g : Nat} {cap bm : Nat} {n : Int} {V : Items} {f : Int → Option Int} (h : Good w p (some g) cap bm n V f) {k : Nat} (hk : k < V.length) (hl : k ≠ V.length - 1)
    (r : Raw w2 p (some g) cap bm n ((V.take (V.length - 1)).set k V[V.length - 1]!) (setF f V[k]!.1 none) (V.length - 1)) :
    Mid w2 p g cap bm n ((V.take (V.length - 1)).set k V[V.length - 1]!) (setF f V[k]!.1 none) (V.length - 1) ((V.take (V.length - 1)).set k V[V.length - 1]!) ((V.take (V.length - 1)).set k V[V.length - 1]!)[k]! k := by
  have hT : (V.take (V.length - 1)).length = V.length - 1 := by rw [List.length_take]; omega
  obtain ⟨T, eT⟩ : ∃ T, T = V.take (V.length - 1) := ⟨_, rfl⟩
  obtain ⟨x, hx⟩ : ∃ x, x = V[V.length - 1]! := ⟨_, rfl⟩
  have tat : ∀ i, i < V.length - 1 → T[i]! = V[i]! := fun i hi => by rw [eT]; exact take_at hi
  have hh : Heaped T := by rw [eT]; exact heaped_take h.heaped
  rw [← eT, ← hx] at r ⊢
  rw [← eT] at hT
  have hkT : k < T.length := by omega
  have e0 : (T.set k x)[k]! = x := by rw [set_at hkT, if_pos rfl]
  have e1 : (T.set k x).set k x = T.set k x := by simp
  have hll : (T.set k x).length = V.length - 1 := by simp [hT]
  have fx : f x.1 = some ((V.length - 1 : Nat) : Int) := (h.placed _ _).2 ⟨V.length - 1, by omega, by rw [hx], rfl⟩
  have hne : x.1 ≠ V[k]!.1 := fun e => hl (h.apart (V.length - 1) k (by omega) hk (by rw [← hx]; exact e)).symm
  rw [e0]
  have at' : ∀ i, i < V.length - 1 → (T.set k x)[i]! = if k = i then x else V[i]! := fun i hi => by
    rw [set_at hkT]
    split
    · rfl
    · exact tat i hi
  refine ⟨r, by omega, by rw [e1]; exact hole_set x hkT hh, ?_, by rw [e1], ?_, ?_, ?_⟩
  · rw [e1]
    intro i j hi hj e
    rw [hll] at hi hj
    rw [at' i hi, at' j hj] at e
    by_cases q1 : k = i
    · by_cases q2 : k = j
      · omega
      · rw [if_pos q1, if_neg q2, hx] at e
        have := h.apart (V.length - 1) j (by omega) (by omega) e; omega
    · by_cases q2 : k = j
      · rw [if_neg q1, if_pos q2, hx] at e
        have := h.apart i (V.length - 1) (by omega) (by omega) e; omega
      · rw [if_neg q1, if_neg q2] at e
        exact h.apart i j (by omega) (by omega) e
  · rw [e1]
    intro id hid q
    by_cases e : id = V[k]!.1
    · subst e
      rw [setF_same]
      constructor
      · intro q; cases q
      · rintro ⟨j, jl, hj, rfl⟩
        rw [hll] at jl
        rw [at' j jl] at hj
        split at hj
        · exact absurd hj hne
        · rename_i q2
          exact absurd (h.apart j k (by omega) hk hj) (Ne.symm q2)
    · rw [setF_other _ _ e, h.placed id q]
      constructor
      · rintro ⟨j, jl, hj, rfl⟩
        have j1 : j ≠ V.length - 1 := fun q => hid (by rw [hx, ← q]; exact hj.symm)
        have j2 : k ≠ j := fun q => e (by rw [q]; exact hj.symm)
        exact ⟨j, by omega, by rw [at' j (by omega), if_neg j2]; exact hj, rfl⟩
      · rintro ⟨j, jl, hj, rfl⟩
        rw [hll] at jl
        rw [at' j jl] at hj
        split at hj
        · exact absurd hj.symm hid
        · exact ⟨j, by omega, hj, rfl⟩
  · rw [setF_other _ _ hne, fx, hll]; rfl
  · rw [hx]; exact h.raw.fits _ (at_mem (by omega))
def outRes (n : Int) (S : Items) (id : Int) : Int := if hasV n id then (if (keyL S id).isSome then 0 else 6) else 2
def outKey (n : Int) (S : Items) (id : Int) : Int := if outRes n S id = 0 then (keyL S id).getD 0 else 0
def outS (n : Int) (S : Items) (id : Int) : Items := if outRes n S id = 0 then outL S id else S
/-- two items in new blocks -/
structure Two (w : World) (bx b2 : Nat) (x y : Int × Int) (wx : World) : Prop where
  lt : w.heap.size ≤ bx ∧ w.heap.size ≤ b2
  grows : Grows w wx
  x0 : wx.cell? ⟨bx, 0, none⟩ = some (.int .i64 x.1)
  x1 : wx.cell? ⟨bx, 1, none⟩ = some (.int .u64 x.2)
  y0 : wx.cell? ⟨b2, 0, none⟩ = some (.int .i64 y.1)
  y1 : wx.cell? ⟨b2, 1, none⟩ = some (.int .u64 y.2)
theorem Two.one (w : World) (x y : Int × Int) : Two w w.heap.size (w.heap.size + 1) x y ((w.alloc (.cells #[.int .i64 x.1, .int .u64 x.2] 122)).alloc (.cells #[.int .i64 y.1, .int .u64 y.2] 122)).drew := by
  have e : (w.alloc (.cells #[.int .i64 x.1, .int .u64 x.2] 122)).heap.size = w.heap.size + 1 := by simp
  refine ⟨⟨Nat.le_refl _, Nat.le_succ _⟩, ((Grows.refl w).alloc _ |>.alloc _ |>.drew), ?_, ?_, ?_, ?_⟩
  · exact cell_dr (cell_al _ (cell_nw w #[.int .i64 x.1, .int .u64 x.2] 122 0 _ rfl))
  · exact cell_dr (cell_al _ (cell_nw w #[.int .i64 x.1, .int .u64 x.2] 122 1 _ rfl))
  · rw [← e]; exact cell_dr (cell_nw _ _ _ 0 _ rfl)
  · rw [← e]; exact cell_dr (cell_nw _ _ _ 1 _ rfl)
theorem Two.swap {w wx : World} {bx b2 : Nat} {x y : Int × Int} (h : Two w bx b2 x y wx) : Two w b2 bx y x wx := ⟨h.lt.symm, h.grows, h.y0, h.y1, h.x0, h.x1⟩
set_option maxRecDepth 100000 in
set_option maxHeartbeats 2000000 in
theorem Out_at {p : Nat} {F : List Nat} {n : Int} {S : Items} (id : Int) (w : World) (h : HeapIn w p F n S) (hid : (Lit.int .i64 id).wf = true) :
    Calls Try.prog 53 #[.pointer (some ⟨p, 0, none⟩), .int .i64 id] w (Did w p F n (.tuple #[.int .u64 (outKey n S id), .int .i64 (outRes n S id)]) (outS n S id)) := by
  have HS := Lib.hid h
  obtain ⟨a, cap, bm, V, f, hg, rfl, hp, ho⟩ := h
  have A1 := Lib.hid (find_at id w hg.raw hid)
  have hfd := hg.find hp id
  unfold findV at A1
  unfold outS outKey outRes
  cases hv : hasV n id with
  | false =>
    rw [hv] at A1
    clear hfd hg hp ho
    simp only [Bool.false_eq_true, if_false, show ¬ ((2 : Int) = 0) by decide]
    go_enter Try.func53, Try.ntmps53
    go_wp2_with fail
    refine A1.out.mono ?_; rintro e w5 ⟨rfl, rfl⟩
    go_wp2_with fail
    go_ret2
    exact ⟨rfl, After.same HS.out (Below.refl _ _)⟩
  | true =>
    rw [hv] at A1
    cases hf : f id with
    | none =>
      rw [hf] at A1 hfd
      rw [← hfd.1]
      clear hfd hg hp ho
      simp only [if_true, Option.isSome_none, Bool.false_eq_true, if_false, show ¬ ((6 : Int) = 0) by decide]
      go_enter Try.func53, Try.ntmps53
      go_wp2_with fail
      refine A1.out.mono ?_; rintro e w5 ⟨rfl, rfl⟩
      go_wp2_with fail
      go_ret2
      exact ⟨rfl, After.same HS.out (Below.refl _ _)⟩
    | some q =>
      rw [hf] at A1 hfd
      rw [← hfd.1]
      obtain ⟨k, rfl, kl, hki, hkk⟩ := hfd.2 q rfl
      obtain ⟨g, rfl⟩ := hg.raw.row (by omega)
      rw [hkk]
      have HG := Lib.hid hg
      have HP := Lib.hid hp
      have HO := Lib.hid ho
      have HKL := Lib.hid kl
      have HKI := Lib.hid hki
      have fq := Lib.hid hf
      have hlen := hg.raw.nlen hg.apart
      have hsm := hg.raw.small
      have c0 := hg.raw.c0
      unfold rowV at c0
      simp only [Option.map_some] at c0
      obtain ⟨i0, i1⟩ := hg.raw.item kl
      obtain ⟨j0, j1⟩ := hg.raw.item (k := V.length - 1) (by omega)
      have fg1 := hg.raw.fg (k * 2 + 1)
      have l1 : (k : Int) < (V.length : Int) := by omega
      have l2 : k < V.length := kl
      have l3 : (0 : Int) ≤ (k : Int) := by omega
      have e1 : (V.length : Int) - 1 = ((V.length - 1 : Nat) : Int) := by omega
      obtain ⟨m, hm⟩ : ∃ m, m = V.length - 1 := ⟨_, rfl⟩
      rw [← hm] at e1 j0 j1
      have l4 : m < V.length := by omega
      have l5 : m ≤ V.length := by omega
      have l6 : (m : Int) < (V.length : Int) := by omega
      have l7 : (0 : Int) ≤ (m : Int) := by omega
      have l8 : (m : Int) ≤ 131072 := by omega
      have HM := Lib.hid hm
      obtain ⟨x, hx⟩ : ∃ x, x = V[k]! := ⟨_, rfl⟩
      obtain ⟨y, hy⟩ : ∃ y, y = V[m]! := ⟨_, rfl⟩
      rw [← hx] at i0 i1
      rw [← hy] at j0 j1
      rw [← hx]
      have HX := Lib.hid hx
      have HY := Lib.hid hy
      have hmm := hg.raw.map
      have l9 : (m : Int) ≤ (cap : Int) := by have := hg.raw.own.2; rcases this with ⟨q, _⟩ | ⟨g', cap', cur, ev, _, _, h5, _⟩; (cases q); (cases ev; omega)
      have l10 : m ≤ cap := by omega
      have w1' : IntKind.i64.wrap (m : Int) = (m : Int) := IntWalk.i64_in _ (by omega)
      clear hfd hkk hg hp ho hsm hki hx hy hm kl hmm
      simp only [if_true, Option.isSome_some, Option.getD_some]
      go_enter Try.func53, Try.ntmps53
      go_wp2_with fail
      refine A1.out.mono ?_; rintro e w5 ⟨rfl, rfl⟩
      go_wp2_with fail
      go_upto_region 4 with fail
      go_cut [8, 9] (fun s8 s9 wx => ∃ bx b2 : Nat, s8 = .pointer (some ⟨bx, 0, none⟩) ∧ s9 = .pointer (some ⟨b2, 0, none⟩) ∧ Two w bx b2 x y wx)
      case first =>
        have c0_1 := fun o1 => cell_al o1 (c0)
        have c0_2 := fun o1 o2 => cell_al o2 (cell_al o1 (c0))
        have i0_1 := fun o1 => cell_al o1 (i0)
        have i0_2 := fun o1 o2 => cell_al o2 (cell_al o1 (i0))
        have i1_1 := fun o1 => cell_al o1 (i1)
        have i1_2 := fun o1 o2 => cell_al o2 (cell_al o1 (i1))
        have j0_1 := fun o1 => cell_al o1 (j0)
        have j0_2 := fun o1 o2 => cell_al o2 (cell_al o1 (j0))
        have j1_1 := fun o1 => cell_al o1 (j1)
        have j1_2 := fun o1 o2 => cell_al o2 (cell_al o1 (j1))
        have T1 := Lib.hid (Two.one w x y)
        have T2 := Lib.hid (Two.one w y x).swap
        go_region
        all_goals
          go_wp2_with fail
          go_meet
          case rel => first | exact ⟨_, _, rfl, rfl, T1.out⟩ | exact ⟨_, _, rfl, rfl, T2.out⟩
      case rest =>
        obtain ⟨bx, b2, rfl, rfl, hT⟩ := hcut
        obtain ⟨⟨g1, g2⟩, hgr, x0, x1, y0, y1⟩ := hT
        have r := HG.out.raw.below hgr.below
        clear c0 i0 i1 j0 j1 fg1
        have c0 := r.c0
        unfold rowV at c0
        simp only [Option.map_some] at c0
        have fp0 := r.fp 0
        have HBel := Lib.hid hgr.below
        have hneb : (bx ≠ p ∧ bx ≠ bm ∧ bx ≠ g) ∧ b2 ≠ p ∧ b2 ≠ bm := by have := HG.out.raw.plt; have := HG.out.raw.map.lt; have := HG.out.raw.glt rfl; omega
        have HNB := Lib.hid hneb
        have hc := r.cut l5
        have HC := Lib.hid (show Raw (wc.setCell ⟨p, 0, none⟩ (.slice (some ⟨g, 0, none⟩) m cap)).drew p (some g) cap bm n (V.take m) f V.length from hc.of_heap rfl rfl fun _ _ => rfl)
        have hkB := (Kept.refl [p, bm, g] wc).setCell (p := ⟨p, 0, none⟩) (Or.inl (by simp)) (.slice (some ⟨g, 0, none⟩) m cap)
        have HKB := Lib.hid hkB.drew
        replace x0 := cell_dr (cell_set_ne (b' := p) (o' := 0) (u := .slice (some ⟨g, 0, none⟩) m cap) x0 (Or.inl hneb.1.1))
        replace x1 := cell_dr (cell_set_ne (b' := p) (o' := 0) (u := .slice (some ⟨g, 0, none⟩) m cap) x1 (Or.inl hneb.1.1))
        replace y0 := cell_dr (cell_set_ne (b' := p) (o' := 0) (u := .slice (some ⟨g, 0, none⟩) m cap) y0 (Or.inl hneb.2.1))
        replace y1 := cell_dr (cell_set_ne (b' := p) (o' := 0) (u := .slice (some ⟨g, 0, none⟩) m cap) y1 (Or.inl hneb.2.1))
        clear r hc hkB hgr hneb g1 g2
        go_wp2_with fail
        go_region
        clear c0 fp0
        generalize (wc.setCell ⟨p, 0, none⟩ (.slice (some ⟨g, 0, none⟩) m cap)).drew = wC at *
        obtain ⟨wD, hrun, hM, hg⟩ := HC.out.map.del hid 0
        have c1 := HC.out.c1
        have HR := Lib.hid hrun
        replace x0 := hg.cell x0 (by have := HNB.out; simp; omega)
        replace x1 := hg.cell x1 (by have := HNB.out; simp; omega)
        replace y0 := hg.cell y0 (by have := HNB.out; simp; omega)
        replace y1 := hg.cell y1 (by have := HNB.out; simp; omega)
        have HD := Lib.hid (HC.out.mapped hg hM)
        have HKW := Lib.hid (show Kept [p, bm, g] w wD from (Kept.of HBel.out).trans (HKB.out.grown hg (fun q e => by cases e; exact Or.inl (by simp))))
        clear hM hg
        by_cases hkm : k = m
        · have hxy : y = x := by rw [HX.out, HY.out, hkm]
          have HKM := Lib.hid hkm
          subst hxy
          clear hkm
          go_wp2_with fail
          go_ret2
          have hd := HD.out
          have em : k = V.length - 1 := by rw [HKM.out, HM.out]
          rw [fq.out, ← HKI.out, ← HKM.out, em] at hd
          have hgood := HG.out.lastOut (by omega) hd
          refine ⟨rfl, After.of_kept HKW.out hgood ?_ (outL_order HO.out id)⟩
          have hpp := outL_perm HP.out id
          rw [← HKI.out, ← erase_outL HKL.out (apart_nodup HG.out.apart), em, List.eraseIdx_eq_take_drop_succ, show V.length - 1 + 1 = V.length by omega, List.drop_length, List.append_nil] at hpp
          rw [← HKI.out, em]
          exact hpp
        · have hne : x.1 ≠ y.1 := fun e => hkm (HG.out.apart k m l2 l4 (by rw [← HX.out, ← HY.out]; exact e))
          have hne2 : (x.1 == y.1) = false := by simpa using hne
          have HKM := Lib.hid hkm
          have l11 : k < m := by have := HM.out; omega
          have l12 : (k : Int) < (m : Int) := by omega
          clear hkm
          have hT : (V.take m).length = m := by rw [List.length_take]; omega
          have hd := HD.out
          have c0 := hd.c0
          unfold rowV at c0
          simp only [Option.map_some, hT] at c0
          have i0 := (hd.item (k := k) (by omega)).1
          have i1 := (hd.item (k := k) (by omega)).2
          rw [take_at l11] at i0 i1
          have fg0 := hd.fg (k * 2)
          have fg1 := hd.fg (k * 2 + 1)
          have hS := hd.stored (k := k) (by omega) (x := y) (by rw [HY.out]; exact HG.out.raw.fits _ (at_mem l4))
          have HST := Lib.hid (show Raw ((wD.setCell ⟨g, k * 2, none⟩ (.int .i64 y.1)).setCell ⟨g, k * 2 + 1, none⟩ (.int .u64 y.2)).drew p (some g) cap bm n ((V.take m).set k y) (setF f id none) (delC (f id) V.length) from hS.of_heap rfl rfl fun _ _ => rfl)
          have i1' := cell_set_ne (b' := g) (o' := k * 2) (u := .int .i64 y.1) i1 (Or.inr (by omega))
          have fg1' : (wD.setCell ⟨g, k * 2, none⟩ (.int .i64 y.1)).frozen? ⟨g, k * 2 + 1, none⟩ = false := by rw [World.frozen?_setCell]; exact fg1
          have hK8 := (((Kept.refl [p, bm, g] wD).setCell (p := ⟨g, k * 2, none⟩) (Or.inl (by simp)) (.int .i64 y.1)).setCell (p := ⟨g, k * 2 + 1, none⟩) (Or.inl (by simp)) (.int .u64 y.2)).drew
          have HK8 := Lib.hid hK8
          clear hd hS hK8 HR
          go_wp2_with fail
          go_region
          go_wp2_with fail
          have hmid := HG.out.moved (w2 := ((wD.setCell ⟨g, k * 2, none⟩ (.int .i64 y.1)).setCell ⟨g, k * 2 + 1, none⟩ (.int .u64 y.2)).drew) l2 (by rw [← HM.out]; exact HKM.out) (by
            have q := HST.out
            have e : delC (some (k : Int)) V.length = m := HM.out.symm
            rw [fq.out, e] at q
            rw [← HM.out, ← HY.out, HKI.out]
            exact q)
          rw [← HM.out, ← HY.out, HKI.out] at hmid
          refine (settle_at _ k _ hmid).mono ?_
          rintro e w7 ⟨rfl, V', f', hg', hp', hk'⟩
          have hk1 := HK8.out.trans hk'
          have x1' := hk1.cellAt x1 (by have := HNB.out; simp; omega)
          have HG7 := Lib.hid hg'
          have HP7 := Lib.hid hp'
          have HK7 := Lib.hid (HKW.out.trans hk1)
          clear hmid hg' hp' hk' hk1 x0 x1 y0 y1 c0 i0 i1 i1' fg0 fg1 fg1' hne hne2
          go_wp2_with fail
          go_ret2
          refine ⟨rfl, After.of_kept HK7.out HG7.out ?_ (outL_order HO.out id)⟩
          have hpp := outL_perm HP.out id
          have hmv := last_moved l2 (by rw [← HM.out]; exact HKM.out)
          rw [← HM.out, ← HY.out, erase_outL HKL.out (apart_nodup HG.out.apart), HKI.out] at hmv
          exact hpp.trans (hmv.symm.trans HP7.out.symm)
end Go.Proofs.Ytfgmglghlapbcaa
