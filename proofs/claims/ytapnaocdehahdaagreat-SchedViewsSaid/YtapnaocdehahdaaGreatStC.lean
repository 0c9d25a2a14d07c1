/-
State, as its user sees it; what is refused.
Layer 31 (sched): Current, Clock, Weight, First.
What SchedViews needs beside its walk.
-/
import Derived.Test.YtapnaocdehahdaaGreatStB
import Derived.Test.YtapnaocdehahdaaGreatStA
import Derived.Test.YtapnaocdehahdaaGreatSchO
import Derived.Test.YtapnaocdehahdaaGreatSchVm
import Derived.Test.YtapnaocdehahdaaGreatSchZ
namespace Go.Proofs.YtapnaocdehahdaaGreat
open Go.RowKit Go.Maps Go.IntWalk Go.Lib
set_option linter.unusedVariables false
set_option linter.unusedSimpArgs false
/-- State, as its user sees it -/
theorem StateX_at {w : World} {x : Nat} {F : List Nat} {s : SSt} (h : SIn w x F s) (ho : SOk s) (hF : ∀ b ∈ F, b < w.heap.size) : Calls Tryz.prog 16 #[.pointer (some ⟨x, 0, none⟩)] w fun e w' => ∃ a0 k0 a1 k1 a2 k2 a3 k3 a4 k4, e = .returned (.tuple #[.agg #[.int .i64 s.C, .int .u64 s.cr, .slice a0 s.n k0, .slice a1 s.C k1, .slice a2 s.C k2, .slice a3 s.c k3, .slice a4 s.n k4], .int .i64 0]) ∧ StaH F w' (.agg #[.int .i64 s.C, .int .u64 s.cr, .slice a0 s.n k0, .slice a1 s.C k1, .slice a2 s.C k2, .slice a3 s.c k3, .slice a4 s.n k4]) (staOf s) ∧ Below w.heap.size w w' := by
  obtain ⟨L, q, hL⟩ := h
  refine (State_at q ho).mono ?_
  rintro e w' ⟨v, rfl, h1, h2⟩
  have h3 := h1 F hF
  obtain ⟨vg, vl, vu, vt, vs, e, g1, l1, u1, t1, s1⟩ := h3.is
  obtain ⟨r1, r2, r3, -⟩ := s1.rows
  obtain ⟨a0, k0, e0, -⟩ := g1
  obtain ⟨a1, k1, e1, -⟩ := l1
  obtain ⟨a2, k2, e2, -⟩ := u1
  obtain ⟨a3, k3, e3, -⟩ := t1
  obtain ⟨a4, k4, e4, -⟩ := r3
  rw [staOf_cl] at e1
  rw [staOf_cu] at e2
  rw [staOf_ts ho] at e3
  rw [r2, staOf_sp] at e4
  replace e0 : vg = .slice a0 s.n k0 := e0
  replace e : v = .agg #[.int .i64 s.C, .int .u64 s.cr, vg, vl, vu, vt, vs] := e
  subst e e0 e1 e2 e3 e4
  exact ⟨a0, k0, a1, k1, a2, k2, a3, k3, a4, k4, rfl, h3, h2⟩
theorem refused {s : SSt} (h : SOk s) (o : OpV) (hne : (doR s o).2.1 ≠ 0) : (doR s o).1 = 0 ∧ (doR s o).2.2.wk = 0 ∧ staOf (doR s o).2.2 = staOf s := by
  obtain ⟨h1, h2⟩ := ((h.work 0).refuse o).ok hne
  refine ⟨h1, ?_, ?_⟩
  · rw [show (doR s o).2.2 = { s with wk := 0 } from h2]
  · rw [show (doR s o).2.2 = { s with wk := 0 } from h2]
    exact staOf_wk s 0
theorem no_kind {s : SSt} {o : OpV} (h : ¬ (1 ≤ o.kind ∧ o.kind ≤ 10)) : (doR s o).2.1 = 2 := by
  unfold doR
  rw [opR_0 h]
end Go.Proofs.YtapnaocdehahdaaGreat
namespace Go.Proofs.YtapnaocdehahdaaGreat
open Go.RowKit Go.Maps Go.IntWalk Go.Lib
set_option linter.unusedVariables false
set_option linter.unusedSimpArgs false
def fstV (s : SSt) (j : Nat) : Int := (frT (s.Q j)).1
def asksV (s : SSt) (k : Int) (v : Int) : Int := if hasV (s.C : Int) k = true then v else 0
def asksC (s : SSt) (k : Int) : Int := if hasV (s.C : Int) k = true then 0 else 300
set_option maxRecDepth 100000 in
theorem xasks_at {w : World} {x : Nat} {L : SLay} {s : SSt} (ff : Nat) (caps : Array Value) (eg : ∀ args w, (callFunc ff args).run Tryz.prog w = .ok (.enter ff args) w) (k v : Int) (h : SRaw w x L s) (hc : 1 ≤ s.C)
    (hv : hasV (s.C : Int) k = true → Calls Tryz.prog ff caps w fun e w' => e = .returned (.int .i64 v) ∧ Below w.heap.size w w') :
    Calls Tryz.prog 66 #[.pointer (some ⟨x, 0, none⟩), .int .i64 k, .func (.func ff) #[] caps] w fun e w' => e = .returned (.tuple #[.int .i64 (asksV s k v), .int .i64 (asksC s k)]) ∧ Below w.heap.size w w' := by
  have A1 := Lib.hid (xsome_at h hc)
  have A2 := Lib.hid (xcpu_at k h)
  cases hn : hasV (s.C : Int) k with
  | false =>
    have e1 : asksV s k v = 0 := by unfold asksV; rw [hn]; rfl
    have e2 : asksC s k = 300 := by unfold asksC; rw [hn]; rfl
    rw [e1, e2]
    rw [hn] at A2
    clear h hc hv hn e1 e2
    go_enter Tryz.func66, Tryz.ntmps66
    go_wp2_with fail
    refine A1.out.mono ?_; rintro e w5 ⟨rfl, rfl⟩
    go_wp2_with fail
    refine A2.out.mono ?_; rintro e w6 ⟨rfl, rfl⟩
    go_wp2_with fail
    exact bodyPost_ret (v := .tuple #[.int .i64 0, .int .i64 300]) (by simp [results, Tryz.results66, go_sem]) rfl ⟨rfl, Below.refl _ _⟩
  | true =>
    have e1 : asksV s k v = v := by unfold asksV; rw [hn]; rfl
    have e2 : asksC s k = 0 := by unfold asksC; rw [hn]; rfl
    rw [e1, e2]
    rw [hn] at A2
    have A3 := Lib.hid (hv hn)
    clear h hc hv hn e1 e2
    go_enter Tryz.func66, Tryz.ntmps66
    go_wp2_with fail
    refine A1.out.mono ?_; rintro e w5 ⟨rfl, rfl⟩
    go_wp2_with fail
    refine A2.out.mono ?_; rintro e w6 ⟨rfl, rfl⟩
    go_wp2_with fail
    refine A3.out.mono ?_; rintro e w7 ⟨rfl, hb7⟩
    go_wp2_with fail
    exact bodyPost_ret (v := .tuple #[.int .i64 v, .int .i64 0]) (by simp [results, Tryz.results66, go_sem]) rfl ⟨rfl, hb7⟩
set_option maxRecDepth 100000 in
set_option maxHeartbeats 1000000 in
theorem xCurrent_at {w : World} {x : Nat} {L : SLay} {s : SSt} (k : Int) (h : SRaw w x L s) (ho : SOk s) :
    Calls Tryz.prog 25 #[.pointer (some ⟨x, 0, none⟩), .int .i64 k] w fun e w' => e = .returned (.tuple #[.int .i64 (asksV s k (s.cu k.toNat)), .int .i64 (asksC s k)]) ∧ Below w.heap.size w w' := by
  obtain ⟨W0, hW0⟩ : ∃ W, W = (w.alloc (.cells #[.pointer (some ⟨x, 0, none⟩)] 30)).alloc (.cells #[.int .i64 k] 3) := ⟨_, rfl⟩
  have hb0 : Below w.heap.size w W0 := by rw [hW0]; exact Below.allocS (Below.allocS (Below.refl _ _) _) _
  have b0 : W0.cell? ⟨w.heap.size, 0, none⟩ = some (.pointer (some ⟨x, 0, none⟩)) := by rw [hW0]; exact cell_al _ (cell_nw _ _ _ 0 _ rfl)
  have b1 : W0.cell? ⟨w.heap.size + 1, 0, none⟩ = some (.int .i64 k) := by rw [hW0]; exact cellN (by simp) rfl
  have hr := h.below hb0
  have HB0 := Lib.hid hb0
  have HF := Lib.hid (show hasV (s.C : Int) k = true → Calls Tryz.prog 67 #[.pointer (some ⟨w.heap.size, 0, none⟩), .pointer (some ⟨w.heap.size + 1, 0, none⟩)] W0 fun e w' => e = .returned (.int .i64 (s.cu k.toNat)) ∧ Below W0.heap.size W0 w' from fun hn => by
    obtain ⟨hkC, hke⟩ := has_nat hn
    obtain ⟨j, hj⟩ : ∃ j, j = k.toNat := ⟨_, rfl⟩
    rw [← hj] at hkC hke ⊢
    subst hke
    obtain ⟨p0, hp0⟩ : ∃ p, p = w.heap.size := ⟨_, rfl⟩
    obtain ⟨p1, hp1⟩ : ∃ p, p = w.heap.size + 1 := ⟨_, rfl⟩
    rw [← hp0] at b0
    rw [← hp1] at b1
    rw [← hp1, ← hp0]
    obtain ⟨c, xf⟩ : ∃ c, W0.cell? ⟨x, 4, none⟩ = some (.slice (some ⟨L.bu, 0, none⟩) s.C c) := hr.head.c4
    have cj : W0.cell? ⟨L.bu, j, none⟩ = some (.int .i64 (s.cu j)) := hr.cu.c j hkC
    have hji : (j : Int) < (s.C : Int) := by omega
    clear h ho hb0 hr hW0 hn hj hp0 hp1 hkC HB0
    go_enter Tryz.func67, Tryz.ntmps67
    go_wp2_with fail
    refine startA (S := fun w' => Below W0.heap.size W0 w' ∧ w'.cell? ⟨p0, 0, none⟩ = some (.pointer (some ⟨x, 0, none⟩)) ∧ w'.cell? ⟨p1, 0, none⟩ = some (.int .i64 (j : Int)) ∧ w'.cell? ⟨x, 4, none⟩ = some (.slice (some ⟨L.bu, 0, none⟩) s.C c) ∧ w'.cell? ⟨L.bu, j, none⟩ = some (.int .i64 (s.cu j))) ⟨Below.refl _ _, b0, b1, xf, cj⟩ (held_4 (below_dr _)) (fun hS0 hHeld => ?_)
    refine takeA 0 ?_
    refine takeA 1 ?_
    refine takeA 2 ?_
    refine takeA 3 ?_
    refine takeA 4 ?_
    refine takeA 5 ?_
    refine takeA 6 ?_
    refine takeA 7 ?_
    refine doneA ?_
    go_wp2_with fail
    go_ret
    exact ⟨rfl, (Below.refl _ _).drew⟩
    )
  have A1 := Lib.hid (xasks_at 67 #[.pointer (some ⟨w.heap.size, 0, none⟩), .pointer (some ⟨w.heap.size + 1, 0, none⟩)] (enters_of Tryz.func67 (by kernel_rfl) rfl) k (s.cu k.toNat) hr ho.cpus.1 HF.out)
  have HW0 := Lib.hid hW0
  clear h ho hb0 hr hW0 HF
  go_enter Tryz.func25, Tryz.ntmps25
  go_upto_region 1 with fail
  rw [← HW0.out]
  clear HW0
  go_wp2_with fail
  refine A1.out.mono ?_; rintro e w5 ⟨rfl, hb5⟩
  have HB5 := Lib.hid (Below.step HB0.out hb5)
  clear hb5
  go_wp2_with fail
  exact bodyPost_ret (v := .tuple #[.int .i64 (asksV s k (s.cu k.toNat)), .int .i64 (asksC s k)]) (by simp [results, Tryz.results25, go_sem]) rfl ⟨rfl, HB5.out⟩
set_option maxRecDepth 100000 in
set_option maxHeartbeats 1000000 in
theorem xClock_at {w : World} {x : Nat} {L : SLay} {s : SSt} (k : Int) (h : SRaw w x L s) (ho : SOk s) :
    Calls Tryz.prog 26 #[.pointer (some ⟨x, 0, none⟩), .int .i64 k] w fun e w' => e = .returned (.tuple #[.int .i64 (asksV s k (s.cl k.toNat)), .int .i64 (asksC s k)]) ∧ Below w.heap.size w w' := by
  obtain ⟨W0, hW0⟩ : ∃ W, W = (w.alloc (.cells #[.pointer (some ⟨x, 0, none⟩)] 30)).alloc (.cells #[.int .i64 k] 3) := ⟨_, rfl⟩
  have hb0 : Below w.heap.size w W0 := by rw [hW0]; exact Below.allocS (Below.allocS (Below.refl _ _) _) _
  have b0 : W0.cell? ⟨w.heap.size, 0, none⟩ = some (.pointer (some ⟨x, 0, none⟩)) := by rw [hW0]; exact cell_al _ (cell_nw _ _ _ 0 _ rfl)
  have b1 : W0.cell? ⟨w.heap.size + 1, 0, none⟩ = some (.int .i64 k) := by rw [hW0]; exact cellN (by simp) rfl
  have hr := h.below hb0
  have HB0 := Lib.hid hb0
  have HF := Lib.hid (show hasV (s.C : Int) k = true → Calls Tryz.prog 68 #[.pointer (some ⟨w.heap.size, 0, none⟩), .pointer (some ⟨w.heap.size + 1, 0, none⟩)] W0 fun e w' => e = .returned (.int .i64 (s.cl k.toNat)) ∧ Below W0.heap.size W0 w' from fun hn => by
    obtain ⟨hkC, hke⟩ := has_nat hn
    obtain ⟨j, hj⟩ : ∃ j, j = k.toNat := ⟨_, rfl⟩
    rw [← hj] at hkC hke ⊢
    subst hke
    obtain ⟨p0, hp0⟩ : ∃ p, p = w.heap.size := ⟨_, rfl⟩
    obtain ⟨p1, hp1⟩ : ∃ p, p = w.heap.size + 1 := ⟨_, rfl⟩
    rw [← hp0] at b0
    rw [← hp1] at b1
    rw [← hp1, ← hp0]
    obtain ⟨c, xf⟩ : ∃ c, W0.cell? ⟨x, 3, none⟩ = some (.slice (some ⟨L.bl, 0, none⟩) s.C c) := hr.head.c3
    have cj : W0.cell? ⟨L.bl, j, none⟩ = some (.int .i64 (s.cl j)) := hr.cl.c j hkC
    have hji : (j : Int) < (s.C : Int) := by omega
    clear h ho hb0 hr hW0 hn hj hp0 hp1 hkC HB0
    go_enter Tryz.func68, Tryz.ntmps68
    go_wp2_with fail
    refine startA (S := fun w' => Below W0.heap.size W0 w' ∧ w'.cell? ⟨p0, 0, none⟩ = some (.pointer (some ⟨x, 0, none⟩)) ∧ w'.cell? ⟨p1, 0, none⟩ = some (.int .i64 (j : Int)) ∧ w'.cell? ⟨x, 3, none⟩ = some (.slice (some ⟨L.bl, 0, none⟩) s.C c) ∧ w'.cell? ⟨L.bl, j, none⟩ = some (.int .i64 (s.cl j))) ⟨Below.refl _ _, b0, b1, xf, cj⟩ (held_4 (below_dr _)) (fun hS0 hHeld => ?_)
    refine takeA 0 ?_
    refine takeA 1 ?_
    refine takeA 2 ?_
    refine takeA 3 ?_
    refine takeA 4 ?_
    refine takeA 5 ?_
    refine takeA 6 ?_
    refine takeA 7 ?_
    refine doneA ?_
    go_wp2_with fail
    go_ret
    exact ⟨rfl, (Below.refl _ _).drew⟩
    )
  have A1 := Lib.hid (xasks_at 68 #[.pointer (some ⟨w.heap.size, 0, none⟩), .pointer (some ⟨w.heap.size + 1, 0, none⟩)] (enters_of Tryz.func68 (by kernel_rfl) rfl) k (s.cl k.toNat) hr ho.cpus.1 HF.out)
  have HW0 := Lib.hid hW0
  clear h ho hb0 hr hW0 HF
  go_enter Tryz.func26, Tryz.ntmps26
  go_upto_region 1 with fail
  rw [← HW0.out]
  clear HW0
  go_wp2_with fail
  refine A1.out.mono ?_; rintro e w5 ⟨rfl, hb5⟩
  have HB5 := Lib.hid (Below.step HB0.out hb5)
  clear hb5
  go_wp2_with fail
  exact bodyPost_ret (v := .tuple #[.int .i64 (asksV s k (s.cl k.toNat)), .int .i64 (asksC s k)]) (by simp [results, Tryz.results26, go_sem]) rfl ⟨rfl, HB5.out⟩
set_option maxRecDepth 100000 in
set_option maxHeartbeats 1000000 in
theorem xWeight_at {w : World} {x : Nat} {L : SLay} {s : SSt} (k : Int) (h : SRaw w x L s) (ho : SOk s) :
    Calls Tryz.prog 27 #[.pointer (some ⟨x, 0, none⟩), .int .i64 k] w fun e w' => e = .returned (.tuple #[.int .i64 (asksV s k (s.ld k.toNat)), .int .i64 (asksC s k)]) ∧ Below w.heap.size w w' := by
  obtain ⟨W0, hW0⟩ : ∃ W, W = (w.alloc (.cells #[.pointer (some ⟨x, 0, none⟩)] 30)).alloc (.cells #[.int .i64 k] 3) := ⟨_, rfl⟩
  have hb0 : Below w.heap.size w W0 := by rw [hW0]; exact Below.allocS (Below.allocS (Below.refl _ _) _) _
  have b0 : W0.cell? ⟨w.heap.size, 0, none⟩ = some (.pointer (some ⟨x, 0, none⟩)) := by rw [hW0]; exact cell_al _ (cell_nw _ _ _ 0 _ rfl)
  have b1 : W0.cell? ⟨w.heap.size + 1, 0, none⟩ = some (.int .i64 k) := by rw [hW0]; exact cellN (by simp) rfl
  have hr := h.below hb0
  have HB0 := Lib.hid hb0
  have HF := Lib.hid (show hasV (s.C : Int) k = true → Calls Tryz.prog 69 #[.pointer (some ⟨w.heap.size, 0, none⟩), .pointer (some ⟨w.heap.size + 1, 0, none⟩)] W0 fun e w' => e = .returned (.int .i64 (s.ld k.toNat)) ∧ Below W0.heap.size W0 w' from fun hn => by
    obtain ⟨hkC, hke⟩ := has_nat hn
    obtain ⟨j, hj⟩ : ∃ j, j = k.toNat := ⟨_, rfl⟩
    rw [← hj] at hkC hke ⊢
    subst hke
    obtain ⟨p0, hp0⟩ : ∃ p, p = w.heap.size := ⟨_, rfl⟩
    obtain ⟨p1, hp1⟩ : ∃ p, p = w.heap.size + 1 := ⟨_, rfl⟩
    rw [← hp0] at b0
    rw [← hp1] at b1
    rw [← hp1, ← hp0]
    obtain ⟨c, xf⟩ : ∃ c, W0.cell? ⟨x, 8, none⟩ = some (.slice (some ⟨L.bo, 0, none⟩) s.C c) := hr.head.c8
    have cj : W0.cell? ⟨L.bo, j, none⟩ = some (.int .i64 (s.ld j)) := hr.ld.c j hkC
    have hji : (j : Int) < (s.C : Int) := by omega
    clear h ho hb0 hr hW0 hn hj hp0 hp1 hkC HB0
    go_enter Tryz.func69, Tryz.ntmps69
    go_wp2_with fail
    refine startA (S := fun w' => Below W0.heap.size W0 w' ∧ w'.cell? ⟨p0, 0, none⟩ = some (.pointer (some ⟨x, 0, none⟩)) ∧ w'.cell? ⟨p1, 0, none⟩ = some (.int .i64 (j : Int)) ∧ w'.cell? ⟨x, 8, none⟩ = some (.slice (some ⟨L.bo, 0, none⟩) s.C c) ∧ w'.cell? ⟨L.bo, j, none⟩ = some (.int .i64 (s.ld j))) ⟨Below.refl _ _, b0, b1, xf, cj⟩ (held_4 (below_dr _)) (fun hS0 hHeld => ?_)
    refine takeA 0 ?_
    refine takeA 1 ?_
    refine takeA 2 ?_
    refine takeA 3 ?_
    refine takeA 4 ?_
    refine takeA 5 ?_
    refine takeA 6 ?_
    refine takeA 7 ?_
    refine doneA ?_
    go_wp2_with fail
    go_ret
    exact ⟨rfl, (Below.refl _ _).drew⟩
    )
  have A1 := Lib.hid (xasks_at 69 #[.pointer (some ⟨w.heap.size, 0, none⟩), .pointer (some ⟨w.heap.size + 1, 0, none⟩)] (enters_of Tryz.func69 (by kernel_rfl) rfl) k (s.ld k.toNat) hr ho.cpus.1 HF.out)
  have HW0 := Lib.hid hW0
  clear h ho hb0 hr hW0 HF
  go_enter Tryz.func27, Tryz.ntmps27
  go_upto_region 1 with fail
  rw [← HW0.out]
  clear HW0
  go_wp2_with fail
  refine A1.out.mono ?_; rintro e w5 ⟨rfl, hb5⟩
  have HB5 := Lib.hid (Below.step HB0.out hb5)
  clear hb5
  go_wp2_with fail
  exact bodyPost_ret (v := .tuple #[.int .i64 (asksV s k (s.ld k.toNat)), .int .i64 (asksC s k)]) (by simp [results, Tryz.results27, go_sem]) rfl ⟨rfl, HB5.out⟩
set_option maxRecDepth 100000 in
set_option maxHeartbeats 1000000 in
theorem xFirst_at {w : World} {x : Nat} {L : SLay} {s : SSt} (k : Int) (h : SRaw w x L s) (ho : SOk s) :
    Calls Tryz.prog 28 #[.pointer (some ⟨x, 0, none⟩), .int .i64 k] w fun e w' => e = .returned (.tuple #[.int .i64 (asksV s k (fstV s k.toNat)), .int .i64 (asksC s k)]) ∧ Below w.heap.size w w' := by
  obtain ⟨W0, hW0⟩ : ∃ W, W = (w.alloc (.cells #[.pointer (some ⟨x, 0, none⟩)] 30)).alloc (.cells #[.int .i64 k] 3) := ⟨_, rfl⟩
  have hb0 : Below w.heap.size w W0 := by rw [hW0]; exact Below.allocS (Below.allocS (Below.refl _ _) _) _
  have b0 : W0.cell? ⟨w.heap.size, 0, none⟩ = some (.pointer (some ⟨x, 0, none⟩)) := by rw [hW0]; exact cell_al _ (cell_nw _ _ _ 0 _ rfl)
  have b1 : W0.cell? ⟨w.heap.size + 1, 0, none⟩ = some (.int .i64 k) := by rw [hW0]; exact cellN (by simp) rfl
  have hr := h.below hb0
  have HB0 := Lib.hid hb0
  have HF := Lib.hid (show hasV (s.C : Int) k = true → Calls Tryz.prog 70 #[.pointer (some ⟨w.heap.size, 0, none⟩), .pointer (some ⟨w.heap.size + 1, 0, none⟩)] W0 fun e w' => e = .returned (.int .i64 (fstV s k.toNat)) ∧ Below W0.heap.size W0 w' from fun hn => by
    obtain ⟨hkC, hke⟩ := has_nat hn
    obtain ⟨j, hj⟩ : ∃ j, j = k.toNat := ⟨_, rfl⟩
    rw [← hj] at hkC hke ⊢
    subst hke
    obtain ⟨p0, hp0⟩ : ∃ p, p = w.heap.size := ⟨_, rfl⟩
    obtain ⟨p1, hp1⟩ : ∃ p, p = w.heap.size + 1 := ⟨_, rfl⟩
    rw [← hp0] at b0
    rw [← hp1] at b1
    rw [← hp1, ← hp0]
    have AF := Lib.hid (xfirst_at hr ho hkC)
    clear h ho hb0 hr hW0 hn hj hp0 hp1 hkC HB0
    go_enter Tryz.func70, Tryz.ntmps70
    go_wp2_with fail
    refine AF.out.mono ?_; rintro e w5 ⟨rfl, hb5⟩
    go_wp2_with fail
    go_ret
    exact ⟨rfl, hb5⟩)
  have A1 := Lib.hid (xasks_at 70 #[.pointer (some ⟨w.heap.size, 0, none⟩), .pointer (some ⟨w.heap.size + 1, 0, none⟩)] (enters_of Tryz.func70 (by kernel_rfl) rfl) k (fstV s k.toNat) hr ho.cpus.1 HF.out)
  have HW0 := Lib.hid hW0
  clear h ho hb0 hr hW0 HF
  go_enter Tryz.func28, Tryz.ntmps28
  go_upto_region 1 with fail
  rw [← HW0.out]
  clear HW0
  go_wp2_with fail
  refine A1.out.mono ?_; rintro e w5 ⟨rfl, hb5⟩
  have HB5 := Lib.hid (Below.step HB0.out hb5)
  clear hb5
  go_wp2_with fail
  exact bodyPost_ret (v := .tuple #[.int .i64 (asksV s k (fstV s k.toNat)), .int .i64 (asksC s k)]) (by simp [results, Tryz.results28, go_sem]) rfl ⟨rfl, HB5.out⟩
end Go.Proofs.YtapnaocdehahdaaGreat
namespace Go.Proofs.YtapnaocdehahdaaGreat
open Go.RowKit Go.Maps Go.IntWalk Go.Lib
set_option linter.unusedVariables false
set_option linter.unusedSimpArgs false
/-! ### plain -/
/-- what the first k tasks weigh on a CPU -/
def ldK (s : SSt) (k c : Nat) : Int := (((keysL s).take k).map (wtOf s.T c)).sum
theorem ldK_zero (s : SSt) (c : Nat) : ldK s 0 c = 0 := rfl
theorem ldK_step {s : SSt} {k c : Nat} {id : Int} (h : (keysL s)[k]? = some id) : ldK s (k + 1) c = ldK s k c + wtOf s.T c id := by
  unfold ldK
  rw [List.take_add_one, h, List.map_append, List.sum_append]
  simp
theorem ldK_in {s : SSt} (h : SOk s) (c : Nat) : ∀ k, 0 ≤ ldK s k c ∧ ldK s k c ≤ (k : Int) * 65536
  | 0 => by rw [ldK_zero]; omega
  | k + 1 => by
    have ih := ldK_in h c k
    cases e : (keysL s)[k]? with
    | none =>
      have : (keysL s).take (k + 1) = (keysL s).take k := by rw [List.take_add_one, e]; simp
      unfold ldK at ih ⊢
      rw [this]
      push_cast
      omega
    | some id =>
      rw [ldK_step e]
      have h1 := wt_pos h c id
      have h2 : wtOf s.T c id ≤ 65536 := by
        unfold wtOf
        split
        · rename_i t ht
          have := (h.task id t ht).2.w
          split <;> omega
        · omega
      push_cast
      omega
theorem ldK_all {s : SSt} (h : SOk s) {c : Nat} (hc : c < s.C) : ldK s s.c c = s.ld c := by
  unfold ldK
  rw [h.loads hc, List.take_of_length_le (Nat.le_of_eq h.keys_len)]
theorem IntsAt.congr {w : World} {b n : Nat} {f g : Nat → Int} (h : IntsAt w b n f) (e : ∀ k, k < n → f k = g k) : IntsAt w b n g := ⟨fun k q => by rw [← e k q]; exact h.c k q, h.z, h.lt⟩
theorem any_key {s : SSt} (h : SOk s) (id : Int) : (∃ j ∈ (keysL s).take s.c, j = id) ↔ (s.T id).isSome = true := by
  rw [List.take_of_length_le (Nat.le_of_eq h.keys_len), ← keysL_mem h]
  exact ⟨fun ⟨j, q, e⟩ => e ▸ q, fun q => ⟨id, q, rfl⟩⟩
/-- while each CPU picks -/
structure PkS (s : SSt) (j : Nat) (s' : SSt) : Prop where
  ok : SOk s'
  C : s'.C = s.C
  ld : s'.ld = s.ld
  cl : s'.cl = s.cl
  Q : s'.Q = s.Q
  cu : ∀ c, j ≤ c → s'.cu c = s.cu c
theorem PkS.start {s : SSt} (h : SOk s) : PkS s 0 s := ⟨h, rfl, rfl, rfl, rfl, fun _ _ => rfl⟩
def pkO (c : Nat) : OpV := ⟨6, c, 0, 0, 0, 0, 0, 0⟩
theorem pkO_wf {c : Nat} (h : c < 64) : (pkO c).Wf := ⟨(by decide : (0 : Int) ≤ 6 ∧ (6 : Int) ≤ 255), wfI (by show _ ≤ (c : Int); omega) (by show (c : Int) ≤ _; omega), (by decide : (Lit.int .i64 0).wf = true), (by decide : (Lit.int .i64 0).wf = true), (by decide : (Lit.int .i64 0).wf = true), (by decide : (Lit.int .i64 0).wf = true), (by decide : (Lit.int .i64 0).wf = true), (by decide : (0 : Int) ≤ 0 ∧ (0 : Int) ≤ 18446744073709551615)⟩
theorem pk_do {s : SSt} {c : Nat} (hc : c < s.C) : doR s (pkO c) = ((frT (s.Q c)).1, 0, pickS { s with wk := 0 } c) := by
  unfold doR
  rw [opR_6 (show (pkO c).kind = 6 from rfl)]
  have hh : hasV (s.C : Int) ((c : Nat) : Int) = true := by
    unfold hasV
    simp
    omega
  show (if hasV (s.C : Int) ((c : Nat) : Int) = true then ((frT (s.Q ((c : Nat) : Int).toNat)).1, (0 : Int), pickS { s with wk := 0 } ((c : Nat) : Int).toNat) else _) = _
  rw [if_pos hh, Int.toNat_natCast]
theorem PkS.next {s s' : SSt} {j : Nat} (h : PkS s j s') (hj : j < s.C) : PkS s (j + 1) (doR s' (pkO j)).2.2 ∧ (doR s' (pkO j)).2.2.cu j = (frT (s.Q j)).1 := by
  have hC : j < s'.C := by rw [h.C]; exact hj
  have h64 := h.ok.cpus
  have ok := h.ok.done (o := pkO j) (pkO_wf (by omega))
  rw [pk_do hC] at ok ⊢
  refine ⟨⟨ok, h.C, h.ld, h.cl, h.Q, fun c q => ?_⟩, ?_⟩
  · show upd s'.cu j _ c = _
    rw [upd_other _ _ (by omega)]
    exact h.cu c (by omega)
  · show upd s'.cu j (frT (s'.Q j)).1 j = _
    rw [upd_same, h.Q]
theorem SIn.kept {w w' : World} {x : Nat} {F G : List Nat} {s : SSt} (h : SIn w x F s) (hk : Kept G w w') (hG : ∀ b ∈ G, b ∉ F) : SIn w' x F s := by
  obtain ⟨L, h1, h2⟩ := h
  exact ⟨L, h1.kept hk (fun b q => Decidable.byContradiction fun n => hG b q (h2 b n)), h2⟩
theorem XW.kept {base w w' : World} {x : Nat} {s : SSt} {F G : List Nat} (h : XW base x s w F) (hk : Kept G w w') (hG : ∀ b ∈ G, b ∉ F) (hl : ∀ b ∈ G, base.heap.size ≤ b) : XW base x s w' F :=
  ⟨h.inn.kept hk hG, h.own, fun b q => Nat.lt_of_lt_of_le (h.lt b q) hk.size, h.bel.trans (hk.below hl h.bel.size)⟩
theorem asks_in {s : SSt} {j : Nat} (h : j < s.C) (v : Int) : asksV s (j : Int) v = v ∧ asksC s (j : Int) = 0 := by
  have hh : hasV (s.C : Int) ((j : Nat) : Int) = true := by
    unfold hasV
    simp
    omega
  unfold asksV asksC
  rw [if_pos hh, if_pos hh]
  exact ⟨rfl, rfl⟩
theorem CurrentX_at {w : World} {x : Nat} {F : List Nat} {s : SSt} {j : Nat} (h : SIn w x F s) (ho : SOk s) (hj : j < s.C) : Calls Tryz.prog 25 #[.pointer (some ⟨x, 0, none⟩), .int .i64 j] w fun e w' => e = .returned (.tuple #[.int .i64 (s.cu j), .int .i64 0]) ∧ Below w.heap.size w w' := by
  obtain ⟨L, q, hL⟩ := h
  have h1 := xCurrent_at (j : Int) q ho
  rw [(asks_in hj _).1, (asks_in hj 0).2, Int.toNat_natCast] at h1
  exact h1
theorem ClockX_at {w : World} {x : Nat} {F : List Nat} {s : SSt} {j : Nat} (h : SIn w x F s) (ho : SOk s) (hj : j < s.C) : Calls Tryz.prog 26 #[.pointer (some ⟨x, 0, none⟩), .int .i64 j] w fun e w' => e = .returned (.tuple #[.int .i64 (s.cl j), .int .i64 0]) ∧ Below w.heap.size w w' := by
  obtain ⟨L, q, hL⟩ := h
  have h1 := xClock_at (j : Int) q ho
  rw [(asks_in hj _).1, (asks_in hj 0).2, Int.toNat_natCast] at h1
  exact h1
theorem WeightX_at {w : World} {x : Nat} {F : List Nat} {s : SSt} {j : Nat} (h : SIn w x F s) (ho : SOk s) (hj : j < s.C) : Calls Tryz.prog 27 #[.pointer (some ⟨x, 0, none⟩), .int .i64 j] w fun e w' => e = .returned (.tuple #[.int .i64 (s.ld j), .int .i64 0]) ∧ Below w.heap.size w w' := by
  obtain ⟨L, q, hL⟩ := h
  have h1 := xWeight_at (j : Int) q ho
  rw [(asks_in hj _).1, (asks_in hj 0).2, Int.toNat_natCast] at h1
  exact h1
theorem FirstX_at {w : World} {x : Nat} {F : List Nat} {s : SSt} {j : Nat} (h : SIn w x F s) (ho : SOk s) (hj : j < s.C) : Calls Tryz.prog 28 #[.pointer (some ⟨x, 0, none⟩), .int .i64 j] w fun e w' => e = .returned (.tuple #[.int .i64 (fstV s j), .int .i64 0]) ∧ Below w.heap.size w w' := by
  obtain ⟨L, q, hL⟩ := h
  have h1 := xFirst_at (j : Int) q ho
  rw [(asks_in hj _).1, (asks_in hj 0).2, Int.toNat_natCast] at h1
  exact h1
theorem task_known {s : SSt} (h : SOk s) {id : Int} {t : Tsk} (hT : s.T id = some t) : taskC s id = 0 ∧ taskV s id = encTv id t (ranX s id t) := by
  have hn : nameV id = true := nameV_iff.2 (h.task id t hT).1
  unfold taskC taskV
  rw [hn, hT]
  exact ⟨rfl, rfl⟩
theorem task_zero {s : SSt} {id : Int} (hT : s.T id = none) : taskV s id = .agg #[.int .i64 0, .int .i64 0, .int .i64 0, .int .i64 0, .int .u64 0, .bool false, .int .u64 0, .int .u32 0] ∧ (taskC s id = 6 ∨ taskC s id = 301) := by
  unfold taskC taskV
  rw [hT]
  refine ⟨rfl, ?_⟩
  cases nameV id
  · exact Or.inr rfl
  · exact Or.inl rfl
theorem first_load {s : SSt} (h : SOk s) {j : Nat} (hj : j < s.C) : ((fstV s j == 0) != (s.ld j == 0)) = false := by
  have := h.first_zero hj
  unfold fstV
  by_cases e : (frT (s.Q j)).1 = 0
  · rw [e, this.1 e]; rfl
  · have e2 : s.ld j ≠ 0 := fun q => e (this.2 q)
    rw [beq_eq_false_iff_ne.2 e, beq_eq_false_iff_ne.2 e2]; rfl
theorem HeldR.add {α : Type} {enc : α → List Value} {F : List Nat} {w : World} {v : Value} {L : List α} {b : Nat} (h : HeldR enc F w v L) (hb : w.heap.size ≤ b) : HeldR enc (b :: F) w v L := by
  obtain ⟨a, cap, e, h1, h2, h3, h⟩ := h
  refine ⟨a, cap, e, h1, h2, h3, h.imp id fun ⟨b', off, e, ⟨q1, q2⟩, hc⟩ => ⟨b', off, e, ⟨fun m => ?_, q2⟩, hc⟩⟩
  rcases List.mem_cons.1 m with q | q
  · omega
  · exact q1 q
theorem cells_held {α : Type} {enc : α → List Value} {k n c : Nat} (he : Enc enc k) {F : List Nat} {w : World} {a : Option Addr} {l : List α} (h : HeldR enc F w (.slice a n c) l) {i : Nat} {y : α} (hy : l[i]? = some y) : ∃ b off, a = some ⟨b, off, none⟩ ∧ (b ∉ F ∧ b < w.heap.size) ∧ ∀ j u, (enc y)[j]? = some u → w.cell? ⟨b, off + i * k + j, none⟩ = some u := by
  obtain ⟨a', c', e, _, _, _, q⟩ := h
  cases e
  have hi := (List.getElem?_eq_some_iff.1 hy).1
  rcases q with q | ⟨b, off, rfl, hb, hc⟩
  · rw [q] at hi; simp at hi
  · refine ⟨b, off, rfl, hb, fun j u hj => ?_⟩
    have hjk : j < k := by rw [← he.len y]; exact (List.getElem?_eq_some_iff.1 hj).1
    have := hc (i * k + j) u ((flatR_at he hy j hjk).trans hj)
    rwa [← Nat.add_assoc] at this
end Go.Proofs.YtapnaocdehahdaaGreat
