/-
  Layer 24 (queue): Charge, Weigh.
-/
import Derived.Test.YtfgmglghlapbcaaQueueC
namespace Go.Proofs.Ytfgmglghlapbcaa
open Go.RowKit Go.Maps Go.IntWalk Go.Lib
set_option linter.unusedVariables false
set_option linter.unusedSimpArgs false
def tkOk (t : Int) : Prop := 0 ≤ t ∧ t ≤ 4294967295
instance (t : Int) : Decidable (tkOk t) := by unfold tkOk; infer_instance
def wgOk (k : Int) : Prop := 1 ≤ k ∧ k ≤ 65536
instance (t : Int) : Decidable (wgOk t) := by unfold wgOk; infer_instance
/-- an entity charged; one with another weight -/
def chgX (t : Int) (y : Ent) : Ent := (Ch.addV y.1 y.2.1 y.2.2 t, Ch.addR y.1 y.2.1 y.2.2 t, y.2.2)
def wghX (k : Int) (y : Ent) : Ent := (y.1, 0, k)
/-- what Charge and Weigh answer, and leave -/
def chC (b : Bool) (n : Int) (M : Mems) (id : Int) : Int := if hasV n id then (if b then (if (entM M id).isSome then 0 else 6) else 2) else 2
def chS (b : Bool) (n : Int) (M : Mems) (id : Int) (X : Ent → Ent) : Mems := if chC b n M id = 0 then chM M id (X ((entM M id).getD (0, 0, 0))) else M
def chF (b : Bool) (n : Int) (M : Mems) (id : Int) (X : Ent → Ent) (fl : Int) : Int := if chC b n M id = 0 then riseF (itemsM (chM M id (X ((entM M id).getD (0, 0, 0))))) fl else fl
theorem ch_no {b : Bool} {n : Int} {M : Mems} {id c : Int} (h : chC b n M id = c) (hc : c ≠ 0) (X : Ent → Ent) (fl : Int) : chS b n M id X = M ∧ chF b n M id X fl = fl := by
  unfold chS chF
  rw [h, if_neg hc, if_neg hc]
  exact ⟨rfl, rfl⟩
theorem ch_yes {b : Bool} {n : Int} {M : Mems} {id : Int} {y : Ent} (h : chC b n M id = 0) (hy : entM M id = some y) (X : Ent → Ent) (fl : Int) : chS b n M id X = chM M id (X y) ∧ chF b n M id X fl = riseF (itemsM (chM M id (X y))) fl := by
  unfold chS chF
  rw [h, if_pos rfl, if_pos rfl, hy]
  exact ⟨rfl, rfl⟩
theorem okC {t : Int} {y : Ent} (hy : Ch.Ok y.1 y.2.1 y.2.2) (ht : tkOk t) : Ch.Ok (chgX t y).1 (chgX t y).2.1 (chgX t y).2.2 := Ch.add_ok hy ht.1
theorem okW {k : Int} {y : Ent} (hy : Ch.Ok y.1 y.2.1 y.2.2) (hk : wgOk k) : Ch.Ok (wghX k y).1 (wghX k y).2.1 (wghX k y).2.2 := by
  exact ⟨hy.1, hy.2.1, Int.le_refl 0, show (0 : Int) < k by have := hk.1; omega, hk.1, hk.2, Or.inr rfl⟩
set_option maxRecDepth 100000 in
set_option maxHeartbeats 4000000 in
theorem Charge_at {q : Nat} {F : List Nat} {n : Int} {M : Mems} {fl : Int} (id t : Int) (w : World) (h : QIn w q F n M fl) (hid : (Lit.int .i64 id).wf = true) :
    Calls Try.prog 42 #[.pointer (some ⟨q, 0, none⟩), .int .i64 id, .int .i64 t] w (QDid w q F n (.int .i64 (chC (decide (tkOk t)) n M id)) (chS (decide (tkOk t)) n M id (chgX t)) (chF (decide (tkOk t)) n M id (chgX t) fl)) := by
  have any : ∀ v r c W, Ch.Fits v r c → ¬ (Ch.Ok v r c ∧ tkOk t) → Calls Try.prog 16 #[.agg #[.int .u64 v, .int .u32 r, .int .u32 c], .int .i64 t] W fun e w' => e = .returned (.tuple #[.agg #[.int .u64 0, .int .u32 0, .int .u32 0], .int .i64 2]) ∧ Below W.heap.size W w' := fun v r c W hf h => Add_bad v r c t W hf h
  have ok : ∀ v r c W, Ch.Ok v r c → tkOk t → Calls Try.prog 16 #[.agg #[.int .u64 v, .int .u32 r, .int .u32 c], .int .i64 t] W fun e w' => e = .returned (.tuple #[.agg #[.int .u64 (chgX t (v, r, c)).1, .int .u32 (chgX t (v, r, c)).2.1, .int .u32 (chgX t (v, r, c)).2.2], .int .i64 0]) ∧ Below W.heap.size W w' := fun v r c W h ht => Add_ok v r c t W h ht
  have okX := @okC t
  have HQ := Lib.hid h
  have hids := h.ids
  have HIN := Lib.hid h
  obtain ⟨p, bm, Fh, f, hr, rfl, hfe, hok, hf0, hf1⟩ := h
  have A1 := Lib.hid (qfind_at id w hr hid)
  have HID := Lib.hid hid
  have HOK := Lib.hid hok
  clear hr hf0 hf1
  unfold qfindV at A1
  rw [hfe] at A1
  clear hfe
  have ANY := Lib.hid any
  have OK := Lib.hid ok
  clear any ok
  cases hv : hasV n id with
  | false =>
    rw [hv] at A1
    have E := Lib.hid (show chC (decide (tkOk t)) n M id = 2 by unfold chC; rw [hv]; rfl)
    have EB := Lib.hid (ch_no E.out (by decide) (chgX t) fl)
    have A2 := Lib.hid fun W => ANY.out 0 0 0 W (by unfold Ch.Fits; omega) (by unfold Ch.Ok; omega)
    clear hids hok
    go_enter Try.func42, Try.ntmps42
    go_wp2_with fail
    refine A1.out.mono ?_; rintro e w5 ⟨rfl, hb5⟩
    have HB5 := Lib.hid hb5
    clear hb5
    go_wp2_with fail
    refine (A2.out _).mono ?_; rintro e w7 ⟨rfl, hb7⟩
    have HB7 := Lib.hid (Below.step (Below.step HB5.out (below_a w5 _)) hb7)
    clear hb7
    go_wp2_with fail
    go_ret
    rw [E.out, EB.out.1, EB.out.2]
    exact ⟨rfl, QAfter.same HIN.out (Below.step HB7.out (below_a _ _))⟩
  | true =>
    rw [hv] at A1
    by_cases ht : (tkOk t)
    · cases hm : entM M id with
      | none =>
        rw [hm] at A1
        have E := Lib.hid (show chC (decide (tkOk t)) n M id = 6 by unfold chC; rw [hv, hm, decide_eq_true ht]; rfl)
        have EB := Lib.hid (ch_no E.out (by decide) (chgX t) fl)
        have A2 := Lib.hid fun W => OK.out 0 0 1 W (by unfold Ch.Ok; omega) ht
        clear hids hok ht
        go_enter Try.func42, Try.ntmps42
        go_wp2_with fail
        refine A1.out.mono ?_; rintro e w5 ⟨rfl, hb5⟩
        have HB5 := Lib.hid hb5
        clear hb5
        go_wp2_with fail
        refine (A2.out _).mono ?_; rintro e w7 ⟨rfl, hb7⟩
        have HB7 := Lib.hid (Below.step (Below.step HB5.out (below_a w5 _)) hb7)
        clear hb7
        go_wp2_with fail
        refine (change_no q id 6 _ (_, _, _) _ (by decide)).mono ?_; rintro e w8 ⟨rfl, hb8⟩
        have HB8 := Lib.hid (Below.step (Below.step HB7.out (below_a w7 _)) hb8)
        clear hb8
        go_wp2_with fail
        go_ret
        rw [E.out, EB.out.1, EB.out.2]
        exact ⟨rfl, QAfter.same HIN.out HB8.out⟩
      | some y =>
        rw [hm] at A1
        have E := Lib.hid (show chC (decide (tkOk t)) n M id = 0 by unfold chC; rw [hv, hm, decide_eq_true ht]; rfl)
        have EB := Lib.hid (ch_yes E.out hm (chgX t) fl)
        have HM := Lib.hid hm
        have hy : Ch.Ok y.1 y.2.1 y.2.2 := hok.ok _ ((ent_some hok.nod).1 hm)
        have A2 := Lib.hid fun W => OK.out y.1 y.2.1 y.2.2 W hy ht
        have HX := Lib.hid (show Ch.Ok ((chgX t) y).1 ((chgX t) y).2.1 ((chgX t) y).2.2 from okX hy ht)
        clear hids hok ht hy hm
        go_enter Try.func42, Try.ntmps42
        go_wp2_with fail
        refine A1.out.mono ?_; rintro e w5 ⟨rfl, hb5⟩
        have HB5 := Lib.hid hb5
        clear hb5
        go_wp2_with fail
        refine (A2.out _).mono ?_; rintro e w7 ⟨rfl, hb7⟩
        have HB7 := Lib.hid (Below.step (Below.step HB5.out (below_a w5 _)) hb7)
        clear hb7
        go_wp2_with fail
        refine (change_at id ((chgX t) y) y _ (HIN.out.below (Below.step HB7.out (below_a w7 _))) HID.out HX.out HM.out).mono ?_; rintro e w8 ⟨rfl, hA8⟩
        have HA8 := Lib.hid hA8
        clear hA8
        go_wp2_with fail
        go_ret
        rw [E.out, EB.out.1, EB.out.2]
        obtain ⟨F8, h8, s8⟩ := HA8.out
        exact ⟨rfl, F8, h8, (Step.of (Below.step HB7.out (below_a w7 _))).trans s8⟩
    · cases hm : entM M id with
      | none =>
        rw [hm] at A1
        have E := Lib.hid (show chC (decide (tkOk t)) n M id = 2 by unfold chC; rw [hv, decide_eq_false ht]; rfl)
        have EB := Lib.hid (ch_no E.out (by decide) (chgX t) fl)
        have A2 := Lib.hid fun W => ANY.out 0 0 1 W (by unfold Ch.Fits; omega) (fun q => ht q.2)
        clear hids hok ht
        go_enter Try.func42, Try.ntmps42
        go_wp2_with fail
        refine A1.out.mono ?_; rintro e w5 ⟨rfl, hb5⟩
        have HB5 := Lib.hid hb5
        clear hb5
        go_wp2_with fail
        refine (A2.out _).mono ?_; rintro e w7 ⟨rfl, hb7⟩
        have HB7 := Lib.hid (Below.step (Below.step HB5.out (below_a w5 _)) hb7)
        clear hb7
        go_wp2_with fail
        go_ret
        rw [E.out, EB.out.1, EB.out.2]
        exact ⟨rfl, QAfter.same HIN.out (Below.step HB7.out (below_a _ _))⟩
      | some y =>
        rw [hm] at A1
        have E := Lib.hid (show chC (decide (tkOk t)) n M id = 2 by unfold chC; rw [hv, decide_eq_false ht]; rfl)
        have EB := Lib.hid (ch_no E.out (by decide) (chgX t) fl)
        have hy : Ch.Ok y.1 y.2.1 y.2.2 := hok.ok _ ((ent_some hok.nod).1 hm)
        have A2 := Lib.hid fun W => ANY.out y.1 y.2.1 y.2.2 W (by unfold Ch.Ok at hy; unfold Ch.Fits; omega) (fun q => ht q.2)
        clear hids hok ht hy hm
        go_enter Try.func42, Try.ntmps42
        go_wp2_with fail
        refine A1.out.mono ?_; rintro e w5 ⟨rfl, hb5⟩
        have HB5 := Lib.hid hb5
        clear hb5
        go_wp2_with fail
        refine (A2.out _).mono ?_; rintro e w7 ⟨rfl, hb7⟩
        have HB7 := Lib.hid (Below.step (Below.step HB5.out (below_a w5 _)) hb7)
        clear hb7
        go_wp2_with fail
        go_ret
        rw [E.out, EB.out.1, EB.out.2]
        exact ⟨rfl, QAfter.same HIN.out (Below.step HB7.out (below_a _ _))⟩
set_option maxRecDepth 100000 in
set_option maxHeartbeats 4000000 in
theorem Weigh_at {q : Nat} {F : List Nat} {n : Int} {M : Mems} {fl : Int} (id k : Int) (w : World) (h : QIn w q F n M fl) (hid : (Lit.int .i64 id).wf = true) :
    Calls Try.prog 73 #[.pointer (some ⟨q, 0, none⟩), .int .i64 id, .int .i64 k] w (QDid w q F n (.int .i64 (chC (decide (wgOk k)) n M id)) (chS (decide (wgOk k)) n M id (wghX k)) (chF (decide (wgOk k)) n M id (wghX k) fl)) := by
  have any : ∀ v r c W, Ch.Fits v r c → ¬ (Ch.Ok v r c ∧ wgOk k) → Calls Try.prog 72 #[.agg #[.int .u64 v, .int .u32 r, .int .u32 c], .int .i64 k] W fun e w' => e = .returned (.tuple #[.agg #[.int .u64 0, .int .u32 0, .int .u32 0], .int .i64 2]) ∧ Below W.heap.size W w' := fun v r c W hf h => Weigh_bad v r c k W hf h
  have ok : ∀ v r c W, Ch.Ok v r c → wgOk k → Calls Try.prog 72 #[.agg #[.int .u64 v, .int .u32 r, .int .u32 c], .int .i64 k] W fun e w' => e = .returned (.tuple #[.agg #[.int .u64 (wghX k (v, r, c)).1, .int .u32 (wghX k (v, r, c)).2.1, .int .u32 (wghX k (v, r, c)).2.2], .int .i64 0]) ∧ Below W.heap.size W w' := fun v r c W h ht => Weigh_ok v r c k W h ht
  have okX := @okW k
  have HQ := Lib.hid h
  have hids := h.ids
  have HIN := Lib.hid h
  obtain ⟨p, bm, Fh, f, hr, rfl, hfe, hok, hf0, hf1⟩ := h
  have A1 := Lib.hid (qfind_at id w hr hid)
  have HID := Lib.hid hid
  have HOK := Lib.hid hok
  clear hr hf0 hf1
  unfold qfindV at A1
  rw [hfe] at A1
  clear hfe
  have ANY := Lib.hid any
  have OK := Lib.hid ok
  clear any ok
  cases hv : hasV n id with
  | false =>
    rw [hv] at A1
    have E := Lib.hid (show chC (decide (wgOk k)) n M id = 2 by unfold chC; rw [hv]; rfl)
    have EB := Lib.hid (ch_no E.out (by decide) (wghX k) fl)
    have A2 := Lib.hid fun W => ANY.out 0 0 0 W (by unfold Ch.Fits; omega) (by unfold Ch.Ok; omega)
    clear hids hok
    go_enter Try.func73, Try.ntmps73
    go_wp2_with fail
    refine A1.out.mono ?_; rintro e w5 ⟨rfl, hb5⟩
    have HB5 := Lib.hid hb5
    clear hb5
    go_wp2_with fail
    refine (A2.out _).mono ?_; rintro e w7 ⟨rfl, hb7⟩
    have HB7 := Lib.hid (Below.step (Below.step HB5.out (below_a w5 _)) hb7)
    clear hb7
    go_wp2_with fail
    go_ret
    rw [E.out, EB.out.1, EB.out.2]
    exact ⟨rfl, QAfter.same HIN.out (Below.step HB7.out (below_a _ _))⟩
  | true =>
    rw [hv] at A1
    by_cases ht : (wgOk k)
    · cases hm : entM M id with
      | none =>
        rw [hm] at A1
        have E := Lib.hid (show chC (decide (wgOk k)) n M id = 6 by unfold chC; rw [hv, hm, decide_eq_true ht]; rfl)
        have EB := Lib.hid (ch_no E.out (by decide) (wghX k) fl)
        have A2 := Lib.hid fun W => OK.out 0 0 1 W (by unfold Ch.Ok; omega) ht
        clear hids hok ht
        go_enter Try.func73, Try.ntmps73
        go_wp2_with fail
        refine A1.out.mono ?_; rintro e w5 ⟨rfl, hb5⟩
        have HB5 := Lib.hid hb5
        clear hb5
        go_wp2_with fail
        refine (A2.out _).mono ?_; rintro e w7 ⟨rfl, hb7⟩
        have HB7 := Lib.hid (Below.step (Below.step HB5.out (below_a w5 _)) hb7)
        clear hb7
        go_wp2_with fail
        refine (change_no q id 6 _ (_, _, _) _ (by decide)).mono ?_; rintro e w8 ⟨rfl, hb8⟩
        have HB8 := Lib.hid (Below.step (Below.step HB7.out (below_a w7 _)) hb8)
        clear hb8
        go_wp2_with fail
        go_ret
        rw [E.out, EB.out.1, EB.out.2]
        exact ⟨rfl, QAfter.same HIN.out HB8.out⟩
      | some y =>
        rw [hm] at A1
        have E := Lib.hid (show chC (decide (wgOk k)) n M id = 0 by unfold chC; rw [hv, hm, decide_eq_true ht]; rfl)
        have EB := Lib.hid (ch_yes E.out hm (wghX k) fl)
        have HM := Lib.hid hm
        have hy : Ch.Ok y.1 y.2.1 y.2.2 := hok.ok _ ((ent_some hok.nod).1 hm)
        have A2 := Lib.hid fun W => OK.out y.1 y.2.1 y.2.2 W hy ht
        have HX := Lib.hid (show Ch.Ok ((wghX k) y).1 ((wghX k) y).2.1 ((wghX k) y).2.2 from okX hy ht)
        clear hids hok ht hy hm
        go_enter Try.func73, Try.ntmps73
        go_wp2_with fail
        refine A1.out.mono ?_; rintro e w5 ⟨rfl, hb5⟩
        have HB5 := Lib.hid hb5
        clear hb5
        go_wp2_with fail
        refine (A2.out _).mono ?_; rintro e w7 ⟨rfl, hb7⟩
        have HB7 := Lib.hid (Below.step (Below.step HB5.out (below_a w5 _)) hb7)
        clear hb7
        go_wp2_with fail
        refine (change_at id ((wghX k) y) y _ (HIN.out.below (Below.step HB7.out (below_a w7 _))) HID.out HX.out HM.out).mono ?_; rintro e w8 ⟨rfl, hA8⟩
        have HA8 := Lib.hid hA8
        clear hA8
        go_wp2_with fail
        go_ret
        rw [E.out, EB.out.1, EB.out.2]
        obtain ⟨F8, h8, s8⟩ := HA8.out
        exact ⟨rfl, F8, h8, (Step.of (Below.step HB7.out (below_a w7 _))).trans s8⟩
    · cases hm : entM M id with
      | none =>
        rw [hm] at A1
        have E := Lib.hid (show chC (decide (wgOk k)) n M id = 2 by unfold chC; rw [hv, decide_eq_false ht]; rfl)
        have EB := Lib.hid (ch_no E.out (by decide) (wghX k) fl)
        have A2 := Lib.hid fun W => ANY.out 0 0 1 W (by unfold Ch.Fits; omega) (fun q => ht q.2)
        clear hids hok ht
        go_enter Try.func73, Try.ntmps73
        go_wp2_with fail
        refine A1.out.mono ?_; rintro e w5 ⟨rfl, hb5⟩
        have HB5 := Lib.hid hb5
        clear hb5
        go_wp2_with fail
        refine (A2.out _).mono ?_; rintro e w7 ⟨rfl, hb7⟩
        have HB7 := Lib.hid (Below.step (Below.step HB5.out (below_a w5 _)) hb7)
        clear hb7
        go_wp2_with fail
        go_ret
        rw [E.out, EB.out.1, EB.out.2]
        exact ⟨rfl, QAfter.same HIN.out (Below.step HB7.out (below_a _ _))⟩
      | some y =>
        rw [hm] at A1
        have E := Lib.hid (show chC (decide (wgOk k)) n M id = 2 by unfold chC; rw [hv, decide_eq_false ht]; rfl)
        have EB := Lib.hid (ch_no E.out (by decide) (wghX k) fl)
        have hy : Ch.Ok y.1 y.2.1 y.2.2 := hok.ok _ ((ent_some hok.nod).1 hm)
        have A2 := Lib.hid fun W => ANY.out y.1 y.2.1 y.2.2 W (by unfold Ch.Ok at hy; unfold Ch.Fits; omega) (fun q => ht q.2)
        clear hids hok ht hy hm
        go_enter Try.func73, Try.ntmps73
        go_wp2_with fail
        refine A1.out.mono ?_; rintro e w5 ⟨rfl, hb5⟩
        have HB5 := Lib.hid hb5
        clear hb5
        go_wp2_with fail
        refine (A2.out _).mono ?_; rintro e w7 ⟨rfl, hb7⟩
        have HB7 := Lib.hid (Below.step (Below.step HB5.out (below_a w5 _)) hb7)
        clear hb7
        go_wp2_with fail
        go_ret
        rw [E.out, EB.out.1, EB.out.2]
        exact ⟨rfl, QAfter.same HIN.out (Below.step HB7.out (below_a _ _))⟩
end Go.Proofs.Ytfgmglghlapbcaa
