/-
  Layer 24 (queue): some, find, rise.
-/
import Derived.Test.YtfgmglghlapbcaaQueueS
namespace Go.Proofs.Ytfgmglghlapbcaa
open Go.RowKit Go.Maps Go.IntWalk Go.Lib
set_option linter.unusedVariables false
set_option linter.unusedSimpArgs false
theorem qsome_at (q : Nat) (n : Int) (w : World) (c1 : w.cell? ⟨q, 1, none⟩ = some (.int .i64 n)) (hn : 1 ≤ n) :
    Calls Try.prog 48 #[.pointer (some ⟨q, 0, none⟩)] w fun e w' => e = .returned (.bool true) ∧ w = w' := by
  have z : (0 : Int) < n := by omega
  clear hn
  go_enter Try.func48, Try.ntmps48
  go_wp2
  go_ret
  exact ⟨rfl, rfl⟩
theorem QRaw.pos {w : World} {q p bm : Nat} {Fh : List Nat} {n : Int} {S : Items} {f : Int → Option Ent} {c : Nat} {fl ld : Int} (h : QRaw w q p bm Fh n S f c fl ld) : 1 ≤ n := h.heap.ids.2.2.2.1
/-- what find answers -/
def qfindV (n : Int) (f : Int → Option Ent) (id : Int) : Ent × Int := if hasV n id then (match f id with | some x => (x, 0) | none => ((0, 0, 0), 6)) else ((0, 0, 0), 2)
theorem encE_un (x : Ent) : Value.agg #[.int .u64 x.1, .int .u32 x.2.1, .int .u32 x.2.2] = encE x := rfl
set_option maxRecDepth 100000 in
set_option maxHeartbeats 1000000 in
theorem qfind_at {q p bm : Nat} {Fh : List Nat} {n : Int} {S : Items} {f : Int → Option Ent} {c : Nat} {fl ld : Int} (id : Int) (w : World) (h : QRaw w q p bm Fh n S f c fl ld) (hid : (Lit.int .i64 id).wf = true) :
    Calls Try.prog 52 #[.pointer (some ⟨q, 0, none⟩), .int .i64 id] w fun e w' => e = .returned (.tuple #[.agg #[.int .u64 (qfindV n f id).1.1, .int .u32 (qfindV n f id).1.2.1, .int .u32 (qfindV n f id).1.2.2], .int .i64 (qfindV n f id).2]) ∧ Below w.heap.size w w' := by
  have hW := below_a w (.cells #[.int .u64 0, .int .u32 0, .int .u32 0] 39)
  have h' := h.below hW
  have c1 := h'.c1
  have c2 := h'.c2
  have A1 := Lib.hid (qsome_at q n _ c1 h.pos)
  have hlk := (h'.map.look elemE undE trivial zeroE hid).1
  clear h h' hW
  unfold qfindV
  by_cases hh : 0 ≤ id ∧ id < n
  · rw [show hasV n id = true from decide_eq_true hh]
    obtain ⟨h0, h1⟩ := hh
    have z1 : decide (id < 0) = false := decide_eq_false (by omega)
    have z1' : (id < 0) = False := eq_false (by omega)
    have z2 : decide (id ≥ n) = false := decide_eq_false (by omega)
    have z2' : decide (n ≤ id) = false := decide_eq_false (by omega)
    have z2q : (n ≤ id) = False := eq_false (by omega)
    cases hf : f id with
    | none =>
      rw [hf] at hlk
      simp only [Option.getD_none, Option.isSome_none, encE] at hlk
      go_enter Try.func52, Try.ntmps52
      go_wp2_with fail
      refine A1.out.mono ?_; rintro e w5 ⟨rfl, rfl⟩
      go_wp2_with fail
      refine bodyPost_ret (v := .tuple #[.agg #[.int .u64 0, .int .u32 0, .int .u32 0], .int .i64 6]) (by simp [results, Try.results52, go_sem]) rfl ⟨rfl, ?_⟩
      repeat (first | exact Below.refl _ _ | refine Below.step ?_ (by assumption) | refine Below.setCell ?_ (by first | (simp; done) | (simp; omega) | omega) _ | refine Below.allocS ?_ _ | refine Below.drew ?_ | refine below_drewN ?_ _)
    | some x =>
      rw [hf] at hlk
      simp only [Option.getD_some, Option.isSome_some, encE] at hlk
      go_enter Try.func52, Try.ntmps52
      go_wp2_with fail
      refine A1.out.mono ?_; rintro e w5 ⟨rfl, rfl⟩
      go_wp2_with fail
      refine bodyPost_ret (v := .tuple #[.agg #[.int .u64 x.1, .int .u32 x.2.1, .int .u32 x.2.2], .int .i64 0]) (by simp [results, Try.results52, go_sem]) rfl ⟨rfl, ?_⟩
      repeat (first | exact Below.refl _ _ | refine Below.step ?_ (by assumption) | refine Below.setCell ?_ (by first | (simp; done) | (simp; omega) | omega) _ | refine Below.allocS ?_ _ | refine Below.drew ?_ | refine below_drewN ?_ _)
  · rw [show hasV n id = false from decide_eq_false hh]
    clear hlk
    by_cases h0 : id < 0
    · have z1 : decide (id < 0) = true := decide_eq_true h0
      clear hh
      go_enter Try.func52, Try.ntmps52
      go_wp2_with fail
      refine A1.out.mono ?_; rintro e w5 ⟨rfl, rfl⟩
      go_wp2_with fail
      refine bodyPost_ret (v := .tuple #[.agg #[.int .u64 0, .int .u32 0, .int .u32 0], .int .i64 2]) (by simp [results, Try.results52, go_sem]) rfl ⟨rfl, ?_⟩
      repeat (first | exact Below.refl _ _ | refine Below.step ?_ (by assumption) | refine Below.setCell ?_ (by first | (simp; done) | (simp; omega) | omega) _ | refine Below.allocS ?_ _ | refine Below.drew ?_ | refine below_drewN ?_ _)
    · have z1 : decide (id < 0) = false := decide_eq_false h0
      have z2 : decide (n ≤ id) = true := decide_eq_true (by omega)
      have z2' : decide (id ≥ n) = true := decide_eq_true (by omega)
      clear hh h0
      go_enter Try.func52, Try.ntmps52
      go_wp2_with fail
      refine A1.out.mono ?_; rintro e w5 ⟨rfl, rfl⟩
      go_wp2_with fail
      refine bodyPost_ret (v := .tuple #[.agg #[.int .u64 0, .int .u32 0, .int .u32 0], .int .i64 2]) (by simp [results, Try.results52, go_sem]) rfl ⟨rfl, ?_⟩
      repeat (first | exact Below.refl _ _ | refine Below.step ?_ (by assumption) | refine Below.setCell ?_ (by first | (simp; done) | (simp; omega) | omega) _ | refine Below.allocS ?_ _ | refine Below.drew ?_ | refine below_drewN ?_ _)
/-- what rise makes of a floor -/
def riseF (S : Items) (fl : Int) : Int := match S with | [] => fl | x :: _ => max fl x.2
set_option maxRecDepth 100000 in
set_option maxHeartbeats 1000000 in
theorem rise_at {q p bm : Nat} {Fh : List Nat} {n : Int} {S : Items} {f : Int → Option Ent} {c : Nat} {fl ld : Int} (w : World) (h : QRaw w q p bm Fh n S f c fl ld) :
    Calls Try.prog 54 #[.pointer (some ⟨q, 0, none⟩)] w fun e w' => e = .returned (.tuple #[]) ∧ QRaw w' q p bm Fh n S f c (riseF S fl) ld ∧ Kept [q] w w' := by
  have HQ := Lib.hid h
  have c0 := h.c0
  have A1 := Lib.hid (Least_at w h.heap)
  clear h
  cases S with
  | nil =>
    go_enter Try.func54, Try.ntmps54
    go_wp2_with fail
    refine A1.out.mono ?_; rintro e w5 ⟨rfl, hg5⟩
    rw [show leastV ([] : Items) = .tuple #[.agg #[.int .i64 0, .int .u64 0], .bool false] from rfl]
    have HB := Lib.hid hg5.below
    clear hg5
    go_wp2_with fail
    go_end0
    have hb := Below.step HB.out (below_a w5 (.cells #[.int .i64 0, .int .u64 0] 122))
    exact ⟨rfl, HQ.out.below hb, Kept.of hb⟩
  | cons x r =>
    go_enter Try.func54, Try.ntmps54
    go_wp2_with fail
    refine A1.out.mono ?_; rintro e w5 ⟨rfl, hg5⟩
    rw [show leastV (x :: r : Items) = .tuple #[.agg #[.int .i64 x.1, .int .u64 x.2], .bool true] from rfl]
    have hb := Below.step hg5.below (below_a w5 (.cells #[.int .i64 x.1, .int .u64 x.2] 122))
    have HQ5 := Lib.hid (HQ.out.below hb)
    have HB := Lib.hid hb
    have c3 := HQ5.out.c3
    have f3 := HQ5.out.fr 3
    have y1 := cell_nw w5 #[.int .i64 x.1, .int .u64 x.2] 122 1 _ rfl
    clear hg5 c0 hb
    go_wp2_with fail
    generalize w5.heap.size = b5 at *
    generalize w5.alloc (.cells #[.int .i64 x.1, .int .u64 x.2] 122) = w6 at *
    go_region
    go_wp2_with fail
    obtain ⟨h1, h2⟩ := (HQ5.out.below (Below.refl w6.heap.size w6).drew).floored (max fl x.2)
    go_end0
    exact ⟨rfl, h1, ((Kept.of HB.out).drew).trans h2⟩
end Go.Proofs.Ytfgmglghlapbcaa
