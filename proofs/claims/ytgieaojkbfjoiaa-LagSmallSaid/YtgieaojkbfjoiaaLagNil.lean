/-
  The methods of a meter that is none: nil, or the zero value.
-/
import Derived.Test.YtgieaojkbfjoiaaLagTellsW
namespace Go.Proofs.Ytgieaojkbfjoiaa
open Go.RowKit Go.Maps Go.IntWalk Go.Lib Go.Sort
set_option linter.unusedVariables false
/-- a meter that is none -/
def NoMeter (w : World) (v : Value) : Prop := v = .pointer none ∨ ∃ b, v = .pointer (some ⟨b, 0, none⟩) ∧ w.cell? ⟨b, 0, none⟩ = some (.slice none 0 0)
theorem NoMeter.later {w w' : World} {v : Value} (h : NoMeter w v) (hb : Below w.heap.size w w') : NoMeter w' v := h.imp id fun ⟨b, e, hc⟩ => ⟨b, e, cell_later hb hc⟩
set_option maxRecDepth 100000 in
set_option maxHeartbeats 400000 in
theorem some_no (v : Value) (w : World) (h : NoMeter w v) : Calls Try.prog 27 #[v] w fun e w' => e = .returned (.bool false) ∧ w = w' := by
  rcases h with rfl | ⟨b, rfl, hc⟩
  · go_enter Try.func27, Try.ntmps27
    go_wp2
    go_ret
    exact ⟨rfl, rfl⟩
  · go_enter Try.func27, Try.ntmps27
    go_wp2
    go_ret
    exact ⟨rfl, rfl⟩
set_option maxRecDepth 100000 in
set_option maxHeartbeats 400000 in
theorem find_no (v : Value) (w : World) (h : NoMeter w v) : Calls Try.prog 26 #[v, .int .i64 1] w fun e w' => e = .returned (.tuple #[.pointer none, .bool false]) ∧ w = w' := by
  have A0 := Lib.hid (some_no v w h)
  clear h
  go_enter Try.func26, Try.ntmps26
  go_wp2_with fail
  refine A0.out.mono ?_; rintro e w1 ⟨rfl, rfl⟩
  go_wp2_with fail
  go_ret2
  exact ⟨rfl, rfl⟩
set_option maxRecDepth 100000 in
set_option maxHeartbeats 400000 in
theorem Total_no (v : Value) (w : World) (h : NoMeter w v) : Calls Try.prog 18 #[v] w fun e w' => e = .returned (.int .i64 0) ∧ w = w' := by
  have A0 := Lib.hid (some_no v w h)
  clear h
  go_enter Try.func18, Try.ntmps18
  go_wp2_with fail
  refine A0.out.mono ?_; rintro e w1 ⟨rfl, rfl⟩
  go_wp2_with fail
  go_ret
  exact ⟨rfl, rfl⟩
set_option maxRecDepth 100000 in
set_option maxHeartbeats 400000 in
theorem Weight_no (v : Value) (w : World) (h : NoMeter w v) : Calls Try.prog 25 #[v] w fun e w' => e = .returned (.int .i64 0) ∧ w = w' := by
  have A0 := Lib.hid (some_no v w h)
  clear h
  go_enter Try.func25, Try.ntmps25
  go_wp2_with fail
  refine A0.out.mono ?_; rintro e w1 ⟨rfl, rfl⟩
  go_wp2_with fail
  go_ret
  exact ⟨rfl, rfl⟩
set_option maxRecDepth 100000 in
set_option maxHeartbeats 400000 in
theorem Spread_no (v : Value) (w : World) (h : NoMeter w v) : Calls Try.prog 24 #[v] w fun e w' => e = .returned (.tuple #[.int .i64 0, .int .i64 0]) ∧ w = w' := by
  have A0 := Lib.hid (some_no v w h)
  clear h
  go_enter Try.func24, Try.ntmps24
  go_wp2_with fail
  refine A0.out.mono ?_; rintro e w1 ⟨rfl, rfl⟩
  go_wp2_with fail
  go_ret2
  exact ⟨rfl, rfl⟩
set_option maxRecDepth 100000 in
set_option maxHeartbeats 400000 in
theorem Until_no (v : Value) (w : World) (h : NoMeter w v) : Calls Try.prog 17 #[v, .int .i64 1] w fun e w' => e = .returned (.tuple #[.int .i64 0, .int .i64 1]) ∧ w = w' := by
  have A0 := Lib.hid (some_no v w h)
  clear h
  go_enter Try.func17, Try.ntmps17
  go_wp2_with fail
  refine A0.out.mono ?_; rintro e w1 ⟨rfl, rfl⟩
  go_wp2_with fail
  go_ret2
  exact ⟨rfl, rfl⟩
set_option maxRecDepth 100000 in
set_option maxHeartbeats 400000 in
theorem Next_no (v : Value) (w : World) (h : NoMeter w v) : Calls Try.prog 19 #[v] w fun e w' => e = .returned (.int .i64 0) ∧ w = w' := by
  have A0 := Lib.hid (some_no v w h)
  clear h
  go_enter Try.func19, Try.ntmps19
  go_wp2_with fail
  refine A0.out.mono ?_; rintro e w1 ⟨rfl, rfl⟩
  go_wp2_with fail
  go_ret
  exact ⟨rfl, rfl⟩
set_option maxRecDepth 100000 in
set_option maxHeartbeats 400000 in
theorem Ran_no (v : Value) (w : World) (h : NoMeter w v) : Calls Try.prog 23 #[v, .int .i64 1] w fun e w' => e = .returned (.tuple #[.int .i64 0, .bool false]) ∧ w = w' := by
  have A0 := Lib.hid (find_no v w h)
  clear h
  go_enter Try.func23, Try.ntmps23
  go_wp2_with fail
  refine A0.out.mono ?_; rintro e w1 ⟨rfl, rfl⟩
  go_wp2_with fail
  go_ret2
  exact ⟨rfl, rfl⟩
set_option maxRecDepth 100000 in
set_option maxHeartbeats 400000 in
theorem Lag_no (v : Value) (w : World) (h : NoMeter w v) : Calls Try.prog 13 #[v, .int .i64 1] w fun e w' => e = .returned (.tuple #[.int .i64 0, .bool false]) ∧ w = w' := by
  have A0 := Lib.hid (find_no v w h)
  clear h
  go_enter Try.func13, Try.ntmps13
  go_wp2_with fail
  refine A0.out.mono ?_; rintro e w1 ⟨rfl, rfl⟩
  go_wp2_with fail
  go_ret2
  exact ⟨rfl, rfl⟩
set_option maxRecDepth 100000 in
set_option maxHeartbeats 400000 in
theorem Run_no (v : Value) (w : World) (h : NoMeter w v) : Calls Try.prog 12 #[v, .int .i64 1, .int .i64 (-1)] w fun e w' => e = .returned (.int .i64 1) ∧ w = w' := by
  have A0 := Lib.hid (find_no v w h)
  have A1 := Lib.hid (some_no v w h)
  clear h
  go_enter Try.func12, Try.ntmps12
  go_wp2_with fail
  refine A0.out.mono ?_; rintro e w1 ⟨rfl, rfl⟩
  go_wp2_with fail
  refine A1.out.mono ?_; rintro e w1 ⟨rfl, rfl⟩
  go_wp2_with fail
  go_ret
  exact ⟨rfl, rfl⟩
set_option maxRecDepth 100000 in
set_option maxHeartbeats 400000 in
theorem Order_no (v : Value) (w : World) (h : NoMeter w v) : Calls Try.prog 15 #[v] w fun e w' => e = .returned (.slice none 0 0) ∧ Below w.heap.size w w' := by
  rcases h with rfl | ⟨b, rfl, hc⟩
  · have hb0 := below_a w (.cells #[.pointer none] 25)
    have A0 := Lib.hid (some_no _ (w.alloc (.cells #[.pointer none] 25)) (Or.inl rfl))
    go_enter Try.func15, Try.ntmps15
    go_wp2_with fail
    refine A0.out.mono ?_; rintro e w1 ⟨rfl, rfl⟩
    go_wp2_with fail
    go_ret
    exact ⟨rfl, hb0⟩
  · have hb0 := below_a w (.cells #[.pointer (some ⟨b, 0, none⟩)] 25)
    have A0 := Lib.hid (some_no _ (w.alloc (.cells #[.pointer (some ⟨b, 0, none⟩)] 25)) (Or.inr ⟨b, rfl, cell_later hb0 hc⟩))
    clear hc
    go_enter Try.func15, Try.ntmps15
    go_wp2_with fail
    refine A0.out.mono ?_; rintro e w1 ⟨rfl, rfl⟩
    go_wp2_with fail
    go_ret
    exact ⟨rfl, hb0⟩
/-- tells at every list of tasks -/
theorem tells_all (a : Option Addr) (n cap : Nat) (l : List (Int × Int)) (sa : Option Addr) (sn sc : Nat) (ss : List (Int × Int)) (id : Int) (w : World) (hn : l.length = n) (h1 : n ≤ 2000) (hc : cap ≤ 9223372036854775807) (hz : a = none → n = 0 ∧ cap = 0) (h : 0 < n → ∃ b off, a = some ⟨b, off, none⟩ ∧ PairsAt w b off l)
    (hs : StepsIn w sa sn ss) (hid : (Lit.int .i64 id).wf = true) :
    Calls Try.prog 21 #[.slice a n cap, .slice sa sn sc, .int .i64 id] w fun e w' => e = .returned (.bool true) ∧ Below w.heap.size w w' := by
  by_cases h0 : 0 < n
  · obtain ⟨b, off, rfl, hp⟩ := h h0
    exact tells_some b off cap n l sa sn sc ss id w hp hn h0 h1 hs hid
  · have : n = 0 := by omega
    subst this
    rcases a with _ | x
    · obtain ⟨_, rfl⟩ := hz rfl
      exact tells_none _ id w
    · exact tells_zero x cap _ id w hc
end Go.Proofs.Ytgieaojkbfjoiaa
