/-
  The walks of layer 39 (lag): Shares, made.
-/
import Derived.Test.YtgieaojkbfjoiaaLagA
namespace Go.Proofs.Ytgieaojkbfjoiaa
open Go.RowKit Go.Maps Go.IntWalk Go.Lib Go.Sort
set_option linter.unusedVariables false
/-- a slice of words -/
structure WordsIn (w : World) (a : Option Addr) (n cap : Nat) (ws : List Int) : Prop where
  row : RowAt .u16 w a n ws
  le : n ≤ cap
  max : cap ≤ 9223372036854775807
  none : a = none → cap = 0
  fit : ∀ x ∈ ws, 0 ≤ x ∧ x ≤ 65535
theorem WordsIn.later {w w' : World} {a : Option Addr} {n cap : Nat} {ws : List Int} (h : WordsIn w a n cap ws) (hb : Below w.heap.size w w') : WordsIn w' a n cap ws := ⟨h.row.later hb, h.le, h.max, h.none, h.fit⟩
/-- the tasks that are made of words, after k rounds -/
def shK (ws : List Int) (k : Nat) : List (Int × Int) := if k = 0 then [(1, 1)] else (ws.take k).mapIdx fun i x => ((i : Int) + 1, 1 + x)
def shV (ws : List Int) : List (Int × Int) := shK ws (min ws.length 12)
def flatP (l : List (Int × Int)) : List Value := l.flatMap fun x => [.int .i64 x.1, .int .i64 x.2]
theorem flatP_append (a b : List (Int × Int)) : flatP (a ++ b) = flatP a ++ flatP b := by simp [flatP]
theorem flatP_len (l : List (Int × Int)) : (flatP l).length = l.length * 2 := by
  induction l with
  | nil => rfl
  | cons x r ih => simp only [flatP, List.flatMap_cons, List.length_append, List.length_cons] at ih ⊢; rw [ih]; simp; omega
theorem shK_len (ws : List Int) (k : Nat) (h : k ≤ ws.length) : (shK ws k).length = max k 1 := by
  unfold shK; split
  · rename_i h0; subst h0; rfl
  · rw [List.length_mapIdx, List.length_take]; omega
theorem shK_zero {ws : List Int} {x : Int} (hx : ws[0]? = some x) : shK ws 1 = [(1, 1 + x)] := by
  unfold shK
  rw [if_neg (by omega), List.take_add_one, hx]; rfl
theorem shK_succ {ws : List Int} {k : Nat} {x : Int} (hx : ws[k]? = some x) (hk : 0 < k) : shK ws (k + 1) = shK ws k ++ [((k : Int) + 1, 1 + x)] := by
  have hl : k < ws.length := (List.getElem?_eq_some_iff.1 hx).1
  unfold shK
  rw [if_neg (by omega), if_neg (by omega), List.take_add_one, hx, Option.toList_some, List.mapIdx_append]
  simp [List.length_take, Nat.min_eq_left (Nat.le_of_lt hl)]
theorem infoShare : (Try.prog.info? 28).map (fun i => (i.zero, i.size, i.bytes)) = some (some (.agg #[.int .i64 0, .int .i64 0]), 2, 16) := by kernel_rfl
/-- what Shares returns -/
def SharesP (ws : List Int) (w : World) (e : Ending) (w' : World) : Prop :=
  ∃ b cap, e = .returned (.slice (some ⟨b, 0, none⟩) (shV ws).length cap) ∧ w'.ownsRow w.heap.size 28 2 (.slice (some ⟨b, 0, none⟩) (shV ws).length cap) (shV ws).length (flatP (shV ws)) ∧ Below w.heap.size w w'
set_option maxRecDepth 100000 in
set_option maxHeartbeats 1000000 in
theorem Shares_nil (a : Option Addr) (cap : Nat) (w : World) (h : WordsIn w a 0 cap []) : Calls Try.prog 10 #[.slice a 0 cap] w (SharesP [] w) := by
  have hm := h.max
  have hr : ∀ W : World, W.alloc (.cells #[.int .i64 1, .int .i64 1] 28) = W.alloc (.cells #[.int .i64 1, .int .i64 1] 28) := fun _ => rfl
  clear hr
  rcases a with _ | a
  · have hc := h.none rfl
    subst hc
    clear h
    go_enter Try.func10, Try.ntmps10
    go_wp2_with fail
    refine wp_loop_rounds 1 ?_
    rw [rounds_succ]
    go_wp2_with fail
    go_ret
    exact ⟨w.heap.size, 1, rfl, World.ownsRow_lit w #[.int .i64 1, .int .i64 1] 1 (Nat.le_refl _) (by decide) rfl, below_a _ _⟩
  · clear h
    have e0 : min (0 : Int) 12 = 0 := by decide
    go_enter Try.func10, Try.ntmps10
    go_wp2_with fail
    refine wp_loop_rounds 1 ?_
    rw [rounds_succ]
    go_wp2_with fail
    go_ret
    exact ⟨w.heap.size, 1, rfl, World.ownsRow_lit w #[.int .i64 1, .int .i64 1] 1 (Nat.le_refl _) (by decide) rfl, below_a _ _⟩
/-- the loop of Shares -/
structure ShI (ws : List Int) (w : World) (k : Nat) (v : Value) (wr : World) : Prop where
  own : wr.ownsRow w.heap.size 28 2 v (shK ws k).length (flatP (shK ws k))
  bel : Below w.heap.size w wr
set_option maxRecDepth 100000 in
set_option maxHeartbeats 1000000 in
theorem Shares_some (a : Option Addr) (n cap : Nat) (ws : List Int) (w : World) (h : WordsIn w a n cap ws) (h0 : 0 < n) : Calls Try.prog 10 #[.slice a n cap] w (SharesP ws w) := by
  obtain ⟨i0, hi, hz0, hz1, hz2⟩ := info_parts infoShare
  have hmax := h.max
  have hle := h.le
  obtain ⟨b, off, rfl, hc⟩ := h.row.2 h0
  obtain ⟨m, hm⟩ : ∃ m : Nat, m = min n 12 := ⟨_, rfl⟩
  have e0 : min (n : Int) 12 = (m : Int) := by omega
  have hmn : m ≤ n := by omega
  have hm12 : m ≤ 12 := by omega
  have hm0 : 0 < m := by omega
  have HM := Lib.hid hm
  have HL := Lib.hid h.row.1
  have HC := Lib.hid hc
  have HF := Lib.hid h.fit
  clear h hc hm
  go_enter Try.func10, Try.ntmps10
  go_wp2_with fail
  have hI0 : ShI ws w 0 (.slice (some ⟨w.heap.size, 0, none⟩) 1 1) (w.alloc (.cells #[.int .i64 1, .int .i64 1] 28)) := ⟨World.ownsRow_lit w #[.int .i64 1, .int .i64 1] 1 (Nat.le_refl _) (by decide) rfl, below_a _ _⟩
  generalize w.alloc (.cells #[.int .i64 1, .int .i64 1] 28) = wo at *
  go_loopw [3, 15] (fun v i wr => ∃ k : Nat, k ≤ m ∧ i = .int .i64 k ∧ ShI ws w k v wr) (fun _ i _ => m - (intOf i).toNat)
  case atStart => exact ⟨0, Nat.zero_le _, rfl, hI0⟩
  case round =>
    obtain ⟨k, hk, rfl, hI⟩ := hrel
    clear hI0
    by_cases hlt : k < m
    · obtain ⟨x, hx⟩ : ∃ x, ws[k]? = some x := ⟨_, List.getElem?_eq_getElem (by rw [HL.out]; omega)⟩
      have q0 := cell_later hI.bel (HC.out k x hx)
      have hfx := HF.out x (List.mem_of_getElem? hx)
      have hk0 : (0 : Int) ≤ (k : Int) := by omega
      have hkm : (k : Int) < (m : Int) := by omega
      have HX := Lib.hid hx
      have HI := Lib.hid hI
      have hbase := hI.bel.size
      have hlen := shK_len ws k (by rw [HL.out]; omega)
      have hown := hI.own
      obtain ⟨L, hL⟩ : ∃ L, (shK ws k).length = L + 1 := ⟨(shK ws k).length - 1, by omega⟩
      have hLm : L ≤ 12 := by omega
      rw [hL] at hown
      obtain ⟨g, capv, rfl⟩ := own_some hown
      have hgl := hown.lt g rfl
      have HO := Lib.hid hown
      clear hx hI hown
      by_cases hz : k = 0
      · subst hz
        have hL1 : L = 0 := by simp at hlen; omega
        subst hL1
        simp only [Nat.add_zero] at q0
        have o0 := HO.out.cellAt 0 (by decide)
        have o1 := HO.out.cellAt 1 (by decide)
        have f0 := HO.out.frozenAt 0
        have f1 := HO.out.frozenAt 1
        rw [show flatP (shK ws 0) = [.int .i64 1, .int .i64 1] from rfl] at o0 o1
        simp only [List.getElem?_cons_zero, List.getElem?_cons_succ] at o0 o1
        have o0' := cell_al (.cells #[.int .i64 1, .int .i64 (1 + x)] 28) o0
        have o1' := cell_al (.cells #[.int .i64 1, .int .i64 (1 + x)] 28) o1
        have HFI := Lib.hid (show flatP (shK ws 1) = [.int .i64 1, .int .i64 (1 + x)] by rw [shK_zero HX.out]; rfl)
        clear hk0 hlen hL
        go_wp2_with fail
        go_roundw
        case rel =>
          have s1 := (HO.out.stored 0 (.int .i64 1)).1
          have s2 := ((s1.stored 1 (.int .i64 (1 + x))).1).alloc (.cells #[.int .i64 1, .int .i64 (1 + x)] 28)
          refine ⟨1, by omega, rfl, ⟨?_, ?_⟩⟩
          · rw [HFI.out, shK_zero HX.out]; exact s2
          · exact Below.allocS ((HI.out.bel.setCell (p := ⟨g, 0, none⟩) hgl.1 _).setCell (p := ⟨g, 1, none⟩) hgl.1 _) _
        case measure => simp [intOf]; omega
      · have e1 : ((k : Int) == 0) = false := by simp; omega
        have hs := shK_succ HX.out (by omega)
        have HS := Lib.hid hs
        clear hs hlen
        go_wp2_with (at_builtin; refine wpList_append_own _ rfl (.tmp 31) (.tmp 33) 23 rfl w.heap.size 28 i0 (.agg #[.int .i64 0, .int .i64 0]) 2 16 Try.underlying23 hi hz0 hz1 hz2 rfl (by decide) _ _ _ rfl ((HO.out.alloc _).alloc _) ⟨wr.heap.size + 1, 0, none⟩ 1 1 [.int .i64 ((k : Int) + 1), .int .i64 (1 + x)] rfl rfl ?c1 ?c2 ?c3 ?c4 ?c5 ?_)
        case c1 =>
          intro j u hj
          match j, hj with
          | 0, hj => simp at hj; subst hj; go_simp
          | 1, hj => simp at hj; subst hj; go_simp
          | j + 2, hj => simp at hj
        case c2 => intro u hu; simp at hu; rcases hu with rfl | rfl <;> rfl
        case c3 => unfold maxLen; omega
        case c4 => omega
        case c5 => simp; omega
        intro v' w1 hown1 hgrow1 _
        obtain ⟨g', cap', rfl⟩ := own_some hown1
        have hb1 : Below w.heap.size w w1 := (Below.allocS (Below.allocS HI.out.bel _) _).grown hgrow1 (by simp; omega) (fun i hi => by cases hi; exact hgl.1)
        have HO1 := Lib.hid hown1
        clear hown1 hgrow1
        go_wp2_with fail
        go_roundw
        case rel =>
          refine ⟨k + 1, by omega, by go_num, ⟨?_, hb1⟩⟩
          rw [HS.out, flatP_append, List.length_append, hL]
          exact HO1.out
        case measure => simp [intOf]; omega
    · obtain rfl : k = m := by omega
      have hlen := shK_len ws k (by rw [HL.out]; omega)
      have hown := hI.own
      have hV : shK ws k = shV ws := by unfold shV; rw [HL.out, ← HM.out]
      obtain ⟨L, hL⟩ : ∃ L, (shK ws k).length = L + 1 := ⟨(shK ws k).length - 1, by omega⟩
      rw [hL] at hown
      obtain ⟨g, capv, rfl⟩ := own_some hown
      rw [← hL, hV] at hown
      rw [hV] at hL
      have hb := hI.bel
      have HO := Lib.hid hown
      have HLL := Lib.hid hL
      clear hown hI hlen hV hL
      go_wp2_with fail
      go_ret
      refine ⟨g, capv, ?_, HO.out, hb⟩
      rw [HLL.out]; rfl
theorem Shares_any (a : Option Addr) (n cap : Nat) (ws : List Int) (w : World) (h : WordsIn w a n cap ws) : Calls Try.prog 10 #[.slice a n cap] w (SharesP ws w) := by
  by_cases h0 : n = 0
  · subst h0
    have : ws = [] := List.eq_nil_of_length_eq_zero h.row.1
    subst this
    exact Shares_nil a cap w h
  · exact Shares_some a n cap ws w h (by omega)
theorem flatP_at : ∀ (l : List (Int × Int)) (k : Nat) (x : Int × Int), l[k]? = some x → (flatP l)[k * 2]? = some (.int .i64 x.1) ∧ (flatP l)[k * 2 + 1]? = some (.int .i64 x.2)
  | [], k, x, h => by simp at h
  | y :: r, 0, x, h => by simp at h; subst h; exact ⟨rfl, rfl⟩
  | y :: r, k + 1, x, h => by
    have := flatP_at r k x (by simpa using h)
    have e : flatP (y :: r) = .int .i64 y.1 :: .int .i64 y.2 :: flatP r := rfl
    rw [e, show (k + 1) * 2 = k * 2 + 1 + 1 by omega]
    exact this
theorem own_pairs {w : World} {base g cap : Nat} {l : List (Int × Int)} (h : w.ownsRow base 28 2 (.slice (some ⟨g, 0, none⟩) l.length cap) l.length (flatP l)) : PairsIn w (.slice (some ⟨g, 0, none⟩) l.length cap) l := by
  refine ⟨_, cap, rfl, Or.inr ⟨g, 0, rfl, fun k x hx => ?_⟩⟩
  have hk : k < l.length := (List.getElem?_eq_some_iff.1 hx).1
  obtain ⟨a, b⟩ := flatP_at l k x hx
  rw [Nat.zero_add, h.cellAt _ (by omega), h.cellAt _ (by omega)]
  exact ⟨a, b⟩
end Go.Proofs.Ytgieaojkbfjoiaa
