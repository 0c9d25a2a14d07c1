/-
  Layer 18 (heap): the examples of the chapter.
-/
import Derived.Test.YtpbaegdmjmickaaHeapY
import Derived.Test.YtpbaegdmjmickaaHeapV
import Derived.Test.YtpbaegdmjmickaaHeapZ
namespace Go.Proofs.Ytpbaegdmjmickaa
open Go.RowKit Go.Maps Go.IntWalk Go.Lib
set_option linter.unusedVariables false
/-- from one world to another: the heap's blocks and new ones alone change -/
structure Step (F : List Nat) (w : World) (F' : List Nat) (w' : World) : Prop where
  kept : Kept F w w'
  new : ∀ b ∈ F', b ∈ F ∨ w.heap.size ≤ b
theorem Step.cell {F F' : List Nat} {w w' : World} (h : Step F w F' w') {b o : Nat} {v : Value} (hb : b ∉ F) (hc : w.cell? ⟨b, o, none⟩ = some v) : w'.cell? ⟨b, o, none⟩ = some v := h.kept.cellAt hc hb
theorem Step.off {F F' : List Nat} {w w' : World} (h : Step F w F' w') {b : Nat} (hb : b ∉ F) (hl : b < w.heap.size) : b ∉ F' := fun m => by
  rcases h.new b m with q | q
  · exact hb q
  · omega
theorem Step.of {F : List Nat} {w w' : World} (h : Below w.heap.size w w') : Step F w F w' := ⟨Kept.of h, fun b hb => Or.inl hb⟩
theorem Step.trans {F F' F2 : List Nat} {a b c : World} (h : Step F a F' b) (k : Step F' b F2 c) : Step F a F2 c := by
  refine ⟨⟨k.kept.os.trans h.kept.os, k.kept.tape.trans h.kept.tape, k.kept.output.trans h.kept.output, Nat.le_trans h.kept.size k.kept.size, fun i hi hn => ?_⟩, fun x hx => ?_⟩
  · rw [k.kept.block i (Nat.lt_of_lt_of_le hi h.kept.size) (h.off hn hi)]
    exact h.kept.block i hi hn
  · rcases k.new x hx with q | q
    · exact h.new x q
    · exact Or.inr (Nat.le_trans h.kept.size q)
theorem Step.below {F F' : List Nat} {w w' : World} {B : Nat} (h : Step F w F' w') (hF : ∀ b ∈ F, B ≤ b) (hB : B ≤ w.heap.size) : Below B w w' ∧ ∀ b ∈ F', B ≤ b := ⟨h.kept.below hF hB, fun b hb => by rcases h.new b hb with q | q; exact hF b q; omega⟩
theorem After.split {w w' : World} {p : Nat} {F : List Nat} {n : Int} {S : Items} (h : After w p F n S w') : ∃ F', HeapIn w' p F' n S ∧ Step F w F' w' := by
  obtain ⟨F', h1, h2, h3⟩ := h
  exact ⟨F', h1, h2, h3⟩
/-- items in memory that no heap's block holds -/
def Held (F : List Nat) (w : World) (v : Value) (S : Items) : Prop := ∃ a cap, v = .slice a S.length cap ∧ (S = [] ∨ ∃ b off, a = some ⟨b, off, none⟩ ∧ b ∉ F ∧ ∀ k, k < S.length → w.cell? ⟨b, off + k * 2, none⟩ = some (.int .i64 S[k]!.1) ∧ w.cell? ⟨b, off + k * 2 + 1, none⟩ = some (.int .u64 S[k]!.2))
theorem Held.items {F : List Nat} {w : World} {v : Value} {S : Items} (h : Held F w v S) : ItemsAt w v S := by
  obtain ⟨a, cap, e, h⟩ := h
  exact ⟨a, cap, e, h.imp id fun ⟨b, off, h1, _, h2⟩ => ⟨b, off, h1, h2⟩⟩
theorem Held.step {F F' : List Nat} {w w' : World} {v : Value} {S : Items} (h : Held F w v S) (hs : Step F w F' w') : Held F' w' v S := by
  obtain ⟨a, cap, e, h⟩ := h
  refine ⟨a, cap, e, ?_⟩
  rcases h with h | ⟨b, off, h1, hb, h2⟩
  · exact Or.inl h
  · by_cases h0 : S.length = 0
    · exact Or.inl (List.eq_nil_of_length_eq_zero h0)
    · have hl := lt_of_cell (h2 0 (by omega)).1
      exact Or.inr ⟨b, off, h1, hs.off hb hl, fun k hk => ⟨hs.cell hb (h2 k hk).1, hs.cell hb (h2 k hk).2⟩⟩
theorem RowI.held {F : List Nat} {w : World} {base : Nat} {v : Value} {S : Items} (h : RowI w base v S) (hF : ∀ b ∈ F, b < base) : Held F w v S := by
  obtain ⟨a, cap, rfl, h⟩ := h
  refine ⟨a, cap, rfl, ?_⟩
  rcases h with h | ⟨g, rfl, hg, hc⟩
  · exact Or.inl h
  · exact Or.inr ⟨g, 0, rfl, fun m => by have := hF g m; omega, fun k hk => by simpa using (hc k hk).1⟩
theorem lit_items (w : World) (S : Items) (t : TypeId) : ItemsAt (w.alloc (.cells (flatI S).toArray t)) (.slice (some ⟨w.heap.size, 0, none⟩) S.length S.length) S := by
  refine ⟨_, _, rfl, Or.inr ⟨w.heap.size, 0, rfl, fun k hk => ?_⟩⟩
  have e := flatI_at (at_get hk)
  rw [Nat.zero_add]
  exact ⟨cell_nw _ _ _ _ _ (by simpa using e.1), cell_nw _ _ _ _ _ (by simpa using e.2)⟩
set_option maxRecDepth 100000 in
set_option maxHeartbeats 4000000 in
theorem awake_any (w : World) : Calls Try.prog 14 #[] w fun e w' => e = .returned (.bool true) ∧ Below w.heap.size w w' := by
  have A1 := Lib.hid (New_in 5 w (by decide) (by decide))
  have A2 := Lib.hid fun p F S id key W h hid hk => Put_at (p := p) (F := F) (n := 5) (S := S) id key W h hid hk
  go_enter Try.func14, Try.ntmps14
  go_wp2_with fail
  refine A1.out.mono ?_
  rintro e w1 ⟨rfl, h1, b1⟩
  have s1 : Below w.heap.size w w1 ∧ ∀ b ∈ [w.heap.size + 1, w.heap.size], w.heap.size ≤ b := ⟨b1, by simp⟩
  generalize [w.heap.size + 1, w.heap.size] = F1 at h1 s1
  have H1 := Lib.hid h1
  have S1 := Lib.hid s1
  clear h1 b1 s1
  go_wp2_with fail
  refine (A2.out _ F1 _ 3 7 w1 H1.out (by decide) (by decide)).mono ?_
  rintro e w2 ⟨rfl, hA⟩
  rw [show putS 5 ([] : Items) 3 7 = [(3, 7)] from by decide] at hA
  rw [show putRes 5 ([] : Items) 3 = 0 from by decide]
  obtain ⟨F2, h2, t2⟩ := hA.split
  have H2 := Lib.hid h2
  have S2 := Lib.hid (show Below w.heap.size w w2 ∧ ∀ b ∈ F2, w.heap.size ≤ b from ⟨S1.out.1.trans (t2.below S1.out.2 S1.out.1.size).1, (t2.below S1.out.2 S1.out.1.size).2⟩)
  clear hA h2 t2
  go_wp2_with fail
  refine (A2.out _ F2 _ 1 9 w2 H2.out (by decide) (by decide)).mono ?_
  rintro e w3 ⟨rfl, hA⟩
  rw [show putS 5 ([(3, 7)] : Items) 1 9 = [(3, 7), (1, 9)] from by decide] at hA
  rw [show putRes 5 ([(3, 7)] : Items) 1 = 0 from by decide]
  obtain ⟨F3, h3, t3⟩ := hA.split
  have H3 := Lib.hid h3
  have S3 := Lib.hid (show Below w.heap.size w w3 ∧ ∀ b ∈ F3, w.heap.size ≤ b from ⟨S2.out.1.trans (t3.below S2.out.2 S2.out.1.size).1, (t3.below S2.out.2 S2.out.1.size).2⟩)
  clear hA h3 t3
  go_wp2_with fail
  refine (A2.out _ F3 _ 4 7 w3 H3.out (by decide) (by decide)).mono ?_
  rintro e w4 ⟨rfl, hA⟩
  rw [show putS 5 ([(3, 7), (1, 9)] : Items) 4 7 = [(3, 7), (4, 7), (1, 9)] from by decide] at hA
  rw [show putRes 5 ([(3, 7), (1, 9)] : Items) 4 = 0 from by decide]
  obtain ⟨F4, h4, t4⟩ := hA.split
  have H4 := Lib.hid h4
  have S4 := Lib.hid (show Below w.heap.size w w4 ∧ ∀ b ∈ F4, w.heap.size ≤ b from ⟨S3.out.1.trans (t4.below S3.out.2 S3.out.1.size).1, (t4.below S3.out.2 S3.out.1.size).2⟩)
  clear hA h4 t4
  go_wp2_with fail
  refine (Least_at w4 H4.out).mono ?_
  rintro e w5 ⟨rfl, hg5⟩
  rw [show leastV ([(3, 7), (4, 7), (1, 9)] : Items) = .tuple #[.agg #[.int .i64 3, .int .u64 7], .bool true] from rfl]
  have H5 := Lib.hid (show HeapIn (w5.alloc (.cells #[.int .i64 3, .int .u64 7] 28)) (w.heap.size + 1) F4 5 [(3, 7), (4, 7), (1, 9)] from H4.out.below (hg5.alloc _).below)
  have S5 := Lib.hid (show Below w.heap.size w (w5.alloc (.cells #[.int .i64 3, .int .u64 7] 28)) ∧ ∀ b ∈ F4, w.heap.size ≤ b from ⟨Below.step S4.out.1 (hg5.alloc _).below, S4.out.2⟩)
  clear hg5
  go_wp2_with fail
  refine (All_at _ H5.out).mono ?_
  rintro e w6 ⟨v6, rfl, hr6, hb6⟩
  have I6 := Lib.hid hr6.items
  have H6 := Lib.hid (H5.out.below hb6)
  have S6 := Lib.hid (show Below w.heap.size w w6 ∧ ∀ b ∈ F4, w.heap.size ≤ b from ⟨Below.step S5.out.1 hb6, S5.out.2⟩)
  clear hr6 hb6
  go_wp2_with fail
  refine (Same_any _ _ _ [(3, 7), (4, 7), (1, 9)] _ (I6.out.later (below_a _ _)) (lit_items w6 [(3, 7), (4, 7), (1, 9)] _) (by decide) (by decide)).mono ?_
  rintro e w7 ⟨rfl, hg7⟩
  rw [sameB_true rfl]
  have H7 := Lib.hid (H6.out.below ((grows_a _ _).trans hg7).below)
  have S7 := Lib.hid (show Below w.heap.size w w7 ∧ ∀ b ∈ F4, w.heap.size ≤ b from ⟨Below.step S6.out.1 ((grows_a _ _).trans hg7).below, S6.out.2⟩)
  clear hg7
  go_wp2_with fail
  refine (Set_at (F := F4) (n := 5) (S := [(3, 7), (4, 7), (1, 9)]) 3 8 w7 H7.out (by decide) (by decide)).mono ?_
  rintro e w8 ⟨rfl, hA⟩
  rw [show setS 5 ([(3, 7), (4, 7), (1, 9)] : Items) 3 8 = [(4, 7), (3, 8), (1, 9)] from by decide] at hA
  rw [show setRes 5 ([(3, 7), (4, 7), (1, 9)] : Items) 3 = 0 from by decide]
  obtain ⟨F8, h8, t8⟩ := hA.split
  have H8 := Lib.hid h8
  have S8 := Lib.hid (show Below w.heap.size w w8 ∧ ∀ b ∈ F8, w.heap.size ≤ b from ⟨S7.out.1.trans (t8.below S7.out.2 S7.out.1.size).1, (t8.below S7.out.2 S7.out.1.size).2⟩)
  clear hA h8 t8
  go_wp2_with fail
  refine (Below_at (1, 8) w8 H8.out).mono ?_
  rintro e w9 ⟨v9, rfl, hr9, hb9⟩
  rw [show belowL ([(4, 7), (3, 8), (1, 9)] : Items) (1, 8) = [(4, 7)] from by decide] at hr9
  have I9 := Lib.hid (show Held F8 w9 v9 [(4, 7)] from hr9.held H8.out.lt)
  have H9 := Lib.hid (H8.out.below hb9)
  have S9 := Lib.hid (show Below w.heap.size w w9 ∧ ∀ b ∈ F8, w.heap.size ≤ b from ⟨Below.step S8.out.1 hb9, S8.out.2⟩)
  clear hr9 hb9
  go_wp2_with fail
  refine (Below_at (4, 8) w9 H9.out).mono ?_
  rintro e w10 ⟨v10, rfl, hr10, hb10⟩
  rw [show belowL ([(4, 7), (3, 8), (1, 9)] : Items) (4, 8) = [(4, 7), (3, 8)] from by decide] at hr10
  have I10 := Lib.hid (show Held F8 w10 v10 [(4, 7), (3, 8)] from hr10.held H9.out.lt)
  have J10 := Lib.hid (show Held F8 w10 v9 [(4, 7)] from I9.out.step (Step.of hb10))
  have H10 := Lib.hid (H9.out.below hb10)
  have S10 := Lib.hid (show Below w.heap.size w w10 ∧ ∀ b ∈ F8, w.heap.size ≤ b from ⟨Below.step S9.out.1 hb10, S9.out.2⟩)
  clear hr10 hb10 I9
  go_wp2_with fail
  refine (Out_at (F := F8) (n := 5) (S := [(4, 7), (3, 8), (1, 9)]) 4 w10 H10.out (by decide)).mono ?_
  rintro e w11 ⟨rfl, hA⟩
  rw [show outS 5 ([(4, 7), (3, 8), (1, 9)] : Items) 4 = [(3, 8), (1, 9)] from by decide] at hA
  rw [show outRes 5 ([(4, 7), (3, 8), (1, 9)] : Items) 4 = 0 from by decide, show outKey 5 ([(4, 7), (3, 8), (1, 9)] : Items) 4 = 7 from by decide]
  obtain ⟨F11, h11, t11⟩ := hA.split
  have H11 := Lib.hid h11
  have I11 := Lib.hid (I10.out.step t11)
  have J11 := Lib.hid (J10.out.step t11)
  have S11 := Lib.hid (show Below w.heap.size w w11 ∧ ∀ b ∈ F11, w.heap.size ≤ b from ⟨S10.out.1.trans (t11.below S10.out.2 S10.out.1.size).1, (t11.below S10.out.2 S10.out.1.size).2⟩)
  clear hA h11 t11 I10 J10
  go_wp2_with fail
  obtain ⟨W11, hW11⟩ : ∃ W, W = w11 := ⟨_, rfl⟩
  subst hW11
  refine (Pop_at (F := F11) (n := 5) (S := [(3, 8), (1, 9)]) W11 H11.out).mono ?_
  rintro e w12 ⟨rfl, hA⟩
  rw [show popV ([(3, 8), (1, 9)] : Items) = .tuple #[.agg #[.int .i64 3, .int .u64 8], .int .i64 0] from rfl]
  obtain ⟨F12, h12, t12⟩ := hA.split
  obtain ⟨W12, hW12⟩ : ∃ W, W = w12.alloc (.cells #[.int .i64 3, .int .u64 8] 28) := ⟨_, rfl⟩
  have hb12 : Below w12.heap.size w12 W12 := by rw [hW12]; exact below_a _ _
  have t122 := t12.trans (Step.of hb12)
  have H12 := Lib.hid (show HeapIn W12 (w.heap.size + 1) F12 5 [(1, 9)] from h12.below hb12)
  have I12 := Lib.hid (I11.out.step t122)
  have J12 := Lib.hid (J11.out.step t122)
  have S12 := Lib.hid (show Below w.heap.size w W12 ∧ ∀ b ∈ F12, w.heap.size ≤ b from ⟨S11.out.1.trans (t122.below S11.out.2 S11.out.1.size).1, (t122.below S11.out.2 S11.out.1.size).2⟩)
  have o12 : w12.heap.size ∉ F12 := fun m => by have := h12.lt _ m; omega
  have p120 : W12.cell? ⟨w12.heap.size, 0, none⟩ = some (.int .i64 3) := by rw [hW12]; exact cell_nw _ _ _ 0 _ rfl
  have p121 : W12.cell? ⟨w12.heap.size, 1, none⟩ = some (.int .u64 8) := by rw [hW12]; exact cell_nw _ _ _ 1 _ rfl
  have lo12 : w12.heap.size < W12.heap.size := lt_of_cell p120
  have HW12 := Lib.hid hW12
  clear hA h12 t12 t122 hb12 hW12
  go_wp2_with fail
  rw [← HW12.out]
  refine (Pop_at (F := F12) (n := 5) (S := [(1, 9)]) W12 H12.out).mono ?_
  rintro e w13 ⟨rfl, hA⟩
  rw [show popV ([(1, 9)] : Items) = .tuple #[.agg #[.int .i64 1, .int .u64 9], .int .i64 0] from rfl]
  obtain ⟨F13, h13, t13⟩ := hA.split
  obtain ⟨W13, hW13⟩ : ∃ W, W = w13.alloc (.cells #[.int .i64 1, .int .u64 9] 28) := ⟨_, rfl⟩
  have hb13 : Below w13.heap.size w13 W13 := by rw [hW13]; exact below_a _ _
  have t132 := t13.trans (Step.of hb13)
  have H13 := Lib.hid (show HeapIn W13 (w.heap.size + 1) F13 5 [] from h13.below hb13)
  have I13 := Lib.hid (I12.out.step t132)
  have J13 := Lib.hid (J12.out.step t132)
  have S13 := Lib.hid (show Below w.heap.size w W13 ∧ ∀ b ∈ F13, w.heap.size ≤ b from ⟨S12.out.1.trans (t132.below S12.out.2 S12.out.1.size).1, (t132.below S12.out.2 S12.out.1.size).2⟩)
  have o13 : w13.heap.size ∉ F13 := fun m => by have := h13.lt _ m; omega
  have p130 : W13.cell? ⟨w13.heap.size, 0, none⟩ = some (.int .i64 1) := by rw [hW13]; exact cell_nw _ _ _ 0 _ rfl
  have p131 : W13.cell? ⟨w13.heap.size, 1, none⟩ = some (.int .u64 9) := by rw [hW13]; exact cell_nw _ _ _ 1 _ rfl
  have p120 := t132.cell o12 p120
  have p121 := t132.cell o12 p121
  have o12 : w12.heap.size ∉ F13 := t132.off o12 lo12
  have lo12 : w12.heap.size < W13.heap.size := lt_of_cell p120
  have lo13 : w13.heap.size < W13.heap.size := lt_of_cell p130
  have HW13 := Lib.hid hW13
  clear hA h13 t13 t132 hb13 hW13
  go_wp2_with fail
  rw [← HW13.out]
  refine (Pop_at (F := F13) (n := 5) (S := []) W13 H13.out).mono ?_
  rintro e w14 ⟨rfl, hA⟩
  rw [show popV ([] : Items) = .tuple #[.agg #[.int .i64 0, .int .u64 0], .int .i64 6] from rfl]
  obtain ⟨F14, h14, t14⟩ := hA.split
  obtain ⟨W14, hW14⟩ : ∃ W, W = w14.alloc (.cells #[.int .i64 0, .int .u64 0] 28) := ⟨_, rfl⟩
  have hb14 : Below w14.heap.size w14 W14 := by rw [hW14]; exact below_a _ _
  have t142 := t14.trans (Step.of hb14)
  have H14 := Lib.hid (show HeapIn W14 (w.heap.size + 1) F14 5 [] from h14.below hb14)
  have I14 := Lib.hid (I13.out.step t142)
  have J14 := Lib.hid (J13.out.step t142)
  have S14 := Lib.hid (show Below w.heap.size w W14 ∧ ∀ b ∈ F14, w.heap.size ≤ b from ⟨S13.out.1.trans (t142.below S13.out.2 S13.out.1.size).1, (t142.below S13.out.2 S13.out.1.size).2⟩)
  have o14 : w14.heap.size ∉ F14 := fun m => by have := h14.lt _ m; omega
  have p140 : W14.cell? ⟨w14.heap.size, 0, none⟩ = some (.int .i64 0) := by rw [hW14]; exact cell_nw _ _ _ 0 _ rfl
  have p141 : W14.cell? ⟨w14.heap.size, 1, none⟩ = some (.int .u64 0) := by rw [hW14]; exact cell_nw _ _ _ 1 _ rfl
  have p120 := t142.cell o12 p120
  have p121 := t142.cell o12 p121
  have o12 : w12.heap.size ∉ F14 := t142.off o12 lo12
  have lo12 : w12.heap.size < W14.heap.size := lt_of_cell p120
  have p130 := t142.cell o13 p130
  have p131 := t142.cell o13 p131
  have o13 : w13.heap.size ∉ F14 := t142.off o13 lo13
  have lo13 : w13.heap.size < W14.heap.size := lt_of_cell p130
  have lo14 : w14.heap.size < W14.heap.size := lt_of_cell p140
  have HW14 := Lib.hid hW14
  clear hA h14 t14 t142 hb14 hW14
  go_wp2_with fail
  rw [← HW14.out]
  rw [show w14.heap.size + 1 = W14.heap.size by rw [HW14.out]; simp]
  refine (Same_any _ _ [(4, 7)] [(4, 7)] _ (J14.out.items.later (below_a _ _)) (lit_items W14 [(4, 7)] _) (by decide) (by decide)).mono ?_
  rintro e w15 ⟨rfl, hg15⟩
  rw [sameB_true rfl]
  have g15 := (grows_a W14 _).trans hg15
  have p120 := grows_cell g15 p120
  have p121 := grows_cell g15 p121
  have p130 := grows_cell g15 p130
  have p131 := grows_cell g15 p131
  have I15 := Lib.hid (I14.out.items.later g15.below)
  have B15 := Lib.hid (Below.step S14.out.1 g15.below)
  clear hg15 g15
  go_wp2_with fail
  refine (Same_any _ _ [(4, 7), (3, 8)] [(4, 7), (3, 8)] _ (I15.out.later (below_a _ _)) (lit_items w15 [(4, 7), (3, 8)] _) (by decide) (by decide)).mono ?_
  rintro e w16 ⟨rfl, hg16⟩
  rw [sameB_true rfl]
  have g16 := (grows_a w15 _).trans hg16
  have p120 := grows_cell g16 p120
  have p121 := grows_cell g16 p121
  have p130 := grows_cell g16 p130
  have p131 := grows_cell g16 p131
  have B16 := Lib.hid (Below.step B15.out g16.below)
  clear hg16 g16
  go_wp2_with fail
  go_ret
  exact ⟨rfl, B16.out⟩
end Go.Proofs.Ytpbaegdmjmickaa
