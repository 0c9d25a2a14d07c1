/-
  HeapSorts: taken out one after the other, all items come in order.
-/
import Derived.Test.YtpbaegdmjmickaaHeapD
import Derived.Test.YtpbaegdmjmickaaHeapX
namespace Go.Proofs.Ytpbaegdmjmickaa
open Go.RowKit Go.Maps Go.IntWalk Go.Lib
set_option linter.unusedVariables false
set_option linter.unusedSimpArgs false
theorem fillK_mem (xs : List Int) : ∀ m (x : Int × Int), x ∈ fillK xs m → ∃ i : Nat, i < m ∧ x = ((i : Int), keyF xs i)
  | 0, x, h => by cases h
  | m + 1, x, h => by
    rcases putL_mem.1 h with rfl | q
    · exact ⟨m, by omega, rfl⟩
    · obtain ⟨i, hi, e⟩ := fillK_mem xs m x q
      exact ⟨i, by omega, e⟩
def idsB (S : Items) (k : Nat) (j : Nat) : Bool := decide ((j : Int) ∈ (S.take k).map Prod.fst)
def SeenAt (wr : World) (bs : Nat) (S : Items) (k : Nat) : Prop := ∀ j, j < 40 → wr.cell? ⟨bs, j, none⟩ = some (.bool (idsB S k j)) ∧ wr.frozen? ⟨bs, j, none⟩ = false
theorem idsB_zero (S : Items) (j : Nat) : idsB S 0 j = false := by simp [idsB]
theorem idsB_succ {S : Items} {k id : Nat} {key : Int} (hk : k < S.length) (h : S[k]! = ((id : Int), key)) (j : Nat) : idsB S (k + 1) j = (idsB S k j || decide (j = id)) := by
  unfold idsB
  rw [take_succ_at hk, h, List.map_append, Bool.eq_iff_iff]
  simp [-List.map_take]
  constructor
  · rintro (h | h)
    · exact Or.inl h
    · exact Or.inr (by omega)
  · rintro (h | h)
    · exact Or.inl h
    · exact Or.inr (by omega)
theorem idsB_new {S : Items} {k id : Nat} {key : Int} (hn : (S.map Prod.fst).Nodup) (hk : k < S.length) (h : S[k]! = ((id : Int), key)) : idsB S k id = false := by
  refine decide_eq_false fun q => ?_
  have e : S = S.take k ++ S[k]! :: S.drop (k + 1) := by rw [getElem!_pos S k hk, List.getElem_cons_drop, List.take_append_drop]
  rw [e, List.map_append, List.nodup_append, h] at hn
  exact hn.2.2 _ q _ (by simp) rfl
theorem drop_cons {S : Items} {k : Nat} (hk : k < S.length) : S.drop k = S[k]! :: S.drop (k + 1) := by rw [getElem!_pos S k hk, List.getElem_cons_drop]
theorem order_at {S : Items} (h : InOrder S) {k : Nat} (hk : k < S.length) (h0 : 0 < k) : befB S[k - 1]! S[k]! = true := by
  have := List.pairwise_iff_getElem.1 h (k - 1) k (by omega) hk (by omega)
  rw [getElem!_pos S k hk, getElem!_pos S (k - 1) (by omega)]
  exact decide_eq_true this
theorem Step.cons {F F' : List Nat} {w w' : World} (h : Step F w F' w') (b : Nat) : Step (b :: F) w (b :: F') w' :=
  ⟨h.kept.mono (fun k hk => List.mem_cons_of_mem _ hk), fun k hk => by
    rcases List.mem_cons.1 hk with rfl | hk
    · exact Or.inl (by simp)
    · exact (h.new k hk).imp (List.mem_cons_of_mem _) id⟩
theorem Step.set {F : List Nat} (b o : Nat) (w : World) {v : Value} : Step (b :: F) w (b :: F) (w.setCell ⟨b, o, none⟩ v) := ⟨(Kept.refl _ w).setCell (Or.inl (by simp)) _, fun k hk => Or.inl hk⟩
theorem Held.cons {F : List Nat} {w : World} {v : Value} {S : Items} (h : Held F w v S) {b : Nat} (hb : w.heap.size ≤ b) : Held (b :: F) w v S := by
  obtain ⟨a, cap, e, h⟩ := h
  refine ⟨a, cap, e, ?_⟩
  by_cases h0 : S.length = 0
  · exact Or.inl (List.eq_nil_of_length_eq_zero h0)
  · rcases h with h | ⟨b', off, e', h1, h2⟩
    · exact Or.inl h
    · refine Or.inr ⟨b', off, e', fun q => ?_, h2⟩
      rcases List.mem_cons.1 q with q | q
      · have := lt_of_cell (h2 0 (by omega)).1
        omega
      · exact h1 q
theorem WI.set {w wr : World} {p : Nat} {n : Int} {S : Items} {F : List Nat} (h : WI w p n S wr F) {b o : Nat} {v : Value} (hb : b ∉ F) (hB : w.heap.size ≤ b) : WI w p n S (wr.setCell ⟨b, o, none⟩ v) F := by
  have K : Kept [b] wr (wr.setCell ⟨b, o, none⟩ v) := (Kept.refl _ wr).setCell (Or.inl (by simp)) _
  refine ⟨h.inn.kept K (fun c hc q => hb (by simp at q; subst q; exact hc)), h.own, Kept.stepB h.bel (Nat.le_refl _) K (fun c hc => by simp at hc; omega)⟩
theorem SeenAt.below {w w' : World} {bs : Nat} {S : Items} {k : Nat} (h : SeenAt w bs S k) (hb : Below w.heap.size w w') : SeenAt w' bs S k := fun j hj => ⟨cell_later hb (h j hj).1, frz_later hb (h j hj).2 (lt_of_cell (h j hj).1)⟩
theorem SeenAt.step {w w' : World} {bs : Nat} {S : Items} {k : Nat} {F F' : List Nat} (h : SeenAt w bs S k) (t : Step F w F' w') (hb : bs ∉ F) : SeenAt w' bs S k := fun j hj =>
  ⟨t.cell hb (h j hj).1, (World.frozen?_of_block (a := ⟨bs, j, none⟩) (t.kept.block bs (lt_of_cell (h j hj).1) hb)).trans (h j hj).2⟩
theorem SeenAt.put {w : World} {bs : Nat} {S : Items} {k id : Nat} {key : Int} (h : SeenAt w bs S k) (hx : S[k]! = ((id : Int), key)) (hk : k < S.length) : SeenAt (w.setCell ⟨bs, id, none⟩ (.bool true)) bs S (k + 1) := fun j hj => by
  rw [idsB_succ hk hx]
  by_cases e : j = id
  · subst e
    rw [decide_eq_true rfl, Bool.or_true]
    exact ⟨cell_set_eq (h j hj).1, by rw [World.frozen?_setCell]; exact (h j hj).2⟩
  · rw [decide_eq_false e, Bool.or_false]
    exact ⟨cell_set_ne (h j hj).1 (Or.inr e), by rw [World.frozen?_setCell]; exact (h j hj).2⟩
set_option maxRecDepth 100000 in
set_option maxHeartbeats 8000000 in
theorem HeapSorts_true (s0 : Option Addr) (l0 c0 : Nat) (F0 : Nat → Nat → Value) (w : World) (r0 : PlainRow [some .u64] w s0 l0 c0 F0) :
    Calls Try.prog 5 #[.slice s0 l0 c0] w fun e w' => e = .returned (.bool true) ∧ Below w.heap.size w w' := by
  obtain ⟨xs, hx⟩ := nums_of r0
  have A1 := Lib.hid (filled_any s0 l0 c0 xs w hx)
  obtain ⟨m, hm⟩ : ∃ m, m = fillN l0 := ⟨_, rfl⟩
  have hm40 : m ≤ 40 := by rw [hm]; unfold fillN; omega
  have hml : m ≤ l0 := by rw [hm]; unfold fillN; omega
  have AW := Lib.hid fun W => awake_any W
  obtain ⟨S, hS⟩ : ∃ S, S = fillK xs m := ⟨_, rfl⟩
  have HL := Lib.hid (show S.length = m by rw [hS]; exact fillK_len xs m)
  have HO := Lib.hid (show InOrder S by rw [hS]; exact fill_order xs m)
  have HMEM := Lib.hid (show ∀ x ∈ S, ∃ i : Nat, i < m ∧ x = ((i : Int), keyF xs i) by rw [hS]; exact fillK_mem xs m)
  have HMM := Lib.hid hm
  have HSS := Lib.hid hS
  have HX := Lib.hid hx
  clear hx r0 hS hm
  go_enter Try.func5, Try.ntmps5
  go_wp2_with fail
  refine A1.out.mono ?_
  rintro e w1 ⟨p, F, rfl, h1, hF, hp, hb1⟩
  rw [← HMM.out, ← HSS.out] at h1
  rw [← HMM.out]
  have I1 := Lib.hid (show WI w p 40 S w1 F from ⟨h1, hF, hb1⟩)
  have HN := Lib.hid h1.ids.1
  clear h1 hb1 hF hp
  go_wp2_with fail
  refine (All_at _ I1.out.inn).mono ?_
  rintro e w2 ⟨v2, rfl, hr2, hb2⟩
  have I2 := Lib.hid (I1.out.below hb2)
  have V2 := Lib.hid (show Held F w2 v2 S from hr2.held I1.out.inn.lt)
  obtain ⟨a2, cc2, e2, _⟩ := hr2.items
  subst e2
  rw [show S.length = m from HL.out] at V2 ⊢
  have hz : ((m : Int) != (m : Int)) = false := by simp
  clear hr2 hb2
  have hmk : ∀ w, (Instr.makeSlice 43 (.int .i64 40) (.int .i64 40)).run Try.prog w = .ok (.slice (some ⟨w.heap.size, 0, none⟩) 40 40) (w.alloc (.cells (Array.replicate 40 (.bool false)) 4)) := fun _ => by kernel_rfl
  go_wp2_with fail
  obtain ⟨bs, hbs⟩ : ∃ bs, bs = w2.heap.size := ⟨_, rfl⟩
  rw [← hbs]
  have HBS := Lib.hid hbs
  have HWB := Lib.hid (show w.heap.size ≤ bs by rw [hbs]; exact I2.out.bel.size)
  have V2' := Lib.hid (show Held (bs :: F) w2 (.slice a2 m cc2) S from V2.out.cons (by rw [hbs]; exact Nat.le_refl _))
  clear hbs V2
  go_loopw [31] (fun i wr => ∃ (k : Nat) (F : List Nat), k ≤ m ∧ i = .int .i64 k ∧ WI w p 40 (S.drop k) wr F ∧ Held (bs :: F) wr (.slice a2 m cc2) S ∧ bs ∉ F ∧ SeenAt wr bs S k) (fun i _ => m - (intOf i).toNat)
  case atStart =>
    refine ⟨0, F, Nat.zero_le _, rfl, I2.out.below (below_a _ _), V2'.out.step (Step.of (below_a _ _)), fun q => ?_, fun j hj => ⟨?_, ?_⟩⟩
    · have := I2.out.inn.lt _ q
      rw [HBS.out] at this
      omega
    · rw [HBS.out, idsB_zero]
      exact cell_nw _ _ _ j _ (by simp [hj])
    · rw [HBS.out]
      exact frz_nw _ _ _ _
  case round =>
    obtain ⟨k, F, hk, rfl, hI, hV, hnb, hsn⟩ := hrel
    have IR := Lib.hid hI
    have VR := Lib.hid hV
    have NR := Lib.hid hnb
    have SR := Lib.hid hsn
    clear hI hV hnb hsn
    by_cases hlt : k < m
    · have hkS : k < S.length := by rw [HL.out]; exact hlt
      obtain ⟨id, hid, hxe⟩ := HMEM.out S[k]! (at_mem hkS)
      have HXE := Lib.hid hxe
      obtain ⟨key, hkey⟩ : ∃ key, key = keyF xs id := ⟨_, rfl⟩
      rw [← hkey] at hxe
      have HKEY := Lib.hid hkey
      have HXK := Lib.hid hxe
      have hd := drop_cons hkS
      rw [hxe] at hd
      have HLE := Lib.hid (show leastV (S.drop k) = .tuple #[.agg #[.int .i64 (id : Int), .int .u64 key], .bool true] by rw [hd]; rfl)
      have HPO := Lib.hid (show popV (S.drop k) = .tuple #[.agg #[.int .i64 (id : Int), .int .u64 key], .int .i64 0] by rw [hd]; rfl)
      have HTL := Lib.hid (show (S.drop k).tail = S.drop (k + 1) by rw [hd]; rfl)
      have hk0 : (0 : Int) ≤ (k : Int) := by omega
      have hkm : (k : Int) < (m : Int) := by omega
      clear hd hxe hkey
      go_wp2_with fail
      refine (Least_at wr IR.out.inn).mono ?_
      rintro e w5 ⟨rfl, hg5⟩
      rw [HLE.out]
      have b5 : Below wr.heap.size wr (w5.alloc (.cells #[.int .i64 (id : Int), .int .u64 key] 28)) := Below.step hg5.below (below_a _ _)
      have B5 := Lib.hid b5
      have x0 := cell_nw w5 #[.int .i64 (id : Int), .int .u64 key] 28 0 _ rfl
      have x1 := cell_nw w5 #[.int .i64 (id : Int), .int .u64 key] 28 1 _ rfl
      have HBX5 := Lib.hid hg5.below.size
      clear hg5 b5
      go_wp2_with fail
      generalize w5.heap.size = bx at *
      generalize w5.alloc (.cells #[.int .i64 (id : Int), .int .u64 key] 28) = w5 at *
      have I5 := Lib.hid (IR.out.below B5.out)
      refine (Pop_at w5 I5.out.inn).mono ?_
      rintro e w6 ⟨rfl, hA⟩
      rw [HTL.out] at hA
      rw [HPO.out]
      obtain ⟨F6, h6, t6⟩ := I5.out.step hA
      have T6 := Lib.hid ((Step.of B5.out).trans t6)
      have I6 := Lib.hid h6
      have hnx : bx ∉ F := fun q => by
        have h1 := IR.out.inn.lt _ q
        have h2 := HBX5.out
        omega
      replace x0 := t6.cell hnx x0
      replace x1 := t6.cell hnx x1
      clear hA h6 t6 hnx
      go_wp2_with fail
      have y0 := cell_nw w6 #[.int .i64 (id : Int), .int .u64 key] 28 0 _ rfl
      have y1 := cell_nw w6 #[.int .i64 (id : Int), .int .u64 key] 28 1 _ rfl
      replace x0 := cell_al (.cells #[.int .i64 (id : Int), .int .u64 key] 28) x0
      replace x1 := cell_al (.cells #[.int .i64 (id : Int), .int .u64 key] 28) x1
      have T7 := Lib.hid (T6.out.trans (Step.of (below_a w6 (.cells #[.int .i64 (id : Int), .int .u64 key] 28))))
      have I7 := Lib.hid (I6.out.below (below_a w6 (.cells #[.int .i64 (id : Int), .int .u64 key] 28)))
      generalize w6.heap.size = by_ at *
      generalize w6.alloc (.cells #[.int .i64 (id : Int), .int .u64 key] 28) = wo at *
      have V7 := Lib.hid (VR.out.step (T7.out.cons bs))
      have N7 := Lib.hid (T7.out.off NR.out (lt_of_cell (SR.out 0 (by omega)).1))
      have S7 := Lib.hid (SR.out.step T7.out NR.out)
      obtain ⟨-, b1, o1, ea, a0, a1⟩ := V7.out.items.cells hkS
      cases ea
      rw [HXK.out] at a0 a1
      obtain ⟨kk, hkk⟩ : ∃ kk, kk = k - 1 := ⟨_, rfl⟩
      have hkkS : kk < S.length := by omega
      obtain ⟨-, b1', o1', ea, c0, c1⟩ := V7.out.items.cells hkkS
      cases ea
      have HC := Lib.hid (show k = 0 ∨ (0 < k ∧ (k : Int) - 1 = (kk : Int) ∧ befB S[kk]! ((id : Int), key) = true) by
        by_cases h : 0 < k
        · refine Or.inr ⟨h, by omega, ?_⟩
          have := order_at HO.out hkS h
          rw [HXK.out, ← hkk] at this
          exact this
        · exact Or.inl (by omega))
      generalize S[kk]! = z at *
      have s0' := (S7.out id (by omega)).1
      rw [idsB_new HN.out hkS HXK.out] at s0'
      obtain ⟨bl, ol, rfl, hll⟩ := HX.out.row (by omega)
      have l0' := cell_later I7.out.bel (hll id (by omega))
      obtain ⟨lv, hlv⟩ : ∃ lv, lv = xs[id]! := ⟨_, rfl⟩
      rw [← hlv] at l0'
      have HLV := Lib.hid hlv
      clear hll hlv
      have HD := Lib.hid (show (id % 7 = 6 ∨ (id % 7 ≠ 6 ∧ key = lv)) by
        by_cases h : id % 7 = 6
        · exact Or.inl h
        · exact Or.inr ⟨h, by rw [HKEY.out, HLV.out]; unfold keyF; rw [if_neg h]⟩)
      have A9 := Lib.hid fun (W : World) => before_any z ((id : Int), key) W
      have hi0 : (0 : Int) ≤ (id : Int) := by omega
      have him : (id : Int) < (m : Int) := by omega
      have him' : id < m := hid
      have hi40 : (id : Int) < 40 := by omega
      have hil : (id : Int) < (l0 : Int) := by omega
      have zi : ((id : Int) < 0) = False := eq_false (by omega)
      have zi' : decide ((id : Int) < 0) = false := decide_eq_false (by omega)
      have zg : decide ((id : Int) ≥ (m : Int)) = false := decide_eq_false (by omega)
      have zg1 : decide ((m : Int) ≤ (id : Int)) = false := decide_eq_false (by omega)
      have zg2 : decide (m ≤ id) = false := decide_eq_false (by omega)
      have z1 : ((id : Int) != (id : Int)) = false := by simp
      have z2 : (key != key) = false := by simp
      clear hkS hkkS hkk hid
      have hS0 : Below wo.heap.size wo wo.drew ∧ wo.drew.cell? ⟨bx, 0, none⟩ = some (.int .i64 (id : Int)) ∧ wo.drew.cell? ⟨bx, 1, none⟩ = some (.int .u64 key) ∧ wo.drew.cell? ⟨by_, 0, none⟩ = some (.int .i64 (id : Int)) ∧ wo.drew.cell? ⟨by_, 1, none⟩ = some (.int .u64 key) ∧ wo.drew.cell? ⟨b1, o1 + k * 2, none⟩ = some (.int .i64 (id : Int)) ∧ wo.drew.cell? ⟨b1, o1 + k * 2 + 1, none⟩ = some (.int .u64 key) ∧ wo.drew.cell? ⟨b1, o1 + kk * 2, none⟩ = some (.int .i64 z.1) ∧ wo.drew.cell? ⟨b1, o1 + kk * 2 + 1, none⟩ = some (.int .u64 z.2) ∧ wo.drew.cell? ⟨bs, id, none⟩ = some (.bool false) ∧ wo.drew.cell? ⟨bl, ol + id, none⟩ = some (.int .u64 lv) := ⟨Below.drew (Below.refl _ _), cell_dr x0, cell_dr x1, cell_dr y0, cell_dr y1, cell_dr a0, cell_dr a1, cell_dr c0, cell_dr c1, cell_dr s0', cell_dr l0'⟩
      refine wp_region_held_drew (S := fun w' => Below wo.heap.size wo w' ∧ w'.cell? ⟨bx, 0, none⟩ = some (.int .i64 (id : Int)) ∧ w'.cell? ⟨bx, 1, none⟩ = some (.int .u64 key) ∧ w'.cell? ⟨by_, 0, none⟩ = some (.int .i64 (id : Int)) ∧ w'.cell? ⟨by_, 1, none⟩ = some (.int .u64 key) ∧ w'.cell? ⟨b1, o1 + k * 2, none⟩ = some (.int .i64 (id : Int)) ∧ w'.cell? ⟨b1, o1 + k * 2 + 1, none⟩ = some (.int .u64 key) ∧ w'.cell? ⟨b1, o1 + kk * 2, none⟩ = some (.int .i64 z.1) ∧ w'.cell? ⟨b1, o1 + kk * 2 + 1, none⟩ = some (.int .u64 z.2) ∧ w'.cell? ⟨bs, id, none⟩ = some (.bool false) ∧ w'.cell? ⟨bl, ol + id, none⟩ = some (.int .u64 lv)) (by kernel_rfl) hS0 (fun hHeld => ?_)
      refine takeH (i := 0) (v := ?v0_1) rfl (by kernel_rfl) (fun _ _ _ h => h) (by rfl) ?hy0_1 (by assumption) ?rest0_1
      case hy0_1 => (intro w hSw; (try dsimp only at hSw); go_simp; try with_reducible rfl)
      try simp only [Act.put, List.setIfInBounds_toArray, List.set_cons_zero, List.set_cons_succ]
      refine takeH (i := 1) (v := ?v1_2) rfl (by kernel_rfl) (fun _ _ _ h => h) (by rfl) ?hy1_2 (by assumption) ?rest1_2
      case hy1_2 => (intro w hSw; (try dsimp only at hSw); go_simp; try with_reducible rfl)
      try simp only [Act.put, List.setIfInBounds_toArray, List.set_cons_zero, List.set_cons_succ]
      refine takeH (i := 2) (v := ?v2_3) rfl (by kernel_rfl) (fun _ _ _ h => h) (by rfl) ?hy2_3 (by assumption) ?rest2_3
      case hy2_3 => (intro w hSw; (try dsimp only at hSw); go_simp; try with_reducible rfl)
      try simp only [Act.put, List.setIfInBounds_toArray, List.set_cons_zero, List.set_cons_succ]
      refine takeH (i := 3) (v := ?v3_4) rfl (by kernel_rfl) (fun _ _ _ h => h) (by rfl) ?hy3_4 (by assumption) ?rest3_4
      case hy3_4 => (intro w hSw; (try dsimp only at hSw); go_simp; try with_reducible rfl)
      try simp only [Act.put, List.setIfInBounds_toArray, List.set_cons_zero, List.set_cons_succ]
      refine takeH (i := 4) (v := ?v4_5) rfl (by kernel_rfl) (fun _ _ _ h => h) (by rfl) ?hy4_5 (by assumption) ?rest4_5
      case hy4_5 => (intro w hSw; (try dsimp only at hSw); go_simp; try with_reducible rfl)
      try simp only [Act.put, List.setIfInBounds_toArray, List.set_cons_zero, List.set_cons_succ]
      refine takeH (i := 5) (v := ?v5_6) rfl (by kernel_rfl) (fun _ _ _ h => h) (by rfl) ?hy5_6 (by assumption) ?rest5_6
      case hy5_6 => (intro w hSw; (try dsimp only at hSw); go_simp; try with_reducible rfl)
      try simp only [Act.put, List.setIfInBounds_toArray, List.set_cons_zero, List.set_cons_succ]
      refine takeH (i := 6) (v := ?v6_7) rfl (by kernel_rfl) (fun _ _ _ h => h) (by rfl) ?hy6_7 (by assumption) ?rest6_7
      case hy6_7 => (intro w hSw; (try dsimp only at hSw); go_simp; try with_reducible rfl)
      try simp only [Act.put, List.setIfInBounds_toArray, List.set_cons_zero, List.set_cons_succ]
      refine takeH (i := 7) (v := ?v7_8) rfl (by kernel_rfl) (fun _ _ _ h => h) (by rfl) ?hy7_8 (by assumption) ?rest7_8
      case hy7_8 => (intro w hSw; (try dsimp only at hSw); go_simp; try with_reducible rfl)
      try simp only [Act.put, List.setIfInBounds_toArray, List.set_cons_zero, List.set_cons_succ]
      refine takeH (i := 8) (v := ?v8_9) rfl (by kernel_rfl) (fun _ _ _ h => h) (by rfl) ?hy8_9 (by assumption) ?rest8_9
      case hy8_9 => (intro w hSw; (try dsimp only at hSw); go_simp; try with_reducible rfl)
      try simp only [Act.put, List.setIfInBounds_toArray, List.set_cons_zero, List.set_cons_succ]
      refine takeH (i := 9) (v := ?v9_10) rfl (by kernel_rfl) (fun _ _ _ h => h) (by rfl) ?hy9_10 (by assumption) ?rest9_10
      case hy9_10 => (intro w hSw; (try dsimp only at hSw); go_simp; try with_reducible rfl)
      try simp only [Act.put, List.setIfInBounds_toArray, List.set_cons_zero, List.set_cons_succ]
      refine takeH (i := 10) (v := ?v10_11) rfl (by kernel_rfl) (fun _ _ _ h => h) (by rfl) ?hy10_11 (by assumption) ?rest10_11
      case hy10_11 => (intro w hSw; (try dsimp only at hSw); go_simp; try with_reducible rfl)
      try simp only [Act.put, List.setIfInBounds_toArray, List.set_cons_zero, List.set_cons_succ]
      refine takeH (i := 11) (v := ?v11_12) rfl (by kernel_rfl) (fun _ _ _ h => h) (by rfl) ?hy11_12 (by assumption) ?rest11_12
      case hy11_12 => (intro w hSw; (try dsimp only at hSw); go_simp; try with_reducible rfl)
      try simp only [Act.put, List.setIfInBounds_toArray, List.set_cons_zero, List.set_cons_succ]
      refine takeH (i := 12) (v := ?v12_13) rfl (by kernel_rfl) (fun _ _ _ h => h) (by rfl) ?hy12_13 (by assumption) ?rest12_13
      case hy12_13 => (intro w hSw; (try dsimp only at hSw); go_simp; try with_reducible rfl)
      try simp only [Act.put, List.setIfInBounds_toArray, List.set_cons_zero, List.set_cons_succ]
      refine takeH (i := 13) (v := ?v13_14) rfl (by kernel_rfl) (fun _ _ _ h => h) (by rfl) ?hy13_14 (by assumption) ?rest13_14
      case hy13_14 => (intro w hSw; (try dsimp only at hSw); go_simp; try with_reducible rfl)
      try simp only [Act.put, List.setIfInBounds_toArray, List.set_cons_zero, List.set_cons_succ]
      refine takeH (i := 14) (v := ?v14_15) rfl (by kernel_rfl) (fun _ _ _ h => h) (by rfl) ?hy14_15 (by assumption) ?rest14_15
      case hy14_15 => (intro w hSw; (try dsimp only at hSw); go_simp; try with_reducible rfl)
      try simp only [Act.put, List.setIfInBounds_toArray, List.set_cons_zero, List.set_cons_succ]
      refine takeH (i := 15) (v := ?v15_16) rfl (by kernel_rfl) (fun _ _ _ h => h) (by rfl) ?hy15_16 (by assumption) ?rest15_16
      case hy15_16 => (intro w hSw; (try dsimp only at hSw); go_simp; try with_reducible rfl)
      try simp only [Act.put, List.setIfInBounds_toArray, List.set_cons_zero, List.set_cons_succ]
      refine takeH (i := 16) (v := ?v16_17) rfl (by kernel_rfl) (fun _ _ _ h => h) (by rfl) ?hy16_17 (by assumption) ?rest16_17
      case hy16_17 => (intro w hSw; (try dsimp only at hSw); go_simp; try with_reducible rfl)
      try simp only [Act.put, List.setIfInBounds_toArray, List.set_cons_zero, List.set_cons_succ]
      refine takeH (i := 17) (v := ?v17_18) rfl (by kernel_rfl) (fun _ _ _ h => h) (by rfl) ?hy17_18 (by assumption) ?rest17_18
      case hy17_18 => (intro w hSw; (try dsimp only at hSw); go_simp; try with_reducible rfl)
      try simp only [Act.put, List.setIfInBounds_toArray, List.set_cons_zero, List.set_cons_succ]
      refine takeH (i := 18) (v := ?v18_19) rfl (by kernel_rfl) (fun _ _ _ h => h) (by rfl) ?hy18_19 (by assumption) ?rest18_19
      case hy18_19 => (intro w hSw; (try dsimp only at hSw); go_simp; try with_reducible rfl)
      try simp only [Act.put, List.setIfInBounds_toArray, List.set_cons_zero, List.set_cons_succ]
      refine takeH (i := 19) (v := ?v19_20) rfl (by kernel_rfl) (fun _ _ _ h => h) (by rfl) ?hy19_20 (by assumption) ?rest19_20
      case hy19_20 => (intro w hSw; (try dsimp only at hSw); go_simp; try with_reducible rfl)
      try simp only [Act.put, List.setIfInBounds_toArray, List.set_cons_zero, List.set_cons_succ]
      refine takeH (i := 20) (v := ?v20_21) rfl (by kernel_rfl) (fun _ _ _ h => h) (by rfl) ?hy20_21 (by assumption) ?rest20_21
      case hy20_21 => (intro w hSw; (try dsimp only at hSw); go_simp; try with_reducible rfl)
      try simp only [Act.put, List.setIfInBounds_toArray, List.set_cons_zero, List.set_cons_succ]
      rcases HC.out with h21 | ⟨h21, h21a, h21b⟩
      · skip
        have c21 : decide (0 < k) = false := decide_eq_false (by omega)
        have c21a : (0 < k) = False := eq_false (by omega)
        clear h21
        refine takeH (i := 21) (v := ?v21_22) rfl (by kernel_rfl) (fun _ _ _ h => h) (by rfl) ?hy21_22 (by assumption) ?rest21_22
        case hy21_22 => (intro w hSw; (try dsimp only at hSw); go_simp; try with_reducible rfl)
        try simp only [Act.put, List.setIfInBounds_toArray, List.set_cons_zero, List.set_cons_succ]
        refine takeH (i := 22) (v := ?v22_23) rfl (by kernel_rfl) (fun _ _ _ h => h) (by rfl) ?hy22_23 (by assumption) ?rest22_23
        case hy22_23 => (intro w hSw; (try dsimp only at hSw); go_simp; try with_reducible rfl)
        try simp only [Act.put, List.setIfInBounds_toArray, List.set_cons_zero, List.set_cons_succ]
        refine skipH (i := 23) rfl (by kernel_rfl) (fun _ _ _ h => h) (by kernel_rfl) (by assumption) ?_
        try simp only [Act.put, List.setIfInBounds_toArray, List.set_cons_zero, List.set_cons_succ]
        refine skipH (i := 24) rfl (by kernel_rfl) (fun _ _ _ h => h) (by kernel_rfl) (by assumption) ?_
        try simp only [Act.put, List.setIfInBounds_toArray, List.set_cons_zero, List.set_cons_succ]
        refine skipH (i := 25) rfl (by kernel_rfl) (fun _ _ _ h => h) (by kernel_rfl) (by assumption) ?_
        try simp only [Act.put, List.setIfInBounds_toArray, List.set_cons_zero, List.set_cons_succ]
        refine skipH (i := 26) rfl (by kernel_rfl) (fun _ _ _ h => h) (by kernel_rfl) (by assumption) ?_
        try simp only [Act.put, List.setIfInBounds_toArray, List.set_cons_zero, List.set_cons_succ]
        refine skipH (i := 27) rfl (by kernel_rfl) (fun _ _ _ h => h) (by kernel_rfl) (by assumption) ?_
        try simp only [Act.put, List.setIfInBounds_toArray, List.set_cons_zero, List.set_cons_succ]
        refine skipH (i := 28) rfl (by kernel_rfl) (fun _ _ _ h => h) (by kernel_rfl) (by assumption) ?_
        try simp only [Act.put, List.setIfInBounds_toArray, List.set_cons_zero, List.set_cons_succ]
        refine skipH (i := 29) rfl (by kernel_rfl) (fun _ _ _ h => h) (by kernel_rfl) (by assumption) ?_
        try simp only [Act.put, List.setIfInBounds_toArray, List.set_cons_zero, List.set_cons_succ]
        refine skipH (i := 30) rfl (by kernel_rfl) (fun _ _ _ h => h) (by kernel_rfl) (by assumption) ?_
        try simp only [Act.put, List.setIfInBounds_toArray, List.set_cons_zero, List.set_cons_succ]
        refine takeH (i := 31) (v := ?v31_24) rfl (by kernel_rfl) (fun _ _ _ h => h) (by rfl) ?hy31_24 (by assumption) ?rest31_24
        case hy31_24 => (intro w hSw; (try dsimp only at hSw); go_simp; try with_reducible rfl)
        try simp only [Act.put, List.setIfInBounds_toArray, List.set_cons_zero, List.set_cons_succ]
        refine takeH (i := 32) (v := ?v32_25) rfl (by kernel_rfl) (fun _ _ _ h => h) (by rfl) ?hy32_25 (by assumption) ?rest32_25
        case hy32_25 => (intro w hSw; (try dsimp only at hSw); go_simp; try with_reducible rfl)
        try simp only [Act.put, List.setIfInBounds_toArray, List.set_cons_zero, List.set_cons_succ]
        refine takeH (i := 33) (v := ?v33_26) rfl (by kernel_rfl) (fun _ _ _ h => h) (by rfl) ?hy33_26 (by assumption) ?rest33_26
        case hy33_26 => (intro w hSw; (try dsimp only at hSw); go_simp; try with_reducible rfl)
        try simp only [Act.put, List.setIfInBounds_toArray, List.set_cons_zero, List.set_cons_succ]
        refine takeH (i := 34) (v := ?v34_27) rfl (by kernel_rfl) (fun _ _ _ h => h) (by rfl) ?hy34_27 (by assumption) ?rest34_27
        case hy34_27 => (intro w hSw; (try dsimp only at hSw); go_simp; try with_reducible rfl)
        try simp only [Act.put, List.setIfInBounds_toArray, List.set_cons_zero, List.set_cons_succ]
        refine takeH (i := 35) (v := ?v35_28) rfl (by kernel_rfl) (fun _ _ _ h => h) (by rfl) ?hy35_28 (by assumption) ?rest35_28
        case hy35_28 => (intro w hSw; (try dsimp only at hSw); go_simp; try with_reducible rfl)
        try simp only [Act.put, List.setIfInBounds_toArray, List.set_cons_zero, List.set_cons_succ]
        refine takeH (i := 36) (v := ?v36_29) rfl (by kernel_rfl) (fun _ _ _ h => h) (by rfl) ?hy36_29 (by assumption) ?rest36_29
        case hy36_29 => (intro w hSw; (try dsimp only at hSw); go_simp; try with_reducible rfl)
        try simp only [Act.put, List.setIfInBounds_toArray, List.set_cons_zero, List.set_cons_succ]
        refine takeH (i := 37) (v := ?v37_30) rfl (by kernel_rfl) (fun _ _ _ h => h) (by rfl) ?hy37_30 (by assumption) ?rest37_30
        case hy37_30 => (intro w hSw; (try dsimp only at hSw); go_simp; try with_reducible rfl)
        try simp only [Act.put, List.setIfInBounds_toArray, List.set_cons_zero, List.set_cons_succ]
        refine takeH (i := 38) (v := ?v38_31) rfl (by kernel_rfl) (fun _ _ _ h => h) (by rfl) ?hy38_31 (by assumption) ?rest38_31
        case hy38_31 => (intro w hSw; (try dsimp only at hSw); go_simp; try with_reducible rfl)
        try simp only [Act.put, List.setIfInBounds_toArray, List.set_cons_zero, List.set_cons_succ]
        refine takeH (i := 39) (v := ?v39_32) rfl (by kernel_rfl) (fun _ _ _ h => h) (by rfl) ?hy39_32 (by assumption) ?rest39_32
        case hy39_32 => (intro w hSw; (try dsimp only at hSw); go_simp; try with_reducible rfl)
        try simp only [Act.put, List.setIfInBounds_toArray, List.set_cons_zero, List.set_cons_succ]
        refine takeH (i := 40) (v := ?v40_33) rfl (by kernel_rfl) (fun _ _ _ h => h) (by rfl) ?hy40_33 (by assumption) ?rest40_33
        case hy40_33 => (intro w hSw; (try dsimp only at hSw); go_simp; try with_reducible rfl)
        try simp only [Act.put, List.setIfInBounds_toArray, List.set_cons_zero, List.set_cons_succ]
        refine takeH (i := 41) (v := ?v41_34) rfl (by kernel_rfl) (fun _ _ _ h => h) (by rfl) ?hy41_34 (by assumption) ?rest41_34
        case hy41_34 => (intro w hSw; (try dsimp only at hSw); go_simp; try with_reducible rfl)
        try simp only [Act.put, List.setIfInBounds_toArray, List.set_cons_zero, List.set_cons_succ]
        refine takeH (i := 42) (v := ?v42_35) rfl (by kernel_rfl) (fun _ _ _ h => h) (by rfl) ?hy42_35 (by assumption) ?rest42_35
        case hy42_35 => (intro w hSw; (try dsimp only at hSw); go_simp; try with_reducible rfl)
        try simp only [Act.put, List.setIfInBounds_toArray, List.set_cons_zero, List.set_cons_succ]
        refine takeH (i := 43) (v := ?v43_36) rfl (by kernel_rfl) (fun _ _ _ h => h) (by rfl) ?hy43_36 (by assumption) ?rest43_36
        case hy43_36 => (intro w hSw; (try dsimp only at hSw); go_simp; try with_reducible rfl)
        try simp only [Act.put, List.setIfInBounds_toArray, List.set_cons_zero, List.set_cons_succ]
        refine takeH (i := 44) (v := ?v44_37) rfl (by kernel_rfl) (fun _ _ _ h => h) (by rfl) ?hy44_37 (by assumption) ?rest44_37
        case hy44_37 => (intro w hSw; (try dsimp only at hSw); go_simp; try with_reducible rfl)
        try simp only [Act.put, List.setIfInBounds_toArray, List.set_cons_zero, List.set_cons_succ]
        refine takeH (i := 45) (v := ?v45_38) rfl (by kernel_rfl) (fun _ _ _ h => h) (by rfl) ?hy45_38 (by assumption) ?rest45_38
        case hy45_38 => (intro w hSw; (try dsimp only at hSw); go_simp; try with_reducible rfl)
        try simp only [Act.put, List.setIfInBounds_toArray, List.set_cons_zero, List.set_cons_succ]
        refine takeH (i := 46) (v := ?v46_39) rfl (by kernel_rfl) (fun _ _ _ h => h) (by rfl) ?hy46_39 (by assumption) ?rest46_39
        case hy46_39 => (intro w hSw; (try dsimp only at hSw); go_simp; try with_reducible rfl)
        try simp only [Act.put, List.setIfInBounds_toArray, List.set_cons_zero, List.set_cons_succ]
        refine takeH (i := 47) (v := ?v47_40) rfl (by kernel_rfl) (fun _ _ _ h => h) (by rfl) ?hy47_40 (by assumption) ?rest47_40
        case hy47_40 => (intro w hSw; (try dsimp only at hSw); go_simp; try with_reducible rfl)
        try simp only [Act.put, List.setIfInBounds_toArray, List.set_cons_zero, List.set_cons_succ]
        refine takeH (i := 48) (v := ?v48_41) rfl (by kernel_rfl) (fun _ _ _ h => h) (by rfl) ?hy48_41 (by assumption) ?rest48_41
        case hy48_41 => (intro w hSw; (try dsimp only at hSw); go_simp; try with_reducible rfl)
        try simp only [Act.put, List.setIfInBounds_toArray, List.set_cons_zero, List.set_cons_succ]
        refine takeH (i := 49) (v := ?v49_42) rfl (by kernel_rfl) (fun _ _ _ h => h) (by rfl) ?hy49_42 (by assumption) ?rest49_42
        case hy49_42 => (intro w hSw; (try dsimp only at hSw); go_simp; try with_reducible rfl)
        try simp only [Act.put, List.setIfInBounds_toArray, List.set_cons_zero, List.set_cons_succ]
        refine takeH (i := 50) (v := ?v50_43) rfl (by kernel_rfl) (fun _ _ _ h => h) (by rfl) ?hy50_43 (by assumption) ?rest50_43
        case hy50_43 => (intro w hSw; (try dsimp only at hSw); go_simp; try with_reducible rfl)
        try simp only [Act.put, List.setIfInBounds_toArray, List.set_cons_zero, List.set_cons_succ]
        refine takeH (i := 51) (v := ?v51_44) rfl (by kernel_rfl) (fun _ _ _ h => h) (by rfl) ?hy51_44 (by assumption) ?rest51_44
        case hy51_44 => (intro w hSw; (try dsimp only at hSw); go_simp; try with_reducible rfl)
        try simp only [Act.put, List.setIfInBounds_toArray, List.set_cons_zero, List.set_cons_succ]
        refine takeH (i := 52) (v := ?v52_45) rfl (by kernel_rfl) (fun _ _ _ h => h) (by rfl) ?hy52_45 (by assumption) ?rest52_45
        case hy52_45 => (intro w hSw; (try dsimp only at hSw); go_simp; try with_reducible rfl)
        try simp only [Act.put, List.setIfInBounds_toArray, List.set_cons_zero, List.set_cons_succ]
        refine takeH (i := 53) (v := ?v53_46) rfl (by kernel_rfl) (fun _ _ _ h => h) (by rfl) ?hy53_46 (by assumption) ?rest53_46
        case hy53_46 => (intro w hSw; (try dsimp only at hSw); go_simp; try with_reducible rfl)
        try simp only [Act.put, List.setIfInBounds_toArray, List.set_cons_zero, List.set_cons_succ]
        refine takeH (i := 54) (v := ?v54_47) rfl (by kernel_rfl) (fun _ _ _ h => h) (by rfl) ?hy54_47 (by assumption) ?rest54_47
        case hy54_47 => (intro w hSw; (try dsimp only at hSw); go_simp; try with_reducible rfl)
        try simp only [Act.put, List.setIfInBounds_toArray, List.set_cons_zero, List.set_cons_succ]
        rcases HD.out with h55 | ⟨h55, h55a⟩
        · skip
          have c55 : ((id : Int).tmod 7 != 6) = false := by rw [Int.tmod_eq_emod_of_nonneg hi0]; simp; omega
          clear h55
          refine takeH (i := 55) (v := ?v55_48) rfl (by kernel_rfl) (fun _ _ _ h => h) (by rfl) ?hy55_48 (by assumption) ?rest55_48
          case hy55_48 => (intro w hSw; (try dsimp only at hSw); go_simp; try with_reducible rfl)
          try simp only [Act.put, List.setIfInBounds_toArray, List.set_cons_zero, List.set_cons_succ]
          refine takeH (i := 56) (v := ?v56_49) rfl (by kernel_rfl) (fun _ _ _ h => h) (by rfl) ?hy56_49 (by assumption) ?rest56_49
          case hy56_49 => (intro w hSw; (try dsimp only at hSw); go_simp; try with_reducible rfl)
          try simp only [Act.put, List.setIfInBounds_toArray, List.set_cons_zero, List.set_cons_succ]
          refine skipH (i := 57) rfl (by kernel_rfl) (fun _ _ _ h => h) (by kernel_rfl) (by assumption) ?_
          try simp only [Act.put, List.setIfInBounds_toArray, List.set_cons_zero, List.set_cons_succ]
          refine skipH (i := 58) rfl (by kernel_rfl) (fun _ _ _ h => h) (by kernel_rfl) (by assumption) ?_
          try simp only [Act.put, List.setIfInBounds_toArray, List.set_cons_zero, List.set_cons_succ]
          refine skipH (i := 59) rfl (by kernel_rfl) (fun _ _ _ h => h) (by kernel_rfl) (by assumption) ?_
          try simp only [Act.put, List.setIfInBounds_toArray, List.set_cons_zero, List.set_cons_succ]
          refine skipH (i := 60) rfl (by kernel_rfl) (fun _ _ _ h => h) (by kernel_rfl) (by assumption) ?_
          try simp only [Act.put, List.setIfInBounds_toArray, List.set_cons_zero, List.set_cons_succ]
          refine skipH (i := 61) rfl (by kernel_rfl) (fun _ _ _ h => h) (by kernel_rfl) (by assumption) ?_
          try simp only [Act.put, List.setIfInBounds_toArray, List.set_cons_zero, List.set_cons_succ]
          refine skipH (i := 62) rfl (by kernel_rfl) (fun _ _ _ h => h) (by kernel_rfl) (by assumption) ?_
          try simp only [Act.put, List.setIfInBounds_toArray, List.set_cons_zero, List.set_cons_succ]
          refine skipH (i := 63) rfl (by kernel_rfl) (fun _ _ _ h => h) (by kernel_rfl) (by assumption) ?_
          try simp only [Act.put, List.setIfInBounds_toArray, List.set_cons_zero, List.set_cons_succ]
          refine skipH (i := 64) rfl (by kernel_rfl) (fun _ _ _ h => h) (by kernel_rfl) (by assumption) ?_
          try simp only [Act.put, List.setIfInBounds_toArray, List.set_cons_zero, List.set_cons_succ]
          refine takeH (i := 65) (v := ?v65_50) rfl (by kernel_rfl) (fun _ _ _ h => h) (by rfl) ?hy65_50 (by assumption) ?rest65_50
          case hy65_50 => (intro w hSw; (try dsimp only at hSw); go_simp; try with_reducible rfl)
          try simp only [Act.put, List.setIfInBounds_toArray, List.set_cons_zero, List.set_cons_succ]
          refine takeH (i := 66) (v := ?v66_51) rfl (by kernel_rfl) (fun _ _ _ h => h) (by rfl) ?hy66_51 (by assumption) ?rest66_51
          case hy66_51 => (intro w hSw; (try dsimp only at hSw); go_simp; try with_reducible rfl)
          try simp only [Act.put, List.setIfInBounds_toArray, List.set_cons_zero, List.set_cons_succ]
          refine takeH (i := 67) (v := ?v67_52) rfl (by kernel_rfl) (fun _ _ _ h => h) (by rfl) ?hy67_52 (by assumption) ?rest67_52
          case hy67_52 => (intro w hSw; (try dsimp only at hSw); go_simp; try with_reducible rfl)
          try simp only [Act.put, List.setIfInBounds_toArray, List.set_cons_zero, List.set_cons_succ]
          refine takeH (i := 68) (v := ?v68_53) rfl (by kernel_rfl) (fun _ _ _ h => h) (by rfl) ?hy68_53 (by assumption) ?rest68_53
          case hy68_53 => (intro w hSw; (try dsimp only at hSw); go_simp; try with_reducible rfl)
          try simp only [Act.put, List.setIfInBounds_toArray, List.set_cons_zero, List.set_cons_succ]
          refine wpAnyH_ready (rs := [69]) (by kernel_rfl) (by simp) ?_
          refine consH rfl (fun K hK => ?_) (AllReadyH.nil)
          go_simp
          refine (Right_at _ (I7.out.inn.below (by first | exact hHeld29.1 | exact hHeld.1))).mono ?_
          rintro e w10 ⟨rfl, hb10⟩
          go_wp2_with fail
          refine hK.out _ _ ?_ (fun hHeld69 => ?_)
          · (first | assumption | (refine held_10 (by assumption) ?_; assumption) | (refine held_10 (below_ad _ _) ?_; assumption) | (refine held_10 (below_a _ _) ?_; assumption))
          clear hK K
          try simp only [Act.put, List.setIfInBounds_toArray, List.set_cons_zero, List.set_cons_succ]
          refine takeH (i := 70) (v := ?v70_54) rfl (by kernel_rfl) (fun _ _ _ h => h) (by rfl) ?hy70_54 (by assumption) ?rest70_54
          case hy70_54 => (intro w hSw; (try dsimp only at hSw); go_simp; try with_reducible rfl)
          try simp only [Act.put, List.setIfInBounds_toArray, List.set_cons_zero, List.set_cons_succ]
          refine takeH (i := 71) (v := ?v71_55) rfl (by kernel_rfl) (fun _ _ _ h => h) (by rfl) ?hy71_55 (by assumption) ?rest71_55
          case hy71_55 => (intro w hSw; (try dsimp only at hSw); go_simp; try with_reducible rfl)
          try simp only [Act.put, List.setIfInBounds_toArray, List.set_cons_zero, List.set_cons_succ]
          refine wpAnyH_done (by kernel_rfl) ?_ _
          obtain ⟨hb9, x0, x1, y0, y1, a0, a1, c0, c1, s0q, l0q⟩ := hHeld69
          have HB9 := Lib.hid hb9
          have f9 := (S7.out.below hb9 id (by omega)).2
          clear hb9
          go_wp2_with fail
          go_roundw
          case rel => exact ⟨k + 1, F6, by omega, by go_num, (I7.out.below HB9.out).set N7.out HWB.out, (V7.out.step ((Step.of HB9.out).cons bs)).step (Step.set _ _ _), N7.out, (S7.out.below HB9.out).put HXK.out (by rw [HL.out]; exact hlt)⟩
          case measure => simp [intOf]; omega
        · skip
          have c55 : ((id : Int).tmod 7 != 6) = true := by rw [Int.tmod_eq_emod_of_nonneg hi0]; simp; omega
          have c55b : (key != lv) = false := by rw [h55a]; simp
          clear h55 h55a
          refine takeH (i := 55) (v := ?v55_56) rfl (by kernel_rfl) (fun _ _ _ h => h) (by rfl) ?hy55_56 (by assumption) ?rest55_56
          case hy55_56 => (intro w hSw; (try dsimp only at hSw); go_simp; try with_reducible rfl)
          try simp only [Act.put, List.setIfInBounds_toArray, List.set_cons_zero, List.set_cons_succ]
          refine takeH (i := 56) (v := ?v56_57) rfl (by kernel_rfl) (fun _ _ _ h => h) (by rfl) ?hy56_57 (by assumption) ?rest56_57
          case hy56_57 => (intro w hSw; (try dsimp only at hSw); go_simp; try with_reducible rfl)
          try simp only [Act.put, List.setIfInBounds_toArray, List.set_cons_zero, List.set_cons_succ]
          refine takeH (i := 57) (v := ?v57_58) rfl (by kernel_rfl) (fun _ _ _ h => h) (by rfl) ?hy57_58 (by assumption) ?rest57_58
          case hy57_58 => (intro w hSw; (try dsimp only at hSw); go_simp; try with_reducible rfl)
          try simp only [Act.put, List.setIfInBounds_toArray, List.set_cons_zero, List.set_cons_succ]
          refine takeH (i := 58) (v := ?v58_59) rfl (by kernel_rfl) (fun _ _ _ h => h) (by rfl) ?hy58_59 (by assumption) ?rest58_59
          case hy58_59 => (intro w hSw; (try dsimp only at hSw); go_simp; try with_reducible rfl)
          try simp only [Act.put, List.setIfInBounds_toArray, List.set_cons_zero, List.set_cons_succ]
          refine takeH (i := 59) (v := ?v59_60) rfl (by kernel_rfl) (fun _ _ _ h => h) (by rfl) ?hy59_60 (by assumption) ?rest59_60
          case hy59_60 => (intro w hSw; (try dsimp only at hSw); go_simp; try with_reducible rfl)
          try simp only [Act.put, List.setIfInBounds_toArray, List.set_cons_zero, List.set_cons_succ]
          refine takeH (i := 60) (v := ?v60_61) rfl (by kernel_rfl) (fun _ _ _ h => h) (by rfl) ?hy60_61 (by assumption) ?rest60_61
          case hy60_61 => (intro w hSw; (try dsimp only at hSw); go_simp; try with_reducible rfl)
          try simp only [Act.put, List.setIfInBounds_toArray, List.set_cons_zero, List.set_cons_succ]
          refine takeH (i := 61) (v := ?v61_62) rfl (by kernel_rfl) (fun _ _ _ h => h) (by rfl) ?hy61_62 (by assumption) ?rest61_62
          case hy61_62 => (intro w hSw; (try dsimp only at hSw); go_simp; try with_reducible rfl)
          try simp only [Act.put, List.setIfInBounds_toArray, List.set_cons_zero, List.set_cons_succ]
          refine takeH (i := 62) (v := ?v62_63) rfl (by kernel_rfl) (fun _ _ _ h => h) (by rfl) ?hy62_63 (by assumption) ?rest62_63
          case hy62_63 => (intro w hSw; (try dsimp only at hSw); go_simp; try with_reducible rfl)
          try simp only [Act.put, List.setIfInBounds_toArray, List.set_cons_zero, List.set_cons_succ]
          refine takeH (i := 63) (v := ?v63_64) rfl (by kernel_rfl) (fun _ _ _ h => h) (by rfl) ?hy63_64 (by assumption) ?rest63_64
          case hy63_64 => (intro w hSw; (try dsimp only at hSw); go_simp; try with_reducible rfl)
          try simp only [Act.put, List.setIfInBounds_toArray, List.set_cons_zero, List.set_cons_succ]
          refine takeH (i := 64) (v := ?v64_65) rfl (by kernel_rfl) (fun _ _ _ h => h) (by rfl) ?hy64_65 (by assumption) ?rest64_65
          case hy64_65 => (intro w hSw; (try dsimp only at hSw); go_simp; try with_reducible rfl)
          try simp only [Act.put, List.setIfInBounds_toArray, List.set_cons_zero, List.set_cons_succ]
          refine takeH (i := 65) (v := ?v65_66) rfl (by kernel_rfl) (fun _ _ _ h => h) (by rfl) ?hy65_66 (by assumption) ?rest65_66
          case hy65_66 => (intro w hSw; (try dsimp only at hSw); go_simp; try with_reducible rfl)
          try simp only [Act.put, List.setIfInBounds_toArray, List.set_cons_zero, List.set_cons_succ]
          refine takeH (i := 66) (v := ?v66_67) rfl (by kernel_rfl) (fun _ _ _ h => h) (by rfl) ?hy66_67 (by assumption) ?rest66_67
          case hy66_67 => (intro w hSw; (try dsimp only at hSw); go_simp; try with_reducible rfl)
          try simp only [Act.put, List.setIfInBounds_toArray, List.set_cons_zero, List.set_cons_succ]
          refine takeH (i := 67) (v := ?v67_68) rfl (by kernel_rfl) (fun _ _ _ h => h) (by rfl) ?hy67_68 (by assumption) ?rest67_68
          case hy67_68 => (intro w hSw; (try dsimp only at hSw); go_simp; try with_reducible rfl)
          try simp only [Act.put, List.setIfInBounds_toArray, List.set_cons_zero, List.set_cons_succ]
          refine takeH (i := 68) (v := ?v68_69) rfl (by kernel_rfl) (fun _ _ _ h => h) (by rfl) ?hy68_69 (by assumption) ?rest68_69
          case hy68_69 => (intro w hSw; (try dsimp only at hSw); go_simp; try with_reducible rfl)
          try simp only [Act.put, List.setIfInBounds_toArray, List.set_cons_zero, List.set_cons_succ]
          refine wpAnyH_ready (rs := [69]) (by kernel_rfl) (by simp) ?_
          refine consH rfl (fun K hK => ?_) (AllReadyH.nil)
          go_simp
          refine (Right_at _ (I7.out.inn.below (by first | exact hHeld29.1 | exact hHeld.1))).mono ?_
          rintro e w10 ⟨rfl, hb10⟩
          go_wp2_with fail
          refine hK.out _ _ ?_ (fun hHeld69 => ?_)
          · (first | assumption | (refine held_10 (by assumption) ?_; assumption) | (refine held_10 (below_ad _ _) ?_; assumption) | (refine held_10 (below_a _ _) ?_; assumption))
          clear hK K
          try simp only [Act.put, List.setIfInBounds_toArray, List.set_cons_zero, List.set_cons_succ]
          refine takeH (i := 70) (v := ?v70_70) rfl (by kernel_rfl) (fun _ _ _ h => h) (by rfl) ?hy70_70 (by assumption) ?rest70_70
          case hy70_70 => (intro w hSw; (try dsimp only at hSw); go_simp; try with_reducible rfl)
          try simp only [Act.put, List.setIfInBounds_toArray, List.set_cons_zero, List.set_cons_succ]
          refine takeH (i := 71) (v := ?v71_71) rfl (by kernel_rfl) (fun _ _ _ h => h) (by rfl) ?hy71_71 (by assumption) ?rest71_71
          case hy71_71 => (intro w hSw; (try dsimp only at hSw); go_simp; try with_reducible rfl)
          try simp only [Act.put, List.setIfInBounds_toArray, List.set_cons_zero, List.set_cons_succ]
          refine wpAnyH_done (by kernel_rfl) ?_ _
          obtain ⟨hb9, x0, x1, y0, y1, a0, a1, c0, c1, s0q, l0q⟩ := hHeld69
          have HB9 := Lib.hid hb9
          have f9 := (S7.out.below hb9 id (by omega)).2
          clear hb9
          go_wp2_with fail
          go_roundw
          case rel => exact ⟨k + 1, F6, by omega, by go_num, (I7.out.below HB9.out).set N7.out HWB.out, (V7.out.step ((Step.of HB9.out).cons bs)).step (Step.set _ _ _), N7.out, (S7.out.below HB9.out).put HXK.out (by rw [HL.out]; exact hlt)⟩
          case measure => simp [intOf]; omega
      · skip
        have c21 : decide (0 < k) = true := decide_eq_true h21
        have c21c : (0 : Int) ≤ (kk : Int) := by omega
        have c21d : (kk : Int) < (m : Int) := by omega
        have c21e : IntKind.i64.wrap (kk : Int) = (kk : Int) := IntWalk.i64_in _ (by omega)
        refine takeH (i := 21) (v := ?v21_72) rfl (by kernel_rfl) (fun _ _ _ h => h) (by rfl) ?hy21_72 (by assumption) ?rest21_72
        case hy21_72 => (intro w hSw; (try dsimp only at hSw); go_simp; try with_reducible rfl)
        try simp only [Act.put, List.setIfInBounds_toArray, List.set_cons_zero, List.set_cons_succ]
        refine takeH (i := 22) (v := ?v22_73) rfl (by kernel_rfl) (fun _ _ _ h => h) (by rfl) ?hy22_73 (by assumption) ?rest22_73
        case hy22_73 => (intro w hSw; (try dsimp only at hSw); go_simp; try with_reducible rfl)
        try simp only [Act.put, List.setIfInBounds_toArray, List.set_cons_zero, List.set_cons_succ]
        refine takeH (i := 23) (v := ?v23_74) rfl (by kernel_rfl) (fun _ _ _ h => h) (by rfl) ?hy23_74 (by assumption) ?rest23_74
        case hy23_74 => (intro w hSw; (try dsimp only at hSw); go_simp; try with_reducible rfl)
        try simp only [Act.put, List.setIfInBounds_toArray, List.set_cons_zero, List.set_cons_succ]
        refine takeH (i := 24) (v := ?v24_75) rfl (by kernel_rfl) (fun _ _ _ h => h) (by rfl) ?hy24_75 (by assumption) ?rest24_75
        case hy24_75 => (intro w hSw; (try dsimp only at hSw); go_simp; try with_reducible rfl)
        try simp only [Act.put, List.setIfInBounds_toArray, List.set_cons_zero, List.set_cons_succ]
        refine takeH (i := 25) (v := ?v25_76) rfl (by kernel_rfl) (fun _ _ _ h => h) (by rfl) ?hy25_76 (by assumption) ?rest25_76
        case hy25_76 => (intro w hSw; (try dsimp only at hSw); go_simp; try with_reducible rfl)
        try simp only [Act.put, List.setIfInBounds_toArray, List.set_cons_zero, List.set_cons_succ]
        refine takeH (i := 26) (v := ?v26_77) rfl (by kernel_rfl) (fun _ _ _ h => h) (by rfl) ?hy26_77 (by assumption) ?rest26_77
        case hy26_77 => (intro w hSw; (try dsimp only at hSw); go_simp; try with_reducible rfl)
        try simp only [Act.put, List.setIfInBounds_toArray, List.set_cons_zero, List.set_cons_succ]
        refine takeH (i := 27) (v := ?v27_78) rfl (by kernel_rfl) (fun _ _ _ h => h) (by rfl) ?hy27_78 (by assumption) ?rest27_78
        case hy27_78 => (intro w hSw; (try dsimp only at hSw); go_simp; try with_reducible rfl)
        try simp only [Act.put, List.setIfInBounds_toArray, List.set_cons_zero, List.set_cons_succ]
        refine takeH (i := 28) (v := ?v28_79) rfl (by kernel_rfl) (fun _ _ _ h => h) (by rfl) ?hy28_79 (by assumption) ?rest28_79
        case hy28_79 => (intro w hSw; (try dsimp only at hSw); go_simp; try with_reducible rfl)
        try simp only [Act.put, List.setIfInBounds_toArray, List.set_cons_zero, List.set_cons_succ]
        refine wpAnyH_ready (rs := [29]) (by kernel_rfl) (by simp) ?_
        refine consH rfl (fun K hK => ?_) (AllReadyH.nil)
        go_simp
        refine (A9.out _).mono ?_
        rintro e w9 ⟨rfl, hg9⟩
        have hb9 := hg9.below
        go_wp2_with fail
        refine hK.out _ _ ?_ (fun hHeld29 => ?_)
        · (first | assumption | (refine held_10 (by assumption) ?_; assumption) | (refine held_10 (below_ad _ _) ?_; assumption) | (refine held_10 (below_a _ _) ?_; assumption))
        clear hK K
        try simp only [Act.put, List.setIfInBounds_toArray, List.set_cons_zero, List.set_cons_succ]
        refine takeH (i := 30) (v := ?v30_80) rfl (by kernel_rfl) (fun _ _ _ h => h) (by rfl) ?hy30_80 (by assumption) ?rest30_80
        case hy30_80 => (intro w hSw; (try dsimp only at hSw); go_simp; try with_reducible rfl)
        try simp only [Act.put, List.setIfInBounds_toArray, List.set_cons_zero, List.set_cons_succ]
        refine takeH (i := 31) (v := ?v31_81) rfl (by kernel_rfl) (fun _ _ _ h => h) (by rfl) ?hy31_81 (by assumption) ?rest31_81
        case hy31_81 => (intro w hSw; (try dsimp only at hSw); go_simp; try with_reducible rfl)
        try simp only [Act.put, List.setIfInBounds_toArray, List.set_cons_zero, List.set_cons_succ]
        refine takeH (i := 32) (v := ?v32_82) rfl (by kernel_rfl) (fun _ _ _ h => h) (by rfl) ?hy32_82 (by assumption) ?rest32_82
        case hy32_82 => (intro w hSw; (try dsimp only at hSw); go_simp; try with_reducible rfl)
        try simp only [Act.put, List.setIfInBounds_toArray, List.set_cons_zero, List.set_cons_succ]
        refine takeH (i := 33) (v := ?v33_83) rfl (by kernel_rfl) (fun _ _ _ h => h) (by rfl) ?hy33_83 (by assumption) ?rest33_83
        case hy33_83 => (intro w hSw; (try dsimp only at hSw); go_simp; try with_reducible rfl)
        try simp only [Act.put, List.setIfInBounds_toArray, List.set_cons_zero, List.set_cons_succ]
        refine takeH (i := 34) (v := ?v34_84) rfl (by kernel_rfl) (fun _ _ _ h => h) (by rfl) ?hy34_84 (by assumption) ?rest34_84
        case hy34_84 => (intro w hSw; (try dsimp only at hSw); go_simp; try with_reducible rfl)
        try simp only [Act.put, List.setIfInBounds_toArray, List.set_cons_zero, List.set_cons_succ]
        refine takeH (i := 35) (v := ?v35_85) rfl (by kernel_rfl) (fun _ _ _ h => h) (by rfl) ?hy35_85 (by assumption) ?rest35_85
        case hy35_85 => (intro w hSw; (try dsimp only at hSw); go_simp; try with_reducible rfl)
        try simp only [Act.put, List.setIfInBounds_toArray, List.set_cons_zero, List.set_cons_succ]
        refine takeH (i := 36) (v := ?v36_86) rfl (by kernel_rfl) (fun _ _ _ h => h) (by rfl) ?hy36_86 (by assumption) ?rest36_86
        case hy36_86 => (intro w hSw; (try dsimp only at hSw); go_simp; try with_reducible rfl)
        try simp only [Act.put, List.setIfInBounds_toArray, List.set_cons_zero, List.set_cons_succ]
        refine takeH (i := 37) (v := ?v37_87) rfl (by kernel_rfl) (fun _ _ _ h => h) (by rfl) ?hy37_87 (by assumption) ?rest37_87
        case hy37_87 => (intro w hSw; (try dsimp only at hSw); go_simp; try with_reducible rfl)
        try simp only [Act.put, List.setIfInBounds_toArray, List.set_cons_zero, List.set_cons_succ]
        refine takeH (i := 38) (v := ?v38_88) rfl (by kernel_rfl) (fun _ _ _ h => h) (by rfl) ?hy38_88 (by assumption) ?rest38_88
        case hy38_88 => (intro w hSw; (try dsimp only at hSw); go_simp; try with_reducible rfl)
        try simp only [Act.put, List.setIfInBounds_toArray, List.set_cons_zero, List.set_cons_succ]
        refine takeH (i := 39) (v := ?v39_89) rfl (by kernel_rfl) (fun _ _ _ h => h) (by rfl) ?hy39_89 (by assumption) ?rest39_89
        case hy39_89 => (intro w hSw; (try dsimp only at hSw); go_simp; try with_reducible rfl)
        try simp only [Act.put, List.setIfInBounds_toArray, List.set_cons_zero, List.set_cons_succ]
        refine takeH (i := 40) (v := ?v40_90) rfl (by kernel_rfl) (fun _ _ _ h => h) (by rfl) ?hy40_90 (by assumption) ?rest40_90
        case hy40_90 => (intro w hSw; (try dsimp only at hSw); go_simp; try with_reducible rfl)
        try simp only [Act.put, List.setIfInBounds_toArray, List.set_cons_zero, List.set_cons_succ]
        refine takeH (i := 41) (v := ?v41_91) rfl (by kernel_rfl) (fun _ _ _ h => h) (by rfl) ?hy41_91 (by assumption) ?rest41_91
        case hy41_91 => (intro w hSw; (try dsimp only at hSw); go_simp; try with_reducible rfl)
        try simp only [Act.put, List.setIfInBounds_toArray, List.set_cons_zero, List.set_cons_succ]
        refine takeH (i := 42) (v := ?v42_92) rfl (by kernel_rfl) (fun _ _ _ h => h) (by rfl) ?hy42_92 (by assumption) ?rest42_92
        case hy42_92 => (intro w hSw; (try dsimp only at hSw); go_simp; try with_reducible rfl)
        try simp only [Act.put, List.setIfInBounds_toArray, List.set_cons_zero, List.set_cons_succ]
        refine takeH (i := 43) (v := ?v43_93) rfl (by kernel_rfl) (fun _ _ _ h => h) (by rfl) ?hy43_93 (by assumption) ?rest43_93
        case hy43_93 => (intro w hSw; (try dsimp only at hSw); go_simp; try with_reducible rfl)
        try simp only [Act.put, List.setIfInBounds_toArray, List.set_cons_zero, List.set_cons_succ]
        refine takeH (i := 44) (v := ?v44_94) rfl (by kernel_rfl) (fun _ _ _ h => h) (by rfl) ?hy44_94 (by assumption) ?rest44_94
        case hy44_94 => (intro w hSw; (try dsimp only at hSw); go_simp; try with_reducible rfl)
        try simp only [Act.put, List.setIfInBounds_toArray, List.set_cons_zero, List.set_cons_succ]
        refine takeH (i := 45) (v := ?v45_95) rfl (by kernel_rfl) (fun _ _ _ h => h) (by rfl) ?hy45_95 (by assumption) ?rest45_95
        case hy45_95 => (intro w hSw; (try dsimp only at hSw); go_simp; try with_reducible rfl)
        try simp only [Act.put, List.setIfInBounds_toArray, List.set_cons_zero, List.set_cons_succ]
        refine takeH (i := 46) (v := ?v46_96) rfl (by kernel_rfl) (fun _ _ _ h => h) (by rfl) ?hy46_96 (by assumption) ?rest46_96
        case hy46_96 => (intro w hSw; (try dsimp only at hSw); go_simp; try with_reducible rfl)
        try simp only [Act.put, List.setIfInBounds_toArray, List.set_cons_zero, List.set_cons_succ]
        refine takeH (i := 47) (v := ?v47_97) rfl (by kernel_rfl) (fun _ _ _ h => h) (by rfl) ?hy47_97 (by assumption) ?rest47_97
        case hy47_97 => (intro w hSw; (try dsimp only at hSw); go_simp; try with_reducible rfl)
        try simp only [Act.put, List.setIfInBounds_toArray, List.set_cons_zero, List.set_cons_succ]
        refine takeH (i := 48) (v := ?v48_98) rfl (by kernel_rfl) (fun _ _ _ h => h) (by rfl) ?hy48_98 (by assumption) ?rest48_98
        case hy48_98 => (intro w hSw; (try dsimp only at hSw); go_simp; try with_reducible rfl)
        try simp only [Act.put, List.setIfInBounds_toArray, List.set_cons_zero, List.set_cons_succ]
        refine takeH (i := 49) (v := ?v49_99) rfl (by kernel_rfl) (fun _ _ _ h => h) (by rfl) ?hy49_99 (by assumption) ?rest49_99
        case hy49_99 => (intro w hSw; (try dsimp only at hSw); go_simp; try with_reducible rfl)
        try simp only [Act.put, List.setIfInBounds_toArray, List.set_cons_zero, List.set_cons_succ]
        refine takeH (i := 50) (v := ?v50_100) rfl (by kernel_rfl) (fun _ _ _ h => h) (by rfl) ?hy50_100 (by assumption) ?rest50_100
        case hy50_100 => (intro w hSw; (try dsimp only at hSw); go_simp; try with_reducible rfl)
        try simp only [Act.put, List.setIfInBounds_toArray, List.set_cons_zero, List.set_cons_succ]
        refine takeH (i := 51) (v := ?v51_101) rfl (by kernel_rfl) (fun _ _ _ h => h) (by rfl) ?hy51_101 (by assumption) ?rest51_101
        case hy51_101 => (intro w hSw; (try dsimp only at hSw); go_simp; try with_reducible rfl)
        try simp only [Act.put, List.setIfInBounds_toArray, List.set_cons_zero, List.set_cons_succ]
        refine takeH (i := 52) (v := ?v52_102) rfl (by kernel_rfl) (fun _ _ _ h => h) (by rfl) ?hy52_102 (by assumption) ?rest52_102
        case hy52_102 => (intro w hSw; (try dsimp only at hSw); go_simp; try with_reducible rfl)
        try simp only [Act.put, List.setIfInBounds_toArray, List.set_cons_zero, List.set_cons_succ]
        refine takeH (i := 53) (v := ?v53_103) rfl (by kernel_rfl) (fun _ _ _ h => h) (by rfl) ?hy53_103 (by assumption) ?rest53_103
        case hy53_103 => (intro w hSw; (try dsimp only at hSw); go_simp; try with_reducible rfl)
        try simp only [Act.put, List.setIfInBounds_toArray, List.set_cons_zero, List.set_cons_succ]
        refine takeH (i := 54) (v := ?v54_104) rfl (by kernel_rfl) (fun _ _ _ h => h) (by rfl) ?hy54_104 (by assumption) ?rest54_104
        case hy54_104 => (intro w hSw; (try dsimp only at hSw); go_simp; try with_reducible rfl)
        try simp only [Act.put, List.setIfInBounds_toArray, List.set_cons_zero, List.set_cons_succ]
        rcases HD.out with h55 | ⟨h55, h55a⟩
        · skip
          have c55 : ((id : Int).tmod 7 != 6) = false := by rw [Int.tmod_eq_emod_of_nonneg hi0]; simp; omega
          clear h55
          refine takeH (i := 55) (v := ?v55_105) rfl (by kernel_rfl) (fun _ _ _ h => h) (by rfl) ?hy55_105 (by assumption) ?rest55_105
          case hy55_105 => (intro w hSw; (try dsimp only at hSw); go_simp; try with_reducible rfl)
          try simp only [Act.put, List.setIfInBounds_toArray, List.set_cons_zero, List.set_cons_succ]
          refine takeH (i := 56) (v := ?v56_106) rfl (by kernel_rfl) (fun _ _ _ h => h) (by rfl) ?hy56_106 (by assumption) ?rest56_106
          case hy56_106 => (intro w hSw; (try dsimp only at hSw); go_simp; try with_reducible rfl)
          try simp only [Act.put, List.setIfInBounds_toArray, List.set_cons_zero, List.set_cons_succ]
          refine skipH (i := 57) rfl (by kernel_rfl) (fun _ _ _ h => h) (by kernel_rfl) (by assumption) ?_
          try simp only [Act.put, List.setIfInBounds_toArray, List.set_cons_zero, List.set_cons_succ]
          refine skipH (i := 58) rfl (by kernel_rfl) (fun _ _ _ h => h) (by kernel_rfl) (by assumption) ?_
          try simp only [Act.put, List.setIfInBounds_toArray, List.set_cons_zero, List.set_cons_succ]
          refine skipH (i := 59) rfl (by kernel_rfl) (fun _ _ _ h => h) (by kernel_rfl) (by assumption) ?_
          try simp only [Act.put, List.setIfInBounds_toArray, List.set_cons_zero, List.set_cons_succ]
          refine skipH (i := 60) rfl (by kernel_rfl) (fun _ _ _ h => h) (by kernel_rfl) (by assumption) ?_
          try simp only [Act.put, List.setIfInBounds_toArray, List.set_cons_zero, List.set_cons_succ]
          refine skipH (i := 61) rfl (by kernel_rfl) (fun _ _ _ h => h) (by kernel_rfl) (by assumption) ?_
          try simp only [Act.put, List.setIfInBounds_toArray, List.set_cons_zero, List.set_cons_succ]
          refine skipH (i := 62) rfl (by kernel_rfl) (fun _ _ _ h => h) (by kernel_rfl) (by assumption) ?_
          try simp only [Act.put, List.setIfInBounds_toArray, List.set_cons_zero, List.set_cons_succ]
          refine skipH (i := 63) rfl (by kernel_rfl) (fun _ _ _ h => h) (by kernel_rfl) (by assumption) ?_
          try simp only [Act.put, List.setIfInBounds_toArray, List.set_cons_zero, List.set_cons_succ]
          refine skipH (i := 64) rfl (by kernel_rfl) (fun _ _ _ h => h) (by kernel_rfl) (by assumption) ?_
          try simp only [Act.put, List.setIfInBounds_toArray, List.set_cons_zero, List.set_cons_succ]
          refine takeH (i := 65) (v := ?v65_107) rfl (by kernel_rfl) (fun _ _ _ h => h) (by rfl) ?hy65_107 (by assumption) ?rest65_107
          case hy65_107 => (intro w hSw; (try dsimp only at hSw); go_simp; try with_reducible rfl)
          try simp only [Act.put, List.setIfInBounds_toArray, List.set_cons_zero, List.set_cons_succ]
          refine takeH (i := 66) (v := ?v66_108) rfl (by kernel_rfl) (fun _ _ _ h => h) (by rfl) ?hy66_108 (by assumption) ?rest66_108
          case hy66_108 => (intro w hSw; (try dsimp only at hSw); go_simp; try with_reducible rfl)
          try simp only [Act.put, List.setIfInBounds_toArray, List.set_cons_zero, List.set_cons_succ]
          refine takeH (i := 67) (v := ?v67_109) rfl (by kernel_rfl) (fun _ _ _ h => h) (by rfl) ?hy67_109 (by assumption) ?rest67_109
          case hy67_109 => (intro w hSw; (try dsimp only at hSw); go_simp; try with_reducible rfl)
          try simp only [Act.put, List.setIfInBounds_toArray, List.set_cons_zero, List.set_cons_succ]
          refine takeH (i := 68) (v := ?v68_110) rfl (by kernel_rfl) (fun _ _ _ h => h) (by rfl) ?hy68_110 (by assumption) ?rest68_110
          case hy68_110 => (intro w hSw; (try dsimp only at hSw); go_simp; try with_reducible rfl)
          try simp only [Act.put, List.setIfInBounds_toArray, List.set_cons_zero, List.set_cons_succ]
          refine wpAnyH_ready (rs := [69]) (by kernel_rfl) (by simp) ?_
          refine consH rfl (fun K hK => ?_) (AllReadyH.nil)
          go_simp
          refine (Right_at _ (I7.out.inn.below (by first | exact hHeld29.1 | exact hHeld.1))).mono ?_
          rintro e w10 ⟨rfl, hb10⟩
          go_wp2_with fail
          refine hK.out _ _ ?_ (fun hHeld69 => ?_)
          · (first | assumption | (refine held_10 (by assumption) ?_; assumption) | (refine held_10 (below_ad _ _) ?_; assumption) | (refine held_10 (below_a _ _) ?_; assumption))
          clear hK K
          try simp only [Act.put, List.setIfInBounds_toArray, List.set_cons_zero, List.set_cons_succ]
          refine takeH (i := 70) (v := ?v70_111) rfl (by kernel_rfl) (fun _ _ _ h => h) (by rfl) ?hy70_111 (by assumption) ?rest70_111
          case hy70_111 => (intro w hSw; (try dsimp only at hSw); go_simp; try with_reducible rfl)
          try simp only [Act.put, List.setIfInBounds_toArray, List.set_cons_zero, List.set_cons_succ]
          refine takeH (i := 71) (v := ?v71_112) rfl (by kernel_rfl) (fun _ _ _ h => h) (by rfl) ?hy71_112 (by assumption) ?rest71_112
          case hy71_112 => (intro w hSw; (try dsimp only at hSw); go_simp; try with_reducible rfl)
          try simp only [Act.put, List.setIfInBounds_toArray, List.set_cons_zero, List.set_cons_succ]
          refine wpAnyH_done (by kernel_rfl) ?_ _
          obtain ⟨hb9, x0, x1, y0, y1, a0, a1, c0, c1, s0q, l0q⟩ := hHeld69
          have HB9 := Lib.hid hb9
          have f9 := (S7.out.below hb9 id (by omega)).2
          clear hb9
          go_wp2_with fail
          go_roundw
          case rel => exact ⟨k + 1, F6, by omega, by go_num, (I7.out.below HB9.out).set N7.out HWB.out, (V7.out.step ((Step.of HB9.out).cons bs)).step (Step.set _ _ _), N7.out, (S7.out.below HB9.out).put HXK.out (by rw [HL.out]; exact hlt)⟩
          case measure => simp [intOf]; omega
        · skip
          have c55 : ((id : Int).tmod 7 != 6) = true := by rw [Int.tmod_eq_emod_of_nonneg hi0]; simp; omega
          have c55b : (key != lv) = false := by rw [h55a]; simp
          clear h55 h55a
          refine takeH (i := 55) (v := ?v55_113) rfl (by kernel_rfl) (fun _ _ _ h => h) (by rfl) ?hy55_113 (by assumption) ?rest55_113
          case hy55_113 => (intro w hSw; (try dsimp only at hSw); go_simp; try with_reducible rfl)
          try simp only [Act.put, List.setIfInBounds_toArray, List.set_cons_zero, List.set_cons_succ]
          refine takeH (i := 56) (v := ?v56_114) rfl (by kernel_rfl) (fun _ _ _ h => h) (by rfl) ?hy56_114 (by assumption) ?rest56_114
          case hy56_114 => (intro w hSw; (try dsimp only at hSw); go_simp; try with_reducible rfl)
          try simp only [Act.put, List.setIfInBounds_toArray, List.set_cons_zero, List.set_cons_succ]
          refine takeH (i := 57) (v := ?v57_115) rfl (by kernel_rfl) (fun _ _ _ h => h) (by rfl) ?hy57_115 (by assumption) ?rest57_115
          case hy57_115 => (intro w hSw; (try dsimp only at hSw); go_simp; try with_reducible rfl)
          try simp only [Act.put, List.setIfInBounds_toArray, List.set_cons_zero, List.set_cons_succ]
          refine takeH (i := 58) (v := ?v58_116) rfl (by kernel_rfl) (fun _ _ _ h => h) (by rfl) ?hy58_116 (by assumption) ?rest58_116
          case hy58_116 => (intro w hSw; (try dsimp only at hSw); go_simp; try with_reducible rfl)
          try simp only [Act.put, List.setIfInBounds_toArray, List.set_cons_zero, List.set_cons_succ]
          refine takeH (i := 59) (v := ?v59_117) rfl (by kernel_rfl) (fun _ _ _ h => h) (by rfl) ?hy59_117 (by assumption) ?rest59_117
          case hy59_117 => (intro w hSw; (try dsimp only at hSw); go_simp; try with_reducible rfl)
          try simp only [Act.put, List.setIfInBounds_toArray, List.set_cons_zero, List.set_cons_succ]
          refine takeH (i := 60) (v := ?v60_118) rfl (by kernel_rfl) (fun _ _ _ h => h) (by rfl) ?hy60_118 (by assumption) ?rest60_118
          case hy60_118 => (intro w hSw; (try dsimp only at hSw); go_simp; try with_reducible rfl)
          try simp only [Act.put, List.setIfInBounds_toArray, List.set_cons_zero, List.set_cons_succ]
          refine takeH (i := 61) (v := ?v61_119) rfl (by kernel_rfl) (fun _ _ _ h => h) (by rfl) ?hy61_119 (by assumption) ?rest61_119
          case hy61_119 => (intro w hSw; (try dsimp only at hSw); go_simp; try with_reducible rfl)
          try simp only [Act.put, List.setIfInBounds_toArray, List.set_cons_zero, List.set_cons_succ]
          refine takeH (i := 62) (v := ?v62_120) rfl (by kernel_rfl) (fun _ _ _ h => h) (by rfl) ?hy62_120 (by assumption) ?rest62_120
          case hy62_120 => (intro w hSw; (try dsimp only at hSw); go_simp; try with_reducible rfl)
          try simp only [Act.put, List.setIfInBounds_toArray, List.set_cons_zero, List.set_cons_succ]
          refine takeH (i := 63) (v := ?v63_121) rfl (by kernel_rfl) (fun _ _ _ h => h) (by rfl) ?hy63_121 (by assumption) ?rest63_121
          case hy63_121 => (intro w hSw; (try dsimp only at hSw); go_simp; try with_reducible rfl)
          try simp only [Act.put, List.setIfInBounds_toArray, List.set_cons_zero, List.set_cons_succ]
          refine takeH (i := 64) (v := ?v64_122) rfl (by kernel_rfl) (fun _ _ _ h => h) (by rfl) ?hy64_122 (by assumption) ?rest64_122
          case hy64_122 => (intro w hSw; (try dsimp only at hSw); go_simp; try with_reducible rfl)
          try simp only [Act.put, List.setIfInBounds_toArray, List.set_cons_zero, List.set_cons_succ]
          refine takeH (i := 65) (v := ?v65_123) rfl (by kernel_rfl) (fun _ _ _ h => h) (by rfl) ?hy65_123 (by assumption) ?rest65_123
          case hy65_123 => (intro w hSw; (try dsimp only at hSw); go_simp; try with_reducible rfl)
          try simp only [Act.put, List.setIfInBounds_toArray, List.set_cons_zero, List.set_cons_succ]
          refine takeH (i := 66) (v := ?v66_124) rfl (by kernel_rfl) (fun _ _ _ h => h) (by rfl) ?hy66_124 (by assumption) ?rest66_124
          case hy66_124 => (intro w hSw; (try dsimp only at hSw); go_simp; try with_reducible rfl)
          try simp only [Act.put, List.setIfInBounds_toArray, List.set_cons_zero, List.set_cons_succ]
          refine takeH (i := 67) (v := ?v67_125) rfl (by kernel_rfl) (fun _ _ _ h => h) (by rfl) ?hy67_125 (by assumption) ?rest67_125
          case hy67_125 => (intro w hSw; (try dsimp only at hSw); go_simp; try with_reducible rfl)
          try simp only [Act.put, List.setIfInBounds_toArray, List.set_cons_zero, List.set_cons_succ]
          refine takeH (i := 68) (v := ?v68_126) rfl (by kernel_rfl) (fun _ _ _ h => h) (by rfl) ?hy68_126 (by assumption) ?rest68_126
          case hy68_126 => (intro w hSw; (try dsimp only at hSw); go_simp; try with_reducible rfl)
          try simp only [Act.put, List.setIfInBounds_toArray, List.set_cons_zero, List.set_cons_succ]
          refine wpAnyH_ready (rs := [69]) (by kernel_rfl) (by simp) ?_
          refine consH rfl (fun K hK => ?_) (AllReadyH.nil)
          go_simp
          refine (Right_at _ (I7.out.inn.below (by first | exact hHeld29.1 | exact hHeld.1))).mono ?_
          rintro e w10 ⟨rfl, hb10⟩
          go_wp2_with fail
          refine hK.out _ _ ?_ (fun hHeld69 => ?_)
          · (first | assumption | (refine held_10 (by assumption) ?_; assumption) | (refine held_10 (below_ad _ _) ?_; assumption) | (refine held_10 (below_a _ _) ?_; assumption))
          clear hK K
          try simp only [Act.put, List.setIfInBounds_toArray, List.set_cons_zero, List.set_cons_succ]
          refine takeH (i := 70) (v := ?v70_127) rfl (by kernel_rfl) (fun _ _ _ h => h) (by rfl) ?hy70_127 (by assumption) ?rest70_127
          case hy70_127 => (intro w hSw; (try dsimp only at hSw); go_simp; try with_reducible rfl)
          try simp only [Act.put, List.setIfInBounds_toArray, List.set_cons_zero, List.set_cons_succ]
          refine takeH (i := 71) (v := ?v71_128) rfl (by kernel_rfl) (fun _ _ _ h => h) (by rfl) ?hy71_128 (by assumption) ?rest71_128
          case hy71_128 => (intro w hSw; (try dsimp only at hSw); go_simp; try with_reducible rfl)
          try simp only [Act.put, List.setIfInBounds_toArray, List.set_cons_zero, List.set_cons_succ]
          refine wpAnyH_done (by kernel_rfl) ?_ _
          obtain ⟨hb9, x0, x1, y0, y1, a0, a1, c0, c1, s0q, l0q⟩ := hHeld69
          have HB9 := Lib.hid hb9
          have f9 := (S7.out.below hb9 id (by omega)).2
          clear hb9
          go_wp2_with fail
          go_roundw
          case rel => exact ⟨k + 1, F6, by omega, by go_num, (I7.out.below HB9.out).set N7.out HWB.out, (V7.out.step ((Step.of HB9.out).cons bs)).step (Step.set _ _ _), N7.out, (S7.out.below HB9.out).put HXK.out (by rw [HL.out]; exact hlt)⟩
          case measure => simp [intOf]; omega
    · have HZ := Lib.hid (show S.drop k = [] from List.drop_of_length_le (by rw [HL.out]; omega))
      have l1 : decide ((k : Int) < (m : Int)) = false := decide_eq_false (by omega)
      have l2 : decide (k < m) = false := decide_eq_false hlt
      have l3 : (k < m) = False := eq_false hlt
      clear hk hlt
      have IR' := Lib.hid (show WI w p 40 [] wr F by have := IR.out; rwa [HZ.out] at this)
      go_wp2_with fail
      refine (Pop_at wr IR'.out.inn).mono ?_
      rintro e w6 ⟨rfl, hA⟩
      rw [show popV ([] : Items) = .tuple #[.agg #[.int .i64 0, .int .u64 0], .int .i64 6] from rfl]
      obtain ⟨F6, h6, t6⟩ := IR'.out.step hA
      have I6 := Lib.hid h6
      clear hA h6 t6
      go_wp2_with fail
      have I7 := Lib.hid (I6.out.below (below_a w6 (.cells #[.int .i64 0, .int .u64 0] 28)))
      generalize w6.alloc (.cells #[.int .i64 0, .int .u64 0] 28) = w7 at *
      refine (LenH_at w7 I7.out.inn).mono ?_
      rintro e w8 ⟨rfl, rfl⟩
      go_wp2_with fail
      refine (AW.out _).mono ?_
      rintro e w9 ⟨rfl, hb9⟩
      have HB9 := Lib.hid (Below.step I7.out.bel hb9)
      clear hb9
      go_wp2_with fail
      go_ret
      exact ⟨rfl, HB9.out⟩
end Go.Proofs.Ytpbaegdmjmickaa
