/-
  Layer 22 (charge): Chain over each, by append laws; lists of entities as lists of triples.
-/
import Derived.Test.YtbddiagnijcmhaaChargeR
import Derived.OwnWalk
namespace Go.Proofs.Ytbddiagnijcmhaa
open Go.RowKit Go.Shelf
set_option linter.unusedVariables false
/-- the cells of a list of entities -/
def cellsE (l : List (Int × Int × Int)) : List Value := l.flatMap fun x => [.int .u64 x.1, .int .u32 x.2.1, .int .u32 x.2.2]
theorem cellsE_len (l : List (Int × Int × Int)) : (cellsE l).length = l.length * 3 := by
  induction l with
  | nil => rfl
  | cons x r ih => simp only [cellsE, List.flatMap_cons, List.length_append, List.length_cons, List.length_nil] at ih ⊢; omega
theorem cellsE_snoc (l : List (Int × Int × Int)) (x : Int × Int × Int) : cellsE (l ++ [x]) = cellsE l ++ [.int .u64 x.1, .int .u32 x.2.1, .int .u32 x.2.2] := by
  simp [cellsE]
/-- a slice that reads as a list of entities -/
def RdE (w : World) (a : Option Addr) (l : List (Int × Int × Int)) : Prop :=
  l = [] ∨ ∃ b off, a = some ⟨b, off, none⟩ ∧ ∀ (k : Nat) (x : Int × Int × Int), l[k]? = some x → w.cell? ⟨b, off + k * 3, none⟩ = some (.int .u64 x.1) ∧ w.cell? ⟨b, off + k * 3 + 1, none⟩ = some (.int .u32 x.2.1) ∧ w.cell? ⟨b, off + k * 3 + 2, none⟩ = some (.int .u32 x.2.2)
theorem RdE.carry {w w' : World} {a : Option Addr} {l : List (Int × Int × Int)} (h : RdE w a l) (hb : Below w.heap.size w w') : RdE w' a l := by
  rcases h with h | ⟨b, off, ha, h⟩
  · exact Or.inl h
  · exact Or.inr ⟨b, off, ha, fun k x hk => ⟨cell_later hb (h k x hk).1, cell_later hb (h k x hk).2.1, cell_later hb (h k x hk).2.2⟩⟩
theorem owns_below {w w' : World} {base : Nat} {e : TypeId} {size : Nat} {v : Value} {n : Nat} {xs : List Value} (h : w.ownsRow base e size v n xs) (hb : Below w.heap.size w w') : w'.ownsRow base e size v n xs := by
  obtain ⟨h1, h2⟩ := h
  refine ⟨h1, ?_⟩
  rcases h2 with h2 | ⟨g, cap, cur, hv, hg, hh, r⟩
  · exact Or.inl h2
  · have hlt : g < w.heap.size := by
      rcases Nat.lt_or_ge g w.heap.size with k | k
      · exact k
      · rw [Array.getElem?_eq_none k] at hh; cases hh
    exact Or.inr ⟨g, cap, cur, hv, hg, (hb.block g hlt).trans hh, r⟩
def FitsE (l : List (Int × Int × Int)) : Prop := ∀ x ∈ l, Ch.Fits x.1 x.2.1 x.2.2
/-- all entities are right, and the ticks, where there is an entity -/
def AllOk (l : List (Int × Int × Int)) (t : Int) : Prop := ∀ x ∈ l, Ch.Ok x.1 x.2.1 x.2.2 ∧ 0 ≤ t ∧ t ≤ 4294967295
def chg (t : Int) (x : Int × Int × Int) : Int × Int × Int := (Ch.addV x.1 x.2.1 x.2.2 t, Ch.addR x.1 x.2.1 x.2.2 t, x.2.2)

set_option maxHeartbeats 1000000 in
theorem chainF_any (v r c t : Int) (B : Nat) (w : World) (hf : Ch.Fits v r c) (hB : w.cell? ⟨B, 0, none⟩ = some (.int .i64 t)) :
    Calls Try.prog 36 #[.agg #[.int .u64 v, .int .u32 r, .int .u32 c], .pointer (some ⟨B, 0, none⟩)] w fun e w' => e = .returned (.tuple #[.agg #[.int .u64 (Ch.aV v r c t), .int .u32 (Ch.aR v r c t), .int .u32 (Ch.aW v r c t)], .int .i64 (Ch.aE v r c t)]) ∧ Below w.heap.size w w' := by
  have b1 := fun o => cell_al o hB
  have b2 := fun o o' => cell_al o' (cell_al o hB)
  go_enter Try.func36, Try.ntmps36
  go_wp2_with fail
  refine (Add_any v r c t _ hf).mono ?_; rintro e w1 ⟨rfl, hb1⟩
  obtain ⟨hc1, hf1⟩ := bcell hb1
  have hz1 : w.heap.size + 1 < w1.heap.size := by have := hb1.size; simp at this; omega
  go_wp2_with fail
  refine bodyPost_ret (v := .tuple #[.agg #[.int .u64 (Ch.aV v r c t), .int .u32 (Ch.aR v r c t), .int .u32 (Ch.aW v r c t)], .int .i64 (Ch.aE v r c t)]) (by simp [results, Try.results36, go_sem, hc1]) rfl ⟨rfl, ?_⟩
  repeat (first | exact Below.refl _ _ | refine Below.step ?_ (by assumption) | refine Below.setCell ?_ (by first | (simp; done) | (simp; omega) | omega) _ | refine Below.allocS ?_ _ | refine Below.drew ?_ | refine below_drewN ?_ _)
theorem addr_none (b off n : Nat) : (⟨b, off, none⟩ : Addr).add n = ⟨b, off + n, none⟩ := by
  unfold Addr.add
  by_cases h : n = 0
  · subst h; simp
  · simp [h]
theorem cell_at {w : World} {c : Array Value} {t : TypeId} {n i : Nat} {v : Value} (hn : n = w.heap.size) (h : c[i]? = some v) : (w.alloc (.cells c t)).cell? ⟨n, i, none⟩ = some v := by
  rw [World.cell?_alloc_at _ _ _ _ hn]; exact h
theorem infoEnt : (Try.prog.info? 25).map (fun i => (i.zero, i.size, i.bytes)) = some (some (.agg #[.int .u64 0, .int .u32 0, .int .u32 0]), 3, 16) := by kernel_rfl
def EachPost (l : List (Int × Int × Int)) (t : Int) (w : World) (e : Ending) (w' : World) : Prop :=
  Below w.heap.size w w' ∧ ((AllOk l t ∧ ∃ v, e = .returned (.tuple #[v, .bool true]) ∧ w'.ownsRow w.heap.size 25 3 v l.length (cellsE (l.map (chg t)))) ∨ (¬ AllOk l t ∧ e = .returned (.tuple #[.slice none 0 0, .bool false])))
set_option maxHeartbeats 1000000 in
theorem each_any (l : List (Int × Int × Int)) (t : Int) (a : Option Addr) (cap B : Nat) (w : World) (hl : l.length ≤ 1000) (hf : FitsE l) (hr : RdE w a l) (hB : w.cell? ⟨B, 0, none⟩ = some (.int .i64 t)) :
    Calls Try.prog 35 #[.slice a l.length cap, .func (.func 36) #[] #[.pointer (some ⟨B, 0, none⟩)]] w (EachPost l t w) := by
  obtain ⟨i0, hi, hz0, hz1, hz2⟩ := info_parts infoEnt
  have hbB := lt_of_cell hB
  generalize hn : l.length = n at hl
  rcases hr with hln | ⟨b, off, rfl, hc⟩
  · have hn0 : n ≤ 0 := by rw [← hn, hln]; exact Nat.le_refl _
    have HP : Hid (EachPost l t w = EachPost [] t w) := Lib.hid (by rw [hln])
    rw [HP.out]
    clear hn hln HP hf
    go_enter Try.func35, Try.ntmps35
    go_wp2_with (at_make; refine wpList_make_own _ rfl _ _ 50 rfl w.heap.size 25 i0 _ 3 Try.underlying50 hi hz0 hz1 _ _ _ n rfl rfl (by omega) ?b2 ?b3 (Nat.le_refl _) ?_)
    case b2 => rw [hz2]; omega
    case b3 => unfold maxLen; omega
    intro w0 hown0 hgrow0
    go_wp2_with fail
    have hB0 : Below w.heap.size w w0 := (Below.refl _ _).grown hgrow0 (Nat.le_refl _) (fun k h => by cases h)
    go_loopw [6, 16] (fun v s wr => s = .int .i64 0 ∧ wr.ownsRow w.heap.size 25 3 v n [] ∧ Below w.heap.size w wr) (fun _ s _ => 0)
    case atStart => exact ⟨rfl, by have h0 : n = 0 := (by omega); subst h0; exact hown0, hB0⟩
    case round =>
      obtain ⟨rfl, hown, hb⟩ := hrel
      go_wp2_with fail
      go_ret2
      have h0 : n = 0 := by omega
      subst h0
      exact ⟨hb, Or.inl ⟨(fun x hx => absurd hx List.not_mem_nil), _, rfl, hown⟩⟩
  · have HN := Lib.hid hn
    have HC := Lib.hid hc
    have HF := Lib.hid hf
    clear hn hc hf
    have hbb : 0 < n → b < w.heap.size := fun h => by
      have : 0 < l.length := by rw [HN.out]; exact h
      exact lt_of_cell (HC.out 0 _ (List.getElem?_eq_getElem this)).1
    go_enter Try.func35, Try.ntmps35
    go_wp2_with (at_make; refine wpList_make_own _ rfl _ _ 50 rfl w.heap.size 25 i0 _ 3 Try.underlying50 hi hz0 hz1 _ _ _ n rfl rfl (by omega) ?b2 ?b3 (Nat.le_refl _) ?_)
    case b2 => rw [hz2]; omega
    case b3 => unfold maxLen; omega
    intro w0 hown0 hgrow0
    go_wp2_with fail
    go_loopw [6, 16] (fun v s wr => ∃ k : Nat, k ≤ n ∧ s = .int .i64 k ∧ wr.ownsRow w.heap.size 25 3 v k (cellsE ((l.take k).map (chg t))) ∧ Below w.heap.size w wr ∧ Hid (AllOk (l.take k) t)) (fun _ s _ => n - (intOf s).toNat)
    case atStart => exact ⟨0, Nat.zero_le _, rfl, by simpa [cellsE] using hown0, (Below.refl _ _).grown hgrow0 (Nat.le_refl _) (fun k h => by cases h), Lib.hid fun x hx => by simp at hx⟩
    case round =>
      obtain ⟨k, hk, rfl, hown, hb, hall⟩ := hrel
      by_cases hlt : k < n
      · have z0 : decide ((k : Int) < (n : Int)) = true := by simp; omega
        have hkl : k < l.length := by rw [HN.out]; exact hlt
        obtain ⟨⟨v, r, c⟩, hx⟩ : ∃ x, l[k]? = some x := ⟨_, List.getElem?_eq_getElem hkl⟩
        have ft : Ch.Fits v r c := HF.out _ (List.mem_of_getElem? hx)
        have c0 := below_nat hb (hbb (by omega)) (HC.out k _ hx).1
        have c1 := below_nat hb (hbb (by omega)) (HC.out k _ hx).2.1
        have c2 := below_nat hb (hbb (by omega)) (HC.out k _ hx).2.2
        have hBt := below_nat hb hbB hB
        have HX := Lib.hid hx
        clear hx hkl
        simp only at c0 c1 c2
        have A1 := Lib.hid fun W h => chainF_any v r c t B W ft h
        by_cases hok : Ch.Ok v r c ∧ 0 ≤ t ∧ t ≤ 4294967295
        · go_wp2_with fail
          refine (A1.out _ (cell_al _ hBt)).mono ?_; rintro e w1 ⟨rfl, hb1⟩
          rw [show Ch.aE v r c t = 0 by unfold Ch.aE; rw [if_pos hok], show Ch.aV v r c t = Ch.addV v r c t by unfold Ch.aV; rw [if_pos hok], show Ch.aR v r c t = Ch.addR v r c t by unfold Ch.aR; rw [if_pos hok], show Ch.aW v r c t = c by unfold Ch.aW; rw [if_pos hok]]
          have hown1 := owns_below (hown.alloc _) hb1
          have hbw := Below.step (Below.allocS hb _) hb1
          have hsz := hbw.size
          go_wp2_with (at_builtin; refine wpList_append_own _ rfl (.tmp 28) (.tmp 30) 50 rfl w.heap.size 25 i0 (.agg #[.int .u64 0, .int .u32 0, .int .u32 0]) 3 16 Try.underlying50 hi hz0 hz1 hz2 rfl (by decide) _ _ _ rfl ((hown1.alloc _).alloc _) ⟨w1.heap.size + 1, 0, none⟩ 1 1 [.int .u64 (Ch.addV v r c t), .int .u32 (Ch.addR v r c t), .int .u32 c] rfl rfl ?c1 ?c2 ?c3 ?c4 ?c5 ?_)
          case c1 =>
            intro j u hj
            rw [addr_none]
            exact cell_at (by simp) (by simpa using hj)
          case c2 =>
            intro u hu
            simp only [List.mem_cons, List.not_mem_nil, or_false] at hu
            rcases hu with rfl | rfl | rfl <;> rfl
          case c3 => unfold maxLen; omega
          case c4 => omega
          case c5 => simp; omega
          intro v' w2 hown2 hgrow2 _
          have hb2 : Below w.heap.size w w2 := (Below.allocS (Below.allocS hbw _) _).grown hgrow2 (by simp; omega) (fun k hk => (hown1.lt k hk).1)
          clear hown hown1 hgrow2 c0 c1 c2 hBt
          have he : cellsE ((l.take (k + 1)).map (chg t)) = cellsE ((l.take k).map (chg t)) ++ [.int .u64 (Ch.addV v r c t), .int .u32 (Ch.addR v r c t), .int .u32 c] := by
            rw [List.take_add_one, HX.out]
            simp [cellsE, chg]
          have HE := Lib.hid he
          have HA : Hid (AllOk (l.take (k + 1)) t) := Lib.hid fun x hx => by
            rw [List.take_add_one, HX.out] at hx
            simp only [Option.toList_some, List.mem_append, List.mem_cons, List.not_mem_nil, or_false] at hx
            rcases hx with hx | rfl
            · exact hall.out x hx
            · exact hok
          clear he
          go_wp2_with fail
          go_roundw
          case rel => exact ⟨k + 1, by omega, by go_num, by rw [HE.out]; simpa only [List.map_take] using hown2, hb2, HA⟩
          case measure => simp [intOf]; omega
        · have hnok : ¬ AllOk l t := fun h => hok (h _ (List.mem_of_getElem? HX.out))
          have HNO := Lib.hid hnok
          clear hnok
          go_wp2_with fail
          refine (A1.out _ (cell_al _ hBt)).mono ?_; rintro e w1 ⟨rfl, hb1⟩
          rw [show Ch.aE v r c t = 2 by unfold Ch.aE; rw [if_neg hok], show Ch.aV v r c t = 0 by unfold Ch.aV; rw [if_neg hok], show Ch.aR v r c t = 0 by unfold Ch.aR; rw [if_neg hok], show Ch.aW v r c t = 0 by unfold Ch.aW; rw [if_neg hok]]
          go_wp2_with fail
          go_ret2
          exact ⟨Below.allocS (Below.step (Below.allocS hb _) hb1) _, Or.inr ⟨HNO.out, rfl⟩⟩
      · have hkn : k = n := by omega
        have HK := Lib.hid hkn
        clear hkn
        go_wp2_with fail
        go_ret2
        have e : l.take k = l := List.take_of_length_le (by rw [HN.out, HK.out]; exact Nat.le_refl _)
        have ha := hall.out
        rw [e] at ha hown
        refine ⟨hb, Or.inl ⟨ha, _, rfl, ?_⟩⟩
        rw [HN.out, ← HK.out]
        exact hown

/-! Chain -/
theorem owns_base {w : World} {base b' : Nat} {e : TypeId} {size : Nat} {v : Value} {n : Nat} {xs : List Value} (h : w.ownsRow base e size v n xs) (hb : b' ≤ base) : w.ownsRow b' e size v n xs := by
  obtain ⟨h1, h2⟩ := h
  refine ⟨h1, ?_⟩
  rcases h2 with h2 | ⟨g, cap, cur, hv, hg, r⟩
  · exact Or.inl h2
  · exact Or.inr ⟨g, cap, cur, hv, by omega, r⟩
def ChainPost (l : List (Int × Int × Int)) (t : Int) (E : TypeId) (w : World) (e : Ending) (w' : World) : Prop :=
  Below w.heap.size w w' ∧ (((AllOk l t ∧ 0 ≤ t ∧ t ≤ 4294967295) ∧ ∃ v, e = .returned (.tuple #[v, .int .i64 0]) ∧ w'.ownsRow w.heap.size E 3 v l.length (cellsE (l.map (chg t)))) ∨ (¬ (AllOk l t ∧ 0 ≤ t ∧ t ≤ 4294967295) ∧ e = .returned (.tuple #[.slice none 0 0, .int .i64 2])))
set_option maxHeartbeats 1000000 in
theorem Chain_any (l : List (Int × Int × Int)) (t : Int) (a : Option Addr) (cap : Nat) (w : World) (hl : l.length ≤ 1000) (hf : FitsE l) (hr : RdE w a l) :
    Calls Try.prog 21 #[.slice a l.length cap, .int .i64 t] w (ChainPost l t 25 w) := by
  have hr1 : ∀ o, RdE (w.alloc o) a l := fun o => by
    rcases hr with h | ⟨b, off, ha, h⟩
    · exact Or.inl h
    · exact Or.inr ⟨b, off, ha, fun k x hk => ⟨cell_al o (h k x hk).1, cell_al o (h k x hk).2.1, cell_al o (h k x hk).2.2⟩⟩
  have A1 := Lib.hid fun W h1 h2 => each_any l t a cap w.heap.size W hl hf h1 h2
  generalize hn : l.length = n at hl A1
  have HN := Lib.hid hn
  have HR := Lib.hid hr1
  clear hn hr hr1
  go_enter Try.func21, Try.ntmps21
  go_wp2_with fail
  refine (A1.out _ (HR.out _) (cell_at rfl rfl)).mono ?_
  rintro e w1 ⟨hb1, hp⟩
  have cT := cell_later hb1 (cell_nw w #[.int .i64 t] 3 0 _ rfl)
  have hsz := hb1.size
  rcases hp with ⟨hA, v, rfl, hown⟩ | ⟨hA, rfl⟩
  · have HA := Lib.hid hA
    have HO := Lib.hid hown
    clear hA hown
    by_cases ht : 0 ≤ t ∧ t ≤ 4294967295
    · have k2 := Lib.hid (Ch.tB_t ht.1 ht.2)
      go_wp2_with fail
      refine (ticked_any _ _).mono ?_; rintro e w2 ⟨rfl, rfl⟩; rw [k2.out]
      go_wp2_with fail
      go_ret2
      refine ⟨?_, Or.inl ⟨⟨HA.out, ht⟩, v, rfl, owns_base HO.out (by simp)⟩⟩
      repeat (first | exact Below.refl _ _ | refine Below.step ?_ (by assumption) | refine Below.setCell ?_ (by first | (simp; done) | (simp; omega) | omega) _ | refine Below.allocS ?_ _ | refine Below.drew ?_ | refine below_drewN ?_ _)
    · have k2 := Lib.hid (Ch.tB_f ht)
      go_wp2_with fail
      refine (ticked_any _ _).mono ?_; rintro e w2 ⟨rfl, rfl⟩; rw [k2.out]
      go_wp2_with fail
      go_ret2
      refine ⟨?_, Or.inr ⟨fun h => ht h.2, rfl⟩⟩
      repeat (first | exact Below.refl _ _ | refine Below.step ?_ (by assumption) | refine Below.setCell ?_ (by first | (simp; done) | (simp; omega) | omega) _ | refine Below.allocS ?_ _ | refine Below.drew ?_ | refine below_drewN ?_ _)
  · have HA := Lib.hid hA
    clear hA
    go_wp2_with fail
    go_ret2
    refine ⟨?_, Or.inr ⟨fun h => HA.out h.1, rfl⟩⟩
    repeat (first | exact Below.refl _ _ | refine Below.step ?_ (by assumption) | refine Below.setCell ?_ (by first | (simp; done) | (simp; omega) | omega) _ | refine Below.allocS ?_ _ | refine Below.drew ?_ | refine below_drewN ?_ _)

/-! Chain of the reference -/
theorem inforEnt : (Try.prog.info? 52).map (fun i => (i.zero, i.size, i.bytes)) = some (some (.agg #[.int .u64 0, .int .u32 0, .int .u32 0]), 3, 16) := by kernel_rfl
set_option maxHeartbeats 1000000 in
theorem rChain_any (l : List (Int × Int × Int)) (t : Int) (a : Option Addr) (cap : Nat) (w : World) (hl : l.length ≤ 1000) (hf : FitsE l) (hr : RdE w a l) (bt : -9223372036854775808 ≤ t ∧ t ≤ 9223372036854775807) :
    Calls Try.prog 22 #[.slice a l.length cap, .int .i64 t] w (ChainPost l t 52 w) := by
  obtain ⟨i0, hi, hz0, hz1, hz2⟩ := info_parts inforEnt
  generalize hn : l.length = n at hl
  rcases hr with hln | ⟨b, off, rfl, hc⟩
  · have hn0 : n ≤ 0 := by rw [← hn, hln]; exact Nat.le_refl _
    have HP : Hid (ChainPost l t 52 w = ChainPost [] t 52 w) := Lib.hid (by rw [hln])
    rw [HP.out]
    clear hn hln HP hf
    by_cases ht : 0 ≤ t ∧ t ≤ 4294967295
    · have k2 := Lib.hid (Ch.tB_t ht.1 ht.2)
      go_enter Try.func22, Try.ntmps22
      go_wp2_with fail
      go_loopw [6, 7] (fun v s wr => v = .slice none 0 0 ∧ s = .int .i64 0 ∧ wr = w) (fun _ s _ => 0)
      case atStart => exact ⟨rfl, rfl, rfl⟩
      case round =>
        obtain ⟨rfl, rfl, rfl⟩ := hrel
        go_wp2_with fail
        refine (rTicks_any _ _).mono ?_; rintro e w2 ⟨rfl, rfl⟩; rw [k2.out]
        go_wp2_with fail
        go_ret2
        exact ⟨Below.refl _ _, Or.inl ⟨⟨(fun x hx => absurd hx List.not_mem_nil), ht⟩, _, rfl, World.ownsRow_nil _ _ _ _⟩⟩
    · have k2 := Lib.hid (Ch.tB_f ht)
      go_enter Try.func22, Try.ntmps22
      go_wp2_with fail
      go_loopw [6, 7] (fun v s wr => v = .slice none 0 0 ∧ s = .int .i64 0 ∧ wr = w) (fun _ s _ => 0)
      case atStart => exact ⟨rfl, rfl, rfl⟩
      case round =>
        obtain ⟨rfl, rfl, rfl⟩ := hrel
        go_wp2_with fail
        refine (rTicks_any _ _).mono ?_; rintro e w2 ⟨rfl, rfl⟩; rw [k2.out]
        go_wp2_with fail
        go_ret2
        exact ⟨Below.refl _ _, Or.inr ⟨fun h => ht h.2, rfl⟩⟩
  · have HN := Lib.hid hn
    have HC := Lib.hid hc
    have HF := Lib.hid hf
    clear hn hc hf
    have hbb : 0 < n → b < w.heap.size := fun h => by
      have : 0 < l.length := by rw [HN.out]; exact h
      exact lt_of_cell (HC.out 0 _ (List.getElem?_eq_getElem this)).1
    go_enter Try.func22, Try.ntmps22
    go_wp2_with fail
    go_loopw [6, 7] (fun v s wr => ∃ k : Nat, k ≤ n ∧ s = .int .i64 k ∧ wr.ownsRow w.heap.size 52 3 v k (cellsE ((l.take k).map (chg t))) ∧ Below w.heap.size w wr ∧ Hid (AllOk (l.take k) t)) (fun _ s _ => n - (intOf s).toNat)
    case atStart => exact ⟨0, Nat.zero_le _, rfl, by simpa [cellsE] using World.ownsRow_nil _ _ _ _, Below.refl _ _, Lib.hid fun x hx => by simp at hx⟩
    case round =>
      obtain ⟨k, hk, rfl, hown, hb, hall⟩ := hrel
      by_cases hlt : k < n
      · have z0 : decide ((k : Int) < (n : Int)) = true := by simp; omega
        have hkl : k < l.length := by rw [HN.out]; exact hlt
        obtain ⟨⟨v, r, c⟩, hx⟩ : ∃ x, l[k]? = some x := ⟨_, List.getElem?_eq_getElem hkl⟩
        have ft : Ch.Fits v r c := HF.out _ (List.mem_of_getElem? hx)
        have c0 := below_nat hb (hbb (by omega)) (HC.out k _ hx).1
        have c1 := below_nat hb (hbb (by omega)) (HC.out k _ hx).2.1
        have c2 := below_nat hb (hbb (by omega)) (HC.out k _ hx).2.2
        have HX := Lib.hid hx
        clear hx hkl
        simp only at c0 c1 c2
        have A1 := Lib.hid fun W => rAdd_any v r c t W ft
        by_cases hok : Ch.Ok v r c ∧ 0 ≤ t ∧ t ≤ 4294967295
        · go_wp2_with fail
          refine (A1.out _).mono ?_; rintro e w1 ⟨rfl, hb1⟩
          rw [show Ch.aE v r c t = 0 by unfold Ch.aE; rw [if_pos hok], show Ch.aV v r c t = Ch.addV v r c t by unfold Ch.aV; rw [if_pos hok], show Ch.aR v r c t = Ch.addR v r c t by unfold Ch.aR; rw [if_pos hok], show Ch.aW v r c t = c by unfold Ch.aW; rw [if_pos hok]]
          have hown1 := owns_below hown hb1
          have hbw := Below.step hb hb1
          have hsz := hbw.size
          go_wp2_with (at_builtin; refine wpList_append_own _ rfl (.tmp 28) (.tmp 30) 51 rfl w.heap.size 52 i0 (.agg #[.int .u64 0, .int .u32 0, .int .u32 0]) 3 16 Try.underlying51 hi hz0 hz1 hz2 rfl (by decide) _ _ _ rfl ((hown1.alloc _).alloc _) ⟨w1.heap.size + 1, 0, none⟩ 1 1 [.int .u64 (Ch.addV v r c t), .int .u32 (Ch.addR v r c t), .int .u32 c] rfl rfl ?c1 ?c2 ?c3 ?c4 ?c5 ?_)
          case c1 =>
            intro j u hj
            rw [addr_none]
            exact cell_at (by simp) (by simpa using hj)
          case c2 =>
            intro u hu
            simp only [List.mem_cons, List.not_mem_nil, or_false] at hu
            rcases hu with rfl | rfl | rfl <;> rfl
          case c3 => unfold maxLen; omega
          case c4 => omega
          case c5 => simp; omega
          intro v' w2 hown2 hgrow2 _
          have hb2 : Below w.heap.size w w2 := (Below.allocS (Below.allocS hbw _) _).grown hgrow2 (by simp; omega) (fun k hk => (hown1.lt k hk).1)
          clear hown hown1 hgrow2 c0 c1 c2
          have he : cellsE ((l.take (k + 1)).map (chg t)) = cellsE ((l.take k).map (chg t)) ++ [.int .u64 (Ch.addV v r c t), .int .u32 (Ch.addR v r c t), .int .u32 c] := by
            rw [List.take_add_one, HX.out]
            simp [cellsE, chg]
          have HE := Lib.hid he
          have HA : Hid (AllOk (l.take (k + 1)) t) := Lib.hid fun x hx => by
            rw [List.take_add_one, HX.out] at hx
            simp only [Option.toList_some, List.mem_append, List.mem_cons, List.not_mem_nil, or_false] at hx
            rcases hx with hx | rfl
            · exact hall.out x hx
            · exact hok
          clear he
          go_wp2_with fail
          go_roundw
          case rel => exact ⟨k + 1, by omega, by go_num, by rw [HE.out]; simpa only [List.map_take] using hown2, hb2, HA⟩
          case measure => simp [intOf]; omega
        · have hnok : ¬ (AllOk l t ∧ 0 ≤ t ∧ t ≤ 4294967295) := fun h => hok (h.1 _ (List.mem_of_getElem? HX.out))
          have HNO := Lib.hid hnok
          clear hnok
          go_wp2_with fail
          refine (A1.out _).mono ?_; rintro e w1 ⟨rfl, hb1⟩
          rw [show Ch.aE v r c t = 2 by unfold Ch.aE; rw [if_neg hok], show Ch.aV v r c t = 0 by unfold Ch.aV; rw [if_neg hok], show Ch.aR v r c t = 0 by unfold Ch.aR; rw [if_neg hok], show Ch.aW v r c t = 0 by unfold Ch.aW; rw [if_neg hok]]
          go_wp2_with fail
          go_ret2
          exact ⟨Below.allocS (Below.step hb hb1) _, Or.inr ⟨HNO.out, rfl⟩⟩
      · have hkn : k = n := by omega
        have HK := Lib.hid hkn
        clear hkn
        have e : l.take k = l := List.take_of_length_le (by rw [HN.out, HK.out]; exact Nat.le_refl _)
        have ha := hall.out
        rw [e] at ha
        have HA := Lib.hid ha
        have HO := Lib.hid hown
        have HE := Lib.hid e
        clear ha hown e
        by_cases ht : 0 ≤ t ∧ t ≤ 4294967295
        · have k2 := Lib.hid (Ch.tB_t ht.1 ht.2)
          go_wp2_with fail
          refine (rTicks_any _ _).mono ?_; rintro e w2 ⟨rfl, rfl⟩; rw [k2.out]
          go_wp2_with fail
          go_ret2
          refine ⟨hb, Or.inl ⟨⟨HA.out, ht⟩, _, rfl, ?_⟩⟩
          have := HO.out
          rw [HE.out] at this
          rw [HN.out, ← HK.out]
          exact this
        · have k2 := Lib.hid (Ch.tB_f ht)
          go_wp2_with fail
          refine (rTicks_any _ _).mono ?_; rintro e w2 ⟨rfl, rfl⟩; rw [k2.out]
          go_wp2_with fail
          go_ret2
          exact ⟨hb, Or.inr ⟨fun h => ht h.2, rfl⟩⟩
end Go.Proofs.Ytbddiagnijcmhaa
