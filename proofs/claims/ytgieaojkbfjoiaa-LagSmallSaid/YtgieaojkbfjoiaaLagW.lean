/-
  The walks of layer 39 (lag): what the methods of a meter return; readers make only new memory ('Below').
-/
import Derived.Test.YtgieaojkbfjoiaaLagLay
import Derived.Test.YtgieaojkbfjoiaaKit
import Derived.Test.YtgieaojkbfjoiaaLagM
import Derived.Maps.OwnSet
import Derived.Maps.OwnOps
import Derived.OwnWalk
namespace Go.Proofs.Ytgieaojkbfjoiaa
open Go.RowKit Go.Maps Go.IntWalk
set_option linter.unusedVariables false

theorem lawI : Keyed Try.prog 3 := int_keyed Try.underlying3
theorem zeroI (w : World) : (zeroValue 3).run Try.prog w = .ok (.int .i64 0) w := by kernel_rfl
/-- the map of the places -/
def PlacesOf (D : DataW Unit) (l : List (Int × Int × Int)) : Prop :=
  (∀ (k : Nat) (x : Int × Int × Int), l[k]? = some x → has D (.int .i64 x.1) = true ∧ D.atKey (.int .i64 x.1) (.lit (.int .i64 0)) = .lit (.int .i64 k)) ∧
  (∀ id : Int, (∀ x ∈ l, x.1 ≠ id) → has D (.int .i64 id) = false)
/-- A METER IN THE HEAP: its block p, the block g of its runs, the map's block bm. -/
structure MeterAt (w : World) (p g bm cap : Nat) (l : List (Int × Int × Int)) (n : Nat) : Prop where
  good : Good l
  len : l.length = n
  ncap : n ≤ cap
  c0 : w.cell? ⟨p, 0, none⟩ = some (.slice (some ⟨g, 0, none⟩) n cap)
  c1 : w.cell? ⟨p, 1, none⟩ = some (.map (some bm))
  c2 : w.cell? ⟨p, 2, none⟩ = some (.int .i64 (sumR l))
  c3 : w.cell? ⟨p, 3, none⟩ = some (.int .i64 (sumW l))
  fp : ∀ j, w.frozen? ⟨p, j, none⟩ = false
  fg : ∀ j, w.frozen? ⟨g, j, none⟩ = false
  runs : ∀ (k : Nat) (x : Int × Int × Int), l[k]? = some x → w.cell? ⟨g, k * 3, none⟩ = some (.int .i64 x.1) ∧ w.cell? ⟨g, k * 3 + 1, none⟩ = some (.int .i64 x.2.1) ∧ w.cell? ⟨g, k * 3 + 2, none⟩ = some (.int .i64 x.2.2)
  map : ∃ (m : Nat) (D : DataW Unit), w.ownsMap Try.prog 3 (plainElem Try.prog 3) bm m D ∧ PlacesOf D l
  apart : p ≠ g ∧ p ≠ bm ∧ g ≠ bm
theorem MeterAt.pos {w : World} {p g bm cap : Nat} {l : List (Int × Int × Int)} {n : Nat} (h : MeterAt w p g bm cap l n) : 0 < n := by rw [← h.len]; exact h.good.pos

set_option maxHeartbeats 400000 in
theorem some_any (p g bm cap : Nat) (l : List (Int × Int × Int)) (n : Nat) (w : World) (h : MeterAt w p g bm cap l n) :
    Calls Try.prog 27 #[.pointer (some ⟨p, 0, none⟩)] w fun e w' => e = .returned (.bool true) ∧ w = w' := by
  have c0 := h.c0
  have z : decide (0 < n) = true := by have := h.pos; simp; omega
  have H := Lib.hid h
  clear h
  go_enter Try.func27, Try.ntmps27
  go_wp2
  go_ret
  exact ⟨rfl, rfl⟩

set_option maxHeartbeats 400000 in
theorem lag_any (p : Nat) (l : List (Int × Int × Int)) (a b c : Int) (w : World) (B : Bounds l (a, b, c)) (c2 : w.cell? ⟨p, 2, none⟩ = some (.int .i64 (sumR l))) (c3 : w.cell? ⟨p, 3, none⟩ = some (.int .i64 (sumW l))) :
    Calls Try.prog 28 #[.pointer (some ⟨p, 0, none⟩), .agg #[.int .i64 a, .int .i64 b, .int .i64 c]] w fun e w' => e = .returned (.int .i64 (lagV l (a, b, c))) ∧ Below w.heap.size w w' := by
  have hL : wrap64 (wrap64 (sumR l * b) - wrap64 (c * sumW l)) = lagV l (a, b, c) := by
    obtain ⟨_, _, _, _, _, _, _, a1, a2, b1, b2, _⟩ := B
    simp only at a1 a2 b1 b2
    unfold lagV
    rw [wrap64_in (sumR l * b) (by omega), wrap64_in (c * sumW l) (by omega), wrap64_in _ (by omega)]
  have HL := Lib.hid hL
  clear hL B
  generalize sumR l = tot at c2 HL
  generalize sumW l = wt at c3 HL
  have c2_1 := fun o1 => cell_al o1 c2
  have c3_1 := fun o1 => cell_al o1 c3
  have d0 := cell_nw w #[.int .i64 a, .int .i64 b, .int .i64 c] 64 0 _ rfl
  have d1 := cell_nw w #[.int .i64 a, .int .i64 b, .int .i64 c] 64 1 _ rfl
  have d2 := cell_nw w #[.int .i64 a, .int .i64 b, .int .i64 c] 64 2 _ rfl
  go_enter Try.func28, Try.ntmps28
  go_wp2
  go_quiet (fail)
  go_wp2
  go_ret
  refine ⟨ret_of (congrArg (Value.int .i64) HL.out), ?_⟩
  repeat (first | exact Below.refl _ _ | refine Below.step ?_ (by assumption) | refine Below.setCell ?_ (by first | (simp; done) | (simp; omega) | omega) _ | refine Below.allocS ?_ _ | refine Below.drew ?_ | refine below_drewN ?_ _)
set_option maxRecDepth 100000 in
set_option maxHeartbeats 400000 in
theorem find_any (p g bm cap : Nat) (l : List (Int × Int × Int)) (n : Nat) (id : Int) (w : World) (h : MeterAt w p g bm cap l n) (hid : (Lit.int .i64 id).wf = true) :
    Calls Try.prog 26 #[.pointer (some ⟨p, 0, none⟩), .int .i64 id] w fun e w' => w = w' ∧
      ((∃ k x, l[k]? = some x ∧ x.1 = id ∧ e = .returned (.tuple #[.pointer (some ⟨g, k * 3, none⟩), .bool true])) ∨
       ((∀ x ∈ l, x.1 ≠ id) ∧ e = .returned (.tuple #[.pointer none, .bool false]))) := by
  have c0 := h.c0
  have c1 := h.c1
  obtain ⟨m, D, hown, hpl⟩ := h.map
  have hkey := keyOf_int_mk Try.underlying3 hid
  have A1 := Lib.hid fun W => some_any p g bm cap l n W
  have H := Lib.hid h
  clear h
  go_enter Try.func26, Try.ntmps26
  go_wp2_with fail
  refine (A1.out _ H.out).mono ?_; rintro e w1 ⟨rfl, rfl⟩
  have cases : (∃ (k : Nat) (x : Int × Int × Int), l[k]? = some x ∧ x.1 = id) ∨ (∀ x ∈ l, x.1 ≠ id) := by
    by_cases hx : ∃ x ∈ l, x.1 = id
    · obtain ⟨x, hm, he⟩ := hx
      obtain ⟨k, hk⟩ := List.getElem?_of_mem hm
      exact Or.inl ⟨k, x, hk, he⟩
    · exact Or.inr fun x hm he => hx ⟨x, hm, he⟩
  rcases cases with ⟨k, ⟨x1, x2, x3⟩, hx, hxe⟩ | hno
  · obtain ⟨hh, ha⟩ := hpl.1 k _ hx
    have hkn : k < n := by rw [← H.out.len]; exact (List.getElem?_eq_some_iff.1 hx).1
    simp only at hxe hh ha
    subst hxe
    have HX := Lib.hid hx
    have HA := Lib.hid ha
    have hin : (k : Int) < (n : Int) := by omega
    have hk0 : (0 : Int) ≤ (k : Int) := by omega
    clear hx ha hpl
    go_wp2_with (at_lookup; refine wpList_lookup_own_ok_int _ rfl _ _ 53 rfl 3 3 .i64 lawI Try.underlying53 Try.underlying3 (zeroI _) bm m D rfl hown _ _ rfl hkey ?_; intro c hat hwc; have hck : c = (k : Int) := (Lit.int.inj (DataW.lit.inj (hat.symm.trans HA.out))).2; clear hat hwc; subst hck)
    go_ret2
    exact ⟨rfl, Or.inl ⟨k, _, HX.out, rfl, by go_num⟩⟩
  · have hh := hpl.2 _ hno
    have HN := Lib.hid hno
    clear hno hpl
    go_wp2_with (at_lookup; refine wpList_lookup_own_ok_int _ rfl _ _ 53 rfl 3 3 .i64 lawI Try.underlying53 Try.underlying3 (zeroI _) bm m D rfl hown _ _ rfl hkey ?_; intro c hat hwc; clear hat hwc)
    go_ret2
    exact ⟨rfl, Or.inr ⟨HN.out, rfl⟩⟩
set_option maxRecDepth 100000 in
set_option maxHeartbeats 400000 in
theorem Total_any (p g bm cap : Nat) (l : List (Int × Int × Int)) (n : Nat) (w : World) (h : MeterAt w p g bm cap l n) :
    Calls Try.prog 18 #[.pointer (some ⟨p, 0, none⟩)] w fun e w' => e = .returned (.int .i64 (sumR l)) ∧ w = w' := by
  have c2 := h.c2
  have A1 := Lib.hid fun W => some_any p g bm cap l n W
  have H := Lib.hid h
  clear h
  go_enter Try.func18, Try.ntmps18
  go_wp2_with fail
  refine (A1.out _ H.out).mono ?_; rintro e w1 ⟨rfl, rfl⟩
  go_wp2
  go_ret
  exact ⟨rfl, rfl⟩
set_option maxRecDepth 100000 in
set_option maxHeartbeats 400000 in
theorem Weight_any (p g bm cap : Nat) (l : List (Int × Int × Int)) (n : Nat) (w : World) (h : MeterAt w p g bm cap l n) :
    Calls Try.prog 25 #[.pointer (some ⟨p, 0, none⟩)] w fun e w' => e = .returned (.int .i64 (sumW l)) ∧ w = w' := by
  have c3 := h.c3
  have A1 := Lib.hid fun W => some_any p g bm cap l n W
  have H := Lib.hid h
  clear h
  go_enter Try.func25, Try.ntmps25
  go_wp2_with fail
  refine (A1.out _ H.out).mono ?_; rintro e w1 ⟨rfl, rfl⟩
  go_wp2
  go_ret
  exact ⟨rfl, rfl⟩
/-- the place of a task -/
def At (l : List (Int × Int × Int)) (id : Int) (k : Nat) (x : Int × Int × Int) : Prop := l[k]? = some x ∧ x.1 = id
def NotIn (l : List (Int × Int × Int)) (id : Int) : Prop := ∀ x ∈ l, x.1 ≠ id
set_option maxRecDepth 100000 in
set_option maxHeartbeats 400000 in
theorem Ran_any (p g bm cap : Nat) (l : List (Int × Int × Int)) (n : Nat) (id : Int) (w : World) (h : MeterAt w p g bm cap l n) (hid : (Lit.int .i64 id).wf = true) :
    Calls Try.prog 23 #[.pointer (some ⟨p, 0, none⟩), .int .i64 id] w fun e w' => w = w' ∧
      ((∃ k x, At l id k x ∧ e = .returned (.tuple #[.int .i64 x.2.2, .bool true])) ∨ (NotIn l id ∧ e = .returned (.tuple #[.int .i64 0, .bool false]))) := by
  have A1 := Lib.hid fun W => fun h => find_any p g bm cap l n id W h hid
  have H := Lib.hid h
  clear h
  go_enter Try.func23, Try.ntmps23
  go_wp2_with fail
  refine (A1.out _ H.out).mono ?_; rintro e w1 ⟨rfl, ⟨k, ⟨x1, x2, x3⟩, hx, hxe, rfl⟩ | ⟨hno, rfl⟩⟩
  · obtain ⟨r0, r1, r2⟩ := H.out.runs k _ hx
    simp only at r0 r1 r2
    have HX := Lib.hid hx
    have HE := Lib.hid hxe
    clear hx hxe
    go_wp2
    go_ret2
    exact ⟨rfl, Or.inl ⟨k, _, ⟨HX.out, HE.out⟩, rfl⟩⟩
  · have HN := Lib.hid hno
    clear hno
    go_wp2
    go_ret2
    exact ⟨rfl, Or.inr ⟨HN.out, rfl⟩⟩
set_option maxRecDepth 100000 in
set_option maxHeartbeats 400000 in
theorem Lag_any (p g bm cap : Nat) (l : List (Int × Int × Int)) (n : Nat) (id : Int) (w : World) (h : MeterAt w p g bm cap l n) (hid : (Lit.int .i64 id).wf = true) :
    Calls Try.prog 13 #[.pointer (some ⟨p, 0, none⟩), .int .i64 id] w fun e w' => Below w.heap.size w w' ∧
      ((∃ k x, At l id k x ∧ e = .returned (.tuple #[.int .i64 (lagV l x), .bool true])) ∨ (NotIn l id ∧ e = .returned (.tuple #[.int .i64 0, .bool false]))) := by
  have A1 := Lib.hid fun W => fun h => find_any p g bm cap l n id W h hid
  have c2 := h.c2
  have c3 := h.c3
  have H := Lib.hid h
  clear h
  go_enter Try.func13, Try.ntmps13
  go_wp2_with fail
  refine (A1.out _ H.out).mono ?_; rintro e w1 ⟨rfl, ⟨k, ⟨x1, x2, x3⟩, hx, hxe, rfl⟩ | ⟨hno, rfl⟩⟩
  · obtain ⟨r0, r1, r2⟩ := H.out.runs k _ hx
    simp only at r0 r1 r2
    have HX := Lib.hid hx
    have HE := Lib.hid hxe
    have A2 := Lib.hid (lag_any p l x1 x2 x3 w (H.out.good.bounds hx) c2 c3)
    clear hx hxe
    go_wp2_with fail
    refine A2.out.mono ?_; rintro e w1 ⟨rfl, hb1⟩
    go_wp2
    go_ret2
    exact ⟨hb1, Or.inl ⟨k, _, ⟨HX.out, HE.out⟩, rfl⟩⟩
  · have HN := Lib.hid hno
    clear hno
    go_wp2
    go_ret2
    exact ⟨Below.refl _ _, Or.inr ⟨HN.out, rfl⟩⟩
end Go.Proofs.Ytgieaojkbfjoiaa
