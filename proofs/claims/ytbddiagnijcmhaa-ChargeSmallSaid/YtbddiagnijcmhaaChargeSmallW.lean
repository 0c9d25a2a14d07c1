/-
  ChargeSmall: the walk of the law: five loops, 'tells' in the innermost.
-/
import Derived.Test.YtbddiagnijcmhaaChargeTl
import Derived.OpenShut
import Derived.Deep.RegionHeld3
namespace Go.Proofs.Ytbddiagnijcmhaa
open Go.RowKit Go.Shelf
set_option linter.unusedVariables false
/-- n integers of a kind at a block's head -/
def RowK (k : IntKind) (B n : Nat) (w : World) : Prop := ∀ i : Nat, i < n → ∃ a : Int, w.cell? ⟨B, i, none⟩ = some (.int k a) ∧ (Lit.int k a).wf = true
theorem RowK.carry {k : IntKind} {B n : Nat} {w w' : World} (h : RowK k B n w) (hb : Below w.heap.size w w') : RowK k B n w' := fun i hi => by
  obtain ⟨a, ha, wa⟩ := h i hi
  exact ⟨a, cell_later hb ha, wa⟩
theorem RowK.al {k : IntKind} {B n : Nat} {w : World} (h : RowK k B n w) (o : Obj) : RowK k B n (w.alloc o) := fun i hi => by
  obtain ⟨a, ha, wa⟩ := h i hi
  exact ⟨a, cell_al o ha, wa⟩
theorem RowK.new {k : IntKind} {w : World} {l : List Int} {t : TypeId} {c : Array Value} (hc : c = (l.map (Value.int k)).toArray) (hl : ∀ a ∈ l, (Lit.int k a).wf = true) : RowK k w.heap.size l.length (w.alloc (.cells c t)) := fun i hi => by
  subst hc
  exact ⟨l[i], cell_nw _ _ _ _ _ (by simp [hi]), hl _ (List.getElem_mem hi)⟩
def Inv (w wr : World) : Prop := Below w.heap.size w wr ∧ RowK .u32 w.heap.size 8 wr ∧ RowK .u64 (w.heap.size + 1) 7 wr ∧ RowK .i64 (w.heap.size + 2) 8 wr
theorem Inv.carry {w a b : World} (h : Inv w a) (hb : Below a.heap.size a b) : Inv w b := ⟨Below.step h.1 hb, h.2.1.carry hb, h.2.2.1.carry hb, h.2.2.2.carry hb⟩
theorem fits_mk {v r c : Int} (h1 : 0 ≤ v ∧ v ≤ 18446744073709551615) (h2 : 0 ≤ r ∧ r ≤ 4294967295) (h3 : 0 ≤ c ∧ c ≤ 4294967295) : Ch.Fits v r c := ⟨h1.1, h1.2, h2.1, h2.2, h3.1, h3.2⟩
set_option maxRecDepth 100000 in
set_option maxHeartbeats 4000000 in
theorem ChargeSmall_true (w : World) :
    Calls Try.prog 9 #[] w fun e w' => e = .returned (.bool true) ∧ Below w.heap.size w w' := by
  go_enter Try.func9, Try.ntmps9
  go_wp2_with fail
  go_loopw [21] (fun s wr => ∃ k : Nat, k ≤ 8 ∧ s = .int .i64 k ∧ Inv w wr) (fun s _ => 8 - (intOf s).toNat)
  case atStart =>
    refine ⟨0, by omega, rfl, ?_, ?_, ?_, ?_⟩
    · repeat (first | exact Below.refl _ _ | refine Below.step ?_ (by assumption) | refine Below.setCell ?_ (by first | (simp; done) | (simp; omega) | omega) _ | refine Below.allocS ?_ _ | refine Below.drew ?_ | refine below_drewN ?_ _)
    · exact ((RowK.new (l := [0, 1, 2, 3, 1024, 65535, 65536, 65537]) rfl (by decide)).al _).al _
    · have := RowK.new (w := w.alloc (.cells #[.int .u32 0, .int .u32 1, .int .u32 2, .int .u32 3, .int .u32 1024, .int .u32 65535, .int .u32 65536, .int .u32 65537] 23)) (k := .u64) (l := [0, 1, 4503599627370496, 18442240474082181119, 18446744073708503039, 18446744073709551614, 18446744073709551615]) (t := 22) rfl (by decide)
      rw [World.size_alloc] at this
      exact this.al _
    · have := RowK.new (w := (w.alloc (.cells #[.int .u32 0, .int .u32 1, .int .u32 2, .int .u32 3, .int .u32 1024, .int .u32 65535, .int .u32 65536, .int .u32 65537] 23)).alloc (.cells #[.int .u64 0, .int .u64 1, .int .u64 4503599627370496, .int .u64 18442240474082181119, .int .u64 18446744073708503039, .int .u64 18446744073709551614, .int .u64 18446744073709551615] 22)) (k := .i64) (l := [-1, 0, 1, 2, 4096, 4294967295, 4294967296, -9223372036854775808]) (t := 3) rfl (by decide)
      rw [World.size_alloc, World.size_alloc] at this
      exact this
  case round =>
    obtain ⟨k1, hk1, rfl, hI⟩ := hrel
    by_cases hlt1 : k1 < 8
    · have z1 : decide ((k1 : Int) < 8) = true := by simp; omega
      obtain ⟨x1, hx1, wx1⟩ := hI.2.1 k1 hlt1
      have bx1 := bounds_u32 wx1
      go_wp2_with fail
      clear hx1
      obtain ⟨wo1, rfl⟩ : ∃ wo : World, wo = wr := ⟨_, rfl⟩
      go_loopw [28] (fun s wr => ∃ k : Nat, k ≤ 7 ∧ s = .int .i64 k ∧ Inv w wr) (fun s _ => 7 - (intOf s).toNat)
      case atStart => exact ⟨0, by omega, rfl, hI⟩
      case round =>
        clear hI
        obtain ⟨k2, hk2, rfl, hI⟩ := hrel
        by_cases hlt2 : k2 < 7
        · have z2 : decide ((k2 : Int) < 7) = true := by simp; omega
          obtain ⟨x2, hx2, wx2⟩ := hI.2.2.1 k2 hlt2
          have bx2 := bounds_u64 wx2
          go_wp2_with fail
          clear hx2
          obtain ⟨wo2, rfl⟩ : ∃ wo : World, wo = wr := ⟨_, rfl⟩
          go_loopw [35] (fun s wr => ∃ k : Nat, k ≤ 8 ∧ s = .int .i64 k ∧ Inv w wr) (fun s _ => 8 - (intOf s).toNat)
          case atStart => exact ⟨0, by omega, rfl, hI⟩
          case round =>
            clear hI
            obtain ⟨k3, hk3, rfl, hI⟩ := hrel
            by_cases hlt3 : k3 < 8
            · have z3 : decide ((k3 : Int) < 8) = true := by simp; omega
              obtain ⟨x3, hx3, wx3⟩ := hI.2.2.2 k3 hlt3
              have bx3 := bounds_i64 wx3
              go_wp2_with fail
              clear hx3
              obtain ⟨y1, hy1, wy1⟩ := hI.2.1 ((k1 + k3 + 1) % 8) (by omega)
              obtain ⟨y2, hy2, wy2⟩ := hI.2.2.1 ((k2 + k3) % 7) (by omega)
              obtain ⟨y3, hy3, wy3⟩ := hI.2.1 ((k1 + k2) % 8) (by omega)
              have by1 := bounds_u32 wy1
              have by2 := bounds_u64 wy2
              have by3 := bounds_u32 wy3
              have hI4 : Inv w (wr.alloc (.cells #[.int .u32 0, .int .u32 1, .int .u32 (x1 / 2), .int .u32 ((x1 - 1) % 4294967296), .int .u32 x1] 23)) ∧ RowK .u32 wr.heap.size 5 (wr.alloc (.cells #[.int .u32 0, .int .u32 1, .int .u32 (x1 / 2), .int .u32 ((x1 - 1) % 4294967296), .int .u32 x1] 23)) := by
                refine ⟨⟨Below.allocS hI.1 _, hI.2.1.al _, hI.2.2.1.al _, hI.2.2.2.al _⟩, RowK.new (l := [0, 1, x1 / 2, (x1 - 1) % 4294967296, x1]) rfl ?_⟩
                intro a ha
                simp only [List.mem_cons, List.not_mem_nil, or_false] at ha
                rcases ha with rfl | rfl | rfl | rfl | rfl
                all_goals exact WalkArith.wf_u32 (by omega)
              have c1 := cell_al (.cells #[.int .u32 0, .int .u32 1, .int .u32 (x1 / 2), .int .u32 ((x1 - 1) % 4294967296), .int .u32 x1] 23) hy1
              have c2 := cell_al (.cells #[.int .u32 0, .int .u32 1, .int .u32 (x1 / 2), .int .u32 ((x1 - 1) % 4294967296), .int .u32 x1] 23) hy2
              have c3 := cell_al (.cells #[.int .u32 0, .int .u32 1, .int .u32 (x1 / 2), .int .u32 ((x1 - 1) % 4294967296), .int .u32 x1] 23) hy3
              have HB : wr.heap.size < (wr.alloc (.cells #[.int .u32 0, .int .u32 1, .int .u32 (x1 / 2), .int .u32 ((x1 - 1) % 4294967296), .int .u32 x1] 23)).heap.size := by simp
              clear hy1 hy2 hy3 hI
              generalize hB4 : wr.heap.size = B4 at hI4 HB
              have HB4 := Lib.hid hB4
              clear hB4
              generalize wr.alloc (.cells #[.int .u32 0, .int .u32 1, .int .u32 (x1 / 2), .int .u32 ((x1 - 1) % 4294967296), .int .u32 x1] 23) = wo3 at hI4 c1 c2 c3 HB
              go_loopw [47] (fun s wr => ∃ k : Nat, k ≤ 5 ∧ s = .int .i64 k ∧ Below wo3.heap.size wo3 wr) (fun s _ => 5 - (intOf s).toNat)
              case atStart => exact ⟨0, by omega, rfl, Below.refl _ _⟩
              case round =>
                obtain ⟨k4, hk4, rfl, hb4⟩ := hrel
                by_cases hlt4 : k4 < 5
                · have z4 : decide ((k4 : Int) < 5) = true := by simp; omega
                  obtain ⟨x4, hx4, wx4⟩ := (hI4.2.carry hb4) k4 hlt4
                  have bx4 := bounds_u32 wx4
                  have d1 := cell_later hb4 c1
                  have d2 := cell_later hb4 c2
                  have d3 := cell_later hb4 c3
                  have d1_1 := fun o => cell_al o d1
                  have d2_1 := fun o o' => cell_al o' (cell_al o d2)
                  go_wp2_with fail
                  clear d1_1 d2_1 hx4
                  obtain ⟨wo4, rfl⟩ : ∃ wo : World, wo = wr := ⟨_, rfl⟩
                  have f0 : Below wo3.heap.size wo3 (((wo4.alloc (.cells #[.int .u64 x2, .int .u32 x4, .int .u32 x1] 25)).alloc (.cells #[.int .u64 x2, .int .u32 (x4 / 2), .int .u32 y1] 25)).alloc (.cells #[.int .u64 (IntKind.u64.wrap (x2 + 1)), .int .u64 (IntKind.u64.wrap (x2 - 1)), .int .u64 y2, .int .u64 (IntKind.u64.wrap (x2 + IntKind.u64.wrap x3))] 22)) := Below.allocS (Below.allocS (Below.allocS hb4 _) _) _
                  have e1 : ∀ j v, (#[.int .u64 x2, .int .u32 x4, .int .u32 x1] : Array Value)[j]? = some v → (((wo4.alloc (.cells #[.int .u64 x2, .int .u32 x4, .int .u32 x1] 25)).alloc (.cells #[.int .u64 x2, .int .u32 (x4 / 2), .int .u32 y1] 25)).alloc (.cells #[.int .u64 (IntKind.u64.wrap (x2 + 1)), .int .u64 (IntKind.u64.wrap (x2 - 1)), .int .u64 y2, .int .u64 (IntKind.u64.wrap (x2 + IntKind.u64.wrap x3))] 22)).cell? ⟨wo4.heap.size, j, none⟩ = some v := fun j v h => cell_al _ (cell_al _ (cell_nw _ _ _ _ _ h))
                  have e2 : ∀ j v, (#[.int .u64 x2, .int .u32 (x4 / 2), .int .u32 y1] : Array Value)[j]? = some v → (((wo4.alloc (.cells #[.int .u64 x2, .int .u32 x4, .int .u32 x1] 25)).alloc (.cells #[.int .u64 x2, .int .u32 (x4 / 2), .int .u32 y1] 25)).alloc (.cells #[.int .u64 (IntKind.u64.wrap (x2 + 1)), .int .u64 (IntKind.u64.wrap (x2 - 1)), .int .u64 y2, .int .u64 (IntKind.u64.wrap (x2 + IntKind.u64.wrap x3))] 22)).cell? ⟨wo4.heap.size + 1, j, none⟩ = some v := fun j v h => cell_al _ (by have := cell_nw (wo4.alloc (.cells #[.int .u64 x2, .int .u32 x4, .int .u32 x1] 25)) #[.int .u64 x2, .int .u32 (x4 / 2), .int .u32 y1] 25 j v h; rwa [World.size_alloc] at this)
                  have e3 : RowK .u64 (wo4.heap.size + 1 + 1) 4 (((wo4.alloc (.cells #[.int .u64 x2, .int .u32 x4, .int .u32 x1] 25)).alloc (.cells #[.int .u64 x2, .int .u32 (x4 / 2), .int .u32 y1] 25)).alloc (.cells #[.int .u64 (IntKind.u64.wrap (x2 + 1)), .int .u64 (IntKind.u64.wrap (x2 - 1)), .int .u64 y2, .int .u64 (IntKind.u64.wrap (x2 + IntKind.u64.wrap x3))] 22)) := by
                    have := RowK.new (w := (wo4.alloc (.cells #[.int .u64 x2, .int .u32 x4, .int .u32 x1] 25)).alloc (.cells #[.int .u64 x2, .int .u32 (x4 / 2), .int .u32 y1] 25)) (k := .u64) (l := [IntKind.u64.wrap (x2 + 1), IntKind.u64.wrap (x2 - 1), y2, IntKind.u64.wrap (x2 + IntKind.u64.wrap x3)]) (t := 22) rfl (by
                      intro a ha
                      simp only [List.mem_cons, List.not_mem_nil, or_false] at ha
                      rcases ha with rfl | rfl | rfl | rfl
                      all_goals first | exact wy2 | exact wf_wrap _ _)
                    rw [World.size_alloc, World.size_alloc] at this
                    exact this
                  have p0 := e1 0 _ rfl
                  have p1 := e1 1 _ rfl
                  have p2 := e1 2 _ rfl
                  have q0 := e2 0 _ rfl
                  have q1 := e2 1 _ rfl
                  have q2 := e2 2 _ rfl
                  have r0 := cell_al (.cells #[.int .u64 (IntKind.u64.wrap (x2 + 1)), .int .u64 (IntKind.u64.wrap (x2 - 1)), .int .u64 y2, .int .u64 (IntKind.u64.wrap (x2 + IntKind.u64.wrap x3))] 22) (cell_al (.cells #[.int .u64 x2, .int .u32 (x4 / 2), .int .u32 y1] 25) (cell_al (.cells #[.int .u64 x2, .int .u32 x4, .int .u32 x1] 25) d3))
                  clear e1 e2 d1 d2 d3
                  generalize ((wo4.alloc (.cells #[.int .u64 x2, .int .u32 x4, .int .u32 x1] 25)).alloc (.cells #[.int .u64 x2, .int .u32 (x4 / 2), .int .u32 y1] 25)).alloc (.cells #[.int .u64 (IntKind.u64.wrap (x2 + 1)), .int .u64 (IntKind.u64.wrap (x2 - 1)), .int .u64 y2, .int .u64 (IntKind.u64.wrap (x2 + IntKind.u64.wrap x3))] 22) = wo5 at f0 e3 p0 p1 p2 q0 q1 q2 r0
                  go_loopw [84] (fun s wr => ∃ k : Nat, k ≤ 4 ∧ s = .int .i64 k ∧ Below wo5.heap.size wo5 wr) (fun s _ => 4 - (intOf s).toNat)
                  case atStart => exact ⟨0, by omega, rfl, Below.refl _ _⟩
                  case round =>
                    obtain ⟨k5, hk5, rfl, hb5⟩ := hrel
                    by_cases hlt5 : k5 < 4
                    · have z5 : decide ((k5 : Int) < 4) = true := by simp; omega
                      obtain ⟨x5, hx5, wx5⟩ := (e3.carry hb5) k5 hlt5
                      have bx5 := bounds_u64 wx5
                      have A1 := Lib.hid fun W => tells_any x2 x4 x1 x2 (x4 / 2) y1 x3 y3 x5 W (fits_mk bx2 bx4 bx1) (fits_mk bx2 (by omega) by1) bx3 (by omega) bx5
                      replace p0 : wr.cell? ⟨wo4.heap.size, 0, none⟩ = some (.int .u64 x2) := by first | exact cell_later hb5 (p0) | exact cell_later hb5 (cell_al _ (p0)) | exact cell_later hb5 (cell_al _ (cell_al _ (p0))) | exact cell_later hb5 (cell_dr (p0)) | exact cell_later hb5 (cell_dr (cell_al _ (p0))) | exact cell_later hb5 (cell_drN _ (p0)) | exact cell_later hb5 (cell_drN _ (cell_al _ (p0)))
                      replace p1 : wr.cell? ⟨wo4.heap.size, 1, none⟩ = some (.int .u32 x4) := by first | exact cell_later hb5 (p1) | exact cell_later hb5 (cell_al _ (p1)) | exact cell_later hb5 (cell_al _ (cell_al _ (p1))) | exact cell_later hb5 (cell_dr (p1)) | exact cell_later hb5 (cell_dr (cell_al _ (p1))) | exact cell_later hb5 (cell_drN _ (p1)) | exact cell_later hb5 (cell_drN _ (cell_al _ (p1)))
                      replace p2 : wr.cell? ⟨wo4.heap.size, 2, none⟩ = some (.int .u32 x1) := by first | exact cell_later hb5 (p2) | exact cell_later hb5 (cell_al _ (p2)) | exact cell_later hb5 (cell_al _ (cell_al _ (p2))) | exact cell_later hb5 (cell_dr (p2)) | exact cell_later hb5 (cell_dr (cell_al _ (p2))) | exact cell_later hb5 (cell_drN _ (p2)) | exact cell_later hb5 (cell_drN _ (cell_al _ (p2)))
                      replace q0 : wr.cell? ⟨wo4.heap.size + 1, 0, none⟩ = some (.int .u64 x2) := by first | exact cell_later hb5 (q0) | exact cell_later hb5 (cell_al _ (q0)) | exact cell_later hb5 (cell_al _ (cell_al _ (q0))) | exact cell_later hb5 (cell_dr (q0)) | exact cell_later hb5 (cell_dr (cell_al _ (q0))) | exact cell_later hb5 (cell_drN _ (q0)) | exact cell_later hb5 (cell_drN _ (cell_al _ (q0)))
                      replace q1 : wr.cell? ⟨wo4.heap.size + 1, 1, none⟩ = some (.int .u32 (x4 / 2)) := by first | exact cell_later hb5 (q1) | exact cell_later hb5 (cell_al _ (q1)) | exact cell_later hb5 (cell_al _ (cell_al _ (q1))) | exact cell_later hb5 (cell_dr (q1)) | exact cell_later hb5 (cell_dr (cell_al _ (q1))) | exact cell_later hb5 (cell_drN _ (q1)) | exact cell_later hb5 (cell_drN _ (cell_al _ (q1)))
                      replace q2 : wr.cell? ⟨wo4.heap.size + 1, 2, none⟩ = some (.int .u32 y1) := by first | exact cell_later hb5 (q2) | exact cell_later hb5 (cell_al _ (q2)) | exact cell_later hb5 (cell_al _ (cell_al _ (q2))) | exact cell_later hb5 (cell_dr (q2)) | exact cell_later hb5 (cell_dr (cell_al _ (q2))) | exact cell_later hb5 (cell_drN _ (q2)) | exact cell_later hb5 (cell_drN _ (cell_al _ (q2)))
                      replace r0 : wr.cell? ⟨w.heap.size, (k1 + k2) % 8, none⟩ = some (.int .u32 y3) := by first | exact cell_later hb5 (r0) | exact cell_later hb5 (cell_al _ (r0)) | exact cell_later hb5 (cell_al _ (cell_al _ (r0))) | exact cell_later hb5 (cell_dr (r0)) | exact cell_later hb5 (cell_dr (cell_al _ (r0))) | exact cell_later hb5 (cell_drN _ (r0)) | exact cell_later hb5 (cell_drN _ (cell_al _ (r0)))
                      go_wp2_with fail
                      have u1 : IntKind.i64.wrap ((k1 : Int) + (k2 : Int)) = (k1 : Int) + (k2 : Int) := IntWalk.i64_in _ (by omega)
                      have u2 : IntKind.i64.wrap y3 = y3 := IntWalk.i64_in _ (by omega)
                      have u3 : 0 ≤ ((k1 : Int) + (k2 : Int)) % 8 := by omega
                      have u4 : ((k1 : Int) + (k2 : Int)) % 8 < 8 := by omega
                      have u5 : ((k1 : Int) + (k2 : Int)).tmod 8 = ((k1 : Int) + (k2 : Int)) % 8 := Int.tmod_eq_emod_of_nonneg (by omega)
                      have u6 : (((k1 : Int) + (k2 : Int)) % 8).toNat = (k1 + k2) % 8 := by omega
                      have u7 : IntKind.i64.wrap (((k1 : Int) + (k2 : Int)) % 8) = ((k1 : Int) + (k2 : Int)) % 8 := IntWalk.i64_in _ (by omega)
                      have hS0 : Below wr.heap.size wr wr.drew ∧ wr.drew.cell? ⟨wo4.heap.size, 0, none⟩ = some (.int .u64 x2) ∧ wr.drew.cell? ⟨wo4.heap.size, 1, none⟩ = some (.int .u32 x4) ∧ wr.drew.cell? ⟨wo4.heap.size, 2, none⟩ = some (.int .u32 x1) ∧ wr.drew.cell? ⟨wo4.heap.size + 1, 0, none⟩ = some (.int .u64 x2) ∧ wr.drew.cell? ⟨wo4.heap.size + 1, 1, none⟩ = some (.int .u32 (x4 / 2)) ∧ wr.drew.cell? ⟨wo4.heap.size + 1, 2, none⟩ = some (.int .u32 y1) ∧ wr.drew.cell? ⟨w.heap.size, (k1 + k2) % 8, none⟩ = some (.int .u32 y3) := ⟨(Below.drew (Below.refl _ _)), cell_dr p0, cell_dr p1, cell_dr p2, cell_dr q0, cell_dr q1, cell_dr q2, cell_dr r0⟩
                      go_region_held3 (fun w' => Below wr.heap.size wr w' ∧ w'.cell? ⟨wo4.heap.size, 0, none⟩ = some (.int .u64 x2) ∧ w'.cell? ⟨wo4.heap.size, 1, none⟩ = some (.int .u32 x4) ∧ w'.cell? ⟨wo4.heap.size, 2, none⟩ = some (.int .u32 x1) ∧ w'.cell? ⟨wo4.heap.size + 1, 0, none⟩ = some (.int .u64 x2) ∧ w'.cell? ⟨wo4.heap.size + 1, 1, none⟩ = some (.int .u32 (x4 / 2)) ∧ w'.cell? ⟨wo4.heap.size + 1, 2, none⟩ = some (.int .u32 y1) ∧ w'.cell? ⟨w.heap.size, (k1 + k2) % 8, none⟩ = some (.int .u32 y3)) (first | assumption | (refine held_7 (by assumption) ?_; assumption)) (first | (go_at_call 20; refine (A1.out _).mono ?_; rintro e w6 ⟨rfl, hb6⟩))
                      clear hS0
                      clear u1 u2 u3 u4 u5 u6 u7
                      rename_i hH
                      have hq := hH.1
                      clear hH
                      go_wp2_with fail
                      go_roundw
                      case rel => first | exact ⟨k5 + 1, by omega, by go_num, Below.step hb5 hq⟩ | ((repeat apply Exists.intro); exact ⟨⟨k5 + 1, by omega, by go_num, Below.step hb5 hq⟩, rfl⟩)
                      case measure => simp [intOf]; omega
                    · go_wp2_with fail
                      go_roundw
                      case rel => exact ⟨k4 + 1, by omega, by go_num, Below.step f0 hb5⟩
                      case measure => simp [intOf]; omega
                · go_wp2_with fail
                  go_roundw
                  case rel => exact ⟨k3 + 1, by omega, by go_num, hI4.1.carry hb4⟩
                  case measure => simp [intOf]; omega
            · go_wp2_with fail
              go_roundw
              case rel => exact ⟨k2 + 1, by omega, by go_num, hI⟩
              case measure => simp [intOf]; omega
        · go_wp2_with fail
          go_roundw
          case rel => exact ⟨k1 + 1, by omega, by go_num, hI⟩
          case measure => simp [intOf]; omega
    · go_wp2_with fail
      refine (tells_any _ _ _ _ _ _ _ _ _ _ ?_ ?_ ?_ ?_ ?_).mono ?_
      · exact fits_mk (by omega) (by omega) (by omega)
      · exact fits_mk (by omega) (by omega) (by omega)
      · omega
      · omega
      · omega
      rintro e w1 ⟨rfl, hb1⟩
      go_wp2_with fail
      refine (awake_any _).mono ?_; rintro e w2 ⟨rfl, hb2⟩
      go_wp2_with fail
      go_ret
      refine ⟨rfl, ?_⟩
      have hI1 := hI.1
      exact Below.step (Below.step hI1 hb1) hb2
end Go.Proofs.Ytbddiagnijcmhaa
