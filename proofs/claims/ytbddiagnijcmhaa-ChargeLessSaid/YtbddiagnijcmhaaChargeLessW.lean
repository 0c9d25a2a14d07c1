/-
  ChargeLess: the walk of the law, by the contracts of the package.
-/
import Derived.Test.YtbddiagnijcmhaaChargeR
import Derived.OpenShut
import Derived.Deep.RegionHeld3
import Derived.Deep.RegionWith
import Derived.Deep.DeepCutAuto
namespace Go.Proofs.Ytbddiagnijcmhaa
open Go.RowKit Go.Shelf
set_option linter.unusedVariables false
namespace Ch
theorem less_irr (v r c : Int) : lessB v r c v r c = false := by simp [lessB]
theorem less_asym {v r c v2 r2 c2 : Int} (h : lessB v r c v2 r2 c2 = true) : lessB v2 r2 c2 v r c = false := by
  unfold lessB at h ⊢
  by_cases e : v = v2
  · rw [if_pos e] at h; rw [if_pos e.symm]; simp at h ⊢; omega
  · rw [if_neg e] at h; rw [if_neg (fun k => e k.symm)]; simp at h ⊢; omega
theorem mul3 {a b c : Int} : a * b * c = a * c * b := by rw [Int.mul_assoc, Int.mul_comm b c, Int.mul_assoc]
theorem less_trans {v1 r1 c1 v2 r2 c2 v3 r3 c3 : Int} (h1 : Ok v1 r1 c1) (h2 : Ok v2 r2 c2) (h3 : Ok v3 r3 c3) (p : lessB v1 r1 c1 v2 r2 c2 = true) (q : lessB v2 r2 c2 v3 r3 c3 = true) : lessB v1 r1 c1 v3 r3 c3 = true := by
  obtain ⟨_, _, _, _, a, _, _⟩ := h1
  obtain ⟨_, _, _, _, b, _, _⟩ := h2
  obtain ⟨_, _, _, _, c, _, _⟩ := h3
  unfold lessB at p q ⊢
  by_cases e : v1 = v2
  · subst e
    rw [if_pos rfl] at p
    by_cases f : v1 = v3
    · subst f
      rw [if_pos rfl] at q ⊢
      rw [decide_eq_true_iff] at p q ⊢
      have p1 := Int.mul_lt_mul_of_pos_right p (show 0 < c3 by omega)
      have q1 := Int.mul_lt_mul_of_pos_right q (show 0 < c1 by omega)
      have e1 : r1 * c2 * c3 = r1 * c3 * c2 := mul3
      have e2 : r2 * c1 * c3 = r2 * c3 * c1 := mul3
      have e3 : r3 * c2 * c1 = r3 * c1 * c2 := mul3
      rw [e1, e2] at p1
      rw [e3] at q1
      exact Int.lt_of_mul_lt_mul_right (Int.lt_trans p1 q1) (by omega)
    · rw [if_neg f] at q ⊢; exact q
  · rw [if_neg e] at p
    by_cases f : v2 = v3
    · subst f; rw [if_neg e]; exact p
    · rw [if_neg f] at q
      simp at p q
      rw [if_neg (by omega)]; simp; omega
theorem less_neg {v1 r1 c1 v2 r2 c2 v3 r3 c3 : Int} (h1 : Ok v1 r1 c1) (h2 : Ok v2 r2 c2) (h3 : Ok v3 r3 c3) (p : lessB v1 r1 c1 v2 r2 c2 = false) (q : lessB v2 r2 c2 v3 r3 c3 = false) : lessB v1 r1 c1 v3 r3 c3 = false := by
  obtain ⟨_, _, _, _, a, _, _⟩ := h1
  obtain ⟨_, _, _, _, b, _, _⟩ := h2
  obtain ⟨_, _, _, _, c, _, _⟩ := h3
  unfold lessB at p q ⊢
  by_cases e : v1 = v2
  · subst e
    rw [if_pos rfl] at p
    by_cases f : v1 = v3
    · subst f
      rw [if_pos rfl] at q ⊢
      rw [decide_eq_false_iff_not] at p q ⊢
      have p1 := Int.mul_le_mul_of_nonneg_right (show r2 * c1 ≤ r1 * c2 by omega) (show 0 ≤ c3 by omega)
      have q1 := Int.mul_le_mul_of_nonneg_right (show r3 * c2 ≤ r2 * c3 by omega) (show 0 ≤ c1 by omega)
      have e1 : r1 * c2 * c3 = r1 * c3 * c2 := mul3
      have e2 : r2 * c1 * c3 = r2 * c3 * c1 := mul3
      have e3 : r3 * c2 * c1 = r3 * c1 * c2 := mul3
      rw [e1, e2] at p1
      rw [e3] at q1
      have := Int.le_of_mul_le_mul_right (Int.le_trans q1 p1) (show 0 < c2 by omega)
      omega
    · rw [if_neg f] at q ⊢; exact q
  · rw [if_neg e] at p
    by_cases f : v2 = v3
    · subst f; rw [if_neg e]; exact p
    · rw [if_neg f] at q
      simp at p q
      rw [if_neg (by omega)]; simp; omega
theorem less_charged {v r c : Int} (h : Ok v r c) (hv : v < 18446744073709551615) : lessB v r c (addV v r c 1) (addR v r c 1) c = true := by
  have h0 := h
  obtain ⟨h1, h2, h3, h4, h5, h6, _⟩ := h
  unfold addV addR
  by_cases he : atEnd v r c 1
  · rw [if_pos he, if_pos he]
    unfold lessB
    rw [if_neg (by omega)]
    simp; omega
  · rw [if_neg he, if_neg he]
    have g := Int.ediv_nonneg (show 0 ≤ 1 * 1048576 + r by omega) (show 0 ≤ c by omega)
    unfold lessB
    by_cases z : v = v + (1 * 1048576 + r) / c
    · rw [if_pos z]
      have e0 : (1 * 1048576 + r) / c = 0 := by omega
      have := Int.mul_ediv_add_emod (1 * 1048576 + r) c
      rw [e0] at this
      have e1 : (1 * 1048576 + r) % c = 1048576 + r := by omega
      rw [e1]
      rw [decide_eq_true_iff]
      exact Int.mul_lt_mul_of_pos_right (by omega) (by omega)
    · rw [if_neg z, decide_eq_true_iff]; omega
end Ch
set_option maxHeartbeats 1000000 in
theorem lessC_any (v r c v2 r2 c2 : Int) (b : Bool) (w : World) (h : Ch.Ok v r c) (h2 : Ch.Ok v2 r2 c2) (hb : Ch.lessB v r c v2 r2 c2 = b) :
    Calls Try.prog 18 #[.agg #[.int .u64 v, .int .u32 r, .int .u32 c], .agg #[.int .u64 v2, .int .u32 r2, .int .u32 c2]] w fun e w' => e = .returned (.bool b) ∧ Below w.heap.size w w' := by
  have A1 := Lib.hid fun W => Less_eq v r c v2 r2 c2 b W h h2 hb
  clear hb
  cases b
  all_goals
    go_enter Try.func18, Try.ntmps18
    go_wp2_with fail
    refine (A1.out _).mono ?_; rintro e w1 ⟨rfl, hb1⟩
    go_wp2_with fail
    go_ret
    refine ⟨rfl, ?_⟩
    repeat (first | exact Below.refl _ _ | refine Below.step ?_ (by assumption) | refine Below.setCell ?_ (by first | (simp; done) | (simp; omega) | omega) _ | refine Below.allocS ?_ _ | refine Below.drew ?_ | refine below_drewN ?_ _)
theorem cell_nwa {w : World} {c : Array Value} {t : TypeId} {n i : Nat} {v : Value} (hn : n = w.heap.size) (h : c[i]? = some v) : (w.alloc (.cells c t)).cell? ⟨n, i, none⟩ = some v := by
  rw [World.cell?_alloc_at _ _ _ _ hn]; exact h
theorem cell_nwb {w : World} {o1 o2 : Obj} {c : Array Value} {t : TypeId} {i : Nat} {v : Value} (h0 : True = True) (h : c[i]? = some v) : (((w.alloc o1).alloc o2).alloc (.cells c t)).cell? ⟨w.heap.size + 1 + 1, i, none⟩ = some v :=
  cell_nwa (by simp) h
theorem cell_nwc {w : World} {o1 : Obj} {c : Array Value} {t : TypeId} {i : Nat} {v : Value} (h : c[i]? = some v) : ((w.alloc o1).alloc (.cells c t)).cell? ⟨w.heap.size + 1, i, none⟩ = some v :=
  cell_nwa (by simp) h
theorem cell_fz {w : World} {o1 o2 : Obj} {c : Array Value} {t : TypeId} (j : Nat) : (((w.alloc o1).alloc o2).alloc (.cells c t)).frozen? ⟨w.heap.size + 1 + 1, j, none⟩ = false := by
  have := World.frozen?_alloc_new ((w.alloc o1).alloc o2) c t j
  simpa using this
theorem cell_sc {w : World} {p a : Addr} {v u : Value} (h : w.cell? a = some u) (hne : p ≠ a) : (w.setCell p v).cell? a = some u := by
  rw [World.cell?_setCell_other (h := hne)]; exact h
theorem cell_ss {w : World} {a : Addr} {v u : Value} (h : w.cell? a = some u) : (w.setCell a v).cell? a = some v := World.cell?_setCell_same w a _ h
theorem far_b {b B o j : Nat} (h : b < B) : (⟨B, j, none⟩ : Addr) ≠ ⟨b, o, none⟩ := fun e => by cases e; exact Nat.lt_irrefl _ h
theorem far_o {B o j : Nat} (h : (j == o) = false) : (⟨B, j, none⟩ : Addr) ≠ ⟨B, o, none⟩ := fun e => by cases e; simp at h
theorem pq_later {a w1 : World} {A B k : Nat} {u v : Value} (hb : Below a.drew.heap.size a.drew w1) (p : a.cell? ⟨A, k, none⟩ = some u) (q : a.cell? ⟨B, k, none⟩ = some v) : w1.cell? ⟨A, k, none⟩ = some u ∧ w1.cell? ⟨B, k, none⟩ = some v :=
  ⟨cell_later hb (cell_dr p), cell_later hb (cell_dr q)⟩
theorem sc_pair {a w1 : World} {N k i j l : Nat} {u v x y z : Value} (hb : Below a.drew.heap.size a.drew w1) (p : a.cell? ⟨N, k, none⟩ = some u) (q : a.cell? ⟨N + 1, k, none⟩ = some v) :
    (((w1.setCell ⟨N + 1 + 1, i, none⟩ x).setCell ⟨N + 1 + 1, j, none⟩ y).setCell ⟨N + 1 + 1, l, none⟩ z).cell? ⟨N, k, none⟩ = some u ∧ (((w1.setCell ⟨N + 1 + 1, i, none⟩ x).setCell ⟨N + 1 + 1, j, none⟩ y).setCell ⟨N + 1 + 1, l, none⟩ z).cell? ⟨N + 1, k, none⟩ = some v := by
  have fp : ∀ j, (⟨N + 1 + 1, j, none⟩ : Addr) ≠ ⟨N, k, none⟩ := fun j => far_b (show N < N + 1 + 1 by omega)
  have fq : ∀ j, (⟨N + 1 + 1, j, none⟩ : Addr) ≠ ⟨N + 1, k, none⟩ := fun j => far_b (show N + 1 < N + 1 + 1 by omega)
  exact ⟨cell_sc (cell_sc (cell_sc (cell_later hb (cell_dr p)) (fp _)) (fp _)) (fp _), cell_sc (cell_sc (cell_sc (cell_later hb (cell_dr q)) (fq _)) (fq _)) (fq _)⟩
/-- the state behind k rounds of the first loop: the two arrays, and k entities in the third -/
def StL (w : World) (r n : Nat → Int) (V R C : Nat → Int) (k : Nat) (a : World) : Prop :=
  Below w.heap.size w a ∧ w.heap.size + 1 + 1 < a.heap.size ∧ (∀ j, a.frozen? ⟨w.heap.size + 1 + 1, j, none⟩ = false) ∧
  (∀ i, i < 3 → a.cell? ⟨w.heap.size, i, none⟩ = some (.int .u32 (r i)) ∧ a.cell? ⟨w.heap.size + 1, i, none⟩ = some (.int .u32 (n i))) ∧
  (∀ i, i < 3 → a.cell? ⟨w.heap.size + 1 + 1, i * 3, none⟩ = some (.int .u64 (if i < k then V i else 0)) ∧ a.cell? ⟨w.heap.size + 1 + 1, i * 3 + 1, none⟩ = some (.int .u32 (if i < k then R i else 0)) ∧ a.cell? ⟨w.heap.size + 1 + 1, i * 3 + 2, none⟩ = some (.int .u32 (if i < k then C i else 0)))
theorem StL.step {w : World} {r n V R C : Nat → Int} {k : Nat} {a w1 : World} (h : StL w r n V R C k a) (hk : k < 3) (hb : Below a.heap.size a w1) :
    StL w r n V R C (k + 1) (((w1.setCell ⟨w.heap.size + 1 + 1, k * 3, none⟩ (.int .u64 (V k))).setCell ⟨w.heap.size + 1 + 1, k * 3 + 1, none⟩ (.int .u32 (R k))).setCell ⟨w.heap.size + 1 + 1, k * 3 + 2, none⟩ (.int .u32 (C k))) := by
  obtain ⟨h1, h2, h3, h4, h5⟩ := h
  refine ⟨?_, ?_, ?_, ?_, ?_⟩
  · exact Below.setCell (Below.setCell (Below.setCell (Below.step h1 hb) (by simp only; omega) _) (by simp only; omega) _) (by simp only; omega) _
  · have := hb.size
    simp only [World.setCell, Array.size_modify]
    omega
  · intro j
    simp only [World.frozen?_setCell]
    exact (hb.frozen (p := ⟨w.heap.size + 1 + 1, j, none⟩) h2).trans (h3 j)
  · intro i hi
    obtain ⟨p, q⟩ := h4 i hi
    have fp : ∀ j, (⟨w.heap.size + 1 + 1, j, none⟩ : Addr) ≠ ⟨w.heap.size, i, none⟩ := fun j => far_b (show w.heap.size < w.heap.size + 1 + 1 by omega)
    have fq : ∀ j, (⟨w.heap.size + 1 + 1, j, none⟩ : Addr) ≠ ⟨w.heap.size + 1, i, none⟩ := fun j => far_b (show w.heap.size + 1 < w.heap.size + 1 + 1 by omega)
    exact ⟨cell_sc (cell_sc (cell_sc (cell_later hb p) (fp _)) (fp _)) (fp _), cell_sc (cell_sc (cell_sc (cell_later hb q) (fq _)) (fq _)) (fq _)⟩
  · intro i hi
    obtain ⟨p, q, t⟩ := h5 i hi
    replace p := cell_later hb p
    replace q := cell_later hb q
    replace t := cell_later hb t
    have ne : ∀ {a b : Nat}, a ≠ b → (⟨w.heap.size + 1 + 1, a, none⟩ : Addr) ≠ ⟨w.heap.size + 1 + 1, b, none⟩ := fun h e => h (by cases e; rfl)
    by_cases e : i = k
    · subst e
      simp only [Nat.lt_add_one, if_true]
      exact ⟨cell_sc (cell_sc (cell_ss p) (ne (by omega))) (ne (by omega)), cell_sc (cell_ss (cell_sc q (ne (by omega)))) (ne (by omega)), cell_ss (cell_sc (cell_sc t (ne (by omega))) (ne (by omega)))⟩
    · have e2 : (i < k + 1) = (i < k) := by simp only [eq_iff_iff]; omega
      simp only [e2]
      exact ⟨cell_sc (cell_sc (cell_sc p (ne (by omega))) (ne (by omega))) (ne (by omega)), cell_sc (cell_sc (cell_sc q (ne (by omega))) (ne (by omega))) (ne (by omega)), cell_sc (cell_sc (cell_sc t (ne (by omega))) (ne (by omega))) (ne (by omega))⟩
theorem and3 : ∀ n : Fin 256, bits BinOp.and IntKind.u8 ((n.val : Nat) : Int) 3 = ((n.val : Nat) : Int) % 4 := by decide +kernel
theorem and3_u8 {x : Int} (h : 0 ≤ x ∧ x ≤ 255) : bits BinOp.and IntKind.u8 x 3 = x % 4 := by
  have := and3 ⟨x.toNat, by omega⟩
  simp only at this
  rwa [Int.toNat_of_nonneg h.1] at this
theorem idx3 (V R C : Nat → Int) (k : Nat) (hk : k < 3) (w : World) : Sem.run Try.prog (Instr.index 41 (.agg #[.int .u64 (V 0), .int .u32 (R 0), .int .u32 (C 0), .int .u64 (V 1), .int .u32 (R 1), .int .u32 (C 1), .int .u64 (V 2), .int .u32 (R 2), .int .u32 (C 2)]) (.int .i64 (k : Int))) w = .ok (.agg #[.int .u64 (V k), .int .u32 (R k), .int .u32 (C k)]) w := by
  have h : k = 0 ∨ k = 1 ∨ k = 2 := by omega
  rcases h with rfl | rfl | rfl
  all_goals
    show _ = _
    kernel_rfl
set_option maxRecDepth 100000 in
set_option maxHeartbeats 4000000 in
theorem ChargeLess_walk (v y : Int) (r n : Nat → Int) (b0 : 0 ≤ v ∧ v ≤ 18446744073709551615) (br : ∀ i, 0 ≤ r i ∧ r i ≤ 4294967295) (bn : ∀ i, 0 ≤ n i ∧ n i ≤ 4294967295) (b7 : 0 ≤ y ∧ y ≤ 255) (w : World) :
    Calls Try.prog 7 #[.int .u64 v, .agg #[.int .u32 (r 0), .int .u32 (r 1), .int .u32 (r 2)], .agg #[.int .u32 (n 0), .int .u32 (n 1), .int .u32 (n 2)], .int .u8 y] w fun e w' => e = .returned (.bool true) ∧ Below w.heap.size w w' := by
  have hv : 0 ≤ v % 18446744073709551607 ∧ v % 18446744073709551607 ≤ 18446744073709551606 := by omega
  have hq : ∀ k : Nat, 0 ≤ y / 2 ^ (2 * k) ∧ y / 2 ^ (2 * k) ≤ 255 := fun k => by
    have h1 : (0 : Int) < 2 ^ (2 * k) := Int.pow_pos (by omega)
    have h2 : y / 2 ^ (2 * k) ≤ y := Int.ediv_le_self _ b7.1
    exact ⟨Int.ediv_nonneg b7.1 (by omega), by omega⟩
  have key : ∃ V R C : Nat → Int, ∀ k, V k = v % 18446744073709551607 + y / 2 ^ (2 * k) % 4 ∧ Ch.Ok (V k) (R k) (C k) ∧ V k < 18446744073709551615 ∧ ∀ W, Calls Try.prog 12 #[.int .u64 (V k), .int .u32 (r k), .int .u32 (n k)] W fun e w' => e = .returned (.agg #[.int .u64 (V k), .int .u32 (R k), .int .u32 (C k)]) ∧ Below W.heap.size W w' := by
    refine ⟨fun k => v % 18446744073709551607 + y / 2 ^ (2 * k) % 4, fun k => Ch.madeR (v % 18446744073709551607 + y / 2 ^ (2 * k) % 4) (r k) (n k), fun k => 1 + n k % 65536, fun k => ?_⟩
    have hb : 0 ≤ v % 18446744073709551607 + y / 2 ^ (2 * k) % 4 ∧ v % 18446744073709551607 + y / 2 ^ (2 * k) % 4 ≤ 18446744073709551609 := by omega
    dsimp only
    exact ⟨rfl, Ch.made_ok ⟨hb.1, by omega⟩ (br k).1 (bn k).1, by omega, fun W => Made_any _ _ _ W ⟨hb.1, by omega⟩ (br k) (bn k)⟩
  obtain ⟨V, R, C, key⟩ := key
  have KEY := Lib.hid key
  have HQ := Lib.hid hq
  clear key hq br bn
  go_enter Try.func7, Try.ntmps7
  go_wp2_with fail
  go_loopw [18] (fun s wr => ∃ k : Nat, k ≤ 3 ∧ s = .int .i64 k ∧ StL w r n V R C k wr) (fun s _ => 3 - (intOf s).toNat)
  case atStart =>
    refine ⟨0, by omega, rfl, Below.allocS (Below.allocS (Below.allocS (Below.refl _ _) _) _) _, by simp, fun j => cell_fz _, fun i hi => ?_, fun i hi => ?_⟩
    · match i, hi with
      | 0, _ => exact ⟨cell_al _ (cell_al _ (cell_nw _ _ _ _ _ rfl)), cell_al _ (cell_nwc rfl)⟩
      | 1, _ => exact ⟨cell_al _ (cell_al _ (cell_nw _ _ _ _ _ rfl)), cell_al _ (cell_nwc rfl)⟩
      | 2, _ => exact ⟨cell_al _ (cell_al _ (cell_nw _ _ _ _ _ rfl)), cell_al _ (cell_nwc rfl)⟩
    · match i, hi with
      | 0, _ => exact ⟨cell_nwb rfl rfl, cell_nwb rfl rfl, cell_nwb rfl rfl⟩
      | 1, _ => exact ⟨cell_nwb rfl rfl, cell_nwb rfl rfl, cell_nwb rfl rfl⟩
      | 2, _ => exact ⟨cell_nwb rfl rfl, cell_nwb rfl rfl, cell_nwb rfl rfl⟩
  case round =>
    obtain ⟨k, hk, rfl, hS⟩ := hrel
    by_cases hlt : k < 3
    · have z1 : decide ((k : Int) < 3) = true := by simp; omega
      go_wp2_with fail
      have hc := hS.2.2.2.1 k hlt
      have hl := hS.2.2.2.2 k hlt
      have hz := hS.2.1
      have hfz := hS.2.2.1
      obtain ⟨p0, q0⟩ := hc
      obtain ⟨l0, l1, l2⟩ := hl
      have f0 : (k : Int) < 3 := by omega
      have f1 : IntKind.i64.wrap (2 * (k : Int)) = 2 * (k : Int) := IntWalk.i64_in _ (by omega)
      have f1' : (2 * (k : Int)).toNat = 2 * k := by omega
      have f2 : v.tmod 18446744073709551607 = v % 18446744073709551607 := Int.tmod_eq_emod_of_nonneg b0.1
      have f3 : bits BinOp.and IntKind.u8 (y / 2 ^ (2 * k)) 3 = y / 2 ^ (2 * k) % 4 := and3_u8 (HQ.out k)
      have f4 : IntKind.u64.wrap (y / 2 ^ (2 * k) % 4) = y / 2 ^ (2 * k) % 4 := IntWalk.u64_in _ (by omega)
      have f5 : IntKind.u64.wrap (v % 18446744073709551607 + y / 2 ^ (2 * k) % 4) = V k := by rw [(KEY.out k).1]; exact IntWalk.u64_in _ (by omega)
      have e0 : wr.drew.cell? ⟨w.heap.size, k, none⟩ = some (.int .u32 (r k)) ∧ wr.drew.cell? ⟨w.heap.size + 1, k, none⟩ = some (.int .u32 (n k)) := ⟨cell_dr p0, cell_dr q0⟩
      go_region_held3 (fun w' => w'.cell? ⟨w.heap.size, k, none⟩ = some (.int .u32 (r k)) ∧ w'.cell? ⟨w.heap.size + 1, k, none⟩ = some (.int .u32 (n k))) (first | assumption | exact sc_pair hb1 p0 q0) (first | (go_at_call 12; refine ((KEY.out k).2.2.2 _).mono ?_; rintro e w1 ⟨rfl, hb1⟩; have m0 := cell_later hb1 (cell_dr l0); have m1 := cell_later hb1 (cell_dr l1); have m2 := cell_later hb1 (cell_dr l2); have hpq := pq_later hb1 p0 q0; have hf1 : ∀ j, w1.frozen? ⟨w.heap.size + 1 + 1, j, none⟩ = false := fun j => (hb1.frozen (p := ⟨w.heap.size + 1 + 1, j, none⟩) hz).trans (hfz j)))
      have hb1' : Below wr.heap.size wr w1 := ⟨hb1.os, hb1.tape, hb1.output, hb1.size, hb1.block⟩
      have HS := Lib.hid (hS.step hlt hb1')
      clear f0 f1 f1' f2 f3 f4 f5 e0 p0 q0 l0 l1 l2 hz hfz m0 m1 m2 hf1 hpq
      go_wp2_with fail
      go_roundw
      case rel => exact ⟨k + 1, by omega, by go_num, HS.out⟩
      case measure => simp [intOf]; omega
    · have k3 : k = 3 := by omega
      have hS3 : StL w r n V R C 3 wr := by rw [k3] at hS; exact hS
      have hge : (3 : Int) ≤ (k : Int) := by omega
      clear hlt hk hS k3
      obtain ⟨hb0, -, -, -, hl⟩ := hS3
      obtain ⟨l0, l1, l2⟩ := hl 0 (by omega)
      obtain ⟨l3, l4, l5⟩ := hl 1 (by omega)
      obtain ⟨l6, l7, l8⟩ := hl 2 (by omega)
      simp at l0 l1 l2 l3 l4 l5 l6 l7 l8
      clear hl
      go_wp2_with fail
      obtain ⟨wo, rfl⟩ : ∃ wo : World, wo = wr := ⟨_, rfl⟩
      go_loopw [41] (fun s wr => ∃ k : Nat, k ≤ 3 ∧ s = .int .i64 k ∧ Below wo.heap.size wo wr) (fun s _ => 3 - (intOf s).toNat)
      case atStart => exact ⟨0, by omega, rfl, Below.refl _ _⟩
      case round =>
        obtain ⟨i, hi, rfl, hb⟩ := hrel
        by_cases hlt : i < 3
        · have z2 : decide ((i : Int) < 3) = true := by simp; omega
          have ix := fun W => idx3 V R C i hlt W
          obtain ⟨-, okx, hvx, -⟩ := KEY.out i
          obtain ⟨av, ar, e1, e2⟩ : ∃ x y, Ch.addV (V i) (R i) (C i) 1 = x ∧ Ch.addR (V i) (R i) (C i) 1 = y := ⟨_, _, rfl, rfl⟩
          have oky : Ch.Ok av ar (C i) := by rw [← e1, ← e2]; exact Ch.add_ok okx (by omega)
          have hxy : Ch.lessB (V i) (R i) (C i) av ar (C i) = true := by rw [← e1, ← e2]; exact Ch.less_charged okx hvx
          have hyx := Ch.less_asym hxy
          have A1 := Lib.hid fun W => Add_eq (V i) (R i) (C i) 1 av ar W okx ⟨by omega, by omega⟩ e1 e2
          have A2 := Lib.hid fun W => lessC_any (V i) (R i) (C i) (V i) (R i) (C i) false W okx okx (Ch.less_irr _ _ _)
          have A3 := Lib.hid fun W => lessC_any av ar (C i) (V i) (R i) (C i) false W oky okx hyx
          have A4 := Lib.hid fun W => lessC_any (V i) (R i) (C i) av ar (C i) true W okx oky hxy
          clear okx hvx e1 e2 oky hxy hyx
          obtain ⟨wi, rfl⟩ : ∃ wo : World, wo = wr := ⟨_, rfl⟩
          have cl0 : wi.cell? ⟨w.heap.size + 1 + 1, 0, none⟩ = some (.int .u64 (V 0)) := cell_later hb l0
          have cl1 : wi.cell? ⟨w.heap.size + 1 + 1, 1, none⟩ = some (.int .u32 (R 0)) := cell_later hb l1
          have cl2 : wi.cell? ⟨w.heap.size + 1 + 1, 2, none⟩ = some (.int .u32 (C 0)) := cell_later hb l2
          have cl3 : wi.cell? ⟨w.heap.size + 1 + 1, 3, none⟩ = some (.int .u64 (V 1)) := cell_later hb l3
          have cl4 : wi.cell? ⟨w.heap.size + 1 + 1, 4, none⟩ = some (.int .u32 (R 1)) := cell_later hb l4
          have cl5 : wi.cell? ⟨w.heap.size + 1 + 1, 5, none⟩ = some (.int .u32 (C 1)) := cell_later hb l5
          have cl6 : wi.cell? ⟨w.heap.size + 1 + 1, 6, none⟩ = some (.int .u64 (V 2)) := cell_later hb l6
          have cl7 : wi.cell? ⟨w.heap.size + 1 + 1, 7, none⟩ = some (.int .u32 (R 2)) := cell_later hb l7
          have cl8 : wi.cell? ⟨w.heap.size + 1 + 1, 8, none⟩ = some (.int .u32 (C 2)) := cell_later hb l8
          go_wp2_with fail
          clear ix
          refine (A1.out _).mono ?_; rintro e w1 ⟨rfl, hb1⟩
          replace cl0 : w1.cell? ⟨w.heap.size + 1 + 1, 0, none⟩ = some (.int .u64 (V 0)) := by first | exact cell_later hb1 (cl0) | exact cell_later hb1 (cell_al _ (cl0)) | exact cell_later hb1 (cell_al _ (cell_al _ (cl0))) | exact cell_later hb1 (cell_dr (cl0)) | exact cell_later hb1 (cell_dr (cell_al _ (cl0))) | exact cell_later hb1 (cell_drN _ (cl0)) | exact cell_later hb1 (cell_drN _ (cell_al _ (cl0)))
          replace cl1 : w1.cell? ⟨w.heap.size + 1 + 1, 1, none⟩ = some (.int .u32 (R 0)) := by first | exact cell_later hb1 (cl1) | exact cell_later hb1 (cell_al _ (cl1)) | exact cell_later hb1 (cell_al _ (cell_al _ (cl1))) | exact cell_later hb1 (cell_dr (cl1)) | exact cell_later hb1 (cell_dr (cell_al _ (cl1))) | exact cell_later hb1 (cell_drN _ (cl1)) | exact cell_later hb1 (cell_drN _ (cell_al _ (cl1)))
          replace cl2 : w1.cell? ⟨w.heap.size + 1 + 1, 2, none⟩ = some (.int .u32 (C 0)) := by first | exact cell_later hb1 (cl2) | exact cell_later hb1 (cell_al _ (cl2)) | exact cell_later hb1 (cell_al _ (cell_al _ (cl2))) | exact cell_later hb1 (cell_dr (cl2)) | exact cell_later hb1 (cell_dr (cell_al _ (cl2))) | exact cell_later hb1 (cell_drN _ (cl2)) | exact cell_later hb1 (cell_drN _ (cell_al _ (cl2)))
          replace cl3 : w1.cell? ⟨w.heap.size + 1 + 1, 3, none⟩ = some (.int .u64 (V 1)) := by first | exact cell_later hb1 (cl3) | exact cell_later hb1 (cell_al _ (cl3)) | exact cell_later hb1 (cell_al _ (cell_al _ (cl3))) | exact cell_later hb1 (cell_dr (cl3)) | exact cell_later hb1 (cell_dr (cell_al _ (cl3))) | exact cell_later hb1 (cell_drN _ (cl3)) | exact cell_later hb1 (cell_drN _ (cell_al _ (cl3)))
          replace cl4 : w1.cell? ⟨w.heap.size + 1 + 1, 4, none⟩ = some (.int .u32 (R 1)) := by first | exact cell_later hb1 (cl4) | exact cell_later hb1 (cell_al _ (cl4)) | exact cell_later hb1 (cell_al _ (cell_al _ (cl4))) | exact cell_later hb1 (cell_dr (cl4)) | exact cell_later hb1 (cell_dr (cell_al _ (cl4))) | exact cell_later hb1 (cell_drN _ (cl4)) | exact cell_later hb1 (cell_drN _ (cell_al _ (cl4)))
          replace cl5 : w1.cell? ⟨w.heap.size + 1 + 1, 5, none⟩ = some (.int .u32 (C 1)) := by first | exact cell_later hb1 (cl5) | exact cell_later hb1 (cell_al _ (cl5)) | exact cell_later hb1 (cell_al _ (cell_al _ (cl5))) | exact cell_later hb1 (cell_dr (cl5)) | exact cell_later hb1 (cell_dr (cell_al _ (cl5))) | exact cell_later hb1 (cell_drN _ (cl5)) | exact cell_later hb1 (cell_drN _ (cell_al _ (cl5)))
          replace cl6 : w1.cell? ⟨w.heap.size + 1 + 1, 6, none⟩ = some (.int .u64 (V 2)) := by first | exact cell_later hb1 (cl6) | exact cell_later hb1 (cell_al _ (cl6)) | exact cell_later hb1 (cell_al _ (cell_al _ (cl6))) | exact cell_later hb1 (cell_dr (cl6)) | exact cell_later hb1 (cell_dr (cell_al _ (cl6))) | exact cell_later hb1 (cell_drN _ (cl6)) | exact cell_later hb1 (cell_drN _ (cell_al _ (cl6)))
          replace cl7 : w1.cell? ⟨w.heap.size + 1 + 1, 7, none⟩ = some (.int .u32 (R 2)) := by first | exact cell_later hb1 (cl7) | exact cell_later hb1 (cell_al _ (cl7)) | exact cell_later hb1 (cell_al _ (cell_al _ (cl7))) | exact cell_later hb1 (cell_dr (cl7)) | exact cell_later hb1 (cell_dr (cell_al _ (cl7))) | exact cell_later hb1 (cell_drN _ (cl7)) | exact cell_later hb1 (cell_drN _ (cell_al _ (cl7)))
          replace cl8 : w1.cell? ⟨w.heap.size + 1 + 1, 8, none⟩ = some (.int .u32 (C 2)) := by first | exact cell_later hb1 (cl8) | exact cell_later hb1 (cell_al _ (cl8)) | exact cell_later hb1 (cell_al _ (cell_al _ (cl8))) | exact cell_later hb1 (cell_dr (cl8)) | exact cell_later hb1 (cell_dr (cell_al _ (cl8))) | exact cell_later hb1 (cell_drN _ (cl8)) | exact cell_later hb1 (cell_drN _ (cell_al _ (cl8)))
          have x0 : w1.cell? ⟨wi.heap.size, 0, none⟩ = some (.int .u64 (V i)) := by first | exact cell_later hb1 (cell_nw _ _ _ 0 _ rfl) | exact cell_later hb1 (cell_al _ (cell_nw _ _ _ 0 _ rfl)) | exact cell_later hb1 (cell_al _ (cell_al _ (cell_nw _ _ _ 0 _ rfl))) | exact cell_later hb1 (cell_dr (cell_nw _ _ _ 0 _ rfl)) | exact cell_later hb1 (cell_dr (cell_al _ (cell_nw _ _ _ 0 _ rfl))) | exact cell_later hb1 (cell_drN _ (cell_nw _ _ _ 0 _ rfl)) | exact cell_later hb1 (cell_drN _ (cell_al _ (cell_nw _ _ _ 0 _ rfl)))
          have x1 : w1.cell? ⟨wi.heap.size, 1, none⟩ = some (.int .u32 (R i)) := by first | exact cell_later hb1 (cell_nw _ _ _ 1 _ rfl) | exact cell_later hb1 (cell_al _ (cell_nw _ _ _ 1 _ rfl)) | exact cell_later hb1 (cell_al _ (cell_al _ (cell_nw _ _ _ 1 _ rfl))) | exact cell_later hb1 (cell_dr (cell_nw _ _ _ 1 _ rfl)) | exact cell_later hb1 (cell_dr (cell_al _ (cell_nw _ _ _ 1 _ rfl))) | exact cell_later hb1 (cell_drN _ (cell_nw _ _ _ 1 _ rfl)) | exact cell_later hb1 (cell_drN _ (cell_al _ (cell_nw _ _ _ 1 _ rfl)))
          have x2 : w1.cell? ⟨wi.heap.size, 2, none⟩ = some (.int .u32 (C i)) := by first | exact cell_later hb1 (cell_nw _ _ _ 2 _ rfl) | exact cell_later hb1 (cell_al _ (cell_nw _ _ _ 2 _ rfl)) | exact cell_later hb1 (cell_al _ (cell_al _ (cell_nw _ _ _ 2 _ rfl))) | exact cell_later hb1 (cell_dr (cell_nw _ _ _ 2 _ rfl)) | exact cell_later hb1 (cell_dr (cell_al _ (cell_nw _ _ _ 2 _ rfl))) | exact cell_later hb1 (cell_drN _ (cell_nw _ _ _ 2 _ rfl)) | exact cell_later hb1 (cell_drN _ (cell_al _ (cell_nw _ _ _ 2 _ rfl)))
          have cl0_1 := fun o1 => cell_al o1 (cl0)
          have cl1_1 := fun o1 => cell_al o1 (cl1)
          have cl2_1 := fun o1 => cell_al o1 (cl2)
          have cl3_1 := fun o1 => cell_al o1 (cl3)
          have cl4_1 := fun o1 => cell_al o1 (cl4)
          have cl5_1 := fun o1 => cell_al o1 (cl5)
          have cl6_1 := fun o1 => cell_al o1 (cl6)
          have cl7_1 := fun o1 => cell_al o1 (cl7)
          have cl8_1 := fun o1 => cell_al o1 (cl8)
          have x0_1 := fun o1 => cell_al o1 (x0)
          have x1_1 := fun o1 => cell_al o1 (x1)
          have x2_1 := fun o1 => cell_al o1 (x2)
          go_wp2_with fail
          refine (A2.out _).mono ?_; rintro e w2 ⟨rfl, hb2⟩
          clear cl0_1 cl1_1 cl2_1 cl3_1 cl4_1 cl5_1 cl6_1 cl7_1 cl8_1 x0_1 x1_1 x2_1
          replace cl0 : w2.cell? ⟨w.heap.size + 1 + 1, 0, none⟩ = some (.int .u64 (V 0)) := by first | exact cell_later hb2 (cl0) | exact cell_later hb2 (cell_al _ (cl0)) | exact cell_later hb2 (cell_al _ (cell_al _ (cl0))) | exact cell_later hb2 (cell_dr (cl0)) | exact cell_later hb2 (cell_dr (cell_al _ (cl0))) | exact cell_later hb2 (cell_drN _ (cl0)) | exact cell_later hb2 (cell_drN _ (cell_al _ (cl0)))
          replace cl1 : w2.cell? ⟨w.heap.size + 1 + 1, 1, none⟩ = some (.int .u32 (R 0)) := by first | exact cell_later hb2 (cl1) | exact cell_later hb2 (cell_al _ (cl1)) | exact cell_later hb2 (cell_al _ (cell_al _ (cl1))) | exact cell_later hb2 (cell_dr (cl1)) | exact cell_later hb2 (cell_dr (cell_al _ (cl1))) | exact cell_later hb2 (cell_drN _ (cl1)) | exact cell_later hb2 (cell_drN _ (cell_al _ (cl1)))
          replace cl2 : w2.cell? ⟨w.heap.size + 1 + 1, 2, none⟩ = some (.int .u32 (C 0)) := by first | exact cell_later hb2 (cl2) | exact cell_later hb2 (cell_al _ (cl2)) | exact cell_later hb2 (cell_al _ (cell_al _ (cl2))) | exact cell_later hb2 (cell_dr (cl2)) | exact cell_later hb2 (cell_dr (cell_al _ (cl2))) | exact cell_later hb2 (cell_drN _ (cl2)) | exact cell_later hb2 (cell_drN _ (cell_al _ (cl2)))
          replace cl3 : w2.cell? ⟨w.heap.size + 1 + 1, 3, none⟩ = some (.int .u64 (V 1)) := by first | exact cell_later hb2 (cl3) | exact cell_later hb2 (cell_al _ (cl3)) | exact cell_later hb2 (cell_al _ (cell_al _ (cl3))) | exact cell_later hb2 (cell_dr (cl3)) | exact cell_later hb2 (cell_dr (cell_al _ (cl3))) | exact cell_later hb2 (cell_drN _ (cl3)) | exact cell_later hb2 (cell_drN _ (cell_al _ (cl3)))
          replace cl4 : w2.cell? ⟨w.heap.size + 1 + 1, 4, none⟩ = some (.int .u32 (R 1)) := by first | exact cell_later hb2 (cl4) | exact cell_later hb2 (cell_al _ (cl4)) | exact cell_later hb2 (cell_al _ (cell_al _ (cl4))) | exact cell_later hb2 (cell_dr (cl4)) | exact cell_later hb2 (cell_dr (cell_al _ (cl4))) | exact cell_later hb2 (cell_drN _ (cl4)) | exact cell_later hb2 (cell_drN _ (cell_al _ (cl4)))
          replace cl5 : w2.cell? ⟨w.heap.size + 1 + 1, 5, none⟩ = some (.int .u32 (C 1)) := by first | exact cell_later hb2 (cl5) | exact cell_later hb2 (cell_al _ (cl5)) | exact cell_later hb2 (cell_al _ (cell_al _ (cl5))) | exact cell_later hb2 (cell_dr (cl5)) | exact cell_later hb2 (cell_dr (cell_al _ (cl5))) | exact cell_later hb2 (cell_drN _ (cl5)) | exact cell_later hb2 (cell_drN _ (cell_al _ (cl5)))
          replace cl6 : w2.cell? ⟨w.heap.size + 1 + 1, 6, none⟩ = some (.int .u64 (V 2)) := by first | exact cell_later hb2 (cl6) | exact cell_later hb2 (cell_al _ (cl6)) | exact cell_later hb2 (cell_al _ (cell_al _ (cl6))) | exact cell_later hb2 (cell_dr (cl6)) | exact cell_later hb2 (cell_dr (cell_al _ (cl6))) | exact cell_later hb2 (cell_drN _ (cl6)) | exact cell_later hb2 (cell_drN _ (cell_al _ (cl6)))
          replace cl7 : w2.cell? ⟨w.heap.size + 1 + 1, 7, none⟩ = some (.int .u32 (R 2)) := by first | exact cell_later hb2 (cl7) | exact cell_later hb2 (cell_al _ (cl7)) | exact cell_later hb2 (cell_al _ (cell_al _ (cl7))) | exact cell_later hb2 (cell_dr (cl7)) | exact cell_later hb2 (cell_dr (cell_al _ (cl7))) | exact cell_later hb2 (cell_drN _ (cl7)) | exact cell_later hb2 (cell_drN _ (cell_al _ (cl7)))
          replace cl8 : w2.cell? ⟨w.heap.size + 1 + 1, 8, none⟩ = some (.int .u32 (C 2)) := by first | exact cell_later hb2 (cl8) | exact cell_later hb2 (cell_al _ (cl8)) | exact cell_later hb2 (cell_al _ (cell_al _ (cl8))) | exact cell_later hb2 (cell_dr (cl8)) | exact cell_later hb2 (cell_dr (cell_al _ (cl8))) | exact cell_later hb2 (cell_drN _ (cl8)) | exact cell_later hb2 (cell_drN _ (cell_al _ (cl8)))
          replace x0 : w2.cell? ⟨wi.heap.size, 0, none⟩ = some (.int .u64 (V i)) := by first | exact cell_later hb2 (x0) | exact cell_later hb2 (cell_al _ (x0)) | exact cell_later hb2 (cell_al _ (cell_al _ (x0))) | exact cell_later hb2 (cell_dr (x0)) | exact cell_later hb2 (cell_dr (cell_al _ (x0))) | exact cell_later hb2 (cell_drN _ (x0)) | exact cell_later hb2 (cell_drN _ (cell_al _ (x0)))
          replace x1 : w2.cell? ⟨wi.heap.size, 1, none⟩ = some (.int .u32 (R i)) := by first | exact cell_later hb2 (x1) | exact cell_later hb2 (cell_al _ (x1)) | exact cell_later hb2 (cell_al _ (cell_al _ (x1))) | exact cell_later hb2 (cell_dr (x1)) | exact cell_later hb2 (cell_dr (cell_al _ (x1))) | exact cell_later hb2 (cell_drN _ (x1)) | exact cell_later hb2 (cell_drN _ (cell_al _ (x1)))
          replace x2 : w2.cell? ⟨wi.heap.size, 2, none⟩ = some (.int .u32 (C i)) := by first | exact cell_later hb2 (x2) | exact cell_later hb2 (cell_al _ (x2)) | exact cell_later hb2 (cell_al _ (cell_al _ (x2))) | exact cell_later hb2 (cell_dr (x2)) | exact cell_later hb2 (cell_dr (cell_al _ (x2))) | exact cell_later hb2 (cell_drN _ (x2)) | exact cell_later hb2 (cell_drN _ (cell_al _ (x2)))
          have y0 : w2.cell? ⟨w1.heap.size, 0, none⟩ = some (.int .u64 av) := by first | exact cell_later hb2 (cell_nw _ _ _ 0 _ rfl) | exact cell_later hb2 (cell_al _ (cell_nw _ _ _ 0 _ rfl)) | exact cell_later hb2 (cell_al _ (cell_al _ (cell_nw _ _ _ 0 _ rfl))) | exact cell_later hb2 (cell_dr (cell_nw _ _ _ 0 _ rfl)) | exact cell_later hb2 (cell_dr (cell_al _ (cell_nw _ _ _ 0 _ rfl))) | exact cell_later hb2 (cell_drN _ (cell_nw _ _ _ 0 _ rfl)) | exact cell_later hb2 (cell_drN _ (cell_al _ (cell_nw _ _ _ 0 _ rfl)))
          have y1 : w2.cell? ⟨w1.heap.size, 1, none⟩ = some (.int .u32 ar) := by first | exact cell_later hb2 (cell_nw _ _ _ 1 _ rfl) | exact cell_later hb2 (cell_al _ (cell_nw _ _ _ 1 _ rfl)) | exact cell_later hb2 (cell_al _ (cell_al _ (cell_nw _ _ _ 1 _ rfl))) | exact cell_later hb2 (cell_dr (cell_nw _ _ _ 1 _ rfl)) | exact cell_later hb2 (cell_dr (cell_al _ (cell_nw _ _ _ 1 _ rfl))) | exact cell_later hb2 (cell_drN _ (cell_nw _ _ _ 1 _ rfl)) | exact cell_later hb2 (cell_drN _ (cell_al _ (cell_nw _ _ _ 1 _ rfl)))
          have y2 : w2.cell? ⟨w1.heap.size, 2, none⟩ = some (.int .u32 (C i)) := by first | exact cell_later hb2 (cell_nw _ _ _ 2 _ rfl) | exact cell_later hb2 (cell_al _ (cell_nw _ _ _ 2 _ rfl)) | exact cell_later hb2 (cell_al _ (cell_al _ (cell_nw _ _ _ 2 _ rfl))) | exact cell_later hb2 (cell_dr (cell_nw _ _ _ 2 _ rfl)) | exact cell_later hb2 (cell_dr (cell_al _ (cell_nw _ _ _ 2 _ rfl))) | exact cell_later hb2 (cell_drN _ (cell_nw _ _ _ 2 _ rfl)) | exact cell_later hb2 (cell_drN _ (cell_al _ (cell_nw _ _ _ 2 _ rfl)))
          have cl0_1 := fun o1 => cell_al o1 (cl0)
          have cl1_1 := fun o1 => cell_al o1 (cl1)
          have cl2_1 := fun o1 => cell_al o1 (cl2)
          have cl3_1 := fun o1 => cell_al o1 (cl3)
          have cl4_1 := fun o1 => cell_al o1 (cl4)
          have cl5_1 := fun o1 => cell_al o1 (cl5)
          have cl6_1 := fun o1 => cell_al o1 (cl6)
          have cl7_1 := fun o1 => cell_al o1 (cl7)
          have cl8_1 := fun o1 => cell_al o1 (cl8)
          have x0_1 := fun o1 => cell_al o1 (x0)
          have x1_1 := fun o1 => cell_al o1 (x1)
          have x2_1 := fun o1 => cell_al o1 (x2)
          have y0_1 := fun o1 => cell_al o1 (y0)
          have y1_1 := fun o1 => cell_al o1 (y1)
          have y2_1 := fun o1 => cell_al o1 (y2)
          go_wp2_with fail
          refine (A3.out _).mono ?_; rintro e w3 ⟨rfl, hb3⟩
          clear cl0_1 cl1_1 cl2_1 cl3_1 cl4_1 cl5_1 cl6_1 cl7_1 cl8_1 x0_1 x1_1 x2_1 y0_1 y1_1 y2_1
          replace cl0 : w3.cell? ⟨w.heap.size + 1 + 1, 0, none⟩ = some (.int .u64 (V 0)) := by first | exact cell_later hb3 (cl0) | exact cell_later hb3 (cell_al _ (cl0)) | exact cell_later hb3 (cell_al _ (cell_al _ (cl0))) | exact cell_later hb3 (cell_dr (cl0)) | exact cell_later hb3 (cell_dr (cell_al _ (cl0))) | exact cell_later hb3 (cell_drN _ (cl0)) | exact cell_later hb3 (cell_drN _ (cell_al _ (cl0)))
          replace cl1 : w3.cell? ⟨w.heap.size + 1 + 1, 1, none⟩ = some (.int .u32 (R 0)) := by first | exact cell_later hb3 (cl1) | exact cell_later hb3 (cell_al _ (cl1)) | exact cell_later hb3 (cell_al _ (cell_al _ (cl1))) | exact cell_later hb3 (cell_dr (cl1)) | exact cell_later hb3 (cell_dr (cell_al _ (cl1))) | exact cell_later hb3 (cell_drN _ (cl1)) | exact cell_later hb3 (cell_drN _ (cell_al _ (cl1)))
          replace cl2 : w3.cell? ⟨w.heap.size + 1 + 1, 2, none⟩ = some (.int .u32 (C 0)) := by first | exact cell_later hb3 (cl2) | exact cell_later hb3 (cell_al _ (cl2)) | exact cell_later hb3 (cell_al _ (cell_al _ (cl2))) | exact cell_later hb3 (cell_dr (cl2)) | exact cell_later hb3 (cell_dr (cell_al _ (cl2))) | exact cell_later hb3 (cell_drN _ (cl2)) | exact cell_later hb3 (cell_drN _ (cell_al _ (cl2)))
          replace cl3 : w3.cell? ⟨w.heap.size + 1 + 1, 3, none⟩ = some (.int .u64 (V 1)) := by first | exact cell_later hb3 (cl3) | exact cell_later hb3 (cell_al _ (cl3)) | exact cell_later hb3 (cell_al _ (cell_al _ (cl3))) | exact cell_later hb3 (cell_dr (cl3)) | exact cell_later hb3 (cell_dr (cell_al _ (cl3))) | exact cell_later hb3 (cell_drN _ (cl3)) | exact cell_later hb3 (cell_drN _ (cell_al _ (cl3)))
          replace cl4 : w3.cell? ⟨w.heap.size + 1 + 1, 4, none⟩ = some (.int .u32 (R 1)) := by first | exact cell_later hb3 (cl4) | exact cell_later hb3 (cell_al _ (cl4)) | exact cell_later hb3 (cell_al _ (cell_al _ (cl4))) | exact cell_later hb3 (cell_dr (cl4)) | exact cell_later hb3 (cell_dr (cell_al _ (cl4))) | exact cell_later hb3 (cell_drN _ (cl4)) | exact cell_later hb3 (cell_drN _ (cell_al _ (cl4)))
          replace cl5 : w3.cell? ⟨w.heap.size + 1 + 1, 5, none⟩ = some (.int .u32 (C 1)) := by first | exact cell_later hb3 (cl5) | exact cell_later hb3 (cell_al _ (cl5)) | exact cell_later hb3 (cell_al _ (cell_al _ (cl5))) | exact cell_later hb3 (cell_dr (cl5)) | exact cell_later hb3 (cell_dr (cell_al _ (cl5))) | exact cell_later hb3 (cell_drN _ (cl5)) | exact cell_later hb3 (cell_drN _ (cell_al _ (cl5)))
          replace cl6 : w3.cell? ⟨w.heap.size + 1 + 1, 6, none⟩ = some (.int .u64 (V 2)) := by first | exact cell_later hb3 (cl6) | exact cell_later hb3 (cell_al _ (cl6)) | exact cell_later hb3 (cell_al _ (cell_al _ (cl6))) | exact cell_later hb3 (cell_dr (cl6)) | exact cell_later hb3 (cell_dr (cell_al _ (cl6))) | exact cell_later hb3 (cell_drN _ (cl6)) | exact cell_later hb3 (cell_drN _ (cell_al _ (cl6)))
          replace cl7 : w3.cell? ⟨w.heap.size + 1 + 1, 7, none⟩ = some (.int .u32 (R 2)) := by first | exact cell_later hb3 (cl7) | exact cell_later hb3 (cell_al _ (cl7)) | exact cell_later hb3 (cell_al _ (cell_al _ (cl7))) | exact cell_later hb3 (cell_dr (cl7)) | exact cell_later hb3 (cell_dr (cell_al _ (cl7))) | exact cell_later hb3 (cell_drN _ (cl7)) | exact cell_later hb3 (cell_drN _ (cell_al _ (cl7)))
          replace cl8 : w3.cell? ⟨w.heap.size + 1 + 1, 8, none⟩ = some (.int .u32 (C 2)) := by first | exact cell_later hb3 (cl8) | exact cell_later hb3 (cell_al _ (cl8)) | exact cell_later hb3 (cell_al _ (cell_al _ (cl8))) | exact cell_later hb3 (cell_dr (cl8)) | exact cell_later hb3 (cell_dr (cell_al _ (cl8))) | exact cell_later hb3 (cell_drN _ (cl8)) | exact cell_later hb3 (cell_drN _ (cell_al _ (cl8)))
          replace x0 : w3.cell? ⟨wi.heap.size, 0, none⟩ = some (.int .u64 (V i)) := by first | exact cell_later hb3 (x0) | exact cell_later hb3 (cell_al _ (x0)) | exact cell_later hb3 (cell_al _ (cell_al _ (x0))) | exact cell_later hb3 (cell_dr (x0)) | exact cell_later hb3 (cell_dr (cell_al _ (x0))) | exact cell_later hb3 (cell_drN _ (x0)) | exact cell_later hb3 (cell_drN _ (cell_al _ (x0)))
          replace x1 : w3.cell? ⟨wi.heap.size, 1, none⟩ = some (.int .u32 (R i)) := by first | exact cell_later hb3 (x1) | exact cell_later hb3 (cell_al _ (x1)) | exact cell_later hb3 (cell_al _ (cell_al _ (x1))) | exact cell_later hb3 (cell_dr (x1)) | exact cell_later hb3 (cell_dr (cell_al _ (x1))) | exact cell_later hb3 (cell_drN _ (x1)) | exact cell_later hb3 (cell_drN _ (cell_al _ (x1)))
          replace x2 : w3.cell? ⟨wi.heap.size, 2, none⟩ = some (.int .u32 (C i)) := by first | exact cell_later hb3 (x2) | exact cell_later hb3 (cell_al _ (x2)) | exact cell_later hb3 (cell_al _ (cell_al _ (x2))) | exact cell_later hb3 (cell_dr (x2)) | exact cell_later hb3 (cell_dr (cell_al _ (x2))) | exact cell_later hb3 (cell_drN _ (x2)) | exact cell_later hb3 (cell_drN _ (cell_al _ (x2)))
          replace y0 : w3.cell? ⟨w1.heap.size, 0, none⟩ = some (.int .u64 av) := by first | exact cell_later hb3 (y0) | exact cell_later hb3 (cell_al _ (y0)) | exact cell_later hb3 (cell_al _ (cell_al _ (y0))) | exact cell_later hb3 (cell_dr (y0)) | exact cell_later hb3 (cell_dr (cell_al _ (y0))) | exact cell_later hb3 (cell_drN _ (y0)) | exact cell_later hb3 (cell_drN _ (cell_al _ (y0)))
          replace y1 : w3.cell? ⟨w1.heap.size, 1, none⟩ = some (.int .u32 ar) := by first | exact cell_later hb3 (y1) | exact cell_later hb3 (cell_al _ (y1)) | exact cell_later hb3 (cell_al _ (cell_al _ (y1))) | exact cell_later hb3 (cell_dr (y1)) | exact cell_later hb3 (cell_dr (cell_al _ (y1))) | exact cell_later hb3 (cell_drN _ (y1)) | exact cell_later hb3 (cell_drN _ (cell_al _ (y1)))
          replace y2 : w3.cell? ⟨w1.heap.size, 2, none⟩ = some (.int .u32 (C i)) := by first | exact cell_later hb3 (y2) | exact cell_later hb3 (cell_al _ (y2)) | exact cell_later hb3 (cell_al _ (cell_al _ (y2))) | exact cell_later hb3 (cell_dr (y2)) | exact cell_later hb3 (cell_dr (cell_al _ (y2))) | exact cell_later hb3 (cell_drN _ (y2)) | exact cell_later hb3 (cell_drN _ (cell_al _ (y2)))
          have cl0_1 := fun o1 => cell_al o1 (cl0)
          have cl1_1 := fun o1 => cell_al o1 (cl1)
          have cl2_1 := fun o1 => cell_al o1 (cl2)
          have cl3_1 := fun o1 => cell_al o1 (cl3)
          have cl4_1 := fun o1 => cell_al o1 (cl4)
          have cl5_1 := fun o1 => cell_al o1 (cl5)
          have cl6_1 := fun o1 => cell_al o1 (cl6)
          have cl7_1 := fun o1 => cell_al o1 (cl7)
          have cl8_1 := fun o1 => cell_al o1 (cl8)
          have x0_1 := fun o1 => cell_al o1 (x0)
          have x1_1 := fun o1 => cell_al o1 (x1)
          have x2_1 := fun o1 => cell_al o1 (x2)
          have y0_1 := fun o1 => cell_al o1 (y0)
          have y1_1 := fun o1 => cell_al o1 (y1)
          have y2_1 := fun o1 => cell_al o1 (y2)
          go_wp2_with fail
          refine (A4.out _).mono ?_; rintro e w4 ⟨rfl, hb4⟩
          clear cl0_1 cl1_1 cl2_1 cl3_1 cl4_1 cl5_1 cl6_1 cl7_1 cl8_1 x0_1 x1_1 x2_1 y0_1 y1_1 y2_1
          replace cl0 : w4.cell? ⟨w.heap.size + 1 + 1, 0, none⟩ = some (.int .u64 (V 0)) := by first | exact cell_later hb4 (cl0) | exact cell_later hb4 (cell_al _ (cl0)) | exact cell_later hb4 (cell_al _ (cell_al _ (cl0))) | exact cell_later hb4 (cell_dr (cl0)) | exact cell_later hb4 (cell_dr (cell_al _ (cl0))) | exact cell_later hb4 (cell_drN _ (cl0)) | exact cell_later hb4 (cell_drN _ (cell_al _ (cl0)))
          replace cl1 : w4.cell? ⟨w.heap.size + 1 + 1, 1, none⟩ = some (.int .u32 (R 0)) := by first | exact cell_later hb4 (cl1) | exact cell_later hb4 (cell_al _ (cl1)) | exact cell_later hb4 (cell_al _ (cell_al _ (cl1))) | exact cell_later hb4 (cell_dr (cl1)) | exact cell_later hb4 (cell_dr (cell_al _ (cl1))) | exact cell_later hb4 (cell_drN _ (cl1)) | exact cell_later hb4 (cell_drN _ (cell_al _ (cl1)))
          replace cl2 : w4.cell? ⟨w.heap.size + 1 + 1, 2, none⟩ = some (.int .u32 (C 0)) := by first | exact cell_later hb4 (cl2) | exact cell_later hb4 (cell_al _ (cl2)) | exact cell_later hb4 (cell_al _ (cell_al _ (cl2))) | exact cell_later hb4 (cell_dr (cl2)) | exact cell_later hb4 (cell_dr (cell_al _ (cl2))) | exact cell_later hb4 (cell_drN _ (cl2)) | exact cell_later hb4 (cell_drN _ (cell_al _ (cl2)))
          replace cl3 : w4.cell? ⟨w.heap.size + 1 + 1, 3, none⟩ = some (.int .u64 (V 1)) := by first | exact cell_later hb4 (cl3) | exact cell_later hb4 (cell_al _ (cl3)) | exact cell_later hb4 (cell_al _ (cell_al _ (cl3))) | exact cell_later hb4 (cell_dr (cl3)) | exact cell_later hb4 (cell_dr (cell_al _ (cl3))) | exact cell_later hb4 (cell_drN _ (cl3)) | exact cell_later hb4 (cell_drN _ (cell_al _ (cl3)))
          replace cl4 : w4.cell? ⟨w.heap.size + 1 + 1, 4, none⟩ = some (.int .u32 (R 1)) := by first | exact cell_later hb4 (cl4) | exact cell_later hb4 (cell_al _ (cl4)) | exact cell_later hb4 (cell_al _ (cell_al _ (cl4))) | exact cell_later hb4 (cell_dr (cl4)) | exact cell_later hb4 (cell_dr (cell_al _ (cl4))) | exact cell_later hb4 (cell_drN _ (cl4)) | exact cell_later hb4 (cell_drN _ (cell_al _ (cl4)))
          replace cl5 : w4.cell? ⟨w.heap.size + 1 + 1, 5, none⟩ = some (.int .u32 (C 1)) := by first | exact cell_later hb4 (cl5) | exact cell_later hb4 (cell_al _ (cl5)) | exact cell_later hb4 (cell_al _ (cell_al _ (cl5))) | exact cell_later hb4 (cell_dr (cl5)) | exact cell_later hb4 (cell_dr (cell_al _ (cl5))) | exact cell_later hb4 (cell_drN _ (cl5)) | exact cell_later hb4 (cell_drN _ (cell_al _ (cl5)))
          replace cl6 : w4.cell? ⟨w.heap.size + 1 + 1, 6, none⟩ = some (.int .u64 (V 2)) := by first | exact cell_later hb4 (cl6) | exact cell_later hb4 (cell_al _ (cl6)) | exact cell_later hb4 (cell_al _ (cell_al _ (cl6))) | exact cell_later hb4 (cell_dr (cl6)) | exact cell_later hb4 (cell_dr (cell_al _ (cl6))) | exact cell_later hb4 (cell_drN _ (cl6)) | exact cell_later hb4 (cell_drN _ (cell_al _ (cl6)))
          replace cl7 : w4.cell? ⟨w.heap.size + 1 + 1, 7, none⟩ = some (.int .u32 (R 2)) := by first | exact cell_later hb4 (cl7) | exact cell_later hb4 (cell_al _ (cl7)) | exact cell_later hb4 (cell_al _ (cell_al _ (cl7))) | exact cell_later hb4 (cell_dr (cl7)) | exact cell_later hb4 (cell_dr (cell_al _ (cl7))) | exact cell_later hb4 (cell_drN _ (cl7)) | exact cell_later hb4 (cell_drN _ (cell_al _ (cl7)))
          replace cl8 : w4.cell? ⟨w.heap.size + 1 + 1, 8, none⟩ = some (.int .u32 (C 2)) := by first | exact cell_later hb4 (cl8) | exact cell_later hb4 (cell_al _ (cl8)) | exact cell_later hb4 (cell_al _ (cell_al _ (cl8))) | exact cell_later hb4 (cell_dr (cl8)) | exact cell_later hb4 (cell_dr (cell_al _ (cl8))) | exact cell_later hb4 (cell_drN _ (cl8)) | exact cell_later hb4 (cell_drN _ (cell_al _ (cl8)))
          replace x0 : w4.cell? ⟨wi.heap.size, 0, none⟩ = some (.int .u64 (V i)) := by first | exact cell_later hb4 (x0) | exact cell_later hb4 (cell_al _ (x0)) | exact cell_later hb4 (cell_al _ (cell_al _ (x0))) | exact cell_later hb4 (cell_dr (x0)) | exact cell_later hb4 (cell_dr (cell_al _ (x0))) | exact cell_later hb4 (cell_drN _ (x0)) | exact cell_later hb4 (cell_drN _ (cell_al _ (x0)))
          replace x1 : w4.cell? ⟨wi.heap.size, 1, none⟩ = some (.int .u32 (R i)) := by first | exact cell_later hb4 (x1) | exact cell_later hb4 (cell_al _ (x1)) | exact cell_later hb4 (cell_al _ (cell_al _ (x1))) | exact cell_later hb4 (cell_dr (x1)) | exact cell_later hb4 (cell_dr (cell_al _ (x1))) | exact cell_later hb4 (cell_drN _ (x1)) | exact cell_later hb4 (cell_drN _ (cell_al _ (x1)))
          replace x2 : w4.cell? ⟨wi.heap.size, 2, none⟩ = some (.int .u32 (C i)) := by first | exact cell_later hb4 (x2) | exact cell_later hb4 (cell_al _ (x2)) | exact cell_later hb4 (cell_al _ (cell_al _ (x2))) | exact cell_later hb4 (cell_dr (x2)) | exact cell_later hb4 (cell_dr (cell_al _ (x2))) | exact cell_later hb4 (cell_drN _ (x2)) | exact cell_later hb4 (cell_drN _ (cell_al _ (x2)))
          replace y0 : w4.cell? ⟨w1.heap.size, 0, none⟩ = some (.int .u64 av) := by first | exact cell_later hb4 (y0) | exact cell_later hb4 (cell_al _ (y0)) | exact cell_later hb4 (cell_al _ (cell_al _ (y0))) | exact cell_later hb4 (cell_dr (y0)) | exact cell_later hb4 (cell_dr (cell_al _ (y0))) | exact cell_later hb4 (cell_drN _ (y0)) | exact cell_later hb4 (cell_drN _ (cell_al _ (y0)))
          replace y1 : w4.cell? ⟨w1.heap.size, 1, none⟩ = some (.int .u32 ar) := by first | exact cell_later hb4 (y1) | exact cell_later hb4 (cell_al _ (y1)) | exact cell_later hb4 (cell_al _ (cell_al _ (y1))) | exact cell_later hb4 (cell_dr (y1)) | exact cell_later hb4 (cell_dr (cell_al _ (y1))) | exact cell_later hb4 (cell_drN _ (y1)) | exact cell_later hb4 (cell_drN _ (cell_al _ (y1)))
          replace y2 : w4.cell? ⟨w1.heap.size, 2, none⟩ = some (.int .u32 (C i)) := by first | exact cell_later hb4 (y2) | exact cell_later hb4 (cell_al _ (y2)) | exact cell_later hb4 (cell_al _ (cell_al _ (y2))) | exact cell_later hb4 (cell_dr (y2)) | exact cell_later hb4 (cell_dr (cell_al _ (y2))) | exact cell_later hb4 (cell_drN _ (y2)) | exact cell_later hb4 (cell_drN _ (cell_al _ (y2)))
          have cl0_1 := fun o1 => cell_al o1 (cl0)
          have cl1_1 := fun o1 => cell_al o1 (cl1)
          have cl2_1 := fun o1 => cell_al o1 (cl2)
          have cl3_1 := fun o1 => cell_al o1 (cl3)
          have cl4_1 := fun o1 => cell_al o1 (cl4)
          have cl5_1 := fun o1 => cell_al o1 (cl5)
          have cl6_1 := fun o1 => cell_al o1 (cl6)
          have cl7_1 := fun o1 => cell_al o1 (cl7)
          have cl8_1 := fun o1 => cell_al o1 (cl8)
          have x0_1 := fun o1 => cell_al o1 (x0)
          have x1_1 := fun o1 => cell_al o1 (x1)
          have x2_1 := fun o1 => cell_al o1 (x2)
          have y0_1 := fun o1 => cell_al o1 (y0)
          have y1_1 := fun o1 => cell_al o1 (y1)
          have y2_1 := fun o1 => cell_al o1 (y2)
          go_wp2_with fail
          clear A1 A2 A3 A4
          have hb4w : Below wi.heap.size wi w4 := by
            repeat (first | exact Below.refl _ _ | refine Below.step ?_ (by assumption) | refine Below.setCell ?_ (by first | (simp; done) | (simp; omega) | omega) _ | refine Below.allocS ?_ _ | refine Below.drew ?_ | refine below_drewN ?_ _)
          clear hb1 hb2 hb3 hb4
          go_loopw [71] (fun s wr => ∃ k : Nat, k ≤ 3 ∧ s = .int .i64 k ∧ Below w4.heap.size w4 wr) (fun s _ => 3 - (intOf s).toNat)
          case atStart => exact ⟨0, by omega, rfl, Below.refl _ _⟩
          case round =>
            obtain ⟨j, hj, rfl, hbj⟩ := hrel
            by_cases hlt3 : j < 3
            · have z3 : decide ((j : Int) < 3) = true := by simp; omega
              have ix := fun W => idx3 V R C j hlt3 W
              have okx := (KEY.out i).2.1
              have okz := (KEY.out j).2.1
              obtain ⟨wj, rfl⟩ : ∃ wo : World, wo = wr := ⟨_, rfl⟩
              have dcl0 : wj.cell? ⟨w.heap.size + 1 + 1, 0, none⟩ = some (.int .u64 (V 0)) := cell_later hbj cl0
              have dcl1 : wj.cell? ⟨w.heap.size + 1 + 1, 1, none⟩ = some (.int .u32 (R 0)) := cell_later hbj cl1
              have dcl2 : wj.cell? ⟨w.heap.size + 1 + 1, 2, none⟩ = some (.int .u32 (C 0)) := cell_later hbj cl2
              have dcl3 : wj.cell? ⟨w.heap.size + 1 + 1, 3, none⟩ = some (.int .u64 (V 1)) := cell_later hbj cl3
              have dcl4 : wj.cell? ⟨w.heap.size + 1 + 1, 4, none⟩ = some (.int .u32 (R 1)) := cell_later hbj cl4
              have dcl5 : wj.cell? ⟨w.heap.size + 1 + 1, 5, none⟩ = some (.int .u32 (C 1)) := cell_later hbj cl5
              have dcl6 : wj.cell? ⟨w.heap.size + 1 + 1, 6, none⟩ = some (.int .u64 (V 2)) := cell_later hbj cl6
              have dcl7 : wj.cell? ⟨w.heap.size + 1 + 1, 7, none⟩ = some (.int .u32 (R 2)) := cell_later hbj cl7
              have dcl8 : wj.cell? ⟨w.heap.size + 1 + 1, 8, none⟩ = some (.int .u32 (C 2)) := cell_later hbj cl8
              have dx0 : wj.cell? ⟨wi.heap.size, 0, none⟩ = some (.int .u64 (V i)) := cell_later hbj x0
              have dx1 : wj.cell? ⟨wi.heap.size, 1, none⟩ = some (.int .u32 (R i)) := cell_later hbj x1
              have dx2 : wj.cell? ⟨wi.heap.size, 2, none⟩ = some (.int .u32 (C i)) := cell_later hbj x2
              have dy0 : wj.cell? ⟨w1.heap.size, 0, none⟩ = some (.int .u64 av) := cell_later hbj y0
              have dy1 : wj.cell? ⟨w1.heap.size, 1, none⟩ = some (.int .u32 ar) := cell_later hbj y1
              have dy2 : wj.cell? ⟨w1.heap.size, 2, none⟩ = some (.int .u32 (C i)) := cell_later hbj y2
              have dx0_1 := fun o1 => cell_al o1 (dx0)
              have dx1_1 := fun o1 => cell_al o1 (dx1)
              have dx2_1 := fun o1 => cell_al o1 (dx2)
              cases hP : Ch.lessB (V i) (R i) (C i) (V j) (R j) (C j)
              · have A1 := Lib.hid fun W => lessC_any (V i) (R i) (C i) (V j) (R j) (C j) false W okx okz hP
                clear hP okx okz
                go_wp2_with fail
                clear ix
                refine (A1.out _).mono ?_; rintro e w5 ⟨rfl, hb5⟩
                have hbw : Below wj.heap.size wj w5 := by
                  repeat (first | exact Below.refl _ _ | refine Below.step ?_ (by assumption) | refine Below.setCell ?_ (by first | (simp; done) | (simp; omega) | omega) _ | refine Below.allocS ?_ _ | refine Below.drew ?_ | refine below_drewN ?_ _)
                clear A1 hb5
                go_wp2_with fail
                go_roundw
                case rel => exact ⟨j + 1, by omega, by go_num, Below.step hbj hbw⟩
                case measure => simp [intOf]; omega
              · have A1 := Lib.hid fun W => lessC_any (V i) (R i) (C i) (V j) (R j) (C j) true W okx okz hP
                have A2 := Lib.hid fun W => lessC_any (V j) (R j) (C j) (V i) (R i) (C i) false W okz okx (Ch.less_asym hP)
                clear hP okx okz
                go_wp2_with fail
                clear ix
                refine (A1.out _).mono ?_; rintro e w5 ⟨rfl, hb5⟩
                clear dx0_1 dx1_1 dx2_1
                replace dx0 : w5.cell? ⟨wi.heap.size, 0, none⟩ = some (.int .u64 (V i)) := by first | exact cell_later hb5 (dx0) | exact cell_later hb5 (cell_al _ (dx0)) | exact cell_later hb5 (cell_al _ (cell_al _ (dx0))) | exact cell_later hb5 (cell_dr (dx0)) | exact cell_later hb5 (cell_dr (cell_al _ (dx0))) | exact cell_later hb5 (cell_drN _ (dx0)) | exact cell_later hb5 (cell_drN _ (cell_al _ (dx0)))
                replace dx1 : w5.cell? ⟨wi.heap.size, 1, none⟩ = some (.int .u32 (R i)) := by first | exact cell_later hb5 (dx1) | exact cell_later hb5 (cell_al _ (dx1)) | exact cell_later hb5 (cell_al _ (cell_al _ (dx1))) | exact cell_later hb5 (cell_dr (dx1)) | exact cell_later hb5 (cell_dr (cell_al _ (dx1))) | exact cell_later hb5 (cell_drN _ (dx1)) | exact cell_later hb5 (cell_drN _ (cell_al _ (dx1)))
                replace dx2 : w5.cell? ⟨wi.heap.size, 2, none⟩ = some (.int .u32 (C i)) := by first | exact cell_later hb5 (dx2) | exact cell_later hb5 (cell_al _ (dx2)) | exact cell_later hb5 (cell_al _ (cell_al _ (dx2))) | exact cell_later hb5 (cell_dr (dx2)) | exact cell_later hb5 (cell_dr (cell_al _ (dx2))) | exact cell_later hb5 (cell_drN _ (dx2)) | exact cell_later hb5 (cell_drN _ (cell_al _ (dx2)))
                have t0 : w5.cell? ⟨wj.heap.size, 0, none⟩ = some (.int .u64 (V j)) := by first | exact cell_later hb5 (cell_nw _ _ _ 0 _ rfl) | exact cell_later hb5 (cell_al _ (cell_nw _ _ _ 0 _ rfl)) | exact cell_later hb5 (cell_al _ (cell_al _ (cell_nw _ _ _ 0 _ rfl))) | exact cell_later hb5 (cell_dr (cell_nw _ _ _ 0 _ rfl)) | exact cell_later hb5 (cell_dr (cell_al _ (cell_nw _ _ _ 0 _ rfl))) | exact cell_later hb5 (cell_drN _ (cell_nw _ _ _ 0 _ rfl)) | exact cell_later hb5 (cell_drN _ (cell_al _ (cell_nw _ _ _ 0 _ rfl)))
                have t1 : w5.cell? ⟨wj.heap.size, 1, none⟩ = some (.int .u32 (R j)) := by first | exact cell_later hb5 (cell_nw _ _ _ 1 _ rfl) | exact cell_later hb5 (cell_al _ (cell_nw _ _ _ 1 _ rfl)) | exact cell_later hb5 (cell_al _ (cell_al _ (cell_nw _ _ _ 1 _ rfl))) | exact cell_later hb5 (cell_dr (cell_nw _ _ _ 1 _ rfl)) | exact cell_later hb5 (cell_dr (cell_al _ (cell_nw _ _ _ 1 _ rfl))) | exact cell_later hb5 (cell_drN _ (cell_nw _ _ _ 1 _ rfl)) | exact cell_later hb5 (cell_drN _ (cell_al _ (cell_nw _ _ _ 1 _ rfl)))
                have t2 : w5.cell? ⟨wj.heap.size, 2, none⟩ = some (.int .u32 (C j)) := by first | exact cell_later hb5 (cell_nw _ _ _ 2 _ rfl) | exact cell_later hb5 (cell_al _ (cell_nw _ _ _ 2 _ rfl)) | exact cell_later hb5 (cell_al _ (cell_al _ (cell_nw _ _ _ 2 _ rfl))) | exact cell_later hb5 (cell_dr (cell_nw _ _ _ 2 _ rfl)) | exact cell_later hb5 (cell_dr (cell_al _ (cell_nw _ _ _ 2 _ rfl))) | exact cell_later hb5 (cell_drN _ (cell_nw _ _ _ 2 _ rfl)) | exact cell_later hb5 (cell_drN _ (cell_al _ (cell_nw _ _ _ 2 _ rfl)))
                have dx0_1 := fun o1 => cell_al o1 (dx0)
                have dx1_1 := fun o1 => cell_al o1 (dx1)
                have dx2_1 := fun o1 => cell_al o1 (dx2)
                have t0_1 := fun o1 => cell_al o1 (t0)
                have t1_1 := fun o1 => cell_al o1 (t1)
                have t2_1 := fun o1 => cell_al o1 (t2)
                go_wp2_with fail
                refine (A2.out _).mono ?_; rintro e w6 ⟨rfl, hb6⟩
                clear dx0_1 dx1_1 dx2_1 t0_1 t1_1 t2_1
                replace dx0 : w6.cell? ⟨wi.heap.size, 0, none⟩ = some (.int .u64 (V i)) := by first | exact cell_later hb6 (dx0) | exact cell_later hb6 (cell_al _ (dx0)) | exact cell_later hb6 (cell_al _ (cell_al _ (dx0))) | exact cell_later hb6 (cell_dr (dx0)) | exact cell_later hb6 (cell_dr (cell_al _ (dx0))) | exact cell_later hb6 (cell_drN _ (dx0)) | exact cell_later hb6 (cell_drN _ (cell_al _ (dx0)))
                replace dx1 : w6.cell? ⟨wi.heap.size, 1, none⟩ = some (.int .u32 (R i)) := by first | exact cell_later hb6 (dx1) | exact cell_later hb6 (cell_al _ (dx1)) | exact cell_later hb6 (cell_al _ (cell_al _ (dx1))) | exact cell_later hb6 (cell_dr (dx1)) | exact cell_later hb6 (cell_dr (cell_al _ (dx1))) | exact cell_later hb6 (cell_drN _ (dx1)) | exact cell_later hb6 (cell_drN _ (cell_al _ (dx1)))
                replace dx2 : w6.cell? ⟨wi.heap.size, 2, none⟩ = some (.int .u32 (C i)) := by first | exact cell_later hb6 (dx2) | exact cell_later hb6 (cell_al _ (dx2)) | exact cell_later hb6 (cell_al _ (cell_al _ (dx2))) | exact cell_later hb6 (cell_dr (dx2)) | exact cell_later hb6 (cell_dr (cell_al _ (dx2))) | exact cell_later hb6 (cell_drN _ (dx2)) | exact cell_later hb6 (cell_drN _ (cell_al _ (dx2)))
                replace t0 : w6.cell? ⟨wj.heap.size, 0, none⟩ = some (.int .u64 (V j)) := by first | exact cell_later hb6 (t0) | exact cell_later hb6 (cell_al _ (t0)) | exact cell_later hb6 (cell_al _ (cell_al _ (t0))) | exact cell_later hb6 (cell_dr (t0)) | exact cell_later hb6 (cell_dr (cell_al _ (t0))) | exact cell_later hb6 (cell_drN _ (t0)) | exact cell_later hb6 (cell_drN _ (cell_al _ (t0)))
                replace t1 : w6.cell? ⟨wj.heap.size, 1, none⟩ = some (.int .u32 (R j)) := by first | exact cell_later hb6 (t1) | exact cell_later hb6 (cell_al _ (t1)) | exact cell_later hb6 (cell_al _ (cell_al _ (t1))) | exact cell_later hb6 (cell_dr (t1)) | exact cell_later hb6 (cell_dr (cell_al _ (t1))) | exact cell_later hb6 (cell_drN _ (t1)) | exact cell_later hb6 (cell_drN _ (cell_al _ (t1)))
                replace t2 : w6.cell? ⟨wj.heap.size, 2, none⟩ = some (.int .u32 (C j)) := by first | exact cell_later hb6 (t2) | exact cell_later hb6 (cell_al _ (t2)) | exact cell_later hb6 (cell_al _ (cell_al _ (t2))) | exact cell_later hb6 (cell_dr (t2)) | exact cell_later hb6 (cell_dr (cell_al _ (t2))) | exact cell_later hb6 (cell_drN _ (t2)) | exact cell_later hb6 (cell_drN _ (cell_al _ (t2)))
                have dx0_1 := fun o1 => cell_al o1 (dx0)
                have dx1_1 := fun o1 => cell_al o1 (dx1)
                have dx2_1 := fun o1 => cell_al o1 (dx2)
                have t0_1 := fun o1 => cell_al o1 (t0)
                have t1_1 := fun o1 => cell_al o1 (t1)
                have t2_1 := fun o1 => cell_al o1 (t2)
                have hbw : Below wj.heap.size wj w6 := by
                  repeat (first | exact Below.refl _ _ | refine Below.step ?_ (by assumption) | refine Below.setCell ?_ (by first | (simp; done) | (simp; omega) | omega) _ | refine Below.allocS ?_ _ | refine Below.drew ?_ | refine below_drewN ?_ _)
                clear A1 A2 hb5 hb6
                go_wp2_with fail
                go_roundw
                case rel => exact ⟨j + 1, by omega, by go_num, Below.step hbj hbw⟩
                case measure => simp [intOf]; omega
            · go_wp2_with fail
              go_roundw
              case rel => exact ⟨i + 1, by omega, by go_num, Below.step (Below.step hb hb4w) hbj⟩
              case measure => simp [intOf]; omega
        · have hge2 : (3 : Int) ≤ (i : Int) := by omega
          have ok0 := (KEY.out 0).2.1
          have ok1 := (KEY.out 1).2.1
          have ok2 := (KEY.out 2).2.1
          clear hlt hi
          replace l0 : wr.cell? ⟨w.heap.size + 1 + 1, 0, none⟩ = some (.int .u64 (V 0)) := cell_later hb l0
          replace l1 : wr.cell? ⟨w.heap.size + 1 + 1, 1, none⟩ = some (.int .u32 (R 0)) := cell_later hb l1
          replace l2 : wr.cell? ⟨w.heap.size + 1 + 1, 2, none⟩ = some (.int .u32 (C 0)) := cell_later hb l2
          replace l3 : wr.cell? ⟨w.heap.size + 1 + 1, 3, none⟩ = some (.int .u64 (V 1)) := cell_later hb l3
          replace l4 : wr.cell? ⟨w.heap.size + 1 + 1, 4, none⟩ = some (.int .u32 (R 1)) := cell_later hb l4
          replace l5 : wr.cell? ⟨w.heap.size + 1 + 1, 5, none⟩ = some (.int .u32 (C 1)) := cell_later hb l5
          replace l6 : wr.cell? ⟨w.heap.size + 1 + 1, 6, none⟩ = some (.int .u64 (V 2)) := cell_later hb l6
          replace l7 : wr.cell? ⟨w.heap.size + 1 + 1, 7, none⟩ = some (.int .u32 (R 2)) := cell_later hb l7
          replace l8 : wr.cell? ⟨w.heap.size + 1 + 1, 8, none⟩ = some (.int .u32 (C 2)) := cell_later hb l8
          cases hA : Ch.lessB (V 0) (R 0) (C 0) (V 1) (R 1) (C 1)
          all_goals cases hB : Ch.lessB (V 1) (R 1) (C 1) (V 2) (R 2) (C 2)
          · have A1 := Lib.hid fun W => lessC_any _ _ _ _ _ _ false W ok0 ok1 hA
            have B1 := Lib.hid fun W => lessC_any _ _ _ _ _ _ false W ok1 ok2 hB
            have C1 := Lib.hid fun W => lessC_any _ _ _ _ _ _ false W ok0 ok2 (Ch.less_neg ok0 ok1 ok2 hA hB)
            clear hA hB ok0 ok1 ok2
            go_wp2_with fail
            refine (A1.out _).mono ?_; rintro e w1 ⟨rfl, hb1⟩
            replace l0 : w1.cell? ⟨w.heap.size + 1 + 1, 0, none⟩ = some (.int .u64 (V 0)) := by first | exact cell_later hb1 (l0) | exact cell_later hb1 (cell_al _ (l0)) | exact cell_later hb1 (cell_al _ (cell_al _ (l0))) | exact cell_later hb1 (cell_dr (l0)) | exact cell_later hb1 (cell_dr (cell_al _ (l0))) | exact cell_later hb1 (cell_drN _ (l0)) | exact cell_later hb1 (cell_drN _ (cell_al _ (l0)))
            replace l1 : w1.cell? ⟨w.heap.size + 1 + 1, 1, none⟩ = some (.int .u32 (R 0)) := by first | exact cell_later hb1 (l1) | exact cell_later hb1 (cell_al _ (l1)) | exact cell_later hb1 (cell_al _ (cell_al _ (l1))) | exact cell_later hb1 (cell_dr (l1)) | exact cell_later hb1 (cell_dr (cell_al _ (l1))) | exact cell_later hb1 (cell_drN _ (l1)) | exact cell_later hb1 (cell_drN _ (cell_al _ (l1)))
            replace l2 : w1.cell? ⟨w.heap.size + 1 + 1, 2, none⟩ = some (.int .u32 (C 0)) := by first | exact cell_later hb1 (l2) | exact cell_later hb1 (cell_al _ (l2)) | exact cell_later hb1 (cell_al _ (cell_al _ (l2))) | exact cell_later hb1 (cell_dr (l2)) | exact cell_later hb1 (cell_dr (cell_al _ (l2))) | exact cell_later hb1 (cell_drN _ (l2)) | exact cell_later hb1 (cell_drN _ (cell_al _ (l2)))
            replace l3 : w1.cell? ⟨w.heap.size + 1 + 1, 3, none⟩ = some (.int .u64 (V 1)) := by first | exact cell_later hb1 (l3) | exact cell_later hb1 (cell_al _ (l3)) | exact cell_later hb1 (cell_al _ (cell_al _ (l3))) | exact cell_later hb1 (cell_dr (l3)) | exact cell_later hb1 (cell_dr (cell_al _ (l3))) | exact cell_later hb1 (cell_drN _ (l3)) | exact cell_later hb1 (cell_drN _ (cell_al _ (l3)))
            replace l4 : w1.cell? ⟨w.heap.size + 1 + 1, 4, none⟩ = some (.int .u32 (R 1)) := by first | exact cell_later hb1 (l4) | exact cell_later hb1 (cell_al _ (l4)) | exact cell_later hb1 (cell_al _ (cell_al _ (l4))) | exact cell_later hb1 (cell_dr (l4)) | exact cell_later hb1 (cell_dr (cell_al _ (l4))) | exact cell_later hb1 (cell_drN _ (l4)) | exact cell_later hb1 (cell_drN _ (cell_al _ (l4)))
            replace l5 : w1.cell? ⟨w.heap.size + 1 + 1, 5, none⟩ = some (.int .u32 (C 1)) := by first | exact cell_later hb1 (l5) | exact cell_later hb1 (cell_al _ (l5)) | exact cell_later hb1 (cell_al _ (cell_al _ (l5))) | exact cell_later hb1 (cell_dr (l5)) | exact cell_later hb1 (cell_dr (cell_al _ (l5))) | exact cell_later hb1 (cell_drN _ (l5)) | exact cell_later hb1 (cell_drN _ (cell_al _ (l5)))
            replace l6 : w1.cell? ⟨w.heap.size + 1 + 1, 6, none⟩ = some (.int .u64 (V 2)) := by first | exact cell_later hb1 (l6) | exact cell_later hb1 (cell_al _ (l6)) | exact cell_later hb1 (cell_al _ (cell_al _ (l6))) | exact cell_later hb1 (cell_dr (l6)) | exact cell_later hb1 (cell_dr (cell_al _ (l6))) | exact cell_later hb1 (cell_drN _ (l6)) | exact cell_later hb1 (cell_drN _ (cell_al _ (l6)))
            replace l7 : w1.cell? ⟨w.heap.size + 1 + 1, 7, none⟩ = some (.int .u32 (R 2)) := by first | exact cell_later hb1 (l7) | exact cell_later hb1 (cell_al _ (l7)) | exact cell_later hb1 (cell_al _ (cell_al _ (l7))) | exact cell_later hb1 (cell_dr (l7)) | exact cell_later hb1 (cell_dr (cell_al _ (l7))) | exact cell_later hb1 (cell_drN _ (l7)) | exact cell_later hb1 (cell_drN _ (cell_al _ (l7)))
            replace l8 : w1.cell? ⟨w.heap.size + 1 + 1, 8, none⟩ = some (.int .u32 (C 2)) := by first | exact cell_later hb1 (l8) | exact cell_later hb1 (cell_al _ (l8)) | exact cell_later hb1 (cell_al _ (cell_al _ (l8))) | exact cell_later hb1 (cell_dr (l8)) | exact cell_later hb1 (cell_dr (cell_al _ (l8))) | exact cell_later hb1 (cell_drN _ (l8)) | exact cell_later hb1 (cell_drN _ (cell_al _ (l8)))
            go_wp2_with fail
            refine (A1.out _).mono ?_; rintro e w2 ⟨rfl, hb2⟩
            replace l0 : w2.cell? ⟨w.heap.size + 1 + 1, 0, none⟩ = some (.int .u64 (V 0)) := by first | exact cell_later hb2 (l0) | exact cell_later hb2 (cell_al _ (l0)) | exact cell_later hb2 (cell_al _ (cell_al _ (l0))) | exact cell_later hb2 (cell_dr (l0)) | exact cell_later hb2 (cell_dr (cell_al _ (l0))) | exact cell_later hb2 (cell_drN _ (l0)) | exact cell_later hb2 (cell_drN _ (cell_al _ (l0)))
            replace l1 : w2.cell? ⟨w.heap.size + 1 + 1, 1, none⟩ = some (.int .u32 (R 0)) := by first | exact cell_later hb2 (l1) | exact cell_later hb2 (cell_al _ (l1)) | exact cell_later hb2 (cell_al _ (cell_al _ (l1))) | exact cell_later hb2 (cell_dr (l1)) | exact cell_later hb2 (cell_dr (cell_al _ (l1))) | exact cell_later hb2 (cell_drN _ (l1)) | exact cell_later hb2 (cell_drN _ (cell_al _ (l1)))
            replace l2 : w2.cell? ⟨w.heap.size + 1 + 1, 2, none⟩ = some (.int .u32 (C 0)) := by first | exact cell_later hb2 (l2) | exact cell_later hb2 (cell_al _ (l2)) | exact cell_later hb2 (cell_al _ (cell_al _ (l2))) | exact cell_later hb2 (cell_dr (l2)) | exact cell_later hb2 (cell_dr (cell_al _ (l2))) | exact cell_later hb2 (cell_drN _ (l2)) | exact cell_later hb2 (cell_drN _ (cell_al _ (l2)))
            replace l3 : w2.cell? ⟨w.heap.size + 1 + 1, 3, none⟩ = some (.int .u64 (V 1)) := by first | exact cell_later hb2 (l3) | exact cell_later hb2 (cell_al _ (l3)) | exact cell_later hb2 (cell_al _ (cell_al _ (l3))) | exact cell_later hb2 (cell_dr (l3)) | exact cell_later hb2 (cell_dr (cell_al _ (l3))) | exact cell_later hb2 (cell_drN _ (l3)) | exact cell_later hb2 (cell_drN _ (cell_al _ (l3)))
            replace l4 : w2.cell? ⟨w.heap.size + 1 + 1, 4, none⟩ = some (.int .u32 (R 1)) := by first | exact cell_later hb2 (l4) | exact cell_later hb2 (cell_al _ (l4)) | exact cell_later hb2 (cell_al _ (cell_al _ (l4))) | exact cell_later hb2 (cell_dr (l4)) | exact cell_later hb2 (cell_dr (cell_al _ (l4))) | exact cell_later hb2 (cell_drN _ (l4)) | exact cell_later hb2 (cell_drN _ (cell_al _ (l4)))
            replace l5 : w2.cell? ⟨w.heap.size + 1 + 1, 5, none⟩ = some (.int .u32 (C 1)) := by first | exact cell_later hb2 (l5) | exact cell_later hb2 (cell_al _ (l5)) | exact cell_later hb2 (cell_al _ (cell_al _ (l5))) | exact cell_later hb2 (cell_dr (l5)) | exact cell_later hb2 (cell_dr (cell_al _ (l5))) | exact cell_later hb2 (cell_drN _ (l5)) | exact cell_later hb2 (cell_drN _ (cell_al _ (l5)))
            replace l6 : w2.cell? ⟨w.heap.size + 1 + 1, 6, none⟩ = some (.int .u64 (V 2)) := by first | exact cell_later hb2 (l6) | exact cell_later hb2 (cell_al _ (l6)) | exact cell_later hb2 (cell_al _ (cell_al _ (l6))) | exact cell_later hb2 (cell_dr (l6)) | exact cell_later hb2 (cell_dr (cell_al _ (l6))) | exact cell_later hb2 (cell_drN _ (l6)) | exact cell_later hb2 (cell_drN _ (cell_al _ (l6)))
            replace l7 : w2.cell? ⟨w.heap.size + 1 + 1, 7, none⟩ = some (.int .u32 (R 2)) := by first | exact cell_later hb2 (l7) | exact cell_later hb2 (cell_al _ (l7)) | exact cell_later hb2 (cell_al _ (cell_al _ (l7))) | exact cell_later hb2 (cell_dr (l7)) | exact cell_later hb2 (cell_dr (cell_al _ (l7))) | exact cell_later hb2 (cell_drN _ (l7)) | exact cell_later hb2 (cell_drN _ (cell_al _ (l7)))
            replace l8 : w2.cell? ⟨w.heap.size + 1 + 1, 8, none⟩ = some (.int .u32 (C 2)) := by first | exact cell_later hb2 (l8) | exact cell_later hb2 (cell_al _ (l8)) | exact cell_later hb2 (cell_al _ (cell_al _ (l8))) | exact cell_later hb2 (cell_dr (l8)) | exact cell_later hb2 (cell_dr (cell_al _ (l8))) | exact cell_later hb2 (cell_drN _ (l8)) | exact cell_later hb2 (cell_drN _ (cell_al _ (l8)))
            go_wp2_with fail
            refine (B1.out _).mono ?_; rintro e w3 ⟨rfl, hb3⟩
            replace l0 : w3.cell? ⟨w.heap.size + 1 + 1, 0, none⟩ = some (.int .u64 (V 0)) := by first | exact cell_later hb3 (l0) | exact cell_later hb3 (cell_al _ (l0)) | exact cell_later hb3 (cell_al _ (cell_al _ (l0))) | exact cell_later hb3 (cell_dr (l0)) | exact cell_later hb3 (cell_dr (cell_al _ (l0))) | exact cell_later hb3 (cell_drN _ (l0)) | exact cell_later hb3 (cell_drN _ (cell_al _ (l0)))
            replace l1 : w3.cell? ⟨w.heap.size + 1 + 1, 1, none⟩ = some (.int .u32 (R 0)) := by first | exact cell_later hb3 (l1) | exact cell_later hb3 (cell_al _ (l1)) | exact cell_later hb3 (cell_al _ (cell_al _ (l1))) | exact cell_later hb3 (cell_dr (l1)) | exact cell_later hb3 (cell_dr (cell_al _ (l1))) | exact cell_later hb3 (cell_drN _ (l1)) | exact cell_later hb3 (cell_drN _ (cell_al _ (l1)))
            replace l2 : w3.cell? ⟨w.heap.size + 1 + 1, 2, none⟩ = some (.int .u32 (C 0)) := by first | exact cell_later hb3 (l2) | exact cell_later hb3 (cell_al _ (l2)) | exact cell_later hb3 (cell_al _ (cell_al _ (l2))) | exact cell_later hb3 (cell_dr (l2)) | exact cell_later hb3 (cell_dr (cell_al _ (l2))) | exact cell_later hb3 (cell_drN _ (l2)) | exact cell_later hb3 (cell_drN _ (cell_al _ (l2)))
            replace l3 : w3.cell? ⟨w.heap.size + 1 + 1, 3, none⟩ = some (.int .u64 (V 1)) := by first | exact cell_later hb3 (l3) | exact cell_later hb3 (cell_al _ (l3)) | exact cell_later hb3 (cell_al _ (cell_al _ (l3))) | exact cell_later hb3 (cell_dr (l3)) | exact cell_later hb3 (cell_dr (cell_al _ (l3))) | exact cell_later hb3 (cell_drN _ (l3)) | exact cell_later hb3 (cell_drN _ (cell_al _ (l3)))
            replace l4 : w3.cell? ⟨w.heap.size + 1 + 1, 4, none⟩ = some (.int .u32 (R 1)) := by first | exact cell_later hb3 (l4) | exact cell_later hb3 (cell_al _ (l4)) | exact cell_later hb3 (cell_al _ (cell_al _ (l4))) | exact cell_later hb3 (cell_dr (l4)) | exact cell_later hb3 (cell_dr (cell_al _ (l4))) | exact cell_later hb3 (cell_drN _ (l4)) | exact cell_later hb3 (cell_drN _ (cell_al _ (l4)))
            replace l5 : w3.cell? ⟨w.heap.size + 1 + 1, 5, none⟩ = some (.int .u32 (C 1)) := by first | exact cell_later hb3 (l5) | exact cell_later hb3 (cell_al _ (l5)) | exact cell_later hb3 (cell_al _ (cell_al _ (l5))) | exact cell_later hb3 (cell_dr (l5)) | exact cell_later hb3 (cell_dr (cell_al _ (l5))) | exact cell_later hb3 (cell_drN _ (l5)) | exact cell_later hb3 (cell_drN _ (cell_al _ (l5)))
            replace l6 : w3.cell? ⟨w.heap.size + 1 + 1, 6, none⟩ = some (.int .u64 (V 2)) := by first | exact cell_later hb3 (l6) | exact cell_later hb3 (cell_al _ (l6)) | exact cell_later hb3 (cell_al _ (cell_al _ (l6))) | exact cell_later hb3 (cell_dr (l6)) | exact cell_later hb3 (cell_dr (cell_al _ (l6))) | exact cell_later hb3 (cell_drN _ (l6)) | exact cell_later hb3 (cell_drN _ (cell_al _ (l6)))
            replace l7 : w3.cell? ⟨w.heap.size + 1 + 1, 7, none⟩ = some (.int .u32 (R 2)) := by first | exact cell_later hb3 (l7) | exact cell_later hb3 (cell_al _ (l7)) | exact cell_later hb3 (cell_al _ (cell_al _ (l7))) | exact cell_later hb3 (cell_dr (l7)) | exact cell_later hb3 (cell_dr (cell_al _ (l7))) | exact cell_later hb3 (cell_drN _ (l7)) | exact cell_later hb3 (cell_drN _ (cell_al _ (l7)))
            replace l8 : w3.cell? ⟨w.heap.size + 1 + 1, 8, none⟩ = some (.int .u32 (C 2)) := by first | exact cell_later hb3 (l8) | exact cell_later hb3 (cell_al _ (l8)) | exact cell_later hb3 (cell_al _ (cell_al _ (l8))) | exact cell_later hb3 (cell_dr (l8)) | exact cell_later hb3 (cell_dr (cell_al _ (l8))) | exact cell_later hb3 (cell_drN _ (l8)) | exact cell_later hb3 (cell_drN _ (cell_al _ (l8)))
            go_wp2_with fail
            refine (C1.out _).mono ?_; rintro e w4 ⟨rfl, hb4⟩
            replace l0 : w4.cell? ⟨w.heap.size + 1 + 1, 0, none⟩ = some (.int .u64 (V 0)) := by first | exact cell_later hb4 (l0) | exact cell_later hb4 (cell_al _ (l0)) | exact cell_later hb4 (cell_al _ (cell_al _ (l0))) | exact cell_later hb4 (cell_dr (l0)) | exact cell_later hb4 (cell_dr (cell_al _ (l0))) | exact cell_later hb4 (cell_drN _ (l0)) | exact cell_later hb4 (cell_drN _ (cell_al _ (l0)))
            replace l1 : w4.cell? ⟨w.heap.size + 1 + 1, 1, none⟩ = some (.int .u32 (R 0)) := by first | exact cell_later hb4 (l1) | exact cell_later hb4 (cell_al _ (l1)) | exact cell_later hb4 (cell_al _ (cell_al _ (l1))) | exact cell_later hb4 (cell_dr (l1)) | exact cell_later hb4 (cell_dr (cell_al _ (l1))) | exact cell_later hb4 (cell_drN _ (l1)) | exact cell_later hb4 (cell_drN _ (cell_al _ (l1)))
            replace l2 : w4.cell? ⟨w.heap.size + 1 + 1, 2, none⟩ = some (.int .u32 (C 0)) := by first | exact cell_later hb4 (l2) | exact cell_later hb4 (cell_al _ (l2)) | exact cell_later hb4 (cell_al _ (cell_al _ (l2))) | exact cell_later hb4 (cell_dr (l2)) | exact cell_later hb4 (cell_dr (cell_al _ (l2))) | exact cell_later hb4 (cell_drN _ (l2)) | exact cell_later hb4 (cell_drN _ (cell_al _ (l2)))
            replace l3 : w4.cell? ⟨w.heap.size + 1 + 1, 3, none⟩ = some (.int .u64 (V 1)) := by first | exact cell_later hb4 (l3) | exact cell_later hb4 (cell_al _ (l3)) | exact cell_later hb4 (cell_al _ (cell_al _ (l3))) | exact cell_later hb4 (cell_dr (l3)) | exact cell_later hb4 (cell_dr (cell_al _ (l3))) | exact cell_later hb4 (cell_drN _ (l3)) | exact cell_later hb4 (cell_drN _ (cell_al _ (l3)))
            replace l4 : w4.cell? ⟨w.heap.size + 1 + 1, 4, none⟩ = some (.int .u32 (R 1)) := by first | exact cell_later hb4 (l4) | exact cell_later hb4 (cell_al _ (l4)) | exact cell_later hb4 (cell_al _ (cell_al _ (l4))) | exact cell_later hb4 (cell_dr (l4)) | exact cell_later hb4 (cell_dr (cell_al _ (l4))) | exact cell_later hb4 (cell_drN _ (l4)) | exact cell_later hb4 (cell_drN _ (cell_al _ (l4)))
            replace l5 : w4.cell? ⟨w.heap.size + 1 + 1, 5, none⟩ = some (.int .u32 (C 1)) := by first | exact cell_later hb4 (l5) | exact cell_later hb4 (cell_al _ (l5)) | exact cell_later hb4 (cell_al _ (cell_al _ (l5))) | exact cell_later hb4 (cell_dr (l5)) | exact cell_later hb4 (cell_dr (cell_al _ (l5))) | exact cell_later hb4 (cell_drN _ (l5)) | exact cell_later hb4 (cell_drN _ (cell_al _ (l5)))
            replace l6 : w4.cell? ⟨w.heap.size + 1 + 1, 6, none⟩ = some (.int .u64 (V 2)) := by first | exact cell_later hb4 (l6) | exact cell_later hb4 (cell_al _ (l6)) | exact cell_later hb4 (cell_al _ (cell_al _ (l6))) | exact cell_later hb4 (cell_dr (l6)) | exact cell_later hb4 (cell_dr (cell_al _ (l6))) | exact cell_later hb4 (cell_drN _ (l6)) | exact cell_later hb4 (cell_drN _ (cell_al _ (l6)))
            replace l7 : w4.cell? ⟨w.heap.size + 1 + 1, 7, none⟩ = some (.int .u32 (R 2)) := by first | exact cell_later hb4 (l7) | exact cell_later hb4 (cell_al _ (l7)) | exact cell_later hb4 (cell_al _ (cell_al _ (l7))) | exact cell_later hb4 (cell_dr (l7)) | exact cell_later hb4 (cell_dr (cell_al _ (l7))) | exact cell_later hb4 (cell_drN _ (l7)) | exact cell_later hb4 (cell_drN _ (cell_al _ (l7)))
            replace l8 : w4.cell? ⟨w.heap.size + 1 + 1, 8, none⟩ = some (.int .u32 (C 2)) := by first | exact cell_later hb4 (l8) | exact cell_later hb4 (cell_al _ (l8)) | exact cell_later hb4 (cell_al _ (cell_al _ (l8))) | exact cell_later hb4 (cell_dr (l8)) | exact cell_later hb4 (cell_dr (cell_al _ (l8))) | exact cell_later hb4 (cell_drN _ (l8)) | exact cell_later hb4 (cell_drN _ (cell_al _ (l8)))
            go_wp2_with fail
            refine (awake_any _).mono ?_; rintro e w9 ⟨rfl, hb9⟩
            go_wp2_with fail
            go_ret
            refine ⟨rfl, ?_⟩
            refine Below.step (w := w4) ?_ hb9
            exact Below.step (Below.step (Below.step (Below.step (Below.step hb0 hb) hb1) hb2) hb3) hb4
          · have A1 := Lib.hid fun W => lessC_any _ _ _ _ _ _ false W ok0 ok1 hA
            have B1 := Lib.hid fun W => lessC_any _ _ _ _ _ _ true W ok1 ok2 hB
            clear hA hB ok0 ok1 ok2
            go_wp2_with fail
            refine (A1.out _).mono ?_; rintro e w1 ⟨rfl, hb1⟩
            replace l0 : w1.cell? ⟨w.heap.size + 1 + 1, 0, none⟩ = some (.int .u64 (V 0)) := by first | exact cell_later hb1 (l0) | exact cell_later hb1 (cell_al _ (l0)) | exact cell_later hb1 (cell_al _ (cell_al _ (l0))) | exact cell_later hb1 (cell_dr (l0)) | exact cell_later hb1 (cell_dr (cell_al _ (l0))) | exact cell_later hb1 (cell_drN _ (l0)) | exact cell_later hb1 (cell_drN _ (cell_al _ (l0)))
            replace l1 : w1.cell? ⟨w.heap.size + 1 + 1, 1, none⟩ = some (.int .u32 (R 0)) := by first | exact cell_later hb1 (l1) | exact cell_later hb1 (cell_al _ (l1)) | exact cell_later hb1 (cell_al _ (cell_al _ (l1))) | exact cell_later hb1 (cell_dr (l1)) | exact cell_later hb1 (cell_dr (cell_al _ (l1))) | exact cell_later hb1 (cell_drN _ (l1)) | exact cell_later hb1 (cell_drN _ (cell_al _ (l1)))
            replace l2 : w1.cell? ⟨w.heap.size + 1 + 1, 2, none⟩ = some (.int .u32 (C 0)) := by first | exact cell_later hb1 (l2) | exact cell_later hb1 (cell_al _ (l2)) | exact cell_later hb1 (cell_al _ (cell_al _ (l2))) | exact cell_later hb1 (cell_dr (l2)) | exact cell_later hb1 (cell_dr (cell_al _ (l2))) | exact cell_later hb1 (cell_drN _ (l2)) | exact cell_later hb1 (cell_drN _ (cell_al _ (l2)))
            replace l3 : w1.cell? ⟨w.heap.size + 1 + 1, 3, none⟩ = some (.int .u64 (V 1)) := by first | exact cell_later hb1 (l3) | exact cell_later hb1 (cell_al _ (l3)) | exact cell_later hb1 (cell_al _ (cell_al _ (l3))) | exact cell_later hb1 (cell_dr (l3)) | exact cell_later hb1 (cell_dr (cell_al _ (l3))) | exact cell_later hb1 (cell_drN _ (l3)) | exact cell_later hb1 (cell_drN _ (cell_al _ (l3)))
            replace l4 : w1.cell? ⟨w.heap.size + 1 + 1, 4, none⟩ = some (.int .u32 (R 1)) := by first | exact cell_later hb1 (l4) | exact cell_later hb1 (cell_al _ (l4)) | exact cell_later hb1 (cell_al _ (cell_al _ (l4))) | exact cell_later hb1 (cell_dr (l4)) | exact cell_later hb1 (cell_dr (cell_al _ (l4))) | exact cell_later hb1 (cell_drN _ (l4)) | exact cell_later hb1 (cell_drN _ (cell_al _ (l4)))
            replace l5 : w1.cell? ⟨w.heap.size + 1 + 1, 5, none⟩ = some (.int .u32 (C 1)) := by first | exact cell_later hb1 (l5) | exact cell_later hb1 (cell_al _ (l5)) | exact cell_later hb1 (cell_al _ (cell_al _ (l5))) | exact cell_later hb1 (cell_dr (l5)) | exact cell_later hb1 (cell_dr (cell_al _ (l5))) | exact cell_later hb1 (cell_drN _ (l5)) | exact cell_later hb1 (cell_drN _ (cell_al _ (l5)))
            replace l6 : w1.cell? ⟨w.heap.size + 1 + 1, 6, none⟩ = some (.int .u64 (V 2)) := by first | exact cell_later hb1 (l6) | exact cell_later hb1 (cell_al _ (l6)) | exact cell_later hb1 (cell_al _ (cell_al _ (l6))) | exact cell_later hb1 (cell_dr (l6)) | exact cell_later hb1 (cell_dr (cell_al _ (l6))) | exact cell_later hb1 (cell_drN _ (l6)) | exact cell_later hb1 (cell_drN _ (cell_al _ (l6)))
            replace l7 : w1.cell? ⟨w.heap.size + 1 + 1, 7, none⟩ = some (.int .u32 (R 2)) := by first | exact cell_later hb1 (l7) | exact cell_later hb1 (cell_al _ (l7)) | exact cell_later hb1 (cell_al _ (cell_al _ (l7))) | exact cell_later hb1 (cell_dr (l7)) | exact cell_later hb1 (cell_dr (cell_al _ (l7))) | exact cell_later hb1 (cell_drN _ (l7)) | exact cell_later hb1 (cell_drN _ (cell_al _ (l7)))
            replace l8 : w1.cell? ⟨w.heap.size + 1 + 1, 8, none⟩ = some (.int .u32 (C 2)) := by first | exact cell_later hb1 (l8) | exact cell_later hb1 (cell_al _ (l8)) | exact cell_later hb1 (cell_al _ (cell_al _ (l8))) | exact cell_later hb1 (cell_dr (l8)) | exact cell_later hb1 (cell_dr (cell_al _ (l8))) | exact cell_later hb1 (cell_drN _ (l8)) | exact cell_later hb1 (cell_drN _ (cell_al _ (l8)))
            go_wp2_with fail
            refine (A1.out _).mono ?_; rintro e w2 ⟨rfl, hb2⟩
            replace l0 : w2.cell? ⟨w.heap.size + 1 + 1, 0, none⟩ = some (.int .u64 (V 0)) := by first | exact cell_later hb2 (l0) | exact cell_later hb2 (cell_al _ (l0)) | exact cell_later hb2 (cell_al _ (cell_al _ (l0))) | exact cell_later hb2 (cell_dr (l0)) | exact cell_later hb2 (cell_dr (cell_al _ (l0))) | exact cell_later hb2 (cell_drN _ (l0)) | exact cell_later hb2 (cell_drN _ (cell_al _ (l0)))
            replace l1 : w2.cell? ⟨w.heap.size + 1 + 1, 1, none⟩ = some (.int .u32 (R 0)) := by first | exact cell_later hb2 (l1) | exact cell_later hb2 (cell_al _ (l1)) | exact cell_later hb2 (cell_al _ (cell_al _ (l1))) | exact cell_later hb2 (cell_dr (l1)) | exact cell_later hb2 (cell_dr (cell_al _ (l1))) | exact cell_later hb2 (cell_drN _ (l1)) | exact cell_later hb2 (cell_drN _ (cell_al _ (l1)))
            replace l2 : w2.cell? ⟨w.heap.size + 1 + 1, 2, none⟩ = some (.int .u32 (C 0)) := by first | exact cell_later hb2 (l2) | exact cell_later hb2 (cell_al _ (l2)) | exact cell_later hb2 (cell_al _ (cell_al _ (l2))) | exact cell_later hb2 (cell_dr (l2)) | exact cell_later hb2 (cell_dr (cell_al _ (l2))) | exact cell_later hb2 (cell_drN _ (l2)) | exact cell_later hb2 (cell_drN _ (cell_al _ (l2)))
            replace l3 : w2.cell? ⟨w.heap.size + 1 + 1, 3, none⟩ = some (.int .u64 (V 1)) := by first | exact cell_later hb2 (l3) | exact cell_later hb2 (cell_al _ (l3)) | exact cell_later hb2 (cell_al _ (cell_al _ (l3))) | exact cell_later hb2 (cell_dr (l3)) | exact cell_later hb2 (cell_dr (cell_al _ (l3))) | exact cell_later hb2 (cell_drN _ (l3)) | exact cell_later hb2 (cell_drN _ (cell_al _ (l3)))
            replace l4 : w2.cell? ⟨w.heap.size + 1 + 1, 4, none⟩ = some (.int .u32 (R 1)) := by first | exact cell_later hb2 (l4) | exact cell_later hb2 (cell_al _ (l4)) | exact cell_later hb2 (cell_al _ (cell_al _ (l4))) | exact cell_later hb2 (cell_dr (l4)) | exact cell_later hb2 (cell_dr (cell_al _ (l4))) | exact cell_later hb2 (cell_drN _ (l4)) | exact cell_later hb2 (cell_drN _ (cell_al _ (l4)))
            replace l5 : w2.cell? ⟨w.heap.size + 1 + 1, 5, none⟩ = some (.int .u32 (C 1)) := by first | exact cell_later hb2 (l5) | exact cell_later hb2 (cell_al _ (l5)) | exact cell_later hb2 (cell_al _ (cell_al _ (l5))) | exact cell_later hb2 (cell_dr (l5)) | exact cell_later hb2 (cell_dr (cell_al _ (l5))) | exact cell_later hb2 (cell_drN _ (l5)) | exact cell_later hb2 (cell_drN _ (cell_al _ (l5)))
            replace l6 : w2.cell? ⟨w.heap.size + 1 + 1, 6, none⟩ = some (.int .u64 (V 2)) := by first | exact cell_later hb2 (l6) | exact cell_later hb2 (cell_al _ (l6)) | exact cell_later hb2 (cell_al _ (cell_al _ (l6))) | exact cell_later hb2 (cell_dr (l6)) | exact cell_later hb2 (cell_dr (cell_al _ (l6))) | exact cell_later hb2 (cell_drN _ (l6)) | exact cell_later hb2 (cell_drN _ (cell_al _ (l6)))
            replace l7 : w2.cell? ⟨w.heap.size + 1 + 1, 7, none⟩ = some (.int .u32 (R 2)) := by first | exact cell_later hb2 (l7) | exact cell_later hb2 (cell_al _ (l7)) | exact cell_later hb2 (cell_al _ (cell_al _ (l7))) | exact cell_later hb2 (cell_dr (l7)) | exact cell_later hb2 (cell_dr (cell_al _ (l7))) | exact cell_later hb2 (cell_drN _ (l7)) | exact cell_later hb2 (cell_drN _ (cell_al _ (l7)))
            replace l8 : w2.cell? ⟨w.heap.size + 1 + 1, 8, none⟩ = some (.int .u32 (C 2)) := by first | exact cell_later hb2 (l8) | exact cell_later hb2 (cell_al _ (l8)) | exact cell_later hb2 (cell_al _ (cell_al _ (l8))) | exact cell_later hb2 (cell_dr (l8)) | exact cell_later hb2 (cell_dr (cell_al _ (l8))) | exact cell_later hb2 (cell_drN _ (l8)) | exact cell_later hb2 (cell_drN _ (cell_al _ (l8)))
            go_wp2_with fail
            refine (B1.out _).mono ?_; rintro e w3 ⟨rfl, hb3⟩
            replace l0 : w3.cell? ⟨w.heap.size + 1 + 1, 0, none⟩ = some (.int .u64 (V 0)) := by first | exact cell_later hb3 (l0) | exact cell_later hb3 (cell_al _ (l0)) | exact cell_later hb3 (cell_al _ (cell_al _ (l0))) | exact cell_later hb3 (cell_dr (l0)) | exact cell_later hb3 (cell_dr (cell_al _ (l0))) | exact cell_later hb3 (cell_drN _ (l0)) | exact cell_later hb3 (cell_drN _ (cell_al _ (l0)))
            replace l1 : w3.cell? ⟨w.heap.size + 1 + 1, 1, none⟩ = some (.int .u32 (R 0)) := by first | exact cell_later hb3 (l1) | exact cell_later hb3 (cell_al _ (l1)) | exact cell_later hb3 (cell_al _ (cell_al _ (l1))) | exact cell_later hb3 (cell_dr (l1)) | exact cell_later hb3 (cell_dr (cell_al _ (l1))) | exact cell_later hb3 (cell_drN _ (l1)) | exact cell_later hb3 (cell_drN _ (cell_al _ (l1)))
            replace l2 : w3.cell? ⟨w.heap.size + 1 + 1, 2, none⟩ = some (.int .u32 (C 0)) := by first | exact cell_later hb3 (l2) | exact cell_later hb3 (cell_al _ (l2)) | exact cell_later hb3 (cell_al _ (cell_al _ (l2))) | exact cell_later hb3 (cell_dr (l2)) | exact cell_later hb3 (cell_dr (cell_al _ (l2))) | exact cell_later hb3 (cell_drN _ (l2)) | exact cell_later hb3 (cell_drN _ (cell_al _ (l2)))
            replace l3 : w3.cell? ⟨w.heap.size + 1 + 1, 3, none⟩ = some (.int .u64 (V 1)) := by first | exact cell_later hb3 (l3) | exact cell_later hb3 (cell_al _ (l3)) | exact cell_later hb3 (cell_al _ (cell_al _ (l3))) | exact cell_later hb3 (cell_dr (l3)) | exact cell_later hb3 (cell_dr (cell_al _ (l3))) | exact cell_later hb3 (cell_drN _ (l3)) | exact cell_later hb3 (cell_drN _ (cell_al _ (l3)))
            replace l4 : w3.cell? ⟨w.heap.size + 1 + 1, 4, none⟩ = some (.int .u32 (R 1)) := by first | exact cell_later hb3 (l4) | exact cell_later hb3 (cell_al _ (l4)) | exact cell_later hb3 (cell_al _ (cell_al _ (l4))) | exact cell_later hb3 (cell_dr (l4)) | exact cell_later hb3 (cell_dr (cell_al _ (l4))) | exact cell_later hb3 (cell_drN _ (l4)) | exact cell_later hb3 (cell_drN _ (cell_al _ (l4)))
            replace l5 : w3.cell? ⟨w.heap.size + 1 + 1, 5, none⟩ = some (.int .u32 (C 1)) := by first | exact cell_later hb3 (l5) | exact cell_later hb3 (cell_al _ (l5)) | exact cell_later hb3 (cell_al _ (cell_al _ (l5))) | exact cell_later hb3 (cell_dr (l5)) | exact cell_later hb3 (cell_dr (cell_al _ (l5))) | exact cell_later hb3 (cell_drN _ (l5)) | exact cell_later hb3 (cell_drN _ (cell_al _ (l5)))
            replace l6 : w3.cell? ⟨w.heap.size + 1 + 1, 6, none⟩ = some (.int .u64 (V 2)) := by first | exact cell_later hb3 (l6) | exact cell_later hb3 (cell_al _ (l6)) | exact cell_later hb3 (cell_al _ (cell_al _ (l6))) | exact cell_later hb3 (cell_dr (l6)) | exact cell_later hb3 (cell_dr (cell_al _ (l6))) | exact cell_later hb3 (cell_drN _ (l6)) | exact cell_later hb3 (cell_drN _ (cell_al _ (l6)))
            replace l7 : w3.cell? ⟨w.heap.size + 1 + 1, 7, none⟩ = some (.int .u32 (R 2)) := by first | exact cell_later hb3 (l7) | exact cell_later hb3 (cell_al _ (l7)) | exact cell_later hb3 (cell_al _ (cell_al _ (l7))) | exact cell_later hb3 (cell_dr (l7)) | exact cell_later hb3 (cell_dr (cell_al _ (l7))) | exact cell_later hb3 (cell_drN _ (l7)) | exact cell_later hb3 (cell_drN _ (cell_al _ (l7)))
            replace l8 : w3.cell? ⟨w.heap.size + 1 + 1, 8, none⟩ = some (.int .u32 (C 2)) := by first | exact cell_later hb3 (l8) | exact cell_later hb3 (cell_al _ (l8)) | exact cell_later hb3 (cell_al _ (cell_al _ (l8))) | exact cell_later hb3 (cell_dr (l8)) | exact cell_later hb3 (cell_dr (cell_al _ (l8))) | exact cell_later hb3 (cell_drN _ (l8)) | exact cell_later hb3 (cell_drN _ (cell_al _ (l8)))
            go_wp2_with fail
            refine (awake_any _).mono ?_; rintro e w9 ⟨rfl, hb9⟩
            go_wp2_with fail
            go_ret
            refine ⟨rfl, ?_⟩
            refine Below.step (w := w3) ?_ hb9
            exact Below.step (Below.step (Below.step (Below.step hb0 hb) hb1) hb2) hb3
          · have A1 := Lib.hid fun W => lessC_any _ _ _ _ _ _ true W ok0 ok1 hA
            have B1 := Lib.hid fun W => lessC_any _ _ _ _ _ _ false W ok1 ok2 hB
            clear hA hB ok0 ok1 ok2
            go_wp2_with fail
            refine (A1.out _).mono ?_; rintro e w1 ⟨rfl, hb1⟩
            replace l0 : w1.cell? ⟨w.heap.size + 1 + 1, 0, none⟩ = some (.int .u64 (V 0)) := by first | exact cell_later hb1 (l0) | exact cell_later hb1 (cell_al _ (l0)) | exact cell_later hb1 (cell_al _ (cell_al _ (l0))) | exact cell_later hb1 (cell_dr (l0)) | exact cell_later hb1 (cell_dr (cell_al _ (l0))) | exact cell_later hb1 (cell_drN _ (l0)) | exact cell_later hb1 (cell_drN _ (cell_al _ (l0)))
            replace l1 : w1.cell? ⟨w.heap.size + 1 + 1, 1, none⟩ = some (.int .u32 (R 0)) := by first | exact cell_later hb1 (l1) | exact cell_later hb1 (cell_al _ (l1)) | exact cell_later hb1 (cell_al _ (cell_al _ (l1))) | exact cell_later hb1 (cell_dr (l1)) | exact cell_later hb1 (cell_dr (cell_al _ (l1))) | exact cell_later hb1 (cell_drN _ (l1)) | exact cell_later hb1 (cell_drN _ (cell_al _ (l1)))
            replace l2 : w1.cell? ⟨w.heap.size + 1 + 1, 2, none⟩ = some (.int .u32 (C 0)) := by first | exact cell_later hb1 (l2) | exact cell_later hb1 (cell_al _ (l2)) | exact cell_later hb1 (cell_al _ (cell_al _ (l2))) | exact cell_later hb1 (cell_dr (l2)) | exact cell_later hb1 (cell_dr (cell_al _ (l2))) | exact cell_later hb1 (cell_drN _ (l2)) | exact cell_later hb1 (cell_drN _ (cell_al _ (l2)))
            replace l3 : w1.cell? ⟨w.heap.size + 1 + 1, 3, none⟩ = some (.int .u64 (V 1)) := by first | exact cell_later hb1 (l3) | exact cell_later hb1 (cell_al _ (l3)) | exact cell_later hb1 (cell_al _ (cell_al _ (l3))) | exact cell_later hb1 (cell_dr (l3)) | exact cell_later hb1 (cell_dr (cell_al _ (l3))) | exact cell_later hb1 (cell_drN _ (l3)) | exact cell_later hb1 (cell_drN _ (cell_al _ (l3)))
            replace l4 : w1.cell? ⟨w.heap.size + 1 + 1, 4, none⟩ = some (.int .u32 (R 1)) := by first | exact cell_later hb1 (l4) | exact cell_later hb1 (cell_al _ (l4)) | exact cell_later hb1 (cell_al _ (cell_al _ (l4))) | exact cell_later hb1 (cell_dr (l4)) | exact cell_later hb1 (cell_dr (cell_al _ (l4))) | exact cell_later hb1 (cell_drN _ (l4)) | exact cell_later hb1 (cell_drN _ (cell_al _ (l4)))
            replace l5 : w1.cell? ⟨w.heap.size + 1 + 1, 5, none⟩ = some (.int .u32 (C 1)) := by first | exact cell_later hb1 (l5) | exact cell_later hb1 (cell_al _ (l5)) | exact cell_later hb1 (cell_al _ (cell_al _ (l5))) | exact cell_later hb1 (cell_dr (l5)) | exact cell_later hb1 (cell_dr (cell_al _ (l5))) | exact cell_later hb1 (cell_drN _ (l5)) | exact cell_later hb1 (cell_drN _ (cell_al _ (l5)))
            replace l6 : w1.cell? ⟨w.heap.size + 1 + 1, 6, none⟩ = some (.int .u64 (V 2)) := by first | exact cell_later hb1 (l6) | exact cell_later hb1 (cell_al _ (l6)) | exact cell_later hb1 (cell_al _ (cell_al _ (l6))) | exact cell_later hb1 (cell_dr (l6)) | exact cell_later hb1 (cell_dr (cell_al _ (l6))) | exact cell_later hb1 (cell_drN _ (l6)) | exact cell_later hb1 (cell_drN _ (cell_al _ (l6)))
            replace l7 : w1.cell? ⟨w.heap.size + 1 + 1, 7, none⟩ = some (.int .u32 (R 2)) := by first | exact cell_later hb1 (l7) | exact cell_later hb1 (cell_al _ (l7)) | exact cell_later hb1 (cell_al _ (cell_al _ (l7))) | exact cell_later hb1 (cell_dr (l7)) | exact cell_later hb1 (cell_dr (cell_al _ (l7))) | exact cell_later hb1 (cell_drN _ (l7)) | exact cell_later hb1 (cell_drN _ (cell_al _ (l7)))
            replace l8 : w1.cell? ⟨w.heap.size + 1 + 1, 8, none⟩ = some (.int .u32 (C 2)) := by first | exact cell_later hb1 (l8) | exact cell_later hb1 (cell_al _ (l8)) | exact cell_later hb1 (cell_al _ (cell_al _ (l8))) | exact cell_later hb1 (cell_dr (l8)) | exact cell_later hb1 (cell_dr (cell_al _ (l8))) | exact cell_later hb1 (cell_drN _ (l8)) | exact cell_later hb1 (cell_drN _ (cell_al _ (l8)))
            go_wp2_with fail
            refine (B1.out _).mono ?_; rintro e w2 ⟨rfl, hb2⟩
            replace l0 : w2.cell? ⟨w.heap.size + 1 + 1, 0, none⟩ = some (.int .u64 (V 0)) := by first | exact cell_later hb2 (l0) | exact cell_later hb2 (cell_al _ (l0)) | exact cell_later hb2 (cell_al _ (cell_al _ (l0))) | exact cell_later hb2 (cell_dr (l0)) | exact cell_later hb2 (cell_dr (cell_al _ (l0))) | exact cell_later hb2 (cell_drN _ (l0)) | exact cell_later hb2 (cell_drN _ (cell_al _ (l0)))
            replace l1 : w2.cell? ⟨w.heap.size + 1 + 1, 1, none⟩ = some (.int .u32 (R 0)) := by first | exact cell_later hb2 (l1) | exact cell_later hb2 (cell_al _ (l1)) | exact cell_later hb2 (cell_al _ (cell_al _ (l1))) | exact cell_later hb2 (cell_dr (l1)) | exact cell_later hb2 (cell_dr (cell_al _ (l1))) | exact cell_later hb2 (cell_drN _ (l1)) | exact cell_later hb2 (cell_drN _ (cell_al _ (l1)))
            replace l2 : w2.cell? ⟨w.heap.size + 1 + 1, 2, none⟩ = some (.int .u32 (C 0)) := by first | exact cell_later hb2 (l2) | exact cell_later hb2 (cell_al _ (l2)) | exact cell_later hb2 (cell_al _ (cell_al _ (l2))) | exact cell_later hb2 (cell_dr (l2)) | exact cell_later hb2 (cell_dr (cell_al _ (l2))) | exact cell_later hb2 (cell_drN _ (l2)) | exact cell_later hb2 (cell_drN _ (cell_al _ (l2)))
            replace l3 : w2.cell? ⟨w.heap.size + 1 + 1, 3, none⟩ = some (.int .u64 (V 1)) := by first | exact cell_later hb2 (l3) | exact cell_later hb2 (cell_al _ (l3)) | exact cell_later hb2 (cell_al _ (cell_al _ (l3))) | exact cell_later hb2 (cell_dr (l3)) | exact cell_later hb2 (cell_dr (cell_al _ (l3))) | exact cell_later hb2 (cell_drN _ (l3)) | exact cell_later hb2 (cell_drN _ (cell_al _ (l3)))
            replace l4 : w2.cell? ⟨w.heap.size + 1 + 1, 4, none⟩ = some (.int .u32 (R 1)) := by first | exact cell_later hb2 (l4) | exact cell_later hb2 (cell_al _ (l4)) | exact cell_later hb2 (cell_al _ (cell_al _ (l4))) | exact cell_later hb2 (cell_dr (l4)) | exact cell_later hb2 (cell_dr (cell_al _ (l4))) | exact cell_later hb2 (cell_drN _ (l4)) | exact cell_later hb2 (cell_drN _ (cell_al _ (l4)))
            replace l5 : w2.cell? ⟨w.heap.size + 1 + 1, 5, none⟩ = some (.int .u32 (C 1)) := by first | exact cell_later hb2 (l5) | exact cell_later hb2 (cell_al _ (l5)) | exact cell_later hb2 (cell_al _ (cell_al _ (l5))) | exact cell_later hb2 (cell_dr (l5)) | exact cell_later hb2 (cell_dr (cell_al _ (l5))) | exact cell_later hb2 (cell_drN _ (l5)) | exact cell_later hb2 (cell_drN _ (cell_al _ (l5)))
            replace l6 : w2.cell? ⟨w.heap.size + 1 + 1, 6, none⟩ = some (.int .u64 (V 2)) := by first | exact cell_later hb2 (l6) | exact cell_later hb2 (cell_al _ (l6)) | exact cell_later hb2 (cell_al _ (cell_al _ (l6))) | exact cell_later hb2 (cell_dr (l6)) | exact cell_later hb2 (cell_dr (cell_al _ (l6))) | exact cell_later hb2 (cell_drN _ (l6)) | exact cell_later hb2 (cell_drN _ (cell_al _ (l6)))
            replace l7 : w2.cell? ⟨w.heap.size + 1 + 1, 7, none⟩ = some (.int .u32 (R 2)) := by first | exact cell_later hb2 (l7) | exact cell_later hb2 (cell_al _ (l7)) | exact cell_later hb2 (cell_al _ (cell_al _ (l7))) | exact cell_later hb2 (cell_dr (l7)) | exact cell_later hb2 (cell_dr (cell_al _ (l7))) | exact cell_later hb2 (cell_drN _ (l7)) | exact cell_later hb2 (cell_drN _ (cell_al _ (l7)))
            replace l8 : w2.cell? ⟨w.heap.size + 1 + 1, 8, none⟩ = some (.int .u32 (C 2)) := by first | exact cell_later hb2 (l8) | exact cell_later hb2 (cell_al _ (l8)) | exact cell_later hb2 (cell_al _ (cell_al _ (l8))) | exact cell_later hb2 (cell_dr (l8)) | exact cell_later hb2 (cell_dr (cell_al _ (l8))) | exact cell_later hb2 (cell_drN _ (l8)) | exact cell_later hb2 (cell_drN _ (cell_al _ (l8)))
            go_wp2_with fail
            refine (A1.out _).mono ?_; rintro e w3 ⟨rfl, hb3⟩
            replace l0 : w3.cell? ⟨w.heap.size + 1 + 1, 0, none⟩ = some (.int .u64 (V 0)) := by first | exact cell_later hb3 (l0) | exact cell_later hb3 (cell_al _ (l0)) | exact cell_later hb3 (cell_al _ (cell_al _ (l0))) | exact cell_later hb3 (cell_dr (l0)) | exact cell_later hb3 (cell_dr (cell_al _ (l0))) | exact cell_later hb3 (cell_drN _ (l0)) | exact cell_later hb3 (cell_drN _ (cell_al _ (l0)))
            replace l1 : w3.cell? ⟨w.heap.size + 1 + 1, 1, none⟩ = some (.int .u32 (R 0)) := by first | exact cell_later hb3 (l1) | exact cell_later hb3 (cell_al _ (l1)) | exact cell_later hb3 (cell_al _ (cell_al _ (l1))) | exact cell_later hb3 (cell_dr (l1)) | exact cell_later hb3 (cell_dr (cell_al _ (l1))) | exact cell_later hb3 (cell_drN _ (l1)) | exact cell_later hb3 (cell_drN _ (cell_al _ (l1)))
            replace l2 : w3.cell? ⟨w.heap.size + 1 + 1, 2, none⟩ = some (.int .u32 (C 0)) := by first | exact cell_later hb3 (l2) | exact cell_later hb3 (cell_al _ (l2)) | exact cell_later hb3 (cell_al _ (cell_al _ (l2))) | exact cell_later hb3 (cell_dr (l2)) | exact cell_later hb3 (cell_dr (cell_al _ (l2))) | exact cell_later hb3 (cell_drN _ (l2)) | exact cell_later hb3 (cell_drN _ (cell_al _ (l2)))
            replace l3 : w3.cell? ⟨w.heap.size + 1 + 1, 3, none⟩ = some (.int .u64 (V 1)) := by first | exact cell_later hb3 (l3) | exact cell_later hb3 (cell_al _ (l3)) | exact cell_later hb3 (cell_al _ (cell_al _ (l3))) | exact cell_later hb3 (cell_dr (l3)) | exact cell_later hb3 (cell_dr (cell_al _ (l3))) | exact cell_later hb3 (cell_drN _ (l3)) | exact cell_later hb3 (cell_drN _ (cell_al _ (l3)))
            replace l4 : w3.cell? ⟨w.heap.size + 1 + 1, 4, none⟩ = some (.int .u32 (R 1)) := by first | exact cell_later hb3 (l4) | exact cell_later hb3 (cell_al _ (l4)) | exact cell_later hb3 (cell_al _ (cell_al _ (l4))) | exact cell_later hb3 (cell_dr (l4)) | exact cell_later hb3 (cell_dr (cell_al _ (l4))) | exact cell_later hb3 (cell_drN _ (l4)) | exact cell_later hb3 (cell_drN _ (cell_al _ (l4)))
            replace l5 : w3.cell? ⟨w.heap.size + 1 + 1, 5, none⟩ = some (.int .u32 (C 1)) := by first | exact cell_later hb3 (l5) | exact cell_later hb3 (cell_al _ (l5)) | exact cell_later hb3 (cell_al _ (cell_al _ (l5))) | exact cell_later hb3 (cell_dr (l5)) | exact cell_later hb3 (cell_dr (cell_al _ (l5))) | exact cell_later hb3 (cell_drN _ (l5)) | exact cell_later hb3 (cell_drN _ (cell_al _ (l5)))
            replace l6 : w3.cell? ⟨w.heap.size + 1 + 1, 6, none⟩ = some (.int .u64 (V 2)) := by first | exact cell_later hb3 (l6) | exact cell_later hb3 (cell_al _ (l6)) | exact cell_later hb3 (cell_al _ (cell_al _ (l6))) | exact cell_later hb3 (cell_dr (l6)) | exact cell_later hb3 (cell_dr (cell_al _ (l6))) | exact cell_later hb3 (cell_drN _ (l6)) | exact cell_later hb3 (cell_drN _ (cell_al _ (l6)))
            replace l7 : w3.cell? ⟨w.heap.size + 1 + 1, 7, none⟩ = some (.int .u32 (R 2)) := by first | exact cell_later hb3 (l7) | exact cell_later hb3 (cell_al _ (l7)) | exact cell_later hb3 (cell_al _ (cell_al _ (l7))) | exact cell_later hb3 (cell_dr (l7)) | exact cell_later hb3 (cell_dr (cell_al _ (l7))) | exact cell_later hb3 (cell_drN _ (l7)) | exact cell_later hb3 (cell_drN _ (cell_al _ (l7)))
            replace l8 : w3.cell? ⟨w.heap.size + 1 + 1, 8, none⟩ = some (.int .u32 (C 2)) := by first | exact cell_later hb3 (l8) | exact cell_later hb3 (cell_al _ (l8)) | exact cell_later hb3 (cell_al _ (cell_al _ (l8))) | exact cell_later hb3 (cell_dr (l8)) | exact cell_later hb3 (cell_dr (cell_al _ (l8))) | exact cell_later hb3 (cell_drN _ (l8)) | exact cell_later hb3 (cell_drN _ (cell_al _ (l8)))
            go_wp2_with fail
            refine (awake_any _).mono ?_; rintro e w9 ⟨rfl, hb9⟩
            go_wp2_with fail
            go_ret
            refine ⟨rfl, ?_⟩
            refine Below.step (w := w3) ?_ hb9
            exact Below.step (Below.step (Below.step (Below.step hb0 hb) hb1) hb2) hb3
          · have A1 := Lib.hid fun W => lessC_any _ _ _ _ _ _ true W ok0 ok1 hA
            have B1 := Lib.hid fun W => lessC_any _ _ _ _ _ _ true W ok1 ok2 hB
            have C1 := Lib.hid fun W => lessC_any _ _ _ _ _ _ true W ok0 ok2 (Ch.less_trans ok0 ok1 ok2 hA hB)
            clear hA hB ok0 ok1 ok2
            go_wp2_with fail
            refine (A1.out _).mono ?_; rintro e w1 ⟨rfl, hb1⟩
            replace l0 : w1.cell? ⟨w.heap.size + 1 + 1, 0, none⟩ = some (.int .u64 (V 0)) := by first | exact cell_later hb1 (l0) | exact cell_later hb1 (cell_al _ (l0)) | exact cell_later hb1 (cell_al _ (cell_al _ (l0))) | exact cell_later hb1 (cell_dr (l0)) | exact cell_later hb1 (cell_dr (cell_al _ (l0))) | exact cell_later hb1 (cell_drN _ (l0)) | exact cell_later hb1 (cell_drN _ (cell_al _ (l0)))
            replace l1 : w1.cell? ⟨w.heap.size + 1 + 1, 1, none⟩ = some (.int .u32 (R 0)) := by first | exact cell_later hb1 (l1) | exact cell_later hb1 (cell_al _ (l1)) | exact cell_later hb1 (cell_al _ (cell_al _ (l1))) | exact cell_later hb1 (cell_dr (l1)) | exact cell_later hb1 (cell_dr (cell_al _ (l1))) | exact cell_later hb1 (cell_drN _ (l1)) | exact cell_later hb1 (cell_drN _ (cell_al _ (l1)))
            replace l2 : w1.cell? ⟨w.heap.size + 1 + 1, 2, none⟩ = some (.int .u32 (C 0)) := by first | exact cell_later hb1 (l2) | exact cell_later hb1 (cell_al _ (l2)) | exact cell_later hb1 (cell_al _ (cell_al _ (l2))) | exact cell_later hb1 (cell_dr (l2)) | exact cell_later hb1 (cell_dr (cell_al _ (l2))) | exact cell_later hb1 (cell_drN _ (l2)) | exact cell_later hb1 (cell_drN _ (cell_al _ (l2)))
            replace l3 : w1.cell? ⟨w.heap.size + 1 + 1, 3, none⟩ = some (.int .u64 (V 1)) := by first | exact cell_later hb1 (l3) | exact cell_later hb1 (cell_al _ (l3)) | exact cell_later hb1 (cell_al _ (cell_al _ (l3))) | exact cell_later hb1 (cell_dr (l3)) | exact cell_later hb1 (cell_dr (cell_al _ (l3))) | exact cell_later hb1 (cell_drN _ (l3)) | exact cell_later hb1 (cell_drN _ (cell_al _ (l3)))
            replace l4 : w1.cell? ⟨w.heap.size + 1 + 1, 4, none⟩ = some (.int .u32 (R 1)) := by first | exact cell_later hb1 (l4) | exact cell_later hb1 (cell_al _ (l4)) | exact cell_later hb1 (cell_al _ (cell_al _ (l4))) | exact cell_later hb1 (cell_dr (l4)) | exact cell_later hb1 (cell_dr (cell_al _ (l4))) | exact cell_later hb1 (cell_drN _ (l4)) | exact cell_later hb1 (cell_drN _ (cell_al _ (l4)))
            replace l5 : w1.cell? ⟨w.heap.size + 1 + 1, 5, none⟩ = some (.int .u32 (C 1)) := by first | exact cell_later hb1 (l5) | exact cell_later hb1 (cell_al _ (l5)) | exact cell_later hb1 (cell_al _ (cell_al _ (l5))) | exact cell_later hb1 (cell_dr (l5)) | exact cell_later hb1 (cell_dr (cell_al _ (l5))) | exact cell_later hb1 (cell_drN _ (l5)) | exact cell_later hb1 (cell_drN _ (cell_al _ (l5)))
            replace l6 : w1.cell? ⟨w.heap.size + 1 + 1, 6, none⟩ = some (.int .u64 (V 2)) := by first | exact cell_later hb1 (l6) | exact cell_later hb1 (cell_al _ (l6)) | exact cell_later hb1 (cell_al _ (cell_al _ (l6))) | exact cell_later hb1 (cell_dr (l6)) | exact cell_later hb1 (cell_dr (cell_al _ (l6))) | exact cell_later hb1 (cell_drN _ (l6)) | exact cell_later hb1 (cell_drN _ (cell_al _ (l6)))
            replace l7 : w1.cell? ⟨w.heap.size + 1 + 1, 7, none⟩ = some (.int .u32 (R 2)) := by first | exact cell_later hb1 (l7) | exact cell_later hb1 (cell_al _ (l7)) | exact cell_later hb1 (cell_al _ (cell_al _ (l7))) | exact cell_later hb1 (cell_dr (l7)) | exact cell_later hb1 (cell_dr (cell_al _ (l7))) | exact cell_later hb1 (cell_drN _ (l7)) | exact cell_later hb1 (cell_drN _ (cell_al _ (l7)))
            replace l8 : w1.cell? ⟨w.heap.size + 1 + 1, 8, none⟩ = some (.int .u32 (C 2)) := by first | exact cell_later hb1 (l8) | exact cell_later hb1 (cell_al _ (l8)) | exact cell_later hb1 (cell_al _ (cell_al _ (l8))) | exact cell_later hb1 (cell_dr (l8)) | exact cell_later hb1 (cell_dr (cell_al _ (l8))) | exact cell_later hb1 (cell_drN _ (l8)) | exact cell_later hb1 (cell_drN _ (cell_al _ (l8)))
            go_wp2_with fail
            refine (B1.out _).mono ?_; rintro e w2 ⟨rfl, hb2⟩
            replace l0 : w2.cell? ⟨w.heap.size + 1 + 1, 0, none⟩ = some (.int .u64 (V 0)) := by first | exact cell_later hb2 (l0) | exact cell_later hb2 (cell_al _ (l0)) | exact cell_later hb2 (cell_al _ (cell_al _ (l0))) | exact cell_later hb2 (cell_dr (l0)) | exact cell_later hb2 (cell_dr (cell_al _ (l0))) | exact cell_later hb2 (cell_drN _ (l0)) | exact cell_later hb2 (cell_drN _ (cell_al _ (l0)))
            replace l1 : w2.cell? ⟨w.heap.size + 1 + 1, 1, none⟩ = some (.int .u32 (R 0)) := by first | exact cell_later hb2 (l1) | exact cell_later hb2 (cell_al _ (l1)) | exact cell_later hb2 (cell_al _ (cell_al _ (l1))) | exact cell_later hb2 (cell_dr (l1)) | exact cell_later hb2 (cell_dr (cell_al _ (l1))) | exact cell_later hb2 (cell_drN _ (l1)) | exact cell_later hb2 (cell_drN _ (cell_al _ (l1)))
            replace l2 : w2.cell? ⟨w.heap.size + 1 + 1, 2, none⟩ = some (.int .u32 (C 0)) := by first | exact cell_later hb2 (l2) | exact cell_later hb2 (cell_al _ (l2)) | exact cell_later hb2 (cell_al _ (cell_al _ (l2))) | exact cell_later hb2 (cell_dr (l2)) | exact cell_later hb2 (cell_dr (cell_al _ (l2))) | exact cell_later hb2 (cell_drN _ (l2)) | exact cell_later hb2 (cell_drN _ (cell_al _ (l2)))
            replace l3 : w2.cell? ⟨w.heap.size + 1 + 1, 3, none⟩ = some (.int .u64 (V 1)) := by first | exact cell_later hb2 (l3) | exact cell_later hb2 (cell_al _ (l3)) | exact cell_later hb2 (cell_al _ (cell_al _ (l3))) | exact cell_later hb2 (cell_dr (l3)) | exact cell_later hb2 (cell_dr (cell_al _ (l3))) | exact cell_later hb2 (cell_drN _ (l3)) | exact cell_later hb2 (cell_drN _ (cell_al _ (l3)))
            replace l4 : w2.cell? ⟨w.heap.size + 1 + 1, 4, none⟩ = some (.int .u32 (R 1)) := by first | exact cell_later hb2 (l4) | exact cell_later hb2 (cell_al _ (l4)) | exact cell_later hb2 (cell_al _ (cell_al _ (l4))) | exact cell_later hb2 (cell_dr (l4)) | exact cell_later hb2 (cell_dr (cell_al _ (l4))) | exact cell_later hb2 (cell_drN _ (l4)) | exact cell_later hb2 (cell_drN _ (cell_al _ (l4)))
            replace l5 : w2.cell? ⟨w.heap.size + 1 + 1, 5, none⟩ = some (.int .u32 (C 1)) := by first | exact cell_later hb2 (l5) | exact cell_later hb2 (cell_al _ (l5)) | exact cell_later hb2 (cell_al _ (cell_al _ (l5))) | exact cell_later hb2 (cell_dr (l5)) | exact cell_later hb2 (cell_dr (cell_al _ (l5))) | exact cell_later hb2 (cell_drN _ (l5)) | exact cell_later hb2 (cell_drN _ (cell_al _ (l5)))
            replace l6 : w2.cell? ⟨w.heap.size + 1 + 1, 6, none⟩ = some (.int .u64 (V 2)) := by first | exact cell_later hb2 (l6) | exact cell_later hb2 (cell_al _ (l6)) | exact cell_later hb2 (cell_al _ (cell_al _ (l6))) | exact cell_later hb2 (cell_dr (l6)) | exact cell_later hb2 (cell_dr (cell_al _ (l6))) | exact cell_later hb2 (cell_drN _ (l6)) | exact cell_later hb2 (cell_drN _ (cell_al _ (l6)))
            replace l7 : w2.cell? ⟨w.heap.size + 1 + 1, 7, none⟩ = some (.int .u32 (R 2)) := by first | exact cell_later hb2 (l7) | exact cell_later hb2 (cell_al _ (l7)) | exact cell_later hb2 (cell_al _ (cell_al _ (l7))) | exact cell_later hb2 (cell_dr (l7)) | exact cell_later hb2 (cell_dr (cell_al _ (l7))) | exact cell_later hb2 (cell_drN _ (l7)) | exact cell_later hb2 (cell_drN _ (cell_al _ (l7)))
            replace l8 : w2.cell? ⟨w.heap.size + 1 + 1, 8, none⟩ = some (.int .u32 (C 2)) := by first | exact cell_later hb2 (l8) | exact cell_later hb2 (cell_al _ (l8)) | exact cell_later hb2 (cell_al _ (cell_al _ (l8))) | exact cell_later hb2 (cell_dr (l8)) | exact cell_later hb2 (cell_dr (cell_al _ (l8))) | exact cell_later hb2 (cell_drN _ (l8)) | exact cell_later hb2 (cell_drN _ (cell_al _ (l8)))
            go_wp2_with fail
            refine (C1.out _).mono ?_; rintro e w3 ⟨rfl, hb3⟩
            replace l0 : w3.cell? ⟨w.heap.size + 1 + 1, 0, none⟩ = some (.int .u64 (V 0)) := by first | exact cell_later hb3 (l0) | exact cell_later hb3 (cell_al _ (l0)) | exact cell_later hb3 (cell_al _ (cell_al _ (l0))) | exact cell_later hb3 (cell_dr (l0)) | exact cell_later hb3 (cell_dr (cell_al _ (l0))) | exact cell_later hb3 (cell_drN _ (l0)) | exact cell_later hb3 (cell_drN _ (cell_al _ (l0)))
            replace l1 : w3.cell? ⟨w.heap.size + 1 + 1, 1, none⟩ = some (.int .u32 (R 0)) := by first | exact cell_later hb3 (l1) | exact cell_later hb3 (cell_al _ (l1)) | exact cell_later hb3 (cell_al _ (cell_al _ (l1))) | exact cell_later hb3 (cell_dr (l1)) | exact cell_later hb3 (cell_dr (cell_al _ (l1))) | exact cell_later hb3 (cell_drN _ (l1)) | exact cell_later hb3 (cell_drN _ (cell_al _ (l1)))
            replace l2 : w3.cell? ⟨w.heap.size + 1 + 1, 2, none⟩ = some (.int .u32 (C 0)) := by first | exact cell_later hb3 (l2) | exact cell_later hb3 (cell_al _ (l2)) | exact cell_later hb3 (cell_al _ (cell_al _ (l2))) | exact cell_later hb3 (cell_dr (l2)) | exact cell_later hb3 (cell_dr (cell_al _ (l2))) | exact cell_later hb3 (cell_drN _ (l2)) | exact cell_later hb3 (cell_drN _ (cell_al _ (l2)))
            replace l3 : w3.cell? ⟨w.heap.size + 1 + 1, 3, none⟩ = some (.int .u64 (V 1)) := by first | exact cell_later hb3 (l3) | exact cell_later hb3 (cell_al _ (l3)) | exact cell_later hb3 (cell_al _ (cell_al _ (l3))) | exact cell_later hb3 (cell_dr (l3)) | exact cell_later hb3 (cell_dr (cell_al _ (l3))) | exact cell_later hb3 (cell_drN _ (l3)) | exact cell_later hb3 (cell_drN _ (cell_al _ (l3)))
            replace l4 : w3.cell? ⟨w.heap.size + 1 + 1, 4, none⟩ = some (.int .u32 (R 1)) := by first | exact cell_later hb3 (l4) | exact cell_later hb3 (cell_al _ (l4)) | exact cell_later hb3 (cell_al _ (cell_al _ (l4))) | exact cell_later hb3 (cell_dr (l4)) | exact cell_later hb3 (cell_dr (cell_al _ (l4))) | exact cell_later hb3 (cell_drN _ (l4)) | exact cell_later hb3 (cell_drN _ (cell_al _ (l4)))
            replace l5 : w3.cell? ⟨w.heap.size + 1 + 1, 5, none⟩ = some (.int .u32 (C 1)) := by first | exact cell_later hb3 (l5) | exact cell_later hb3 (cell_al _ (l5)) | exact cell_later hb3 (cell_al _ (cell_al _ (l5))) | exact cell_later hb3 (cell_dr (l5)) | exact cell_later hb3 (cell_dr (cell_al _ (l5))) | exact cell_later hb3 (cell_drN _ (l5)) | exact cell_later hb3 (cell_drN _ (cell_al _ (l5)))
            replace l6 : w3.cell? ⟨w.heap.size + 1 + 1, 6, none⟩ = some (.int .u64 (V 2)) := by first | exact cell_later hb3 (l6) | exact cell_later hb3 (cell_al _ (l6)) | exact cell_later hb3 (cell_al _ (cell_al _ (l6))) | exact cell_later hb3 (cell_dr (l6)) | exact cell_later hb3 (cell_dr (cell_al _ (l6))) | exact cell_later hb3 (cell_drN _ (l6)) | exact cell_later hb3 (cell_drN _ (cell_al _ (l6)))
            replace l7 : w3.cell? ⟨w.heap.size + 1 + 1, 7, none⟩ = some (.int .u32 (R 2)) := by first | exact cell_later hb3 (l7) | exact cell_later hb3 (cell_al _ (l7)) | exact cell_later hb3 (cell_al _ (cell_al _ (l7))) | exact cell_later hb3 (cell_dr (l7)) | exact cell_later hb3 (cell_dr (cell_al _ (l7))) | exact cell_later hb3 (cell_drN _ (l7)) | exact cell_later hb3 (cell_drN _ (cell_al _ (l7)))
            replace l8 : w3.cell? ⟨w.heap.size + 1 + 1, 8, none⟩ = some (.int .u32 (C 2)) := by first | exact cell_later hb3 (l8) | exact cell_later hb3 (cell_al _ (l8)) | exact cell_later hb3 (cell_al _ (cell_al _ (l8))) | exact cell_later hb3 (cell_dr (l8)) | exact cell_later hb3 (cell_dr (cell_al _ (l8))) | exact cell_later hb3 (cell_drN _ (l8)) | exact cell_later hb3 (cell_drN _ (cell_al _ (l8)))
            go_wp2_with fail
            refine (A1.out _).mono ?_; rintro e w4 ⟨rfl, hb4⟩
            replace l0 : w4.cell? ⟨w.heap.size + 1 + 1, 0, none⟩ = some (.int .u64 (V 0)) := by first | exact cell_later hb4 (l0) | exact cell_later hb4 (cell_al _ (l0)) | exact cell_later hb4 (cell_al _ (cell_al _ (l0))) | exact cell_later hb4 (cell_dr (l0)) | exact cell_later hb4 (cell_dr (cell_al _ (l0))) | exact cell_later hb4 (cell_drN _ (l0)) | exact cell_later hb4 (cell_drN _ (cell_al _ (l0)))
            replace l1 : w4.cell? ⟨w.heap.size + 1 + 1, 1, none⟩ = some (.int .u32 (R 0)) := by first | exact cell_later hb4 (l1) | exact cell_later hb4 (cell_al _ (l1)) | exact cell_later hb4 (cell_al _ (cell_al _ (l1))) | exact cell_later hb4 (cell_dr (l1)) | exact cell_later hb4 (cell_dr (cell_al _ (l1))) | exact cell_later hb4 (cell_drN _ (l1)) | exact cell_later hb4 (cell_drN _ (cell_al _ (l1)))
            replace l2 : w4.cell? ⟨w.heap.size + 1 + 1, 2, none⟩ = some (.int .u32 (C 0)) := by first | exact cell_later hb4 (l2) | exact cell_later hb4 (cell_al _ (l2)) | exact cell_later hb4 (cell_al _ (cell_al _ (l2))) | exact cell_later hb4 (cell_dr (l2)) | exact cell_later hb4 (cell_dr (cell_al _ (l2))) | exact cell_later hb4 (cell_drN _ (l2)) | exact cell_later hb4 (cell_drN _ (cell_al _ (l2)))
            replace l3 : w4.cell? ⟨w.heap.size + 1 + 1, 3, none⟩ = some (.int .u64 (V 1)) := by first | exact cell_later hb4 (l3) | exact cell_later hb4 (cell_al _ (l3)) | exact cell_later hb4 (cell_al _ (cell_al _ (l3))) | exact cell_later hb4 (cell_dr (l3)) | exact cell_later hb4 (cell_dr (cell_al _ (l3))) | exact cell_later hb4 (cell_drN _ (l3)) | exact cell_later hb4 (cell_drN _ (cell_al _ (l3)))
            replace l4 : w4.cell? ⟨w.heap.size + 1 + 1, 4, none⟩ = some (.int .u32 (R 1)) := by first | exact cell_later hb4 (l4) | exact cell_later hb4 (cell_al _ (l4)) | exact cell_later hb4 (cell_al _ (cell_al _ (l4))) | exact cell_later hb4 (cell_dr (l4)) | exact cell_later hb4 (cell_dr (cell_al _ (l4))) | exact cell_later hb4 (cell_drN _ (l4)) | exact cell_later hb4 (cell_drN _ (cell_al _ (l4)))
            replace l5 : w4.cell? ⟨w.heap.size + 1 + 1, 5, none⟩ = some (.int .u32 (C 1)) := by first | exact cell_later hb4 (l5) | exact cell_later hb4 (cell_al _ (l5)) | exact cell_later hb4 (cell_al _ (cell_al _ (l5))) | exact cell_later hb4 (cell_dr (l5)) | exact cell_later hb4 (cell_dr (cell_al _ (l5))) | exact cell_later hb4 (cell_drN _ (l5)) | exact cell_later hb4 (cell_drN _ (cell_al _ (l5)))
            replace l6 : w4.cell? ⟨w.heap.size + 1 + 1, 6, none⟩ = some (.int .u64 (V 2)) := by first | exact cell_later hb4 (l6) | exact cell_later hb4 (cell_al _ (l6)) | exact cell_later hb4 (cell_al _ (cell_al _ (l6))) | exact cell_later hb4 (cell_dr (l6)) | exact cell_later hb4 (cell_dr (cell_al _ (l6))) | exact cell_later hb4 (cell_drN _ (l6)) | exact cell_later hb4 (cell_drN _ (cell_al _ (l6)))
            replace l7 : w4.cell? ⟨w.heap.size + 1 + 1, 7, none⟩ = some (.int .u32 (R 2)) := by first | exact cell_later hb4 (l7) | exact cell_later hb4 (cell_al _ (l7)) | exact cell_later hb4 (cell_al _ (cell_al _ (l7))) | exact cell_later hb4 (cell_dr (l7)) | exact cell_later hb4 (cell_dr (cell_al _ (l7))) | exact cell_later hb4 (cell_drN _ (l7)) | exact cell_later hb4 (cell_drN _ (cell_al _ (l7)))
            replace l8 : w4.cell? ⟨w.heap.size + 1 + 1, 8, none⟩ = some (.int .u32 (C 2)) := by first | exact cell_later hb4 (l8) | exact cell_later hb4 (cell_al _ (l8)) | exact cell_later hb4 (cell_al _ (cell_al _ (l8))) | exact cell_later hb4 (cell_dr (l8)) | exact cell_later hb4 (cell_dr (cell_al _ (l8))) | exact cell_later hb4 (cell_drN _ (l8)) | exact cell_later hb4 (cell_drN _ (cell_al _ (l8)))
            go_wp2_with fail
            refine (awake_any _).mono ?_; rintro e w9 ⟨rfl, hb9⟩
            go_wp2_with fail
            go_ret
            refine ⟨rfl, ?_⟩
            refine Below.step (w := w4) ?_ hb9
            exact Below.step (Below.step (Below.step (Below.step (Below.step hb0 hb) hb1) hb2) hb3) hb4

theorem ChargeLess_true (v r0 r1 r2 n0 n1 n2 y : Int) (g0 : (Lit.int .u64 v).wf = true) (g1 : (Lit.int .u32 r0).wf = true) (g2 : (Lit.int .u32 r1).wf = true) (g3 : (Lit.int .u32 r2).wf = true) (g4 : (Lit.int .u32 n0).wf = true) (g5 : (Lit.int .u32 n1).wf = true) (g6 : (Lit.int .u32 n2).wf = true) (g7 : (Lit.int .u8 y).wf = true) (w : World) :
    Calls Try.prog 7 #[.int .u64 v, .agg #[.int .u32 r0, .int .u32 r1, .int .u32 r2], .agg #[.int .u32 n0, .int .u32 n1, .int .u32 n2], .int .u8 y] w fun e w' => e = .returned (.bool true) ∧ Below w.heap.size w w' := by
  have b1 := bounds_u32 g1
  have b2 := bounds_u32 g2
  have b3 := bounds_u32 g3
  have b4 := bounds_u32 g4
  have b5 := bounds_u32 g5
  have b6 := bounds_u32 g6
  exact ChargeLess_walk v y (fun i => match i with | 0 => r0 | 1 => r1 | _ => r2) (fun i => match i with | 0 => n0 | 1 => n1 | _ => n2) (bounds_u64 g0)
    (fun i => by match i with | 0 => exact b1 | 1 => exact b2 | k + 2 => exact b3) (fun i => by match i with | 0 => exact b4 | 1 => exact b5 | k + 2 => exact b6) (bounds_u8 g7) w
end Go.Proofs.Ytbddiagnijcmhaa
