/-
  Layer 24 (queue), the reference: Right, Find, raised, Load, Raise.
  Layer 24 (queue), the reference: with.
  Layer 24 (queue), the reference: without.
  Layer 24 (queue), the reference: Enter.
  Layer 24 (queue), the reference: Leave.
  Layer 24 (queue), the reference: change.
  Layer 24 (queue), the reference: Charge, Weigh.
  Layer 24 (queue), the reference: Weigh.
-/
import Derived.Test.YtekjakmeopolhaaQueueD
import Derived.Test.YtekjakmeopolhaaKitT
import Derived.Test.YtekjakmeopolhaaKitU
import Derived.Test.YtekjakmeopolhaaKitV
import Derived.Test.YtekjakmeopolhaaChargeR
namespace Go.Proofs.Ytekjakmeopolhaa
open Go.RowKit Go.Maps Go.IntWalk Go.Lib
set_option linter.unusedVariables false
set_option linter.unusedSimpArgs false
/-- a reference's queue, as a value -/
def rqV (n : Int) (a : Option Addr) (l cap : Nat) (fl : Int) : Value := .agg #[.int .i64 n, .slice a l cap, .int .u64 fl]
/-- the place of a member -/
def findM (M : Mems) (id : Int) : Int := match M.findIdx? (fun y => y.1 == id) with | some k => (k : Int) | none => -1
theorem findM_at {S : Mems} {id : Int} {k : Nat} (hk : k < S.length) (h : S[k]!.1 = id) (hn : ∀ j, j < k → S[j]!.1 ≠ id) : findM S id = (k : Int) := by
  unfold findM
  have e : S.findIdx? (fun y => y.1 == id) = some k := by
    rw [List.findIdx?_eq_some_iff_getElem]
    refine ⟨hk, ?_, fun j hj => ?_⟩
    · have := h; rw [getElem!_pos S k hk] at this; simpa using this
    · have := hn j hj; rw [getElem!_pos S j (by omega)] at this; simpa using this
  rw [e]
theorem findM_none {S : Mems} {id : Int} (hn : ∀ j, j < S.length → S[j]!.1 ≠ id) : findM S id = -1 := by
  unfold findM
  have e : S.findIdx? (fun y => y.1 == id) = none := by
    rw [List.findIdx?_eq_none_iff]
    intro y hy
    obtain ⟨i, hi, e⟩ := List.getElem_of_mem hy
    have := hn i hi
    rw [getElem!_pos S i hi, e] at this
    simpa using this
  rw [e]
theorem findM_cases (S : Mems) (id : Int) : (∃ k, k < S.length ∧ findM S id = (k : Int) ∧ S[k]!.1 = id ∧ ∀ j, j < k → S[j]!.1 ≠ id) ∨ (findM S id = -1 ∧ entM S id = none) := by
  cases e : S.findIdx? (fun y => y.1 == id) with
  | some k =>
    obtain ⟨hk, h1, h2⟩ := List.findIdx?_eq_some_iff_getElem.1 e
    have h1' : S[k]!.1 = id := by rw [getElem!_pos S k hk]; simpa using h1
    have h2' : ∀ j, j < k → S[j]!.1 ≠ id := fun j hj => by rw [getElem!_pos S j (by omega)]; simpa using h2 j hj
    exact Or.inl ⟨k, hk, findM_at hk h1' h2', h1', h2'⟩
  | none =>
    have h := List.findIdx?_eq_none_iff.1 e
    refine Or.inr ⟨by unfold findM; rw [e], ent_none.2 fun y hy => by simpa using h y hy⟩
set_option maxRecDepth 100000 in
set_option maxHeartbeats 1000000 in
theorem rFind_any (a : Option Addr) (cap : Nat) (n fl id : Int) (S : Mems) (w : World) (h : RecsAt encMs w (.slice a S.length cap) S) :
    Calls Try.prog 51 #[.agg #[.int .i64 n, .slice a S.length cap, .int .u64 fl], .int .i64 id] w fun e w' => e = .returned (.int .i64 (findM S id)) ∧ Grows w w' := by
  have hl := h.len
  have HI := Lib.hid (h.later (below_a w (.cells #[.int .i64 n, .slice a S.length cap, .int .u64 fl] 68)))
  obtain ⟨M, hM⟩ : ∃ M, M = S.length := ⟨_, rfl⟩
  have HM := Lib.hid hM
  rw [← hM] at hl HI ⊢
  clear h hM
  have c0 := cell_nw w #[.int .i64 n, .slice a M cap, .int .u64 fl] 68 0 _ rfl
  have c1 := cell_nw w #[.int .i64 n, .slice a M cap, .int .u64 fl] 68 1 _ rfl
  have HG := Lib.hid (grows_a w (.cells #[.int .i64 n, .slice a M cap, .int .u64 fl] 68))
  go_enter Try.func51, Try.ntmps51
  go_wp2_with fail
  generalize w.heap.size = bh at *
  generalize w.alloc (.cells #[.int .i64 n, .slice a M cap, .int .u64 fl] 68) = W at *
  go_loop [5] (fun i => ∃ k : Nat, k ≤ M ∧ i = .int .i64 k ∧ ∀ j, j < k → S[j]!.1 ≠ id) (fun i => M - (intOf i).toNat)
  case atStart => exact ⟨0, Nat.zero_le _, rfl, fun j hj => by omega⟩
  case round =>
    obtain ⟨k, hk, rfl, hn⟩ := hrel
    have HN := Lib.hid hn
    clear hn
    by_cases hlt : k < M
    · obtain ⟨-, b, off, rfl, i0, i1, -, -⟩ := HI.out.mem hlt
      obtain ⟨x, hx⟩ : ∃ x, x = S[k]! := ⟨_, rfl⟩
      rw [← hx] at i0 i1
      have HX := Lib.hid hx
      have hk0 : (0 : Int) ≤ (k : Int) := by omega
      have hkm : (k : Int) < (M : Int) := by omega
      clear hx i1
      by_cases he : x.1 = id
      · have z1 : (x.1 == id) = true := by simpa using he
        have HF := Lib.hid (findM_at (by rw [← HM.out]; exact hlt) (by rw [← HX.out]; exact he) HN.out)
        clear he
        go_wp2_with fail
        go_ret
        exact ⟨by rw [HF.out]; rfl, HG.out⟩
      · have z1 : (x.1 == id) = false := by simpa using he
        have z1' : (x.1 = id) = False := eq_false he
        have HF := Lib.hid (show ∀ j, j < k + 1 → S[j]!.1 ≠ id from fun j hj => by
          by_cases e : j = k
          · subst e; rw [← HX.out]; exact he
          · exact HN.out j (by omega))
        clear he
        go_wp2_with fail
        go_round
        case rel => exact ⟨k + 1, by omega, by go_num, HF.out⟩
        case measure => simp [intOf]; omega
    · have l1 : decide ((k : Int) < (M : Int)) = false := decide_eq_false (by omega)
      have l2 : decide (k < M) = false := decide_eq_false hlt
      have l3 : (k < M) = False := eq_false hlt
      have HF := Lib.hid (show findM S id = -1 from findM_none fun j hj => HN.out j (by rw [← HM.out] at hj; omega))
      clear hk hlt
      go_wp2_with fail
      go_ret
      exact ⟨by rw [HF.out]; rfl, HG.out⟩
theorem rRight24_any (n : Int) (w : World) : Calls Try.prog 29 #[.int .i64 n] w fun e w' => e = .returned (.bool (decide (1 ≤ n ∧ n ≤ 131072))) ∧ w = w' := by
  by_cases h1 : 1 ≤ n
  · by_cases h2 : n ≤ 131072
    · rw [decide_eq_true ⟨h1, h2⟩]
      go_enter Try.func29, Try.ntmps29
      go_wp2_with fail
      go_ret
      exact ⟨rfl, rfl⟩
    · rw [decide_eq_false (fun h => h2 h.2)]
      have z2 : decide (n ≤ 131072) = false := decide_eq_false h2
      clear h2
      go_enter Try.func29, Try.ntmps29
      go_wp2_with fail
      go_ret
      exact ⟨rfl, rfl⟩
  · rw [decide_eq_false (fun h => h1 h.1)]
    have z1 : decide (1 ≤ n) = false := decide_eq_false h1
    have z1' : decide (n ≥ 1) = false := decide_eq_false h1
    clear h1
    go_enter Try.func29, Try.ntmps29
    go_wp2_with fail
    go_ret
    exact ⟨rfl, rfl⟩
set_option maxRecDepth 100000 in
set_option maxHeartbeats 1000000 in
theorem rRaise_any (a : Option Addr) (l cap : Nat) (n fl x : Int) (w : World) :
    Calls Try.prog 50 #[.agg #[.int .i64 n, .slice a l cap, .int .u64 fl], .int .u64 x] w fun e w' => e = .returned (rqV n a l cap (max fl x)) ∧ Below w.heap.size w w' := by
  by_cases hx : x > fl
  · have z1 : decide (x > fl) = true := decide_eq_true hx
    have z2 : decide (fl < x) = true := decide_eq_true hx
    rw [show max fl x = x by omega]
    clear hx
    go_enter Try.func50, Try.ntmps50
    go_wp2_with fail
    refine bodyPost_ret (v := rqV n a l cap x) (by simp [results, Try.results50, go_sem, rqV]) rfl ⟨rfl, ?_⟩
    exact Below.allocS (Below.allocS (Below.refl _ _) _) _
  · have z1 : decide (x > fl) = false := decide_eq_false hx
    have z2 : decide (fl < x) = false := decide_eq_false hx
    rw [show max fl x = fl by omega]
    clear hx
    go_enter Try.func50, Try.ntmps50
    go_wp2_with fail
    refine bodyPost_ret (v := rqV n a l cap fl) (by simp [results, Try.results50, go_sem, rqV]) rfl ⟨rfl, ?_⟩
    exact Below.allocS (Below.allocS (Below.refl _ _) _) _
theorem load_take' {M : Mems} {i : Nat} (hi : i < M.length) : loadM (M.take (i + 1)) = loadM (M.take i) + M[i]!.2.2.2 := by
  rw [List.take_add_one, List.getElem?_eq_getElem hi, getElem!_pos M i hi]
  unfold loadM
  rw [List.map_append, List.sum_append]
  simp
set_option maxRecDepth 100000 in
set_option maxHeartbeats 1000000 in
theorem rLoad_any (a : Option Addr) (cap : Nat) (n fl : Int) (S : Mems) (w : World) (h : RecsAt encMs w (.slice a S.length cap) S) (hok : ∀ m ∈ S, Ch.Ok m.2.1 m.2.2.1 m.2.2.2) (hl4 : S.length ≤ 400000) :
    Calls Try.prog 52 #[.agg #[.int .i64 n, .slice a S.length cap, .int .u64 fl]] w fun e w' => e = .returned (.int .i64 (loadM S)) ∧ Grows w w' := by
  have hl := h.len
  have HI := Lib.hid (h.later (below_a w (.cells #[.int .i64 n, .slice a S.length cap, .int .u64 fl] 68)))
  have HOK := Lib.hid hok
  obtain ⟨M, hM⟩ : ∃ M, M = S.length := ⟨_, rfl⟩
  have HM := Lib.hid hM
  rw [← hM] at hl HI hl4 ⊢
  clear h hM hok
  have c0 := cell_nw w #[.int .i64 n, .slice a M cap, .int .u64 fl] 68 0 _ rfl
  have c1 := cell_nw w #[.int .i64 n, .slice a M cap, .int .u64 fl] 68 1 _ rfl
  have HG := Lib.hid (grows_a w (.cells #[.int .i64 n, .slice a M cap, .int .u64 fl] 68))
  go_enter Try.func52, Try.ntmps52
  go_wp2_with fail
  generalize w.heap.size = bh at *
  generalize w.alloc (.cells #[.int .i64 n, .slice a M cap, .int .u64 fl] 68) = W at *
  go_loop [3, 4] (fun o i => ∃ k : Nat, k ≤ M ∧ i = .int .i64 k ∧ o = .int .i64 (loadM (S.take k))) (fun _ i => M - (intOf i).toNat)
  case atStart => exact ⟨0, Nat.zero_le _, rfl, rfl⟩
  case round =>
    obtain ⟨k, hk, rfl, rfl⟩ := hrel
    by_cases hlt : k < M
    · obtain ⟨-, b, off, rfl, -, -, -, i3⟩ := HI.out.mem hlt
      have hkS : k < S.length := by rw [← HM.out]; exact hlt
      have hE := load_take' hkS
      have hok := HOK.out S[k]! (by rw [getElem!_pos S k hkS]; exact List.getElem_mem _)
      have hlo := load_le (M := S.take k) fun m hm => HOK.out m (List.mem_of_mem_take hm)
      have hlt2 : (S.take k).length ≤ 400000 := by rw [List.length_take]; omega
      obtain ⟨x, hx⟩ : ∃ x, x = S[k]! := ⟨_, rfl⟩
      rw [← hx] at i3 hok hE
      have HE := Lib.hid hE
      generalize loadM (S.take k) = ld at *
      have hw : 1 ≤ x.2.2.2 ∧ x.2.2.2 ≤ 65536 := by unfold Ch.Ok at hok; omega
      have hw0 : 0 ≤ x.2.2.2 := by omega
      have a1 : IntKind.i64.wrap x.2.2.2 = x.2.2.2 := IntWalk.i64_in _ (by omega)
      have a2 : IntKind.i64.wrap (ld + x.2.2.2) = ld + x.2.2.2 := IntWalk.i64_in _ (by omega)
      have hk0 : (0 : Int) ≤ (k : Int) := by omega
      have hkm : (k : Int) < (M : Int) := by omega
      clear hx hE hok hlo hlt2 hw hkS
      go_wp2_with fail
      go_round
      case rel => exact ⟨k + 1, by omega, by go_num, by rw [HE.out]⟩
      case measure => simp [intOf]; omega
    · have l1 : decide ((k : Int) < (M : Int)) = false := decide_eq_false (by omega)
      have l2 : decide (k < M) = false := decide_eq_false hlt
      have l3 : (k < M) = False := eq_false hlt
      have HF := Lib.hid (show loadM (S.take k) = loadM S by rw [List.take_of_length_le (by rw [← HM.out]; omega)])
      clear hk hlt
      go_wp2_with fail
      go_ret
      exact ⟨by rw [HF.out]; rfl, HG.out⟩
set_option maxRecDepth 100000 in
set_option maxHeartbeats 1000000 in
theorem rraised_any (a : Option Addr) (cap : Nat) (n fl : Int) (S : Mems) (w : World) (h : RecsAt encMs w (.slice a S.length cap) S) :
    Calls Try.prog 59 #[.agg #[.int .i64 n, .slice a S.length cap, .int .u64 fl]] w fun e w' => e = .returned (rqV n a S.length cap (riseF (itemsM S) fl)) ∧ Below w.heap.size w w' := by
  cases S with
  | nil =>
    rw [show riseF (itemsM []) fl = fl from rfl, show ([] : Mems).length = 0 from rfl]
    obtain ⟨W0, hW0⟩ : ∃ W0, W0 = ((w.alloc (.cells #[.int .i64 n, .slice a 0 cap, .int .u64 fl] 68)).alloc (.cells #[.int .i64 0, .slice none 0 0, .int .u64 0] 68)) := ⟨_, rfl⟩
    have HB0 := Lib.hid (show Below w.heap.size w W0 by rw [hW0]; exact (Below.allocS (Below.allocS (Below.refl _ _) _) _))
    have c0 : W0.cell? ⟨w.heap.size, 0, none⟩ = some (.int .i64 n) := by rw [hW0]; exact cell_al _ (cell_nwE (by simp) _ _ 0 _ rfl)
    have fc0 : W0.frozen? ⟨w.heap.size, 0, none⟩ = false := by rw [hW0]; exact frz_later (below_a _ _) (frz_nwE (by simp) _ _ 0) (by simp)
    have c1 : W0.cell? ⟨w.heap.size, 1, none⟩ = some (.slice a 0 cap) := by rw [hW0]; exact cell_al _ (cell_nwE (by simp) _ _ 1 _ rfl)
    have fc1 : W0.frozen? ⟨w.heap.size, 1, none⟩ = false := by rw [hW0]; exact frz_later (below_a _ _) (frz_nwE (by simp) _ _ 1) (by simp)
    have c2 : W0.cell? ⟨w.heap.size, 2, none⟩ = some (.int .u64 fl) := by rw [hW0]; exact cell_al _ (cell_nwE (by simp) _ _ 2 _ rfl)
    have fc2 : W0.frozen? ⟨w.heap.size, 2, none⟩ = false := by rw [hW0]; exact frz_later (below_a _ _) (frz_nwE (by simp) _ _ 2) (by simp)
    have r0 : W0.cell? ⟨w.heap.size + 1, 0, none⟩ = some (.int .i64 0) := by rw [hW0]; exact cell_nwE (by simp) _ _ 0 _ rfl
    have fr0 : W0.frozen? ⟨w.heap.size + 1, 0, none⟩ = false := by rw [hW0]; exact frz_nwE (by simp) _ _ 0
    have r1 : W0.cell? ⟨w.heap.size + 1, 1, none⟩ = some (.slice none 0 0) := by rw [hW0]; exact cell_nwE (by simp) _ _ 1 _ rfl
    have fr1 : W0.frozen? ⟨w.heap.size + 1, 1, none⟩ = false := by rw [hW0]; exact frz_nwE (by simp) _ _ 1
    have r2 : W0.cell? ⟨w.heap.size + 1, 2, none⟩ = some (.int .u64 0) := by rw [hW0]; exact cell_nwE (by simp) _ _ 2 _ rfl
    have fr2 : W0.frozen? ⟨w.heap.size + 1, 2, none⟩ = false := by rw [hW0]; exact frz_nwE (by simp) _ _ 2
    have HSZ := Lib.hid (show W0.heap.size = w.heap.size + 1 + 1 by rw [hW0]; simp)
    have HW0 := Lib.hid hW0
    clear hW0
    clear h
    go_enter Try.func59, Try.ntmps59
    go_wp2_with fail
    rw [← HW0.out]
    generalize hbx : w.heap.size = bx at c0 c1 c2 r0 r1 r2 fc0 fc1 fc2 fr0 fr1 fr2 HSZ  ⊢
    have HBX := Lib.hid hbx
    clear hbx HW0
    go_quiet (fail)
    have hbq : Below W0.heap.size W0 (W0.drewN nq) := below_drewN (Below.refl _ _) _
    replace fc0 := frz_later hbq fc0 (lt_of_cell c0)
    replace fc1 := frz_later hbq fc1 (lt_of_cell c1)
    replace fc2 := frz_later hbq fc2 (lt_of_cell c2)
    replace fr0 := frz_later hbq fr0 (lt_of_cell r0)
    replace fr1 := frz_later hbq fr1 (lt_of_cell r1)
    replace fr2 := frz_later hbq fr2 (lt_of_cell r2)
    replace c0 := cell_later hbq c0
    replace c1 := cell_later hbq c1
    replace c2 := cell_later hbq c2
    replace r0 := cell_later hbq r0
    replace r1 := cell_later hbq r1
    replace r2 := cell_later hbq r2
    have HB1 := Lib.hid (Below.step HB0.out hbq)
    clear hbq
    generalize W0.drewN nq = W1 at *
    go_wp2_with fail
    refine bodyPost_ret (v := (rqV n a 0 cap fl)) (by simp [results, Try.results59, go_sem, rqV, *]) rfl ⟨rfl, ?_⟩
    repeat (first | exact HB1.out | refine Below.setCell ?_ (by have := HBX.out; simp; omega) _)
  | cons m r =>
    obtain ⟨-, b, off, rfl, -, i1, -, -⟩ := h.mem (i := 0) (by simp)
    rw [show riseF (itemsM (m :: r)) fl = max fl m.2.1 from rfl]
    replace i1 : w.cell? ⟨b, off + 1, none⟩ = some (.int .u64 m.2.1) := by rw [Nat.zero_mul, Nat.add_zero] at i1; exact i1
    obtain ⟨L, hL⟩ : ∃ L, L = (m :: r).length := ⟨_, rfl⟩
    have hp : 0 < L := by rw [hL]; simp
    have hpi : (0 : Int) < (L : Int) := by omega
    rw [← hL]
    generalize m.2.1 = y at *
    clear h hL
    obtain ⟨W0, hW0⟩ : ∃ W0, W0 = ((w.alloc (.cells #[.int .i64 n, .slice (some ⟨b, off, none⟩) L cap, .int .u64 fl] 68)).alloc (.cells #[.int .i64 0, .slice none 0 0, .int .u64 0] 68)) := ⟨_, rfl⟩
    have HB0 := Lib.hid (show Below w.heap.size w W0 by rw [hW0]; exact (Below.allocS (Below.allocS (Below.refl _ _) _) _))
    have c0 : W0.cell? ⟨w.heap.size, 0, none⟩ = some (.int .i64 n) := by rw [hW0]; exact cell_al _ (cell_nwE (by simp) _ _ 0 _ rfl)
    have fc0 : W0.frozen? ⟨w.heap.size, 0, none⟩ = false := by rw [hW0]; exact frz_later (below_a _ _) (frz_nwE (by simp) _ _ 0) (by simp)
    have c1 : W0.cell? ⟨w.heap.size, 1, none⟩ = some (.slice (some ⟨b, off, none⟩) L cap) := by rw [hW0]; exact cell_al _ (cell_nwE (by simp) _ _ 1 _ rfl)
    have fc1 : W0.frozen? ⟨w.heap.size, 1, none⟩ = false := by rw [hW0]; exact frz_later (below_a _ _) (frz_nwE (by simp) _ _ 1) (by simp)
    have c2 : W0.cell? ⟨w.heap.size, 2, none⟩ = some (.int .u64 fl) := by rw [hW0]; exact cell_al _ (cell_nwE (by simp) _ _ 2 _ rfl)
    have fc2 : W0.frozen? ⟨w.heap.size, 2, none⟩ = false := by rw [hW0]; exact frz_later (below_a _ _) (frz_nwE (by simp) _ _ 2) (by simp)
    have r0 : W0.cell? ⟨w.heap.size + 1, 0, none⟩ = some (.int .i64 0) := by rw [hW0]; exact cell_nwE (by simp) _ _ 0 _ rfl
    have fr0 : W0.frozen? ⟨w.heap.size + 1, 0, none⟩ = false := by rw [hW0]; exact frz_nwE (by simp) _ _ 0
    have r1 : W0.cell? ⟨w.heap.size + 1, 1, none⟩ = some (.slice none 0 0) := by rw [hW0]; exact cell_nwE (by simp) _ _ 1 _ rfl
    have fr1 : W0.frozen? ⟨w.heap.size + 1, 1, none⟩ = false := by rw [hW0]; exact frz_nwE (by simp) _ _ 1
    have r2 : W0.cell? ⟨w.heap.size + 1, 2, none⟩ = some (.int .u64 0) := by rw [hW0]; exact cell_nwE (by simp) _ _ 2 _ rfl
    have fr2 : W0.frozen? ⟨w.heap.size + 1, 2, none⟩ = false := by rw [hW0]; exact frz_nwE (by simp) _ _ 2
    have HSZ := Lib.hid (show W0.heap.size = w.heap.size + 1 + 1 by rw [hW0]; simp)
    have HW0 := Lib.hid hW0
    clear hW0
    replace i1 := cell_later HB0.out i1
    by_cases hy : y > fl
    · rw [show max fl y = y by omega]
      have z1 : decide (y > fl) = true := by first | exact decide_eq_true (by omega) | exact decide_eq_false (by omega)
      have z2 : decide (fl < y) = true := by first | exact decide_eq_true (by omega) | exact decide_eq_false (by omega)
      go_enter Try.func59, Try.ntmps59
      go_wp2_with fail
      rw [← HW0.out]
      generalize hbx : w.heap.size = bx at c0 c1 c2 r0 r1 r2 fc0 fc1 fc2 fr0 fr1 fr2 HSZ  ⊢
      have HBX := Lib.hid hbx
      clear hbx HW0
      go_quiet (fail)
      have hbq : Below W0.heap.size W0 (W0.drewN nq) := below_drewN (Below.refl _ _) _
      replace fc0 := frz_later hbq fc0 (lt_of_cell c0)
      replace fc1 := frz_later hbq fc1 (lt_of_cell c1)
      replace fc2 := frz_later hbq fc2 (lt_of_cell c2)
      replace fr0 := frz_later hbq fr0 (lt_of_cell r0)
      replace fr1 := frz_later hbq fr1 (lt_of_cell r1)
      replace fr2 := frz_later hbq fr2 (lt_of_cell r2)
      replace c0 := cell_later hbq c0
      replace c1 := cell_later hbq c1
      replace c2 := cell_later hbq c2
      replace r0 := cell_later hbq r0
      replace r1 := cell_later hbq r1
      replace r2 := cell_later hbq r2
      replace i1 := cell_later hbq i1
      have HB1 := Lib.hid (Below.step HB0.out hbq)
      clear hbq
      generalize W0.drewN nq = W1 at *
      go_wp2_with fail
      refine bodyPost_ret (v := (rqV n (some ⟨b, off, none⟩) L cap y)) (by simp [results, Try.results59, go_sem, rqV, *]) rfl ⟨rfl, ?_⟩
      repeat (first | exact HB1.out | refine Below.setCell ?_ (by have := HBX.out; simp; omega) _)
    · rw [show max fl y = fl by omega]
      have z1 : decide (y > fl) = false := by first | exact decide_eq_true (by omega) | exact decide_eq_false (by omega)
      have z2 : decide (fl < y) = false := by first | exact decide_eq_true (by omega) | exact decide_eq_false (by omega)
      go_enter Try.func59, Try.ntmps59
      go_wp2_with fail
      rw [← HW0.out]
      generalize hbx : w.heap.size = bx at c0 c1 c2 r0 r1 r2 fc0 fc1 fc2 fr0 fr1 fr2 HSZ  ⊢
      have HBX := Lib.hid hbx
      clear hbx HW0
      go_quiet (fail)
      have hbq : Below W0.heap.size W0 (W0.drewN nq) := below_drewN (Below.refl _ _) _
      replace fc0 := frz_later hbq fc0 (lt_of_cell c0)
      replace fc1 := frz_later hbq fc1 (lt_of_cell c1)
      replace fc2 := frz_later hbq fc2 (lt_of_cell c2)
      replace fr0 := frz_later hbq fr0 (lt_of_cell r0)
      replace fr1 := frz_later hbq fr1 (lt_of_cell r1)
      replace fr2 := frz_later hbq fr2 (lt_of_cell r2)
      replace c0 := cell_later hbq c0
      replace c1 := cell_later hbq c1
      replace c2 := cell_later hbq c2
      replace r0 := cell_later hbq r0
      replace r1 := cell_later hbq r1
      replace r2 := cell_later hbq r2
      replace i1 := cell_later hbq i1
      have HB1 := Lib.hid (Below.step HB0.out hbq)
      clear hbq
      generalize W0.drewN nq = W1 at *
      go_wp2_with fail
      refine bodyPost_ret (v := (rqV n (some ⟨b, off, none⟩) L cap fl)) (by simp [results, Try.results59, go_sem, rqV, *]) rfl ⟨rfl, ?_⟩
      repeat (first | exact HB1.out | refine Below.setCell ?_ (by have := HBX.out; simp; omega) _)
end Go.Proofs.Ytekjakmeopolhaa
namespace Go.Proofs.Ytekjakmeopolhaa
open Go.RowKit Go.Maps Go.IntWalk Go.Lib
set_option linter.unusedVariables false
set_option linter.unusedSimpArgs false
theorem infoRMember : (Try.prog.info? 106).map (fun i => (i.zero, i.size, i.bytes)) = some (some (.agg #[.int .i64 0, .int .u64 0, .int .u32 0, .int .u32 0]), 4, 24) := by kernel_rfl
theorem sizeRMember (w : World) : (Go.sizeOf (Try.prog.elem 66)).run Try.prog w = .ok 4 w := by kernel_rfl
theorem undRMembers : Try.prog.underlying 66 = some (.slice (Try.prog.elem 66)) := by kernel_rfl
/-- the records that come back lie where the old ones lay, or in new blocks -/
def NewM (w w' : World) (v : Value) (S : Mems) (v' : Value) (S' : Mems) : Prop := ∀ F : List Nat, (∀ b ∈ F, b < w.heap.size) → HeldR encMs F w v S → HeldR encMs F w' v' S'
theorem HeldR.subM {F F' : List Nat} {w : World} {v : Value} {S : Mems} (h : HeldR encMs F w v S) (hs : ∀ b ∈ F', b ∈ F) : HeldR encMs F' w v S := h.step (Kept.refl _ _) fun b hb => Or.inl (hs b hb)
theorem NewM.same {w w' : World} {v : Value} {S : Mems} (h : Below w.heap.size w w') : NewM w w' v S v S := fun F hF q => q.later h
theorem NewM.trans {A B C : World} {v v' v2 : Value} {S S' S2 : Mems} (h : NewM A B v S v' S') (k : NewM B C v' S' v2 S2) (hs : A.heap.size ≤ B.heap.size) : NewM A C v S v2 S2 := fun F hF q => k F (fun b hb => Nat.lt_of_lt_of_le (hF b hb) hs) (h F hF q)
/-- boxes of the call's own are written -/
theorem NewM.wrap {w W0 W3 W' : World} {v v' : Value} {S S' : Mems} {B : List Nat} (hn : NewM W0 W3 v S v' S') (hg : Below w.heap.size w W0) (hB : ∀ b ∈ B, w.heap.size ≤ b ∧ b < W0.heap.size) (KF : Kept B W3 W') : NewM w W' v S v' S' := fun F hF q => by
  refine ((hn (B ++ F) (fun b hb => ?_) (q.step (Kept.of hg) (fun b hb => ?_))).kept (KF.mono (fun b hb => ?_))).subM (fun b hb => by simp [hb])
  · rcases List.mem_append.1 hb with hb | hb
    · exact (hB b hb).2
    · have := hF b hb; have := hg.size; omega
  · rcases List.mem_append.1 hb with hb | hb
    · exact Or.inr (hB b hb).1
    · exact Or.inl hb
  · exact List.mem_append.2 (Or.inl hb)
theorem NewM.recs {w w' : World} {v v' : Value} {S S' : Mems} (hn : NewM w w' v S v' S') (h : HeldR encMs [] w v S) : HeldR encMs [] w' v' S' := hn [] (fun b hb => by simp at hb) h
def RRowP (w : World) (v0 : Value) (S0 : Mems) (n fl : Int) (S : Mems) (e : Ending) (w' : World) : Prop := ∃ a cap, e = .returned (rqV n a S.length cap fl) ∧ NewM w w' v0 S0 (.slice a S.length cap) S ∧ Below w.heap.size w w'
/-- where a member belongs -/
def cutM (S : Mems) (x : Int × Ent) : Nat := (S.takeWhile fun y => decide (ltI (kM y) (kM x))).length
theorem putM_cut (S : Mems) (x : Int × Ent) : putM S x = S.take (cutM S x) ++ x :: S.drop (cutM S x) := by
  induction S with
  | nil => rfl
  | cons y r ih =>
    unfold putM cutM
    by_cases h : ltI (kM y) (kM x)
    · rw [if_pos h, List.takeWhile_cons, if_pos (decide_eq_true h), ih]; rfl
    · rw [if_neg h, List.takeWhile_cons, if_neg (by simpa using h)]; rfl
theorem cutM_le (S : Mems) (x : Int × Ent) : cutM S x ≤ S.length := (List.takeWhile_sublist _).length_le
theorem cutM_bef {S : Mems} {x : Int × Ent} : ∀ {k : Nat}, k < S.length → (k < cutM S x → ltI (kM S[k]!) (kM x)) ∧ (k = cutM S x → ¬ ltI (kM S[k]!) (kM x)) := by
  induction S with
  | nil => intro k hk; simp at hk
  | cons y r ih =>
    intro k hk
    unfold cutM
    rw [List.takeWhile_cons]
    by_cases hb : ltI (kM y) (kM x)
    · rw [if_pos (decide_eq_true hb), List.length_cons]
      cases k with
      | zero => exact ⟨fun _ => by simpa using hb, fun h => by omega⟩
      | succ k =>
        have := ih (k := k) (by simpa using hk)
        have e : (y :: r)[k + 1]! = r[k]! := by simp
        rw [e]
        exact ⟨fun h => this.1 (by unfold cutM; omega), fun h => this.2 (by unfold cutM; omega)⟩
    · rw [if_neg (by simpa using hb)]
      refine ⟨fun h => by simp at h, fun h => ?_⟩
      simp only [List.length_nil] at h
      subst h
      simpa using hb
theorem own_shapeM {w : World} {base n size : Nat} {e : TypeId} {v : Value} {xs : List Value} (h : w.ownsRow base e size v n xs) : ∃ a cap, v = .slice a n cap := by
  rcases h.2 with ⟨rfl, h0⟩ | ⟨g, cap, cur, rfl, _⟩
  · exact ⟨none, 0, by rw [h0]⟩
  · exact ⟨_, cap, rfl⟩
theorem in3 {x b : Nat} (h : b ∈ [x, x + 1, x + 1 + 1]) : x ≤ b ∧ b < x + 1 + 1 + 1 := by
  simp at h
  omega
theorem in2 {x b : Nat} (h : b ∈ [x, x + 1]) : x ≤ b ∧ b < x + 1 + 1 := by
  simp at h
  omega
set_option maxRecDepth 100000 in
set_option maxHeartbeats 4000000 in
theorem rwith_any (a : Option Addr) (cap : Nat) (n fl : Int) (S : Mems) (x : Int × Ent) (w : World) (h : HeldR encMs [] w (.slice a S.length cap) S) (hl : S.length ≤ 400000) :
    Calls Try.prog 60 #[.agg #[.int .i64 n, .slice a S.length cap, .int .u64 fl], .agg #[.int .i64 x.1, .int .u64 x.2.1, .int .u32 x.2.2.1, .int .u32 x.2.2.2]] w (RRowP w (.slice a S.length cap) S n fl (putM S x)) := by
  obtain ⟨i0, hi, hz0, hz1, hz2⟩ := info_parts infoRMember
  have hlen := h.recs.len
  obtain ⟨M, hM⟩ : ∃ M, M = S.length := ⟨_, rfl⟩
  have HM := Lib.hid hM.symm
  have hM6 : M ≤ 400000 := by rw [hM]; exact hl
  have HCL := Lib.hid (cutM_le S x)
  rw [← hM] at hlen h ⊢
  obtain ⟨-, hcM, hc9⟩ := hlen
  have HV := Lib.hid h
  obtain ⟨W0, hW0⟩ : ∃ W0, W0 = (((w.alloc (.cells #[.int .i64 n, .slice a M cap, .int .u64 fl] 68)).alloc (.cells #[.int .i64 x.1, .int .u64 x.2.1, .int .u32 x.2.2.1, .int .u32 x.2.2.2] 106)).alloc (.cells #[.int .i64 0, .slice none 0 0, .int .u64 0] 68)) := ⟨_, rfl⟩
  have HB0 := Lib.hid (show Below w.heap.size w W0 by rw [hW0]; exact (Below.allocS (Below.allocS (Below.allocS (Below.refl _ _) _) _) _))
  have c0 : W0.cell? ⟨w.heap.size, 0, none⟩ = some (.int .i64 n) := by rw [hW0]; exact cell_al _ (cell_al _ (cell_nwE (by simp) _ _ 0 _ rfl))
  have fc0 : W0.frozen? ⟨w.heap.size, 0, none⟩ = false := by rw [hW0]; exact frz_later (below_a _ _) (frz_later (below_a _ _) (frz_nwE (by simp) _ _ 0) (by first | (simp; done) | (simp; omega))) (by first | (simp; done) | (simp; omega))
  have c1 : W0.cell? ⟨w.heap.size, 1, none⟩ = some (.slice a M cap) := by rw [hW0]; exact cell_al _ (cell_al _ (cell_nwE (by simp) _ _ 1 _ rfl))
  have fc1 : W0.frozen? ⟨w.heap.size, 1, none⟩ = false := by rw [hW0]; exact frz_later (below_a _ _) (frz_later (below_a _ _) (frz_nwE (by simp) _ _ 1) (by first | (simp; done) | (simp; omega))) (by first | (simp; done) | (simp; omega))
  have c2 : W0.cell? ⟨w.heap.size, 2, none⟩ = some (.int .u64 fl) := by rw [hW0]; exact cell_al _ (cell_al _ (cell_nwE (by simp) _ _ 2 _ rfl))
  have fc2 : W0.frozen? ⟨w.heap.size, 2, none⟩ = false := by rw [hW0]; exact frz_later (below_a _ _) (frz_later (below_a _ _) (frz_nwE (by simp) _ _ 2) (by first | (simp; done) | (simp; omega))) (by first | (simp; done) | (simp; omega))
  have x0 : W0.cell? ⟨w.heap.size + 1, 0, none⟩ = some (.int .i64 x.1) := by rw [hW0]; exact cell_al _ (cell_nwE (by simp) _ _ 0 _ rfl)
  have fx0 : W0.frozen? ⟨w.heap.size + 1, 0, none⟩ = false := by rw [hW0]; exact frz_later (below_a _ _) (frz_nwE (by simp) _ _ 0) (by first | (simp; done) | (simp; omega))
  have x1 : W0.cell? ⟨w.heap.size + 1, 1, none⟩ = some (.int .u64 x.2.1) := by rw [hW0]; exact cell_al _ (cell_nwE (by simp) _ _ 1 _ rfl)
  have fx1 : W0.frozen? ⟨w.heap.size + 1, 1, none⟩ = false := by rw [hW0]; exact frz_later (below_a _ _) (frz_nwE (by simp) _ _ 1) (by first | (simp; done) | (simp; omega))
  have x2 : W0.cell? ⟨w.heap.size + 1, 2, none⟩ = some (.int .u32 x.2.2.1) := by rw [hW0]; exact cell_al _ (cell_nwE (by simp) _ _ 2 _ rfl)
  have fx2 : W0.frozen? ⟨w.heap.size + 1, 2, none⟩ = false := by rw [hW0]; exact frz_later (below_a _ _) (frz_nwE (by simp) _ _ 2) (by first | (simp; done) | (simp; omega))
  have x3 : W0.cell? ⟨w.heap.size + 1, 3, none⟩ = some (.int .u32 x.2.2.2) := by rw [hW0]; exact cell_al _ (cell_nwE (by simp) _ _ 3 _ rfl)
  have fx3 : W0.frozen? ⟨w.heap.size + 1, 3, none⟩ = false := by rw [hW0]; exact frz_later (below_a _ _) (frz_nwE (by simp) _ _ 3) (by first | (simp; done) | (simp; omega))
  have r0 : W0.cell? ⟨w.heap.size + 1 + 1, 0, none⟩ = some (.int .i64 0) := by rw [hW0]; exact cell_nwE (by simp) _ _ 0 _ rfl
  have fr0 : W0.frozen? ⟨w.heap.size + 1 + 1, 0, none⟩ = false := by rw [hW0]; exact frz_nwE (by simp) _ _ 0
  have r1 : W0.cell? ⟨w.heap.size + 1 + 1, 1, none⟩ = some (.slice none 0 0) := by rw [hW0]; exact cell_nwE (by simp) _ _ 1 _ rfl
  have fr1 : W0.frozen? ⟨w.heap.size + 1 + 1, 1, none⟩ = false := by rw [hW0]; exact frz_nwE (by simp) _ _ 1
  have r2 : W0.cell? ⟨w.heap.size + 1 + 1, 2, none⟩ = some (.int .u64 0) := by rw [hW0]; exact cell_nwE (by simp) _ _ 2 _ rfl
  have fr2 : W0.frozen? ⟨w.heap.size + 1 + 1, 2, none⟩ = false := by rw [hW0]; exact frz_nwE (by simp) _ _ 2
  have HSZ := Lib.hid (show W0.heap.size = w.heap.size + 1 + 1 + 1 by rw [hW0]; simp)
  have HW0 := Lib.hid hW0
  clear hW0
  have RW := Lib.hid (h.recs.later HB0.out)
  clear h hM hl
  go_enter Try.func60, Try.ntmps60
  go_wp2_with fail
  rw [← HW0.out]
  generalize hbx : w.heap.size = bx at c0 c1 c2 x0 x1 x2 x3 r0 r1 r2 fc0 fc1 fc2 fx0 fx1 fx2 fx3 fr0 fr1 fr2 HSZ  ⊢
  have HBX := Lib.hid hbx
  clear hbx HW0
  go_loopw [5] (fun i wr => ∃ k : Nat, k ≤ cutM S x ∧ i = .int .i64 k ∧ Below W0.heap.size W0 wr) (fun i _ => cutM S x - (intOf i).toNat)
  case atStart => exact ⟨0, Nat.zero_le _, rfl, Below.refl _ _⟩
  case round =>
    obtain ⟨k, hk, rfl, hbr⟩ := hrel
    have HBR := Lib.hid hbr
    replace fc0 := frz_later hbr fc0 (lt_of_cell c0)
    replace fc1 := frz_later hbr fc1 (lt_of_cell c1)
    replace fc2 := frz_later hbr fc2 (lt_of_cell c2)
    replace fx0 := frz_later hbr fx0 (lt_of_cell x0)
    replace fx1 := frz_later hbr fx1 (lt_of_cell x1)
    replace fx2 := frz_later hbr fx2 (lt_of_cell x2)
    replace fx3 := frz_later hbr fx3 (lt_of_cell x3)
    replace fr0 := frz_later hbr fr0 (lt_of_cell r0)
    replace fr1 := frz_later hbr fr1 (lt_of_cell r1)
    replace fr2 := frz_later hbr fr2 (lt_of_cell r2)
    replace c0 := cell_later hbr c0
    replace c1 := cell_later hbr c1
    replace c2 := cell_later hbr c2
    replace x0 := cell_later hbr x0
    replace x1 := cell_later hbr x1
    replace x2 := cell_later hbr x2
    replace x3 := cell_later hbr x3
    replace r0 := cell_later hbr r0
    replace r1 := cell_later hbr r1
    replace r2 := cell_later hbr r2
    clear hbr
    have hcl := HCL.out
    rw [HM.out] at hcl
    by_cases hkM : k < M
    · obtain ⟨-, b, off, rfl, i0', i1', i2', i3'⟩ := (RW.out.later HBR.out).mem hkM
      have hbb := cutM_bef (x := x) (by rw [HM.out]; exact hkM : k < S.length)
      obtain ⟨y, hy⟩ : ∃ y, y = S[k]! := ⟨_, rfl⟩
      rw [← hy] at i0' i1' hbb
      have hk0 : (0 : Int) ≤ (k : Int) := by omega
      have hkm : (k : Int) < (M : Int) := by omega
      have l2 : decide (k < M) = true := decide_eq_true hkM
      clear hy i2' i3'
      unfold ltI kM at hbb
      simp only at hbb
      go_wp2_with fail
      by_cases hv : y.2.1 < x.2.1
      · have HLT := Lib.hid (show k < cutM S x by
          rcases Nat.lt_or_ge k (cutM S x) with h | h
          · exact h
          · exact absurd (Or.inl hv) (hbb.2 (by omega)))
        have d1 : decide (y.2.1 < x.2.1) = true := decide_eq_true hv
        clear hbb hv hk hcl
        go_quiet (fail)
        have hbq : Below (wr).heap.size (wr) ((wr).drewN nq) := below_drewN (Below.refl _ _) _
        replace fc0 := frz_later hbq fc0 (lt_of_cell c0)
        replace fc1 := frz_later hbq fc1 (lt_of_cell c1)
        replace fc2 := frz_later hbq fc2 (lt_of_cell c2)
        replace fx0 := frz_later hbq fx0 (lt_of_cell x0)
        replace fx1 := frz_later hbq fx1 (lt_of_cell x1)
        replace fx2 := frz_later hbq fx2 (lt_of_cell x2)
        replace fx3 := frz_later hbq fx3 (lt_of_cell x3)
        replace fr0 := frz_later hbq fr0 (lt_of_cell r0)
        replace fr1 := frz_later hbq fr1 (lt_of_cell r1)
        replace fr2 := frz_later hbq fr2 (lt_of_cell r2)
        replace c0 := cell_later hbq c0
        replace c1 := cell_later hbq c1
        replace c2 := cell_later hbq c2
        replace x0 := cell_later hbq x0
        replace x1 := cell_later hbq x1
        replace x2 := cell_later hbq x2
        replace x3 := cell_later hbq x3
        replace r0 := cell_later hbq r0
        replace r1 := cell_later hbq r1
        replace r2 := cell_later hbq r2
        replace HBR := Lib.hid (Below.step HBR.out hbq)
        clear hbq
        generalize (wr).drewN nq = wz at *
        go_wp2_with fail
        go_roundw
        case rel => exact ⟨k + 1, by have := HLT.out; omega, by go_num, HBR.out⟩
        case measure => have := HLT.out; simp [intOf]; omega
      · by_cases hv2 : y.2.1 = x.2.1 ∧ y.1 < x.1
        · have HLT := Lib.hid (show k < cutM S x by
            rcases Nat.lt_or_ge k (cutM S x) with h | h
            · exact h
            · exact absurd (Or.inr hv2) (hbb.2 (by omega)))
          have d1 : decide (y.2.1 < x.2.1) = false := decide_eq_false hv
          have d2 : (y.2.1 == x.2.1) = true := by simpa using hv2.1
          have d3 : decide (y.1 < x.1) = true := decide_eq_true hv2.2
          clear hbb hv hv2 hk hcl
          go_quiet (fail)
          have hbq : Below (wr).heap.size (wr) ((wr).drewN nq) := below_drewN (Below.refl _ _) _
          replace fc0 := frz_later hbq fc0 (lt_of_cell c0)
          replace fc1 := frz_later hbq fc1 (lt_of_cell c1)
          replace fc2 := frz_later hbq fc2 (lt_of_cell c2)
          replace fx0 := frz_later hbq fx0 (lt_of_cell x0)
          replace fx1 := frz_later hbq fx1 (lt_of_cell x1)
          replace fx2 := frz_later hbq fx2 (lt_of_cell x2)
          replace fx3 := frz_later hbq fx3 (lt_of_cell x3)
          replace fr0 := frz_later hbq fr0 (lt_of_cell r0)
          replace fr1 := frz_later hbq fr1 (lt_of_cell r1)
          replace fr2 := frz_later hbq fr2 (lt_of_cell r2)
          replace c0 := cell_later hbq c0
          replace c1 := cell_later hbq c1
          replace c2 := cell_later hbq c2
          replace x0 := cell_later hbq x0
          replace x1 := cell_later hbq x1
          replace x2 := cell_later hbq x2
          replace x3 := cell_later hbq x3
          replace r0 := cell_later hbq r0
          replace r1 := cell_later hbq r1
          replace r2 := cell_later hbq r2
          replace HBR := Lib.hid (Below.step HBR.out hbq)
          clear hbq
          generalize (wr).drewN nq = wz at *
          go_wp2_with fail
          go_roundw
          case rel => exact ⟨k + 1, by have := HLT.out; omega, by go_num, HBR.out⟩
          case measure => have := HLT.out; simp [intOf]; omega
        · have HC := Lib.hid (show k = cutM S x by
            rcases Nat.lt_or_ge k (cutM S x) with h | h
            · rcases hbb.1 h with q | q
              · exact absurd q hv
              · exact absurd q hv2
            · omega)
          have d1 : decide (y.2.1 < x.2.1) = false := decide_eq_false hv
          by_cases hv3 : y.2.1 = x.2.1
          · have d2 : (y.2.1 == x.2.1) = true := by simpa using hv3
            have d3 : decide (y.1 < x.1) = false := decide_eq_false (fun h => hv2 ⟨hv3, h⟩)
            clear hbb hv hv2 hv3 hk hcl
            go_quiet (fail)
            have hbq : Below (wr).heap.size (wr) ((wr).drewN nq) := below_drewN (Below.refl _ _) _
            replace fc0 := frz_later hbq fc0 (lt_of_cell c0)
            replace fc1 := frz_later hbq fc1 (lt_of_cell c1)
            replace fc2 := frz_later hbq fc2 (lt_of_cell c2)
            replace fx0 := frz_later hbq fx0 (lt_of_cell x0)
            replace fx1 := frz_later hbq fx1 (lt_of_cell x1)
            replace fx2 := frz_later hbq fx2 (lt_of_cell x2)
            replace fx3 := frz_later hbq fx3 (lt_of_cell x3)
            replace fr0 := frz_later hbq fr0 (lt_of_cell r0)
            replace fr1 := frz_later hbq fr1 (lt_of_cell r1)
            replace fr2 := frz_later hbq fr2 (lt_of_cell r2)
            replace c0 := cell_later hbq c0
            replace c1 := cell_later hbq c1
            replace c2 := cell_later hbq c2
            replace x0 := cell_later hbq x0
            replace x1 := cell_later hbq x1
            replace x2 := cell_later hbq x2
            replace x3 := cell_later hbq x3
            replace r0 := cell_later hbq r0
            replace r1 := cell_later hbq r1
            replace r2 := cell_later hbq r2
            replace HBR := Lib.hid (Below.step HBR.out hbq)
            clear hbq
            generalize (wr).drewN nq = wz at *
            clear i0' i1'
            have hcut := putM_cut S x
            have RT := Lib.hid (sliced_take (m := cutM S x) encMs_ok (RW.out.later HBR.out) (by have := HCL.out; rw [HM.out] at this; exact this))
            have RD := Lib.hid (sliced_drop (m := cutM S x) encMs_ok (RW.out.later HBR.out) (by have := HCL.out; rw [HM.out] at this; exact this))
            rw [← HC.out] at RT RD hcut
            have HCUT := Lib.hid hcut
            have hlT := Lib.hid (show (S.take k).length ≤ 400000 by have h1 := List.length_take_le' k S; rw [HM.out] at h1; omega)
            have hlD := Lib.hid (show (S.drop k).length ≤ 400000 by rw [List.length_drop, HM.out]; omega)
            have hkMm : k ≤ M := by have := HCL.out; rw [HM.out] at this; have := HC.out; omega
            have hkC : k ≤ cap := by omega
            obtain ⟨vT, hvT⟩ : ∃ v, v = sliced (some ⟨b, off, none⟩) 0 k cap 4 := ⟨_, rfl⟩
            obtain ⟨vD, hvD⟩ : ∃ v, v = sliced (some ⟨b, off, none⟩) k M cap 4 := ⟨_, rfl⟩
            rw [← hvT] at RT
            rw [← hvD] at RD
            have HVT := Lib.hid hvT
            have HVD := Lib.hid hvD
            have HSW := Lib.hid HBR.out.size
            clear hvT hvD hcut
            go_wp2_with fail
            have hS0 : Below wz.heap.size wz wz.drew ∧ wz.drew.cell? ⟨bx, 1, none⟩ = some (.slice (some ⟨b, off, none⟩) M cap) ∧ wz.drew.cell? ⟨bx + 1, 0, none⟩ = some (.int .i64 x.1) ∧ wz.drew.cell? ⟨bx + 1, 1, none⟩ = some (.int .u64 x.2.1) ∧ wz.drew.cell? ⟨bx + 1, 2, none⟩ = some (.int .u32 x.2.2.1) ∧ wz.drew.cell? ⟨bx + 1, 3, none⟩ = some (.int .u32 x.2.2.2) := ⟨Below.drew (Below.refl _ _), cell_dr c1, cell_dr x0, cell_dr x1, cell_dr x2, cell_dr x3⟩
            refine startU [15] (fun w' => Below wz.heap.size wz w' ∧ w'.cell? ⟨bx, 1, none⟩ = some (.slice (some ⟨b, off, none⟩) M cap) ∧ w'.cell? ⟨bx + 1, 0, none⟩ = some (.int .i64 x.1) ∧ w'.cell? ⟨bx + 1, 1, none⟩ = some (.int .u64 x.2.1) ∧ w'.cell? ⟨bx + 1, 2, none⟩ = some (.int .u32 x.2.2.1) ∧ w'.cell? ⟨bx + 1, 3, none⟩ = some (.int .u32 x.2.2.2)) (by kernel_rfl) hS0 (fun hHeld => ?_)
            have hS00 : Below wz.heap.size wz wz ∧ wz.cell? ⟨bx, 1, none⟩ = some (.slice (some ⟨b, off, none⟩) M cap) ∧ wz.cell? ⟨bx + 1, 0, none⟩ = some (.int .i64 x.1) ∧ wz.cell? ⟨bx + 1, 1, none⟩ = some (.int .u64 x.2.1) ∧ wz.cell? ⟨bx + 1, 2, none⟩ = some (.int .u32 x.2.2.1) ∧ wz.cell? ⟨bx + 1, 3, none⟩ = some (.int .u32 x.2.2.2) := ⟨Below.refl _ _, c1, x0, x1, x2, x3⟩
            obtain ⟨wc1, hwc1⟩ : ∃ X, X = wz.drew := ⟨_, rfl⟩
            rw [← hwc1] at hHeld ⊢
            have hWc1 : Below wz.heap.size wz wc1 := by rw [hwc1]; exact (Below.refl _ _).drew
            clear hwc1
            refine takeUw (i := 1) (v := ?v1_2) rfl (by kernel_rfl) (fun _ _ _ h => h) (by rfl) ?hy1_2 (by assumption) ?rest1_2
            case hy1_2 => (intro w hSw; (try dsimp only at hSw); go_simp; try with_reducible rfl)
            try simp only [Act.put, List.setIfInBounds_toArray, List.set_cons_zero, List.set_cons_succ]
            refine takeUw (i := 2) (v := ?v2_3) rfl (by kernel_rfl) (fun _ _ _ h => h) (by rfl) ?hy2_3 (by assumption) ?rest2_3
            case hy2_3 => (intro w hSw; (try dsimp only at hSw); go_simp; try with_reducible rfl)
            try simp only [Act.put, List.setIfInBounds_toArray, List.set_cons_zero, List.set_cons_succ]
            refine takeUw (i := 3) (v := ?v3_4) rfl (by kernel_rfl) (fun _ _ _ h => h) (by rfl) ?hy3_4 (by assumption) ?rest3_4
            case hy3_4 => (intro w hSw; (try dsimp only at hSw); go_simp; try with_reducible rfl)
            try simp only [Act.put, List.setIfInBounds_toArray, List.set_cons_zero, List.set_cons_succ]
            refine takeUw (i := 4) (v := vT) rfl (by kernel_rfl) (fun _ _ _ h => h) (by rfl) (fun w _ => by rw [HVT.out]; exact run_take 66 (.tmp 52) (.tmp 53) rfl undRMembers sizeRMember rfl rfl hkC) (by assumption) ?_
            try simp only [Act.put, List.setIfInBounds_toArray, List.set_cons_zero, List.set_cons_succ]
            refine takeUw (i := 6) (v := ?v6_5) rfl (by kernel_rfl) (fun _ _ _ h => h) (by rfl) ?hy6_5 (by assumption) ?rest6_5
            case hy6_5 => (intro w hSw; (try dsimp only at hSw); go_simp; try with_reducible rfl)
            try simp only [Act.put, List.setIfInBounds_toArray, List.set_cons_zero, List.set_cons_succ]
            refine takeUw (i := 9) (v := ?v9_6) rfl (by kernel_rfl) (fun _ _ _ h => h) (by rfl) ?hy9_6 (by assumption) ?rest9_6
            case hy9_6 => (intro w hSw; (try dsimp only at hSw); go_simp; try with_reducible rfl)
            try simp only [Act.put, List.setIfInBounds_toArray, List.set_cons_zero, List.set_cons_succ]
            refine takeUw (i := 10) (v := ?v10_7) rfl (by kernel_rfl) (fun _ _ _ h => h) (by rfl) ?hy10_7 (by assumption) ?rest10_7
            case hy10_7 => (intro w hSw; (try dsimp only at hSw); go_simp; try with_reducible rfl)
            try simp only [Act.put, List.setIfInBounds_toArray, List.set_cons_zero, List.set_cons_succ]
            refine takeUw (i := 11) (v := ?v11_8) rfl (by kernel_rfl) (fun _ _ _ h => h) (by rfl) ?hy11_8 (by assumption) ?rest11_8
            case hy11_8 => (intro w hSw; (try dsimp only at hSw); go_simp; try with_reducible rfl)
            try simp only [Act.put, List.setIfInBounds_toArray, List.set_cons_zero, List.set_cons_succ]
            refine takeUw (i := 12) (v := vD) rfl (by kernel_rfl) (fun _ _ _ h => h) (by rfl) (fun w _ => by rw [HVD.out]; exact run_drop 66 (.tmp 60) (.tmp 61) rfl undRMembers sizeRMember rfl rfl hkMm) (by assumption) ?_
            try simp only [Act.put, List.setIfInBounds_toArray, List.set_cons_zero, List.set_cons_succ]
            refine readyU (rs := [0, 7]) (by kernel_rfl) (by simp) ?_
            refine consU rfl (fun K hK => ?_) (consU rfl (fun K hK => ?_) (nilU))
            · skip
              go_simp
              obtain ⟨w9, hw9⟩ : ∃ X, X = wc1.alloc (.cells #[] 106) := ⟨_, rfl⟩
              rw [← hw9]
              have hb9 : Below wc1.heap.size wc1 w9 := by rw [hw9]; exact below_a _ _
              have hW9 := Below.step hWc1 hb9
              have o0 : w9.ownsRow wz.heap.size 106 4 (.slice (some ⟨wc1.heap.size, 0, none⟩) 0 0) 0 [] := by rw [hw9]; exact World.ownsRow_lit _ #[] 0 hWc1.size (by unfold maxLen; omega) rfl
              clear hw9
              refine hK.out _ _ (held_5 hW9 hS00) (fun hHeld0 => ?_)
              clear hK K
              try simp only [Act.put, List.setIfInBounds_toArray, List.set_cons_zero, List.set_cons_succ]
              refine readyU (rs := [5, 7]) (by kernel_rfl) (by simp) ?_
              refine consU rfl (fun K hK => ?_) (consU rfl (fun K hK => ?_) (nilU))
              · skip
                refine stepF rfl (.tmp 50) (.tmp 54) 66 rfl wz.heap.size 106 i0 (.agg #[.int .i64 0, .int .u64 0, .int .u32 0, .int .u32 0]) 4 24 encMs_ok Try.underlying66 hi hz0 hz1 hz2 rfl _ rfl o0 _ _ rfl (RT.out.later hW9) (by have := hlT.out; unfold maxLen; omega) (by have := hlT.out; omega) hW9.size ?_
                intro v10 w10 o5 hb10 hp10
                have hW10 := Below.step hW9 hb10
                refine hK.out _ _ (held_5 hW10 hS00) (fun hHeld5 => ?_)
                clear hK K
                try simp only [Act.put, List.setIfInBounds_toArray, List.set_cons_zero, List.set_cons_succ]
                refine readyU (rs := [7]) (by kernel_rfl) (by simp) ?_
                refine consU rfl (fun K hK => ?_) (nilU)
                go_simp
                obtain ⟨w11, hw11⟩ : ∃ X, X = w10.alloc (.cells #[.int .i64 x.1, .int .u64 x.2.1, .int .u32 x.2.2.1, .int .u32 x.2.2.2] 106) := ⟨_, rfl⟩
                rw [← hw11]
                have hb11 : Below w10.heap.size w10 w11 := by rw [hw11]; exact below_a _ _
                have hW11 := Below.step hW10 hb11
                replace o5 := own_below o5 hb11
                have rx : RecsAt encMs w11 (.slice (some ⟨w10.heap.size, 0, none⟩) 1 1) [x] := by rw [hw11]; exact lit_recs encMs_ok _ [x] _ (by simp)
                clear hw11
                refine hK.out _ _ (held_5 hW11 hS00) (fun hHeld7 => ?_)
                clear hK K
                try simp only [Act.put, List.setIfInBounds_toArray, List.set_cons_zero, List.set_cons_succ]
                refine readyU (rs := [8]) (by kernel_rfl) (by simp) ?_
                refine consU rfl (fun K hK => ?_) (nilU)
                refine stepR rfl (.tmp 55) (.tmp 57) 66 rfl wz.heap.size 106 i0 (.agg #[.int .i64 0, .int .u64 0, .int .u32 0, .int .u32 0]) 4 24 encMs_ok Try.underlying66 hi hz0 hz1 hz2 rfl _ _ _ rfl o5 _ _ rfl (rx) (by have := hlT.out; simp; unfold maxLen; omega) (by have := hlT.out; simp; omega) hW11.size ?_
                intro v12 w12 o8 hg12 hp12 hn12
                have hW12 : Below wz.heap.size wz w12 := hW11.grown hg12 hW11.size (fun g hg => (o5.lt g hg).1)
                refine hK.out _ _ (held_5 hW12 hS00) (fun hHeld8 => ?_)
                clear hK K
                try simp only [Act.put, List.setIfInBounds_toArray, List.set_cons_zero, List.set_cons_succ]
                refine readyU (rs := [13]) (by kernel_rfl) (by simp) ?_
                refine consU rfl (fun K hK => ?_) (nilU)
                refine stepR rfl (.tmp 58) (.tmp 62) 66 rfl wz.heap.size 106 i0 (.agg #[.int .i64 0, .int .u64 0, .int .u32 0, .int .u32 0]) 4 24 encMs_ok Try.underlying66 hi hz0 hz1 hz2 rfl _ _ _ rfl o8 _ _ rfl (RD.out.later hW12) (by have := hlT.out; have := hlD.out; simp only [List.length_cons, List.length_nil]; unfold maxLen; omega) (by have := hlT.out; have := hlD.out; simp only [List.length_cons, List.length_nil]; omega) hW12.size ?_
                intro v13 w13 o13 hg13 hp13 hn13
                have hW13 : Below wz.heap.size wz w13 := hW12.grown hg13 hW12.size (fun g hg => (o8.lt g hg).1)
                refine hK.out _ _ (held_5 hW13 hS00) (fun hHeld13 => ?_)
                clear hK K
                try simp only [Act.put, List.setIfInBounds_toArray, List.set_cons_zero, List.set_cons_succ]
                refine takeUw (i := 14) (v := ?v14_14) rfl (by kernel_rfl) (fun _ _ _ h => h) (by rfl) ?hy14_14 (by assumption) ?rest14_14
                case hy14_14 => (intro w hSw; (try dsimp only at hSw); go_simp; try with_reducible rfl)
                try simp only [Act.put, List.setIfInBounds_toArray, List.set_cons_zero, List.set_cons_succ]
                refine readyU (rs := [15]) (by kernel_rfl) (by simp) ?_
                refine consV rfl (by kernel_rfl) (fun K hK => ?_) (nilU)
                obtain ⟨ga, gc, rfl⟩ := own_shapeM o13
                generalize hN : (S.take k).length + [x].length + (S.drop k).length = N at o13 ⊢
                have HN := Lib.hid hN
                clear hN
                replace fc0 := frz_later hW13 fc0 (lt_of_cell c0)
                replace fc1 := frz_later hW13 fc1 (lt_of_cell c1)
                replace fc2 := frz_later hW13 fc2 (lt_of_cell c2)
                replace fr0 := frz_later hW13 fr0 (lt_of_cell r0)
                replace fr1 := frz_later hW13 fr1 (lt_of_cell r1)
                replace fr2 := frz_later hW13 fr2 (lt_of_cell r2)
                replace c0 := cell_later hW13 c0
                replace c1 := cell_later hW13 c1
                replace c2 := cell_later hW13 c2
                replace r0 := cell_later hW13 r0
                replace r1 := cell_later hW13 r1
                replace r2 := cell_later hW13 r2
                go_simp
                refine hK.out _ _ ?_
                clear hK K
                try simp only [Act.put, List.setIfInBounds_toArray, List.set_cons_zero, List.set_cons_succ]
                refine doneU (by kernel_rfl) ?_ _
                have HB4 := Lib.hid (Below.step (Below.step HB0.out HBR.out) hW13)
                replace c0 : (w13.setCell ⟨bx, 1, none⟩ (.slice ga N gc)).cell? ⟨bx, 0, none⟩ = some (.int .i64 n) := cell_set_ne c0 (by simp)
                replace c1 : (w13.setCell ⟨bx, 1, none⟩ (.slice ga N gc)).cell? ⟨bx, 1, none⟩ = some (.slice ga N gc) := cell_set_eq c1
                replace c2 : (w13.setCell ⟨bx, 1, none⟩ (.slice ga N gc)).cell? ⟨bx, 2, none⟩ = some (.int .u64 fl) := cell_set_ne c2 (by simp)
                replace r0 : (w13.setCell ⟨bx, 1, none⟩ (.slice ga N gc)).cell? ⟨bx + 1 + 1, 0, none⟩ = some (.int .i64 0) := cell_set_ne r0 (by simp)
                replace r1 : (w13.setCell ⟨bx, 1, none⟩ (.slice ga N gc)).cell? ⟨bx + 1 + 1, 1, none⟩ = some (.slice none 0 0) := cell_set_ne r1 (by first | (simp; done) | (simp; omega) | omega)
                replace r2 : (w13.setCell ⟨bx, 1, none⟩ (.slice ga N gc)).cell? ⟨bx + 1 + 1, 2, none⟩ = some (.int .u64 0) := cell_set_ne r2 (by simp)
                replace fr0 : (w13.setCell ⟨bx, 1, none⟩ (.slice ga N gc)).frozen? ⟨bx + 1 + 1, 0, none⟩ = false := by rw [World.frozen?_setCell]; exact fr0
                replace fr1 : (w13.setCell ⟨bx, 1, none⟩ (.slice ga N gc)).frozen? ⟨bx + 1 + 1, 1, none⟩ = false := by rw [World.frozen?_setCell]; exact fr1
                replace fr2 : (w13.setCell ⟨bx, 1, none⟩ (.slice ga N gc)).frozen? ⟨bx + 1 + 1, 2, none⟩ = false := by rw [World.frozen?_setCell]; exact fr2
                have HNEW := Lib.hid (show NewM W0 w13 (.slice (some ⟨b, off, none⟩) M cap) S (.slice ga N gc) (putM S x) from fun F hF _ => own_heldR (L := putM S x) (F := F) encMs_ok o13 (by rw [HCUT.out, ← HN.out]; simp; omega) (by rw [HCUT.out, show S.take k ++ x :: S.drop k = (S.take k ++ [x]) ++ S.drop k by simp, flatR_app, flatR_app]) (fun b hb => by have := hF b hb; have := HSW.out; omega))
                have HLEN := Lib.hid (show N = (putM S x).length by rw [HCUT.out, ← HN.out]; simp; omega)
                obtain ⟨wq, hwq⟩ : ∃ wq, wq = (w13.setCell ⟨bx, 1, none⟩ (.slice ga N gc)) := ⟨_, rfl⟩
                rw [← hwq] at c0 c1 c2 r0 r1 r2 fr0 fr1 fr2 ⊢
                have HWQ := Lib.hid hwq
                clear hwq fc0 fc1 fc2 o13
                go_wp2_with fail
                refine bodyPost_ret (v := rqV n ga N gc fl) (by simp [results, Try.results60, go_sem, rqV, *]) rfl ?_
                have KF : Kept [bx, bx + 1, bx + 1 + 1] w13 (((wq.setCell ⟨bx + 1 + 1, 0, none⟩ (.int .i64 n)).setCell ⟨bx + 1 + 1, 1, none⟩ (.slice ga N gc)).setCell ⟨bx + 1 + 1, 2, none⟩ (.int .u64 fl)) := by
                  rw [HWQ.out]; exact ((((Kept.refl _ _).setCell (Or.inl (by simp)) _).setCell (Or.inl (by simp)) _).setCell (Or.inl (by simp)) _).setCell (Or.inl (by simp)) _
                rw [HLEN.out] at KF HNEW ⊢
                exact ⟨_, _, rfl, NewM.wrap HNEW.out HB0.out (fun b hb => by rw [HBX.out, HSZ.out]; exact in3 hb) KF, Kept.stepB HB4.out (Nat.le_refl _) KF (fun b hb => by rw [HBX.out]; exact (in3 hb).1)⟩
              · skip
                go_simp
                obtain ⟨w15, hw15⟩ : ∃ X, X = w9.alloc (.cells #[.int .i64 x.1, .int .u64 x.2.1, .int .u32 x.2.2.1, .int .u32 x.2.2.2] 106) := ⟨_, rfl⟩
                rw [← hw15]
                have hb15 : Below w9.heap.size w9 w15 := by rw [hw15]; exact below_a _ _
                have hW15 := Below.step hW9 hb15
                replace o0 := own_below o0 hb15
                have rx : RecsAt encMs w15 (.slice (some ⟨w9.heap.size, 0, none⟩) 1 1) [x] := by rw [hw15]; exact lit_recs encMs_ok _ [x] _ (by simp)
                clear hw15
                refine hK.out _ _ (held_5 hW15 hS00) (fun hHeld7 => ?_)
                clear hK K
                try simp only [Act.put, List.setIfInBounds_toArray, List.set_cons_zero, List.set_cons_succ]
                refine readyU (rs := [5]) (by kernel_rfl) (by simp) ?_
                refine consU rfl (fun K hK => ?_) (nilU)
                refine stepF rfl (.tmp 50) (.tmp 54) 66 rfl wz.heap.size 106 i0 (.agg #[.int .i64 0, .int .u64 0, .int .u32 0, .int .u32 0]) 4 24 encMs_ok Try.underlying66 hi hz0 hz1 hz2 rfl _ rfl o0 _ _ rfl (RT.out.later hW15) (by have := hlT.out; unfold maxLen; omega) (by have := hlT.out; omega) hW15.size ?_
                intro v16 w16 o5 hb16 hp16
                have hW16 := Below.step hW15 hb16
                replace rx := rx.later hb16
                refine hK.out _ _ (held_5 hW16 hS00) (fun hHeld5 => ?_)
                clear hK K
                try simp only [Act.put, List.setIfInBounds_toArray, List.set_cons_zero, List.set_cons_succ]
                refine readyU (rs := [8]) (by kernel_rfl) (by simp) ?_
                refine consU rfl (fun K hK => ?_) (nilU)
                refine stepR rfl (.tmp 55) (.tmp 57) 66 rfl wz.heap.size 106 i0 (.agg #[.int .i64 0, .int .u64 0, .int .u32 0, .int .u32 0]) 4 24 encMs_ok Try.underlying66 hi hz0 hz1 hz2 rfl _ _ _ rfl o5 _ _ rfl (rx) (by have := hlT.out; simp; unfold maxLen; omega) (by have := hlT.out; simp; omega) hW16.size ?_
                intro v17 w17 o8 hg17 hp17 hn17
                have hW17 : Below wz.heap.size wz w17 := hW16.grown hg17 hW16.size (fun g hg => (o5.lt g hg).1)
                refine hK.out _ _ (held_5 hW17 hS00) (fun hHeld8 => ?_)
                clear hK K
                try simp only [Act.put, List.setIfInBounds_toArray, List.set_cons_zero, List.set_cons_succ]
                refine readyU (rs := [13]) (by kernel_rfl) (by simp) ?_
                refine consU rfl (fun K hK => ?_) (nilU)
                refine stepR rfl (.tmp 58) (.tmp 62) 66 rfl wz.heap.size 106 i0 (.agg #[.int .i64 0, .int .u64 0, .int .u32 0, .int .u32 0]) 4 24 encMs_ok Try.underlying66 hi hz0 hz1 hz2 rfl _ _ _ rfl o8 _ _ rfl (RD.out.later hW17) (by have := hlT.out; have := hlD.out; simp only [List.length_cons, List.length_nil]; unfold maxLen; omega) (by have := hlT.out; have := hlD.out; simp only [List.length_cons, List.length_nil]; omega) hW17.size ?_
                intro v18 w18 o13 hg18 hp18 hn18
                have hW18 : Below wz.heap.size wz w18 := hW17.grown hg18 hW17.size (fun g hg => (o8.lt g hg).1)
                refine hK.out _ _ (held_5 hW18 hS00) (fun hHeld13 => ?_)
                clear hK K
                try simp only [Act.put, List.setIfInBounds_toArray, List.set_cons_zero, List.set_cons_succ]
                refine takeUw (i := 14) (v := ?v14_19) rfl (by kernel_rfl) (fun _ _ _ h => h) (by rfl) ?hy14_19 (by assumption) ?rest14_19
                case hy14_19 => (intro w hSw; (try dsimp only at hSw); go_simp; try with_reducible rfl)
                try simp only [Act.put, List.setIfInBounds_toArray, List.set_cons_zero, List.set_cons_succ]
                refine readyU (rs := [15]) (by kernel_rfl) (by simp) ?_
                refine consV rfl (by kernel_rfl) (fun K hK => ?_) (nilU)
                obtain ⟨ga, gc, rfl⟩ := own_shapeM o13
                generalize hN : (S.take k).length + [x].length + (S.drop k).length = N at o13 ⊢
                have HN := Lib.hid hN
                clear hN
                replace fc0 := frz_later hW18 fc0 (lt_of_cell c0)
                replace fc1 := frz_later hW18 fc1 (lt_of_cell c1)
                replace fc2 := frz_later hW18 fc2 (lt_of_cell c2)
                replace fr0 := frz_later hW18 fr0 (lt_of_cell r0)
                replace fr1 := frz_later hW18 fr1 (lt_of_cell r1)
                replace fr2 := frz_later hW18 fr2 (lt_of_cell r2)
                replace c0 := cell_later hW18 c0
                replace c1 := cell_later hW18 c1
                replace c2 := cell_later hW18 c2
                replace r0 := cell_later hW18 r0
                replace r1 := cell_later hW18 r1
                replace r2 := cell_later hW18 r2
                go_simp
                refine hK.out _ _ ?_
                clear hK K
                try simp only [Act.put, List.setIfInBounds_toArray, List.set_cons_zero, List.set_cons_succ]
                refine doneU (by kernel_rfl) ?_ _
                have HB4 := Lib.hid (Below.step (Below.step HB0.out HBR.out) hW18)
                replace c0 : (w18.setCell ⟨bx, 1, none⟩ (.slice ga N gc)).cell? ⟨bx, 0, none⟩ = some (.int .i64 n) := cell_set_ne c0 (by simp)
                replace c1 : (w18.setCell ⟨bx, 1, none⟩ (.slice ga N gc)).cell? ⟨bx, 1, none⟩ = some (.slice ga N gc) := cell_set_eq c1
                replace c2 : (w18.setCell ⟨bx, 1, none⟩ (.slice ga N gc)).cell? ⟨bx, 2, none⟩ = some (.int .u64 fl) := cell_set_ne c2 (by simp)
                replace r0 : (w18.setCell ⟨bx, 1, none⟩ (.slice ga N gc)).cell? ⟨bx + 1 + 1, 0, none⟩ = some (.int .i64 0) := cell_set_ne r0 (by simp)
                replace r1 : (w18.setCell ⟨bx, 1, none⟩ (.slice ga N gc)).cell? ⟨bx + 1 + 1, 1, none⟩ = some (.slice none 0 0) := cell_set_ne r1 (by first | (simp; done) | (simp; omega) | omega)
                replace r2 : (w18.setCell ⟨bx, 1, none⟩ (.slice ga N gc)).cell? ⟨bx + 1 + 1, 2, none⟩ = some (.int .u64 0) := cell_set_ne r2 (by simp)
                replace fr0 : (w18.setCell ⟨bx, 1, none⟩ (.slice ga N gc)).frozen? ⟨bx + 1 + 1, 0, none⟩ = false := by rw [World.frozen?_setCell]; exact fr0
                replace fr1 : (w18.setCell ⟨bx, 1, none⟩ (.slice ga N gc)).frozen? ⟨bx + 1 + 1, 1, none⟩ = false := by rw [World.frozen?_setCell]; exact fr1
                replace fr2 : (w18.setCell ⟨bx, 1, none⟩ (.slice ga N gc)).frozen? ⟨bx + 1 + 1, 2, none⟩ = false := by rw [World.frozen?_setCell]; exact fr2
                have HNEW := Lib.hid (show NewM W0 w18 (.slice (some ⟨b, off, none⟩) M cap) S (.slice ga N gc) (putM S x) from fun F hF _ => own_heldR (L := putM S x) (F := F) encMs_ok o13 (by rw [HCUT.out, ← HN.out]; simp; omega) (by rw [HCUT.out, show S.take k ++ x :: S.drop k = (S.take k ++ [x]) ++ S.drop k by simp, flatR_app, flatR_app]) (fun b hb => by have := hF b hb; have := HSW.out; omega))
                have HLEN := Lib.hid (show N = (putM S x).length by rw [HCUT.out, ← HN.out]; simp; omega)
                obtain ⟨wq, hwq⟩ : ∃ wq, wq = (w18.setCell ⟨bx, 1, none⟩ (.slice ga N gc)) := ⟨_, rfl⟩
                rw [← hwq] at c0 c1 c2 r0 r1 r2 fr0 fr1 fr2 ⊢
                have HWQ := Lib.hid hwq
                clear hwq fc0 fc1 fc2 o13
                go_wp2_with fail
                refine bodyPost_ret (v := rqV n ga N gc fl) (by simp [results, Try.results60, go_sem, rqV, *]) rfl ?_
                have KF : Kept [bx, bx + 1, bx + 1 + 1] w18 (((wq.setCell ⟨bx + 1 + 1, 0, none⟩ (.int .i64 n)).setCell ⟨bx + 1 + 1, 1, none⟩ (.slice ga N gc)).setCell ⟨bx + 1 + 1, 2, none⟩ (.int .u64 fl)) := by
                  rw [HWQ.out]; exact ((((Kept.refl _ _).setCell (Or.inl (by simp)) _).setCell (Or.inl (by simp)) _).setCell (Or.inl (by simp)) _).setCell (Or.inl (by simp)) _
                rw [HLEN.out] at KF HNEW ⊢
                exact ⟨_, _, rfl, NewM.wrap HNEW.out HB0.out (fun b hb => by rw [HBX.out, HSZ.out]; exact in3 hb) KF, Kept.stepB HB4.out (Nat.le_refl _) KF (fun b hb => by rw [HBX.out]; exact (in3 hb).1)⟩
            · skip
              go_simp
              obtain ⟨w20, hw20⟩ : ∃ X, X = wc1.alloc (.cells #[.int .i64 x.1, .int .u64 x.2.1, .int .u32 x.2.2.1, .int .u32 x.2.2.2] 106) := ⟨_, rfl⟩
              rw [← hw20]
              have hb20 : Below wc1.heap.size wc1 w20 := by rw [hw20]; exact below_a _ _
              have hW20 := Below.step hWc1 hb20
              have rx : RecsAt encMs w20 (.slice (some ⟨wc1.heap.size, 0, none⟩) 1 1) [x] := by rw [hw20]; exact lit_recs encMs_ok _ [x] _ (by simp)
              clear hw20
              refine hK.out _ _ (held_5 hW20 hS00) (fun hHeld7 => ?_)
              clear hK K
              try simp only [Act.put, List.setIfInBounds_toArray, List.set_cons_zero, List.set_cons_succ]
              refine readyU (rs := [0]) (by kernel_rfl) (by simp) ?_
              refine consU rfl (fun K hK => ?_) (nilU)
              go_simp
              obtain ⟨w21, hw21⟩ : ∃ X, X = w20.alloc (.cells #[] 106) := ⟨_, rfl⟩
              rw [← hw21]
              have hb21 : Below w20.heap.size w20 w21 := by rw [hw21]; exact below_a _ _
              have hW21 := Below.step hW20 hb21
              replace rx := rx.later hb21
              have o0 : w21.ownsRow wz.heap.size 106 4 (.slice (some ⟨w20.heap.size, 0, none⟩) 0 0) 0 [] := by rw [hw21]; exact World.ownsRow_lit _ #[] 0 hW20.size (by unfold maxLen; omega) rfl
              clear hw21
              refine hK.out _ _ (held_5 hW21 hS00) (fun hHeld0 => ?_)
              clear hK K
              try simp only [Act.put, List.setIfInBounds_toArray, List.set_cons_zero, List.set_cons_succ]
              refine readyU (rs := [5]) (by kernel_rfl) (by simp) ?_
              refine consU rfl (fun K hK => ?_) (nilU)
              refine stepF rfl (.tmp 50) (.tmp 54) 66 rfl wz.heap.size 106 i0 (.agg #[.int .i64 0, .int .u64 0, .int .u32 0, .int .u32 0]) 4 24 encMs_ok Try.underlying66 hi hz0 hz1 hz2 rfl _ rfl o0 _ _ rfl (RT.out.later hW21) (by have := hlT.out; unfold maxLen; omega) (by have := hlT.out; omega) hW21.size ?_
              intro v22 w22 o5 hb22 hp22
              have hW22 := Below.step hW21 hb22
              replace rx := rx.later hb22
              refine hK.out _ _ (held_5 hW22 hS00) (fun hHeld5 => ?_)
              clear hK K
              try simp only [Act.put, List.setIfInBounds_toArray, List.set_cons_zero, List.set_cons_succ]
              refine readyU (rs := [8]) (by kernel_rfl) (by simp) ?_
              refine consU rfl (fun K hK => ?_) (nilU)
              refine stepR rfl (.tmp 55) (.tmp 57) 66 rfl wz.heap.size 106 i0 (.agg #[.int .i64 0, .int .u64 0, .int .u32 0, .int .u32 0]) 4 24 encMs_ok Try.underlying66 hi hz0 hz1 hz2 rfl _ _ _ rfl o5 _ _ rfl (rx) (by have := hlT.out; simp; unfold maxLen; omega) (by have := hlT.out; simp; omega) hW22.size ?_
              intro v23 w23 o8 hg23 hp23 hn23
              have hW23 : Below wz.heap.size wz w23 := hW22.grown hg23 hW22.size (fun g hg => (o5.lt g hg).1)
              refine hK.out _ _ (held_5 hW23 hS00) (fun hHeld8 => ?_)
              clear hK K
              try simp only [Act.put, List.setIfInBounds_toArray, List.set_cons_zero, List.set_cons_succ]
              refine readyU (rs := [13]) (by kernel_rfl) (by simp) ?_
              refine consU rfl (fun K hK => ?_) (nilU)
              refine stepR rfl (.tmp 58) (.tmp 62) 66 rfl wz.heap.size 106 i0 (.agg #[.int .i64 0, .int .u64 0, .int .u32 0, .int .u32 0]) 4 24 encMs_ok Try.underlying66 hi hz0 hz1 hz2 rfl _ _ _ rfl o8 _ _ rfl (RD.out.later hW23) (by have := hlT.out; have := hlD.out; simp only [List.length_cons, List.length_nil]; unfold maxLen; omega) (by have := hlT.out; have := hlD.out; simp only [List.length_cons, List.length_nil]; omega) hW23.size ?_
              intro v24 w24 o13 hg24 hp24 hn24
              have hW24 : Below wz.heap.size wz w24 := hW23.grown hg24 hW23.size (fun g hg => (o8.lt g hg).1)
              refine hK.out _ _ (held_5 hW24 hS00) (fun hHeld13 => ?_)
              clear hK K
              try simp only [Act.put, List.setIfInBounds_toArray, List.set_cons_zero, List.set_cons_succ]
              refine takeUw (i := 14) (v := ?v14_25) rfl (by kernel_rfl) (fun _ _ _ h => h) (by rfl) ?hy14_25 (by assumption) ?rest14_25
              case hy14_25 => (intro w hSw; (try dsimp only at hSw); go_simp; try with_reducible rfl)
              try simp only [Act.put, List.setIfInBounds_toArray, List.set_cons_zero, List.set_cons_succ]
              refine readyU (rs := [15]) (by kernel_rfl) (by simp) ?_
              refine consV rfl (by kernel_rfl) (fun K hK => ?_) (nilU)
              obtain ⟨ga, gc, rfl⟩ := own_shapeM o13
              generalize hN : (S.take k).length + [x].length + (S.drop k).length = N at o13 ⊢
              have HN := Lib.hid hN
              clear hN
              replace fc0 := frz_later hW24 fc0 (lt_of_cell c0)
              replace fc1 := frz_later hW24 fc1 (lt_of_cell c1)
              replace fc2 := frz_later hW24 fc2 (lt_of_cell c2)
              replace fr0 := frz_later hW24 fr0 (lt_of_cell r0)
              replace fr1 := frz_later hW24 fr1 (lt_of_cell r1)
              replace fr2 := frz_later hW24 fr2 (lt_of_cell r2)
              replace c0 := cell_later hW24 c0
              replace c1 := cell_later hW24 c1
              replace c2 := cell_later hW24 c2
              replace r0 := cell_later hW24 r0
              replace r1 := cell_later hW24 r1
              replace r2 := cell_later hW24 r2
              go_simp
              refine hK.out _ _ ?_
              clear hK K
              try simp only [Act.put, List.setIfInBounds_toArray, List.set_cons_zero, List.set_cons_succ]
              refine doneU (by kernel_rfl) ?_ _
              have HB4 := Lib.hid (Below.step (Below.step HB0.out HBR.out) hW24)
              replace c0 : (w24.setCell ⟨bx, 1, none⟩ (.slice ga N gc)).cell? ⟨bx, 0, none⟩ = some (.int .i64 n) := cell_set_ne c0 (by simp)
              replace c1 : (w24.setCell ⟨bx, 1, none⟩ (.slice ga N gc)).cell? ⟨bx, 1, none⟩ = some (.slice ga N gc) := cell_set_eq c1
              replace c2 : (w24.setCell ⟨bx, 1, none⟩ (.slice ga N gc)).cell? ⟨bx, 2, none⟩ = some (.int .u64 fl) := cell_set_ne c2 (by simp)
              replace r0 : (w24.setCell ⟨bx, 1, none⟩ (.slice ga N gc)).cell? ⟨bx + 1 + 1, 0, none⟩ = some (.int .i64 0) := cell_set_ne r0 (by simp)
              replace r1 : (w24.setCell ⟨bx, 1, none⟩ (.slice ga N gc)).cell? ⟨bx + 1 + 1, 1, none⟩ = some (.slice none 0 0) := cell_set_ne r1 (by first | (simp; done) | (simp; omega) | omega)
              replace r2 : (w24.setCell ⟨bx, 1, none⟩ (.slice ga N gc)).cell? ⟨bx + 1 + 1, 2, none⟩ = some (.int .u64 0) := cell_set_ne r2 (by simp)
              replace fr0 : (w24.setCell ⟨bx, 1, none⟩ (.slice ga N gc)).frozen? ⟨bx + 1 + 1, 0, none⟩ = false := by rw [World.frozen?_setCell]; exact fr0
              replace fr1 : (w24.setCell ⟨bx, 1, none⟩ (.slice ga N gc)).frozen? ⟨bx + 1 + 1, 1, none⟩ = false := by rw [World.frozen?_setCell]; exact fr1
              replace fr2 : (w24.setCell ⟨bx, 1, none⟩ (.slice ga N gc)).frozen? ⟨bx + 1 + 1, 2, none⟩ = false := by rw [World.frozen?_setCell]; exact fr2
              have HNEW := Lib.hid (show NewM W0 w24 (.slice (some ⟨b, off, none⟩) M cap) S (.slice ga N gc) (putM S x) from fun F hF _ => own_heldR (L := putM S x) (F := F) encMs_ok o13 (by rw [HCUT.out, ← HN.out]; simp; omega) (by rw [HCUT.out, show S.take k ++ x :: S.drop k = (S.take k ++ [x]) ++ S.drop k by simp, flatR_app, flatR_app]) (fun b hb => by have := hF b hb; have := HSW.out; omega))
              have HLEN := Lib.hid (show N = (putM S x).length by rw [HCUT.out, ← HN.out]; simp; omega)
              obtain ⟨wq, hwq⟩ : ∃ wq, wq = (w24.setCell ⟨bx, 1, none⟩ (.slice ga N gc)) := ⟨_, rfl⟩
              rw [← hwq] at c0 c1 c2 r0 r1 r2 fr0 fr1 fr2 ⊢
              have HWQ := Lib.hid hwq
              clear hwq fc0 fc1 fc2 o13
              go_wp2_with fail
              refine bodyPost_ret (v := rqV n ga N gc fl) (by simp [results, Try.results60, go_sem, rqV, *]) rfl ?_
              have KF : Kept [bx, bx + 1, bx + 1 + 1] w24 (((wq.setCell ⟨bx + 1 + 1, 0, none⟩ (.int .i64 n)).setCell ⟨bx + 1 + 1, 1, none⟩ (.slice ga N gc)).setCell ⟨bx + 1 + 1, 2, none⟩ (.int .u64 fl)) := by
                rw [HWQ.out]; exact ((((Kept.refl _ _).setCell (Or.inl (by simp)) _).setCell (Or.inl (by simp)) _).setCell (Or.inl (by simp)) _).setCell (Or.inl (by simp)) _
              rw [HLEN.out] at KF HNEW ⊢
              exact ⟨_, _, rfl, NewM.wrap HNEW.out HB0.out (fun b hb => by rw [HBX.out, HSZ.out]; exact in3 hb) KF, Kept.stepB HB4.out (Nat.le_refl _) KF (fun b hb => by rw [HBX.out]; exact (in3 hb).1)⟩
          · have d2 : (y.2.1 == x.2.1) = false := by simpa using hv3
            clear hbb hv hv2 hv3 hk hcl
            go_quiet (fail)
            have hbq : Below (wr).heap.size (wr) ((wr).drewN nq) := below_drewN (Below.refl _ _) _
            replace fc0 := frz_later hbq fc0 (lt_of_cell c0)
            replace fc1 := frz_later hbq fc1 (lt_of_cell c1)
            replace fc2 := frz_later hbq fc2 (lt_of_cell c2)
            replace fx0 := frz_later hbq fx0 (lt_of_cell x0)
            replace fx1 := frz_later hbq fx1 (lt_of_cell x1)
            replace fx2 := frz_later hbq fx2 (lt_of_cell x2)
            replace fx3 := frz_later hbq fx3 (lt_of_cell x3)
            replace fr0 := frz_later hbq fr0 (lt_of_cell r0)
            replace fr1 := frz_later hbq fr1 (lt_of_cell r1)
            replace fr2 := frz_later hbq fr2 (lt_of_cell r2)
            replace c0 := cell_later hbq c0
            replace c1 := cell_later hbq c1
            replace c2 := cell_later hbq c2
            replace x0 := cell_later hbq x0
            replace x1 := cell_later hbq x1
            replace x2 := cell_later hbq x2
            replace x3 := cell_later hbq x3
            replace r0 := cell_later hbq r0
            replace r1 := cell_later hbq r1
            replace r2 := cell_later hbq r2
            replace HBR := Lib.hid (Below.step HBR.out hbq)
            clear hbq
            generalize (wr).drewN nq = wz at *
            clear i0' i1'
            have hcut := putM_cut S x
            have RT := Lib.hid (sliced_take (m := cutM S x) encMs_ok (RW.out.later HBR.out) (by have := HCL.out; rw [HM.out] at this; exact this))
            have RD := Lib.hid (sliced_drop (m := cutM S x) encMs_ok (RW.out.later HBR.out) (by have := HCL.out; rw [HM.out] at this; exact this))
            rw [← HC.out] at RT RD hcut
            have HCUT := Lib.hid hcut
            have hlT := Lib.hid (show (S.take k).length ≤ 400000 by have h1 := List.length_take_le' k S; rw [HM.out] at h1; omega)
            have hlD := Lib.hid (show (S.drop k).length ≤ 400000 by rw [List.length_drop, HM.out]; omega)
            have hkMm : k ≤ M := by have := HCL.out; rw [HM.out] at this; have := HC.out; omega
            have hkC : k ≤ cap := by omega
            obtain ⟨vT, hvT⟩ : ∃ v, v = sliced (some ⟨b, off, none⟩) 0 k cap 4 := ⟨_, rfl⟩
            obtain ⟨vD, hvD⟩ : ∃ v, v = sliced (some ⟨b, off, none⟩) k M cap 4 := ⟨_, rfl⟩
            rw [← hvT] at RT
            rw [← hvD] at RD
            have HVT := Lib.hid hvT
            have HVD := Lib.hid hvD
            have HSW := Lib.hid HBR.out.size
            clear hvT hvD hcut
            go_wp2_with fail
            have hS0 : Below wz.heap.size wz wz.drew ∧ wz.drew.cell? ⟨bx, 1, none⟩ = some (.slice (some ⟨b, off, none⟩) M cap) ∧ wz.drew.cell? ⟨bx + 1, 0, none⟩ = some (.int .i64 x.1) ∧ wz.drew.cell? ⟨bx + 1, 1, none⟩ = some (.int .u64 x.2.1) ∧ wz.drew.cell? ⟨bx + 1, 2, none⟩ = some (.int .u32 x.2.2.1) ∧ wz.drew.cell? ⟨bx + 1, 3, none⟩ = some (.int .u32 x.2.2.2) := ⟨Below.drew (Below.refl _ _), cell_dr c1, cell_dr x0, cell_dr x1, cell_dr x2, cell_dr x3⟩
            refine startU [15] (fun w' => Below wz.heap.size wz w' ∧ w'.cell? ⟨bx, 1, none⟩ = some (.slice (some ⟨b, off, none⟩) M cap) ∧ w'.cell? ⟨bx + 1, 0, none⟩ = some (.int .i64 x.1) ∧ w'.cell? ⟨bx + 1, 1, none⟩ = some (.int .u64 x.2.1) ∧ w'.cell? ⟨bx + 1, 2, none⟩ = some (.int .u32 x.2.2.1) ∧ w'.cell? ⟨bx + 1, 3, none⟩ = some (.int .u32 x.2.2.2)) (by kernel_rfl) hS0 (fun hHeld => ?_)
            have hS00 : Below wz.heap.size wz wz ∧ wz.cell? ⟨bx, 1, none⟩ = some (.slice (some ⟨b, off, none⟩) M cap) ∧ wz.cell? ⟨bx + 1, 0, none⟩ = some (.int .i64 x.1) ∧ wz.cell? ⟨bx + 1, 1, none⟩ = some (.int .u64 x.2.1) ∧ wz.cell? ⟨bx + 1, 2, none⟩ = some (.int .u32 x.2.2.1) ∧ wz.cell? ⟨bx + 1, 3, none⟩ = some (.int .u32 x.2.2.2) := ⟨Below.refl _ _, c1, x0, x1, x2, x3⟩
            obtain ⟨wc26, hwc26⟩ : ∃ X, X = wz.drew := ⟨_, rfl⟩
            rw [← hwc26] at hHeld ⊢
            have hWc26 : Below wz.heap.size wz wc26 := by rw [hwc26]; exact (Below.refl _ _).drew
            clear hwc26
            refine takeUw (i := 1) (v := ?v1_27) rfl (by kernel_rfl) (fun _ _ _ h => h) (by rfl) ?hy1_27 (by assumption) ?rest1_27
            case hy1_27 => (intro w hSw; (try dsimp only at hSw); go_simp; try with_reducible rfl)
            try simp only [Act.put, List.setIfInBounds_toArray, List.set_cons_zero, List.set_cons_succ]
            refine takeUw (i := 2) (v := ?v2_28) rfl (by kernel_rfl) (fun _ _ _ h => h) (by rfl) ?hy2_28 (by assumption) ?rest2_28
            case hy2_28 => (intro w hSw; (try dsimp only at hSw); go_simp; try with_reducible rfl)
            try simp only [Act.put, List.setIfInBounds_toArray, List.set_cons_zero, List.set_cons_succ]
            refine takeUw (i := 3) (v := ?v3_29) rfl (by kernel_rfl) (fun _ _ _ h => h) (by rfl) ?hy3_29 (by assumption) ?rest3_29
            case hy3_29 => (intro w hSw; (try dsimp only at hSw); go_simp; try with_reducible rfl)
            try simp only [Act.put, List.setIfInBounds_toArray, List.set_cons_zero, List.set_cons_succ]
            refine takeUw (i := 4) (v := vT) rfl (by kernel_rfl) (fun _ _ _ h => h) (by rfl) (fun w _ => by rw [HVT.out]; exact run_take 66 (.tmp 52) (.tmp 53) rfl undRMembers sizeRMember rfl rfl hkC) (by assumption) ?_
            try simp only [Act.put, List.setIfInBounds_toArray, List.set_cons_zero, List.set_cons_succ]
            refine takeUw (i := 6) (v := ?v6_30) rfl (by kernel_rfl) (fun _ _ _ h => h) (by rfl) ?hy6_30 (by assumption) ?rest6_30
            case hy6_30 => (intro w hSw; (try dsimp only at hSw); go_simp; try with_reducible rfl)
            try simp only [Act.put, List.setIfInBounds_toArray, List.set_cons_zero, List.set_cons_succ]
            refine takeUw (i := 9) (v := ?v9_31) rfl (by kernel_rfl) (fun _ _ _ h => h) (by rfl) ?hy9_31 (by assumption) ?rest9_31
            case hy9_31 => (intro w hSw; (try dsimp only at hSw); go_simp; try with_reducible rfl)
            try simp only [Act.put, List.setIfInBounds_toArray, List.set_cons_zero, List.set_cons_succ]
            refine takeUw (i := 10) (v := ?v10_32) rfl (by kernel_rfl) (fun _ _ _ h => h) (by rfl) ?hy10_32 (by assumption) ?rest10_32
            case hy10_32 => (intro w hSw; (try dsimp only at hSw); go_simp; try with_reducible rfl)
            try simp only [Act.put, List.setIfInBounds_toArray, List.set_cons_zero, List.set_cons_succ]
            refine takeUw (i := 11) (v := ?v11_33) rfl (by kernel_rfl) (fun _ _ _ h => h) (by rfl) ?hy11_33 (by assumption) ?rest11_33
            case hy11_33 => (intro w hSw; (try dsimp only at hSw); go_simp; try with_reducible rfl)
            try simp only [Act.put, List.setIfInBounds_toArray, List.set_cons_zero, List.set_cons_succ]
            refine takeUw (i := 12) (v := vD) rfl (by kernel_rfl) (fun _ _ _ h => h) (by rfl) (fun w _ => by rw [HVD.out]; exact run_drop 66 (.tmp 60) (.tmp 61) rfl undRMembers sizeRMember rfl rfl hkMm) (by assumption) ?_
            try simp only [Act.put, List.setIfInBounds_toArray, List.set_cons_zero, List.set_cons_succ]
            refine readyU (rs := [0, 7]) (by kernel_rfl) (by simp) ?_
            refine consU rfl (fun K hK => ?_) (consU rfl (fun K hK => ?_) (nilU))
            · skip
              go_simp
              obtain ⟨w34, hw34⟩ : ∃ X, X = wc26.alloc (.cells #[] 106) := ⟨_, rfl⟩
              rw [← hw34]
              have hb34 : Below wc26.heap.size wc26 w34 := by rw [hw34]; exact below_a _ _
              have hW34 := Below.step hWc26 hb34
              have o0 : w34.ownsRow wz.heap.size 106 4 (.slice (some ⟨wc26.heap.size, 0, none⟩) 0 0) 0 [] := by rw [hw34]; exact World.ownsRow_lit _ #[] 0 hWc26.size (by unfold maxLen; omega) rfl
              clear hw34
              refine hK.out _ _ (held_5 hW34 hS00) (fun hHeld0 => ?_)
              clear hK K
              try simp only [Act.put, List.setIfInBounds_toArray, List.set_cons_zero, List.set_cons_succ]
              refine readyU (rs := [5, 7]) (by kernel_rfl) (by simp) ?_
              refine consU rfl (fun K hK => ?_) (consU rfl (fun K hK => ?_) (nilU))
              · skip
                refine stepF rfl (.tmp 50) (.tmp 54) 66 rfl wz.heap.size 106 i0 (.agg #[.int .i64 0, .int .u64 0, .int .u32 0, .int .u32 0]) 4 24 encMs_ok Try.underlying66 hi hz0 hz1 hz2 rfl _ rfl o0 _ _ rfl (RT.out.later hW34) (by have := hlT.out; unfold maxLen; omega) (by have := hlT.out; omega) hW34.size ?_
                intro v35 w35 o5 hb35 hp35
                have hW35 := Below.step hW34 hb35
                refine hK.out _ _ (held_5 hW35 hS00) (fun hHeld5 => ?_)
                clear hK K
                try simp only [Act.put, List.setIfInBounds_toArray, List.set_cons_zero, List.set_cons_succ]
                refine readyU (rs := [7]) (by kernel_rfl) (by simp) ?_
                refine consU rfl (fun K hK => ?_) (nilU)
                go_simp
                obtain ⟨w36, hw36⟩ : ∃ X, X = w35.alloc (.cells #[.int .i64 x.1, .int .u64 x.2.1, .int .u32 x.2.2.1, .int .u32 x.2.2.2] 106) := ⟨_, rfl⟩
                rw [← hw36]
                have hb36 : Below w35.heap.size w35 w36 := by rw [hw36]; exact below_a _ _
                have hW36 := Below.step hW35 hb36
                replace o5 := own_below o5 hb36
                have rx : RecsAt encMs w36 (.slice (some ⟨w35.heap.size, 0, none⟩) 1 1) [x] := by rw [hw36]; exact lit_recs encMs_ok _ [x] _ (by simp)
                clear hw36
                refine hK.out _ _ (held_5 hW36 hS00) (fun hHeld7 => ?_)
                clear hK K
                try simp only [Act.put, List.setIfInBounds_toArray, List.set_cons_zero, List.set_cons_succ]
                refine readyU (rs := [8]) (by kernel_rfl) (by simp) ?_
                refine consU rfl (fun K hK => ?_) (nilU)
                refine stepR rfl (.tmp 55) (.tmp 57) 66 rfl wz.heap.size 106 i0 (.agg #[.int .i64 0, .int .u64 0, .int .u32 0, .int .u32 0]) 4 24 encMs_ok Try.underlying66 hi hz0 hz1 hz2 rfl _ _ _ rfl o5 _ _ rfl (rx) (by have := hlT.out; simp; unfold maxLen; omega) (by have := hlT.out; simp; omega) hW36.size ?_
                intro v37 w37 o8 hg37 hp37 hn37
                have hW37 : Below wz.heap.size wz w37 := hW36.grown hg37 hW36.size (fun g hg => (o5.lt g hg).1)
                refine hK.out _ _ (held_5 hW37 hS00) (fun hHeld8 => ?_)
                clear hK K
                try simp only [Act.put, List.setIfInBounds_toArray, List.set_cons_zero, List.set_cons_succ]
                refine readyU (rs := [13]) (by kernel_rfl) (by simp) ?_
                refine consU rfl (fun K hK => ?_) (nilU)
                refine stepR rfl (.tmp 58) (.tmp 62) 66 rfl wz.heap.size 106 i0 (.agg #[.int .i64 0, .int .u64 0, .int .u32 0, .int .u32 0]) 4 24 encMs_ok Try.underlying66 hi hz0 hz1 hz2 rfl _ _ _ rfl o8 _ _ rfl (RD.out.later hW37) (by have := hlT.out; have := hlD.out; simp only [List.length_cons, List.length_nil]; unfold maxLen; omega) (by have := hlT.out; have := hlD.out; simp only [List.length_cons, List.length_nil]; omega) hW37.size ?_
                intro v38 w38 o13 hg38 hp38 hn38
                have hW38 : Below wz.heap.size wz w38 := hW37.grown hg38 hW37.size (fun g hg => (o8.lt g hg).1)
                refine hK.out _ _ (held_5 hW38 hS00) (fun hHeld13 => ?_)
                clear hK K
                try simp only [Act.put, List.setIfInBounds_toArray, List.set_cons_zero, List.set_cons_succ]
                refine takeUw (i := 14) (v := ?v14_39) rfl (by kernel_rfl) (fun _ _ _ h => h) (by rfl) ?hy14_39 (by assumption) ?rest14_39
                case hy14_39 => (intro w hSw; (try dsimp only at hSw); go_simp; try with_reducible rfl)
                try simp only [Act.put, List.setIfInBounds_toArray, List.set_cons_zero, List.set_cons_succ]
                refine readyU (rs := [15]) (by kernel_rfl) (by simp) ?_
                refine consV rfl (by kernel_rfl) (fun K hK => ?_) (nilU)
                obtain ⟨ga, gc, rfl⟩ := own_shapeM o13
                generalize hN : (S.take k).length + [x].length + (S.drop k).length = N at o13 ⊢
                have HN := Lib.hid hN
                clear hN
                replace fc0 := frz_later hW38 fc0 (lt_of_cell c0)
                replace fc1 := frz_later hW38 fc1 (lt_of_cell c1)
                replace fc2 := frz_later hW38 fc2 (lt_of_cell c2)
                replace fr0 := frz_later hW38 fr0 (lt_of_cell r0)
                replace fr1 := frz_later hW38 fr1 (lt_of_cell r1)
                replace fr2 := frz_later hW38 fr2 (lt_of_cell r2)
                replace c0 := cell_later hW38 c0
                replace c1 := cell_later hW38 c1
                replace c2 := cell_later hW38 c2
                replace r0 := cell_later hW38 r0
                replace r1 := cell_later hW38 r1
                replace r2 := cell_later hW38 r2
                go_simp
                refine hK.out _ _ ?_
                clear hK K
                try simp only [Act.put, List.setIfInBounds_toArray, List.set_cons_zero, List.set_cons_succ]
                refine doneU (by kernel_rfl) ?_ _
                have HB4 := Lib.hid (Below.step (Below.step HB0.out HBR.out) hW38)
                replace c0 : (w38.setCell ⟨bx, 1, none⟩ (.slice ga N gc)).cell? ⟨bx, 0, none⟩ = some (.int .i64 n) := cell_set_ne c0 (by simp)
                replace c1 : (w38.setCell ⟨bx, 1, none⟩ (.slice ga N gc)).cell? ⟨bx, 1, none⟩ = some (.slice ga N gc) := cell_set_eq c1
                replace c2 : (w38.setCell ⟨bx, 1, none⟩ (.slice ga N gc)).cell? ⟨bx, 2, none⟩ = some (.int .u64 fl) := cell_set_ne c2 (by simp)
                replace r0 : (w38.setCell ⟨bx, 1, none⟩ (.slice ga N gc)).cell? ⟨bx + 1 + 1, 0, none⟩ = some (.int .i64 0) := cell_set_ne r0 (by simp)
                replace r1 : (w38.setCell ⟨bx, 1, none⟩ (.slice ga N gc)).cell? ⟨bx + 1 + 1, 1, none⟩ = some (.slice none 0 0) := cell_set_ne r1 (by first | (simp; done) | (simp; omega) | omega)
                replace r2 : (w38.setCell ⟨bx, 1, none⟩ (.slice ga N gc)).cell? ⟨bx + 1 + 1, 2, none⟩ = some (.int .u64 0) := cell_set_ne r2 (by simp)
                replace fr0 : (w38.setCell ⟨bx, 1, none⟩ (.slice ga N gc)).frozen? ⟨bx + 1 + 1, 0, none⟩ = false := by rw [World.frozen?_setCell]; exact fr0
                replace fr1 : (w38.setCell ⟨bx, 1, none⟩ (.slice ga N gc)).frozen? ⟨bx + 1 + 1, 1, none⟩ = false := by rw [World.frozen?_setCell]; exact fr1
                replace fr2 : (w38.setCell ⟨bx, 1, none⟩ (.slice ga N gc)).frozen? ⟨bx + 1 + 1, 2, none⟩ = false := by rw [World.frozen?_setCell]; exact fr2
                have HNEW := Lib.hid (show NewM W0 w38 (.slice (some ⟨b, off, none⟩) M cap) S (.slice ga N gc) (putM S x) from fun F hF _ => own_heldR (L := putM S x) (F := F) encMs_ok o13 (by rw [HCUT.out, ← HN.out]; simp; omega) (by rw [HCUT.out, show S.take k ++ x :: S.drop k = (S.take k ++ [x]) ++ S.drop k by simp, flatR_app, flatR_app]) (fun b hb => by have := hF b hb; have := HSW.out; omega))
                have HLEN := Lib.hid (show N = (putM S x).length by rw [HCUT.out, ← HN.out]; simp; omega)
                obtain ⟨wq, hwq⟩ : ∃ wq, wq = (w38.setCell ⟨bx, 1, none⟩ (.slice ga N gc)) := ⟨_, rfl⟩
                rw [← hwq] at c0 c1 c2 r0 r1 r2 fr0 fr1 fr2 ⊢
                have HWQ := Lib.hid hwq
                clear hwq fc0 fc1 fc2 o13
                go_wp2_with fail
                refine bodyPost_ret (v := rqV n ga N gc fl) (by simp [results, Try.results60, go_sem, rqV, *]) rfl ?_
                have KF : Kept [bx, bx + 1, bx + 1 + 1] w38 (((wq.setCell ⟨bx + 1 + 1, 0, none⟩ (.int .i64 n)).setCell ⟨bx + 1 + 1, 1, none⟩ (.slice ga N gc)).setCell ⟨bx + 1 + 1, 2, none⟩ (.int .u64 fl)) := by
                  rw [HWQ.out]; exact ((((Kept.refl _ _).setCell (Or.inl (by simp)) _).setCell (Or.inl (by simp)) _).setCell (Or.inl (by simp)) _).setCell (Or.inl (by simp)) _
                rw [HLEN.out] at KF HNEW ⊢
                exact ⟨_, _, rfl, NewM.wrap HNEW.out HB0.out (fun b hb => by rw [HBX.out, HSZ.out]; exact in3 hb) KF, Kept.stepB HB4.out (Nat.le_refl _) KF (fun b hb => by rw [HBX.out]; exact (in3 hb).1)⟩
              · skip
                go_simp
                obtain ⟨w40, hw40⟩ : ∃ X, X = w34.alloc (.cells #[.int .i64 x.1, .int .u64 x.2.1, .int .u32 x.2.2.1, .int .u32 x.2.2.2] 106) := ⟨_, rfl⟩
                rw [← hw40]
                have hb40 : Below w34.heap.size w34 w40 := by rw [hw40]; exact below_a _ _
                have hW40 := Below.step hW34 hb40
                replace o0 := own_below o0 hb40
                have rx : RecsAt encMs w40 (.slice (some ⟨w34.heap.size, 0, none⟩) 1 1) [x] := by rw [hw40]; exact lit_recs encMs_ok _ [x] _ (by simp)
                clear hw40
                refine hK.out _ _ (held_5 hW40 hS00) (fun hHeld7 => ?_)
                clear hK K
                try simp only [Act.put, List.setIfInBounds_toArray, List.set_cons_zero, List.set_cons_succ]
                refine readyU (rs := [5]) (by kernel_rfl) (by simp) ?_
                refine consU rfl (fun K hK => ?_) (nilU)
                refine stepF rfl (.tmp 50) (.tmp 54) 66 rfl wz.heap.size 106 i0 (.agg #[.int .i64 0, .int .u64 0, .int .u32 0, .int .u32 0]) 4 24 encMs_ok Try.underlying66 hi hz0 hz1 hz2 rfl _ rfl o0 _ _ rfl (RT.out.later hW40) (by have := hlT.out; unfold maxLen; omega) (by have := hlT.out; omega) hW40.size ?_
                intro v41 w41 o5 hb41 hp41
                have hW41 := Below.step hW40 hb41
                replace rx := rx.later hb41
                refine hK.out _ _ (held_5 hW41 hS00) (fun hHeld5 => ?_)
                clear hK K
                try simp only [Act.put, List.setIfInBounds_toArray, List.set_cons_zero, List.set_cons_succ]
                refine readyU (rs := [8]) (by kernel_rfl) (by simp) ?_
                refine consU rfl (fun K hK => ?_) (nilU)
                refine stepR rfl (.tmp 55) (.tmp 57) 66 rfl wz.heap.size 106 i0 (.agg #[.int .i64 0, .int .u64 0, .int .u32 0, .int .u32 0]) 4 24 encMs_ok Try.underlying66 hi hz0 hz1 hz2 rfl _ _ _ rfl o5 _ _ rfl (rx) (by have := hlT.out; simp; unfold maxLen; omega) (by have := hlT.out; simp; omega) hW41.size ?_
                intro v42 w42 o8 hg42 hp42 hn42
                have hW42 : Below wz.heap.size wz w42 := hW41.grown hg42 hW41.size (fun g hg => (o5.lt g hg).1)
                refine hK.out _ _ (held_5 hW42 hS00) (fun hHeld8 => ?_)
                clear hK K
                try simp only [Act.put, List.setIfInBounds_toArray, List.set_cons_zero, List.set_cons_succ]
                refine readyU (rs := [13]) (by kernel_rfl) (by simp) ?_
                refine consU rfl (fun K hK => ?_) (nilU)
                refine stepR rfl (.tmp 58) (.tmp 62) 66 rfl wz.heap.size 106 i0 (.agg #[.int .i64 0, .int .u64 0, .int .u32 0, .int .u32 0]) 4 24 encMs_ok Try.underlying66 hi hz0 hz1 hz2 rfl _ _ _ rfl o8 _ _ rfl (RD.out.later hW42) (by have := hlT.out; have := hlD.out; simp only [List.length_cons, List.length_nil]; unfold maxLen; omega) (by have := hlT.out; have := hlD.out; simp only [List.length_cons, List.length_nil]; omega) hW42.size ?_
                intro v43 w43 o13 hg43 hp43 hn43
                have hW43 : Below wz.heap.size wz w43 := hW42.grown hg43 hW42.size (fun g hg => (o8.lt g hg).1)
                refine hK.out _ _ (held_5 hW43 hS00) (fun hHeld13 => ?_)
                clear hK K
                try simp only [Act.put, List.setIfInBounds_toArray, List.set_cons_zero, List.set_cons_succ]
                refine takeUw (i := 14) (v := ?v14_44) rfl (by kernel_rfl) (fun _ _ _ h => h) (by rfl) ?hy14_44 (by assumption) ?rest14_44
                case hy14_44 => (intro w hSw; (try dsimp only at hSw); go_simp; try with_reducible rfl)
                try simp only [Act.put, List.setIfInBounds_toArray, List.set_cons_zero, List.set_cons_succ]
                refine readyU (rs := [15]) (by kernel_rfl) (by simp) ?_
                refine consV rfl (by kernel_rfl) (fun K hK => ?_) (nilU)
                obtain ⟨ga, gc, rfl⟩ := own_shapeM o13
                generalize hN : (S.take k).length + [x].length + (S.drop k).length = N at o13 ⊢
                have HN := Lib.hid hN
                clear hN
                replace fc0 := frz_later hW43 fc0 (lt_of_cell c0)
                replace fc1 := frz_later hW43 fc1 (lt_of_cell c1)
                replace fc2 := frz_later hW43 fc2 (lt_of_cell c2)
                replace fr0 := frz_later hW43 fr0 (lt_of_cell r0)
                replace fr1 := frz_later hW43 fr1 (lt_of_cell r1)
                replace fr2 := frz_later hW43 fr2 (lt_of_cell r2)
                replace c0 := cell_later hW43 c0
                replace c1 := cell_later hW43 c1
                replace c2 := cell_later hW43 c2
                replace r0 := cell_later hW43 r0
                replace r1 := cell_later hW43 r1
                replace r2 := cell_later hW43 r2
                go_simp
                refine hK.out _ _ ?_
                clear hK K
                try simp only [Act.put, List.setIfInBounds_toArray, List.set_cons_zero, List.set_cons_succ]
                refine doneU (by kernel_rfl) ?_ _
                have HB4 := Lib.hid (Below.step (Below.step HB0.out HBR.out) hW43)
                replace c0 : (w43.setCell ⟨bx, 1, none⟩ (.slice ga N gc)).cell? ⟨bx, 0, none⟩ = some (.int .i64 n) := cell_set_ne c0 (by simp)
                replace c1 : (w43.setCell ⟨bx, 1, none⟩ (.slice ga N gc)).cell? ⟨bx, 1, none⟩ = some (.slice ga N gc) := cell_set_eq c1
                replace c2 : (w43.setCell ⟨bx, 1, none⟩ (.slice ga N gc)).cell? ⟨bx, 2, none⟩ = some (.int .u64 fl) := cell_set_ne c2 (by simp)
                replace r0 : (w43.setCell ⟨bx, 1, none⟩ (.slice ga N gc)).cell? ⟨bx + 1 + 1, 0, none⟩ = some (.int .i64 0) := cell_set_ne r0 (by simp)
                replace r1 : (w43.setCell ⟨bx, 1, none⟩ (.slice ga N gc)).cell? ⟨bx + 1 + 1, 1, none⟩ = some (.slice none 0 0) := cell_set_ne r1 (by first | (simp; done) | (simp; omega) | omega)
                replace r2 : (w43.setCell ⟨bx, 1, none⟩ (.slice ga N gc)).cell? ⟨bx + 1 + 1, 2, none⟩ = some (.int .u64 0) := cell_set_ne r2 (by simp)
                replace fr0 : (w43.setCell ⟨bx, 1, none⟩ (.slice ga N gc)).frozen? ⟨bx + 1 + 1, 0, none⟩ = false := by rw [World.frozen?_setCell]; exact fr0
                replace fr1 : (w43.setCell ⟨bx, 1, none⟩ (.slice ga N gc)).frozen? ⟨bx + 1 + 1, 1, none⟩ = false := by rw [World.frozen?_setCell]; exact fr1
                replace fr2 : (w43.setCell ⟨bx, 1, none⟩ (.slice ga N gc)).frozen? ⟨bx + 1 + 1, 2, none⟩ = false := by rw [World.frozen?_setCell]; exact fr2
                have HNEW := Lib.hid (show NewM W0 w43 (.slice (some ⟨b, off, none⟩) M cap) S (.slice ga N gc) (putM S x) from fun F hF _ => own_heldR (L := putM S x) (F := F) encMs_ok o13 (by rw [HCUT.out, ← HN.out]; simp; omega) (by rw [HCUT.out, show S.take k ++ x :: S.drop k = (S.take k ++ [x]) ++ S.drop k by simp, flatR_app, flatR_app]) (fun b hb => by have := hF b hb; have := HSW.out; omega))
                have HLEN := Lib.hid (show N = (putM S x).length by rw [HCUT.out, ← HN.out]; simp; omega)
                obtain ⟨wq, hwq⟩ : ∃ wq, wq = (w43.setCell ⟨bx, 1, none⟩ (.slice ga N gc)) := ⟨_, rfl⟩
                rw [← hwq] at c0 c1 c2 r0 r1 r2 fr0 fr1 fr2 ⊢
                have HWQ := Lib.hid hwq
                clear hwq fc0 fc1 fc2 o13
                go_wp2_with fail
                refine bodyPost_ret (v := rqV n ga N gc fl) (by simp [results, Try.results60, go_sem, rqV, *]) rfl ?_
                have KF : Kept [bx, bx + 1, bx + 1 + 1] w43 (((wq.setCell ⟨bx + 1 + 1, 0, none⟩ (.int .i64 n)).setCell ⟨bx + 1 + 1, 1, none⟩ (.slice ga N gc)).setCell ⟨bx + 1 + 1, 2, none⟩ (.int .u64 fl)) := by
                  rw [HWQ.out]; exact ((((Kept.refl _ _).setCell (Or.inl (by simp)) _).setCell (Or.inl (by simp)) _).setCell (Or.inl (by simp)) _).setCell (Or.inl (by simp)) _
                rw [HLEN.out] at KF HNEW ⊢
                exact ⟨_, _, rfl, NewM.wrap HNEW.out HB0.out (fun b hb => by rw [HBX.out, HSZ.out]; exact in3 hb) KF, Kept.stepB HB4.out (Nat.le_refl _) KF (fun b hb => by rw [HBX.out]; exact (in3 hb).1)⟩
            · skip
              go_simp
              obtain ⟨w45, hw45⟩ : ∃ X, X = wc26.alloc (.cells #[.int .i64 x.1, .int .u64 x.2.1, .int .u32 x.2.2.1, .int .u32 x.2.2.2] 106) := ⟨_, rfl⟩
              rw [← hw45]
              have hb45 : Below wc26.heap.size wc26 w45 := by rw [hw45]; exact below_a _ _
              have hW45 := Below.step hWc26 hb45
              have rx : RecsAt encMs w45 (.slice (some ⟨wc26.heap.size, 0, none⟩) 1 1) [x] := by rw [hw45]; exact lit_recs encMs_ok _ [x] _ (by simp)
              clear hw45
              refine hK.out _ _ (held_5 hW45 hS00) (fun hHeld7 => ?_)
              clear hK K
              try simp only [Act.put, List.setIfInBounds_toArray, List.set_cons_zero, List.set_cons_succ]
              refine readyU (rs := [0]) (by kernel_rfl) (by simp) ?_
              refine consU rfl (fun K hK => ?_) (nilU)
              go_simp
              obtain ⟨w46, hw46⟩ : ∃ X, X = w45.alloc (.cells #[] 106) := ⟨_, rfl⟩
              rw [← hw46]
              have hb46 : Below w45.heap.size w45 w46 := by rw [hw46]; exact below_a _ _
              have hW46 := Below.step hW45 hb46
              replace rx := rx.later hb46
              have o0 : w46.ownsRow wz.heap.size 106 4 (.slice (some ⟨w45.heap.size, 0, none⟩) 0 0) 0 [] := by rw [hw46]; exact World.ownsRow_lit _ #[] 0 hW45.size (by unfold maxLen; omega) rfl
              clear hw46
              refine hK.out _ _ (held_5 hW46 hS00) (fun hHeld0 => ?_)
              clear hK K
              try simp only [Act.put, List.setIfInBounds_toArray, List.set_cons_zero, List.set_cons_succ]
              refine readyU (rs := [5]) (by kernel_rfl) (by simp) ?_
              refine consU rfl (fun K hK => ?_) (nilU)
              refine stepF rfl (.tmp 50) (.tmp 54) 66 rfl wz.heap.size 106 i0 (.agg #[.int .i64 0, .int .u64 0, .int .u32 0, .int .u32 0]) 4 24 encMs_ok Try.underlying66 hi hz0 hz1 hz2 rfl _ rfl o0 _ _ rfl (RT.out.later hW46) (by have := hlT.out; unfold maxLen; omega) (by have := hlT.out; omega) hW46.size ?_
              intro v47 w47 o5 hb47 hp47
              have hW47 := Below.step hW46 hb47
              replace rx := rx.later hb47
              refine hK.out _ _ (held_5 hW47 hS00) (fun hHeld5 => ?_)
              clear hK K
              try simp only [Act.put, List.setIfInBounds_toArray, List.set_cons_zero, List.set_cons_succ]
              refine readyU (rs := [8]) (by kernel_rfl) (by simp) ?_
              refine consU rfl (fun K hK => ?_) (nilU)
              refine stepR rfl (.tmp 55) (.tmp 57) 66 rfl wz.heap.size 106 i0 (.agg #[.int .i64 0, .int .u64 0, .int .u32 0, .int .u32 0]) 4 24 encMs_ok Try.underlying66 hi hz0 hz1 hz2 rfl _ _ _ rfl o5 _ _ rfl (rx) (by have := hlT.out; simp; unfold maxLen; omega) (by have := hlT.out; simp; omega) hW47.size ?_
              intro v48 w48 o8 hg48 hp48 hn48
              have hW48 : Below wz.heap.size wz w48 := hW47.grown hg48 hW47.size (fun g hg => (o5.lt g hg).1)
              refine hK.out _ _ (held_5 hW48 hS00) (fun hHeld8 => ?_)
              clear hK K
              try simp only [Act.put, List.setIfInBounds_toArray, List.set_cons_zero, List.set_cons_succ]
              refine readyU (rs := [13]) (by kernel_rfl) (by simp) ?_
              refine consU rfl (fun K hK => ?_) (nilU)
              refine stepR rfl (.tmp 58) (.tmp 62) 66 rfl wz.heap.size 106 i0 (.agg #[.int .i64 0, .int .u64 0, .int .u32 0, .int .u32 0]) 4 24 encMs_ok Try.underlying66 hi hz0 hz1 hz2 rfl _ _ _ rfl o8 _ _ rfl (RD.out.later hW48) (by have := hlT.out; have := hlD.out; simp only [List.length_cons, List.length_nil]; unfold maxLen; omega) (by have := hlT.out; have := hlD.out; simp only [List.length_cons, List.length_nil]; omega) hW48.size ?_
              intro v49 w49 o13 hg49 hp49 hn49
              have hW49 : Below wz.heap.size wz w49 := hW48.grown hg49 hW48.size (fun g hg => (o8.lt g hg).1)
              refine hK.out _ _ (held_5 hW49 hS00) (fun hHeld13 => ?_)
              clear hK K
              try simp only [Act.put, List.setIfInBounds_toArray, List.set_cons_zero, List.set_cons_succ]
              refine takeUw (i := 14) (v := ?v14_50) rfl (by kernel_rfl) (fun _ _ _ h => h) (by rfl) ?hy14_50 (by assumption) ?rest14_50
              case hy14_50 => (intro w hSw; (try dsimp only at hSw); go_simp; try with_reducible rfl)
              try simp only [Act.put, List.setIfInBounds_toArray, List.set_cons_zero, List.set_cons_succ]
              refine readyU (rs := [15]) (by kernel_rfl) (by simp) ?_
              refine consV rfl (by kernel_rfl) (fun K hK => ?_) (nilU)
              obtain ⟨ga, gc, rfl⟩ := own_shapeM o13
              generalize hN : (S.take k).length + [x].length + (S.drop k).length = N at o13 ⊢
              have HN := Lib.hid hN
              clear hN
              replace fc0 := frz_later hW49 fc0 (lt_of_cell c0)
              replace fc1 := frz_later hW49 fc1 (lt_of_cell c1)
              replace fc2 := frz_later hW49 fc2 (lt_of_cell c2)
              replace fr0 := frz_later hW49 fr0 (lt_of_cell r0)
              replace fr1 := frz_later hW49 fr1 (lt_of_cell r1)
              replace fr2 := frz_later hW49 fr2 (lt_of_cell r2)
              replace c0 := cell_later hW49 c0
              replace c1 := cell_later hW49 c1
              replace c2 := cell_later hW49 c2
              replace r0 := cell_later hW49 r0
              replace r1 := cell_later hW49 r1
              replace r2 := cell_later hW49 r2
              go_simp
              refine hK.out _ _ ?_
              clear hK K
              try simp only [Act.put, List.setIfInBounds_toArray, List.set_cons_zero, List.set_cons_succ]
              refine doneU (by kernel_rfl) ?_ _
              have HB4 := Lib.hid (Below.step (Below.step HB0.out HBR.out) hW49)
              replace c0 : (w49.setCell ⟨bx, 1, none⟩ (.slice ga N gc)).cell? ⟨bx, 0, none⟩ = some (.int .i64 n) := cell_set_ne c0 (by simp)
              replace c1 : (w49.setCell ⟨bx, 1, none⟩ (.slice ga N gc)).cell? ⟨bx, 1, none⟩ = some (.slice ga N gc) := cell_set_eq c1
              replace c2 : (w49.setCell ⟨bx, 1, none⟩ (.slice ga N gc)).cell? ⟨bx, 2, none⟩ = some (.int .u64 fl) := cell_set_ne c2 (by simp)
              replace r0 : (w49.setCell ⟨bx, 1, none⟩ (.slice ga N gc)).cell? ⟨bx + 1 + 1, 0, none⟩ = some (.int .i64 0) := cell_set_ne r0 (by simp)
              replace r1 : (w49.setCell ⟨bx, 1, none⟩ (.slice ga N gc)).cell? ⟨bx + 1 + 1, 1, none⟩ = some (.slice none 0 0) := cell_set_ne r1 (by first | (simp; done) | (simp; omega) | omega)
              replace r2 : (w49.setCell ⟨bx, 1, none⟩ (.slice ga N gc)).cell? ⟨bx + 1 + 1, 2, none⟩ = some (.int .u64 0) := cell_set_ne r2 (by simp)
              replace fr0 : (w49.setCell ⟨bx, 1, none⟩ (.slice ga N gc)).frozen? ⟨bx + 1 + 1, 0, none⟩ = false := by rw [World.frozen?_setCell]; exact fr0
              replace fr1 : (w49.setCell ⟨bx, 1, none⟩ (.slice ga N gc)).frozen? ⟨bx + 1 + 1, 1, none⟩ = false := by rw [World.frozen?_setCell]; exact fr1
              replace fr2 : (w49.setCell ⟨bx, 1, none⟩ (.slice ga N gc)).frozen? ⟨bx + 1 + 1, 2, none⟩ = false := by rw [World.frozen?_setCell]; exact fr2
              have HNEW := Lib.hid (show NewM W0 w49 (.slice (some ⟨b, off, none⟩) M cap) S (.slice ga N gc) (putM S x) from fun F hF _ => own_heldR (L := putM S x) (F := F) encMs_ok o13 (by rw [HCUT.out, ← HN.out]; simp; omega) (by rw [HCUT.out, show S.take k ++ x :: S.drop k = (S.take k ++ [x]) ++ S.drop k by simp, flatR_app, flatR_app]) (fun b hb => by have := hF b hb; have := HSW.out; omega))
              have HLEN := Lib.hid (show N = (putM S x).length by rw [HCUT.out, ← HN.out]; simp; omega)
              obtain ⟨wq, hwq⟩ : ∃ wq, wq = (w49.setCell ⟨bx, 1, none⟩ (.slice ga N gc)) := ⟨_, rfl⟩
              rw [← hwq] at c0 c1 c2 r0 r1 r2 fr0 fr1 fr2 ⊢
              have HWQ := Lib.hid hwq
              clear hwq fc0 fc1 fc2 o13
              go_wp2_with fail
              refine bodyPost_ret (v := rqV n ga N gc fl) (by simp [results, Try.results60, go_sem, rqV, *]) rfl ?_
              have KF : Kept [bx, bx + 1, bx + 1 + 1] w49 (((wq.setCell ⟨bx + 1 + 1, 0, none⟩ (.int .i64 n)).setCell ⟨bx + 1 + 1, 1, none⟩ (.slice ga N gc)).setCell ⟨bx + 1 + 1, 2, none⟩ (.int .u64 fl)) := by
                rw [HWQ.out]; exact ((((Kept.refl _ _).setCell (Or.inl (by simp)) _).setCell (Or.inl (by simp)) _).setCell (Or.inl (by simp)) _).setCell (Or.inl (by simp)) _
              rw [HLEN.out] at KF HNEW ⊢
              exact ⟨_, _, rfl, NewM.wrap HNEW.out HB0.out (fun b hb => by rw [HBX.out, HSZ.out]; exact in3 hb) KF, Kept.stepB HB4.out (Nat.le_refl _) KF (fun b hb => by rw [HBX.out]; exact (in3 hb).1)⟩
    · have HC := Lib.hid (show k = cutM S x by omega)
      have l1 : decide ((k : Int) < (M : Int)) = false := decide_eq_false (by omega)
      have l2 : decide (k < M) = false := decide_eq_false hkM
      have l3 : (k < M) = False := eq_false hkM
      have i0' := hk
      have i1' := hk

      clear hk hcl
      go_wp2_with fail
      go_quiet (fail)
      have hbq : Below (wr).heap.size (wr) ((wr).drewN nq) := below_drewN (Below.refl _ _) _
      replace fc0 := frz_later hbq fc0 (lt_of_cell c0)
      replace fc1 := frz_later hbq fc1 (lt_of_cell c1)
      replace fc2 := frz_later hbq fc2 (lt_of_cell c2)
      replace fx0 := frz_later hbq fx0 (lt_of_cell x0)
      replace fx1 := frz_later hbq fx1 (lt_of_cell x1)
      replace fx2 := frz_later hbq fx2 (lt_of_cell x2)
      replace fx3 := frz_later hbq fx3 (lt_of_cell x3)
      replace fr0 := frz_later hbq fr0 (lt_of_cell r0)
      replace fr1 := frz_later hbq fr1 (lt_of_cell r1)
      replace fr2 := frz_later hbq fr2 (lt_of_cell r2)
      replace c0 := cell_later hbq c0
      replace c1 := cell_later hbq c1
      replace c2 := cell_later hbq c2
      replace x0 := cell_later hbq x0
      replace x1 := cell_later hbq x1
      replace x2 := cell_later hbq x2
      replace x3 := cell_later hbq x3
      replace r0 := cell_later hbq r0
      replace r1 := cell_later hbq r1
      replace r2 := cell_later hbq r2
      replace HBR := Lib.hid (Below.step HBR.out hbq)
      clear hbq
      generalize (wr).drewN nq = wz at *
      clear i0' i1'
      have hcut := putM_cut S x
      have RT := Lib.hid (sliced_take (m := cutM S x) encMs_ok (RW.out.later HBR.out) (by have := HCL.out; rw [HM.out] at this; exact this))
      have RD := Lib.hid (sliced_drop (m := cutM S x) encMs_ok (RW.out.later HBR.out) (by have := HCL.out; rw [HM.out] at this; exact this))
      rw [← HC.out] at RT RD hcut
      have HCUT := Lib.hid hcut
      have hlT := Lib.hid (show (S.take k).length ≤ 400000 by have h1 := List.length_take_le' k S; rw [HM.out] at h1; omega)
      have hlD := Lib.hid (show (S.drop k).length ≤ 400000 by rw [List.length_drop, HM.out]; omega)
      have hkMm : k ≤ M := by have := HCL.out; rw [HM.out] at this; have := HC.out; omega
      have hkC : k ≤ cap := by omega
      obtain ⟨vT, hvT⟩ : ∃ v, v = sliced a 0 k cap 4 := ⟨_, rfl⟩
      obtain ⟨vD, hvD⟩ : ∃ v, v = sliced a k M cap 4 := ⟨_, rfl⟩
      rw [← hvT] at RT
      rw [← hvD] at RD
      have HVT := Lib.hid hvT
      have HVD := Lib.hid hvD
      have HSW := Lib.hid HBR.out.size
      clear hvT hvD hcut
      go_wp2_with fail
      have hS0 : Below wz.heap.size wz wz.drew ∧ wz.drew.cell? ⟨bx, 1, none⟩ = some (.slice a M cap) ∧ wz.drew.cell? ⟨bx + 1, 0, none⟩ = some (.int .i64 x.1) ∧ wz.drew.cell? ⟨bx + 1, 1, none⟩ = some (.int .u64 x.2.1) ∧ wz.drew.cell? ⟨bx + 1, 2, none⟩ = some (.int .u32 x.2.2.1) ∧ wz.drew.cell? ⟨bx + 1, 3, none⟩ = some (.int .u32 x.2.2.2) := ⟨Below.drew (Below.refl _ _), cell_dr c1, cell_dr x0, cell_dr x1, cell_dr x2, cell_dr x3⟩
      refine startU [15] (fun w' => Below wz.heap.size wz w' ∧ w'.cell? ⟨bx, 1, none⟩ = some (.slice a M cap) ∧ w'.cell? ⟨bx + 1, 0, none⟩ = some (.int .i64 x.1) ∧ w'.cell? ⟨bx + 1, 1, none⟩ = some (.int .u64 x.2.1) ∧ w'.cell? ⟨bx + 1, 2, none⟩ = some (.int .u32 x.2.2.1) ∧ w'.cell? ⟨bx + 1, 3, none⟩ = some (.int .u32 x.2.2.2)) (by kernel_rfl) hS0 (fun hHeld => ?_)
      have hS00 : Below wz.heap.size wz wz ∧ wz.cell? ⟨bx, 1, none⟩ = some (.slice a M cap) ∧ wz.cell? ⟨bx + 1, 0, none⟩ = some (.int .i64 x.1) ∧ wz.cell? ⟨bx + 1, 1, none⟩ = some (.int .u64 x.2.1) ∧ wz.cell? ⟨bx + 1, 2, none⟩ = some (.int .u32 x.2.2.1) ∧ wz.cell? ⟨bx + 1, 3, none⟩ = some (.int .u32 x.2.2.2) := ⟨Below.refl _ _, c1, x0, x1, x2, x3⟩
      obtain ⟨wc51, hwc51⟩ : ∃ X, X = wz.drew := ⟨_, rfl⟩
      rw [← hwc51] at hHeld ⊢
      have hWc51 : Below wz.heap.size wz wc51 := by rw [hwc51]; exact (Below.refl _ _).drew
      clear hwc51
      refine takeUw (i := 1) (v := ?v1_52) rfl (by kernel_rfl) (fun _ _ _ h => h) (by rfl) ?hy1_52 (by assumption) ?rest1_52
      case hy1_52 => (intro w hSw; (try dsimp only at hSw); go_simp; try with_reducible rfl)
      try simp only [Act.put, List.setIfInBounds_toArray, List.set_cons_zero, List.set_cons_succ]
      refine takeUw (i := 2) (v := ?v2_53) rfl (by kernel_rfl) (fun _ _ _ h => h) (by rfl) ?hy2_53 (by assumption) ?rest2_53
      case hy2_53 => (intro w hSw; (try dsimp only at hSw); go_simp; try with_reducible rfl)
      try simp only [Act.put, List.setIfInBounds_toArray, List.set_cons_zero, List.set_cons_succ]
      refine takeUw (i := 3) (v := ?v3_54) rfl (by kernel_rfl) (fun _ _ _ h => h) (by rfl) ?hy3_54 (by assumption) ?rest3_54
      case hy3_54 => (intro w hSw; (try dsimp only at hSw); go_simp; try with_reducible rfl)
      try simp only [Act.put, List.setIfInBounds_toArray, List.set_cons_zero, List.set_cons_succ]
      refine takeUw (i := 4) (v := vT) rfl (by kernel_rfl) (fun _ _ _ h => h) (by rfl) (fun w _ => by rw [HVT.out]; exact run_take 66 (.tmp 52) (.tmp 53) rfl undRMembers sizeRMember rfl rfl hkC) (by assumption) ?_
      try simp only [Act.put, List.setIfInBounds_toArray, List.set_cons_zero, List.set_cons_succ]
      refine takeUw (i := 6) (v := ?v6_55) rfl (by kernel_rfl) (fun _ _ _ h => h) (by rfl) ?hy6_55 (by assumption) ?rest6_55
      case hy6_55 => (intro w hSw; (try dsimp only at hSw); go_simp; try with_reducible rfl)
      try simp only [Act.put, List.setIfInBounds_toArray, List.set_cons_zero, List.set_cons_succ]
      refine takeUw (i := 9) (v := ?v9_56) rfl (by kernel_rfl) (fun _ _ _ h => h) (by rfl) ?hy9_56 (by assumption) ?rest9_56
      case hy9_56 => (intro w hSw; (try dsimp only at hSw); go_simp; try with_reducible rfl)
      try simp only [Act.put, List.setIfInBounds_toArray, List.set_cons_zero, List.set_cons_succ]
      refine takeUw (i := 10) (v := ?v10_57) rfl (by kernel_rfl) (fun _ _ _ h => h) (by rfl) ?hy10_57 (by assumption) ?rest10_57
      case hy10_57 => (intro w hSw; (try dsimp only at hSw); go_simp; try with_reducible rfl)
      try simp only [Act.put, List.setIfInBounds_toArray, List.set_cons_zero, List.set_cons_succ]
      refine takeUw (i := 11) (v := ?v11_58) rfl (by kernel_rfl) (fun _ _ _ h => h) (by rfl) ?hy11_58 (by assumption) ?rest11_58
      case hy11_58 => (intro w hSw; (try dsimp only at hSw); go_simp; try with_reducible rfl)
      try simp only [Act.put, List.setIfInBounds_toArray, List.set_cons_zero, List.set_cons_succ]
      refine takeUw (i := 12) (v := vD) rfl (by kernel_rfl) (fun _ _ _ h => h) (by rfl) (fun w _ => by rw [HVD.out]; exact run_drop 66 (.tmp 60) (.tmp 61) rfl undRMembers sizeRMember rfl rfl hkMm) (by assumption) ?_
      try simp only [Act.put, List.setIfInBounds_toArray, List.set_cons_zero, List.set_cons_succ]
      refine readyU (rs := [0, 7]) (by kernel_rfl) (by simp) ?_
      refine consU rfl (fun K hK => ?_) (consU rfl (fun K hK => ?_) (nilU))
      · skip
        go_simp
        obtain ⟨w59, hw59⟩ : ∃ X, X = wc51.alloc (.cells #[] 106) := ⟨_, rfl⟩
        rw [← hw59]
        have hb59 : Below wc51.heap.size wc51 w59 := by rw [hw59]; exact below_a _ _
        have hW59 := Below.step hWc51 hb59
        have o0 : w59.ownsRow wz.heap.size 106 4 (.slice (some ⟨wc51.heap.size, 0, none⟩) 0 0) 0 [] := by rw [hw59]; exact World.ownsRow_lit _ #[] 0 hWc51.size (by unfold maxLen; omega) rfl
        clear hw59
        refine hK.out _ _ (held_5 hW59 hS00) (fun hHeld0 => ?_)
        clear hK K
        try simp only [Act.put, List.setIfInBounds_toArray, List.set_cons_zero, List.set_cons_succ]
        refine readyU (rs := [5, 7]) (by kernel_rfl) (by simp) ?_
        refine consU rfl (fun K hK => ?_) (consU rfl (fun K hK => ?_) (nilU))
        · skip
          refine stepF rfl (.tmp 50) (.tmp 54) 66 rfl wz.heap.size 106 i0 (.agg #[.int .i64 0, .int .u64 0, .int .u32 0, .int .u32 0]) 4 24 encMs_ok Try.underlying66 hi hz0 hz1 hz2 rfl _ rfl o0 _ _ rfl (RT.out.later hW59) (by have := hlT.out; unfold maxLen; omega) (by have := hlT.out; omega) hW59.size ?_
          intro v60 w60 o5 hb60 hp60
          have hW60 := Below.step hW59 hb60
          refine hK.out _ _ (held_5 hW60 hS00) (fun hHeld5 => ?_)
          clear hK K
          try simp only [Act.put, List.setIfInBounds_toArray, List.set_cons_zero, List.set_cons_succ]
          refine readyU (rs := [7]) (by kernel_rfl) (by simp) ?_
          refine consU rfl (fun K hK => ?_) (nilU)
          go_simp
          obtain ⟨w61, hw61⟩ : ∃ X, X = w60.alloc (.cells #[.int .i64 x.1, .int .u64 x.2.1, .int .u32 x.2.2.1, .int .u32 x.2.2.2] 106) := ⟨_, rfl⟩
          rw [← hw61]
          have hb61 : Below w60.heap.size w60 w61 := by rw [hw61]; exact below_a _ _
          have hW61 := Below.step hW60 hb61
          replace o5 := own_below o5 hb61
          have rx : RecsAt encMs w61 (.slice (some ⟨w60.heap.size, 0, none⟩) 1 1) [x] := by rw [hw61]; exact lit_recs encMs_ok _ [x] _ (by simp)
          clear hw61
          refine hK.out _ _ (held_5 hW61 hS00) (fun hHeld7 => ?_)
          clear hK K
          try simp only [Act.put, List.setIfInBounds_toArray, List.set_cons_zero, List.set_cons_succ]
          refine readyU (rs := [8]) (by kernel_rfl) (by simp) ?_
          refine consU rfl (fun K hK => ?_) (nilU)
          refine stepR rfl (.tmp 55) (.tmp 57) 66 rfl wz.heap.size 106 i0 (.agg #[.int .i64 0, .int .u64 0, .int .u32 0, .int .u32 0]) 4 24 encMs_ok Try.underlying66 hi hz0 hz1 hz2 rfl _ _ _ rfl o5 _ _ rfl (rx) (by have := hlT.out; simp; unfold maxLen; omega) (by have := hlT.out; simp; omega) hW61.size ?_
          intro v62 w62 o8 hg62 hp62 hn62
          have hW62 : Below wz.heap.size wz w62 := hW61.grown hg62 hW61.size (fun g hg => (o5.lt g hg).1)
          refine hK.out _ _ (held_5 hW62 hS00) (fun hHeld8 => ?_)
          clear hK K
          try simp only [Act.put, List.setIfInBounds_toArray, List.set_cons_zero, List.set_cons_succ]
          refine readyU (rs := [13]) (by kernel_rfl) (by simp) ?_
          refine consU rfl (fun K hK => ?_) (nilU)
          refine stepR rfl (.tmp 58) (.tmp 62) 66 rfl wz.heap.size 106 i0 (.agg #[.int .i64 0, .int .u64 0, .int .u32 0, .int .u32 0]) 4 24 encMs_ok Try.underlying66 hi hz0 hz1 hz2 rfl _ _ _ rfl o8 _ _ rfl (RD.out.later hW62) (by have := hlT.out; have := hlD.out; simp only [List.length_cons, List.length_nil]; unfold maxLen; omega) (by have := hlT.out; have := hlD.out; simp only [List.length_cons, List.length_nil]; omega) hW62.size ?_
          intro v63 w63 o13 hg63 hp63 hn63
          have hW63 : Below wz.heap.size wz w63 := hW62.grown hg63 hW62.size (fun g hg => (o8.lt g hg).1)
          refine hK.out _ _ (held_5 hW63 hS00) (fun hHeld13 => ?_)
          clear hK K
          try simp only [Act.put, List.setIfInBounds_toArray, List.set_cons_zero, List.set_cons_succ]
          refine takeUw (i := 14) (v := ?v14_64) rfl (by kernel_rfl) (fun _ _ _ h => h) (by rfl) ?hy14_64 (by assumption) ?rest14_64
          case hy14_64 => (intro w hSw; (try dsimp only at hSw); go_simp; try with_reducible rfl)
          try simp only [Act.put, List.setIfInBounds_toArray, List.set_cons_zero, List.set_cons_succ]
          refine readyU (rs := [15]) (by kernel_rfl) (by simp) ?_
          refine consV rfl (by kernel_rfl) (fun K hK => ?_) (nilU)
          obtain ⟨ga, gc, rfl⟩ := own_shapeM o13
          generalize hN : (S.take k).length + [x].length + (S.drop k).length = N at o13 ⊢
          have HN := Lib.hid hN
          clear hN
          replace fc0 := frz_later hW63 fc0 (lt_of_cell c0)
          replace fc1 := frz_later hW63 fc1 (lt_of_cell c1)
          replace fc2 := frz_later hW63 fc2 (lt_of_cell c2)
          replace fr0 := frz_later hW63 fr0 (lt_of_cell r0)
          replace fr1 := frz_later hW63 fr1 (lt_of_cell r1)
          replace fr2 := frz_later hW63 fr2 (lt_of_cell r2)
          replace c0 := cell_later hW63 c0
          replace c1 := cell_later hW63 c1
          replace c2 := cell_later hW63 c2
          replace r0 := cell_later hW63 r0
          replace r1 := cell_later hW63 r1
          replace r2 := cell_later hW63 r2
          go_simp
          refine hK.out _ _ ?_
          clear hK K
          try simp only [Act.put, List.setIfInBounds_toArray, List.set_cons_zero, List.set_cons_succ]
          refine doneU (by kernel_rfl) ?_ _
          have HB4 := Lib.hid (Below.step (Below.step HB0.out HBR.out) hW63)
          replace c0 : (w63.setCell ⟨bx, 1, none⟩ (.slice ga N gc)).cell? ⟨bx, 0, none⟩ = some (.int .i64 n) := cell_set_ne c0 (by simp)
          replace c1 : (w63.setCell ⟨bx, 1, none⟩ (.slice ga N gc)).cell? ⟨bx, 1, none⟩ = some (.slice ga N gc) := cell_set_eq c1
          replace c2 : (w63.setCell ⟨bx, 1, none⟩ (.slice ga N gc)).cell? ⟨bx, 2, none⟩ = some (.int .u64 fl) := cell_set_ne c2 (by simp)
          replace r0 : (w63.setCell ⟨bx, 1, none⟩ (.slice ga N gc)).cell? ⟨bx + 1 + 1, 0, none⟩ = some (.int .i64 0) := cell_set_ne r0 (by simp)
          replace r1 : (w63.setCell ⟨bx, 1, none⟩ (.slice ga N gc)).cell? ⟨bx + 1 + 1, 1, none⟩ = some (.slice none 0 0) := cell_set_ne r1 (by first | (simp; done) | (simp; omega) | omega)
          replace r2 : (w63.setCell ⟨bx, 1, none⟩ (.slice ga N gc)).cell? ⟨bx + 1 + 1, 2, none⟩ = some (.int .u64 0) := cell_set_ne r2 (by simp)
          replace fr0 : (w63.setCell ⟨bx, 1, none⟩ (.slice ga N gc)).frozen? ⟨bx + 1 + 1, 0, none⟩ = false := by rw [World.frozen?_setCell]; exact fr0
          replace fr1 : (w63.setCell ⟨bx, 1, none⟩ (.slice ga N gc)).frozen? ⟨bx + 1 + 1, 1, none⟩ = false := by rw [World.frozen?_setCell]; exact fr1
          replace fr2 : (w63.setCell ⟨bx, 1, none⟩ (.slice ga N gc)).frozen? ⟨bx + 1 + 1, 2, none⟩ = false := by rw [World.frozen?_setCell]; exact fr2
          have HNEW := Lib.hid (show NewM W0 w63 (.slice a M cap) S (.slice ga N gc) (putM S x) from fun F hF _ => own_heldR (L := putM S x) (F := F) encMs_ok o13 (by rw [HCUT.out, ← HN.out]; simp; omega) (by rw [HCUT.out, show S.take k ++ x :: S.drop k = (S.take k ++ [x]) ++ S.drop k by simp, flatR_app, flatR_app]) (fun b hb => by have := hF b hb; have := HSW.out; omega))
          have HLEN := Lib.hid (show N = (putM S x).length by rw [HCUT.out, ← HN.out]; simp; omega)
          obtain ⟨wq, hwq⟩ : ∃ wq, wq = (w63.setCell ⟨bx, 1, none⟩ (.slice ga N gc)) := ⟨_, rfl⟩
          rw [← hwq] at c0 c1 c2 r0 r1 r2 fr0 fr1 fr2 ⊢
          have HWQ := Lib.hid hwq
          clear hwq fc0 fc1 fc2 o13
          go_wp2_with fail
          refine bodyPost_ret (v := rqV n ga N gc fl) (by simp [results, Try.results60, go_sem, rqV, *]) rfl ?_
          have KF : Kept [bx, bx + 1, bx + 1 + 1] w63 (((wq.setCell ⟨bx + 1 + 1, 0, none⟩ (.int .i64 n)).setCell ⟨bx + 1 + 1, 1, none⟩ (.slice ga N gc)).setCell ⟨bx + 1 + 1, 2, none⟩ (.int .u64 fl)) := by
            rw [HWQ.out]; exact ((((Kept.refl _ _).setCell (Or.inl (by simp)) _).setCell (Or.inl (by simp)) _).setCell (Or.inl (by simp)) _).setCell (Or.inl (by simp)) _
          rw [HLEN.out] at KF HNEW ⊢
          exact ⟨_, _, rfl, NewM.wrap HNEW.out HB0.out (fun b hb => by rw [HBX.out, HSZ.out]; exact in3 hb) KF, Kept.stepB HB4.out (Nat.le_refl _) KF (fun b hb => by rw [HBX.out]; exact (in3 hb).1)⟩
        · skip
          go_simp
          obtain ⟨w65, hw65⟩ : ∃ X, X = w59.alloc (.cells #[.int .i64 x.1, .int .u64 x.2.1, .int .u32 x.2.2.1, .int .u32 x.2.2.2] 106) := ⟨_, rfl⟩
          rw [← hw65]
          have hb65 : Below w59.heap.size w59 w65 := by rw [hw65]; exact below_a _ _
          have hW65 := Below.step hW59 hb65
          replace o0 := own_below o0 hb65
          have rx : RecsAt encMs w65 (.slice (some ⟨w59.heap.size, 0, none⟩) 1 1) [x] := by rw [hw65]; exact lit_recs encMs_ok _ [x] _ (by simp)
          clear hw65
          refine hK.out _ _ (held_5 hW65 hS00) (fun hHeld7 => ?_)
          clear hK K
          try simp only [Act.put, List.setIfInBounds_toArray, List.set_cons_zero, List.set_cons_succ]
          refine readyU (rs := [5]) (by kernel_rfl) (by simp) ?_
          refine consU rfl (fun K hK => ?_) (nilU)
          refine stepF rfl (.tmp 50) (.tmp 54) 66 rfl wz.heap.size 106 i0 (.agg #[.int .i64 0, .int .u64 0, .int .u32 0, .int .u32 0]) 4 24 encMs_ok Try.underlying66 hi hz0 hz1 hz2 rfl _ rfl o0 _ _ rfl (RT.out.later hW65) (by have := hlT.out; unfold maxLen; omega) (by have := hlT.out; omega) hW65.size ?_
          intro v66 w66 o5 hb66 hp66
          have hW66 := Below.step hW65 hb66
          replace rx := rx.later hb66
          refine hK.out _ _ (held_5 hW66 hS00) (fun hHeld5 => ?_)
          clear hK K
          try simp only [Act.put, List.setIfInBounds_toArray, List.set_cons_zero, List.set_cons_succ]
          refine readyU (rs := [8]) (by kernel_rfl) (by simp) ?_
          refine consU rfl (fun K hK => ?_) (nilU)
          refine stepR rfl (.tmp 55) (.tmp 57) 66 rfl wz.heap.size 106 i0 (.agg #[.int .i64 0, .int .u64 0, .int .u32 0, .int .u32 0]) 4 24 encMs_ok Try.underlying66 hi hz0 hz1 hz2 rfl _ _ _ rfl o5 _ _ rfl (rx) (by have := hlT.out; simp; unfold maxLen; omega) (by have := hlT.out; simp; omega) hW66.size ?_
          intro v67 w67 o8 hg67 hp67 hn67
          have hW67 : Below wz.heap.size wz w67 := hW66.grown hg67 hW66.size (fun g hg => (o5.lt g hg).1)
          refine hK.out _ _ (held_5 hW67 hS00) (fun hHeld8 => ?_)
          clear hK K
          try simp only [Act.put, List.setIfInBounds_toArray, List.set_cons_zero, List.set_cons_succ]
          refine readyU (rs := [13]) (by kernel_rfl) (by simp) ?_
          refine consU rfl (fun K hK => ?_) (nilU)
          refine stepR rfl (.tmp 58) (.tmp 62) 66 rfl wz.heap.size 106 i0 (.agg #[.int .i64 0, .int .u64 0, .int .u32 0, .int .u32 0]) 4 24 encMs_ok Try.underlying66 hi hz0 hz1 hz2 rfl _ _ _ rfl o8 _ _ rfl (RD.out.later hW67) (by have := hlT.out; have := hlD.out; simp only [List.length_cons, List.length_nil]; unfold maxLen; omega) (by have := hlT.out; have := hlD.out; simp only [List.length_cons, List.length_nil]; omega) hW67.size ?_
          intro v68 w68 o13 hg68 hp68 hn68
          have hW68 : Below wz.heap.size wz w68 := hW67.grown hg68 hW67.size (fun g hg => (o8.lt g hg).1)
          refine hK.out _ _ (held_5 hW68 hS00) (fun hHeld13 => ?_)
          clear hK K
          try simp only [Act.put, List.setIfInBounds_toArray, List.set_cons_zero, List.set_cons_succ]
          refine takeUw (i := 14) (v := ?v14_69) rfl (by kernel_rfl) (fun _ _ _ h => h) (by rfl) ?hy14_69 (by assumption) ?rest14_69
          case hy14_69 => (intro w hSw; (try dsimp only at hSw); go_simp; try with_reducible rfl)
          try simp only [Act.put, List.setIfInBounds_toArray, List.set_cons_zero, List.set_cons_succ]
          refine readyU (rs := [15]) (by kernel_rfl) (by simp) ?_
          refine consV rfl (by kernel_rfl) (fun K hK => ?_) (nilU)
          obtain ⟨ga, gc, rfl⟩ := own_shapeM o13
          generalize hN : (S.take k).length + [x].length + (S.drop k).length = N at o13 ⊢
          have HN := Lib.hid hN
          clear hN
          replace fc0 := frz_later hW68 fc0 (lt_of_cell c0)
          replace fc1 := frz_later hW68 fc1 (lt_of_cell c1)
          replace fc2 := frz_later hW68 fc2 (lt_of_cell c2)
          replace fr0 := frz_later hW68 fr0 (lt_of_cell r0)
          replace fr1 := frz_later hW68 fr1 (lt_of_cell r1)
          replace fr2 := frz_later hW68 fr2 (lt_of_cell r2)
          replace c0 := cell_later hW68 c0
          replace c1 := cell_later hW68 c1
          replace c2 := cell_later hW68 c2
          replace r0 := cell_later hW68 r0
          replace r1 := cell_later hW68 r1
          replace r2 := cell_later hW68 r2
          go_simp
          refine hK.out _ _ ?_
          clear hK K
          try simp only [Act.put, List.setIfInBounds_toArray, List.set_cons_zero, List.set_cons_succ]
          refine doneU (by kernel_rfl) ?_ _
          have HB4 := Lib.hid (Below.step (Below.step HB0.out HBR.out) hW68)
          replace c0 : (w68.setCell ⟨bx, 1, none⟩ (.slice ga N gc)).cell? ⟨bx, 0, none⟩ = some (.int .i64 n) := cell_set_ne c0 (by simp)
          replace c1 : (w68.setCell ⟨bx, 1, none⟩ (.slice ga N gc)).cell? ⟨bx, 1, none⟩ = some (.slice ga N gc) := cell_set_eq c1
          replace c2 : (w68.setCell ⟨bx, 1, none⟩ (.slice ga N gc)).cell? ⟨bx, 2, none⟩ = some (.int .u64 fl) := cell_set_ne c2 (by simp)
          replace r0 : (w68.setCell ⟨bx, 1, none⟩ (.slice ga N gc)).cell? ⟨bx + 1 + 1, 0, none⟩ = some (.int .i64 0) := cell_set_ne r0 (by simp)
          replace r1 : (w68.setCell ⟨bx, 1, none⟩ (.slice ga N gc)).cell? ⟨bx + 1 + 1, 1, none⟩ = some (.slice none 0 0) := cell_set_ne r1 (by first | (simp; done) | (simp; omega) | omega)
          replace r2 : (w68.setCell ⟨bx, 1, none⟩ (.slice ga N gc)).cell? ⟨bx + 1 + 1, 2, none⟩ = some (.int .u64 0) := cell_set_ne r2 (by simp)
          replace fr0 : (w68.setCell ⟨bx, 1, none⟩ (.slice ga N gc)).frozen? ⟨bx + 1 + 1, 0, none⟩ = false := by rw [World.frozen?_setCell]; exact fr0
          replace fr1 : (w68.setCell ⟨bx, 1, none⟩ (.slice ga N gc)).frozen? ⟨bx + 1 + 1, 1, none⟩ = false := by rw [World.frozen?_setCell]; exact fr1
          replace fr2 : (w68.setCell ⟨bx, 1, none⟩ (.slice ga N gc)).frozen? ⟨bx + 1 + 1, 2, none⟩ = false := by rw [World.frozen?_setCell]; exact fr2
          have HNEW := Lib.hid (show NewM W0 w68 (.slice a M cap) S (.slice ga N gc) (putM S x) from fun F hF _ => own_heldR (L := putM S x) (F := F) encMs_ok o13 (by rw [HCUT.out, ← HN.out]; simp; omega) (by rw [HCUT.out, show S.take k ++ x :: S.drop k = (S.take k ++ [x]) ++ S.drop k by simp, flatR_app, flatR_app]) (fun b hb => by have := hF b hb; have := HSW.out; omega))
          have HLEN := Lib.hid (show N = (putM S x).length by rw [HCUT.out, ← HN.out]; simp; omega)
          obtain ⟨wq, hwq⟩ : ∃ wq, wq = (w68.setCell ⟨bx, 1, none⟩ (.slice ga N gc)) := ⟨_, rfl⟩
          rw [← hwq] at c0 c1 c2 r0 r1 r2 fr0 fr1 fr2 ⊢
          have HWQ := Lib.hid hwq
          clear hwq fc0 fc1 fc2 o13
          go_wp2_with fail
          refine bodyPost_ret (v := rqV n ga N gc fl) (by simp [results, Try.results60, go_sem, rqV, *]) rfl ?_
          have KF : Kept [bx, bx + 1, bx + 1 + 1] w68 (((wq.setCell ⟨bx + 1 + 1, 0, none⟩ (.int .i64 n)).setCell ⟨bx + 1 + 1, 1, none⟩ (.slice ga N gc)).setCell ⟨bx + 1 + 1, 2, none⟩ (.int .u64 fl)) := by
            rw [HWQ.out]; exact ((((Kept.refl _ _).setCell (Or.inl (by simp)) _).setCell (Or.inl (by simp)) _).setCell (Or.inl (by simp)) _).setCell (Or.inl (by simp)) _
          rw [HLEN.out] at KF HNEW ⊢
          exact ⟨_, _, rfl, NewM.wrap HNEW.out HB0.out (fun b hb => by rw [HBX.out, HSZ.out]; exact in3 hb) KF, Kept.stepB HB4.out (Nat.le_refl _) KF (fun b hb => by rw [HBX.out]; exact (in3 hb).1)⟩
      · skip
        go_simp
        obtain ⟨w70, hw70⟩ : ∃ X, X = wc51.alloc (.cells #[.int .i64 x.1, .int .u64 x.2.1, .int .u32 x.2.2.1, .int .u32 x.2.2.2] 106) := ⟨_, rfl⟩
        rw [← hw70]
        have hb70 : Below wc51.heap.size wc51 w70 := by rw [hw70]; exact below_a _ _
        have hW70 := Below.step hWc51 hb70
        have rx : RecsAt encMs w70 (.slice (some ⟨wc51.heap.size, 0, none⟩) 1 1) [x] := by rw [hw70]; exact lit_recs encMs_ok _ [x] _ (by simp)
        clear hw70
        refine hK.out _ _ (held_5 hW70 hS00) (fun hHeld7 => ?_)
        clear hK K
        try simp only [Act.put, List.setIfInBounds_toArray, List.set_cons_zero, List.set_cons_succ]
        refine readyU (rs := [0]) (by kernel_rfl) (by simp) ?_
        refine consU rfl (fun K hK => ?_) (nilU)
        go_simp
        obtain ⟨w71, hw71⟩ : ∃ X, X = w70.alloc (.cells #[] 106) := ⟨_, rfl⟩
        rw [← hw71]
        have hb71 : Below w70.heap.size w70 w71 := by rw [hw71]; exact below_a _ _
        have hW71 := Below.step hW70 hb71
        replace rx := rx.later hb71
        have o0 : w71.ownsRow wz.heap.size 106 4 (.slice (some ⟨w70.heap.size, 0, none⟩) 0 0) 0 [] := by rw [hw71]; exact World.ownsRow_lit _ #[] 0 hW70.size (by unfold maxLen; omega) rfl
        clear hw71
        refine hK.out _ _ (held_5 hW71 hS00) (fun hHeld0 => ?_)
        clear hK K
        try simp only [Act.put, List.setIfInBounds_toArray, List.set_cons_zero, List.set_cons_succ]
        refine readyU (rs := [5]) (by kernel_rfl) (by simp) ?_
        refine consU rfl (fun K hK => ?_) (nilU)
        refine stepF rfl (.tmp 50) (.tmp 54) 66 rfl wz.heap.size 106 i0 (.agg #[.int .i64 0, .int .u64 0, .int .u32 0, .int .u32 0]) 4 24 encMs_ok Try.underlying66 hi hz0 hz1 hz2 rfl _ rfl o0 _ _ rfl (RT.out.later hW71) (by have := hlT.out; unfold maxLen; omega) (by have := hlT.out; omega) hW71.size ?_
        intro v72 w72 o5 hb72 hp72
        have hW72 := Below.step hW71 hb72
        replace rx := rx.later hb72
        refine hK.out _ _ (held_5 hW72 hS00) (fun hHeld5 => ?_)
        clear hK K
        try simp only [Act.put, List.setIfInBounds_toArray, List.set_cons_zero, List.set_cons_succ]
        refine readyU (rs := [8]) (by kernel_rfl) (by simp) ?_
        refine consU rfl (fun K hK => ?_) (nilU)
        refine stepR rfl (.tmp 55) (.tmp 57) 66 rfl wz.heap.size 106 i0 (.agg #[.int .i64 0, .int .u64 0, .int .u32 0, .int .u32 0]) 4 24 encMs_ok Try.underlying66 hi hz0 hz1 hz2 rfl _ _ _ rfl o5 _ _ rfl (rx) (by have := hlT.out; simp; unfold maxLen; omega) (by have := hlT.out; simp; omega) hW72.size ?_
        intro v73 w73 o8 hg73 hp73 hn73
        have hW73 : Below wz.heap.size wz w73 := hW72.grown hg73 hW72.size (fun g hg => (o5.lt g hg).1)
        refine hK.out _ _ (held_5 hW73 hS00) (fun hHeld8 => ?_)
        clear hK K
        try simp only [Act.put, List.setIfInBounds_toArray, List.set_cons_zero, List.set_cons_succ]
        refine readyU (rs := [13]) (by kernel_rfl) (by simp) ?_
        refine consU rfl (fun K hK => ?_) (nilU)
        refine stepR rfl (.tmp 58) (.tmp 62) 66 rfl wz.heap.size 106 i0 (.agg #[.int .i64 0, .int .u64 0, .int .u32 0, .int .u32 0]) 4 24 encMs_ok Try.underlying66 hi hz0 hz1 hz2 rfl _ _ _ rfl o8 _ _ rfl (RD.out.later hW73) (by have := hlT.out; have := hlD.out; simp only [List.length_cons, List.length_nil]; unfold maxLen; omega) (by have := hlT.out; have := hlD.out; simp only [List.length_cons, List.length_nil]; omega) hW73.size ?_
        intro v74 w74 o13 hg74 hp74 hn74
        have hW74 : Below wz.heap.size wz w74 := hW73.grown hg74 hW73.size (fun g hg => (o8.lt g hg).1)
        refine hK.out _ _ (held_5 hW74 hS00) (fun hHeld13 => ?_)
        clear hK K
        try simp only [Act.put, List.setIfInBounds_toArray, List.set_cons_zero, List.set_cons_succ]
        refine takeUw (i := 14) (v := ?v14_75) rfl (by kernel_rfl) (fun _ _ _ h => h) (by rfl) ?hy14_75 (by assumption) ?rest14_75
        case hy14_75 => (intro w hSw; (try dsimp only at hSw); go_simp; try with_reducible rfl)
        try simp only [Act.put, List.setIfInBounds_toArray, List.set_cons_zero, List.set_cons_succ]
        refine readyU (rs := [15]) (by kernel_rfl) (by simp) ?_
        refine consV rfl (by kernel_rfl) (fun K hK => ?_) (nilU)
        obtain ⟨ga, gc, rfl⟩ := own_shapeM o13
        generalize hN : (S.take k).length + [x].length + (S.drop k).length = N at o13 ⊢
        have HN := Lib.hid hN
        clear hN
        replace fc0 := frz_later hW74 fc0 (lt_of_cell c0)
        replace fc1 := frz_later hW74 fc1 (lt_of_cell c1)
        replace fc2 := frz_later hW74 fc2 (lt_of_cell c2)
        replace fr0 := frz_later hW74 fr0 (lt_of_cell r0)
        replace fr1 := frz_later hW74 fr1 (lt_of_cell r1)
        replace fr2 := frz_later hW74 fr2 (lt_of_cell r2)
        replace c0 := cell_later hW74 c0
        replace c1 := cell_later hW74 c1
        replace c2 := cell_later hW74 c2
        replace r0 := cell_later hW74 r0
        replace r1 := cell_later hW74 r1
        replace r2 := cell_later hW74 r2
        go_simp
        refine hK.out _ _ ?_
        clear hK K
        try simp only [Act.put, List.setIfInBounds_toArray, List.set_cons_zero, List.set_cons_succ]
        refine doneU (by kernel_rfl) ?_ _
        have HB4 := Lib.hid (Below.step (Below.step HB0.out HBR.out) hW74)
        replace c0 : (w74.setCell ⟨bx, 1, none⟩ (.slice ga N gc)).cell? ⟨bx, 0, none⟩ = some (.int .i64 n) := cell_set_ne c0 (by simp)
        replace c1 : (w74.setCell ⟨bx, 1, none⟩ (.slice ga N gc)).cell? ⟨bx, 1, none⟩ = some (.slice ga N gc) := cell_set_eq c1
        replace c2 : (w74.setCell ⟨bx, 1, none⟩ (.slice ga N gc)).cell? ⟨bx, 2, none⟩ = some (.int .u64 fl) := cell_set_ne c2 (by simp)
        replace r0 : (w74.setCell ⟨bx, 1, none⟩ (.slice ga N gc)).cell? ⟨bx + 1 + 1, 0, none⟩ = some (.int .i64 0) := cell_set_ne r0 (by simp)
        replace r1 : (w74.setCell ⟨bx, 1, none⟩ (.slice ga N gc)).cell? ⟨bx + 1 + 1, 1, none⟩ = some (.slice none 0 0) := cell_set_ne r1 (by first | (simp; done) | (simp; omega) | omega)
        replace r2 : (w74.setCell ⟨bx, 1, none⟩ (.slice ga N gc)).cell? ⟨bx + 1 + 1, 2, none⟩ = some (.int .u64 0) := cell_set_ne r2 (by simp)
        replace fr0 : (w74.setCell ⟨bx, 1, none⟩ (.slice ga N gc)).frozen? ⟨bx + 1 + 1, 0, none⟩ = false := by rw [World.frozen?_setCell]; exact fr0
        replace fr1 : (w74.setCell ⟨bx, 1, none⟩ (.slice ga N gc)).frozen? ⟨bx + 1 + 1, 1, none⟩ = false := by rw [World.frozen?_setCell]; exact fr1
        replace fr2 : (w74.setCell ⟨bx, 1, none⟩ (.slice ga N gc)).frozen? ⟨bx + 1 + 1, 2, none⟩ = false := by rw [World.frozen?_setCell]; exact fr2
        have HNEW := Lib.hid (show NewM W0 w74 (.slice a M cap) S (.slice ga N gc) (putM S x) from fun F hF _ => own_heldR (L := putM S x) (F := F) encMs_ok o13 (by rw [HCUT.out, ← HN.out]; simp; omega) (by rw [HCUT.out, show S.take k ++ x :: S.drop k = (S.take k ++ [x]) ++ S.drop k by simp, flatR_app, flatR_app]) (fun b hb => by have := hF b hb; have := HSW.out; omega))
        have HLEN := Lib.hid (show N = (putM S x).length by rw [HCUT.out, ← HN.out]; simp; omega)
        obtain ⟨wq, hwq⟩ : ∃ wq, wq = (w74.setCell ⟨bx, 1, none⟩ (.slice ga N gc)) := ⟨_, rfl⟩
        rw [← hwq] at c0 c1 c2 r0 r1 r2 fr0 fr1 fr2 ⊢
        have HWQ := Lib.hid hwq
        clear hwq fc0 fc1 fc2 o13
        go_wp2_with fail
        refine bodyPost_ret (v := rqV n ga N gc fl) (by simp [results, Try.results60, go_sem, rqV, *]) rfl ?_
        have KF : Kept [bx, bx + 1, bx + 1 + 1] w74 (((wq.setCell ⟨bx + 1 + 1, 0, none⟩ (.int .i64 n)).setCell ⟨bx + 1 + 1, 1, none⟩ (.slice ga N gc)).setCell ⟨bx + 1 + 1, 2, none⟩ (.int .u64 fl)) := by
          rw [HWQ.out]; exact ((((Kept.refl _ _).setCell (Or.inl (by simp)) _).setCell (Or.inl (by simp)) _).setCell (Or.inl (by simp)) _).setCell (Or.inl (by simp)) _
        rw [HLEN.out] at KF HNEW ⊢
        exact ⟨_, _, rfl, NewM.wrap HNEW.out HB0.out (fun b hb => by rw [HBX.out, HSZ.out]; exact in3 hb) KF, Kept.stepB HB4.out (Nat.le_refl _) KF (fun b hb => by rw [HBX.out]; exact (in3 hb).1)⟩
end Go.Proofs.Ytekjakmeopolhaa
namespace Go.Proofs.Ytekjakmeopolhaa
open Go.RowKit Go.Maps Go.IntWalk Go.Lib
set_option linter.unusedVariables false
set_option linter.unusedSimpArgs false
/-- a list without its k-th member -/
def dropK (S : Mems) (k : Nat) : Mems := S.take k ++ S.drop (k + 1)
theorem dropK_out {S : Mems} (hn : (S.map Prod.fst).Nodup) {k : Nat} (hk : k < S.length) : dropK S k = outM S S[k]!.1 := by
  unfold dropK
  rw [getElem!_pos S k hk]
  have e : S = S.take k ++ S[k] :: S.drop (k + 1) := by rw [List.getElem_cons_drop, List.take_append_drop]
  have hn' := hn
  rw [e, List.map_append, List.map_cons] at hn'
  have hd := List.nodup_append.1 hn'
  have h1 : ∀ y ∈ S.take k, y.1 ≠ S[k].1 := fun y hy he => hd.2.2 _ (List.mem_map_of_mem hy) _ (List.mem_cons_self ..) he
  have h2 : ∀ y ∈ S.drop (k + 1), y.1 ≠ S[k].1 := fun y hy he => (List.nodup_cons.1 hd.2.1).1 (by rw [← he]; exact List.mem_map_of_mem hy)
  unfold outM
  have e3 : (S.take k ++ S[k] :: S.drop (k + 1)).filter (fun y => y.1 != S[k].1) = S.take k ++ S.drop (k + 1) := by
    rw [List.filter_append, List.filter_cons]
    rw [List.filter_eq_self.2 (fun y hy => by simpa using h1 y hy)]
    rw [if_neg (by simp), List.filter_eq_self.2 (fun y hy => by simpa using h2 y hy)]
  exact ((congrArg (List.filter (fun y : Int × Ent => y.1 != S[k].1)) e).trans e3).symm
theorem dropK_len {S : Mems} {k : Nat} (hk : k < S.length) : (dropK S k).length = S.length - 1 := by
  unfold dropK
  rw [List.length_append, List.length_take, List.length_drop]
  omega
set_option maxRecDepth 100000 in
set_option maxHeartbeats 4000000 in
theorem rwithout_any (a : Option Addr) (cap : Nat) (n fl : Int) (S : Mems) (k : Nat) (hk : k < S.length) (w : World) (h : HeldR encMs [] w (.slice a S.length cap) S) (hl : S.length ≤ 400000) :
    Calls Try.prog 61 #[.agg #[.int .i64 n, .slice a S.length cap, .int .u64 fl], .int .i64 k] w (RRowP w (.slice a S.length cap) S n fl (dropK S k)) := by
  obtain ⟨i0, hi, hz0, hz1, hz2⟩ := info_parts infoRMember
  have hlen := h.recs.len
  obtain ⟨M, hM⟩ : ∃ M, M = S.length := ⟨_, rfl⟩
  have HM := Lib.hid hM.symm
  have hM6 : M ≤ 400000 := by rw [hM]; exact hl
  have hkM1 : k + 1 ≤ M := by rw [hM]; exact hk
  rw [← hM] at hlen h ⊢
  obtain ⟨-, hcM, hc9⟩ := hlen
  obtain ⟨W0, hW0⟩ : ∃ W0, W0 = ((w.alloc (.cells #[.int .i64 n, .slice a M cap, .int .u64 fl] 68)).alloc (.cells #[.int .i64 0, .slice none 0 0, .int .u64 0] 68)) := ⟨_, rfl⟩
  have HB0 := Lib.hid (show Below w.heap.size w W0 by rw [hW0]; exact (Below.allocS (Below.allocS (Below.refl _ _) _) _))
  have c0 : W0.cell? ⟨w.heap.size, 0, none⟩ = some (.int .i64 n) := by rw [hW0]; exact cell_al _ (cell_nwE (by simp) _ _ 0 _ rfl)
  have fc0 : W0.frozen? ⟨w.heap.size, 0, none⟩ = false := by rw [hW0]; exact frz_later (below_a _ _) (frz_nwE (by simp) _ _ 0) (by first | (simp; done) | (simp; omega))
  have c1 : W0.cell? ⟨w.heap.size, 1, none⟩ = some (.slice a M cap) := by rw [hW0]; exact cell_al _ (cell_nwE (by simp) _ _ 1 _ rfl)
  have fc1 : W0.frozen? ⟨w.heap.size, 1, none⟩ = false := by rw [hW0]; exact frz_later (below_a _ _) (frz_nwE (by simp) _ _ 1) (by first | (simp; done) | (simp; omega))
  have c2 : W0.cell? ⟨w.heap.size, 2, none⟩ = some (.int .u64 fl) := by rw [hW0]; exact cell_al _ (cell_nwE (by simp) _ _ 2 _ rfl)
  have fc2 : W0.frozen? ⟨w.heap.size, 2, none⟩ = false := by rw [hW0]; exact frz_later (below_a _ _) (frz_nwE (by simp) _ _ 2) (by first | (simp; done) | (simp; omega))
  have r0 : W0.cell? ⟨w.heap.size + 1, 0, none⟩ = some (.int .i64 0) := by rw [hW0]; exact cell_nwE (by simp) _ _ 0 _ rfl
  have fr0 : W0.frozen? ⟨w.heap.size + 1, 0, none⟩ = false := by rw [hW0]; exact frz_nwE (by simp) _ _ 0
  have r1 : W0.cell? ⟨w.heap.size + 1, 1, none⟩ = some (.slice none 0 0) := by rw [hW0]; exact cell_nwE (by simp) _ _ 1 _ rfl
  have fr1 : W0.frozen? ⟨w.heap.size + 1, 1, none⟩ = false := by rw [hW0]; exact frz_nwE (by simp) _ _ 1
  have r2 : W0.cell? ⟨w.heap.size + 1, 2, none⟩ = some (.int .u64 0) := by rw [hW0]; exact cell_nwE (by simp) _ _ 2 _ rfl
  have fr2 : W0.frozen? ⟨w.heap.size + 1, 2, none⟩ = false := by rw [hW0]; exact frz_nwE (by simp) _ _ 2
  have HSZ := Lib.hid (show W0.heap.size = w.heap.size + 1 + 1 by rw [hW0]; simp)
  have HW0 := Lib.hid hW0
  clear hW0
  have RW := Lib.hid (h.recs.later HB0.out)
  have RT := Lib.hid (sliced_take (m := k) encMs_ok RW.out (by omega))
  have RD := Lib.hid (sliced_drop (m := k + 1) encMs_ok RW.out hkM1)
  have hlT := Lib.hid (show (S.take k).length ≤ 400000 by have h1 := List.length_take_le' k S; rw [HM.out] at h1; omega)
  have hlD := Lib.hid (show (S.drop (k + 1)).length ≤ 400000 by rw [List.length_drop, HM.out]; omega)
  have hkC : k ≤ cap := by omega
  have hkm : k ≤ M := by omega
  have hk0 : (0 : Int) ≤ (k : Int) := by omega
  have hkk : (k : Int) < (M : Int) := by omega
  have hwr : IntKind.i64.wrap ((k : Int) + 1) = (k : Int) + 1 := IntWalk.i64_in _ (by omega)
  obtain ⟨vT, hvT⟩ : ∃ v, v = sliced a 0 k cap 4 := ⟨_, rfl⟩
  obtain ⟨vD, hvD⟩ : ∃ v, v = sliced a (k + 1) M cap 4 := ⟨_, rfl⟩
  rw [← hvT] at RT
  rw [← hvD] at RD
  have HVT := Lib.hid hvT
  have HVD := Lib.hid hvD
  clear hvT hvD h hM hl hk
  go_enter Try.func61, Try.ntmps61
  go_wp2_with fail
  rw [← HW0.out]
  generalize hbx : w.heap.size = bx at c0 c1 c2 r0 r1 r2 fc0 fc1 fc2 fr0 fr1 fr2 HSZ  ⊢
  have HBX := Lib.hid hbx
  clear hbx HW0
  have hS0 : Below W0.heap.size W0 W0.drew ∧ W0.drew.cell? ⟨bx, 1, none⟩ = some (.slice a M cap) := ⟨Below.drew (Below.refl _ _), cell_dr c1⟩
  refine startU [13] (fun w' => Below W0.heap.size W0 w' ∧ w'.cell? ⟨bx, 1, none⟩ = some (.slice a M cap)) (by kernel_rfl) hS0 (fun hHeld => ?_)
  have hS00 : Below W0.heap.size W0 W0 ∧ W0.cell? ⟨bx, 1, none⟩ = some (.slice a M cap) := ⟨Below.refl _ _, c1⟩
  obtain ⟨wc1, hwc1⟩ : ∃ X, X = W0.drew := ⟨_, rfl⟩
  rw [← hwc1] at hHeld ⊢
  have hWc1 : Below W0.heap.size W0 wc1 := by rw [hwc1]; exact (Below.refl _ _).drew
  clear hwc1
  refine takeUw (i := 1) (v := ?v1_2) rfl (by kernel_rfl) (fun _ _ _ h => h) (by rfl) ?hy1_2 (by assumption) ?rest1_2
  case hy1_2 => (intro w hSw; (try dsimp only at hSw); go_simp; try with_reducible rfl)
  try simp only [Act.put, List.setIfInBounds_toArray, List.set_cons_zero, List.set_cons_succ]
  refine takeUw (i := 2) (v := ?v2_3) rfl (by kernel_rfl) (fun _ _ _ h => h) (by rfl) ?hy2_3 (by assumption) ?rest2_3
  case hy2_3 => (intro w hSw; (try dsimp only at hSw); go_simp; try with_reducible rfl)
  try simp only [Act.put, List.setIfInBounds_toArray, List.set_cons_zero, List.set_cons_succ]
  refine takeUw (i := 3) (v := ?v3_4) rfl (by kernel_rfl) (fun _ _ _ h => h) (by rfl) ?hy3_4 (by assumption) ?rest3_4
  case hy3_4 => (intro w hSw; (try dsimp only at hSw); go_simp; try with_reducible rfl)
  try simp only [Act.put, List.setIfInBounds_toArray, List.set_cons_zero, List.set_cons_succ]
  refine takeUw (i := 4) (v := vT) rfl (by kernel_rfl) (fun _ _ _ h => h) (by rfl) (fun w _ => by rw [HVT.out]; exact run_take 66 (.tmp 7) (.tmp 8) rfl undRMembers sizeRMember rfl rfl hkC) (by assumption) ?_
  try simp only [Act.put, List.setIfInBounds_toArray, List.set_cons_zero, List.set_cons_succ]
  refine takeUw (i := 6) (v := ?v6_5) rfl (by kernel_rfl) (fun _ _ _ h => h) (by rfl) ?hy6_5 (by assumption) ?rest6_5
  case hy6_5 => (intro w hSw; (try dsimp only at hSw); go_simp; try with_reducible rfl)
  try simp only [Act.put, List.setIfInBounds_toArray, List.set_cons_zero, List.set_cons_succ]
  refine takeUw (i := 7) (v := ?v7_6) rfl (by kernel_rfl) (fun _ _ _ h => h) (by rfl) ?hy7_6 (by assumption) ?rest7_6
  case hy7_6 => (intro w hSw; (try dsimp only at hSw); go_simp; try with_reducible rfl)
  try simp only [Act.put, List.setIfInBounds_toArray, List.set_cons_zero, List.set_cons_succ]
  refine takeUw (i := 8) (v := ?v8_7) rfl (by kernel_rfl) (fun _ _ _ h => h) (by rfl) ?hy8_7 (by assumption) ?rest8_7
  case hy8_7 => (intro w hSw; (try dsimp only at hSw); go_simp; try with_reducible rfl)
  try simp only [Act.put, List.setIfInBounds_toArray, List.set_cons_zero, List.set_cons_succ]
  refine takeUw (i := 9) (v := ?v9_8) rfl (by kernel_rfl) (fun _ _ _ h => h) (by rfl) ?hy9_8 (by assumption) ?rest9_8
  case hy9_8 => (intro w hSw; (try dsimp only at hSw); go_simp; try with_reducible rfl)
  try simp only [Act.put, List.setIfInBounds_toArray, List.set_cons_zero, List.set_cons_succ]
  refine takeUw (i := 10) (v := vD) rfl (by kernel_rfl) (fun _ _ _ h => h) (by rfl) (fun w _ => by rw [HVD.out]; exact run_drop 66 (.tmp 12) (.tmp 14) rfl undRMembers sizeRMember rfl rfl hkM1) (by assumption) ?_
  try simp only [Act.put, List.setIfInBounds_toArray, List.set_cons_zero, List.set_cons_succ]
  refine readyU (rs := [0]) (by kernel_rfl) (by simp) ?_
  refine consU rfl (fun K hK => ?_) (nilU)
  go_simp
  obtain ⟨w9, hw9⟩ : ∃ X, X = wc1.alloc (.cells #[] 106) := ⟨_, rfl⟩
  rw [← hw9]
  have hb9 : Below wc1.heap.size wc1 w9 := by rw [hw9]; exact below_a _ _
  have hW9 := Below.step hWc1 hb9
  have o0 : w9.ownsRow W0.heap.size 106 4 (.slice (some ⟨wc1.heap.size, 0, none⟩) 0 0) 0 [] := by rw [hw9]; exact World.ownsRow_lit _ #[] 0 hWc1.size (by unfold maxLen; omega) rfl
  clear hw9
  refine hK.out _ _ (held_1 hW9 hS00) (fun hHeld0 => ?_)
  clear hK K
  try simp only [Act.put, List.setIfInBounds_toArray, List.set_cons_zero, List.set_cons_succ]
  refine readyU (rs := [5]) (by kernel_rfl) (by simp) ?_
  refine consU rfl (fun K hK => ?_) (nilU)
  refine stepF rfl (.tmp 5) (.tmp 9) 66 rfl W0.heap.size 106 i0 (.agg #[.int .i64 0, .int .u64 0, .int .u32 0, .int .u32 0]) 4 24 encMs_ok Try.underlying66 hi hz0 hz1 hz2 rfl _ rfl o0 _ _ rfl (RT.out.later hW9) (by have := hlT.out; unfold maxLen; omega) (by have := hlT.out; omega) hW9.size ?_
  intro v10 w10 o5 hb10 hp10
  have hW10 := Below.step hW9 hb10
  refine hK.out _ _ (held_1 hW10 hS00) (fun hHeld5 => ?_)
  clear hK K
  try simp only [Act.put, List.setIfInBounds_toArray, List.set_cons_zero, List.set_cons_succ]
  refine readyU (rs := [11]) (by kernel_rfl) (by simp) ?_
  refine consU rfl (fun K hK => ?_) (nilU)
  refine stepR rfl (.tmp 10) (.tmp 15) 66 rfl W0.heap.size 106 i0 (.agg #[.int .i64 0, .int .u64 0, .int .u32 0, .int .u32 0]) 4 24 encMs_ok Try.underlying66 hi hz0 hz1 hz2 rfl _ _ _ rfl o5 _ _ rfl (RD.out.later hW10) (by have := hlT.out; have := hlD.out; unfold maxLen; omega) (by have := hlT.out; have := hlD.out; omega) hW10.size ?_
  intro v11 w11 o11 hg11 hp11 hn11
  have hW11 : Below W0.heap.size W0 w11 := hW10.grown hg11 hW10.size (fun g hg => (o5.lt g hg).1)
  refine hK.out _ _ (held_1 hW11 hS00) (fun hHeld11 => ?_)
  clear hK K
  try simp only [Act.put, List.setIfInBounds_toArray, List.set_cons_zero, List.set_cons_succ]
  refine takeUw (i := 12) (v := ?v12_12) rfl (by kernel_rfl) (fun _ _ _ h => h) (by rfl) ?hy12_12 (by assumption) ?rest12_12
  case hy12_12 => (intro w hSw; (try dsimp only at hSw); go_simp; try with_reducible rfl)
  try simp only [Act.put, List.setIfInBounds_toArray, List.set_cons_zero, List.set_cons_succ]
  refine readyU (rs := [13]) (by kernel_rfl) (by simp) ?_
  refine consV rfl (by kernel_rfl) (fun K hK => ?_) (nilU)
  obtain ⟨ga, gc, rfl⟩ := own_shapeM o11
  generalize hN : (S.take k).length + (S.drop (k + 1)).length = N at o11 ⊢
  have HN := Lib.hid hN
  clear hN
  replace fc0 := frz_later hW11 fc0 (lt_of_cell c0)
  replace fc1 := frz_later hW11 fc1 (lt_of_cell c1)
  replace fc2 := frz_later hW11 fc2 (lt_of_cell c2)
  replace fr0 := frz_later hW11 fr0 (lt_of_cell r0)
  replace fr1 := frz_later hW11 fr1 (lt_of_cell r1)
  replace fr2 := frz_later hW11 fr2 (lt_of_cell r2)
  replace c0 := cell_later hW11 c0
  replace c1 := cell_later hW11 c1
  replace c2 := cell_later hW11 c2
  replace r0 := cell_later hW11 r0
  replace r1 := cell_later hW11 r1
  replace r2 := cell_later hW11 r2
  go_simp
  refine hK.out _ _ ?_
  clear hK K
  try simp only [Act.put, List.setIfInBounds_toArray, List.set_cons_zero, List.set_cons_succ]
  refine doneU (by kernel_rfl) ?_ _
  have HB4 := Lib.hid (Below.step HB0.out hW11)
  replace c0 : (w11.setCell ⟨bx, 1, none⟩ (.slice ga N gc)).cell? ⟨bx, 0, none⟩ = some (.int .i64 n) := cell_set_ne c0 (by simp)
  replace c1 : (w11.setCell ⟨bx, 1, none⟩ (.slice ga N gc)).cell? ⟨bx, 1, none⟩ = some (.slice ga N gc) := cell_set_eq c1
  replace c2 : (w11.setCell ⟨bx, 1, none⟩ (.slice ga N gc)).cell? ⟨bx, 2, none⟩ = some (.int .u64 fl) := cell_set_ne c2 (by simp)
  replace r0 : (w11.setCell ⟨bx, 1, none⟩ (.slice ga N gc)).cell? ⟨bx + 1, 0, none⟩ = some (.int .i64 0) := cell_set_ne r0 (by simp)
  replace r1 : (w11.setCell ⟨bx, 1, none⟩ (.slice ga N gc)).cell? ⟨bx + 1, 1, none⟩ = some (.slice none 0 0) := cell_set_ne r1 (by first | (simp; done) | (simp; omega) | omega)
  replace r2 : (w11.setCell ⟨bx, 1, none⟩ (.slice ga N gc)).cell? ⟨bx + 1, 2, none⟩ = some (.int .u64 0) := cell_set_ne r2 (by simp)
  replace fr0 : (w11.setCell ⟨bx, 1, none⟩ (.slice ga N gc)).frozen? ⟨bx + 1, 0, none⟩ = false := by rw [World.frozen?_setCell]; exact fr0
  replace fr1 : (w11.setCell ⟨bx, 1, none⟩ (.slice ga N gc)).frozen? ⟨bx + 1, 1, none⟩ = false := by rw [World.frozen?_setCell]; exact fr1
  replace fr2 : (w11.setCell ⟨bx, 1, none⟩ (.slice ga N gc)).frozen? ⟨bx + 1, 2, none⟩ = false := by rw [World.frozen?_setCell]; exact fr2
  have HNEW := Lib.hid (show NewM W0 w11 (.slice a M cap) S (.slice ga N gc) (dropK S k) from fun F hF _ => own_heldR (L := dropK S k) (F := F) encMs_ok o11 (by unfold dropK; rw [← HN.out, List.length_append]) (by unfold dropK; rw [flatR_app]) hF)
  have HLEN := Lib.hid (show N = (dropK S k).length by unfold dropK; rw [← HN.out, List.length_append])
  obtain ⟨wq, hwq⟩ : ∃ wq, wq = (w11.setCell ⟨bx, 1, none⟩ (.slice ga N gc)) := ⟨_, rfl⟩
  rw [← hwq] at c0 c1 c2 r0 r1 r2 fr0 fr1 fr2 ⊢
  have HWQ := Lib.hid hwq
  clear hwq fc0 fc1 fc2 o11
  go_wp2_with fail
  refine bodyPost_ret (v := rqV n ga N gc fl) (by simp [results, Try.results61, go_sem, rqV, *]) rfl ?_
  have KF : Kept [bx, bx + 1] w11 (((wq.setCell ⟨bx + 1, 0, none⟩ (.int .i64 n)).setCell ⟨bx + 1, 1, none⟩ (.slice ga N gc)).setCell ⟨bx + 1, 2, none⟩ (.int .u64 fl)) := by
    rw [HWQ.out]; exact ((((Kept.refl _ _).setCell (Or.inl (by simp)) _).setCell (Or.inl (by simp)) _).setCell (Or.inl (by simp)) _).setCell (Or.inl (by simp)) _
  rw [HLEN.out] at KF HNEW ⊢
  exact ⟨_, _, rfl, NewM.wrap HNEW.out HB0.out (fun b hb => by rw [HBX.out, HSZ.out]; exact in2 hb) KF, Kept.stepB HB4.out (Nat.le_refl _) KF (fun b hb => by rw [HBX.out]; exact (in2 hb).1)⟩
end Go.Proofs.Ytekjakmeopolhaa
namespace Go.Proofs.Ytekjakmeopolhaa
open Go.RowKit Go.Maps Go.IntWalk Go.Lib
set_option linter.unusedVariables false
set_option linter.unusedSimpArgs false
/-- what the reference's members are -/
structure RefM (S : Mems) : Prop where
  mok : MemsOk S
  len : S.length ≤ 390000
def RResP (w : World) (v0 : Value) (S0 : Mems) (n fl : Int) (S : Mems) (c : Int) (e : Ending) (w' : World) : Prop := ∃ a cap, e = .returned (.tuple #[rqV n a S.length cap fl, .int .i64 c]) ∧ NewM w w' v0 S0 (.slice a S.length cap) S ∧ Below w.heap.size w w'
theorem put_len' (S : Mems) (x : Int × Ent) : (putM S x).length = S.length + 1 := put_len S x
set_option maxRecDepth 100000 in
set_option maxHeartbeats 4000000 in
theorem rEnter_any (a : Option Addr) (cap : Nat) (n fl id : Int) (x : Ent) (S : Mems) (w : World) (h : HeldR encMs [] w (.slice a S.length cap) S) (hS : RefM S) (hx : Ch.Fits x.1 x.2.1 x.2.2) :
    Calls Try.prog 46 #[.agg #[.int .i64 n, .slice a S.length cap, .int .u64 fl], .int .i64 id, .agg #[.int .u64 x.1, .int .u32 x.2.1, .int .u32 x.2.2]] w (RResP w (.slice a S.length cap) S n (enterF n S id x fl) (enterM n S id x) (enterC n S id x)) := by
  have HV := Lib.hid h
  have HS := Lib.hid hS
  have HFX := Lib.hid hx
  have FIN : ∀ c W, enterC n S id x = c → c ≠ 0 → Below w.heap.size w W → RResP w (.slice a S.length cap) S n (enterF n S id x fl) (enterM n S id x) (enterC n S id x) (.returned (.tuple #[rqV n a S.length cap fl, .int .i64 c])) W := fun c W e hc hb => by
    obtain ⟨p1, p2⟩ := enter_no e hc
    rw [e, p1, p2 fl]
    exact ⟨a, cap, rfl, NewM.same hb, hb⟩
  have HFIN := Lib.hid FIN
  have AF := Lib.hid fun (W : World) (q : RecsAt encMs W (.slice a S.length cap) S) => rFind_any a cap n fl id S W q
  have AWi := Lib.hid fun (W : World) (q : HeldR encMs [] W (.slice a S.length cap) S) => rwith_any a cap n fl S (id, x) W q (by have := hS.len; omega)
  clear h hS hx FIN
  obtain ⟨L, hL⟩ : ∃ L, L = S.length := ⟨_, rfl⟩
  have HLL := Lib.hid hL
  rw [← hL] at HV HFIN AF AWi ⊢
  clear hL
  obtain ⟨W0, hW0⟩ : ∃ W0, W0 = (((w.alloc (.cells #[.int .i64 n, .slice a L cap, .int .u64 fl] 68)).alloc (.cells #[.int .u64 x.1, .int .u32 x.2.1, .int .u32 x.2.2] 99)).alloc (.cells #[.int .i64 0, .slice none 0 0, .int .u64 0] 68)) := ⟨_, rfl⟩
  have HB0 := Lib.hid (show Below w.heap.size w W0 by rw [hW0]; exact (Below.allocS (Below.allocS (Below.allocS (Below.refl _ _) _) _) _))
  have c0 : W0.cell? ⟨w.heap.size, 0, none⟩ = some (.int .i64 n) := by rw [hW0]; exact cell_al _ (cell_al _ (cell_nwE (by simp) _ _ 0 _ rfl))
  have fc0 : W0.frozen? ⟨w.heap.size, 0, none⟩ = false := by rw [hW0]; exact frz_later (below_a _ _) (frz_later (below_a _ _) (frz_nwE (by simp) _ _ 0) (by first | (simp; done) | (simp; omega))) (by first | (simp; done) | (simp; omega))
  have c1 : W0.cell? ⟨w.heap.size, 1, none⟩ = some (.slice a L cap) := by rw [hW0]; exact cell_al _ (cell_al _ (cell_nwE (by simp) _ _ 1 _ rfl))
  have fc1 : W0.frozen? ⟨w.heap.size, 1, none⟩ = false := by rw [hW0]; exact frz_later (below_a _ _) (frz_later (below_a _ _) (frz_nwE (by simp) _ _ 1) (by first | (simp; done) | (simp; omega))) (by first | (simp; done) | (simp; omega))
  have c2 : W0.cell? ⟨w.heap.size, 2, none⟩ = some (.int .u64 fl) := by rw [hW0]; exact cell_al _ (cell_al _ (cell_nwE (by simp) _ _ 2 _ rfl))
  have fc2 : W0.frozen? ⟨w.heap.size, 2, none⟩ = false := by rw [hW0]; exact frz_later (below_a _ _) (frz_later (below_a _ _) (frz_nwE (by simp) _ _ 2) (by first | (simp; done) | (simp; omega))) (by first | (simp; done) | (simp; omega))
  have x0 : W0.cell? ⟨w.heap.size + 1, 0, none⟩ = some (.int .u64 x.1) := by rw [hW0]; exact cell_al _ (cell_nwE (by simp) _ _ 0 _ rfl)
  have fx0 : W0.frozen? ⟨w.heap.size + 1, 0, none⟩ = false := by rw [hW0]; exact frz_later (below_a _ _) (frz_nwE (by simp) _ _ 0) (by first | (simp; done) | (simp; omega))
  have x1 : W0.cell? ⟨w.heap.size + 1, 1, none⟩ = some (.int .u32 x.2.1) := by rw [hW0]; exact cell_al _ (cell_nwE (by simp) _ _ 1 _ rfl)
  have fx1 : W0.frozen? ⟨w.heap.size + 1, 1, none⟩ = false := by rw [hW0]; exact frz_later (below_a _ _) (frz_nwE (by simp) _ _ 1) (by first | (simp; done) | (simp; omega))
  have x2 : W0.cell? ⟨w.heap.size + 1, 2, none⟩ = some (.int .u32 x.2.2) := by rw [hW0]; exact cell_al _ (cell_nwE (by simp) _ _ 2 _ rfl)
  have fx2 : W0.frozen? ⟨w.heap.size + 1, 2, none⟩ = false := by rw [hW0]; exact frz_later (below_a _ _) (frz_nwE (by simp) _ _ 2) (by first | (simp; done) | (simp; omega))
  have r0 : W0.cell? ⟨w.heap.size + 1 + 1, 0, none⟩ = some (.int .i64 0) := by rw [hW0]; exact cell_nwE (by simp) _ _ 0 _ rfl
  have fr0 : W0.frozen? ⟨w.heap.size + 1 + 1, 0, none⟩ = false := by rw [hW0]; exact frz_nwE (by simp) _ _ 0
  have r1 : W0.cell? ⟨w.heap.size + 1 + 1, 1, none⟩ = some (.slice none 0 0) := by rw [hW0]; exact cell_nwE (by simp) _ _ 1 _ rfl
  have fr1 : W0.frozen? ⟨w.heap.size + 1 + 1, 1, none⟩ = false := by rw [hW0]; exact frz_nwE (by simp) _ _ 1
  have r2 : W0.cell? ⟨w.heap.size + 1 + 1, 2, none⟩ = some (.int .u64 0) := by rw [hW0]; exact cell_nwE (by simp) _ _ 2 _ rfl
  have fr2 : W0.frozen? ⟨w.heap.size + 1 + 1, 2, none⟩ = false := by rw [hW0]; exact frz_nwE (by simp) _ _ 2
  have HSZ := Lib.hid (show W0.heap.size = w.heap.size + 1 + 1 + 1 by rw [hW0]; simp)
  have HW0 := Lib.hid hW0
  clear hW0
  by_cases h0 : id < 0
  · have z1 : decide (id < 0) = true := decide_eq_true h0
    have HC := Lib.hid (show enterC n S id x = 2 from enter_bad (by unfold hasV; exact decide_eq_false (by omega)))
    clear h0
    go_enter Try.func46, Try.ntmps46
    go_wp2_with fail
    refine bodyPost_ret (v := (.tuple #[rqV n a L cap fl, .int .i64 2])) (by simp [results, Try.results46, go_sem, rqV, *]) rfl ?_
    refine HFIN.out 2 _ HC.out (by decide) ?_
    exact Below.allocS (Below.allocS (Below.allocS (Below.refl _ _) _) _) _
  · have z1 : decide (id < 0) = false := decide_eq_false h0
    by_cases h1 : n ≤ id
    · have z2 : decide (n ≤ id) = true := decide_eq_true h1
      have z2' : decide (id ≥ n) = true := decide_eq_true h1
      have HC := Lib.hid (show enterC n S id x = 2 from enter_bad (by unfold hasV; exact decide_eq_false (by omega)))
      clear h0 h1
      go_enter Try.func46, Try.ntmps46
      go_wp2_with fail
      refine bodyPost_ret (v := (.tuple #[rqV n a L cap fl, .int .i64 2])) (by simp [results, Try.results46, go_sem, rqV, *]) rfl ?_
      refine HFIN.out 2 _ HC.out (by decide) ?_
      exact Below.allocS (Below.allocS (Below.allocS (Below.refl _ _) _) _) _
    · have z2 : decide (n ≤ id) = false := decide_eq_false h1
      have z2' : decide (id ≥ n) = false := decide_eq_false h1
      have z2q : (n ≤ id) = False := eq_false h1
      have HH := Lib.hid (show hasV n id = true from has_true (by omega) (by omega))
      clear h0 h1
      go_enter Try.func46, Try.ntmps46
      go_wp2_with fail
      rw [← HW0.out]
      generalize hbx : w.heap.size = bx at c0 c1 c2 x0 x1 x2 r0 r1 r2 fc0 fc1 fc2 fx0 fx1 fx2 fr0 fr1 fr2 HSZ  ⊢
      have HBX := Lib.hid hbx
      clear hbx HW0
      refine (rRight_any x.1 x.2.1 x.2.2 _ HFX.out).mono ?_
      rintro e w1 ⟨rfl, hb1⟩
      replace fc0 := frz_later hb1 fc0 (lt_of_cell c0)
      replace fc1 := frz_later hb1 fc1 (lt_of_cell c1)
      replace fc2 := frz_later hb1 fc2 (lt_of_cell c2)
      replace fx0 := frz_later hb1 fx0 (lt_of_cell x0)
      replace fx1 := frz_later hb1 fx1 (lt_of_cell x1)
      replace fx2 := frz_later hb1 fx2 (lt_of_cell x2)
      replace fr0 := frz_later hb1 fr0 (lt_of_cell r0)
      replace fr1 := frz_later hb1 fr1 (lt_of_cell r1)
      replace fr2 := frz_later hb1 fr2 (lt_of_cell r2)
      replace c0 := cell_later hb1 c0
      replace c1 := cell_later hb1 c1
      replace c2 := cell_later hb1 c2
      replace x0 := cell_later hb1 x0
      replace x1 := cell_later hb1 x1
      replace x2 := cell_later hb1 x2
      replace r0 := cell_later hb1 r0
      replace r1 := cell_later hb1 r1
      replace r2 := cell_later hb1 r2
      have HB1 := Lib.hid (Below.step HB0.out hb1)
      have HZ1 := Lib.hid hb1.size
      clear hb1
      by_cases ho : Ch.Ok x.1 x.2.1 x.2.2
      · rw [Ch.okB_t ho]
        have HO := Lib.hid ho
        clear ho
        go_wp2_with fail
        refine (AF.out w1 (HV.out.later HB1.out).recs).mono ?_
        rintro e w2 ⟨rfl, hg2⟩
        have hb2 := hg2.below
        replace fc0 := frz_later hb2 fc0 (lt_of_cell c0)
        replace fc1 := frz_later hb2 fc1 (lt_of_cell c1)
        replace fc2 := frz_later hb2 fc2 (lt_of_cell c2)
        replace fx0 := frz_later hb2 fx0 (lt_of_cell x0)
        replace fx1 := frz_later hb2 fx1 (lt_of_cell x1)
        replace fx2 := frz_later hb2 fx2 (lt_of_cell x2)
        replace fr0 := frz_later hb2 fr0 (lt_of_cell r0)
        replace fr1 := frz_later hb2 fr1 (lt_of_cell r1)
        replace fr2 := frz_later hb2 fr2 (lt_of_cell r2)
        replace c0 := cell_later hb2 c0
        replace c1 := cell_later hb2 c1
        replace c2 := cell_later hb2 c2
        replace x0 := cell_later hb2 x0
        replace x1 := cell_later hb2 x1
        replace x2 := cell_later hb2 x2
        replace r0 := cell_later hb2 r0
        replace r1 := cell_later hb2 r1
        replace r2 := cell_later hb2 r2
        have HB2 := Lib.hid (Below.step HB1.out hb2)
        have HZ2 := Lib.hid hb2.size
        clear hb2 hg2
        rcases findM_cases S id with ⟨k, hk, hf, hid, hfst⟩ | ⟨hf, hkn⟩
        · have HE := Lib.hid ((ent_some HS.out.mok.nod).2 (show (id, S[k]!.2) ∈ S by rw [← hid, getElem!_pos S k hk]; exact List.getElem_mem _))
          have HC := Lib.hid (enter_there HH.out HO.out HE.out)
          rw [hf]
          have zk : decide ((k : Int) ≥ 0) = true := decide_eq_true (by omega)
          have zk2 : (0 : Int) ≤ (k : Int) := by omega
          clear hk hf hid hfst
          go_wp2_with fail
          refine bodyPost_ret (v := (.tuple #[rqV n a L cap fl, .int .i64 240])) (by simp [results, Try.results46, go_sem, rqV, *]) rfl ?_
          refine HFIN.out 240 _ HC.out (by decide) ?_
          repeat (refine Below.setCell ?_ (by have := HBX.out; first | (simp; omega) | (simp; done)) _)
          exact HB2.out
        · obtain ⟨q1, q2⟩ := enter_new HH.out HO.out hkn
          have Q1 := Lib.hid q1
          have Q2 := Lib.hid q2
          rw [hf]
          clear q1 q2 hf hkn
          go_wp2_with fail
          refine (AWi.out w2 (HV.out.later HB2.out)).mono ?_
          rintro e w3 ⟨a3, cap3, rfl, hn3, hb3⟩
          unfold rqV
          replace fc0 := frz_later hb3 fc0 (lt_of_cell c0)
          replace fc1 := frz_later hb3 fc1 (lt_of_cell c1)
          replace fc2 := frz_later hb3 fc2 (lt_of_cell c2)
          replace fx0 := frz_later hb3 fx0 (lt_of_cell x0)
          replace fx1 := frz_later hb3 fx1 (lt_of_cell x1)
          replace fx2 := frz_later hb3 fx2 (lt_of_cell x2)
          replace fr0 := frz_later hb3 fr0 (lt_of_cell r0)
          replace fr1 := frz_later hb3 fr1 (lt_of_cell r1)
          replace fr2 := frz_later hb3 fr2 (lt_of_cell r2)
          replace c0 := cell_later hb3 c0
          replace c1 := cell_later hb3 c1
          replace c2 := cell_later hb3 c2
          replace x0 := cell_later hb3 x0
          replace x1 := cell_later hb3 x1
          replace x2 := cell_later hb3 x2
          replace r0 := cell_later hb3 r0
          replace r1 := cell_later hb3 r1
          replace r2 := cell_later hb3 r2
          have HN3 := Lib.hid hn3
          have H3 := Lib.hid (hn3.recs (HV.out.later HB2.out))
          have HB3 := Lib.hid (Below.step HB2.out hb3)
          have HZ3 := Lib.hid hb3.size
          clear hb3 hn3
          go_wp2_with fail
          refine (rraised_any a3 cap3 n fl (putM S (id, x)) w3 H3.out.recs).mono ?_
          rintro e w4 ⟨rfl, hb4⟩
          unfold rqV
          replace fc0 := frz_later hb4 fc0 (lt_of_cell c0)
          replace fc1 := frz_later hb4 fc1 (lt_of_cell c1)
          replace fc2 := frz_later hb4 fc2 (lt_of_cell c2)
          replace fx0 := frz_later hb4 fx0 (lt_of_cell x0)
          replace fx1 := frz_later hb4 fx1 (lt_of_cell x1)
          replace fx2 := frz_later hb4 fx2 (lt_of_cell x2)
          replace fr0 := frz_later hb4 fr0 (lt_of_cell r0)
          replace fr1 := frz_later hb4 fr1 (lt_of_cell r1)
          replace fr2 := frz_later hb4 fr2 (lt_of_cell r2)
          replace c0 := cell_later hb4 c0
          replace c1 := cell_later hb4 c1
          replace c2 := cell_later hb4 c2
          replace x0 := cell_later hb4 x0
          replace x1 := cell_later hb4 x1
          replace x2 := cell_later hb4 x2
          replace r0 := cell_later hb4 r0
          replace r1 := cell_later hb4 r1
          replace r2 := cell_later hb4 r2
          have HN4 := Lib.hid (HN3.out.trans (NewM.same hb4) HZ3.out)
          have HB4 := Lib.hid (Below.step HB3.out hb4)
          have hef : enterF n S id x fl = riseF (itemsM (putM S (id, x))) fl := by unfold enterF; rw [if_pos Q1.out]
          have HEF := Lib.hid hef
          obtain ⟨N, hN⟩ : ∃ N, N = (putM S (id, x)).length := ⟨_, rfl⟩
          have HNN := Lib.hid hN
          rw [← hN] at HN4 ⊢
          generalize riseF (itemsM (putM S (id, x))) fl = f4 at *
          clear hb4 hN hef
          go_wp2_with fail
          refine bodyPost_ret (v := (.tuple #[rqV n a3 N cap3 f4, .int .i64 0])) (by simp [results, Try.results46, go_sem, rqV, *]) rfl ?_
          have KF : Kept [bx, bx + 1, bx + 1 + 1] w4 (((w4.setCell ⟨bx + 1 + 1, 0, none⟩ (.int .i64 n)).setCell ⟨bx + 1 + 1, 1, none⟩ (.slice a3 N cap3)).setCell ⟨bx + 1 + 1, 2, none⟩ (.int .u64 f4)) := (((Kept.refl _ _).setCell (Or.inl (by simp)) _).setCell (Or.inl (by simp)) _).setCell (Or.inl (by simp)) _
          rw [Q1.out, Q2.out, HEF.out]
          rw [HNN.out] at HN4 KF ⊢
          refine ⟨_, _, rfl, ?_, Kept.stepB HB4.out (Nat.le_refl _) KF (fun b hb => by rw [HBX.out]; exact (in3 hb).1)⟩
          exact NewM.wrap HN4.out HB2.out (fun b hb => by have := (in3 hb); have := HBX.out; have := HSZ.out; have := HZ1.out; have := HZ2.out; omega) KF
      · rw [Ch.okB_f ho]
        have HC := Lib.hid (show enterC n S id x = 2 from enter_wrong ho)
        clear ho
        go_wp2_with fail
        refine bodyPost_ret (v := (.tuple #[rqV n a L cap fl, .int .i64 2])) (by simp [results, Try.results46, go_sem, rqV, *]) rfl ?_
        refine HFIN.out 2 _ HC.out (by decide) ?_
        repeat (refine Below.setCell ?_ (by have := HBX.out; first | (simp; omega) | (simp; done)) _)
        exact HB1.out
end Go.Proofs.Ytekjakmeopolhaa
namespace Go.Proofs.Ytekjakmeopolhaa
open Go.RowKit Go.Maps Go.IntWalk Go.Lib
set_option linter.unusedVariables false
set_option linter.unusedSimpArgs false
def RLvP (w : World) (v0 : Value) (S0 : Mems) (n fl : Int) (S : Mems) (x : Ent) (c : Int) (e : Ending) (w' : World) : Prop := ∃ a cap, e = .returned (.tuple #[rqV n a S.length cap fl, .agg #[.int .u64 x.1, .int .u32 x.2.1, .int .u32 x.2.2], .int .i64 c]) ∧ NewM w w' v0 S0 (.slice a S.length cap) S ∧ Below w.heap.size w w'
theorem leave_none {n : Int} {M : Mems} {id : Int} (h : hasV n id = true) (hE : entM M id = none) : leaveC n M id = 6 := by unfold leaveC; rw [h, hE]; rfl
set_option maxRecDepth 100000 in
set_option maxHeartbeats 1000000 in
theorem rLeave_any (a : Option Addr) (cap : Nat) (n fl id : Int) (S : Mems) (w : World) (h : HeldR encMs [] w (.slice a S.length cap) S) (hS : RefM S) :
    Calls Try.prog 47 #[.agg #[.int .i64 n, .slice a S.length cap, .int .u64 fl], .int .i64 id] w (RLvP w (.slice a S.length cap) S n (leaveF n S id fl) (leaveM n S id) (leaveE n S id) (leaveC n S id)) := by
  have HV := Lib.hid h
  have HS := Lib.hid hS
  have FIN : ∀ c W, leaveC n S id = c → c ≠ 0 → Below w.heap.size w W → RLvP w (.slice a S.length cap) S n (leaveF n S id fl) (leaveM n S id) (leaveE n S id) (leaveC n S id) (.returned (.tuple #[rqV n a S.length cap fl, .agg #[.int .u64 0, .int .u32 0, .int .u32 0], .int .i64 c])) W := fun c W e hc hb => by
    obtain ⟨p1, p2, p3⟩ := leave_no e hc
    rw [e, p1, p2, p3 fl]
    exact ⟨a, cap, rfl, NewM.same hb, hb⟩
  have HFIN := Lib.hid FIN
  have AF := Lib.hid fun (W : World) (q : RecsAt encMs W (.slice a S.length cap) S) => rFind_any a cap n fl id S W q
  have AWo := Lib.hid fun (k : Nat) (hk : k < S.length) (W : World) (q : HeldR encMs [] W (.slice a S.length cap) S) => rwithout_any a cap n fl S k hk W q (by have := hS.len; omega)
  clear h hS FIN
  obtain ⟨L, hL⟩ : ∃ L, L = S.length := ⟨_, rfl⟩
  have HLL := Lib.hid hL
  rw [← hL] at HV HFIN AF AWo ⊢
  clear hL
  obtain ⟨W0, hW0⟩ : ∃ W0, W0 = (((w.alloc (.cells #[.int .i64 n, .slice a L cap, .int .u64 fl] 68)).alloc (.cells #[.int .i64 0, .slice none 0 0, .int .u64 0] 68)).alloc (.cells #[.int .u64 0, .int .u32 0, .int .u32 0] 99)) := ⟨_, rfl⟩
  have HB0 := Lib.hid (show Below w.heap.size w W0 by rw [hW0]; exact (Below.allocS (Below.allocS (Below.allocS (Below.refl _ _) _) _) _))
  have c0 : W0.cell? ⟨w.heap.size, 0, none⟩ = some (.int .i64 n) := by rw [hW0]; exact cell_al _ (cell_al _ (cell_nwE (by simp) _ _ 0 _ rfl))
  have fc0 : W0.frozen? ⟨w.heap.size, 0, none⟩ = false := by rw [hW0]; exact frz_later (below_a _ _) (frz_later (below_a _ _) (frz_nwE (by simp) _ _ 0) (by first | (simp; done) | (simp; omega))) (by first | (simp; done) | (simp; omega))
  have c1 : W0.cell? ⟨w.heap.size, 1, none⟩ = some (.slice a L cap) := by rw [hW0]; exact cell_al _ (cell_al _ (cell_nwE (by simp) _ _ 1 _ rfl))
  have fc1 : W0.frozen? ⟨w.heap.size, 1, none⟩ = false := by rw [hW0]; exact frz_later (below_a _ _) (frz_later (below_a _ _) (frz_nwE (by simp) _ _ 1) (by first | (simp; done) | (simp; omega))) (by first | (simp; done) | (simp; omega))
  have c2 : W0.cell? ⟨w.heap.size, 2, none⟩ = some (.int .u64 fl) := by rw [hW0]; exact cell_al _ (cell_al _ (cell_nwE (by simp) _ _ 2 _ rfl))
  have fc2 : W0.frozen? ⟨w.heap.size, 2, none⟩ = false := by rw [hW0]; exact frz_later (below_a _ _) (frz_later (below_a _ _) (frz_nwE (by simp) _ _ 2) (by first | (simp; done) | (simp; omega))) (by first | (simp; done) | (simp; omega))
  have r0 : W0.cell? ⟨w.heap.size + 1, 0, none⟩ = some (.int .i64 0) := by rw [hW0]; exact cell_al _ (cell_nwE (by simp) _ _ 0 _ rfl)
  have fr0 : W0.frozen? ⟨w.heap.size + 1, 0, none⟩ = false := by rw [hW0]; exact frz_later (below_a _ _) (frz_nwE (by simp) _ _ 0) (by first | (simp; done) | (simp; omega))
  have r1 : W0.cell? ⟨w.heap.size + 1, 1, none⟩ = some (.slice none 0 0) := by rw [hW0]; exact cell_al _ (cell_nwE (by simp) _ _ 1 _ rfl)
  have fr1 : W0.frozen? ⟨w.heap.size + 1, 1, none⟩ = false := by rw [hW0]; exact frz_later (below_a _ _) (frz_nwE (by simp) _ _ 1) (by first | (simp; done) | (simp; omega))
  have r2 : W0.cell? ⟨w.heap.size + 1, 2, none⟩ = some (.int .u64 0) := by rw [hW0]; exact cell_al _ (cell_nwE (by simp) _ _ 2 _ rfl)
  have fr2 : W0.frozen? ⟨w.heap.size + 1, 2, none⟩ = false := by rw [hW0]; exact frz_later (below_a _ _) (frz_nwE (by simp) _ _ 2) (by first | (simp; done) | (simp; omega))
  have y0 : W0.cell? ⟨w.heap.size + 1 + 1, 0, none⟩ = some (.int .u64 0) := by rw [hW0]; exact cell_nwE (by simp) _ _ 0 _ rfl
  have fy0 : W0.frozen? ⟨w.heap.size + 1 + 1, 0, none⟩ = false := by rw [hW0]; exact frz_nwE (by simp) _ _ 0
  have y1 : W0.cell? ⟨w.heap.size + 1 + 1, 1, none⟩ = some (.int .u32 0) := by rw [hW0]; exact cell_nwE (by simp) _ _ 1 _ rfl
  have fy1 : W0.frozen? ⟨w.heap.size + 1 + 1, 1, none⟩ = false := by rw [hW0]; exact frz_nwE (by simp) _ _ 1
  have y2 : W0.cell? ⟨w.heap.size + 1 + 1, 2, none⟩ = some (.int .u32 0) := by rw [hW0]; exact cell_nwE (by simp) _ _ 2 _ rfl
  have fy2 : W0.frozen? ⟨w.heap.size + 1 + 1, 2, none⟩ = false := by rw [hW0]; exact frz_nwE (by simp) _ _ 2
  have HSZ := Lib.hid (show W0.heap.size = w.heap.size + 1 + 1 + 1 by rw [hW0]; simp)
  have HW0 := Lib.hid hW0
  clear hW0
  by_cases h0 : id < 0
  · have z1 : decide (id < 0) = true := decide_eq_true h0
    have HC := Lib.hid (show leaveC n S id = 2 from leave_bad (by unfold hasV; exact decide_eq_false (by omega)))
    clear h0
    go_enter Try.func47, Try.ntmps47
    go_wp2_with fail
    refine bodyPost_ret (v := (.tuple #[rqV n a L cap fl, .agg #[.int .u64 0, .int .u32 0, .int .u32 0], .int .i64 2])) (by simp [results, Try.results47, go_sem, rqV, *]) rfl ?_
    refine HFIN.out 2 _ HC.out (by decide) ?_
    exact Below.allocS (Below.allocS (Below.allocS (Below.refl _ _) _) _) _
  · have z1 : decide (id < 0) = false := decide_eq_false h0
    by_cases h1 : n ≤ id
    · have z2 : decide (n ≤ id) = true := decide_eq_true h1
      have z2' : decide (id ≥ n) = true := decide_eq_true h1
      have HC := Lib.hid (show leaveC n S id = 2 from leave_bad (by unfold hasV; exact decide_eq_false (by omega)))
      clear h0 h1
      go_enter Try.func47, Try.ntmps47
      go_wp2_with fail
      refine bodyPost_ret (v := (.tuple #[rqV n a L cap fl, .agg #[.int .u64 0, .int .u32 0, .int .u32 0], .int .i64 2])) (by simp [results, Try.results47, go_sem, rqV, *]) rfl ?_
      refine HFIN.out 2 _ HC.out (by decide) ?_
      exact Below.allocS (Below.allocS (Below.allocS (Below.refl _ _) _) _) _
    · have z2 : decide (n ≤ id) = false := decide_eq_false h1
      have z2' : decide (id ≥ n) = false := decide_eq_false h1
      have z2q : (n ≤ id) = False := eq_false h1
      have HH := Lib.hid (show hasV n id = true from has_true (by omega) (by omega))
      clear h0 h1
      go_enter Try.func47, Try.ntmps47
      go_wp2_with fail
      rw [← HW0.out]
      generalize hbx : w.heap.size = bx at c0 c1 c2 r0 r1 r2 y0 y1 y2 fc0 fc1 fc2 fr0 fr1 fr2 fy0 fy1 fy2 HSZ  ⊢
      have HBX := Lib.hid hbx
      clear hbx HW0
      refine (AF.out W0 (HV.out.later HB0.out).recs).mono ?_
      rintro e w2 ⟨rfl, hg2⟩
      have hb2 := hg2.below
      replace fc0 := frz_later hb2 fc0 (lt_of_cell c0)
      replace fc1 := frz_later hb2 fc1 (lt_of_cell c1)
      replace fc2 := frz_later hb2 fc2 (lt_of_cell c2)
      replace fr0 := frz_later hb2 fr0 (lt_of_cell r0)
      replace fr1 := frz_later hb2 fr1 (lt_of_cell r1)
      replace fr2 := frz_later hb2 fr2 (lt_of_cell r2)
      replace fy0 := frz_later hb2 fy0 (lt_of_cell y0)
      replace fy1 := frz_later hb2 fy1 (lt_of_cell y1)
      replace fy2 := frz_later hb2 fy2 (lt_of_cell y2)
      replace c0 := cell_later hb2 c0
      replace c1 := cell_later hb2 c1
      replace c2 := cell_later hb2 c2
      replace r0 := cell_later hb2 r0
      replace r1 := cell_later hb2 r1
      replace r2 := cell_later hb2 r2
      replace y0 := cell_later hb2 y0
      replace y1 := cell_later hb2 y1
      replace y2 := cell_later hb2 y2
      have HB2 := Lib.hid (Below.step HB0.out hb2)
      have HZ2 := Lib.hid hb2.size
      clear hb2 hg2
      rcases findM_cases S id with ⟨k, hk, hf, hid, hfst⟩ | ⟨hf, hkn⟩
      · have HE := Lib.hid ((ent_some HS.out.mok.nod).2 (show (id, S[k]!.2) ∈ S by rw [← hid, getElem!_pos S k hk]; exact List.getElem_mem _))
        have hdk := dropK_out HS.out.mok.nod hk
        rw [hid] at hdk
        obtain ⟨p1, p2, p3⟩ := leave_there HH.out HE.out
        have P1 := Lib.hid p1
        have P2 := Lib.hid p2
        have P3 := Lib.hid p3
        have HDK := Lib.hid hdk
        have hkL : k < L := by rw [HLL.out]; exact hk
        obtain ⟨-, b, off, rfl, i0, i1, i2, i3⟩ := HV.out.recs.mem hkL
        have HBB := Lib.hid (lt_of_cell i0)
        replace i1 := cell_later HB2.out i1
        replace i2 := cell_later HB2.out i2
        replace i3 := cell_later HB2.out i3
        have A9 := Lib.hid fun (W : World) (q : HeldR encMs [] W (.slice (some ⟨b, off, none⟩) L cap) S) => AWo.out k hkL W q
        obtain ⟨m, hm⟩ : ∃ m, m = S[k]! := ⟨_, rfl⟩
        rw [← hm] at i1 i2 i3
        rw [← hm] at P2
        rw [hf]
        have hk0 : (0 : Int) ≤ (k : Int) := by omega
        have zk : decide ((k : Int) < 0) = false := decide_eq_false (by omega)
        have hkm : (k : Int) < (L : Int) := by omega
        clear hk hf hid hfst hdk p1 p2 p3 hm AWo AF
        clear i0
        go_wp2_with fail
        have hbS : b ∉ [bx + 1, bx + 1 + 1] := fun h => by have := (in3 (x := bx) (b := b) (by simp at h ⊢; omega)); have := HBB.out; have := HBX.out; omega
        have hxS : bx ∉ [bx + 1, bx + 1 + 1] := by simp; omega
        have hS0 : Kept [bx + 1, bx + 1 + 1] w2 w2.drew ∧ w2.drew.cell? ⟨bx, 0, none⟩ = some (.int .i64 n) ∧ w2.drew.cell? ⟨bx, 1, none⟩ = some (.slice (some ⟨b, off, none⟩) L cap) ∧ w2.drew.cell? ⟨bx, 2, none⟩ = some (.int .u64 fl) ∧ w2.drew.cell? ⟨b, off + k * 4 + 1, none⟩ = some (.int .u64 m.2.1) ∧ w2.drew.cell? ⟨b, off + k * 4 + 2, none⟩ = some (.int .u32 m.2.2.1) ∧ w2.drew.cell? ⟨b, off + k * 4 + 3, none⟩ = some (.int .u32 m.2.2.2) := ⟨Kept.drew (Kept.refl _ _), cell_dr c0, cell_dr c1, cell_dr c2, cell_dr i1, cell_dr i2, cell_dr i3⟩
        refine wp_region_held_drew (S := fun w' => Kept [bx + 1, bx + 1 + 1] w2 w' ∧ w'.cell? ⟨bx, 0, none⟩ = some (.int .i64 n) ∧ w'.cell? ⟨bx, 1, none⟩ = some (.slice (some ⟨b, off, none⟩) L cap) ∧ w'.cell? ⟨bx, 2, none⟩ = some (.int .u64 fl) ∧ w'.cell? ⟨b, off + k * 4 + 1, none⟩ = some (.int .u64 m.2.1) ∧ w'.cell? ⟨b, off + k * 4 + 2, none⟩ = some (.int .u32 m.2.2.1) ∧ w'.cell? ⟨b, off + k * 4 + 3, none⟩ = some (.int .u32 m.2.2.2)) (by kernel_rfl) hS0 (fun hHeld => ?_)
        refine takeH (i := 0) (v := ?v0_1) rfl (by kernel_rfl) (fun _ _ _ h => h) (by rfl) ?hy0_1 (by assumption) ?rest0_1
        case hy0_1 => (intro w hSw; (try dsimp only at hSw); go_simp; try with_reducible rfl)
        try simp only [Act.put, List.setIfInBounds_toArray, List.set_cons_zero, List.set_cons_succ]
        refine takeH (i := 1) (v := ?v1_2) rfl (by kernel_rfl) (fun _ _ _ h => h) (by rfl) ?hy1_2 (by assumption) ?rest1_2
        case hy1_2 => (intro w hSw; (try dsimp only at hSw); go_simp; try with_reducible rfl)
        try simp only [Act.put, List.setIfInBounds_toArray, List.set_cons_zero, List.set_cons_succ]
        refine takeH (i := 4) (v := ?v4_3) rfl (by kernel_rfl) (fun _ _ _ h => h) (by rfl) ?hy4_3 (by assumption) ?rest4_3
        case hy4_3 => (intro w hSw; (try dsimp only at hSw); go_simp; try with_reducible rfl)
        try simp only [Act.put, List.setIfInBounds_toArray, List.set_cons_zero, List.set_cons_succ]
        refine takeH (i := 5) (v := ?v5_4) rfl (by kernel_rfl) (fun _ _ _ h => h) (by rfl) ?hy5_4 (by assumption) ?rest5_4
        case hy5_4 => (intro w hSw; (try dsimp only at hSw); go_simp; try with_reducible rfl)
        try simp only [Act.put, List.setIfInBounds_toArray, List.set_cons_zero, List.set_cons_succ]
        refine takeH (i := 6) (v := ?v6_5) rfl (by kernel_rfl) (fun _ _ _ h => h) (by rfl) ?hy6_5 (by assumption) ?rest6_5
        case hy6_5 => (intro w hSw; (try dsimp only at hSw); go_simp; try with_reducible rfl)
        try simp only [Act.put, List.setIfInBounds_toArray, List.set_cons_zero, List.set_cons_succ]
        refine takeH (i := 7) (v := ?v7_6) rfl (by kernel_rfl) (fun _ _ _ h => h) (by rfl) ?hy7_6 (by assumption) ?rest7_6
        case hy7_6 => (intro w hSw; (try dsimp only at hSw); go_simp; try with_reducible rfl)
        try simp only [Act.put, List.setIfInBounds_toArray, List.set_cons_zero, List.set_cons_succ]
        refine takeH (i := 8) (v := ?v8_7) rfl (by kernel_rfl) (fun _ _ _ h => h) (by rfl) ?hy8_7 (by assumption) ?rest8_7
        case hy8_7 => (intro w hSw; (try dsimp only at hSw); go_simp; try with_reducible rfl)
        try simp only [Act.put, List.setIfInBounds_toArray, List.set_cons_zero, List.set_cons_succ]
        refine takeH (i := 9) (v := ?v9_8) rfl (by kernel_rfl) (fun _ _ _ h => h) (by rfl) ?hy9_8 (by assumption) ?rest9_8
        case hy9_8 => (intro w hSw; (try dsimp only at hSw); go_simp; try with_reducible rfl)
        try simp only [Act.put, List.setIfInBounds_toArray, List.set_cons_zero, List.set_cons_succ]
        refine wpAnyH_ready (rs := [2]) (by kernel_rfl) (by simp) ?_
        refine consH rfl (fun K hK => ?_) (AllReadyH.nil)
        go_simp
        refine (A9.out w2.drew (HV.out.later (Below.step HB2.out (Below.refl _ _).drew))).mono ?_
        rintro e w10 ⟨a3, cap3, rfl, hn10, hb10⟩
        unfold rqV
        rw [HDK.out] at hn10 ⊢
        have hk10 : Kept [bx + 1, bx + 1 + 1] w2.drew w10 := Kept.of hb10
        have hB10 : Below w2.heap.size w2 w10 := Below.step (Below.refl _ _).drew hb10
        have H3 := Lib.hid (hn10.recs (HV.out.later (Below.step HB2.out (Below.refl _ _).drew)))
        have HN3 := Lib.hid (NewM.trans (NewM.same (Below.refl w2.heap.size w2).drew) hn10 (Below.refl w2.heap.size w2).drew.size)
        have HB10 := Lib.hid hB10
        clear hn10 hb10 hB10
        obtain ⟨N, hN⟩ : ∃ N, N = (outM S id).length := ⟨_, rfl⟩
        have HNN := Lib.hid hN
        have A10 := Lib.hid (rraised_any a3 cap3 n fl (outM S id) w10 H3.out.recs)
        unfold rqV at A10
        rw [← hN] at HN3 A10 ⊢
        clear hN H3
        go_wp2_with fail
        refine hK.out _ _ ?_ (fun hHeld2 => ?_)
        · (first | assumption | (refine heldK_6 (by assumption) ?_ (by assumption) (by assumption) (by assumption) (by assumption) (by assumption) (by assumption) ; assumption) | (refine heldK_6 (Kept.of (below_ad _ _)) ?_ (by assumption) (by assumption) (by assumption) (by assumption) (by assumption) (by assumption) ; assumption) | (refine heldK_6 (Kept.of (below_a _ _)) ?_ (by assumption) (by assumption) (by assumption) (by assumption) (by assumption) (by assumption) ; assumption))
        clear hK K
        try simp only [Act.put, List.setIfInBounds_toArray, List.set_cons_zero, List.set_cons_succ]
        refine wpAnyH_ready (rs := [3]) (by kernel_rfl) (by simp) ?_
        refine consH rfl (fun K hK => ?_) (AllReadyH.nil)
        go_simp
        refine A10.out.mono ?_
        rintro e w11 ⟨rfl, hb11⟩
        have hk11 : Kept [bx + 1, bx + 1 + 1] w10 w11 := Kept.of hb11
        have HN4 := Lib.hid (HN3.out.trans (NewM.same hb11) HB10.out.size)
        have hB11 := Below.step HB10.out hb11
        replace fr0 := frz_later hB11 fr0 (lt_of_cell r0)
        replace fr1 := frz_later hB11 fr1 (lt_of_cell r1)
        replace fr2 := frz_later hB11 fr2 (lt_of_cell r2)
        replace fy0 := frz_later hB11 fy0 (lt_of_cell y0)
        replace fy1 := frz_later hB11 fy1 (lt_of_cell y1)
        replace fy2 := frz_later hB11 fy2 (lt_of_cell y2)
        replace r0 := cell_later hB11 r0
        replace r1 := cell_later hB11 r1
        replace r2 := cell_later hB11 r2
        replace y0 := cell_later hB11 y0
        replace y1 := cell_later hB11 y1
        replace y2 := cell_later hB11 y2
        have HB11 := Lib.hid (Below.step HB2.out hB11)
        clear hb11 hB11
        obtain ⟨f3, hf3⟩ : ∃ f, f = riseF (itemsM (outM S id)) fl := ⟨_, rfl⟩
        have HF3 := Lib.hid hf3
        rw [← hf3]
        clear hf3
        go_wp2_with fail
        refine hK.out _ _ ?_ (fun hHeld3 => ?_)
        · (first | assumption | (refine heldK_6 (by assumption) ?_ (by assumption) (by assumption) (by assumption) (by assumption) (by assumption) (by assumption) ; assumption) | (refine heldK_6 (Kept.of (below_ad _ _)) ?_ (by assumption) (by assumption) (by assumption) (by assumption) (by assumption) (by assumption) ; assumption) | (refine heldK_6 (Kept.of (below_a _ _)) ?_ (by assumption) (by assumption) (by assumption) (by assumption) (by assumption) (by assumption) ; assumption))
        clear hK K
        try simp only [Act.put, List.setIfInBounds_toArray, List.set_cons_zero, List.set_cons_succ]
        refine wpAnyH_ready (rs := [10]) (by kernel_rfl) (by simp) ?_
        refine consH rfl (fun K hK => ?_) (AllReadyH.nil)
        go_simp
        have hk12 : Kept [bx + 1, bx + 1 + 1] w11 (((w11.setCell ⟨bx + 1, 0, none⟩ (.int .i64 n)).setCell ⟨bx + 1, 1, none⟩ (.slice a3 N cap3)).setCell ⟨bx + 1, 2, none⟩ (.int .u64 f3)) := (((Kept.refl _ _).setCell (Or.inl (by simp)) _).setCell (Or.inl (by simp)) _).setCell (Or.inl (by simp)) _
        replace y0 : (((w11.setCell ⟨bx + 1, 0, none⟩ (.int .i64 n)).setCell ⟨bx + 1, 1, none⟩ (.slice a3 N cap3)).setCell ⟨bx + 1, 2, none⟩ (.int .u64 f3)).cell? ⟨bx + 1 + 1, 0, none⟩ = some (.int .u64 0) := cell_set_ne (cell_set_ne (cell_set_ne y0 (Or.inl (by omega))) (Or.inl (by omega))) (Or.inl (by omega))
        replace y1 : (((w11.setCell ⟨bx + 1, 0, none⟩ (.int .i64 n)).setCell ⟨bx + 1, 1, none⟩ (.slice a3 N cap3)).setCell ⟨bx + 1, 2, none⟩ (.int .u64 f3)).cell? ⟨bx + 1 + 1, 1, none⟩ = some (.int .u32 0) := cell_set_ne (cell_set_ne (cell_set_ne y1 (Or.inl (by omega))) (Or.inl (by omega))) (Or.inl (by omega))
        replace y2 : (((w11.setCell ⟨bx + 1, 0, none⟩ (.int .i64 n)).setCell ⟨bx + 1, 1, none⟩ (.slice a3 N cap3)).setCell ⟨bx + 1, 2, none⟩ (.int .u64 f3)).cell? ⟨bx + 1 + 1, 2, none⟩ = some (.int .u32 0) := cell_set_ne (cell_set_ne (cell_set_ne y2 (Or.inl (by omega))) (Or.inl (by omega))) (Or.inl (by omega))
        replace fy0 : (((w11.setCell ⟨bx + 1, 0, none⟩ (.int .i64 n)).setCell ⟨bx + 1, 1, none⟩ (.slice a3 N cap3)).setCell ⟨bx + 1, 2, none⟩ (.int .u64 f3)).frozen? ⟨bx + 1 + 1, 0, none⟩ = false := by rw [World.frozen?_setCell, World.frozen?_setCell, World.frozen?_setCell]; exact fy0
        replace fy1 : (((w11.setCell ⟨bx + 1, 0, none⟩ (.int .i64 n)).setCell ⟨bx + 1, 1, none⟩ (.slice a3 N cap3)).setCell ⟨bx + 1, 2, none⟩ (.int .u64 f3)).frozen? ⟨bx + 1 + 1, 1, none⟩ = false := by rw [World.frozen?_setCell, World.frozen?_setCell, World.frozen?_setCell]; exact fy1
        replace fy2 : (((w11.setCell ⟨bx + 1, 0, none⟩ (.int .i64 n)).setCell ⟨bx + 1, 1, none⟩ (.slice a3 N cap3)).setCell ⟨bx + 1, 2, none⟩ (.int .u64 f3)).frozen? ⟨bx + 1 + 1, 2, none⟩ = false := by rw [World.frozen?_setCell, World.frozen?_setCell, World.frozen?_setCell]; exact fy2
        replace r0 : (((w11.setCell ⟨bx + 1, 0, none⟩ (.int .i64 n)).setCell ⟨bx + 1, 1, none⟩ (.slice a3 N cap3)).setCell ⟨bx + 1, 2, none⟩ (.int .u64 f3)).cell? ⟨bx + 1, 0, none⟩ = some (.int .i64 n) := (cell_set_ne (cell_set_ne (cell_set_eq r0) (Or.inr (by decide))) (Or.inr (by decide)))
        replace r1 : (((w11.setCell ⟨bx + 1, 0, none⟩ (.int .i64 n)).setCell ⟨bx + 1, 1, none⟩ (.slice a3 N cap3)).setCell ⟨bx + 1, 2, none⟩ (.int .u64 f3)).cell? ⟨bx + 1, 1, none⟩ = some (.slice a3 N cap3) := (cell_set_ne (cell_set_eq (cell_set_ne r1 (Or.inr (by decide)))) (Or.inr (by decide)))
        replace r2 : (((w11.setCell ⟨bx + 1, 0, none⟩ (.int .i64 n)).setCell ⟨bx + 1, 1, none⟩ (.slice a3 N cap3)).setCell ⟨bx + 1, 2, none⟩ (.int .u64 f3)).cell? ⟨bx + 1, 2, none⟩ = some (.int .u64 f3) := (cell_set_eq (cell_set_ne (cell_set_ne r2 (Or.inr (by decide))) (Or.inr (by decide))))
        obtain ⟨wq, hwq⟩ : ∃ wq, wq = (((w11.setCell ⟨bx + 1, 0, none⟩ (.int .i64 n)).setCell ⟨bx + 1, 1, none⟩ (.slice a3 N cap3)).setCell ⟨bx + 1, 2, none⟩ (.int .u64 f3)) := ⟨_, rfl⟩
        rw [← hwq] at hk12 r0 r1 r2 y0 y1 y2 fy0 fy1 fy2 ⊢
        clear hwq fr0 fr1 fr2
        refine hK.out _ _ ?_ (fun hHeld10 => ?_)
        · (first | assumption | (refine heldK_6 (by assumption) ?_ (by assumption) (by assumption) (by assumption) (by assumption) (by assumption) (by assumption) ; assumption) | (refine heldK_6 (Kept.of (below_ad _ _)) ?_ (by assumption) (by assumption) (by assumption) (by assumption) (by assumption) (by assumption) ; assumption) | (refine heldK_6 (Kept.of (below_a _ _)) ?_ (by assumption) (by assumption) (by assumption) (by assumption) (by assumption) (by assumption) ; assumption))
        clear hK K
        try simp only [Act.put, List.setIfInBounds_toArray, List.set_cons_zero, List.set_cons_succ]
        refine wpAnyH_ready (rs := [11]) (by kernel_rfl) (by simp) ?_
        refine consH rfl (fun K hK => ?_) (AllReadyH.nil)
        go_simp
        have hk13 : Kept [bx + 1, bx + 1 + 1] wq (((wq.setCell ⟨bx + 1 + 1, 0, none⟩ (.int .u64 m.2.1)).setCell ⟨bx + 1 + 1, 1, none⟩ (.int .u32 m.2.2.1)).setCell ⟨bx + 1 + 1, 2, none⟩ (.int .u32 m.2.2.2)) := (((Kept.refl _ _).setCell (Or.inl (by simp)) _).setCell (Or.inl (by simp)) _).setCell (Or.inl (by simp)) _
        replace r0 : (((wq.setCell ⟨bx + 1 + 1, 0, none⟩ (.int .u64 m.2.1)).setCell ⟨bx + 1 + 1, 1, none⟩ (.int .u32 m.2.2.1)).setCell ⟨bx + 1 + 1, 2, none⟩ (.int .u32 m.2.2.2)).cell? ⟨bx + 1, 0, none⟩ = some (.int .i64 n) := cell_set_ne (cell_set_ne (cell_set_ne r0 (Or.inl (by omega))) (Or.inl (by omega))) (Or.inl (by omega))
        replace r1 : (((wq.setCell ⟨bx + 1 + 1, 0, none⟩ (.int .u64 m.2.1)).setCell ⟨bx + 1 + 1, 1, none⟩ (.int .u32 m.2.2.1)).setCell ⟨bx + 1 + 1, 2, none⟩ (.int .u32 m.2.2.2)).cell? ⟨bx + 1, 1, none⟩ = some (.slice a3 N cap3) := cell_set_ne (cell_set_ne (cell_set_ne r1 (Or.inl (by omega))) (Or.inl (by omega))) (Or.inl (by omega))
        replace r2 : (((wq.setCell ⟨bx + 1 + 1, 0, none⟩ (.int .u64 m.2.1)).setCell ⟨bx + 1 + 1, 1, none⟩ (.int .u32 m.2.2.1)).setCell ⟨bx + 1 + 1, 2, none⟩ (.int .u32 m.2.2.2)).cell? ⟨bx + 1, 2, none⟩ = some (.int .u64 f3) := cell_set_ne (cell_set_ne (cell_set_ne r2 (Or.inl (by omega))) (Or.inl (by omega))) (Or.inl (by omega))
        replace y0 : (((wq.setCell ⟨bx + 1 + 1, 0, none⟩ (.int .u64 m.2.1)).setCell ⟨bx + 1 + 1, 1, none⟩ (.int .u32 m.2.2.1)).setCell ⟨bx + 1 + 1, 2, none⟩ (.int .u32 m.2.2.2)).cell? ⟨bx + 1 + 1, 0, none⟩ = some (.int .u64 m.2.1) := (cell_set_ne (cell_set_ne (cell_set_eq y0) (Or.inr (by decide))) (Or.inr (by decide)))
        replace y1 : (((wq.setCell ⟨bx + 1 + 1, 0, none⟩ (.int .u64 m.2.1)).setCell ⟨bx + 1 + 1, 1, none⟩ (.int .u32 m.2.2.1)).setCell ⟨bx + 1 + 1, 2, none⟩ (.int .u32 m.2.2.2)).cell? ⟨bx + 1 + 1, 1, none⟩ = some (.int .u32 m.2.2.1) := (cell_set_ne (cell_set_eq (cell_set_ne y1 (Or.inr (by decide)))) (Or.inr (by decide)))
        replace y2 : (((wq.setCell ⟨bx + 1 + 1, 0, none⟩ (.int .u64 m.2.1)).setCell ⟨bx + 1 + 1, 1, none⟩ (.int .u32 m.2.2.1)).setCell ⟨bx + 1 + 1, 2, none⟩ (.int .u32 m.2.2.2)).cell? ⟨bx + 1 + 1, 2, none⟩ = some (.int .u32 m.2.2.2) := (cell_set_eq (cell_set_ne (cell_set_ne y2 (Or.inr (by decide))) (Or.inr (by decide))))
        obtain ⟨wz, hwz⟩ : ∃ wz, wz = (((wq.setCell ⟨bx + 1 + 1, 0, none⟩ (.int .u64 m.2.1)).setCell ⟨bx + 1 + 1, 1, none⟩ (.int .u32 m.2.2.1)).setCell ⟨bx + 1 + 1, 2, none⟩ (.int .u32 m.2.2.2)) := ⟨_, rfl⟩
        rw [← hwz] at hk13 r0 r1 r2 y0 y1 y2 ⊢
        clear hwz fy0 fy1 fy2
        refine hK.out _ _ ?_ (fun hHeld11 => ?_)
        · (first | assumption | (refine heldK_6 (by assumption) ?_ (by assumption) (by assumption) (by assumption) (by assumption) (by assumption) (by assumption) ; assumption) | (refine heldK_6 (Kept.of (below_ad _ _)) ?_ (by assumption) (by assumption) (by assumption) (by assumption) (by assumption) (by assumption) ; assumption) | (refine heldK_6 (Kept.of (below_a _ _)) ?_ (by assumption) (by assumption) (by assumption) (by assumption) (by assumption) (by assumption) ; assumption))
        clear hK K
        try simp only [Act.put, List.setIfInBounds_toArray, List.set_cons_zero, List.set_cons_succ]
        refine takeH (i := 12) (v := ?v12_9) rfl (by kernel_rfl) (fun _ _ _ h => h) (by rfl) ?hy12_9 (by assumption) ?rest12_9
        case hy12_9 => (intro w hSw; (try dsimp only at hSw); go_simp; try with_reducible rfl)
        try simp only [Act.put, List.setIfInBounds_toArray, List.set_cons_zero, List.set_cons_succ]
        refine wpAnyH_done (by kernel_rfl) ?_ _
        go_wp2_with fail
        refine bodyPost_ret (v := .tuple #[rqV n a3 N cap3 f3, .agg #[.int .u64 m.2.1, .int .u32 m.2.2.1, .int .u32 m.2.2.2], .int .i64 0]) (by simp [results, Try.results47, go_sem, rqV, *]) rfl ?_
        have KF := hk12.trans hk13
        have HF : leaveF n S id fl = f3 := by unfold leaveF; rw [if_pos P1.out, HF3.out]
        have H4 := HN4.out
        rw [P1.out, P2.out, P3.out, HF]
        rw [HNN.out] at H4 ⊢
        exact ⟨_, _, rfl, NewM.wrap H4 HB2.out (fun b hb => by have := in3 (x := bx) (b := b) (by simp at hb ⊢; omega); have := HBX.out; have := HSZ.out; have := HZ2.out; omega) KF, Kept.stepB HB11.out (Nat.le_refl _) KF (fun b hb => by have := in3 (x := bx) (b := b) (by simp at hb ⊢; omega); have := HBX.out; omega)⟩
      · have HC := Lib.hid (leave_none HH.out hkn)
        rw [hf]
        clear hf hkn
        go_wp2_with fail
        refine bodyPost_ret (v := (.tuple #[rqV n a L cap fl, .agg #[.int .u64 0, .int .u32 0, .int .u32 0], .int .i64 6])) (by simp [results, Try.results47, go_sem, rqV, *]) rfl ?_
        refine HFIN.out 6 _ HC.out (by decide) ?_
        repeat (refine Below.setCell ?_ (by have := HBX.out; first | (simp; omega) | (simp; done)) _)
        exact HB2.out
end Go.Proofs.Ytekjakmeopolhaa
namespace Go.Proofs.Ytekjakmeopolhaa
open Go.RowKit Go.Maps Go.IntWalk Go.Lib
set_option linter.unusedVariables false
set_option linter.unusedSimpArgs false
set_option maxRecDepth 100000 in
set_option maxHeartbeats 2000000 in
theorem rchange_ok (a : Option Addr) (cap : Nat) (n fl id : Int) (x : Ent) (S : Mems) (k : Nat) (w : World) (h : HeldR encMs [] w (.slice a S.length cap) S) (hS : RefM S) (hk : k < S.length) (hf : findM S id = (k : Int)) (hid : S[k]!.1 = id) :
    Calls Try.prog 64 #[.agg #[.int .i64 n, .slice a S.length cap, .int .u64 fl], .int .i64 id, .agg #[.int .u64 x.1, .int .u32 x.2.1, .int .u32 x.2.2], .int .i64 0] w (RResP w (.slice a S.length cap) S n (riseF (itemsM (chM S id x)) fl) (chM S id x) 0) := by
  have HV := Lib.hid h
  have hdk := dropK_out hS.mok.nod hk
  rw [hid] at hdk
  have hol : (outM S id).length ≤ 400000 := by have := List.length_filter_le (fun y : Int × Ent => y.1 != id) S; have := hS.len; unfold outM; omega
  have HOL := Lib.hid hol
  have HDK := Lib.hid hdk
  have AF := Lib.hid fun (W : World) (q : RecsAt encMs W (.slice a S.length cap) S) => rFind_any a cap n fl id S W q
  rw [hf] at AF
  have AWo := Lib.hid fun (W : World) (q : HeldR encMs [] W (.slice a S.length cap) S) => rwithout_any a cap n fl S k hk W q (by have := hS.len; omega)
  rw [hdk] at AWo
  clear h hS hf hid hdk hol hk
  obtain ⟨L, hL⟩ : ∃ L, L = S.length := ⟨_, rfl⟩
  have HLL := Lib.hid hL
  rw [← hL] at HV AF AWo ⊢
  clear hL
  obtain ⟨W0, hW0⟩ : ∃ W0, W0 = (((w.alloc (.cells #[.int .i64 n, .slice a L cap, .int .u64 fl] 68)).alloc (.cells #[.int .u64 x.1, .int .u32 x.2.1, .int .u32 x.2.2] 99)).alloc (.cells #[.int .i64 0, .slice none 0 0, .int .u64 0] 68)) := ⟨_, rfl⟩
  have HB0 := Lib.hid (show Below w.heap.size w W0 by rw [hW0]; exact (Below.allocS (Below.allocS (Below.allocS (Below.refl _ _) _) _) _))
  have c0 : W0.cell? ⟨w.heap.size, 0, none⟩ = some (.int .i64 n) := by rw [hW0]; exact cell_al _ (cell_al _ (cell_nwE (by simp) _ _ 0 _ rfl))
  have fc0 : W0.frozen? ⟨w.heap.size, 0, none⟩ = false := by rw [hW0]; exact frz_later (below_a _ _) (frz_later (below_a _ _) (frz_nwE (by simp) _ _ 0) (by first | (simp; done) | (simp; omega))) (by first | (simp; done) | (simp; omega))
  have c1 : W0.cell? ⟨w.heap.size, 1, none⟩ = some (.slice a L cap) := by rw [hW0]; exact cell_al _ (cell_al _ (cell_nwE (by simp) _ _ 1 _ rfl))
  have fc1 : W0.frozen? ⟨w.heap.size, 1, none⟩ = false := by rw [hW0]; exact frz_later (below_a _ _) (frz_later (below_a _ _) (frz_nwE (by simp) _ _ 1) (by first | (simp; done) | (simp; omega))) (by first | (simp; done) | (simp; omega))
  have c2 : W0.cell? ⟨w.heap.size, 2, none⟩ = some (.int .u64 fl) := by rw [hW0]; exact cell_al _ (cell_al _ (cell_nwE (by simp) _ _ 2 _ rfl))
  have fc2 : W0.frozen? ⟨w.heap.size, 2, none⟩ = false := by rw [hW0]; exact frz_later (below_a _ _) (frz_later (below_a _ _) (frz_nwE (by simp) _ _ 2) (by first | (simp; done) | (simp; omega))) (by first | (simp; done) | (simp; omega))
  have x0 : W0.cell? ⟨w.heap.size + 1, 0, none⟩ = some (.int .u64 x.1) := by rw [hW0]; exact cell_al _ (cell_nwE (by simp) _ _ 0 _ rfl)
  have fx0 : W0.frozen? ⟨w.heap.size + 1, 0, none⟩ = false := by rw [hW0]; exact frz_later (below_a _ _) (frz_nwE (by simp) _ _ 0) (by first | (simp; done) | (simp; omega))
  have x1 : W0.cell? ⟨w.heap.size + 1, 1, none⟩ = some (.int .u32 x.2.1) := by rw [hW0]; exact cell_al _ (cell_nwE (by simp) _ _ 1 _ rfl)
  have fx1 : W0.frozen? ⟨w.heap.size + 1, 1, none⟩ = false := by rw [hW0]; exact frz_later (below_a _ _) (frz_nwE (by simp) _ _ 1) (by first | (simp; done) | (simp; omega))
  have x2 : W0.cell? ⟨w.heap.size + 1, 2, none⟩ = some (.int .u32 x.2.2) := by rw [hW0]; exact cell_al _ (cell_nwE (by simp) _ _ 2 _ rfl)
  have fx2 : W0.frozen? ⟨w.heap.size + 1, 2, none⟩ = false := by rw [hW0]; exact frz_later (below_a _ _) (frz_nwE (by simp) _ _ 2) (by first | (simp; done) | (simp; omega))
  have r0 : W0.cell? ⟨w.heap.size + 1 + 1, 0, none⟩ = some (.int .i64 0) := by rw [hW0]; exact cell_nwE (by simp) _ _ 0 _ rfl
  have fr0 : W0.frozen? ⟨w.heap.size + 1 + 1, 0, none⟩ = false := by rw [hW0]; exact frz_nwE (by simp) _ _ 0
  have r1 : W0.cell? ⟨w.heap.size + 1 + 1, 1, none⟩ = some (.slice none 0 0) := by rw [hW0]; exact cell_nwE (by simp) _ _ 1 _ rfl
  have fr1 : W0.frozen? ⟨w.heap.size + 1 + 1, 1, none⟩ = false := by rw [hW0]; exact frz_nwE (by simp) _ _ 1
  have r2 : W0.cell? ⟨w.heap.size + 1 + 1, 2, none⟩ = some (.int .u64 0) := by rw [hW0]; exact cell_nwE (by simp) _ _ 2 _ rfl
  have fr2 : W0.frozen? ⟨w.heap.size + 1 + 1, 2, none⟩ = false := by rw [hW0]; exact frz_nwE (by simp) _ _ 2
  have HSZ := Lib.hid (show W0.heap.size = w.heap.size + 1 + 1 + 1 by rw [hW0]; simp)
  have HW0 := Lib.hid hW0
  clear hW0
  go_enter Try.func64, Try.ntmps64
  go_wp2_with fail
  rw [← HW0.out]
  generalize hbx : w.heap.size = bx at c0 c1 c2 x0 x1 x2 r0 r1 r2 fc0 fc1 fc2 fx0 fx1 fx2 fr0 fr1 fr2 HSZ  ⊢
  have HBX := Lib.hid hbx
  clear hbx HW0
  have hcS : bx ∉ [bx + 1 + 1] := by simp; omega
  have hxS : bx + 1 ∉ [bx + 1 + 1] := by simp
  have hS0 : Kept [bx + 1 + 1] W0 W0.drew ∧ W0.drew.cell? ⟨bx, 0, none⟩ = some (.int .i64 n) ∧ W0.drew.cell? ⟨bx, 1, none⟩ = some (.slice a L cap) ∧ W0.drew.cell? ⟨bx, 2, none⟩ = some (.int .u64 fl) ∧ W0.drew.cell? ⟨bx + 1, 0, none⟩ = some (.int .u64 x.1) ∧ W0.drew.cell? ⟨bx + 1, 1, none⟩ = some (.int .u32 x.2.1) ∧ W0.drew.cell? ⟨bx + 1, 2, none⟩ = some (.int .u32 x.2.2) := ⟨Kept.drew (Kept.refl _ _), cell_dr c0, cell_dr c1, cell_dr c2, cell_dr x0, cell_dr x1, cell_dr x2⟩
  refine wp_region_held_drew (S := fun w' => Kept [bx + 1 + 1] W0 w' ∧ w'.cell? ⟨bx, 0, none⟩ = some (.int .i64 n) ∧ w'.cell? ⟨bx, 1, none⟩ = some (.slice a L cap) ∧ w'.cell? ⟨bx, 2, none⟩ = some (.int .u64 fl) ∧ w'.cell? ⟨bx + 1, 0, none⟩ = some (.int .u64 x.1) ∧ w'.cell? ⟨bx + 1, 1, none⟩ = some (.int .u32 x.2.1) ∧ w'.cell? ⟨bx + 1, 2, none⟩ = some (.int .u32 x.2.2)) (by kernel_rfl) hS0 (fun hHeld => ?_)
  refine takeH (i := 0) (v := ?v0_1) rfl (by kernel_rfl) (fun _ _ _ h => h) (by rfl) ?hy0_1 (by assumption) ?rest0_1
  case hy0_1 => (intro w hSw; (try dsimp only at hSw); go_simp; try with_reducible rfl)
  try simp only [Act.put, List.setIfInBounds_toArray, List.set_cons_zero, List.set_cons_succ]
  refine takeH (i := 1) (v := ?v1_2) rfl (by kernel_rfl) (fun _ _ _ h => h) (by rfl) ?hy1_2 (by assumption) ?rest1_2
  case hy1_2 => (intro w hSw; (try dsimp only at hSw); go_simp; try with_reducible rfl)
  try simp only [Act.put, List.setIfInBounds_toArray, List.set_cons_zero, List.set_cons_succ]
  refine takeH (i := 2) (v := ?v2_3) rfl (by kernel_rfl) (fun _ _ _ h => h) (by rfl) ?hy2_3 (by assumption) ?rest2_3
  case hy2_3 => (intro w hSw; (try dsimp only at hSw); go_simp; try with_reducible rfl)
  try simp only [Act.put, List.setIfInBounds_toArray, List.set_cons_zero, List.set_cons_succ]
  refine takeH (i := 5) (v := ?v5_4) rfl (by kernel_rfl) (fun _ _ _ h => h) (by rfl) ?hy5_4 (by assumption) ?rest5_4
  case hy5_4 => (intro w hSw; (try dsimp only at hSw); go_simp; try with_reducible rfl)
  try simp only [Act.put, List.setIfInBounds_toArray, List.set_cons_zero, List.set_cons_succ]
  refine takeH (i := 6) (v := ?v6_5) rfl (by kernel_rfl) (fun _ _ _ h => h) (by rfl) ?hy6_5 (by assumption) ?rest6_5
  case hy6_5 => (intro w hSw; (try dsimp only at hSw); go_simp; try with_reducible rfl)
  try simp only [Act.put, List.setIfInBounds_toArray, List.set_cons_zero, List.set_cons_succ]
  refine takeH (i := 7) (v := ?v7_6) rfl (by kernel_rfl) (fun _ _ _ h => h) (by rfl) ?hy7_6 (by assumption) ?rest7_6
  case hy7_6 => (intro w hSw; (try dsimp only at hSw); go_simp; try with_reducible rfl)
  try simp only [Act.put, List.setIfInBounds_toArray, List.set_cons_zero, List.set_cons_succ]
  refine wpAnyH_ready (rs := [3]) (by kernel_rfl) (by simp) ?_
  refine consH rfl (fun K hK => ?_) (AllReadyH.nil)
  go_simp
  refine (AF.out W0.drew (HV.out.later (Below.step HB0.out (Below.refl _ _).drew)).recs).mono ?_
  rintro e w9 ⟨rfl, hg9⟩
  have hk9 : Kept [bx + 1 + 1] W0.drew w9 := Kept.of hg9.below
  have HB9 := Lib.hid (Below.step (Below.refl W0.heap.size W0).drew hg9.below)
  clear hg9
  go_wp2_with fail
  refine hK.out _ _ ?_ (fun hHeld3 => ?_)
  · (first | assumption | (refine heldK_6 (by assumption) ?_ (by assumption) (by assumption) (by assumption) (by assumption) (by assumption) (by assumption) ; assumption) | (refine heldK_6 (Kept.of (below_ad _ _)) ?_ (by assumption) (by assumption) (by assumption) (by assumption) (by assumption) (by assumption) ; assumption) | (refine heldK_6 (Kept.of (below_a _ _)) ?_ (by assumption) (by assumption) (by assumption) (by assumption) (by assumption) (by assumption) ; assumption))
  clear hK K
  try simp only [Act.put, List.setIfInBounds_toArray, List.set_cons_zero, List.set_cons_succ]
  refine wpAnyH_ready (rs := [4]) (by kernel_rfl) (by simp) ?_
  refine consH rfl (fun K hK => ?_) (AllReadyH.nil)
  go_simp
  refine (AWo.out w9 (HV.out.later (Below.step HB0.out HB9.out))).mono ?_
  rintro e w10 ⟨a3, cap3, rfl, hn10, hb10⟩
  unfold rqV
  have hk10 : Kept [bx + 1 + 1] w9 w10 := Kept.of hb10
  have HB10 := Lib.hid (Below.step HB9.out hb10)
  have H3 := Lib.hid (hn10.recs (HV.out.later (Below.step HB0.out HB9.out)))
  have HN3 := Lib.hid (NewM.trans (NewM.same HB9.out) hn10 HB9.out.size)
  have A10 := Lib.hid (rwith_any a3 cap3 n fl (outM S id) (id, x) w10 H3.out HOL.out)
  clear hn10 hb10
  go_wp2_with fail
  refine hK.out _ _ ?_ (fun hHeld4 => ?_)
  · (first | assumption | (refine heldK_6 (by assumption) ?_ (by assumption) (by assumption) (by assumption) (by assumption) (by assumption) (by assumption) ; assumption) | (refine heldK_6 (Kept.of (below_ad _ _)) ?_ (by assumption) (by assumption) (by assumption) (by assumption) (by assumption) (by assumption) ; assumption) | (refine heldK_6 (Kept.of (below_a _ _)) ?_ (by assumption) (by assumption) (by assumption) (by assumption) (by assumption) (by assumption) ; assumption))
  clear hK K
  try simp only [Act.put, List.setIfInBounds_toArray, List.set_cons_zero, List.set_cons_succ]
  refine wpAnyH_ready (rs := [8]) (by kernel_rfl) (by simp) ?_
  refine consH rfl (fun K hK => ?_) (AllReadyH.nil)
  go_simp
  refine A10.out.mono ?_
  rintro e w11 ⟨a4, cap4, rfl, hn11, hb11⟩
  unfold rqV
  have hk11 : Kept [bx + 1 + 1] w10 w11 := Kept.of hb11
  have HN4 := Lib.hid (NewM.trans HN3.out hn11 HB10.out.size)
  have HB11 := Lib.hid (Below.step HB10.out hb11)
  have A11 := Lib.hid (rraised_any a4 cap4 n fl (putM (outM S id) (id, x)) w11 (hn11.recs H3.out).recs)
  unfold rqV at A11
  obtain ⟨N, hN⟩ : ∃ N, N = (putM (outM S id) (id, x)).length := ⟨_, rfl⟩
  have HNN := Lib.hid hN
  rw [← hN] at HN4 A11 ⊢
  obtain ⟨f3, hf3⟩ : ∃ f, f = riseF (itemsM (putM (outM S id) (id, x))) fl := ⟨_, rfl⟩
  have HF3 := Lib.hid hf3
  rw [← hf3] at A11
  clear hf3 hn11 hb11 hN A10
  go_wp2_with fail
  refine hK.out _ _ ?_ (fun hHeld8 => ?_)
  · (first | assumption | (refine heldK_6 (by assumption) ?_ (by assumption) (by assumption) (by assumption) (by assumption) (by assumption) (by assumption) ; assumption) | (refine heldK_6 (Kept.of (below_ad _ _)) ?_ (by assumption) (by assumption) (by assumption) (by assumption) (by assumption) (by assumption) ; assumption) | (refine heldK_6 (Kept.of (below_a _ _)) ?_ (by assumption) (by assumption) (by assumption) (by assumption) (by assumption) (by assumption) ; assumption))
  clear hK K
  try simp only [Act.put, List.setIfInBounds_toArray, List.set_cons_zero, List.set_cons_succ]
  refine wpAnyH_ready (rs := [9]) (by kernel_rfl) (by simp) ?_
  refine consH rfl (fun K hK => ?_) (AllReadyH.nil)
  go_simp
  refine A11.out.mono ?_
  rintro e w12 ⟨rfl, hb12⟩
  have hk12 : Kept [bx + 1 + 1] w11 w12 := Kept.of hb12
  have HN5 := Lib.hid (HN4.out.trans (NewM.same hb12) HB11.out.size)
  have hB12 := Below.step HB11.out hb12
  replace fr0 := frz_later hB12 fr0 (lt_of_cell r0)
  replace fr1 := frz_later hB12 fr1 (lt_of_cell r1)
  replace fr2 := frz_later hB12 fr2 (lt_of_cell r2)
  replace r0 := cell_later hB12 r0
  replace r1 := cell_later hB12 r1
  replace r2 := cell_later hB12 r2
  have HB12 := Lib.hid (Below.step HB0.out hB12)
  clear hb12 hB12
  go_wp2_with fail
  refine hK.out _ _ ?_ (fun hHeld9 => ?_)
  · (first | assumption | (refine heldK_6 (by assumption) ?_ (by assumption) (by assumption) (by assumption) (by assumption) (by assumption) (by assumption) ; assumption) | (refine heldK_6 (Kept.of (below_ad _ _)) ?_ (by assumption) (by assumption) (by assumption) (by assumption) (by assumption) (by assumption) ; assumption) | (refine heldK_6 (Kept.of (below_a _ _)) ?_ (by assumption) (by assumption) (by assumption) (by assumption) (by assumption) (by assumption) ; assumption))
  clear hK K
  try simp only [Act.put, List.setIfInBounds_toArray, List.set_cons_zero, List.set_cons_succ]
  refine wpAnyH_ready (rs := [10]) (by kernel_rfl) (by simp) ?_
  refine consH rfl (fun K hK => ?_) (AllReadyH.nil)
  go_simp
  have hk13 : Kept [bx + 1 + 1] w12 (((w12.setCell ⟨bx + 1 + 1, 0, none⟩ (.int .i64 n)).setCell ⟨bx + 1 + 1, 1, none⟩ (.slice a4 N cap4)).setCell ⟨bx + 1 + 1, 2, none⟩ (.int .u64 f3)) := (((Kept.refl _ _).setCell (Or.inl (by simp)) _).setCell (Or.inl (by simp)) _).setCell (Or.inl (by simp)) _
  replace r0 : (((w12.setCell ⟨bx + 1 + 1, 0, none⟩ (.int .i64 n)).setCell ⟨bx + 1 + 1, 1, none⟩ (.slice a4 N cap4)).setCell ⟨bx + 1 + 1, 2, none⟩ (.int .u64 f3)).cell? ⟨bx + 1 + 1, 0, none⟩ = some (.int .i64 n) := (cell_set_ne (cell_set_ne (cell_set_eq r0) (Or.inr (by decide))) (Or.inr (by decide)))
  replace r1 : (((w12.setCell ⟨bx + 1 + 1, 0, none⟩ (.int .i64 n)).setCell ⟨bx + 1 + 1, 1, none⟩ (.slice a4 N cap4)).setCell ⟨bx + 1 + 1, 2, none⟩ (.int .u64 f3)).cell? ⟨bx + 1 + 1, 1, none⟩ = some (.slice a4 N cap4) := (cell_set_ne (cell_set_eq (cell_set_ne r1 (Or.inr (by decide)))) (Or.inr (by decide)))
  replace r2 : (((w12.setCell ⟨bx + 1 + 1, 0, none⟩ (.int .i64 n)).setCell ⟨bx + 1 + 1, 1, none⟩ (.slice a4 N cap4)).setCell ⟨bx + 1 + 1, 2, none⟩ (.int .u64 f3)).cell? ⟨bx + 1 + 1, 2, none⟩ = some (.int .u64 f3) := (cell_set_eq (cell_set_ne (cell_set_ne r2 (Or.inr (by decide))) (Or.inr (by decide))))
  obtain ⟨wq, hwq⟩ : ∃ wq, wq = (((w12.setCell ⟨bx + 1 + 1, 0, none⟩ (.int .i64 n)).setCell ⟨bx + 1 + 1, 1, none⟩ (.slice a4 N cap4)).setCell ⟨bx + 1 + 1, 2, none⟩ (.int .u64 f3)) := ⟨_, rfl⟩
  rw [← hwq] at hk13 r0 r1 r2 ⊢
  clear hwq fr0 fr1 fr2
  refine hK.out _ _ ?_ (fun hHeld10 => ?_)
  · (first | assumption | (refine heldK_6 (by assumption) ?_ (by assumption) (by assumption) (by assumption) (by assumption) (by assumption) (by assumption) ; assumption) | (refine heldK_6 (Kept.of (below_ad _ _)) ?_ (by assumption) (by assumption) (by assumption) (by assumption) (by assumption) (by assumption) ; assumption) | (refine heldK_6 (Kept.of (below_a _ _)) ?_ (by assumption) (by assumption) (by assumption) (by assumption) (by assumption) (by assumption) ; assumption))
  clear hK K
  try simp only [Act.put, List.setIfInBounds_toArray, List.set_cons_zero, List.set_cons_succ]
  refine takeH (i := 11) (v := ?v11_7) rfl (by kernel_rfl) (fun _ _ _ h => h) (by rfl) ?hy11_7 (by assumption) ?rest11_7
  case hy11_7 => (intro w hSw; (try dsimp only at hSw); go_simp; try with_reducible rfl)
  try simp only [Act.put, List.setIfInBounds_toArray, List.set_cons_zero, List.set_cons_succ]
  refine wpAnyH_done (by kernel_rfl) ?_ _
  go_wp2_with fail
  refine bodyPost_ret (v := .tuple #[rqV n a4 N cap4 f3, .int .i64 0]) (by simp [results, Try.results64, go_sem, rqV, *]) rfl ?_
  have H4 := HN5.out
  unfold chM
  rw [← HF3.out]
  rw [HNN.out] at H4 ⊢
  exact ⟨_, _, rfl, NewM.wrap H4 HB0.out (fun b hb => by simp at hb; have := HBX.out; have := HSZ.out; omega) hk13, Kept.stepB HB12.out (Nat.le_refl _) hk13 (fun b hb => by simp at hb; have := HBX.out; omega)⟩
end Go.Proofs.Ytekjakmeopolhaa
namespace Go.Proofs.Ytekjakmeopolhaa
open Go.RowKit Go.Maps Go.IntWalk Go.Lib
set_option linter.unusedVariables false
set_option linter.unusedSimpArgs false
set_option maxRecDepth 100000 in
set_option maxHeartbeats 2000000 in
theorem rCharge_any (a : Option Addr) (cap : Nat) (n fl id t : Int) (S : Mems) (w : World) (h : HeldR encMs [] w (.slice a S.length cap) S) (hS : RefM S) (ht : -9223372036854775808 ≤ t ∧ t ≤ 9223372036854775807) :
    Calls Try.prog 48 #[.agg #[.int .i64 n, .slice a S.length cap, .int .u64 fl], .int .i64 id, .int .i64 t] w (RResP w (.slice a S.length cap) S n (chF (decide (tkOk t)) n S id (chgX t) fl) (chS (decide (tkOk t)) n S id (chgX t)) (chC (decide (tkOk t)) n S id)) := by
  have HV := Lib.hid h
  have HS := Lib.hid hS
  have FIN : ∀ c W, chC (decide (tkOk t)) n S id = c → c ≠ 0 → Below w.heap.size w W → RResP w (.slice a S.length cap) S n (chF (decide (tkOk t)) n S id (chgX t) fl) (chS (decide (tkOk t)) n S id (chgX t)) (chC (decide (tkOk t)) n S id) (.returned (.tuple #[rqV n a S.length cap fl, .int .i64 c])) W := fun c W e hc hb => by
    obtain ⟨p1, p2⟩ := ch_no e hc (chgX t) fl
    rw [e, p1, p2]
    exact ⟨a, cap, rfl, NewM.same hb, hb⟩
  have HFIN := Lib.hid FIN
  have AF := Lib.hid fun (W : World) (q : RecsAt encMs W (.slice a S.length cap) S) => rFind_any a cap n fl id S W q
  have ACh := Lib.hid fun (x : Ent) (k : Nat) (W : World) (q : HeldR encMs [] W (.slice a S.length cap) S) (hk : k < S.length) (hf : findM S id = (k : Int)) (hid : S[k]!.1 = id) => rchange_ok a cap n fl id x S k W q hS hk hf hid
  clear h hS FIN
  obtain ⟨L, hL⟩ : ∃ L, L = S.length := ⟨_, rfl⟩
  have HLL := Lib.hid hL
  rw [← hL] at HV HFIN AF ACh ⊢
  clear hL
  obtain ⟨W0, hW0⟩ : ∃ W0, W0 = ((w.alloc (.cells #[.int .i64 n, .slice a L cap, .int .u64 fl] 68)).alloc (.cells #[.int .i64 0, .slice none 0 0, .int .u64 0] 68)) := ⟨_, rfl⟩
  have HB0 := Lib.hid (show Below w.heap.size w W0 by rw [hW0]; exact (Below.allocS (Below.allocS (Below.refl _ _) _) _))
  have c0 : W0.cell? ⟨w.heap.size, 0, none⟩ = some (.int .i64 n) := by rw [hW0]; exact cell_al _ (cell_nwE (by simp) _ _ 0 _ rfl)
  have fc0 : W0.frozen? ⟨w.heap.size, 0, none⟩ = false := by rw [hW0]; exact frz_later (below_a _ _) (frz_nwE (by simp) _ _ 0) (by first | (simp; done) | (simp; omega))
  have c1 : W0.cell? ⟨w.heap.size, 1, none⟩ = some (.slice a L cap) := by rw [hW0]; exact cell_al _ (cell_nwE (by simp) _ _ 1 _ rfl)
  have fc1 : W0.frozen? ⟨w.heap.size, 1, none⟩ = false := by rw [hW0]; exact frz_later (below_a _ _) (frz_nwE (by simp) _ _ 1) (by first | (simp; done) | (simp; omega))
  have c2 : W0.cell? ⟨w.heap.size, 2, none⟩ = some (.int .u64 fl) := by rw [hW0]; exact cell_al _ (cell_nwE (by simp) _ _ 2 _ rfl)
  have fc2 : W0.frozen? ⟨w.heap.size, 2, none⟩ = false := by rw [hW0]; exact frz_later (below_a _ _) (frz_nwE (by simp) _ _ 2) (by first | (simp; done) | (simp; omega))
  have r0 : W0.cell? ⟨w.heap.size + 1, 0, none⟩ = some (.int .i64 0) := by rw [hW0]; exact cell_nwE (by simp) _ _ 0 _ rfl
  have fr0 : W0.frozen? ⟨w.heap.size + 1, 0, none⟩ = false := by rw [hW0]; exact frz_nwE (by simp) _ _ 0
  have r1 : W0.cell? ⟨w.heap.size + 1, 1, none⟩ = some (.slice none 0 0) := by rw [hW0]; exact cell_nwE (by simp) _ _ 1 _ rfl
  have fr1 : W0.frozen? ⟨w.heap.size + 1, 1, none⟩ = false := by rw [hW0]; exact frz_nwE (by simp) _ _ 1
  have r2 : W0.cell? ⟨w.heap.size + 1, 2, none⟩ = some (.int .u64 0) := by rw [hW0]; exact cell_nwE (by simp) _ _ 2 _ rfl
  have fr2 : W0.frozen? ⟨w.heap.size + 1, 2, none⟩ = false := by rw [hW0]; exact frz_nwE (by simp) _ _ 2
  have HSZ := Lib.hid (show W0.heap.size = w.heap.size + 1 + 1 by rw [hW0]; simp)
  have HW0 := Lib.hid hW0
  clear hW0
  go_enter Try.func48, Try.ntmps48
  go_wp2_with fail
  rw [← HW0.out]
  generalize hbx : w.heap.size = bx at c0 c1 c2 r0 r1 r2 fc0 fc1 fc2 fr0 fr1 fr2 HSZ  ⊢
  have HBX := Lib.hid hbx
  clear hbx HW0
  refine (AF.out W0 (HV.out.later HB0.out).recs).mono ?_
  rintro e w1 ⟨rfl, hg1⟩
  have hb1 := hg1.below
  replace fc0 := frz_later hb1 fc0 (lt_of_cell c0)
  replace fc1 := frz_later hb1 fc1 (lt_of_cell c1)
  replace fc2 := frz_later hb1 fc2 (lt_of_cell c2)
  replace fr0 := frz_later hb1 fr0 (lt_of_cell r0)
  replace fr1 := frz_later hb1 fr1 (lt_of_cell r1)
  replace fr2 := frz_later hb1 fr2 (lt_of_cell r2)
  replace c0 := cell_later hb1 c0
  replace c1 := cell_later hb1 c1
  replace c2 := cell_later hb1 c2
  replace r0 := cell_later hb1 r0
  replace r1 := cell_later hb1 r1
  replace r2 := cell_later hb1 r2
  have HB1 := Lib.hid (Below.step HB0.out hb1)
  have HZ1 := Lib.hid hb1.size
  clear hb1 hg1
  by_cases h0 : id < 0
  · have z1 : decide (id < 0) = true := decide_eq_true h0
    have HC := Lib.hid (show chC (decide (tkOk t)) n S id = 2 from chc_bad (by unfold hasV; exact decide_eq_false (by omega)))
    clear h0
    go_wp2_with fail
    refine bodyPost_ret (v := (.tuple #[rqV n a L cap fl, .int .i64 2])) (by simp [results, Try.results48, go_sem, rqV, *]) rfl ?_
    refine HFIN.out 2 _ HC.out (by decide) ?_
    repeat (refine Below.setCell ?_ (by have := HBX.out; first | (simp; omega) | (simp; done)) _)
    exact HB1.out
  · have z1 : decide (id < 0) = false := decide_eq_false h0
    by_cases h1 : n ≤ id
    · have z2 : decide (n ≤ id) = true := decide_eq_true h1
      have z2' : decide (id ≥ n) = true := decide_eq_true h1
      have HC := Lib.hid (show chC (decide (tkOk t)) n S id = 2 from chc_bad (by unfold hasV; exact decide_eq_false (by omega)))
      clear h0 h1
      go_wp2_with fail
      refine bodyPost_ret (v := (.tuple #[rqV n a L cap fl, .int .i64 2])) (by simp [results, Try.results48, go_sem, rqV, *]) rfl ?_
      refine HFIN.out 2 _ HC.out (by decide) ?_
      repeat (refine Below.setCell ?_ (by have := HBX.out; first | (simp; omega) | (simp; done)) _)
      exact HB1.out
    · have z2 : decide (n ≤ id) = false := decide_eq_false h1
      have z2' : decide (id ≥ n) = false := decide_eq_false h1
      have z2q : (n ≤ id) = False := eq_false h1
      have HH := Lib.hid (show hasV n id = true from has_true (by omega) (by omega))
      clear h0 h1
      go_wp2_with fail
      refine (rTicks_any t _).mono ?_
      rintro e w2 ⟨rfl, rfl⟩
      by_cases hto : tkOk t
      · rw [Ch.tB_t hto.1 hto.2]
        have HTO := Lib.hid hto
        have hB : decide (tkOk t) = true := decide_eq_true hto
        have HBD := Lib.hid hB
        clear hto hB
        rcases findM_cases S id with ⟨k, hk, hf, hid, hfst⟩ | ⟨hf, hkn⟩
        · have HE := Lib.hid ((ent_some HS.out.mok.nod).2 (show (id, S[k]!.2) ∈ S by rw [← hid, getElem!_pos S k hk]; exact List.getElem_mem _))
          obtain ⟨p1, p2⟩ := chc_there HH.out HE.out (chgX t)
          have P1 := Lib.hid p1
          have P2 := Lib.hid p2
          have hkL : k < L := by rw [HLL.out]; exact hk
          obtain ⟨-, b, off, rfl, i0, i1, i2, i3⟩ := HV.out.recs.mem hkL
          have HBB := Lib.hid (lt_of_cell i0)
          have hok := HS.out.mok.ok S[k]! (by rw [getElem!_pos S k hk]; exact List.getElem_mem _)
          have A9 := Lib.hid fun (x : Ent) (W : World) (q : HeldR encMs [] W (.slice (some ⟨b, off, none⟩) L cap) S) => ACh.out x k W q hkL hf hid
          obtain ⟨m, hm⟩ : ∃ m, m = S[k]! := ⟨_, rfl⟩
          rw [← hm] at i1 i2 i3 hok P2 HE
          replace i1 := cell_later HB1.out i1
          replace i2 := cell_later HB1.out i2
          replace i3 := cell_later HB1.out i3
          have AAd := Lib.hid fun W => rAdd_ok m.2.1 m.2.2.1 m.2.2.2 t W hok HTO.out
          rw [hf]
          have hk0 : (0 : Int) ≤ (k : Int) := by omega
          have zk : decide ((k : Int) < 0) = false := decide_eq_false (by omega)
          have hkm : (k : Int) < (L : Int) := by omega
          clear hk hf hid hfst p1 p2 hm ACh AF i0 hok
          go_wp2_with fail
          refine (AAd.out _).mono ?_
          rintro e w3 ⟨rfl, hb3⟩
          have e1 : chgX t m.2 = (Ch.addV m.2.1 m.2.2.1 m.2.2.2 t, Ch.addR m.2.1 m.2.2.1 m.2.2.2 t, m.2.2.2) := rfl
          have E1 := Lib.hid e1
          generalize Ch.addV m.2.1 m.2.2.1 m.2.2.2 t = av at *
          generalize Ch.addR m.2.1 m.2.2.1 m.2.2.2 t = ar at *
          replace fc0 := frz_later hb3 fc0 (lt_of_cell c0)
          replace fc1 := frz_later hb3 fc1 (lt_of_cell c1)
          replace fc2 := frz_later hb3 fc2 (lt_of_cell c2)
          replace fr0 := frz_later hb3 fr0 (lt_of_cell r0)
          replace fr1 := frz_later hb3 fr1 (lt_of_cell r1)
          replace fr2 := frz_later hb3 fr2 (lt_of_cell r2)
          replace c0 := cell_later hb3 c0
          replace c1 := cell_later hb3 c1
          replace c2 := cell_later hb3 c2
          replace r0 := cell_later hb3 r0
          replace r1 := cell_later hb3 r1
          replace r2 := cell_later hb3 r2
          have HB3 := Lib.hid (Below.step HB1.out hb3)
          have HZ3 := Lib.hid hb3.size
          clear hb3 i1 i2 i3 e1
          have hb4 := below_a w3 (.cells #[.int .u64 av, .int .u32 ar, .int .u32 m.2.2.2] 99)
          replace fc0 := frz_later hb4 fc0 (lt_of_cell c0)
          replace fc1 := frz_later hb4 fc1 (lt_of_cell c1)
          replace fc2 := frz_later hb4 fc2 (lt_of_cell c2)
          replace fr0 := frz_later hb4 fr0 (lt_of_cell r0)
          replace fr1 := frz_later hb4 fr1 (lt_of_cell r1)
          replace fr2 := frz_later hb4 fr2 (lt_of_cell r2)
          replace c0 := cell_later hb4 c0
          replace c1 := cell_later hb4 c1
          replace c2 := cell_later hb4 c2
          replace r0 := cell_later hb4 r0
          replace r1 := cell_later hb4 r1
          replace r2 := cell_later hb4 r2
          have y0 : (w3.alloc (.cells #[.int .u64 av, .int .u32 ar, .int .u32 m.2.2.2] 99)).cell? ⟨w3.heap.size, 0, none⟩ = some (.int .u64 av) := cell_nw w3 _ _ 0 _ rfl
          have y1 : (w3.alloc (.cells #[.int .u64 av, .int .u32 ar, .int .u32 m.2.2.2] 99)).cell? ⟨w3.heap.size, 1, none⟩ = some (.int .u32 ar) := cell_nw w3 _ _ 1 _ rfl
          have y2 : (w3.alloc (.cells #[.int .u64 av, .int .u32 ar, .int .u32 m.2.2.2] 99)).cell? ⟨w3.heap.size, 2, none⟩ = some (.int .u32 m.2.2.2) := cell_nw w3 _ _ 2 _ rfl
          have HB4 := Lib.hid (Below.step HB3.out hb4)
          have HZ4 := Lib.hid hb4.size
          clear hb4
          go_wp2_with fail
          generalize w3.alloc (.cells #[.int .u64 av, .int .u32 ar, .int .u32 m.2.2.2] 99) = w4 at *
          refine (A9.out (av, ar, m.2.2.2) w4 (HV.out.later HB4.out)).mono ?_
          rintro e w5 ⟨a5, cap5, rfl, hn5, hb5⟩
          unfold rqV
          replace fc0 := frz_later hb5 fc0 (lt_of_cell c0)
          replace fc1 := frz_later hb5 fc1 (lt_of_cell c1)
          replace fc2 := frz_later hb5 fc2 (lt_of_cell c2)
          replace fr0 := frz_later hb5 fr0 (lt_of_cell r0)
          replace fr1 := frz_later hb5 fr1 (lt_of_cell r1)
          replace fr2 := frz_later hb5 fr2 (lt_of_cell r2)
          replace c0 := cell_later hb5 c0
          replace c1 := cell_later hb5 c1
          replace c2 := cell_later hb5 c2
          replace r0 := cell_later hb5 r0
          replace r1 := cell_later hb5 r1
          replace r2 := cell_later hb5 r2
          have HB5 := Lib.hid (Below.step HB4.out hb5)
          have hcf : chF true n S id (chgX t) fl = riseF (itemsM (chM S id (av, ar, m.2.2.2))) fl := by
            unfold chF
            rw [if_pos P1.out, HE.out]
            exact congrArg (fun q => riseF (itemsM (chM S id q)) fl) E1.out
          have hcs : chS true n S id (chgX t) = chM S id (av, ar, m.2.2.2) := by rw [P2.out, E1.out]
          have HCF := Lib.hid hcf
          have HCS := Lib.hid hcs
          obtain ⟨N, hN⟩ : ∃ N, N = (chM S id (av, ar, m.2.2.2)).length := ⟨_, rfl⟩
          have HNN := Lib.hid hN
          have HN5 := Lib.hid hn5
          rw [← hN] at HN5 ⊢
          generalize riseF (itemsM (chM S id (av, ar, m.2.2.2))) fl = f5 at *
          clear hb5 hN hn5 hcf hcs
          go_wp2_with fail
          refine bodyPost_ret (v := (.tuple #[rqV n a5 N cap5 f5, .int .i64 0])) (by simp [results, Try.results48, go_sem, rqV, *]) rfl ?_
          have KF : Kept [bx + 1] w5 (((w5.setCell ⟨bx + 1, 0, none⟩ (.int .i64 n)).setCell ⟨bx + 1, 1, none⟩ (.slice a5 N cap5)).setCell ⟨bx + 1, 2, none⟩ (.int .u64 f5)) := (((Kept.refl _ _).setCell (Or.inl (by simp)) _).setCell (Or.inl (by simp)) _).setCell (Or.inl (by simp)) _
          have H5 := HN5.out
          rw [HBD.out, P1.out, HCF.out, HCS.out]
          rw [HNN.out] at H5 KF ⊢
          exact ⟨_, _, rfl, NewM.wrap H5 HB4.out (fun b hb => by simp at hb; have := HBX.out; have := HSZ.out; have := HZ1.out; have := HZ3.out; have := HZ4.out; omega) KF, Kept.stepB HB5.out (Nat.le_refl _) KF (fun b hb => by simp at hb; have := HBX.out; omega)⟩
        · have HC := Lib.hid (show chC (decide (tkOk t)) n S id = 6 by rw [HBD.out]; exact chc_none HH.out hkn)
          rw [hf]
          clear hf hkn
          go_wp2_with fail
          refine bodyPost_ret (v := (.tuple #[rqV n a L cap fl, .int .i64 6])) (by simp [results, Try.results48, go_sem, rqV, *]) rfl ?_
          refine HFIN.out 6 _ HC.out (by decide) ?_
          repeat (refine Below.setCell ?_ (by have := HBX.out; first | (simp; omega) | (simp; done)) _)
          exact HB1.out
      · rw [Ch.tB_f (fun h => hto h)]
        have HC := Lib.hid (show chC (decide (tkOk t)) n S id = 2 by rw [decide_eq_false hto]; exact chc_wrong)
        clear hto
        go_wp2_with fail
        refine bodyPost_ret (v := (.tuple #[rqV n a L cap fl, .int .i64 2])) (by simp [results, Try.results48, go_sem, rqV, *]) rfl ?_
        refine HFIN.out 2 _ HC.out (by decide) ?_
        repeat (refine Below.setCell ?_ (by have := HBX.out; first | (simp; omega) | (simp; done)) _)
        exact HB1.out
end Go.Proofs.Ytekjakmeopolhaa
namespace Go.Proofs.Ytekjakmeopolhaa
open Go.RowKit Go.Maps Go.IntWalk Go.Lib
set_option linter.unusedVariables false
set_option linter.unusedSimpArgs false
set_option maxRecDepth 100000 in
set_option maxHeartbeats 2000000 in
theorem rWeigh_any (a : Option Addr) (cap : Nat) (n fl id t : Int) (S : Mems) (w : World) (h : HeldR encMs [] w (.slice a S.length cap) S) (hS : RefM S) (ht : -9223372036854775808 ≤ t ∧ t ≤ 9223372036854775807) :
    Calls Try.prog 49 #[.agg #[.int .i64 n, .slice a S.length cap, .int .u64 fl], .int .i64 id, .int .i64 t] w (RResP w (.slice a S.length cap) S n (chF (decide (wgOk t)) n S id (wghX t) fl) (chS (decide (wgOk t)) n S id (wghX t)) (chC (decide (wgOk t)) n S id)) := by
  have HV := Lib.hid h
  have HS := Lib.hid hS
  have FIN : ∀ c W, chC (decide (wgOk t)) n S id = c → c ≠ 0 → Below w.heap.size w W → RResP w (.slice a S.length cap) S n (chF (decide (wgOk t)) n S id (wghX t) fl) (chS (decide (wgOk t)) n S id (wghX t)) (chC (decide (wgOk t)) n S id) (.returned (.tuple #[rqV n a S.length cap fl, .int .i64 c])) W := fun c W e hc hb => by
    obtain ⟨p1, p2⟩ := ch_no e hc (wghX t) fl
    rw [e, p1, p2]
    exact ⟨a, cap, rfl, NewM.same hb, hb⟩
  have HFIN := Lib.hid FIN
  have AF := Lib.hid fun (W : World) (q : RecsAt encMs W (.slice a S.length cap) S) => rFind_any a cap n fl id S W q
  have ACh := Lib.hid fun (x : Ent) (k : Nat) (W : World) (q : HeldR encMs [] W (.slice a S.length cap) S) (hk : k < S.length) (hf : findM S id = (k : Int)) (hid : S[k]!.1 = id) => rchange_ok a cap n fl id x S k W q hS hk hf hid
  clear h hS FIN
  obtain ⟨L, hL⟩ : ∃ L, L = S.length := ⟨_, rfl⟩
  have HLL := Lib.hid hL
  rw [← hL] at HV HFIN AF ACh ⊢
  clear hL
  obtain ⟨W0, hW0⟩ : ∃ W0, W0 = ((w.alloc (.cells #[.int .i64 n, .slice a L cap, .int .u64 fl] 68)).alloc (.cells #[.int .i64 0, .slice none 0 0, .int .u64 0] 68)) := ⟨_, rfl⟩
  have HB0 := Lib.hid (show Below w.heap.size w W0 by rw [hW0]; exact (Below.allocS (Below.allocS (Below.refl _ _) _) _))
  have c0 : W0.cell? ⟨w.heap.size, 0, none⟩ = some (.int .i64 n) := by rw [hW0]; exact cell_al _ (cell_nwE (by simp) _ _ 0 _ rfl)
  have fc0 : W0.frozen? ⟨w.heap.size, 0, none⟩ = false := by rw [hW0]; exact frz_later (below_a _ _) (frz_nwE (by simp) _ _ 0) (by first | (simp; done) | (simp; omega))
  have c1 : W0.cell? ⟨w.heap.size, 1, none⟩ = some (.slice a L cap) := by rw [hW0]; exact cell_al _ (cell_nwE (by simp) _ _ 1 _ rfl)
  have fc1 : W0.frozen? ⟨w.heap.size, 1, none⟩ = false := by rw [hW0]; exact frz_later (below_a _ _) (frz_nwE (by simp) _ _ 1) (by first | (simp; done) | (simp; omega))
  have c2 : W0.cell? ⟨w.heap.size, 2, none⟩ = some (.int .u64 fl) := by rw [hW0]; exact cell_al _ (cell_nwE (by simp) _ _ 2 _ rfl)
  have fc2 : W0.frozen? ⟨w.heap.size, 2, none⟩ = false := by rw [hW0]; exact frz_later (below_a _ _) (frz_nwE (by simp) _ _ 2) (by first | (simp; done) | (simp; omega))
  have r0 : W0.cell? ⟨w.heap.size + 1, 0, none⟩ = some (.int .i64 0) := by rw [hW0]; exact cell_nwE (by simp) _ _ 0 _ rfl
  have fr0 : W0.frozen? ⟨w.heap.size + 1, 0, none⟩ = false := by rw [hW0]; exact frz_nwE (by simp) _ _ 0
  have r1 : W0.cell? ⟨w.heap.size + 1, 1, none⟩ = some (.slice none 0 0) := by rw [hW0]; exact cell_nwE (by simp) _ _ 1 _ rfl
  have fr1 : W0.frozen? ⟨w.heap.size + 1, 1, none⟩ = false := by rw [hW0]; exact frz_nwE (by simp) _ _ 1
  have r2 : W0.cell? ⟨w.heap.size + 1, 2, none⟩ = some (.int .u64 0) := by rw [hW0]; exact cell_nwE (by simp) _ _ 2 _ rfl
  have fr2 : W0.frozen? ⟨w.heap.size + 1, 2, none⟩ = false := by rw [hW0]; exact frz_nwE (by simp) _ _ 2
  have HSZ := Lib.hid (show W0.heap.size = w.heap.size + 1 + 1 by rw [hW0]; simp)
  have HW0 := Lib.hid hW0
  clear hW0
  go_enter Try.func49, Try.ntmps49
  go_wp2_with fail
  rw [← HW0.out]
  generalize hbx : w.heap.size = bx at c0 c1 c2 r0 r1 r2 fc0 fc1 fc2 fr0 fr1 fr2 HSZ  ⊢
  have HBX := Lib.hid hbx
  clear hbx HW0
  refine (AF.out W0 (HV.out.later HB0.out).recs).mono ?_
  rintro e w1 ⟨rfl, hg1⟩
  have hb1 := hg1.below
  replace fc0 := frz_later hb1 fc0 (lt_of_cell c0)
  replace fc1 := frz_later hb1 fc1 (lt_of_cell c1)
  replace fc2 := frz_later hb1 fc2 (lt_of_cell c2)
  replace fr0 := frz_later hb1 fr0 (lt_of_cell r0)
  replace fr1 := frz_later hb1 fr1 (lt_of_cell r1)
  replace fr2 := frz_later hb1 fr2 (lt_of_cell r2)
  replace c0 := cell_later hb1 c0
  replace c1 := cell_later hb1 c1
  replace c2 := cell_later hb1 c2
  replace r0 := cell_later hb1 r0
  replace r1 := cell_later hb1 r1
  replace r2 := cell_later hb1 r2
  have HB1 := Lib.hid (Below.step HB0.out hb1)
  have HZ1 := Lib.hid hb1.size
  clear hb1 hg1
  by_cases h0 : id < 0
  · have z1 : decide (id < 0) = true := decide_eq_true h0
    have HC := Lib.hid (show chC (decide (wgOk t)) n S id = 2 from chc_bad (by unfold hasV; exact decide_eq_false (by omega)))
    clear h0
    go_wp2_with fail
    refine bodyPost_ret (v := (.tuple #[rqV n a L cap fl, .int .i64 2])) (by simp [results, Try.results49, go_sem, rqV, *]) rfl ?_
    refine HFIN.out 2 _ HC.out (by decide) ?_
    repeat (refine Below.setCell ?_ (by have := HBX.out; first | (simp; omega) | (simp; done)) _)
    exact HB1.out
  · have z1 : decide (id < 0) = false := decide_eq_false h0
    by_cases h1 : n ≤ id
    · have z2 : decide (n ≤ id) = true := decide_eq_true h1
      have z2' : decide (id ≥ n) = true := decide_eq_true h1
      have HC := Lib.hid (show chC (decide (wgOk t)) n S id = 2 from chc_bad (by unfold hasV; exact decide_eq_false (by omega)))
      clear h0 h1
      go_wp2_with fail
      refine bodyPost_ret (v := (.tuple #[rqV n a L cap fl, .int .i64 2])) (by simp [results, Try.results49, go_sem, rqV, *]) rfl ?_
      refine HFIN.out 2 _ HC.out (by decide) ?_
      repeat (refine Below.setCell ?_ (by have := HBX.out; first | (simp; omega) | (simp; done)) _)
      exact HB1.out
    · have z2 : decide (n ≤ id) = false := decide_eq_false h1
      have z2' : decide (id ≥ n) = false := decide_eq_false h1
      have z2q : (n ≤ id) = False := eq_false h1
      have HH := Lib.hid (show hasV n id = true from has_true (by omega) (by omega))
      clear h0 h1
      go_wp2_with fail
      refine (rWeight_any t _).mono ?_
      rintro e w2 ⟨rfl, rfl⟩
      by_cases hto : wgOk t
      · rw [Ch.wB_t hto.1 hto.2]
        have HTO := Lib.hid hto
        have hB : decide (wgOk t) = true := decide_eq_true hto
        have HBD := Lib.hid hB
        clear hto hB
        rcases findM_cases S id with ⟨k, hk, hf, hid, hfst⟩ | ⟨hf, hkn⟩
        · have HE := Lib.hid ((ent_some HS.out.mok.nod).2 (show (id, S[k]!.2) ∈ S by rw [← hid, getElem!_pos S k hk]; exact List.getElem_mem _))
          obtain ⟨p1, p2⟩ := chc_there HH.out HE.out (wghX t)
          have P1 := Lib.hid p1
          have P2 := Lib.hid p2
          have hkL : k < L := by rw [HLL.out]; exact hk
          obtain ⟨-, b, off, rfl, i0, i1, i2, i3⟩ := HV.out.recs.mem hkL
          have HBB := Lib.hid (lt_of_cell i0)
          have hok := HS.out.mok.ok S[k]! (by rw [getElem!_pos S k hk]; exact List.getElem_mem _)
          have A9 := Lib.hid fun (x : Ent) (W : World) (q : HeldR encMs [] W (.slice (some ⟨b, off, none⟩) L cap) S) => ACh.out x k W q hkL hf hid
          obtain ⟨m, hm⟩ : ∃ m, m = S[k]! := ⟨_, rfl⟩
          rw [← hm] at i1 i2 i3 hok P2 HE
          replace i1 := cell_later HB1.out i1
          replace i2 := cell_later HB1.out i2
          replace i3 := cell_later HB1.out i3
          rw [hf]
          have hk0 : (0 : Int) ≤ (k : Int) := by omega
          have zk : decide ((k : Int) < 0) = false := decide_eq_false (by omega)
          have hkm : (k : Int) < (L : Int) := by omega
          have ht0 : 0 ≤ t := by have := HTO.out; unfold wgOk at this; omega
          have ht1 : t ≤ 65536 := by have := HTO.out; unfold wgOk at this; omega
          have wt : IntKind.u32.wrap t = t := IntWalk.u32_in _ (by omega)
          clear hk hf hid hfst p1 p2 hm ACh AF i0 hok i2 i3
          go_wp2_with fail
          have HRS := Lib.hid (And.intro r0 (And.intro r1 r2))
          have hcS : bx ∉ [bx + 1] := by simp
          have hbS : b ∉ [bx + 1] := fun h => by simp at h; have := HBB.out; have := HBX.out; omega
          clear HRS
          have hS0 : Kept [bx + 1] w1 w1.drew ∧ w1.drew.cell? ⟨bx, 0, none⟩ = some (.int .i64 n) ∧ w1.drew.cell? ⟨bx, 1, none⟩ = some (.slice (some ⟨b, off, none⟩) L cap) ∧ w1.drew.cell? ⟨bx, 2, none⟩ = some (.int .u64 fl) ∧ w1.drew.cell? ⟨b, off + k * 4 + 1, none⟩ = some (.int .u64 m.2.1) := ⟨Kept.drew (Kept.refl _ _), cell_dr c0, cell_dr c1, cell_dr c2, cell_dr i1⟩
          refine wp_region_held_drew (S := fun w' => Kept [bx + 1] w1 w' ∧ w'.cell? ⟨bx, 0, none⟩ = some (.int .i64 n) ∧ w'.cell? ⟨bx, 1, none⟩ = some (.slice (some ⟨b, off, none⟩) L cap) ∧ w'.cell? ⟨bx, 2, none⟩ = some (.int .u64 fl) ∧ w'.cell? ⟨b, off + k * 4 + 1, none⟩ = some (.int .u64 m.2.1)) (by kernel_rfl) hS0 (fun hHeld => ?_)
          refine takeH (i := 0) (v := ?v0_1) rfl (by kernel_rfl) (fun _ _ _ h => h) (by rfl) ?hy0_1 (by assumption) ?rest0_1
          case hy0_1 => (intro w hSw; (try dsimp only at hSw); go_simp; try with_reducible rfl)
          try simp only [Act.put, List.setIfInBounds_toArray, List.set_cons_zero, List.set_cons_succ]
          refine takeH (i := 1) (v := ?v1_2) rfl (by kernel_rfl) (fun _ _ _ h => h) (by rfl) ?hy1_2 (by assumption) ?rest1_2
          case hy1_2 => (intro w hSw; (try dsimp only at hSw); go_simp; try with_reducible rfl)
          try simp only [Act.put, List.setIfInBounds_toArray, List.set_cons_zero, List.set_cons_succ]
          refine takeH (i := 2) (v := ?v2_3) rfl (by kernel_rfl) (fun _ _ _ h => h) (by rfl) ?hy2_3 (by assumption) ?rest2_3
          case hy2_3 => (intro w hSw; (try dsimp only at hSw); go_simp; try with_reducible rfl)
          try simp only [Act.put, List.setIfInBounds_toArray, List.set_cons_zero, List.set_cons_succ]
          refine takeH (i := 3) (v := ?v3_4) rfl (by kernel_rfl) (fun _ _ _ h => h) (by rfl) ?hy3_4 (by assumption) ?rest3_4
          case hy3_4 => (intro w hSw; (try dsimp only at hSw); go_simp; try with_reducible rfl)
          try simp only [Act.put, List.setIfInBounds_toArray, List.set_cons_zero, List.set_cons_succ]
          refine takeH (i := 4) (v := ?v4_5) rfl (by kernel_rfl) (fun _ _ _ h => h) (by rfl) ?hy4_5 (by assumption) ?rest4_5
          case hy4_5 => (intro w hSw; (try dsimp only at hSw); go_simp; try with_reducible rfl)
          try simp only [Act.put, List.setIfInBounds_toArray, List.set_cons_zero, List.set_cons_succ]
          refine takeH (i := 5) (v := ?v5_6) rfl (by kernel_rfl) (fun _ _ _ h => h) (by rfl) ?hy5_6 (by assumption) ?rest5_6
          case hy5_6 => (intro w hSw; (try dsimp only at hSw); go_simp; try with_reducible rfl)
          try simp only [Act.put, List.setIfInBounds_toArray, List.set_cons_zero, List.set_cons_succ]
          refine takeH (i := 6) (v := ?v6_7) rfl (by kernel_rfl) (fun _ _ _ h => h) (by rfl) ?hy6_7 (by assumption) ?rest6_7
          case hy6_7 => (intro w hSw; (try dsimp only at hSw); go_simp; try with_reducible rfl)
          try simp only [Act.put, List.setIfInBounds_toArray, List.set_cons_zero, List.set_cons_succ]
          refine takeH (i := 7) (v := ?v7_8) rfl (by kernel_rfl) (fun _ _ _ h => h) (by rfl) ?hy7_8 (by assumption) ?rest7_8
          case hy7_8 => (intro w hSw; (try dsimp only at hSw); go_simp; try with_reducible rfl)
          try simp only [Act.put, List.setIfInBounds_toArray, List.set_cons_zero, List.set_cons_succ]
          refine takeH (i := 8) (v := ?v8_9) rfl (by kernel_rfl) (fun _ _ _ h => h) (by rfl) ?hy8_9 (by assumption) ?rest8_9
          case hy8_9 => (intro w hSw; (try dsimp only at hSw); go_simp; try with_reducible rfl)
          try simp only [Act.put, List.setIfInBounds_toArray, List.set_cons_zero, List.set_cons_succ]
          refine takeH (i := 9) (v := ?v9_10) rfl (by kernel_rfl) (fun _ _ _ h => h) (by rfl) ?hy9_10 (by assumption) ?rest9_10
          case hy9_10 => (intro w hSw; (try dsimp only at hSw); go_simp; try with_reducible rfl)
          try simp only [Act.put, List.setIfInBounds_toArray, List.set_cons_zero, List.set_cons_succ]
          refine takeH (i := 10) (v := ?v10_11) rfl (by kernel_rfl) (fun _ _ _ h => h) (by rfl) ?hy10_11 (by assumption) ?rest10_11
          case hy10_11 => (intro w hSw; (try dsimp only at hSw); go_simp; try with_reducible rfl)
          try simp only [Act.put, List.setIfInBounds_toArray, List.set_cons_zero, List.set_cons_succ]
          refine takeH (i := 11) (v := ?v11_12) rfl (by kernel_rfl) (fun _ _ _ h => h) (by rfl) ?hy11_12 (by assumption) ?rest11_12
          case hy11_12 => (intro w hSw; (try dsimp only at hSw); go_simp; try with_reducible rfl)
          try simp only [Act.put, List.setIfInBounds_toArray, List.set_cons_zero, List.set_cons_succ]
          refine wpAnyH_ready (rs := [12]) (by kernel_rfl) (by simp) ?_
          refine consH rfl (fun K hK => ?_) (AllReadyH.nil)
          go_simp
          refine (A9.out (m.2.1, 0, t) w1.drew (HV.out.later (Below.step HB1.out (Below.refl _ _).drew))).mono ?_
          rintro e w5 ⟨a5, cap5, rfl, hn5, hb5⟩
          unfold rqV
          have hk5 : Kept [bx + 1] w1.drew w5 := Kept.of hb5
          have hB5 := Below.step (Below.refl w1.heap.size w1).drew hb5
          replace fr0 := frz_later hB5 fr0 (lt_of_cell r0)
          replace fr1 := frz_later hB5 fr1 (lt_of_cell r1)
          replace fr2 := frz_later hB5 fr2 (lt_of_cell r2)
          replace r0 := cell_later hB5 r0
          replace r1 := cell_later hB5 r1
          replace r2 := cell_later hB5 r2
          have HB5 := Lib.hid (Below.step HB1.out hB5)
          have HN5 := Lib.hid (NewM.trans (NewM.same (Below.refl w1.heap.size w1).drew) hn5 (Below.refl w1.heap.size w1).drew.size)
          have HCF := Lib.hid (show chF true n S id (wghX t) fl = riseF (itemsM (chM S id (m.2.1, 0, t))) fl by unfold chF; rw [if_pos P1.out, HE.out]; rfl)
          have HCS := Lib.hid (show chS true n S id (wghX t) = chM S id (m.2.1, 0, t) by rw [P2.out]; rfl)
          obtain ⟨N, hN⟩ : ∃ N, N = (chM S id (m.2.1, 0, t)).length := ⟨_, rfl⟩
          have HNN := Lib.hid hN
          rw [← hN] at HN5 ⊢
          generalize riseF (itemsM (chM S id (m.2.1, 0, t))) fl = f5 at *
          clear hb5 hN hn5 hB5
          go_wp2_with fail
          refine hK.out _ _ ?_ (fun hHeld12 => ?_)
          · (first | assumption | (refine heldK_4 (by assumption) ?_ (by assumption) (by assumption) (by assumption) (by assumption) ; assumption) | (refine heldK_4 (Kept.of (below_ad _ _)) ?_ (by assumption) (by assumption) (by assumption) (by assumption) ; assumption) | (refine heldK_4 (Kept.of (below_a _ _)) ?_ (by assumption) (by assumption) (by assumption) (by assumption) ; assumption))
          clear hK K
          try simp only [Act.put, List.setIfInBounds_toArray, List.set_cons_zero, List.set_cons_succ]
          refine takeH (i := 13) (v := ?v13_13) rfl (by kernel_rfl) (fun _ _ _ h => h) (by rfl) ?hy13_13 (by assumption) ?rest13_13
          case hy13_13 => (intro w hSw; (try dsimp only at hSw); go_simp; try with_reducible rfl)
          try simp only [Act.put, List.setIfInBounds_toArray, List.set_cons_zero, List.set_cons_succ]
          refine takeH (i := 14) (v := ?v14_14) rfl (by kernel_rfl) (fun _ _ _ h => h) (by rfl) ?hy14_14 (by assumption) ?rest14_14
          case hy14_14 => (intro w hSw; (try dsimp only at hSw); go_simp; try with_reducible rfl)
          try simp only [Act.put, List.setIfInBounds_toArray, List.set_cons_zero, List.set_cons_succ]
          refine wpAnyH_ready (rs := [15]) (by kernel_rfl) (by simp) ?_
          refine consH rfl (fun K hK => ?_) (AllReadyH.nil)
          go_simp
          have hk6 : Kept [bx + 1] w5 (((w5.setCell ⟨bx + 1, 0, none⟩ (.int .i64 n)).setCell ⟨bx + 1, 1, none⟩ (.slice a5 N cap5)).setCell ⟨bx + 1, 2, none⟩ (.int .u64 f5)) := (((Kept.refl _ _).setCell (Or.inl (by simp)) _).setCell (Or.inl (by simp)) _).setCell (Or.inl (by simp)) _
          replace r0 : (((w5.setCell ⟨bx + 1, 0, none⟩ (.int .i64 n)).setCell ⟨bx + 1, 1, none⟩ (.slice a5 N cap5)).setCell ⟨bx + 1, 2, none⟩ (.int .u64 f5)).cell? ⟨bx + 1, 0, none⟩ = some (.int .i64 n) := (cell_set_ne (cell_set_ne (cell_set_eq r0) (Or.inr (by decide))) (Or.inr (by decide)))
          replace r1 : (((w5.setCell ⟨bx + 1, 0, none⟩ (.int .i64 n)).setCell ⟨bx + 1, 1, none⟩ (.slice a5 N cap5)).setCell ⟨bx + 1, 2, none⟩ (.int .u64 f5)).cell? ⟨bx + 1, 1, none⟩ = some (.slice a5 N cap5) := (cell_set_ne (cell_set_eq (cell_set_ne r1 (Or.inr (by decide)))) (Or.inr (by decide)))
          replace r2 : (((w5.setCell ⟨bx + 1, 0, none⟩ (.int .i64 n)).setCell ⟨bx + 1, 1, none⟩ (.slice a5 N cap5)).setCell ⟨bx + 1, 2, none⟩ (.int .u64 f5)).cell? ⟨bx + 1, 2, none⟩ = some (.int .u64 f5) := (cell_set_eq (cell_set_ne (cell_set_ne r2 (Or.inr (by decide))) (Or.inr (by decide))))
          obtain ⟨wq, hwq⟩ : ∃ wq, wq = (((w5.setCell ⟨bx + 1, 0, none⟩ (.int .i64 n)).setCell ⟨bx + 1, 1, none⟩ (.slice a5 N cap5)).setCell ⟨bx + 1, 2, none⟩ (.int .u64 f5)) := ⟨_, rfl⟩
          rw [← hwq] at hk6 r0 r1 r2 ⊢
          clear hwq fr0 fr1 fr2
          refine hK.out _ _ ?_ (fun hHeld15 => ?_)
          · (first | assumption | (refine heldK_4 (by assumption) ?_ (by assumption) (by assumption) (by assumption) (by assumption) ; assumption) | (refine heldK_4 (Kept.of (below_ad _ _)) ?_ (by assumption) (by assumption) (by assumption) (by assumption) ; assumption) | (refine heldK_4 (Kept.of (below_a _ _)) ?_ (by assumption) (by assumption) (by assumption) (by assumption) ; assumption))
          clear hK K
          try simp only [Act.put, List.setIfInBounds_toArray, List.set_cons_zero, List.set_cons_succ]
          refine takeH (i := 16) (v := ?v16_15) rfl (by kernel_rfl) (fun _ _ _ h => h) (by rfl) ?hy16_15 (by assumption) ?rest16_15
          case hy16_15 => (intro w hSw; (try dsimp only at hSw); go_simp; try with_reducible rfl)
          try simp only [Act.put, List.setIfInBounds_toArray, List.set_cons_zero, List.set_cons_succ]
          refine wpAnyH_done (by kernel_rfl) ?_ _
          go_wp2_with fail
          refine bodyPost_ret (v := .tuple #[rqV n a5 N cap5 f5, .int .i64 0]) (by simp [results, Try.results49, go_sem, rqV, *]) rfl ?_
          have H5 := HN5.out
          rw [HBD.out, P1.out, HCF.out, HCS.out]
          rw [HNN.out] at H5 ⊢
          exact ⟨_, _, rfl, NewM.wrap H5 HB1.out (fun b hb => by simp at hb; have := HBX.out; have := HSZ.out; have := HZ1.out; omega) hk6, Kept.stepB HB5.out (Nat.le_refl _) hk6 (fun b hb => by simp at hb; have := HBX.out; omega)⟩
        · have HC := Lib.hid (show chC (decide (wgOk t)) n S id = 6 by rw [HBD.out]; exact chc_none HH.out hkn)
          rw [hf]
          clear hf hkn
          go_wp2_with fail
          refine bodyPost_ret (v := (.tuple #[rqV n a L cap fl, .int .i64 6])) (by simp [results, Try.results49, go_sem, rqV, *]) rfl ?_
          refine HFIN.out 6 _ HC.out (by decide) ?_
          repeat (refine Below.setCell ?_ (by have := HBX.out; first | (simp; omega) | (simp; done)) _)
          exact HB1.out
      · rw [Ch.wB_f (fun h => hto h)]
        have HC := Lib.hid (show chC (decide (wgOk t)) n S id = 2 by rw [decide_eq_false hto]; exact chc_wrong)
        clear hto
        go_wp2_with fail
        refine bodyPost_ret (v := (.tuple #[rqV n a L cap fl, .int .i64 2])) (by simp [results, Try.results49, go_sem, rqV, *]) rfl ?_
        refine HFIN.out 2 _ HC.out (by decide) ?_
        repeat (refine Below.setCell ?_ (by have := HBX.out; first | (simp; omega) | (simp; done)) _)
        exact HB1.out
end Go.Proofs.Ytekjakmeopolhaa
