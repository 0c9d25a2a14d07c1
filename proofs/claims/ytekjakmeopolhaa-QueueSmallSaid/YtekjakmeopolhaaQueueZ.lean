/-
  Layer 24 (queue): alike.
-/
import Derived.Test.YtekjakmeopolhaaQueueA
import Derived.Test.YtekjakmeopolhaaKitT
namespace Go.Proofs.Ytekjakmeopolhaa
open Go.RowKit Go.Maps Go.IntWalk Go.Lib
set_option linter.unusedVariables false
def sameM (A B : Mems) : Bool := decide (A = B)
theorem sameM_false {A B : Mems} (h : A ≠ B) : sameM A B = false := decide_eq_false h
theorem sameM_true {A B : Mems} (h : A = B) : sameM A B = true := decide_eq_true h
theorem RecsAt.mem {w : World} {a : Option Addr} {n cap : Nat} {M : Mems} (h : RecsAt encMs w (.slice a n cap) M) {i : Nat} (hi : i < n) : i < M.length ∧ ∃ b off, a = some ⟨b, off, none⟩ ∧ w.cell? ⟨b, off + i * 4, none⟩ = some (.int .i64 M[i]!.1) ∧ w.cell? ⟨b, off + i * 4 + 1, none⟩ = some (.int .u64 M[i]!.2.1) ∧ w.cell? ⟨b, off + i * 4 + 2, none⟩ = some (.int .u32 M[i]!.2.2.1) ∧ w.cell? ⟨b, off + i * 4 + 3, none⟩ = some (.int .u32 M[i]!.2.2.2) := by
  have hl : i < M.length := by rw [← h.len.1]; exact hi
  have hg : M[i]? = some M[i]! := by rw [List.getElem?_eq_getElem hl, getElem!_pos M i hl]
  obtain ⟨-, b, off, e, hc⟩ := h.at encMs_ok hg
  exact ⟨hl, b, off, e, hc 0 _ rfl, hc 1 _ rfl, hc 2 _ rfl, hc 3 _ rfl⟩
theorem mems_ext {α : Type} [Inhabited α] {A B : List α} (h : A.length = B.length) (he : ∀ i, i < A.length → A[i]! = B[i]!) : A = B := by
  refine List.ext_getElem h fun i h1 h2 => ?_
  have := he i h1
  rwa [getElem!_pos A i h1, getElem!_pos B i h2] at this
def neq4 (a b c d a' b' c' d' : Int) : Bool := !(decide (a = a' ∧ b = b' ∧ c = c' ∧ d = d'))
def eq3 (b c d b' c' d' : Int) : Bool := decide (b = b' ∧ c = c' ∧ d = d')
theorem eqIn_entity (D : Nat) (w : World) (b c d b' c' d' : Int) : (Op.equalIn (D + 3) 32 (.agg #[.int .u64 b, .int .u32 c, .int .u32 d]) (.agg #[.int .u64 b', .int .u32 c', .int .u32 d'])).run Try.prog w = .ok (eq3 b c d b' c' d') w := by
  rw [run_equalIn_agg w (D + 2) _ _ _ (by kernel_rfl) (by kernel_rfl)]
  simp [go_sem, Try.underlying32]
  unfold eq3
  by_cases h1 : b = b' <;> by_cases h2 : c = c' <;> by_cases h3 : d = d' <;> simp [h1, h2, h3]
@[go_sem] theorem eg_entity : Try.prog.eqGuardType Try.prog.depth 32 = false := by kernel_rfl
@[go_sem] theorem eg_member : Try.prog.eqGuardType Try.prog.depth 43 = false := by kernel_rfl
@[go_sem high] theorem run_eql_entity (w : World) (b c d b' c' d' : Int) : (binOp .eql 32 (.agg #[.int .u64 b, .int .u32 c, .int .u32 d]) (.agg #[.int .u64 b', .int .u32 c', .int .u32 d'])).run Try.prog w = .ok (.bool (eq3 b c d b' c' d')) w := by
  rw [run_eql_struct, eqIn_entity 9997]
  rfl
@[go_sem high] theorem run_neq_entity (w : World) (b c d b' c' d' : Int) : (binOp .neq 32 (.agg #[.int .u64 b, .int .u32 c, .int .u32 d]) (.agg #[.int .u64 b', .int .u32 c', .int .u32 d'])).run Try.prog w = .ok (.bool (!(eq3 b c d b' c' d'))) w := by
  rw [run_neq_struct, eqIn_entity 9997]
  rfl
@[go_sem high] theorem run_neq_member (w : World) (a b c d a' b' c' d' : Int) : (binOp .neq 43 (.agg #[.int .i64 a, .int .u64 b, .int .u32 c, .int .u32 d]) (.agg #[.int .i64 a', .int .u64 b', .int .u32 c', .int .u32 d'])).run Try.prog w = .ok (.bool (neq4 a b c d a' b' c' d')) w := by
  rw [run_neq_struct, run_equalIn_agg w 9999 _ _ _ (by kernel_rfl) (by kernel_rfl)]
  simp [go_sem, Try.underlying43]
  unfold neq4
  by_cases h0 : a = a' <;> by_cases h1 : b = b' <;> by_cases h2 : c = c' <;> by_cases h3 : d = d' <;> simp [h0, h1, h2, h3]
set_option maxRecDepth 100000 in
set_option maxHeartbeats 1000000 in
theorem alike_any (va vb : Value) (A B : Mems) (w : World) (ha : RecsAt encMs w va A) (hb : RecsAt encMs w vb B) (h1 : A.length ≤ 1000000) (h2 : B.length ≤ 1000000) :
    Calls Try.prog 16 #[va, vb] w fun e w' => e = .returned (.bool (sameM A B)) ∧ ∃ q, w' = w.drewN q := by
  obtain ⟨a, ca, rfl, -⟩ := id ha
  obtain ⟨b, cb, rfl, -⟩ := id hb
  by_cases hl : A.length = B.length
  · have hz : ((A.length : Int) != (B.length : Int)) = false := by simp [hl]
    have HL := Lib.hid hl
    have HA := Lib.hid ha
    have HB := Lib.hid hb
    clear hl ha hb
    go_enter Try.func16, Try.ntmps16
    go_wp2_with fail
    go_loopw [13] (fun i wr => ∃ k q : Nat, k ≤ A.length ∧ i = .int .i64 k ∧ (∀ j, j < k → A[j]! = B[j]!) ∧ wr = w.drewN q) (fun i _ => A.length - (intOf i).toNat)
    case atStart => exact ⟨0, 0, Nat.zero_le _, rfl, fun j hj => by omega, rfl⟩
    case round =>
      obtain ⟨k, q, hk, rfl, heq, rfl⟩ := hrel
      have HE := Lib.hid heq
      clear heq
      by_cases hlt : k < A.length
      · have hkB : k < B.length := by have := HL.out; omega
        obtain ⟨-, b1, o1, rfl, i0, i1, i2, i3⟩ := HA.out.mem hlt
        obtain ⟨-, b2, o2, rfl, j0, j1, j2, j3⟩ := HB.out.mem hkB
        obtain ⟨x, hx⟩ : ∃ x, x = A[k]! := ⟨_, rfl⟩
        obtain ⟨y, hy⟩ : ∃ y, y = B[k]! := ⟨_, rfl⟩
        rw [← hx] at i0 i1 i2 i3
        rw [← hy] at j0 j1 j2 j3
        have hk0 : (0 : Int) ≤ (k : Int) := by omega
        have hkn : (k : Int) < (A.length : Int) := by omega
        have hkm : (k : Int) < (B.length : Int) := by omega
        have HX := Lib.hid hx
        have HY := Lib.hid hy
        have HKB := Lib.hid hkB
        clear hx hy
        by_cases hxy : x = y
        · have hn : neq4 x.1 x.2.1 x.2.2.1 x.2.2.2 y.1 y.2.1 y.2.2.1 y.2.2.2 = false := by rw [hxy]; simp [neq4]
          have HXY := Lib.hid hxy
          clear hxy
          go_wp2_with fail
          go_quiet (fail)
          go_wp2_with fail
          go_roundw
          case rel =>
            refine ⟨k + 1, _, by omega, by go_num, fun j hj => ?_, rfl⟩
            by_cases e : j = k
            · rw [e, ← HX.out, ← HY.out]; exact HXY.out
            · exact HE.out j (by omega)
          case measure => simp [intOf]; omega
        · have hn : neq4 x.1 x.2.1 x.2.2.1 x.2.2.2 y.1 y.2.1 y.2.2.1 y.2.2.2 = true := by
            unfold neq4
            rw [decide_eq_false fun e => hxy (Prod.ext e.1 (Prod.ext e.2.1 (Prod.ext e.2.2.1 e.2.2.2)))]
            rfl
          have hf := Lib.hid (sameM_false (A := A) (B := B) fun e => hxy (by rw [HX.out, HY.out, e]))
          clear hxy
          go_wp2_with fail
          go_quiet (fail)
          go_wp2_with fail
          go_ret
          exact ⟨by rw [hf.out]; rfl, q + nq, World.drewN_drewN _ _ _⟩
      · obtain rfl : k = A.length := by omega
        have hf := Lib.hid (sameM_true (A := A) (B := B) (mems_ext HL.out HE.out))
        go_wp2_with fail
        go_ret
        exact ⟨by rw [hf.out]; rfl, _, rfl⟩
  · have hz : ((A.length : Int) != (B.length : Int)) = true := by rw [bne_iff_ne]; omega
    have hf := Lib.hid (sameM_false (A := A) (B := B) fun e => hl (by rw [e]))
    clear ha hb hl
    go_enter Try.func16, Try.ntmps16
    go_wp2_with fail
    go_ret
    exact ⟨by rw [hf.out]; rfl, 0, rfl⟩
end Go.Proofs.Ytekjakmeopolhaa
