/-
  Plain mathematics of layer 22 (charge): no program in sight. Entities (v, r, c): virtual runtime, rest, weight.
-/
set_option linter.unusedVariables false
namespace Go.Proofs.Ytfgmglghlapbcaa.Ch
def wB (a : Int) : Bool := decide (1 ≤ a ∧ a ≤ 65536)
def tB (a : Int) : Bool := decide (0 ≤ a ∧ a ≤ 4294967295)
theorem wB_t {a : Int} (h : 1 ≤ a) (h' : a ≤ 65536) : wB a = true := by simp [wB, h, h']
theorem wB_f {a : Int} (h : ¬ (1 ≤ a ∧ a ≤ 65536)) : wB a = false := by simp only [wB, h, decide_false]
theorem tB_t {a : Int} (h : 0 ≤ a) (h' : a ≤ 4294967295) : tB a = true := by simp [tB, h, h']
theorem tB_f {a : Int} (h : ¬ (0 ≤ a ∧ a ≤ 4294967295)) : tB a = false := by simp only [tB, h, decide_false]
/-- what a value of the type holds -/
def Fits (v r c : Int) : Prop := 0 ≤ v ∧ v ≤ 18446744073709551615 ∧ 0 ≤ r ∧ r ≤ 4294967295 ∧ 0 ≤ c ∧ c ≤ 4294967295
/-- a right entity -/
def Ok (v r c : Int) : Prop := 0 ≤ v ∧ v ≤ 18446744073709551615 ∧ 0 ≤ r ∧ r < c ∧ 1 ≤ c ∧ c ≤ 65536 ∧ (v < 18446744073709551615 ∨ r = 0)
instance (v r c : Int) : Decidable (Ok v r c) := by unfold Ok; infer_instance
def okB (v r c : Int) : Bool := decide (Ok v r c)
theorem okB_t {v r c : Int} (h : Ok v r c) : okB v r c = true := decide_eq_true h
theorem okB_f {v r c : Int} (h : ¬ Ok v r c) : okB v r c = false := decide_eq_false h
theorem Ok.fits {v r c : Int} (h : Ok v r c) : Fits v r c := by unfold Ok at h; unfold Fits; omega
def atEnd (v r c t : Int) : Prop := 18446744073709551615 - v ≤ (t * 1048576 + r) / c
instance (v r c t : Int) : Decidable (atEnd v r c t) := by unfold atEnd; infer_instance
def addV (v r c t : Int) : Int := if atEnd v r c t then 18446744073709551615 else v + (t * 1048576 + r) / c
def addR (v r c t : Int) : Int := if atEnd v r c t then 0 else (t * 1048576 + r) % c

/-! by the sum of all that an entity has: s = v * c + r, capped at the end -/
def capV (s c : Int) : Int := if 18446744073709551615 * c ≤ s then 18446744073709551615 else s / c
def capR (s c : Int) : Int := if 18446744073709551615 * c ≤ s then 0 else s % c
theorem atEnd_iff {v r c t : Int} (hc : 1 ≤ c) : atEnd v r c t ↔ 18446744073709551615 * c ≤ v * c + r + t * 1048576 := by
  unfold atEnd
  rw [Int.le_ediv_iff_mul_le (by omega), Int.sub_mul]
  omega
theorem addV_cap {v r c t : Int} (hc : 1 ≤ c) : addV v r c t = capV (v * c + r + t * 1048576) c := by
  unfold addV capV
  by_cases h : atEnd v r c t
  · rw [if_pos h, if_pos ((atEnd_iff hc).1 h)]
  · rw [if_neg h, if_neg (fun k => h ((atEnd_iff hc).2 k)), show v * c + r + t * 1048576 = (t * 1048576 + r) + v * c by omega, Int.add_mul_ediv_right _ _ (by omega)]
    omega
theorem addR_cap {v r c t : Int} (hc : 1 ≤ c) : addR v r c t = capR (v * c + r + t * 1048576) c := by
  unfold addR capR
  by_cases h : atEnd v r c t
  · rw [if_pos h, if_pos ((atEnd_iff hc).1 h)]
  · rw [if_neg h, if_neg (fun k => h ((atEnd_iff hc).2 k)), show v * c + r + t * 1048576 = (t * 1048576 + r) + v * c by omega, Int.add_mul_emod_self_right]
theorem ok_sum {v r c : Int} (h : Ok v r c) : 0 ≤ v * c + r := by
  obtain ⟨h1, h2, h3, h4, h5, h6, h7⟩ := h
  have := Int.mul_nonneg h1 (show 0 ≤ c by omega)
  omega
theorem cap_ok {s c : Int} (hs : 0 ≤ s) (hc : 1 ≤ c) (hc' : c ≤ 65536) : Ok (capV s c) (capR s c) c := by
  unfold Ok capV capR
  by_cases h : 18446744073709551615 * c ≤ s
  · rw [if_pos h, if_pos h]; omega
  · rw [if_neg h, if_neg h]
    have h1 := Int.emod_nonneg s (show c ≠ 0 by omega)
    have h2 := Int.emod_lt_of_pos s (show 0 < c by omega)
    have h3 := Int.ediv_nonneg hs (show 0 ≤ c by omega)
    have h4 : s / c < 18446744073709551615 := Int.ediv_lt_of_lt_mul (by omega) (by omega)
    omega
theorem cap_sum {s c : Int} (hc : 1 ≤ c) : capV s c * c + capR s c = if 18446744073709551615 * c ≤ s then 18446744073709551615 * c else s := by
  unfold capV capR
  by_cases h : 18446744073709551615 * c ≤ s
  · rw [if_pos h, if_pos h, if_pos h]; omega
  · rw [if_neg h, if_neg h, if_neg h]
    have := Int.mul_ediv_add_emod s c
    rw [Int.mul_comm] at this
    exact this
theorem add_ok {v r c t : Int} (h : Ok v r c) (ht : 0 ≤ t) : Ok (addV v r c t) (addR v r c t) c := by
  have hc : 1 ≤ c := h.2.2.2.2.1
  rw [addV_cap hc, addR_cap hc]
  exact cap_ok (by have := ok_sum h; omega) hc h.2.2.2.2.2.1
theorem addV_ge {v r c t : Int} (h : Ok v r c) (ht : 0 ≤ t) : v ≤ addV v r c t := by
  obtain ⟨h1, h2, h3, h4, h5, h6, h7⟩ := h
  unfold addV
  by_cases he : atEnd v r c t
  · rw [if_pos he]; omega
  · rw [if_neg he]
    have := Int.ediv_nonneg (show 0 ≤ t * 1048576 + r by omega) (show 0 ≤ c by omega)
    omega
theorem add_addV {v r c m n : Int} (h : Ok v r c) (hm : 0 ≤ m) (hn : 0 ≤ n) : addV (addV v r c m) (addR v r c m) c n = addV v r c (m + n) := by
  have hc : 1 ≤ c := h.2.2.2.2.1
  rw [addV_cap hc, addV_cap hc, addR_cap hc, addV_cap hc, cap_sum hc]
  unfold capV
  by_cases h1 : 18446744073709551615 * c ≤ v * c + r + m * 1048576
  · rw [if_pos h1, if_pos (by omega), if_pos (by omega)]
  · rw [if_neg h1, show v * c + r + m * 1048576 + n * 1048576 = v * c + r + (m + n) * 1048576 by omega]
theorem add_addR {v r c m n : Int} (h : Ok v r c) (hm : 0 ≤ m) (hn : 0 ≤ n) : addR (addV v r c m) (addR v r c m) c n = addR v r c (m + n) := by
  have hc : 1 ≤ c := h.2.2.2.2.1
  rw [addR_cap hc, addV_cap hc, addR_cap hc, addR_cap hc, cap_sum hc]
  unfold capR
  by_cases h1 : 18446744073709551615 * c ≤ v * c + r + m * 1048576
  · rw [if_pos h1, if_pos (by omega), if_pos (by omega)]
  · rw [if_neg h1, show v * c + r + m * 1048576 + n * 1048576 = v * c + r + (m + n) * 1048576 by omega]
theorem add_zeroV {v r c : Int} (h : Ok v r c) : addV v r c 0 = v := by
  obtain ⟨h1, h2, h3, h4, h5, h6, h7⟩ := h
  have e : (0 * 1048576 + r) / c = 0 := by rw [show 0 * 1048576 + r = r by omega]; exact Int.ediv_eq_zero_of_lt h3 h4
  unfold addV
  by_cases he : atEnd v r c 0
  · rw [if_pos he]; unfold atEnd at he; rw [e] at he; omega
  · rw [if_neg he, e]; omega
theorem add_zeroR {v r c : Int} (h : Ok v r c) : addR v r c 0 = r := by
  obtain ⟨h1, h2, h3, h4, h5, h6, h7⟩ := h
  have e : (0 * 1048576 + r) / c = 0 := by rw [show 0 * 1048576 + r = r by omega]; exact Int.ediv_eq_zero_of_lt h3 h4
  have e2 : (0 * 1048576 + r) % c = r := by rw [show 0 * 1048576 + r = r by omega]; exact Int.emod_eq_of_lt h3 h4
  unfold addR
  by_cases he : atEnd v r c 0
  · rw [if_pos he]; unfold atEnd at he; rw [e] at he; omega
  · rw [if_neg he, e2]

/-! Until -/
def untilN (v r c to : Int) : Int := if to ≤ v then 0 else ((to - v) * c - r + 1048575) / 1048576
/-- what Until returns: the ticks, the number of the error -/
def untilT (v r c to : Int) : Int := if untilN v r c to ≤ 4294967295 then untilN v r c to else 0
def untilE (v r c to : Int) : Int := if untilN v r c to ≤ 4294967295 then 0 else 6
theorem until_nonneg {v r c to : Int} (h : Ok v r c) : 0 ≤ untilN v r c to := by
  obtain ⟨h1, h2, h3, h4, h5, h6, h7⟩ := h
  unfold untilN
  split
  · omega
  · have : c ≤ (to - v) * c := by
      have := Int.mul_le_mul_of_nonneg_right (show 1 ≤ to - v by omega) (show 0 ≤ c by omega)
      omega
    omega
theorem cap_ge {s c to : Int} (hc : 1 ≤ c) (hto : to ≤ 18446744073709551615) : to ≤ capV s c ↔ to * c ≤ s := by
  unfold capV
  by_cases h : 18446744073709551615 * c ≤ s
  · rw [if_pos h]
    have := Int.mul_le_mul_of_nonneg_right hto (show 0 ≤ c by omega)
    constructor
    · intro _; omega
    · intro _; exact hto
  · rw [if_neg h]
    exact Int.le_ediv_iff_mul_le (by omega)
theorem until_iff {v r c to t : Int} (h : Ok v r c) (hto : to ≤ 18446744073709551615) (ht : 0 ≤ t) : to ≤ addV v r c t ↔ untilN v r c to ≤ t := by
  have h0 := h
  obtain ⟨h1, h2, h3, h4, h5, h6, h7⟩ := h
  rw [addV_cap h5, cap_ge h5 hto]
  unfold untilN
  by_cases hv : to ≤ v
  · rw [if_pos hv]
    have := Int.mul_le_mul_of_nonneg_right hv (show 0 ≤ c by omega)
    constructor
    · intro _; exact ht
    · intro _; omega
  · rw [if_neg hv]
    have e : (to - v) * c = to * c - v * c := Int.sub_mul _ _ _
    omega
theorem until_mono {v r c to a b : Int} (h : Ok v r c) (hto : to ≤ 18446744073709551615) (ha : 0 ≤ a) (hab : a ≤ b) (hp : to ≤ addV v r c a) : to ≤ addV v r c b := by
  rw [until_iff h hto (by omega)]
  have := (until_iff h hto ha).1 hp
  omega

theorem search_until {v r c to k : Int} (h : Ok v r c) (hto : to ≤ 18446744073709551615) (h0 : 0 ≤ k) (hk : k ≤ 4294967296)
    (h1 : ∀ t, 0 ≤ t → t < k → decide (to ≤ addV v r c t) = false) (h2 : ∀ t, k ≤ t → t < 4294967296 → decide (to ≤ addV v r c t) = true) :
    (k ≤ 4294967295 ∧ untilT v r c to = k ∧ untilE v r c to = 0) ∨ (4294967295 < k ∧ untilT v r c to = 0 ∧ untilE v r c to = 6) := by
  have hn := until_nonneg (to := to) h
  have a1 : k ≤ untilN v r c to := by
    by_cases hz : k = 0
    · omega
    · have := h1 (k - 1) (by omega) (by omega)
      rw [decide_eq_false_iff_not, until_iff h hto (by omega)] at this
      omega
  by_cases hl : k ≤ 4294967295
  · have := h2 k (by omega) (by omega)
    rw [decide_eq_true_iff, until_iff h hto h0] at this
    have e : untilN v r c to = k := by omega
    exact Or.inl ⟨hl, by unfold untilT; rw [e, if_pos hl], by unfold untilE; rw [e, if_pos hl]⟩
  · exact Or.inr ⟨by omega, by unfold untilT; rw [if_neg (by omega)], by unfold untilE; rw [if_neg (by omega)]⟩

/-! the end is far -/
theorem add_exact {v r c t : Int} (h : Ok v r c) (hv : v ≤ 70368744177664) (ht0 : 0 ≤ t) (ht : t ≤ 65535) :
    addV v r c t * c + addR v r c t = v * c + r + t * 1048576 ∧ addV v r c t * c ≤ 4611686087146864640 ∧ 0 ≤ v * c ∧ v * c ≤ 4611686018427387904 := by
  have h0 := h
  obtain ⟨h1, h2, h3, h4, h5, h6, h7⟩ := h
  have p1 := Int.mul_le_mul_of_nonneg_right hv (show 0 ≤ c by omega)
  have p2 := Int.mul_nonneg h1 (show 0 ≤ c by omega)
  have e : addV v r c t * c + addR v r c t = v * c + r + t * 1048576 := by
    rw [addV_cap h5, addR_cap h5, cap_sum h5, if_neg (by omega)]
  have h8 := add_ok h0 ht0
  obtain ⟨_, _, g3, g4, _, _, _⟩ := h8
  exact ⟨e, by omega, p2, by omega⟩

/-! Less: r / c < r2 / c2 at equal V -/
def lessB (v r c v2 r2 c2 : Int) : Bool := if v = v2 then decide (r * c2 < r2 * c) else decide (v < v2)
theorem mul_bd {r c c2 : Int} (h0 : 0 ≤ r) (h : r < c) (hc : c ≤ 65536) (h2 : 0 ≤ c2) (hc2 : c2 ≤ 65536) : 0 ≤ r * c2 ∧ r * c2 ≤ 4294967296 := by
  refine ⟨Int.mul_nonneg h0 h2, ?_⟩
  have h3 := Int.mul_le_mul_of_nonneg_right (show r ≤ 65536 by omega) h2
  omega
end Go.Proofs.Ytfgmglghlapbcaa.Ch
