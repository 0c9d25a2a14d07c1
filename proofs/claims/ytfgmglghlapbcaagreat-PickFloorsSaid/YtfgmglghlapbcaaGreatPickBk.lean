/-
  Layer 25 (pick), plain: a task that comes and leaves at once; the load.
-/
import Derived.Test.YtfgmglghlapbcaaGreatPickTw
namespace Go.Proofs.YtfgmglghlapbcaaGreat
open Go.RowKit Go.Maps Go.IntWalk Go.Lib Go.Sort Go.Shelf
set_option linter.unusedVariables false
set_option linter.unusedSimpArgs false
theorem out_put_eq {id : Int} {x : Ent} : ∀ {M : Mems}, entM M id = none → outM (putM M (id, x)) id = M
  | [], _ => by unfold putM outM; simp
  | y :: r, h => by
    have h1 := ent_none.1 h
    have h2 : entM r id = none := ent_none.2 fun z hz => h1 z (List.mem_cons_of_mem _ hz)
    have h3 : (fun z : Int × Ent => z.1 != id) y = true := by simpa using h1 y List.mem_cons_self
    have h4 : outM r id = r := outM_none h2
    unfold putM
    split
    · have := out_put_eq (x := x) h2
      unfold outM at this ⊢
      rw [List.filter_cons_of_pos (p := fun z : Int × Ent => z.1 != id) h3, this]
    · unfold outM at h4 ⊢
      rw [List.filter_cons_of_neg (by simp), List.filter_cons_of_pos (p := fun z : Int × Ent => z.1 != id) h3, h4]
theorem lv_en {M : Mems} {id : Int} {x : Ent} (hm : MOk M) (hi : 0 ≤ id ∧ id < 65792) (hx : EntOk x) (hn : entM M id = none) : leaveM qN (enterM qN M id x) id = M ∧ leaveE qN (enterM qN M id x) id = x := by
  obtain ⟨e1, e2⟩ := enter_in hm hi hx hn
  have e3 : entM (enterM qN M id x) id = some x := by rw [e2, if_pos rfl]
  refine ⟨?_, leave_x hi e3⟩
  have hv : hasV qN id = true := decide_eq_true hi
  have hc : leaveC qN (enterM qN M id x) id = 0 := by unfold leaveC; rw [hv, if_pos rfl, e3]; rfl
  unfold leaveM
  rw [hc, if_pos rfl, enter_yes hi hx hn, out_put_eq hn]
/-- what enters above changes nothing here -/
theorem en_above {P : Nat → Nat} {k : Nat} : ∀ (l : List Nat) (q : TSt × Bool), (∀ o ∈ l, P o ≠ k) → (l.foldl (enStep P) q).1.M k = q.1.M k := by
  intro l
  induction l with
  | nil => intro q _; rfl
  | cons o r ih =>
    intro q h
    rw [List.foldl_cons, ih _ fun x hx => h x (List.mem_cons_of_mem _ hx)]
    unfold enStep
    split
    · exact upd_other _ _ (Ne.symm (h o List.mem_cons_self))
    · rfl
theorem path_above {P : Nat → Nat} {g k o : Nat} (hk : g ≤ k) (h : o ∈ pathT P g) : P o ≠ k := by
  have := pathT_mem g h
  omega
/-- up, and down again -/
theorem back_up (P : Nat → Nat) (M0 : Nat → Mems) : ∀ (g : Nat) (a b : TSt) (e : Bool), g < 256 → (∀ k, 0 < k → k ≤ g → P k < k) → e = (M0 g).isEmpty → (∀ k, k < g → a.M k = M0 k) → (∀ k, k < g → MOk (M0 k)) → (∀ k, 0 < k → k ≤ g → (M0 k).isEmpty = true → entM (M0 (P k)) (65536 + (k : Int)) = none) →
    (∀ k, k ≤ g → EntOk (a.A k)) → (∀ k, FlOk (a.fl k)) → 0 ≤ a.cr → b.M g = M0 g → (∀ k, k < g → b.M k = (enUp P a e (pathT P g)).1.M k) →
    (∀ k, k < g → (lvUp P b (pathT P g)).1.M k = M0 k) ∧ (∀ k, g ≤ k → (lvUp P b (pathT P g)).1.M k = b.M k) := by
  intro g
  induction g using Nat.strongRecOn with
  | ind g ih =>
    intro a b e hg hP he hM hok hno hA hF hc hbg hb
    by_cases h0 : 0 < g
    · have hlt := hP g h0 (Nat.le_refl _)
      rw [pathT_pos h0 hlt] at hb ⊢
      cases hq : (M0 g).isEmpty with
      | false =>
        rw [hq] at he
        subst he
        have e1 : enUp P a false (g :: pathT P (P g)) = (a, false) := en_stop _ _ _
        have e2 : lvUp P b (g :: pathT P (P g)) = (b, true) := by
          show (pathT P (P g)).foldl (lvStep P) (lvStep P (b, false) g) = _
          have e : lvStep P (b, false) g = (b, true) := by
            unfold lvStep
            simp only [hbg, hq]
            rfl
          rw [e]
          exact lv_stop _ _ _
        rw [e2]
        rw [e1] at hb
        exact ⟨fun k hk => (hb k hk).trans (hM k hk), fun k _ => rfl⟩
      | true =>
        rw [hq] at he
        subst he
        obtain ⟨y, hy⟩ : ∃ y, y = wokenX (a.A g) (a.fl (P g)) a.cr := ⟨_, rfl⟩
        have hyo : EntOk y := by rw [hy]; exact wokenX_ok (hA g (Nat.le_refl _)) (hF _) hc
        have hid : 0 ≤ 65536 + (g : Int) ∧ 65536 + (g : Int) < 65792 := by omega
        have hn := hno g h0 (Nat.le_refl _) hq
        have hmp := hM (P g) hlt
        obtain ⟨l1, l2⟩ := lv_en (hok (P g) hlt) hid hyo hn
        have e1 : enUp P a true (g :: pathT P (P g)) = enUp P (enQ a (P g) (65536 + (g : Int)) y) (M0 (P g)).isEmpty (pathT P (P g)) := by
          show (pathT P (P g)).foldl (enStep P) (enStep P (a, true) g) = _
          unfold enStep
          rw [if_pos rfl]
          simp only
          rw [← hy, hmp]
          rfl
        have e2 : lvUp P b (g :: pathT P (P g)) = lvUp P (lvA b g (P g)) (pathT P (P g)) := by
          show (pathT P (P g)).foldl (lvStep P) (lvStep P (b, false) g) = _
          unfold lvStep
          simp only [hbg, hq]
          rfl
        rw [e1] at hb
        rw [e2]
        have hbp : b.M (P g) = enterM qN (M0 (P g)) (65536 + (g : Int)) y := by
          rw [hb _ hlt]
          refine (en_above _ _ fun o ho => path_above (Nat.le_refl _) ho).trans ?_
          show upd a.M (P g) _ (P g) = _
          rw [upd_same, hmp]
        have hbo : ∀ k, k ≠ P g → (lvA b g (P g)).M k = b.M k := fun k q => upd_other _ _ q
        have hbb : (lvA b g (P g)).M (P g) = M0 (P g) := by
          show upd b.M (P g) _ (P g) = _
          rw [upd_same, hbp, l1]
        have hao : ∀ k, k ≠ P g → (enQ a (P g) (65536 + (g : Int)) y).M k = a.M k := fun k q => upd_other _ _ q
        obtain ⟨i1, i2⟩ := ih (P g) hlt (enQ a (P g) (65536 + (g : Int)) y) (lvA b g (P g)) (M0 (P g)).isEmpty (by omega) (fun k k0 hk => hP k k0 (by omega)) rfl (fun k hk => (hao k (by omega)).trans (hM k (by omega))) (fun k hk => hok k (by omega)) (fun k k0 hk => hno k k0 (by omega)) (fun k hk => hA k (by omega))
          (fun k => by
            show FlOk (upd a.fl (P g) _ k)
            by_cases q : k = P g
            · rw [q, upd_same]; exact enterF_ok (by rw [hmp]; exact hok _ hlt) hyo (hF _)
            · rw [upd_other _ _ q]; exact hF k) hc hbb (fun k hk => by rw [hbo k (by omega)]; exact hb k (by omega))
        refine ⟨fun k hk => ?_, fun k hk => (i2 k (by omega)).trans (hbo k (by omega))⟩
        by_cases q : k < P g
        · exact i1 k q
        · rw [i2 k (by omega)]
          by_cases q' : k = P g
          · rw [q']; exact hbb
          · rw [hbo k q', hb k hk]
            refine (en_above _ _ fun o ho => path_above (by omega) ho).trans ?_
            rw [hao k q']
            exact hM k hk
    · obtain rfl : g = 0 := by omega
      rw [pathT_zero]
      exact ⟨fun k hk => by omega, fun k _ => rfl⟩
/-! ### sums -/
def tot (f : Nat → Int) : Nat → Int
  | 0 => 0
  | k + 1 => tot f k + f k
theorem tot_congr {f g : Nat → Int} : ∀ n, (∀ j, j < n → f j = g j) → tot f n = tot g n
  | 0, _ => rfl
  | n + 1, h => by
    show tot f n + f n = tot g n + g n
    rw [tot_congr n fun j hj => h j (by omega), h n (by omega)]
theorem tot_add {f g : Nat → Int} : ∀ n, tot (fun j => f j + g j) n = tot f n + tot g n
  | 0 => rfl
  | n + 1 => by
    show tot _ n + (f n + g n) = tot f n + f n + (tot g n + g n)
    rw [tot_add n]; omega
theorem tot_one {p : Nat} {c : Int} : ∀ n, tot (fun j => if j = p then c else 0) n = if p < n then c else 0
  | 0 => rfl
  | n + 1 => by
    show tot _ n + (if n = p then c else 0) = _
    rw [tot_one n]
    by_cases h : n = p
    · rw [if_pos h, if_neg (by omega), if_pos (by omega)]; omega
    · rw [if_neg h]
      by_cases q : p < n
      · rw [if_pos q, if_pos (by omega)]; omega
      · rw [if_neg q, if_neg (by omega)]; omega
theorem load_tot (s : TSt) : ∀ n, loadTo s n = tot (fun j => loadM (s.M j) - subL s j) n
  | 0 => rfl
  | n + 1 => by
    show loadTo s n + loadM (s.M n) - subL s n = tot _ n + (loadM (s.M n) - subL s n)
    rw [load_tot s n]; omega
theorem loadTo_congr {s s' : TSt} (hM : ∀ k, s'.M k = s.M k) (hG : s'.Gs = s.Gs) (n : Nat) : loadTo s' n = loadTo s n := by
  rw [load_tot, load_tot]
  refine tot_congr n fun j _ => ?_
  unfold subL
  rw [hM, hG, hM]
theorem load_enter {M : Mems} {id : Int} {x : Ent} (hi : 0 ≤ id ∧ id < 65792) (hx : EntOk x) (hn : entM M id = none) : loadM (enterM qN M id x) = loadM M + x.2.2 := by rw [enter_yes hi hx hn, load_put]
theorem getE_no {M : Mems} {id : Int} (h : entM M id = none) : getE M id = (0, 0, 0) := by unfold getE; rw [h]; rfl
theorem getE_yes {M : Mems} {id : Int} {x : Ent} (h : entM M id = some x) : getE M id = x := by unfold getE; rw [h]; rfl
/-- one member more in a queue: id is no spot of a group that has members -/
theorem load_in {s s1 : TSt} {k : Nat} {id : Int} {x : Ent} (hr : RightG s.Gs) (hk : k < s.n) (hM1 : ∀ j, s1.M j = if j = k then enterM qN (s.M k) id x else s.M j) (hG : s1.Gs = s.Gs) (hi : 0 ≤ id ∧ id < 65792) (hx : EntOk x) (hm : MOk (s.M k)) (hn : entM (s.M k) id = none)
    (hk0 : 0 < k → (s.M k).isEmpty = true → entM (s.M (parG s.Gs k)) (65536 + (k : Int)) = none) (own : Nat) (hown : ∀ c, 0 < c → c < s.n → parG s.Gs c = k → id = 65536 + (c : Int) → c = own ∧ (s.M own).isEmpty = false) (c : Int)
    (hc : c = if 0 < own ∧ own < s.n ∧ parG s.Gs own = k ∧ id = 65536 + (own : Int) then x.2.2 else 0) :
    loadTo s1 s.n = loadTo s s.n + x.2.2 - c := by
  obtain ⟨e1, e2⟩ := enter_in hm hi hx hn
  have hne : (enterM qN (s.M k) id x).isEmpty = false := inM_ne (id := id) (by unfold inM; rw [e2, if_pos rfl]; rfl)
  rw [load_tot, load_tot]
  have hstep : tot (fun j => loadM (s1.M j) - subL s1 j) s.n = tot (fun j => (loadM (s.M j) - subL s j) + ((if j = k then x.2.2 else 0) + (if j = own then -c else 0))) s.n := by
    refine tot_congr _ fun j hj => ?_
    have hl : loadM (s1.M j) = loadM (s.M j) + if j = k then x.2.2 else 0 := by
      rw [hM1]
      by_cases q : j = k
      · rw [if_pos q, if_pos q, load_enter hi hx hn, q]
      · rw [if_neg q, if_neg q]; omega
    have hs : subL s1 j = subL s j + if j = own then c else 0 := by
      unfold subL
      rw [hG, hM1 j, hM1 (parG s.Gs j)]
      by_cases j0 : 0 < j
      · have hpj := parG_lt hr j0 hj
        by_cases q : j = k
        · subst q
          have hno : ¬ (0 < own ∧ own < s.n ∧ parG s.Gs own = j ∧ id = 65536 + (own : Int)) ∨ own ≠ j := by
            by_cases z : own = j
            · left; intro y; rw [z] at y; omega
            · right; exact z
          have hz : (if j = own then c else 0) = 0 := by
            rcases hno with z | z
            · rw [if_neg z] at hc; rw [hc]; split <;> rfl
            · rw [if_neg (Ne.symm z)]
          rw [hz, if_pos rfl, hne, if_pos ⟨j0, rfl⟩, if_neg (by omega)]
          cases he : (s.M j).isEmpty with
          | true => rw [if_neg (by simp), getE_no (hk0 j0 he)]; rfl
          | false => rw [if_pos ⟨j0, rfl⟩]; omega
        · rw [if_neg q]
          by_cases hp : parG s.Gs j = k
          · rw [if_pos hp, hp]
            by_cases hid : id = 65536 + (j : Int)
            · obtain ⟨o1, o2⟩ := hown j j0 hj hp hid
              subst o1
              rw [o2, if_pos ⟨j0, rfl⟩, if_pos ⟨j0, rfl⟩, if_pos rfl, hc, if_pos ⟨j0, hj, hp, hid⟩, ← hid, getE_no hn]
              have : entM (enterM qN (s.M k) id x) id = some x := by rw [e2, if_pos rfl]
              rw [getE_yes this]
              show x.2.2 = 0 + x.2.2
              omega
            · have hz : (if j = own then c else 0) = 0 := by
                by_cases z : j = own
                · subst z; rw [if_pos rfl, hc, if_neg fun y => hid y.2.2.2]
                · rw [if_neg z]
              have : getE (enterM qN (s.M k) id x) (65536 + (j : Int)) = getE (s.M k) (65536 + (j : Int)) := by unfold getE; rw [e2, if_neg (fun z => hid z.symm)]
              rw [hz, this]
              omega
          · have hz : (if j = own then c else 0) = 0 := by
              by_cases z : j = own
              · subst z; rw [if_pos rfl, hc, if_neg fun y => hp y.2.2.1]
              · rw [if_neg z]
            rw [if_neg hp, hz]
            omega
      · have hz : (if j = own then c else 0) = 0 := by
          by_cases z : j = own
          · subst z; rw [if_pos rfl, hc, if_neg fun y => j0 y.1]
          · rw [if_neg z]
        rw [if_neg fun y => j0 y.1, if_neg fun y => j0 y.1, hz]
        rfl
    rw [hl, hs]
    by_cases q : j = own
    · rw [if_pos q, if_pos q]; omega
    · rw [if_neg q, if_neg q]; omega
  rw [hstep, tot_add, tot_add, tot_one, tot_one, if_pos hk]
  by_cases q : own < s.n
  · rw [if_pos q]; omega
  · rw [if_neg q]
    have : c = 0 := by rw [hc, if_neg fun y => q y.2.1]
    omega
/-- up: the load stays -/
theorem en_load : ∀ (g : Nat) (s : TSt) (e : Bool), TWay s g → g < s.n → (0 < g → e = true → entM (s.M (parG s.Gs g)) (65536 + (g : Int)) = none ∧ (s.M g).isEmpty = false) → loadTo (enUp (parG s.Gs) s e (pathT (parG s.Gs) g)).1 s.n = loadTo s s.n := by
  intro g
  induction g using Nat.strongRecOn with
  | ind g ih =>
    intro s e h hg hn
    have hc := h.core
    by_cases h0 : 0 < g
    · have hlt := parG_lt hc.right h0 hg
      rw [pathT_pos h0 hlt]
      cases e with
      | false =>
        have : enUp (parG s.Gs) s false (g :: pathT (parG s.Gs) (parG s.Gs g)) = (s, false) := en_stop _ _ _
        rw [this]
      | true =>
        obtain ⟨n1, n2⟩ := hn h0 rfl
        obtain ⟨y, hy⟩ : ∃ y, y = wokenX (s.A g) (s.fl (parG s.Gs g)) s.cr := ⟨_, rfl⟩
        have hyo : EntOk y := by rw [hy]; exact wokenX_ok (hc.aok g hg) (hc.fok _) hc.cr
        have hs := en_step h h0 hg n1 n2 hyo
        have hl := hc.right.le
        have hgl : g < 256 := by unfold TSt.n at hg; omega
        have e : enUp (parG s.Gs) s true (g :: pathT (parG s.Gs) (parG s.Gs g)) = enUp (parG s.Gs) (enQ s (parG s.Gs g) (65536 + (g : Int)) y) (s.M (parG s.Gs g)).isEmpty (pathT (parG s.Gs) (parG s.Gs g)) := by
          show (pathT (parG s.Gs) (parG s.Gs g)).foldl (enStep (parG s.Gs)) (enStep (parG s.Gs) (s, true) g) = _
          unfold enStep
          rw [if_pos rfl, hy]
          rfl
        rw [e]
        obtain ⟨e1, e2⟩ := enter_in (id := 65536 + (g : Int)) (hc.mok (parG s.Gs g)) (by omega) hyo n1
        have hEo : ∀ k, k ≠ parG s.Gs g → (enQ s (parG s.Gs g) (65536 + (g : Int)) y).M k = s.M k := fun k q => upd_other _ _ q
        have hEs : (enQ s (parG s.Gs g) (65536 + (g : Int)) y).M (parG s.Gs g) = enterM qN (s.M (parG s.Gs g)) (65536 + (g : Int)) y := upd_same _ _ _
        have hseat : 0 < parG s.Gs g → (s.M (parG s.Gs g)).isEmpty = true → entM (s.M (parG s.Gs (parG s.Gs g))) (65536 + ((parG s.Gs g : Nat) : Int)) = none := fun p0 q => by
          have := h.seat (parG s.Gs g) p0 (by omega) (by omega)
          unfold Seated at this
          rw [q] at this
          exact inM_none this
        have hi := ih (parG s.Gs g) hlt (enQ s (parG s.Gs g) (65536 + (g : Int)) y) (s.M (parG s.Gs g)).isEmpty hs (Nat.lt_trans hlt hg) fun p0 q => by
          have pl := parG_lt hc.right p0 (Nat.lt_trans hlt hg)
          refine ⟨?_, ?_⟩
          · show entM ((enQ s (parG s.Gs g) (65536 + (g : Int)) y).M (parG s.Gs (parG s.Gs g))) _ = none
            rw [hEo _ (by omega)]
            exact hseat p0 q
          · rw [hEs]
            exact inM_ne (id := 65536 + (g : Int)) (by unfold inM; rw [e2, if_pos rfl]; rfl)
        refine Eq.trans hi ?_
        have := load_in (s := s) (s1 := enQ s (parG s.Gs g) (65536 + (g : Int)) y) (k := parG s.Gs g) (id := 65536 + (g : Int)) (x := y) hc.right (Nat.lt_trans hlt hg) (fun j => by
          by_cases q : j = parG s.Gs g
          · rw [q, hEs, if_pos rfl]
          · rw [hEo j q, if_neg q]) rfl (by omega) hyo (hc.mok _) n1 hseat g (fun c c0 cn cp ci => by
            have : c = g := by omega
            exact ⟨this, n2⟩) y.2.2 (by rw [if_pos ⟨h0, hg, rfl, rfl⟩])
        show loadTo (enQ s (parG s.Gs g) (65536 + (g : Int)) y) s.n = _
        rw [this]
        omega
    · obtain rfl : g = 0 := by omega
      rw [pathT_zero]
      rfl
theorem en_first {s : TSt} (h : TOk s) {id : Int} {k : Nat} {x : Ent} (h1 : 1 ≤ id ∧ id ≤ 65535) (hT : s.T id = none) (hk : k < s.n) (hx : EntOk x) : TWay (enT (enQ s k id x) k id) k := by
  have hc := h.core
  have hnone : ∀ j, entM (s.M j) id = none := fun j => by
    cases e : entM (s.M j) id with
    | none => rfl
    | some y =>
      rcases hc.ids j id (by unfold inM; rw [e]; rfl) with ⟨q, _⟩ | ⟨c, _, _, q, _⟩
      · rw [hT] at q; cases q
      · omega
  obtain ⟨e1, e2⟩ := enter_in (id := id) (hc.mok k) (by omega) hx (hnone k)
  have hne : (enterM qN (s.M k) id x).isEmpty = false := inM_ne (id := id) (by unfold inM; rw [e2, if_pos rfl]; rfl)
  obtain ⟨s1, hs1⟩ : ∃ s1, s1 = enT (enQ s k id x) k id := ⟨_, rfl⟩
  have hG1 : s1.Gs = s.Gs := by rw [hs1]; rfl
  have hn1 : s1.n = s.n := by unfold TSt.n; rw [hG1]
  have hM1 : ∀ j, s1.M j = if j = k then enterM qN (s.M k) id x else s.M j := fun j => by
    rw [hs1]
    show upd s.M k _ j = _
    by_cases q : j = k
    · rw [q, upd_same, if_pos rfl]
    · rw [upd_other _ _ q, if_neg q]
  have hI1 : ∀ j i, inM (s1.M j) i = if j = k ∧ i = id then true else inM (s.M j) i := fun j i => by
    rw [hM1]
    by_cases q : j = k
    · rw [if_pos q]
      unfold inM
      rw [e2]
      by_cases q' : i = id
      · rw [if_pos q', if_pos ⟨q, q'⟩]; rfl
      · rw [if_neg q', if_neg fun z => q' z.2, q]
    · rw [if_neg q, if_neg fun z => q z.1]
  have hT1 : ∀ i, s1.T i = if i = id then some (k : Int) else s.T i := fun i => by
    rw [hs1]
    show setF s.T id (some (k : Int)) i = _
    by_cases q : i = id
    · rw [q, if_pos rfl]; exact setF_same _ _ _
    · rw [if_neg q]; exact setF_other _ _ q
  have hcore : TCore s1 := by
    refine ⟨by rw [hG1]; exact hc.right, by rw [hs1]; exact hc.cr, fun j => ?_, fun j hj => by rw [hs1]; exact hc.aok j (by omega), fun j => ?_, fun i hi => ?_, fun i g' hi => ?_, fun j i hi => ?_⟩
    · rw [hM1]
      by_cases q : j = k
      · rw [if_pos q]; exact e1
      · rw [if_neg q]; exact hc.mok j
    · rw [hs1]
      show FlOk (upd s.fl k _ j)
      by_cases q : j = k
      · rw [q, upd_same]; exact enterF_ok (hc.mok _) hx (hc.fok _)
      · rw [upd_other _ _ q]; exact hc.fok j
    · rw [hT1] at hi
      by_cases q : i = id
      · rw [q]; exact h1
      · rw [if_neg q] at hi; exact hc.tid i hi
    · rw [hT1] at hi
      by_cases q : i = id
      · rw [if_pos q] at hi
        cases hi
        exact ⟨k, rfl, by rw [hn1]; exact hk, by rw [hI1, if_pos ⟨rfl, q⟩]⟩
      · rw [if_neg q] at hi
        obtain ⟨j, t1, t2, t3⟩ := hc.task i g' hi
        exact ⟨j, t1, by rw [hn1]; exact t2, by rw [hI1, if_neg fun z => q z.2]; exact t3⟩
    · rw [hI1] at hi
      rw [hT1, hG1, hn1]
      by_cases q : j = k ∧ i = id
      · exact Or.inl ⟨by rw [if_pos q.2, q.1], by rw [q.2]; exact h1⟩
      · rw [if_neg q] at hi
        rcases hc.ids j i hi with ⟨a, b⟩ | b
        · refine Or.inl ⟨?_, b⟩
          by_cases q' : i = id
          · rw [q', hT] at a; cases a
          · rw [if_neg q']; exact a
        · exact Or.inr b
  have hseat : ∀ c, 0 < c → c < s1.n → c ≠ k → Seated s1 c := fun c c0 hcn q => by
    unfold Seated
    rw [hG1, hM1 c, if_neg q, hI1, if_neg (by omega)]
    exact h.seat c c0 (by omega)
  have hway : TWay s1 k := ⟨hcore, hseat⟩
  rw [← hs1]
  exact hway
/-- a task comes, and leaves at once -/
theorem come_back {s : TSt} (h : TOk s) {id : Int} {k : Nat} {x : Ent} (hi : 1 ≤ id ∧ id ≤ 65535) (hT : s.T id = none) (hk : k < s.n) (hx : EntOk x) :
    comC s id (k : Int) x = 0 ∧ (comS s id (k : Int) x).n = s.n ∧ (comS s id (k : Int) x).c = s.c + 1 ∧ loadTo (comS s id (k : Int) x) s.n = loadTo s s.n + x.2.2 ∧ findC (comS s id (k : Int) x) id = 0 ∧ plvX (comS s id (k : Int) x) id = x ∧
    (∀ j, (plvS (comS s id (k : Int) x) id).M j = s.M j) ∧ (plvS (comS s id (k : Int) x) id).c = s.c ∧ (plvS (comS s id (k : Int) x) id).Gs = s.Gs := by
  have hc := h.core
  have hnv : nameV id = true := decide_eq_true hi
  have hv : hasV (s.n : Int) (k : Int) = true := decide_eq_true (by omega)
  have hC : enC s id (k : Int) (comeC x) = 0 := by
    unfold enC comeC
    rw [hnv, hv, if_pos (show (true && true) = true from rfl), if_pos hx, if_pos rfl, hT]
    rfl
  have hX : comeX x = x := by unfold comeX; rw [if_pos hx]
  have hnone : ∀ j, entM (s.M j) id = none := fun j => by
    cases e : entM (s.M j) id with
    | none => rfl
    | some y =>
      rcases hc.ids j id (by unfold inM; rw [e]; rfl) with ⟨q, _⟩ | ⟨c, _, _, q, _⟩
      · rw [hT] at q; cases q
      · omega
  have hlen := hc.right.le
  have hk256 : k < 256 := by unfold TSt.n at hk; omega
  obtain ⟨a, ha⟩ : ∃ a, a = enT (enQ s k id x) k id := ⟨_, rfl⟩
  obtain ⟨s1, hs1⟩ : ∃ s1, s1 = comS s id (k : Int) x := ⟨_, rfl⟩
  have h1 : s1 = (enUp (parG s.Gs) a (s.M k).isEmpty (pathT (parG s.Gs) k)).1 := by
    rw [hs1, ha]
    unfold comS enS
    rw [if_pos hC, hX, Int.toNat_natCast]
  have hok1 : TOk s1 := by rw [hs1]; exact come_ok h
  obtain ⟨f1, f2, f3, f4, f5⟩ := enUp_fr (parG s.Gs) (pathT (parG s.Gs) k) (a, (s.M k).isEmpty)
  have hG1 : s1.Gs = s.Gs := by rw [h1]; refine Eq.trans f1 ?_; rw [ha]; rfl
  have hT1 : s1.T = setF s.T id (some (k : Int)) := by rw [h1]; refine Eq.trans f3 ?_; rw [ha]; rfl
  have hc1 : s1.c = s.c + 1 := by
    rw [h1]; refine Eq.trans f4 ?_; rw [ha]
    show putC (s.T id) s.c = _
    rw [hT]; rfl
  have hn1 : s1.n = s.n := by unfold TSt.n; rw [hG1]
  have hMk : s1.M k = enterM qN (s.M k) id x := by
    rw [h1]
    refine (en_above _ _ fun o ho => path_above (Nat.le_refl _) ho).trans ?_
    rw [ha]
    exact upd_same _ _ _
  have hMo : ∀ j, k < j → s1.M j = s.M j := fun j hj => by
    rw [h1]
    refine (en_above _ _ fun o ho => path_above (by omega) ho).trans ?_
    rw [ha]
    exact upd_other _ _ (by omega)
  have hseat : 0 < k → (s.M k).isEmpty = true → entM (s.M (parG s.Gs k)) (65536 + (k : Int)) = none := fun k0 q => by
    have := h.seat k k0 hk
    unfold Seated at this
    rw [q] at this
    exact inM_none this
  obtain ⟨e1, e2⟩ := enter_in (id := id) (hc.mok k) (by omega) hx (hnone k)
  have hfind : findC s1 id = 0 ∧ findG s1 id = (k : Int) := by
    unfold findC findG
    rw [hnv, hT1, setF_same]
    exact ⟨rfl, rfl⟩
  have hP : ∀ j, 0 < j → j ≤ k → parG s.Gs j < j := fun j j0 hj => parG_lt hc.right j0 (by omega)
  obtain ⟨l1, l2⟩ := lv_en (hc.mok k) (id := id) (by omega) hx (hnone k)
  obtain ⟨b, hb⟩ : ∃ b, b = lvT (lvQ s1 k id) id := ⟨_, rfl⟩
  have hL : plvS s1 id = (lvUp (parG s.Gs) b (pathT (parG s.Gs) k)).1 := by
    unfold plvS
    rw [if_pos hfind.1, hfind.2, Int.toNat_natCast, hb, hG1]
  obtain ⟨p1, p2, p3, p4⟩ := lvUp_fr (parG s.Gs) (pathT (parG s.Gs) k) (b, false)
  have hbk : b.M k = s.M k := by
    rw [hb]
    show upd s1.M k _ k = _
    rw [upd_same, hMk, l1]
  have hbo : ∀ j, j ≠ k → b.M j = s1.M j := fun j q => by rw [hb]; exact upd_other _ _ q
  obtain ⟨u1, u2⟩ := back_up (parG s.Gs) s.M k a b (s.M k).isEmpty hk256 hP rfl (fun j hj => by rw [ha]; exact upd_other _ _ (by omega)) (fun j _ => hc.mok j) (fun j j0 hj q => by
      have := h.seat j j0 (by omega)
      unfold Seated at this
      rw [q] at this
      exact inM_none this) (fun j hj => by rw [ha]; exact hc.aok j (by omega)) (fun j => by
      rw [ha]
      show FlOk (upd s.fl k _ j)
      by_cases q : j = k
      · rw [q, upd_same]; exact enterF_ok (hc.mok _) hx (hc.fok _)
      · rw [upd_other _ _ q]; exact hc.fok j) (by rw [ha]; exact hc.cr) hbk (fun j hj => by rw [hbo j (by omega), h1])
  rw [← hs1]
  refine ⟨hC, hn1, hc1, ?_, hfind.1, ?_, fun j => ?_, ?_, ?_⟩
  · have hway : TWay a k := by
      rw [ha]
      exact en_first h hi hT hk hx
    have hGa : a.Gs = s.Gs := by rw [ha]; rfl
    have hna : a.n = s.n := by rw [ha]; rfl
    have hMa : ∀ j, a.M j = if j = k then enterM qN (s.M k) id x else s.M j := fun j => by
      rw [ha]
      show upd s.M k _ j = _
      by_cases q : j = k
      · rw [q, upd_same, if_pos rfl]
      · rw [upd_other _ _ q, if_neg q]
    have hl := en_load k a (s.M k).isEmpty hway (by rw [hna]; exact hk) fun k0 q => by
      have pl := parG_lt hc.right k0 hk
      rw [hGa, hMa, if_neg (by omega), hMa, if_pos rfl]
      exact ⟨hseat k0 q, inM_ne (id := id) (by unfold inM; rw [e2, if_pos rfl]; rfl)⟩
    rw [hGa, hna] at hl
    rw [h1, hl]
    have := load_in (s := s) (s1 := a) (k := k) (id := id) (x := x) hc.right hk hMa hGa (by omega) hx (hc.mok k) (hnone k) hseat s.n (fun c c0 cn cp ci => by omega) 0 (by rw [if_neg fun y => by omega])
    rw [this]
    omega
  · unfold plvX
    rw [if_pos hfind.1, hfind.2, Int.toNat_natCast, hMk, l2]
  · rw [hL]
    by_cases q : j < k
    · exact u1 j q
    · rw [u2 j (by omega)]
      by_cases q' : j = k
      · rw [q']; exact hbk
      · rw [hbo j q']; exact hMo j (by omega)
  · rw [hL]
    refine Eq.trans p4 ?_
    rw [hb]
    show delC (s1.T id) s1.c = _
    rw [hT1, setF_same, hc1]
    rfl
  · rw [hL]
    refine Eq.trans p1 ?_
    rw [hb]
    exact hG1
end Go.Proofs.YtfgmglghlapbcaaGreat
