/-
  Layer 18 (heap): Put.
-/
import Derived.Test.YtfgmglghlapbcaaHeapT
import Derived.Test.YtfgmglghlapbcaaHeapN
import Derived.Test.YtfgmglghlapbcaaKitB
namespace Go.Proofs.Ytfgmglghlapbcaa
open Go.RowKit Go.Maps Go.IntWalk Go.Lib Go.Sort
set_option linter.unusedVariables false
theorem infoItem : (Try.prog.info? 122).map (fun i => (i.zero, i.size, i.bytes)) = some (some (.agg #[.int .i64 0, .int .u64 0]), 2, 16) := by kernel_rfl
/-- A HEAP, as its user sees it: its block p, all its blocks F, how many numbers n, the items S in their order. -/
def HeapIn (w : World) (p : Nat) (F : List Nat) (n : Int) (S : Items) : Prop := ∃ a cap bm V f, Good w p a cap bm n V f ∧ F = blocks p a bm ∧ S.Perm V ∧ InOrder S
/-- what a call leaves -/
def After (w : World) (p : Nat) (F : List Nat) (n : Int) (S : Items) (w' : World) : Prop := ∃ F', HeapIn w' p F' n S ∧ Kept F w w' ∧ ∀ b ∈ F', b ∈ F ∨ w.heap.size ≤ b
theorem HeapIn.kept {w w' : World} {p : Nat} {F G : List Nat} {n : Int} {S : Items} (h : HeapIn w p F n S) (hk : Kept G w w') (hd : ∀ b ∈ F, b ∉ G) : HeapIn w' p F n S := by
  obtain ⟨a, cap, bm, V, f, hg, rfl, hp, ho⟩ := h
  exact ⟨a, cap, bm, V, f, { hg with raw := hg.raw.kept hk hd }, rfl, hp, ho⟩
theorem HeapIn.below {w w' : World} {p : Nat} {F : List Nat} {n : Int} {S : Items} (h : HeapIn w p F n S) (hk : Below w.heap.size w w') : HeapIn w' p F n S := h.kept (G := []) (Kept.of hk) (fun _ _ => by simp)
theorem HeapIn.lt {w : World} {p : Nat} {F : List Nat} {n : Int} {S : Items} (h : HeapIn w p F n S) : ∀ b ∈ F, b < w.heap.size := by
  obtain ⟨a, cap, bm, V, f, hg, rfl, hp, ho⟩ := h
  intro b hb
  simp only [blocks, List.mem_cons, Option.mem_toList] at hb
  rcases hb with rfl | rfl | hb
  · exact hg.raw.plt
  · exact hg.raw.map.lt
  · exact hg.raw.glt hb
theorem After.same {w w' : World} {p : Nat} {F : List Nat} {n : Int} {S : Items} (h : HeapIn w p F n S) (hb : Below w.heap.size w w') : After w p F n S w' := ⟨F, h.below hb, Kept.of hb, fun b hb => Or.inl hb⟩
theorem After.step {w w1 w2 : World} {p : Nat} {F : List Nat} {n : Int} {S T : Items} (h : After w p F n S w1) (k : ∀ F', HeapIn w1 p F' n S → After w1 p F' n T w2) : After w p F n T w2 := by
  obtain ⟨F', h1, h2, h3⟩ := h
  obtain ⟨F2, k1, k2, k3⟩ := k F' h1
  refine ⟨F2, k1, ?_, fun b hb => ?_⟩
  · refine ⟨k2.os.trans h2.os, k2.tape.trans h2.tape, k2.output.trans h2.output, Nat.le_trans h2.size k2.size, fun i hi hn => ?_⟩
    rw [k2.block i (Nat.lt_of_lt_of_le hi h2.size) (fun m => by rcases h3 i m with q | q; exact hn q; omega)]
    exact h2.block i hi hn
  · rcases k3 b hb with q | q
    · exact h3 b q
    · exact Or.inr (Nat.le_trans h2.size q)
theorem After.below {w w' : World} {p : Nat} {F : List Nat} {n : Int} {S : Items} {B : Nat} (h : After w p F n S w') (hF : ∀ b ∈ F, B ≤ b) (hB : B ≤ w.heap.size) : Below B w w' ∧ ∃ F', HeapIn w' p F' n S ∧ (∀ b ∈ F', B ≤ b) := by
  obtain ⟨F', h1, h2, h3⟩ := h
  exact ⟨h2.below hF hB, F', h1, fun b hb => by rcases h3 b hb with q | q; exact hF b q; omega⟩
theorem Good.find {w : World} {p : Nat} {a : Option Nat} {cap bm : Nat} {n : Int} {V S : Items} {f : Int → Option Int} (h : Good w p a cap bm n V f) (hp : S.Perm V) (id : Int) :
    (f id).isSome = (keyL S id).isSome ∧ ∀ k, f id = some k → ∃ j : Nat, k = j ∧ j < V.length ∧ V[j]!.1 = id ∧ keyL S id = some V[j]!.2 := by
  have hnd : (S.map Prod.fst).Nodup := ids_nodup_perm hp.symm (apart_nodup h.apart)
  have key : ∀ k, f id = some k → ∃ j : Nat, k = j ∧ j < V.length ∧ V[j]!.1 = id ∧ keyL S id = some V[j]!.2 := by
    intro k hk
    obtain ⟨j, jl, hj, rfl⟩ := (h.placed id k).1 hk
    refine ⟨j, rfl, jl, hj, (keyL_some hnd).2 ?_⟩
    rw [hp.mem_iff, ← hj]
    exact at_mem jl
  refine ⟨?_, key⟩
  cases e : f id with
  | some k =>
    obtain ⟨j, _, _, _, q⟩ := key k e
    rw [q]; rfl
  | none =>
    cases q : keyL S id with
    | none => rfl
    | some x =>
      have := (keyL_some hnd).1 q
      obtain ⟨j, jl, hj⟩ := mem_at ((hp.mem_iff).1 this)
      have := (h.placed id j).2 ⟨j, jl, by rw [hj], rfl⟩
      rw [e] at this; cases this
/-- what the append to the items leaves -/
theorem Raw.app {w W w1 : World} {p : Nat} {a : Option Nat} {cap bm : Nat} {n : Int} {L : Items} {f : Int → Option Int} {c : Nat} (h : Raw w p a cap bm n L f c) (hW : Below w.heap.size w W) {x : Int × Int} {g' cap' : Nat}
    (hx : (0 ≤ x.1 ∧ x.1 < n) ∧ 0 ≤ x.2 ∧ x.2 ≤ 18446744073709551615)
    (ho : w1.ownsRow (max p bm + 1) 122 2 (.slice (some ⟨g', 0, none⟩) (L.length + 1) cap') (L.length + 1) (flatI L ++ [.int .i64 x.1, .int .u64 x.2])) (hg : W.grownBy w1 (rowV a L.length cap).ownBlock) (hpl : (Value.slice (some ⟨g', 0, none⟩) (L.length + 1) cap').ownBlock = (rowV a L.length cap).ownBlock ∨ (Value.slice (some ⟨g', 0, none⟩) (L.length + 1) cap').ownBlock = some W.heap.size) :
    Raw (w1.setCell ⟨p, 0, none⟩ (.slice (some ⟨g', 0, none⟩) (L.length + 1) cap')) p (some g') cap' bm n (L ++ [x]) f c ∧ Kept (blocks p a bm) w (w1.setCell ⟨p, 0, none⟩ (.slice (some ⟨g', 0, none⟩) (L.length + 1) cap')) ∧ (a = some g' ∨ w.heap.size ≤ g') := by
  have r := h.below hW
  have np : some p ≠ (rowV a L.length cap).ownBlock := own_block h.own (Or.inl (by omega))
  have nm : some bm ≠ (rowV a L.length cap).ownBlock := own_block h.own (Or.inl (by omega))
  have c : ∀ (o : Nat) (u : Value), W.cell? ⟨p, o, none⟩ = some u → w1.cell? ⟨p, o, none⟩ = some u := fun o u h => hg.cell h np
  have hgl := ho.lt g' rfl
  have eg : g' ≠ p ∧ g' ≠ bm := by omega
  have hl : (L ++ [x]).length = L.length + 1 := by simp
  refine ⟨⟨?_, cell_set_ne (c 1 _ r.c1) (Or.inr (by omega)), cell_set_ne (c 2 _ r.c2) (Or.inr (by omega)), fun j => ?_, ?_, fun g e => by cases e; exact eg, h.pb, ?_, fun y hy => ?_, h.small, h.pos⟩, ?_, ?_⟩
  · rw [hl]; exact cell_set_eq (c 0 _ r.c0)
  · rw [World.frozen?_setCell]
    exact (World.frozen?_of_block (w := W) (w' := w1) (a := ⟨p, j, none⟩) (hg.block _ r.plt np)).trans (r.fp j)
  · rw [hl, flatI_app]
    exact ho.kept (gset _ _ _ _) (Or.inr (by simp [Value.ownBlock]; omega))
  · exact (r.map.of_heap (hg.block _ r.map.lt nm)).setCell (Ne.symm h.pb) _
  · rcases List.mem_append.1 hy with q | q
    · exact h.fits y q
    · simp only [List.mem_singleton] at q; subst q; exact hx
  · refine Kept.setCell ((Kept.of hW).grown hg (fun k hk => ?_)) (Or.inl (by simp [blocks])) _
    cases a with
    | none => simp [rowV, Value.ownBlock] at hk
    | some g => simp [rowV, Value.ownBlock] at hk; subst hk; exact Or.inl (by simp [blocks])
  · rcases hpl with q | q
    · refine Or.inl ?_
      cases a with
      | none => simp [rowV, Value.ownBlock] at q
      | some g => simp [rowV, Value.ownBlock] at q; rw [q]
    · simp only [Value.ownBlock, Option.some.injEq] at q
      have := hW.size
      exact Or.inr (by omega)
theorem Good.appended {w w2 : World} {p g' : Nat} {a : Option Nat} {cap cap' bm : Nat} {n : Int} {V : Items} {f : Int → Option Int} (h : Good w p a cap bm n V f) {x : Int × Int} (hx : (0 ≤ x.1 ∧ x.1 < n) ∧ 0 ≤ x.2 ∧ x.2 ≤ 18446744073709551615)
    (hf : f x.1 = none) (r : Raw w2 p (some g') cap' bm n (V ++ [x]) f V.length) : Mid w2 p g' cap' bm n (V ++ [x]) f V.length (V ++ [x]) (V ++ [x])[V.length]! V.length := by
  have hl : (V ++ [x]).length = V.length + 1 := by simp
  have e0 : (V ++ [x])[V.length]! = x := app_last
  have e1 : (V ++ [x]).set V.length x = V ++ [x] := by simp
  have hno : ∀ j, j < V.length → V[j]!.1 ≠ x.1 := fun j hj q => by
    have := (h.placed x.1 j).2 ⟨j, hj, q, rfl⟩
    rw [hf] at this; cases this
  rw [e0]
  refine ⟨r, by omega, by rw [e1]; exact hole_app x h.heaped, ?_, by rw [e1], ?_, by rw [hf, hl]; rfl, hx⟩
  · rw [e1]
    intro i j hi hj e
    rw [hl] at hi hj
    by_cases hi' : i < V.length
    · by_cases hj' : j < V.length
      · rw [app_at hi', app_at hj'] at e; exact h.apart i j hi' hj' e
      · have : j = V.length := by omega
        subst this
        rw [app_at hi', app_last] at e; exact absurd e (hno i hi')
    · have : i = V.length := by omega
      subst this
      by_cases hj' : j < V.length
      · rw [app_at hj', app_last] at e; exact absurd e.symm (hno j hj')
      · omega
  · rw [e1]
    intro id hid q
    rw [h.placed id q]
    constructor
    · rintro ⟨j, jl, hj, rfl⟩
      exact ⟨j, by omega, by rw [app_at jl]; exact hj, rfl⟩
    · rintro ⟨j, jl, hj, rfl⟩
      rw [hl] at jl
      by_cases hj' : j < V.length
      · exact ⟨j, hj', by rw [app_at hj'] at hj; exact hj, rfl⟩
      · have : j = V.length := by omega
        subst this
        rw [app_last] at hj; exact absurd hj.symm hid
def putRes (n : Int) (S : Items) (id : Int) : Int := if hasV n id then (if (keyL S id).isSome then 180 else 0) else 2
def putS (n : Int) (S : Items) (id key : Int) : Items := if putRes n S id = 0 then putL S (id, key) else S
def Did (w : World) (p : Nat) (F : List Nat) (n : Int) (r : Value) (S : Items) (e : Ending) (w' : World) : Prop := e = .returned r ∧ After w p F n S w'
theorem hasV_iff {n id : Int} : hasV n id = true ↔ 0 ≤ id ∧ id < n := by unfold hasV; simp
set_option maxRecDepth 100000 in
set_option maxHeartbeats 1000000 in
theorem Put_at {p : Nat} {F : List Nat} {n : Int} {S : Items} (id key : Int) (w : World) (h : HeapIn w p F n S) (hid : (Lit.int .i64 id).wf = true) (hk : 0 ≤ key ∧ key ≤ 18446744073709551615) :
    Calls Try.prog 65 #[.pointer (some ⟨p, 0, none⟩), .int .i64 id, .int .u64 key] w (Did w p F n (.int .i64 (putRes n S id)) (putS n S id key)) := by
  have HS := Lib.hid h
  obtain ⟨a, cap, bm, V, f, hg, rfl, hp, ho⟩ := h
  have A1 := Lib.hid (find_at id w hg.raw hid)
  have hfd := hg.find hp id
  unfold findV at A1
  unfold putS putRes
  cases hv : hasV n id with
  | false =>
    rw [hv] at A1
    clear hfd hg hp ho
    go_enter Try.func65, Try.ntmps65
    go_wp2_with fail
    refine A1.out.mono ?_; rintro e w5 ⟨rfl, rfl⟩
    go_wp2_with fail
    go_ret
    exact ⟨rfl, After.same HS.out (Below.refl _ _)⟩
  | true =>
    rw [hv] at A1
    cases hf : f id with
    | some k =>
      rw [hf] at A1 hfd
      rw [← hfd.1]
      clear hfd hg hp ho
      go_enter Try.func65, Try.ntmps65
      go_wp2_with fail
      refine A1.out.mono ?_; rintro e w5 ⟨rfl, rfl⟩
      go_wp2_with fail
      go_ret
      exact ⟨rfl, After.same HS.out (Below.refl _ _)⟩
    | none =>
      rw [hf] at A1 hfd
      rw [← hfd.1]
      obtain ⟨i0, hi, hz0, hz1, hz2⟩ := info_parts infoItem
      have hxx : ((0 : Int) ≤ (id, key).1 ∧ (id, key).1 < n) ∧ 0 ≤ (id, key).2 ∧ (id, key).2 ≤ 18446744073709551615 := ⟨hasV_iff.1 hv, hk⟩
      have hlen := hg.raw.nlen hg.apart
      have hsm := hg.raw.small
      have hL : V.length ≤ 131072 := by omega
      have HG := Lib.hid hg
      have HX := Lib.hid hxx
      have HF := Lib.hid hf
      have HP := Lib.hid hp
      have HO := Lib.hid ho
      have c0 := hg.raw.c0
      have f0 := hg.raw.fp 0
      have hown := Lib.hid hg.raw.own
      have hplt := hg.raw.plt
      have hblt := hg.raw.map.lt
      clear hfd hg hp ho hxx hlen hsm hf
      generalize hrow : rowV a V.length cap = v at *
      have HR := Lib.hid hrow
      clear hrow
      go_enter Try.func65, Try.ntmps65
      go_wp2_with fail
      refine A1.out.mono ?_; rintro e w5 ⟨rfl, rfl⟩
      go_wp2_with (at_builtin; refine wpList_append_own2 rfl (.tmp 25) (.tmp 29) 116 rfl (max p bm + 1) 122 i0 (.agg #[.int .i64 0, .int .u64 0]) 2 16 Try.underlying116 hi hz0 hz1 hz2 rfl (by decide) v V.length (flatI V) rfl (hown.out.alloc _) ⟨w.heap.size, 0, none⟩ 1 1 [.int .i64 id, .int .u64 key] rfl rfl ?c1 ?c2 ?c3 ?c4 ?c5 (by decide) ?_)
      case c1 =>
        intro j u hj
        match j, hj with
        | 0, hj => simp at hj; subst hj; go_simp
        | 1, hj => simp at hj; subst hj; go_simp
        | j + 2, hj => simp at hj
      case c2 => intro u hu; simp at hu; rcases hu with rfl | rfl <;> rfl
      case c3 => unfold maxLen; omega
      case c4 => omega
      case c5 => simp; omega
      intro v' w1 hown1 hgrow1 hpl
      obtain ⟨g', cap', rfl⟩ := own_some hown1
      rw [← HR.out] at hgrow1 hpl
      obtain ⟨hra, hka, hga⟩ := HG.out.raw.app (below_a w _) (x := (id, key)) HX.out hown1 hgrow1 (by simpa using hpl)
      have k0 := hgrow1.cell (cell_al _ c0) (own_block (by rw [HR.out]; exact hown.out) (Or.inl (by show p < max p bm + 1; omega)))
      have kf : w1.frozen? ⟨p, 0, none⟩ = false := by
        have := hra.fp 0
        rwa [World.frozen?_setCell] at this
      have HRA := Lib.hid hra
      have HKA := Lib.hid hka
      have HGA := Lib.hid hga
      clear hra hka hga hown1 hgrow1 hpl c0 f0 hown
      have hl : (V ++ [(id, key)]).length = V.length + 1 := by simp
      go_wp2_with fail
      refine (settle_at (V ++ [(id, key)]) V.length _ (HG.out.appended (x := (id, key)) HX.out HF.out HRA.out)).mono ?_
      rintro e w7 ⟨rfl, hS⟩
      have HSS := Lib.hid hS
      clear hS k0 kf
      go_wp2_with fail
      go_ret
      obtain ⟨V', f', hg', hp', hk'⟩ := HSS.out
      have hkk := HKA.out
      have hga := HGA.out
      have hno : (id, key) ∉ S := fun q => by
        obtain ⟨j, jl, hj⟩ := mem_at (HP.out.mem_iff.1 q)
        have := (HG.out.placed id j).2 ⟨j, jl, by rw [hj], rfl⟩
        rw [HF.out] at this; cases this
      have hpp : (putL S (id, key)).Perm V' := (putL_perm _ _).trans (((HP.out.cons _).trans (List.perm_append_singleton _ _).symm).trans hp'.symm)
      refine ⟨rfl, blocks p (some g') bm, ⟨some g', cap', bm, V', f', hg', rfl, hpp, putL_order HO.out hno⟩, ?_, fun b hb => ?_⟩
      · refine ⟨hk'.os.trans hkk.os, hk'.tape.trans hkk.tape, hk'.output.trans hkk.output, Nat.le_trans hkk.size hk'.size, fun i hi hn => ?_⟩
        rw [hk'.block i (Nat.lt_of_lt_of_le hi hkk.size) (fun m => ?_)]
        · exact hkk.block i hi hn
        · simp only [blocks, List.mem_cons, Option.mem_toList, List.not_mem_nil, or_false, not_or] at m hn
          rcases m with m | m | m
          · exact hn.1 m
          · exact hn.2.1 m
          · rcases hga with q | q
            · exact hn.2.2 (by rw [q, m])
            · omega
      · simp only [blocks, List.mem_cons, Option.mem_toList] at hb ⊢
        rcases hb with q | q | q
        · exact Or.inl (Or.inl q)
        · exact Or.inl (Or.inr (Or.inl q))
        · cases q
          rcases hga with q | q
          · exact Or.inl (Or.inr (Or.inr q))
          · exact Or.inr q
end Go.Proofs.Ytfgmglghlapbcaa
