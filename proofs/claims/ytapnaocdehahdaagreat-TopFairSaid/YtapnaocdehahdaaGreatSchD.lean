/-
  Layer 31 (sched), in plain words: what an operation makes of a scheduler; it stays one.
-/
import Derived.Test.YtapnaocdehahdaaGreatSchY
import Derived.Test.YtapnaocdehahdaaGreatSchT
namespace Go.Proofs.YtapnaocdehahdaaGreat
open Go.RowKit Go.Maps Go.IntWalk Go.Lib
set_option linter.unusedVariables false
set_option linter.unusedSimpArgs false
theorem SOk.sp {s:SSt} (h:SOk s) {k:Nat} {o:OpV} (hk:k<s.C) (hwf:o.Wf):SOk (spS s k o):=by
 unfold spS
 split
 ·rename_i hc
  exact (h.born hk hwf hc).1.enter (setF_same _ _ _) rfl
 ·exact h
theorem SOk.aw {s:SSt} (h:SOk s) (id:Int):SOk (awS s id):=by
 unfold awS
 split
 ·exact h
 ·rename_i t hT
  cases hr:t.rdy with
  | true=>exact h
  | false=>exact (h.woken hT hr).enter (setF_same _ _ _) hr
theorem SOk.stop {s:SSt} (h:SOk s) {k:Nat} (hk:k<s.C):SOk (stopS s k):=by
 unfold stopS
 split
 ·rename_i t hT
  by_cases h0:s.cu k=0
  ·rw [h0,h.zero] at hT;cases hT
  ·obtain ⟨t',hT',hr,hc⟩:=h.who hk h0
   rw [hT] at hT'
   cases hT'
   refine SOk.leave (s:={ s with cu:=upd s.cu k 0 }) (h.now (Or.inl rfl)) hT hr ?_
   show upd s.cu k 0 t.cpu≠s.cu k
   rw [hc,upd_same]
   exact fun e=>h0 e.symm
 ·exact h
theorem SOk.exit {s:SSt} (h:SOk s) {k:Nat} (hk:k<s.C):SOk (exitS s k):=by
 unfold exitS
 split
 ·exact h
 ·rename_i h0
  have h1:=h.stop hk
  obtain ⟨t,hT,hr,hc⟩:=h.who hk h0
  have e:stopS s k=lvS { s with cu:=upd s.cu k 0 } (s.cu k) t:=by unfold stopS;rw [hT]
  rw [e] at h1 ⊢
  exact h1.del (setF_same _ _ _) rfl
theorem SOk.tk {s:SSt} (h:SOk s) {k:Nat} {tk:Int} (hk:k<s.C):SOk (tickS s k tk):=by
 unfold tickS
 split
 ·rename_i hc
  have ht:1≤tk∧tk≤4294967295:=by
   unfold tickC at hc
   split at hc
   ·assumption
   ·exact absurd hc (by decide)
  have hl:¬ s.cl k > 281474976710656 - tk:=by
   unfold tickC at hc
   rw [if_pos ht] at hc
   split at hc
   ·exact absurd hc (by decide)
   ·assumption
  have hb:=h.cl k hk
  have h1:SOk { s with cl:=upd s.cl k (s.cl k+tk) }:=h.clock ⟨by omega,by omega⟩
  split
  ·rename_i t hT
   by_cases h0:s.cu k=0
   ·rw [h0,h.zero] at hT;cases hT
   ·obtain ⟨t',hT',hr,hc'⟩:=h.who hk h0
    rw [hT] at hT'
    cases hT'
    have:=h1.tick (tk:=tk) hT hr ⟨by omega,ht.2⟩
    rw [hc'] at this
    exact this
  ·exact h1
 ·exact h
theorem SOk.first {s:SSt} (h:SOk s) {k:Nat} (hk:k<s.C):(frT (s.Q k)).1=0∨∃ t,s.T (frT (s.Q k)).1=some t∧t.rdy=true∧t.cpu=k:=by
 rw [frT_lead]
 cases e:((s.Q k).M 0).isEmpty with
 | true =>
  rw [lead_empty e (by rw [h.qn hk];exact h.right.pos)]
  exact Or.inl rfl
 | false =>
  obtain ⟨L,id,e1,hL⟩:=lead_ok (h.tree k hk) e
  rw [e1]
  obtain ⟨_,_,_,hT⟩:=hL.last (L.length - 1) (by have:=hL.pos;omega)
  obtain ⟨t,q1,q2,q3,_⟩:=(h.qt k hk id _).1 hT
  exact Or.inr ⟨t,q1,q2,q3⟩
theorem SOk.pk {s:SSt} (h:SOk s) {k:Nat} (hk:k<s.C):SOk (pickS s k):=SOk.work (s:={ s with cu:=upd s.cu k (frT (s.Q k)).1 }) (h.now (h.first hk)) _
def opR (s:SSt) (o:OpV):Int×Int×SSt:=
 if o.kind=1 then (if hasV (s.C:Int) o.cpu=true then (0,spC s o.cpu.toNat o,spS s o.cpu.toNat o) else (0,300,s))
 else if o.kind=2 then (if nameV o.task=true then (0,awC s o.task,awS s o.task) else (0,301,s))
 else if o.kind=3 then (if hasV (s.C:Int) o.cpu=true then (s.cu o.cpu.toNat,stopC s o.cpu.toNat,stopS s o.cpu.toNat) else (0,300,s))
 else if o.kind=4 then (if hasV (s.C:Int) o.cpu=true then (s.cu o.cpu.toNat,stopC s o.cpu.toNat,exitS s o.cpu.toNat) else (0,300,s))
 else if o.kind=5 then (if hasV (s.C:Int) o.cpu=true then (tickG s o.cpu.toNat o.ticks,tickC s o.cpu.toNat o.ticks,tickS s o.cpu.toNat o.ticks) else (0,300,s))
 else if o.kind=6 then (if hasV (s.C:Int) o.cpu=true then ((frT (s.Q o.cpu.toNat)).1,0,pickS s o.cpu.toNat) else (0,300,s))
 else if o.kind=7 then (if nameV o.task=true then (0,reC s o.task o.weight,reS s o.task o.weight) else (0,301,s))
 else if o.kind=8 then (0,rgC s o.group o.weight,rgT s o.group o.weight)
 else if o.kind=9 then (0,mgC s o,mgS s o)
 else if o.kind=10 then (if hasV (s.C:Int) o.cpu=true then (balB s o.cpu.toNat,balC s o.cpu.toNat,balS s o.cpu.toNat) else (0,300,s))
 else (0,2,s)
def doR (s:SSt) (o:OpV):Int×Int×SSt:=opR { s with wk:=0 } o
theorem has_nat {C:Nat} {c:Int} (h:hasV (C:Int) c=true):c.toNat<C∧c=(c.toNat:Int):=by
 unfold hasV at h
 simp only [Bool.and_eq_true,decide_eq_true_eq] at h
 omega
theorem opR_1 {s:SSt} {o:OpV} (e:o.kind=1):opR s o=(if hasV (s.C:Int) o.cpu=true then (0,spC s o.cpu.toNat o,spS s o.cpu.toNat o) else (0,300,s)):=by
 unfold opR
 rw [if_pos e]
theorem opR_2 {s:SSt} {o:OpV} (e:o.kind=2):opR s o=(if nameV o.task=true then (0,awC s o.task,awS s o.task) else (0,301,s)):=by
 unfold opR
 rw [if_neg (by omega),if_pos e]
theorem opR_3 {s:SSt} {o:OpV} (e:o.kind=3):opR s o=(if hasV (s.C:Int) o.cpu=true then (s.cu o.cpu.toNat,stopC s o.cpu.toNat,stopS s o.cpu.toNat) else (0,300,s)):=by
 unfold opR
 rw [if_neg (by omega),if_neg (by omega),if_pos e]
theorem opR_4 {s:SSt} {o:OpV} (e:o.kind=4):opR s o=(if hasV (s.C:Int) o.cpu=true then (s.cu o.cpu.toNat,stopC s o.cpu.toNat,exitS s o.cpu.toNat) else (0,300,s)):=by
 unfold opR
 rw [if_neg (by omega),if_neg (by omega),if_neg (by omega),if_pos e]
theorem opR_5 {s:SSt} {o:OpV} (e:o.kind=5):opR s o=(if hasV (s.C:Int) o.cpu=true then (tickG s o.cpu.toNat o.ticks,tickC s o.cpu.toNat o.ticks,tickS s o.cpu.toNat o.ticks) else (0,300,s)):=by
 unfold opR
 rw [if_neg (by omega),if_neg (by omega),if_neg (by omega),if_neg (by omega),if_pos e]
theorem opR_6 {s:SSt} {o:OpV} (e:o.kind=6):opR s o=(if hasV (s.C:Int) o.cpu=true then ((frT (s.Q o.cpu.toNat)).1,0,pickS s o.cpu.toNat) else (0,300,s)):=by
 unfold opR
 rw [if_neg (by omega),if_neg (by omega),if_neg (by omega),if_neg (by omega),if_neg (by omega),if_pos e]
theorem opR_7 {s:SSt} {o:OpV} (e:o.kind=7):opR s o=(if nameV o.task=true then (0,reC s o.task o.weight,reS s o.task o.weight) else (0,301,s)):=by
 unfold opR
 rw [if_neg (by omega),if_neg (by omega),if_neg (by omega),if_neg (by omega),if_neg (by omega),if_neg (by omega),if_pos e]
theorem opR_8 {s:SSt} {o:OpV} (e:o.kind=8):opR s o=(0,rgC s o.group o.weight,rgT s o.group o.weight):=by
 unfold opR
 rw [if_neg (by omega),if_neg (by omega),if_neg (by omega),if_neg (by omega),if_neg (by omega),if_neg (by omega),if_neg (by omega),if_pos e]
theorem opR_9 {s:SSt} {o:OpV} (e:o.kind=9):opR s o=(0,mgC s o,mgS s o):=by
 unfold opR
 rw [if_neg (by omega),if_neg (by omega),if_neg (by omega),if_neg (by omega),if_neg (by omega),if_neg (by omega),if_neg (by omega),if_neg (by omega),if_pos e]
theorem opR_10 {s:SSt} {o:OpV} (e:o.kind=10):opR s o=(if hasV (s.C:Int) o.cpu=true then (balB s o.cpu.toNat,balC s o.cpu.toNat,balS s o.cpu.toNat) else (0,300,s)):=by
 unfold opR
 rw [if_neg (by omega),if_neg (by omega),if_neg (by omega),if_neg (by omega),if_neg (by omega),if_neg (by omega),if_neg (by omega),if_neg (by omega),if_neg (by omega),if_pos e]
theorem opR_0 {s:SSt} {o:OpV} (e:¬ (1≤o.kind∧o.kind≤10)):opR s o=(0,2,s):=by
 unfold opR
 rw [if_neg (by omega),if_neg (by omega),if_neg (by omega),if_neg (by omega),if_neg (by omega),if_neg (by omega),if_neg (by omega),if_neg (by omega),if_neg (by omega),if_neg (by omega)]
theorem SOk.op {s:SSt} (h:SOk s) {o:OpV} (hwf:o.Wf):SOk (opR s o).2.2:=by
 by_cases e1:o.kind=1
 ·rw [opR_1 e1]
  by_cases q:hasV (s.C:Int) o.cpu=true
  ·rw [if_pos q];dsimp only;exact h.sp (has_nat q).1 hwf
  ·rw [if_neg q];exact h
 by_cases e2:o.kind=2
 ·rw [opR_2 e2]
  by_cases q:nameV o.task=true
  ·rw [if_pos q];dsimp only;exact h.aw _
  ·rw [if_neg q];exact h
 by_cases e3:o.kind=3
 ·rw [opR_3 e3]
  by_cases q:hasV (s.C:Int) o.cpu=true
  ·rw [if_pos q];dsimp only;exact h.stop (has_nat q).1
  ·rw [if_neg q];exact h
 by_cases e4:o.kind=4
 ·rw [opR_4 e4]
  by_cases q:hasV (s.C:Int) o.cpu=true
  ·rw [if_pos q];dsimp only;exact h.exit (has_nat q).1
  ·rw [if_neg q];exact h
 by_cases e5:o.kind=5
 ·rw [opR_5 e5]
  by_cases q:hasV (s.C:Int) o.cpu=true
  ·rw [if_pos q];dsimp only;exact h.tk (has_nat q).1
  ·rw [if_neg q];exact h
 by_cases e6:o.kind=6
 ·rw [opR_6 e6]
  by_cases q:hasV (s.C:Int) o.cpu=true
  ·rw [if_pos q];dsimp only;exact (show SOk (pickS s o.cpu.toNat) from h.pk (has_nat q).1)
  ·rw [if_neg q];exact h
 by_cases e7:o.kind=7
 ·rw [opR_7 e7]
  by_cases q:nameV o.task=true
  ·rw [if_pos q];dsimp only;exact h.re _ _
  ·rw [if_neg q];exact h
 by_cases e8:o.kind=8
 ·rw [opR_8 e8]
  exact h.rg _ _
 by_cases e9:o.kind=9
 ·rw [opR_9 e9]
  exact h.mg _
 by_cases e10:o.kind=10
 ·rw [opR_10 e10]
  by_cases q:hasV (s.C:Int) o.cpu=true
  ·rw [if_pos q];dsimp only;exact h.bal (has_nat q).1
  ·rw [if_neg q];exact h
 rw [opR_0 (by omega)];exact h
theorem SOk.done {s:SSt} (h:SOk s) {o:OpV} (hwf:o.Wf):SOk (doR s o).2.2:=(h.work 0).op hwf
end Go.Proofs.YtapnaocdehahdaaGreat
