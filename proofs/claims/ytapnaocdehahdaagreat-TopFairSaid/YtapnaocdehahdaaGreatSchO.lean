/-
  Layer 31 (sched): a scheduler of a law's own.
-/
import Derived.Test.YtapnaocdehahdaaGreatSchZ
import Derived.Test.YtapnaocdehahdaaGreatSchQ
namespace Go.Proofs.YtapnaocdehahdaaGreat
open Go.RowKit Go.Maps Go.IntWalk Go.Lib
set_option linter.unusedVariables false
set_option linter.unusedSimpArgs false
theorem SIn.lt {w:World} {x:Nat} {F:List Nat} {s:SSt} (h:SIn w x F s):x<w.heap.size:=h.elim fun L q=>q.1.head.lt
theorem SIn.below {w w':World} {x:Nat} {F:List Nat} {s:SSt} (h:SIn w x F s) (hb:Below w.heap.size w w'):SIn w' x F s:=by
 obtain ⟨L,h1,h2⟩:=h
 exact ⟨L,h1.below hb,h2⟩
structure XW (base:World) (x:Nat) (s:SSt) (w:World) (F:List Nat):Prop where
 inn:SIn w x F s
 own:∀ b∈F,base.heap.size≤b
 lt:∀ b∈F,b<w.heap.size
 bel:Below base.heap.size base w
section
variable {base w w':World} {x:Nat} {s s':SSt} {F:List Nat}
theorem XW.later (h:XW base x s w F) (hb:Below w.heap.size w w'):XW base x s w' F:=⟨h.inn.below hb,h.own,fun b q=>Nat.lt_of_lt_of_le (h.lt b q) hb.size,Below.step h.bel hb⟩
theorem XW.step (h:XW base x s w F) (ha:SAfter w x F s' w'):∃ F',XW base x s' w' F'∧Step F w F' w':=by
 obtain ⟨F',h1,h2⟩:=ha
 obtain ⟨L,r,hL⟩:=h1
 refine ⟨F'.filter fun b=>decide (b<w'.heap.size),⟨⟨L,r,fun b hb=>List.mem_filter.2 ⟨hL b hb,by simpa using r.lt b hb⟩⟩,fun b q=>?_,fun b q=>by simpa using (List.mem_filter.1 q).2,?_⟩,⟨h2.kept,fun b q=>h2.new b (List.mem_filter.1 q).1⟩⟩
 ·rcases h2.new b (List.mem_filter.1 q).1 with r | r
  ·exact h.own b r
  ·exact Nat.le_trans h.bel.size r
 ·exact h.bel.trans (h2.kept.below h.own h.bel.size)
theorem XW.begun {L:SLay} (h:SRaw w' x L s) (hL:∀ b,L.lab b≠(0,0,0)→w.heap.size≤b) (hb:Below w.heap.size w w') (hb0:Below base.heap.size base w):XW base x s w' ((List.range w'.heap.size).filter fun b=>decide (w.heap.size≤b)):=
 ⟨⟨L,h,fun b q=>List.mem_filter.2 ⟨List.mem_range.2 (h.lt b q),by simpa using hL b q⟩⟩,fun b q=>Nat.le_trans hb0.size (by simpa using (List.mem_filter.1 q).2),fun b q=>List.mem_range.1 (List.mem_filter.1 q).1,Below.step hb0 hb⟩
theorem DoX_at {o:OpV} (h:SIn w x F s) (ho:SOk s) (hwf:o.Wf):Calls Tryz.prog 17 #[.pointer (some ⟨x,0,none⟩),encO o] w fun e w'=>e=.returned (.tuple #[.int .i64 (doR s o).1,.int .i64 (doR s o).2.1])∧SAfter w x F (doR s o).2.2 w':=by
 obtain ⟨L,h1,h2⟩:=h
 refine (xDo_at h1 ho hwf).mono ?_
 rintro e w' ⟨q1,L',q2,q3⟩
 exact ⟨q1,SIn.of q2 h2 q3⟩
theorem WorkX_at (h:SIn w x F s) (ho:SOk s):Calls Tryz.prog 18 #[.pointer (some ⟨x,0,none⟩)] w fun e w'=>e=.returned (.int .i64 s.wk)∧w=w':=h.elim fun L q=>xWork_at q.1 ho.cpus.1
theorem LenX_at (h:SIn w x F s) (ho:SOk s):Calls Tryz.prog 23 #[.pointer (some ⟨x,0,none⟩)] w fun e w'=>e=.returned (.int .i64 s.c)∧w=w':=h.elim fun L q=>xLen_at q.1 ho.cpus.1
theorem NewX_at {Gs:Grps} {C:Nat} {cr:Int} {v:Value} (hb0:Below base.heap.size base w) (hV:RecsAt encG w v Gs) (hr:RightG Gs) (hC:1≤C∧C≤64) (hc:0≤cr∧cr≤1099511627776) :
  Calls Tryz.prog 13 #[.agg #[.int .i64 C,.int .u64 cr,v]] w fun e w'=>∃ x F,e=.returned (.tuple #[.pointer (some ⟨x,0,none⟩),.int .i64 0])∧XW base x (firstS Gs C cr) w' F∧Below w.heap.size w w'∧∀ b∈F,w.heap.size≤b:=by
 refine (xNew_at w hV hC hc hr).mono ?_
 rintro e w' ⟨x,L,q1,q2,q3,q4⟩
 exact ⟨x,_,q1,XW.begun q2 q3 q4 hb0,q4,fun b q=>by simpa using (List.mem_filter.1 q).2⟩
end
end Go.Proofs.YtapnaocdehahdaaGreat
