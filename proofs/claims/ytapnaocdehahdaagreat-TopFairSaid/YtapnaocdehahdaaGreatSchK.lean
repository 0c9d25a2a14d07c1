/-
  Layer 31 (sched): operations, in boxes.
-/
import Derived.Test.YtapnaocdehahdaaGreatSchE
namespace Go.Proofs.YtapnaocdehahdaaGreat
open Go.RowKit Go.Maps Go.IntWalk Go.Lib
set_option linter.unusedVariables false
set_option linter.unusedSimpArgs false
structure OpV where
 kind:Int
 cpu:Int
 task:Int
 group:Int
 weight:Int
 dst:Int
 ticks:Int
 mask:Int
def encO (o:OpV):Value:=.agg #[.int .u8 o.kind,.int .i64 o.cpu,.int .i64 o.task,.int .i64 o.group,.int .i64 o.weight,.int .i64 o.dst,.int .i64 o.ticks,.int .u64 o.mask]
def cellsO (o:OpV):Array Value:=#[.int .u8 o.kind,.int .i64 o.cpu,.int .i64 o.task,.int .i64 o.group,.int .i64 o.weight,.int .i64 o.dst,.int .i64 o.ticks,.int .u64 o.mask]
structure OpV.Wf (o:OpV):Prop where
 kind:0≤o.kind∧o.kind≤255
 cpu:(Lit.int .i64 o.cpu).wf=true
 task:(Lit.int .i64 o.task).wf=true
 group:(Lit.int .i64 o.group).wf=true
 weight:(Lit.int .i64 o.weight).wf=true
 dst:(Lit.int .i64 o.dst).wf=true
 ticks:(Lit.int .i64 o.ticks).wf=true
 mask:0≤o.mask∧o.mask≤18446744073709551615
structure OpBox (w:World) (b:Nat) (o:OpV):Prop where
 c0:w.cell? ⟨b,0,none⟩=some (.int .u8 o.kind)
 c1:w.cell? ⟨b,1,none⟩=some (.int .i64 o.cpu)
 c2:w.cell? ⟨b,2,none⟩=some (.int .i64 o.task)
 c3:w.cell? ⟨b,3,none⟩=some (.int .i64 o.group)
 c4:w.cell? ⟨b,4,none⟩=some (.int .i64 o.weight)
 c5:w.cell? ⟨b,5,none⟩=some (.int .i64 o.dst)
 c6:w.cell? ⟨b,6,none⟩=some (.int .i64 o.ticks)
 c7:w.cell? ⟨b,7,none⟩=some (.int .u64 o.mask)
theorem OpBox.lt {w:World} {b:Nat} {o:OpV} (h:OpBox w b o):b<w.heap.size:=lt_of_cell h.c0
theorem OpBox.step {w w':World} {L L':SLay} {b:Nat} {o:OpV} (h:OpBox w b o) (hs:SStep L w L' w') (hb:L.lab b=(0,0,0)):OpBox w' b o:=
 ⟨hs.cell hb h.c0,hs.cell hb h.c1,hs.cell hb h.c2,hs.cell hb h.c3,hs.cell hb h.c4,hs.cell hb h.c5,hs.cell hb h.c6,hs.cell hb h.c7⟩
theorem OpBox.later {w w':World} {b:Nat} {o:OpV} (h:OpBox w b o) (hb:Below w.heap.size w w'):OpBox w' b o:=
 ⟨cell_later hb h.c0,cell_later hb h.c1,cell_later hb h.c2,cell_later hb h.c3,cell_later hb h.c4,cell_later hb h.c5,cell_later hb h.c6,cell_later hb h.c7⟩
theorem OpBox.new (w:World) (o:OpV) (t:TypeId):OpBox (w.alloc (.cells (cellsO o) t)) w.heap.size o:=
 ⟨cell_nw w _ _ 0 _ rfl,cell_nw w _ _ 1 _ rfl,cell_nw w _ _ 2 _ rfl,cell_nw w _ _ 3 _ rfl,cell_nw w _ _ 4 _ rfl,cell_nw w _ _ 5 _ rfl,cell_nw w _ _ 6 _ rfl,cell_nw w _ _ 7 _ rfl⟩
def SDo (w:World) (x:Nat) (L:SLay) (got c:Int) (s:SSt) (e:Ending) (w':World):Prop:=e=.returned (.tuple #[.int .i64 got,.int .i64 c])∧SLeft w x L s w'
theorem SLeft.from {w w1 w':World} {x:Nat} {L L1:SLay} {s:SSt} (h:SLeft w1 x L1 s w') (hs:SStep L w L1 w1) (ht:L1.tp=L.tp):SLeft w x L s w':=by
 obtain ⟨L',h1,h2,h3⟩:=h
 exact ⟨L',h1,hs.trans h2,h3.trans ht⟩
theorem SLeft.later {w w1 w':World} {x:Nat} {L:SLay} {s:SSt} (h:SLeft w x L s w1) (hb:Below w1.heap.size w1 w'):SLeft w x L s w':=by
 obtain ⟨L',h1,h2,h3⟩:=h
 exact ⟨L',h1.below hb,h2.trans (SStep.of hb),h3⟩
end Go.Proofs.YtapnaocdehahdaaGreat
