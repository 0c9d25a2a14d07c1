/-
  Layers 30 and 31: operations, in boxes.
-/
import Derived.Test.YtapnaocdehahdaaGreatSchS
namespace Go.Proofs.YtapnaocdehahdaaGreat
open Go.RowKit Go.Maps Go.IntWalk Go.Lib
set_option linter.unusedVariables false
set_option linter.unusedSimpArgs false
structure OpV where
 kind:Int
 cpu:Int
 task:Int
 group:Int
 weight:Int
 dst:Int
 ticks:Int
 mask:Int
def encO (o:OpV):Value:=.agg #[.int .u8 o.kind,.int .i64 o.cpu,.int .i64 o.task,.int .i64 o.group,.int .i64 o.weight,.int .i64 o.dst,.int .i64 o.ticks,.int .u64 o.mask]
def cellsO (o:OpV):Array Value:=#[.int .u8 o.kind,.int .i64 o.cpu,.int .i64 o.task,.int .i64 o.group,.int .i64 o.weight,.int .i64 o.dst,.int .i64 o.ticks,.int .u64 o.mask]
structure OpBox (w:World) (b:Nat) (o:OpV):Prop where
 c0:w.cell? ⟨b,0,none⟩=some (.int .u8 o.kind)
 c1:w.cell? ⟨b,1,none⟩=some (.int .i64 o.cpu)
 c2:w.cell? ⟨b,2,none⟩=some (.int .i64 o.task)
 c3:w.cell? ⟨b,3,none⟩=some (.int .i64 o.group)
 c4:w.cell? ⟨b,4,none⟩=some (.int .i64 o.weight)
 c5:w.cell? ⟨b,5,none⟩=some (.int .i64 o.dst)
 c6:w.cell? ⟨b,6,none⟩=some (.int .i64 o.ticks)
 c7:w.cell? ⟨b,7,none⟩=some (.int .u64 o.mask)
theorem OpBox.later {w w':World} {b:Nat} {o:OpV} (h:OpBox w b o) (hb:Below w.heap.size w w'):OpBox w' b o:=
 ⟨cell_later hb h.c0,cell_later hb h.c1,cell_later hb h.c2,cell_later hb h.c3,cell_later hb h.c4,cell_later hb h.c5,cell_later hb h.c6,cell_later hb h.c7⟩
theorem OpBox.new (w:World) (o:OpV) (t:TypeId):OpBox (w.alloc (.cells (cellsO o) t)) w.heap.size o:=
 ⟨cell_nw w _ _ 0 _ rfl,cell_nw w _ _ 1 _ rfl,cell_nw w _ _ 2 _ rfl,cell_nw w _ _ 3 _ rfl,cell_nw w _ _ 4 _ rfl,cell_nw w _ _ 5 _ rfl,cell_nw w _ _ 6 _ rfl,cell_nw w _ _ 7 _ rfl⟩
end Go.Proofs.YtapnaocdehahdaaGreat
