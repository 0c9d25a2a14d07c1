/-
  Layer 31 (sched): a scheduler in memory.
-/
import Derived.Test.YtapnaocdehahdaaGreatSchM
namespace Go.Proofs.YtapnaocdehahdaaGreat
open Go.RowKit Go.Maps Go.IntWalk Go.Lib
set_option linter.unusedVariables false
set_option linter.unusedSimpArgs false
structure IntsAt (w:World) (b n:Nat) (f:Nat→Int):Prop where
 c:∀ k,k<n→w.cell? ⟨b,k,none⟩=some (.int .i64 (f k))
 z:∀ j,w.frozen? ⟨b,j,none⟩=false
 lt:b<w.heap.size
structure GrpsAt (w:World) (b:Nat) (Gs:Grps):Prop where
 c:∀ k,k<Gs.length→w.cell? ⟨b,k*2,none⟩=some (.int .i64 Gs[k]!.1)∧w.cell? ⟨b,k*2+1,none⟩=some (.int .i64 Gs[k]!.2)
 z:∀ j,w.frozen? ⟨b,j,none⟩=false
 lt:b<w.heap.size
section
variable {w w':World} {G:List Nat} {b n C:Nat}
theorem IntsAt.kept {f:Nat→Int} (h:IntsAt w b n f) (hk:Kept G w w') (hb:b∉G):IntsAt w' b n f:=⟨fun k q=>hk.cellAt (h.c k q) hb,fun j=>hk.frz (h.z j) h.lt hb,Nat.lt_of_lt_of_le h.lt hk.size⟩
theorem GrpsAt.kept {f:Grps} (h:GrpsAt w b f) (hk:Kept G w w') (hb:b∉G):GrpsAt w' b f:=⟨fun k q=>⟨hk.cellAt (h.c k q).1 hb,hk.cellAt (h.c k q).2 hb⟩,fun j=>hk.frz (h.z j) h.lt hb,Nat.lt_of_lt_of_le h.lt hk.size⟩
theorem IntsAt.set {f:Nat→Int} (h:IntsAt w b n f) {k:Nat} (hk:k<n) (x:Int):IntsAt (w.setCell ⟨b,k,none⟩ (.int .i64 x)) b n (upd f k x):=⟨fun j q=>by
 by_cases e:j=k
 ·subst e;rw [upd_same];exact cell_set_eq (h.c j q)
 ·rw [upd_other _ _ e];exact cell_set_ne (h.c j q) (Or.inr e),fun j=>by rw [World.frozen?_setCell];exact h.z j,by simp;exact h.lt⟩
end
structure SLay where
 bg:Nat
 bl:Nat
 bu:Nat
 bm:Nat
 bq:Nat
 ba:Nat
 bo:Nat
 rq:Nat→Nat
 ra:Nat→Nat
 tp:Int→Nat
 qp:Nat→Nat→Nat
 Fq:Nat→Nat→List Nat
 lab:Nat→Nat×Int×Nat
section
variable {w w':World} {G:List Nat} {x n C:Nat} {L:SLay} {s:SSt} {cr wk:Int}
end
section
variable {w w' w'':World} {L L' L'':SLay} {x:Nat} {s:SSt}
end
end Go.Proofs.YtapnaocdehahdaaGreat
