/-
  Layer 31 (sched): Work, Len.
-/
import Derived.Test.YtapnaocdehahdaaGreatSchN
namespace Go.Proofs.YtapnaocdehahdaaGreat
open Go.RowKit Go.Maps Go.IntWalk Go.Lib
set_option linter.unusedVariables false
set_option linter.unusedSimpArgs false
theorem xWork_at {w:World} {x:Nat} {L:SLay} {s:SSt} (h:SRaw w x L s) (hc:1≤s.C):Calls Tryz.prog 18 #[.pointer (some ⟨x,0,none⟩)] w fun e w'=>e=.returned (.int .i64 s.wk)∧w=w':=by
 have A1:=Lib.hid (xsome_at h hc)
 have c9:=h.head.c9
 clear h hc
 go_enter Tryz.func18,Tryz.ntmps18
 go_wp2_with fail
 refine A1.out.mono ?_;rintro e w5 ⟨rfl,rfl⟩
 go_wp2_with fail
 go_ret
 exact ⟨rfl,rfl⟩
set_option maxRecDepth 100000 in
theorem xLen_at {w:World} {x:Nat} {L:SLay} {s:SSt} (h:SRaw w x L s) (hc:1≤s.C):Calls Tryz.prog 23 #[.pointer (some ⟨x,0,none⟩)] w fun e w'=>e=.returned (.int .i64 s.c)∧w=w':=by
 have A1:=Lib.hid (xsome_at h hc)
 have c5:=h.head.c5
 have hl:=h.map.len undP 3
 clear h hc
 go_enter Tryz.func23,Tryz.ntmps23
 go_wp2_with fail
 refine A1.out.mono ?_;rintro e w5 ⟨rfl,rfl⟩
 go_wp2_with fail
 go_ret
 exact ⟨rfl,rfl⟩
end Go.Proofs.YtapnaocdehahdaaGreat
