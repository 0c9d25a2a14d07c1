/-
  Layer 31's statements: SchedRound's turn.
-/
import Derived.Test.YtapnaocdehahdaaSchO
import Derived.Test.YtapnaocdehahdaaSchRf
namespace Go.Proofs.Ytapnaocdehahdaa
open Go.RowKit Go.Maps Go.IntWalk Go.Lib
set_option linter.unusedVariables false
set_option linter.unusedSimpArgs false
theorem SAfter.drewn {w w':World} {x:Nat} {F:List Nat} {s:SSt} (h:SAfter w.drew x F s w'):SAfter w x F s w':=by
 obtain ⟨F',h1,h2⟩:=h
 exact ⟨F',h1,(Step.of (Below.refl _ _).drew).trans h2⟩
set_option maxRecDepth 100000 in
set_option maxHeartbeats 4000000 in
theorem run_at {w:World} {x:Nat} {F:List Nat} {s s1 s2:SSt} {d id:Int} {bx bd:Nat} (h:SIn w x F s) (ho:SOk s) (ho1:SOk s1) (e1:doR s pkO=(id,0,s1)) (e2:doR s1 (tkO d)=(id,0,s2)) (hd:1≤d∧d≤1048576) (nx:bx∉F) (nd:bd∉F)
  (cx:w.cell? ⟨bx,0,none⟩=some (.pointer (some ⟨x,0,none⟩))) (cd:w.cell? ⟨bd,0,none⟩=some (.int .i64 d)) :
  Calls Try.prog 12 #[.pointer (some ⟨bx,0,none⟩),.pointer (some ⟨bd,0,none⟩)] w fun e w'=>e=.returned (.int .i64 id)∧SAfter w x F s2 w':=by
 have A1:=DoX_at h ho pkO_wf
 rw [e1] at A1
 replace A1:=Lib.hid A1
 have A2:=fun W F' (q:SIn W x F' s1)=>DoX_at q ho1 (tkO_wf hd)
 rw [e2] at A2
 replace A2:=Lib.hid A2
 have z1:(id == id)=true:=by simp
 unfold encO at A1 A2
 clear h ho ho1 e1 e2 hd
 go_enter Try.func12,Try.ntmps12
 go_wp2_with fail
 refine A1.out.mono ?_;clear A1;rintro e w1 ⟨rfl,F1,h1,t1⟩
 have cx1:=t1.cell nx cx
 have cd1:=t1.cell nd cd
 have HT1:=Lib.hid t1
 replace A2:=Lib.hid (A2.out _ _ h1)
 clear h1 t1 cx cd
 go_wp2_with fail
 refine A2.out.mono ?_;clear A2;rintro e w2 ⟨rfl,F2,h2,t2⟩
 have HH:=Lib.hid (show SAfter w x F s2 w2 from ⟨F2,h2,HT1.out.trans t2⟩)
 clear h2 t2 HT1
 go_wp2_with fail
 go_ret
 exact ⟨rfl,HH.out⟩
end Go.Proofs.Ytapnaocdehahdaa
