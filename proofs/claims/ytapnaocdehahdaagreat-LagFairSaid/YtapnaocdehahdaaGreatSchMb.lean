/-
  Layer 30 (model): members, compared.
-/
import Derived.Test.YtapnaocdehahdaaGreatSchMa
namespace Go.Proofs.YtapnaocdehahdaaGreat
open Go.RowKit Go.Maps Go.IntWalk Go.Lib
set_option linter.unusedVariables false
set_option linter.unusedSimpArgs false
theorem nanU_at (x:Int) (w:World):Calls Tryz.prog 209 #[.int .u64 x] w fun e w'=>e=.returned (.bool false)∧w'=w:=by
 go_enter Tryz.func209,Tryz.ntmps209
 go_wp2
 go_ret
 exact ⟨rfl,rfl⟩
theorem cmpU_at (x y:Int) (w:World):Calls Tryz.prog 142 #[.int .u64 x,.int .u64 y] w fun e w'=>e=.returned (.int .i64 (cmp3 x y))∧w'=w:=by
 unfold cmp3
 by_cases c1:x<y
 ·rw [if_pos c1]
  go_enter Tryz.func142,Tryz.ntmps142
  go_wp2_with (go_at_call 209;refine (nanU_at _ _).mono ?_;rintro e w' ⟨rfl,rfl⟩)
  go_ret
  exact ⟨rfl,rfl⟩
 ·rw [if_neg c1]
  by_cases c2:y<x
  ·rw [if_pos c2]
   go_enter Tryz.func142,Tryz.ntmps142
   go_wp2_with (go_at_call 209;refine (nanU_at _ _).mono ?_;rintro e w' ⟨rfl,rfl⟩)
   go_ret
   exact ⟨rfl,rfl⟩
  ·rw [if_neg c2]
   go_enter Tryz.func142,Tryz.ntmps142
   go_wp2_with (go_at_call 209;refine (nanU_at _ _).mono ?_;rintro e w' ⟨rfl,rfl⟩)
   go_ret
   exact ⟨rfl,rfl⟩
def cmpM (f g:Nat→Int):Int:=if f 0=g 0 then (if f 1=g 1 then cmp3 (f 2) (g 2) else cmp3 (f 1) (g 1)) else cmp3 (f 0) (g 0)
theorem cmp3_self (x:Int):cmp3 x x=0:=by unfold cmp3;rw [if_neg (by omega),if_neg (by omega)]
theorem cmp3_ne {x y:Int} (h:x≠y):cmp3 x y≠0:=by
 unfold cmp3
 by_cases q:x<y
 ·rw [if_pos q];decide
 ·rw [if_neg q,if_pos (by omega)];decide
theorem cmpM_at {f g:Nat→Int}:∀ {k:Nat},k<3→(∀ j,j<k→f j=g j)→f k≠g k→cmpM f g=cmp3 (f k) (g k)
 | 0,_,_,h=>by unfold cmpM;rw [if_neg h]
 | 1,_,q,h=>by unfold cmpM;rw [if_pos (q 0 (by omega)),if_neg h]
 | 2,_,q,h=>by unfold cmpM;rw [if_pos (q 0 (by omega)),if_pos (q 1 (by omega))]
theorem cmpM_eq {f g:Nat→Int} (h:∀ j,j<3→f j=g j):cmpM f g=0:=by unfold cmpM;rw [if_pos (h 0 (by omega)),if_pos (h 1 (by omega)),h 2 (by omega),cmp3_self]
set_option maxRecDepth 100000 in
set_option maxHeartbeats 600000 in
theorem slCmp_at (p q:Nat) (f g:Nat→Int) (w:World) (hf:∀ j,j<3→w.cell? ⟨p,j,none⟩=some (.int .u64 (f j))) (hg:∀ j,j<3→w.cell? ⟨q,j,none⟩=some (.int .u64 (g j))) :
  Calls Tryz.prog 207 #[.slice (some ⟨p,0,none⟩) 3 3,.slice (some ⟨q,0,none⟩) 3 3] w fun e w'=>e=.returned (.int .i64 (cmpM f g))∧w=w':=by
 have HF:=Lib.hid hf
 have HG:=Lib.hid hg
 obtain ⟨c,hc⟩:∃ c,c=cmpM f g:=⟨_,rfl⟩
 rw [← hc]
 have HC:=Lib.hid hc
 have H0:=Lib.hid (show ∀ j,j<0→f j=g j from fun j q=>absurd q (Nat.not_lt_zero _))
 clear hf hg hc
 go_enter Tryz.func207,Tryz.ntmps207
 go_wp2_with fail
 go_loopw [11] (fun iv wr=>∃ k:Nat,k≤3∧iv=.int .i64 k∧wr=w∧Hid (∀ j,j<k→f j=g j)) (fun i _=>3 - (RowKit.intOf i).toNat)
 case atStart=>exact ⟨0,Nat.zero_le _,rfl,rfl,H0⟩
 case round =>
  clear H0
  obtain ⟨k,hk,rfl,rfl,HI⟩:=hrel
  by_cases hlt:k<3
  ·as_aux_lemma =>
   have u0:=HF.out k hlt
   have u1:=HG.out k hlt
   by_cases he:f k=g k
   ·rw [← he] at u1
    have HE:=Lib.hid he
    clear he
    have z0:=cmp3_self (f k)
    have hki:(k:Int)<3:=by omega
    have AF:=Lib.hid (cmpU_at (f k) (f k) wr)
    rw [z0] at AF
    clear z0
    go_wp2_with fail
    refine AF.out.mono ?_;clear AF;rintro e w5 ⟨rfl,rfl⟩
    go_wp2_with fail
    go_roundw
    case rel=>exact ⟨k+1,by omega,by go_num,trivial,Lib.hid fun j q=>by
     rcases Nat.lt_or_ge j k with r | r
     ·exact HI.out j r
     ·obtain rfl:j=k:=by omega
      exact HE.out⟩
    case measure=>simp [RowKit.intOf];omega
   ·have z1:decide (c=0)=false:=decide_eq_false (by rw [HC.out,cmpM_at hlt HI.out he];exact cmp3_ne he)
    have hc0:c≠0:=of_decide_eq_false z1
    have AF:=Lib.hid (cmpU_at (f k) (g k) wr)
    rw [← cmpM_at hlt HI.out he,← HC.out] at AF
    go_wp2_with fail
    refine AF.out.mono ?_;clear AF;rintro e w5 ⟨rfl,rfl⟩
    go_wp2_with fail
    go_ret
    exact ⟨rfl,rfl⟩
  ·as_aux_lemma =>
   obtain rfl:k=3:=by omega
   obtain rfl:c=0:=by rw [HC.out];exact cmpM_eq HI.out
   go_wp2_with fail
   go_ret
   exact ⟨rfl,rfl⟩
def tri (a b c:Int):Nat→Int
 | 0=>a
 | 1=>b
 | _=>c
structure LB (w:World) (b9 b8:Nat) (s:Bool) (g:Nat→Int):Prop where
 cs:w.cell? ⟨b9,0,none⟩=some (.bool s)
 cb:∀ j,j<3→w.cell? ⟨b8,j,none⟩=some (.int .u64 (g j))
 zs:w.frozen? ⟨b9,0,none⟩=false
 zb:∀ j,w.frozen? ⟨b8,j,none⟩=false
 ne:b9≠b8
def ltM (f g:Nat→Int):Bool:=decide (cmpM f g<0)
theorem tri_cells {w:World} {p:Nat} {a b c:Int} (h0:w.cell? ⟨p,0,none⟩=some (.int .u64 a)) (h1:w.cell? ⟨p,1,none⟩=some (.int .u64 b)) (h2:w.cell? ⟨p,2,none⟩=some (.int .u64 c)):∀ j,j<3→w.cell? ⟨p,j,none⟩=some (.int .u64 (tri a b c j))
 | 0,_=>h0
 | 1,_=>h1
 | 2,_=>h2
theorem LB.store {w:World} {b9 b8:Nat} {s:Bool} {g:Nat→Int} {a b c:Int} (h:LB w b9 b8 s g):LB (((w.setCell ⟨b8,0,none⟩ (.int .u64 a)).setCell ⟨b8,1,none⟩ (.int .u64 b)).setCell ⟨b8,2,none⟩ (.int .u64 c)) b9 b8 s (tri a b c):=by
 have g0:=h.cb 0 (by decide)
 have g1:=h.cb 1 (by decide)
 have g2:=h.cb 2 (by decide)
 have ne:=h.ne
 refine ⟨cell_set_ne (cell_set_ne (cell_set_ne h.cs (Or.inl ne)) (Or.inl ne)) (Or.inl ne),tri_cells (cell_set_ne (cell_set_ne (cell_set_eq g0) (Or.inr (by decide))) (Or.inr (by decide))) (cell_set_ne (cell_set_eq (cell_set_ne g1 (Or.inr (by decide)))) (Or.inr (by decide))) (cell_set_eq (cell_set_ne (cell_set_ne g2 (Or.inr (by decide))) (Or.inr (by decide)))),by simpa using h.zs,fun j=>by simpa using h.zb j,ne⟩
set_option maxRecDepth 100000 in
set_option maxHeartbeats 1000000 in
theorem leastC_at {w:World} {b9 b8:Nat} {s:Bool} {g:Nat→Int} (a b c:Int) (h:LB w b9 b8 s g) :
  Calls Tryz.prog 206 #[.agg #[.int .u64 a,.int .u64 b,.int .u64 c],.pointer (some ⟨b9,0,none⟩),.pointer (some ⟨b8,0,none⟩)] w fun e w'=>e=.returned (.tuple #[])∧LB w' b9 b8 true (if ltM (tri a b c) g then tri a b c else g)∧Kept [b9,b8] w w':=by
 obtain ⟨cs,cb,zs,zb,ne⟩:=h
 have HNE:=Lib.hid ne
 unfold ltM
 obtain ⟨cv,hcv⟩:∃ cv,cv=cmpM (tri a b c) g:=⟨_,rfl⟩
 rw [← hcv]
 have g0:=cb 0 (by decide)
 have g1:=cb 1 (by decide)
 have g2:=cb 2 (by decide)
 have q0:=zb 0
 have q1:=zb 1
 have q2:=zb 2
 have b9lt:=lt_of_cell cs
 have cs1:(w.alloc (.cells #[.int .u64 a,.int .u64 b,.int .u64 c] 214)).cell? ⟨b9,0,none⟩=some (.bool s):=cell_al _ cs
 have zs1:(w.alloc (.cells #[.int .u64 a,.int .u64 b,.int .u64 c] 214)).frozen? ⟨b9,0,none⟩=false:=frz_later (below_a _ _) zs b9lt
 go_enter Tryz.func206,Tryz.ntmps206
 go_wp2_with fail
 have b8lt:=lt_of_cell g0
 obtain ⟨W1,hW1⟩:∃ W,W=(w.setCell ⟨b9,0,none⟩ (.bool true)).alloc (.cells #[.int .u64 a,.int .u64 b,.int .u64 c] 214):=⟨_,rfl⟩
 have hk1:Kept [b9,b8] w W1:=by rw [hW1];exact ((Kept.refl _ w).setCell (Or.inl (by simp)) _).alloc _
 have hsz:w.heap.size=(w.setCell ⟨b9,0,none⟩ (.bool true)).heap.size:=by simp
 have zb1:∀ j,W1.frozen? ⟨b8,j,none⟩=false:=fun j=>by rw [hW1];exact frz_later (below_a _ _) (by simpa using zb j) (by simpa using b8lt)
 have zs2:W1.frozen? ⟨b9,0,none⟩=false:=by rw [hW1];exact frz_later (below_a _ _) (by simpa using zs) (by simpa using b9lt)
 have cs2:W1.cell? ⟨b9,0,none⟩=some (.bool true):=by rw [hW1];exact cell_al _ (cell_set_eq cs)
 have hx0:W1.cell? ⟨w.heap.size,0,none⟩=some (.int .u64 a):=by rw [hW1];exact cell_nwE hsz _ _ 0 _ rfl
 have hx1:W1.cell? ⟨w.heap.size,1,none⟩=some (.int .u64 b):=by rw [hW1];exact cell_nwE hsz _ _ 1 _ rfl
 have hx2:W1.cell? ⟨w.heap.size,2,none⟩=some (.int .u64 c):=by rw [hW1];exact cell_nwE hsz _ _ 2 _ rfl
 have cb2:∀ j,j<3→W1.cell? ⟨b8,j,none⟩=some (.int .u64 (g j)):=fun j q=>by rw [hW1];exact cell_al _ (cell_set_ne (cb j q) (Or.inl (Ne.symm ne)))
 have AF:=Lib.hid (slCmp_at w.heap.size b8 (tri a b c) g W1.drew (tri_cells (cell_dr hx0) (cell_dr hx1) (cell_dr hx2)) fun j q=>cell_dr (cb2 j q))
 rw [← hcv] at AF
 clear hcv
 have HK1:=Lib.hid hk1
 rw [← hW1]
 have HW1:=Lib.hid hW1
 have HZ:=Lib.hid zb1
 have HZS:=Lib.hid zs2
 clear cs cb g0 g1 g2 cs1 zs1 hk1 hsz hW1 zb zs zb1 zs2 q0 q1 q2 ne
 refine startA (S:=fun w'=>Below W1.heap.size W1 w'∧w'.cell? ⟨w.heap.size,0,none⟩=some (.int .u64 a)) ⟨Below.refl _ _,hx0⟩ (held_1 (below_dr _)) (fun hS0 hHeld=>?_)
 refine takeA 0 ?_
 refine takeA 1 ?_
 refine readyA [2] (consA (fun K hK=>?_) .nil)
 go_simp
 refine AF.out.mono ?_
 rintro e w5 ⟨rfl,rfl⟩
 go_wp2_with fail
 refine outA hK kp_1 (fun hHeld2=>?_)
 clear hK K
 refine takeA 3 ?_
 refine doneA ?_
 clear hS0 hHeld hHeld2 AF
 obtain ⟨W2,hW2⟩:∃ W,W=W1.drew:=⟨_,rfl⟩
 have HK2:=Lib.hid (show Kept [b9,b8] w W2 by rw [hW2];exact HK1.out.drew)
 have k0:W2.cell? ⟨w.heap.size,0,none⟩=some (.int .u64 a):=by rw [hW2];exact cell_dr hx0
 have k1:W2.cell? ⟨w.heap.size,1,none⟩=some (.int .u64 b):=by rw [hW2];exact cell_dr hx1
 have k2:W2.cell? ⟨w.heap.size,2,none⟩=some (.int .u64 c):=by rw [hW2];exact cell_dr hx2
 have HL2:=Lib.hid (show LB W2 b9 b8 true g by rw [hW2];exact ⟨cell_dr cs2,fun j q=>cell_dr (cb2 j q),HZS.out,HZ.out,HNE.out⟩)
 have g0:=HL2.out.cb 0 (by decide)
 have g1:=HL2.out.cb 1 (by decide)
 have g2:=HL2.out.cb 2 (by decide)
 have z0:=HL2.out.zb 0
 have z1:=HL2.out.zb 1
 have z2:=HL2.out.zb 2
 rw [← hW2]
 clear hW2 cs2 hx0 hx1 hx2 cb2 HK1 HW1 HZ HZS
 by_cases hlt:cv<0
 ·have zc:=decide_eq_true hlt
  go_wp2_with fail
  exact bodyPost_end (v:=.tuple #[]) (by simp [results,Tryz.results206,go_sem]) rfl ⟨rfl,LB.store HL2.out,((HK2.out.setCell (p:=⟨b8,0,none⟩) (Or.inl (by simp)) _).setCell (p:=⟨b8,1,none⟩) (Or.inl (by simp)) _).setCell (p:=⟨b8,2,none⟩) (Or.inl (by simp)) _⟩
 ·have zc:=decide_eq_false hlt
  go_wp2_with fail
  exact bodyPost_end (v:=.tuple #[]) (by simp [results,Tryz.results206,go_sem]) rfl ⟨rfl,HL2.out,HK2.out⟩
end Go.Proofs.YtapnaocdehahdaaGreat
