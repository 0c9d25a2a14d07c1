/-
  Layer 30 (model): Do, for an operation whose own function is known.
-/
import Derived.Test.YtapnaocdehahdaaGreatMdF
namespace Go.Proofs.YtapnaocdehahdaaGreat
open Go.RowKit Go.Maps Go.IntWalk Go.Lib
set_option linter.unusedVariables false
set_option linter.unusedSimpArgs false
def MDid (w:World) (x:Nat) (F:List Nat) (m:MSt) (w':World):Prop:=∃ L',MIn w' x L' m∧Kept F w w'∧∀ b,L'.lab b≠(0,0)→b∈F∨w.heap.size≤b
def MLay.all (L:MLay) (n:Nat):List Nat:=(List.range n).filter fun b=>decide (L.lab b≠(0,0))
theorem MIn.all_mem {w:World} {x:Nat} {L:MLay} {m:MSt} (h:MIn w x L m) (b:Nat) (q:L.lab b≠(0,0)):b∈L.all w.heap.size:=List.mem_filter.2 ⟨List.mem_range.2 (h.lz b q),decide_eq_true q⟩
theorem MDid.rose {w w1 w':World} {x:Nat} {F:List Nat} {m m':MSt} {L:MLay} (h1:MIn w1 x L m) (h2:Kept F w w1) (h3:∀ b,L.lab b≠(0,0)→b∈F∨w.heap.size≤b) (h4:MIn w' x L m') (h5:Kept (L.all w1.heap.size) w1 w'):MDid w x F m' w':=by
 refine ⟨L,h4,⟨h5.os.trans h2.os,h5.tape.trans h2.tape,h5.output.trans h2.output,Nat.le_trans h2.size h5.size,fun k hk hn=>?_⟩,h3⟩
 rw [h5.block k (Nat.lt_of_lt_of_le hk h2.size) fun m=>?_]
 ·exact h2.block k hk hn
 ·have:=of_decide_eq_true (List.mem_filter.1 m).2
  rcases h3 k this with q | q
  ·exact hn q
  ·omega
set_option maxRecDepth 100000 in
set_option maxHeartbeats 2000000 in
theorem mdo1_at {w:World} {x:Nat} {L:MLay} {m m1:MSt} {F:List Nat} {o:OpV} {got:Int} (h:MIn w x L m) (ho1:MOk2 m1) (hFl:∀ b∈F,b<w.heap.size) (hkd:o.kind=1)
  (hA:∀ W,Below w.heap.size w W→Calls Tryz.prog 76 #[.pointer (some ⟨x,0,none⟩),encO o] W fun e w'=>e=.returned (.tuple #[.int .i64 got,.int .i64 0])∧MDid W x F m1 w') :
  Calls Tryz.prog 31 #[.pointer (some ⟨x,0,none⟩),encO o] w fun e w'=>e=.returned (.tuple #[.int .i64 got,.int .i64 0])∧MDid w x F (riseM m1) w':=by
 have HM:=Lib.hid h
 obtain ⟨W0,hW0⟩:∃ W,W=w.alloc (.cells (cellsO o) 41):=⟨_,rfl⟩
 have hb0:Below w.heap.size w W0:=by rw [hW0];exact below_a _ _
 have B0:OpBox W0 w.heap.size o:=by rw [hW0];exact OpBox.new _ _ _
 have c7:=(h.below hb0).c7
 have HB0:=Lib.hid hb0
 unfold cellsO at hW0
 have HW0:=Lib.hid hW0
 have b0:=B0.c0
 rw [hkd] at b0
 have HBX:=Lib.hid B0
 have hA2:=hA
 unfold encO at hA2
 rw [hkd] at hA2
 have HA:=Lib.hid hA2
 have HO1:=Lib.hid ho1
 clear h hW0 hb0 B0 hkd hA hA2 ho1
 unfold encO
 go_enter Tryz.func31,Tryz.ntmps31
 go_upto_region 1 with fail
 rw [← HW0.out]
 go_upto_region 4 with fail
 obtain ⟨W1,hW1⟩:∃ W,W=W0.alloc (.cells #[.func (.func 76) #[.pointer (some ⟨x,0,none⟩)] #[],.func (.func 77) #[.pointer (some ⟨x,0,none⟩)] #[],.func (.func 78) #[.pointer (some ⟨x,0,none⟩)] #[],.func (.func 78) #[.pointer (some ⟨x,0,none⟩)] #[],.func (.func 79) #[.pointer (some ⟨x,0,none⟩)] #[],.func (.func 80) #[.pointer (some ⟨x,0,none⟩)] #[],.func (.func 81) #[.pointer (some ⟨x,0,none⟩)] #[],.func (.func 82) #[.pointer (some ⟨x,0,none⟩)] #[],.func (.func 83) #[.pointer (some ⟨x,0,none⟩)] #[],.func (.func 84) #[.pointer (some ⟨x,0,none⟩)] #[]] 50):=⟨_,rfl⟩
 rw [← hW1]
 have hb1:Below W0.heap.size W0 W1:=by rw [hW1];exact below_a _ _
 have s0:W1.cell? ⟨W0.heap.size,1 - 1,none⟩=some (.func (.func 76) #[.pointer (some ⟨x,0,none⟩)] #[]):=by rw [hW1];exact cell_nw W0 _ _ (1 - 1) _ rfl
 have HB1:=Lib.hid (Below.step HB0.out hb1)
 have B1:=HBX.out.later hb1
 replace b0:=cell_later hb1 b0
 have b1:=B1.c1
 have b2:=B1.c2
 have b3:=B1.c3
 have b4:=B1.c4
 have b5:=B1.c5
 have b6:=B1.c6
 have b7:=B1.c7
 have hd:Below W1.heap.size W1 W1.drew:=(Below.refl _ _).drew
 have AF:=Lib.hid (HA.out W1.drew (Below.step HB1.out hd))
 obtain ⟨bl,hbl⟩:∃ b,b=W0.heap.size:=⟨_,rfl⟩
 rw [← hbl] at s0 ⊢
 have nb:bl∉F:=fun q=>by have:=hFl _ q;have:=HB0.out.size;omega
 have nw:w.heap.size∉F:=fun q=>by have:=hFl _ q;omega
 clear hb1 hW1 B1 hd hbl c7 hFl
 simp only [Nat.reduceSub] at s0
 go_upto_region 6 with fail
 have zk:IntKind.u8.wrap 0=0:=by decide
 refine startA (S:=fun w'=>Kept F W1 w'∧w'.cell? ⟨bl,0,none⟩=some (.func (.func 76) #[.pointer (some ⟨x,0,none⟩)] #[])∧w'.cell? ⟨w.heap.size,0,none⟩=some (.int .u8 1)∧w'.cell? ⟨w.heap.size,1,none⟩=some (.int .i64 o.cpu)∧w'.cell? ⟨w.heap.size,2,none⟩=some (.int .i64 o.task)∧w'.cell? ⟨w.heap.size,3,none⟩=some (.int .i64 o.group)∧w'.cell? ⟨w.heap.size,4,none⟩=some (.int .i64 o.weight)∧w'.cell? ⟨w.heap.size,5,none⟩=some (.int .i64 o.dst)∧w'.cell? ⟨w.heap.size,6,none⟩=some (.int .i64 o.ticks)∧w'.cell? ⟨w.heap.size,7,none⟩=some (.int .u64 o.mask)) ⟨Kept.refl _ _,s0,b0,b1,b2,b3,b4,b5,b6,b7⟩ (fun h=>heldK_9 (kept_dr _ _) h) (fun hS0 hHeld=>?_)
 refine takeA 0 ?_
 refine takeA 1 ?_
 refine takeA 2 ?_
 refine takeA 3 ?_
 refine takeA 4 ?_
 refine takeA 5 ?_
 refine takeA 6 ?_
 refine readyA [7] (consA (fun K hK=>?_) .nil)
 go_simp
 refine AF.out.mono ?_
 rintro e w6 ⟨rfl,hd6⟩
 have hk6:Kept F W1.drew w6:=by obtain ⟨_,_,q,_⟩:=hd6;exact q
 go_wp2_with fail
 refine outA hK kpK_9 (fun hHeld7=>?_)
 clear hK K
 refine takeA 8 ?_
 refine takeA 9 ?_
 refine takeA 10 ?_
 refine takeA 11 ?_
 refine takeA 12 ?_
 refine doneA ?_
 obtain ⟨L6,h6,hk6b,hl6⟩:=hd6
 have AR:=Lib.hid (mrise_at (F:=L6.all w6.heap.size) h6 HO1.out h6.all_mem)
 have H6:=Lib.hid h6
 have HKW:=Lib.hid (((Kept.of (S:=F) HB1.out).drew).trans hk6b)
 have HL6:=Lib.hid (show ∀ b,L6.lab b≠(0,0)→b∈F∨w.heap.size≤b from fun b q=>(hl6 b q).imp_right fun r=>Nat.le_trans (Nat.le_trans HB1.out.size (Nat.le_refl _)) r)
 clear hS0 hHeld hHeld7 h6 hk6 hk6b hl6 s0 b0 b1 b2 b3 b4 b5 b6 b7 nb nw AF zk
 go_wp2_with fail
 refine AR.out.mono ?_;rintro e w7 ⟨rfl,h7,hk7⟩
 have HD:=Lib.hid (MDid.rose H6.out HKW.out HL6.out h7 hk7)
 clear h7 hk7
 go_wp2_with fail
 exact bodyPost_ret (v:=.tuple #[.int .i64 got,.int .i64 0]) (by simp [results,Tryz.results31,go_sem]) rfl ⟨rfl,HD.out⟩
set_option maxRecDepth 100000 in
set_option maxHeartbeats 2000000 in
theorem mdo5_at {w:World} {x:Nat} {L:MLay} {m m1:MSt} {F:List Nat} {o:OpV} {got:Int} (h:MIn w x L m) (ho1:MOk2 m1) (hFl:∀ b∈F,b<w.heap.size) (hkd:o.kind=5)
  (hA:∀ W,Below w.heap.size w W→Calls Tryz.prog 79 #[.pointer (some ⟨x,0,none⟩),encO o] W fun e w'=>e=.returned (.tuple #[.int .i64 got,.int .i64 0])∧MDid W x F m1 w') :
  Calls Tryz.prog 31 #[.pointer (some ⟨x,0,none⟩),encO o] w fun e w'=>e=.returned (.tuple #[.int .i64 got,.int .i64 0])∧MDid w x F (riseM m1) w':=by
 have HM:=Lib.hid h
 obtain ⟨W0,hW0⟩:∃ W,W=w.alloc (.cells (cellsO o) 41):=⟨_,rfl⟩
 have hb0:Below w.heap.size w W0:=by rw [hW0];exact below_a _ _
 have B0:OpBox W0 w.heap.size o:=by rw [hW0];exact OpBox.new _ _ _
 have c7:=(h.below hb0).c7
 have HB0:=Lib.hid hb0
 unfold cellsO at hW0
 have HW0:=Lib.hid hW0
 have b0:=B0.c0
 rw [hkd] at b0
 have HBX:=Lib.hid B0
 have hA2:=hA
 unfold encO at hA2
 rw [hkd] at hA2
 have HA:=Lib.hid hA2
 have HO1:=Lib.hid ho1
 clear h hW0 hb0 B0 hkd hA hA2 ho1
 unfold encO
 go_enter Tryz.func31,Tryz.ntmps31
 go_upto_region 1 with fail
 rw [← HW0.out]
 go_upto_region 4 with fail
 obtain ⟨W1,hW1⟩:∃ W,W=W0.alloc (.cells #[.func (.func 76) #[.pointer (some ⟨x,0,none⟩)] #[],.func (.func 77) #[.pointer (some ⟨x,0,none⟩)] #[],.func (.func 78) #[.pointer (some ⟨x,0,none⟩)] #[],.func (.func 78) #[.pointer (some ⟨x,0,none⟩)] #[],.func (.func 79) #[.pointer (some ⟨x,0,none⟩)] #[],.func (.func 80) #[.pointer (some ⟨x,0,none⟩)] #[],.func (.func 81) #[.pointer (some ⟨x,0,none⟩)] #[],.func (.func 82) #[.pointer (some ⟨x,0,none⟩)] #[],.func (.func 83) #[.pointer (some ⟨x,0,none⟩)] #[],.func (.func 84) #[.pointer (some ⟨x,0,none⟩)] #[]] 50):=⟨_,rfl⟩
 rw [← hW1]
 have hb1:Below W0.heap.size W0 W1:=by rw [hW1];exact below_a _ _
 have s0:W1.cell? ⟨W0.heap.size,5 - 1,none⟩=some (.func (.func 79) #[.pointer (some ⟨x,0,none⟩)] #[]):=by rw [hW1];exact cell_nw W0 _ _ (5 - 1) _ rfl
 have HB1:=Lib.hid (Below.step HB0.out hb1)
 have B1:=HBX.out.later hb1
 replace b0:=cell_later hb1 b0
 have b1:=B1.c1
 have b2:=B1.c2
 have b3:=B1.c3
 have b4:=B1.c4
 have b5:=B1.c5
 have b6:=B1.c6
 have b7:=B1.c7
 have hd:Below W1.heap.size W1 W1.drew:=(Below.refl _ _).drew
 have AF:=Lib.hid (HA.out W1.drew (Below.step HB1.out hd))
 obtain ⟨bl,hbl⟩:∃ b,b=W0.heap.size:=⟨_,rfl⟩
 rw [← hbl] at s0 ⊢
 have nb:bl∉F:=fun q=>by have:=hFl _ q;have:=HB0.out.size;omega
 have nw:w.heap.size∉F:=fun q=>by have:=hFl _ q;omega
 clear hb1 hW1 B1 hd hbl c7 hFl
 simp only [Nat.reduceSub] at s0
 go_upto_region 6 with fail
 have zk:IntKind.u8.wrap 4=4:=by decide
 refine startA (S:=fun w'=>Kept F W1 w'∧w'.cell? ⟨bl,4,none⟩=some (.func (.func 79) #[.pointer (some ⟨x,0,none⟩)] #[])∧w'.cell? ⟨w.heap.size,0,none⟩=some (.int .u8 5)∧w'.cell? ⟨w.heap.size,1,none⟩=some (.int .i64 o.cpu)∧w'.cell? ⟨w.heap.size,2,none⟩=some (.int .i64 o.task)∧w'.cell? ⟨w.heap.size,3,none⟩=some (.int .i64 o.group)∧w'.cell? ⟨w.heap.size,4,none⟩=some (.int .i64 o.weight)∧w'.cell? ⟨w.heap.size,5,none⟩=some (.int .i64 o.dst)∧w'.cell? ⟨w.heap.size,6,none⟩=some (.int .i64 o.ticks)∧w'.cell? ⟨w.heap.size,7,none⟩=some (.int .u64 o.mask)) ⟨Kept.refl _ _,s0,b0,b1,b2,b3,b4,b5,b6,b7⟩ (fun h=>heldK_9 (kept_dr _ _) h) (fun hS0 hHeld=>?_)
 refine takeA 0 ?_
 refine takeA 1 ?_
 refine takeA 2 ?_
 refine takeA 3 ?_
 refine takeA 4 ?_
 refine takeA 5 ?_
 refine takeA 6 ?_
 refine readyA [7] (consA (fun K hK=>?_) .nil)
 go_simp
 refine AF.out.mono ?_
 rintro e w6 ⟨rfl,hd6⟩
 have hk6:Kept F W1.drew w6:=by obtain ⟨_,_,q,_⟩:=hd6;exact q
 go_wp2_with fail
 refine outA hK kpK_9 (fun hHeld7=>?_)
 clear hK K
 refine takeA 8 ?_
 refine takeA 9 ?_
 refine takeA 10 ?_
 refine takeA 11 ?_
 refine takeA 12 ?_
 refine doneA ?_
 obtain ⟨L6,h6,hk6b,hl6⟩:=hd6
 have AR:=Lib.hid (mrise_at (F:=L6.all w6.heap.size) h6 HO1.out h6.all_mem)
 have H6:=Lib.hid h6
 have HKW:=Lib.hid (((Kept.of (S:=F) HB1.out).drew).trans hk6b)
 have HL6:=Lib.hid (show ∀ b,L6.lab b≠(0,0)→b∈F∨w.heap.size≤b from fun b q=>(hl6 b q).imp_right fun r=>Nat.le_trans (Nat.le_trans HB1.out.size (Nat.le_refl _)) r)
 clear hS0 hHeld hHeld7 h6 hk6 hk6b hl6 s0 b0 b1 b2 b3 b4 b5 b6 b7 nb nw AF zk
 go_wp2_with fail
 refine AR.out.mono ?_;rintro e w7 ⟨rfl,h7,hk7⟩
 have HD:=Lib.hid (MDid.rose H6.out HKW.out HL6.out h7 hk7)
 clear h7 hk7
 go_wp2_with fail
 exact bodyPost_ret (v:=.tuple #[.int .i64 got,.int .i64 0]) (by simp [results,Tryz.results31,go_sem]) rfl ⟨rfl,HD.out⟩
set_option maxRecDepth 100000 in
set_option maxHeartbeats 2000000 in
theorem mdo6_at {w:World} {x:Nat} {L:MLay} {m m1:MSt} {F:List Nat} {o:OpV} {got:Int} (h:MIn w x L m) (ho1:MOk2 m1) (hFl:∀ b∈F,b<w.heap.size) (hkd:o.kind=6)
  (hA:∀ W,Below w.heap.size w W→Calls Tryz.prog 80 #[.pointer (some ⟨x,0,none⟩),encO o] W fun e w'=>e=.returned (.tuple #[.int .i64 got,.int .i64 0])∧MDid W x F m1 w') :
  Calls Tryz.prog 31 #[.pointer (some ⟨x,0,none⟩),encO o] w fun e w'=>e=.returned (.tuple #[.int .i64 got,.int .i64 0])∧MDid w x F (riseM m1) w':=by
 have HM:=Lib.hid h
 obtain ⟨W0,hW0⟩:∃ W,W=w.alloc (.cells (cellsO o) 41):=⟨_,rfl⟩
 have hb0:Below w.heap.size w W0:=by rw [hW0];exact below_a _ _
 have B0:OpBox W0 w.heap.size o:=by rw [hW0];exact OpBox.new _ _ _
 have c7:=(h.below hb0).c7
 have HB0:=Lib.hid hb0
 unfold cellsO at hW0
 have HW0:=Lib.hid hW0
 have b0:=B0.c0
 rw [hkd] at b0
 have HBX:=Lib.hid B0
 have hA2:=hA
 unfold encO at hA2
 rw [hkd] at hA2
 have HA:=Lib.hid hA2
 have HO1:=Lib.hid ho1
 clear h hW0 hb0 B0 hkd hA hA2 ho1
 unfold encO
 go_enter Tryz.func31,Tryz.ntmps31
 go_upto_region 1 with fail
 rw [← HW0.out]
 go_upto_region 4 with fail
 obtain ⟨W1,hW1⟩:∃ W,W=W0.alloc (.cells #[.func (.func 76) #[.pointer (some ⟨x,0,none⟩)] #[],.func (.func 77) #[.pointer (some ⟨x,0,none⟩)] #[],.func (.func 78) #[.pointer (some ⟨x,0,none⟩)] #[],.func (.func 78) #[.pointer (some ⟨x,0,none⟩)] #[],.func (.func 79) #[.pointer (some ⟨x,0,none⟩)] #[],.func (.func 80) #[.pointer (some ⟨x,0,none⟩)] #[],.func (.func 81) #[.pointer (some ⟨x,0,none⟩)] #[],.func (.func 82) #[.pointer (some ⟨x,0,none⟩)] #[],.func (.func 83) #[.pointer (some ⟨x,0,none⟩)] #[],.func (.func 84) #[.pointer (some ⟨x,0,none⟩)] #[]] 50):=⟨_,rfl⟩
 rw [← hW1]
 have hb1:Below W0.heap.size W0 W1:=by rw [hW1];exact below_a _ _
 have s0:W1.cell? ⟨W0.heap.size,6 - 1,none⟩=some (.func (.func 80) #[.pointer (some ⟨x,0,none⟩)] #[]):=by rw [hW1];exact cell_nw W0 _ _ (6 - 1) _ rfl
 have HB1:=Lib.hid (Below.step HB0.out hb1)
 have B1:=HBX.out.later hb1
 replace b0:=cell_later hb1 b0
 have b1:=B1.c1
 have b2:=B1.c2
 have b3:=B1.c3
 have b4:=B1.c4
 have b5:=B1.c5
 have b6:=B1.c6
 have b7:=B1.c7
 have hd:Below W1.heap.size W1 W1.drew:=(Below.refl _ _).drew
 have AF:=Lib.hid (HA.out W1.drew (Below.step HB1.out hd))
 obtain ⟨bl,hbl⟩:∃ b,b=W0.heap.size:=⟨_,rfl⟩
 rw [← hbl] at s0 ⊢
 have nb:bl∉F:=fun q=>by have:=hFl _ q;have:=HB0.out.size;omega
 have nw:w.heap.size∉F:=fun q=>by have:=hFl _ q;omega
 clear hb1 hW1 B1 hd hbl c7 hFl
 simp only [Nat.reduceSub] at s0
 go_upto_region 6 with fail
 have zk:IntKind.u8.wrap 5=5:=by decide
 refine startA (S:=fun w'=>Kept F W1 w'∧w'.cell? ⟨bl,5,none⟩=some (.func (.func 80) #[.pointer (some ⟨x,0,none⟩)] #[])∧w'.cell? ⟨w.heap.size,0,none⟩=some (.int .u8 6)∧w'.cell? ⟨w.heap.size,1,none⟩=some (.int .i64 o.cpu)∧w'.cell? ⟨w.heap.size,2,none⟩=some (.int .i64 o.task)∧w'.cell? ⟨w.heap.size,3,none⟩=some (.int .i64 o.group)∧w'.cell? ⟨w.heap.size,4,none⟩=some (.int .i64 o.weight)∧w'.cell? ⟨w.heap.size,5,none⟩=some (.int .i64 o.dst)∧w'.cell? ⟨w.heap.size,6,none⟩=some (.int .i64 o.ticks)∧w'.cell? ⟨w.heap.size,7,none⟩=some (.int .u64 o.mask)) ⟨Kept.refl _ _,s0,b0,b1,b2,b3,b4,b5,b6,b7⟩ (fun h=>heldK_9 (kept_dr _ _) h) (fun hS0 hHeld=>?_)
 refine takeA 0 ?_
 refine takeA 1 ?_
 refine takeA 2 ?_
 refine takeA 3 ?_
 refine takeA 4 ?_
 refine takeA 5 ?_
 refine takeA 6 ?_
 refine readyA [7] (consA (fun K hK=>?_) .nil)
 go_simp
 refine AF.out.mono ?_
 rintro e w6 ⟨rfl,hd6⟩
 have hk6:Kept F W1.drew w6:=by obtain ⟨_,_,q,_⟩:=hd6;exact q
 go_wp2_with fail
 refine outA hK kpK_9 (fun hHeld7=>?_)
 clear hK K
 refine takeA 8 ?_
 refine takeA 9 ?_
 refine takeA 10 ?_
 refine takeA 11 ?_
 refine takeA 12 ?_
 refine doneA ?_
 obtain ⟨L6,h6,hk6b,hl6⟩:=hd6
 have AR:=Lib.hid (mrise_at (F:=L6.all w6.heap.size) h6 HO1.out h6.all_mem)
 have H6:=Lib.hid h6
 have HKW:=Lib.hid (((Kept.of (S:=F) HB1.out).drew).trans hk6b)
 have HL6:=Lib.hid (show ∀ b,L6.lab b≠(0,0)→b∈F∨w.heap.size≤b from fun b q=>(hl6 b q).imp_right fun r=>Nat.le_trans (Nat.le_trans HB1.out.size (Nat.le_refl _)) r)
 clear hS0 hHeld hHeld7 h6 hk6 hk6b hl6 s0 b0 b1 b2 b3 b4 b5 b6 b7 nb nw AF zk
 go_wp2_with fail
 refine AR.out.mono ?_;rintro e w7 ⟨rfl,h7,hk7⟩
 have HD:=Lib.hid (MDid.rose H6.out HKW.out HL6.out h7 hk7)
 clear h7 hk7
 go_wp2_with fail
 exact bodyPost_ret (v:=.tuple #[.int .i64 got,.int .i64 0]) (by simp [results,Tryz.results31,go_sem]) rfl ⟨rfl,HD.out⟩
end Go.Proofs.YtapnaocdehahdaaGreat
