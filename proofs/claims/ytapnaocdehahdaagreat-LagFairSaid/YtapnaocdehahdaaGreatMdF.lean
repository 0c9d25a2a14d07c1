/-
  Layer 30 (model): put, pick.
-/
import Derived.Test.YtapnaocdehahdaaGreatMdE
import Derived.Test.YtapnaocdehahdaaGreatSchKa
namespace Go.Proofs.YtapnaocdehahdaaGreat
open Go.RowKit Go.Maps Go.IntWalk Go.Lib
set_option linter.unusedVariables false
set_option linter.unusedSimpArgs false
theorem OpBox.kept {G:List Nat} {w w':World} {b:Nat} {o:OpV} (h:OpBox w b o) (hk:Kept G w w') (hb:b∉G):OpBox w' b o:=
 ⟨hk.cellAt h.c0 hb,hk.cellAt h.c1 hb,hk.cellAt h.c2 hb,hk.cellAt h.c3 hb,hk.cellAt h.c4 hb,hk.cellAt h.c5 hb,hk.cellAt h.c6 hb,hk.cellAt h.c7 hb⟩
structure EBox (w:World) (b:Nat) (x:Ent):Prop where
 c0:w.cell? ⟨b,0,none⟩=some (.int .u64 x.1)
 c1:w.cell? ⟨b,1,none⟩=some (.int .u32 x.2.1)
 c2:w.cell? ⟨b,2,none⟩=some (.int .u32 x.2.2)
 z:∀ j,w.frozen? ⟨b,j,none⟩=false
theorem EBox.lt {w:World} {b:Nat} {x:Ent} (h:EBox w b x):b<w.heap.size:=lt_of_cell h.c0
theorem EBox.new (w:World) (t:TypeId):EBox (w.alloc (.cells #[.int .u64 0,.int .u32 0,.int .u32 0] t)) w.heap.size (0,0,0):=⟨cell_nw w _ _ 0 _ rfl,cell_nw w _ _ 1 _ rfl,cell_nw w _ _ 2 _ rfl,fun j=>frz_nw w _ _ j⟩
theorem EBox.later {w w':World} {b:Nat} {x:Ent} (h:EBox w b x) (hb:Below w.heap.size w w'):EBox w' b x:=⟨cell_later hb h.c0,cell_later hb h.c1,cell_later hb h.c2,fun j=>frz_later hb (h.z j) h.lt⟩
theorem EBox.set {w:World} {b:Nat} {x:Ent} (h:EBox w b x) (y:Ent):EBox (set3 w b 0 y) b y:=by
 unfold set3
 exact ⟨cell_set_ne (cell_set_ne (cell_set_eq h.c0) (Or.inr (by decide))) (Or.inr (by decide)),cell_set_ne (cell_set_eq (cell_set_ne h.c1 (Or.inr (by decide)))) (Or.inr (by decide)),cell_set_eq (cell_set_ne (cell_set_ne h.c2 (Or.inr (by decide))) (Or.inr (by decide))),fun j=>by simpa using h.z j⟩
theorem set3_below {B:Nat} {w0 w:World} {b o:Nat} {y:Ent} (h:Below B w0 w) (hb:B≤b):Below B w0 (set3 w b o y):=((h.setCell hb _).setCell hb _).setCell hb _
def put3 (w:World) (b o:Nat) (v r k:Int):World:=((w.setCell ⟨b,o+6,none⟩ (.int .u64 v)).setCell ⟨b,o+7,none⟩ (.int .u32 r)).setCell ⟨b,o+2,none⟩ (.int .i64 k)
set_option maxRecDepth 100000 in
theorem mput_at {w:World} {b o:Nat} {u6 u7 u2:Value} (v r k:Int) (hk:0≤k∧k≤4294967295) (c6:w.cell? ⟨b,o+6,none⟩=some u6) (c7:w.cell? ⟨b,o+7,none⟩=some u7) (c2:w.cell? ⟨b,o+2,none⟩=some u2) (z:∀ j,w.frozen? ⟨b,j,none⟩=false) :
  Calls Tryz.prog 150 #[.pointer (some ⟨b,o,none⟩),.agg #[.int .u64 v,.int .u32 r,.int .u32 k]] w fun e w'=>e=.returned (.tuple #[])∧∃ W,Below w.heap.size w W∧w'=put3 W b o v r k:=by
 have hlt:=lt_of_cell c6
 have zk:IntKind.i64.wrap k=k:=IntWalk.i64_in _ (by omega)
 obtain ⟨W1,hW1⟩:∃ W,W=w.alloc (.cells #[.int .u64 v,.int .u32 r,.int .u32 k] 107):=⟨_,rfl⟩
 have hb1:Below w.heap.size w W1:=by rw [hW1];exact below_a _ _
 have y0:W1.cell? ⟨w.heap.size,0,none⟩=some (.int .u64 v):=by rw [hW1];exact cell_nw w _ _ 0 _ rfl
 have y1:W1.cell? ⟨w.heap.size,1,none⟩=some (.int .u32 r):=by rw [hW1];exact cell_nw w _ _ 1 _ rfl
 have y2:W1.cell? ⟨w.heap.size,2,none⟩=some (.int .u32 k):=by rw [hW1];exact cell_nw w _ _ 2 _ rfl
 have f6:=frz_later hb1 (z (o+6)) hlt
 have f7:=frz_later hb1 (z (o+7)) hlt
 have f2:=frz_later hb1 (z (o+2)) hlt
 replace c6:=cell_later hb1 c6
 replace c7:=cell_later hb1 c7
 replace c2:=cell_later hb1 c2
 have HB1:=Lib.hid hb1
 have HW1:=Lib.hid hW1
 clear z hk hb1 hW1
 go_enter Tryz.func150,Tryz.ntmps150
 go_upto_region 1 with fail
 rw [← HW1.out]
 go_region
 go_wp2_with fail
 refine bodyPost_end (v:=.tuple #[]) (by simp [results,Tryz.results150,go_sem]) rfl ⟨rfl,W1.drew,HB1.out.drew,?_⟩
 rfl
set_option maxRecDepth 100000 in
set_option maxHeartbeats 1000000 in
theorem mpick_at {w:World} {x c:Nat} {L:MLay} {m:MSt} {F:List Nat} {o:OpV} (h:MIn w x L m) (ho:MOk2 m) (hF:∀ b,L.lab b≠(0,0)→b∈F) (hk:o.cpu=(c:Int)) (hc:c<m.C) :
  Calls Tryz.prog 80 #[.pointer (some ⟨x,0,none⟩),encO o] w fun e w'=>e=.returned (.tuple #[.int .i64 (firstM m.sta c),.int .i64 0])∧MIn w' x L { m with cu:=upd m.cu c (firstM m.sta c) }∧Kept F w w':=by
 have HM:=Lib.hid h
 have HO:=Lib.hid ho
 have HF:=Lib.hid hF
 obtain ⟨W0,hW0⟩:∃ W,W=w.alloc (.cells (cellsO o) 41):=⟨_,rfl⟩
 have hb0:Below w.heap.size w W0:=by rw [hW0];exact below_a _ _
 have B0:OpBox W0 w.heap.size o:=by rw [hW0];exact OpBox.new _ _ _
 have h0:=h.below hb0
 have HB0:=Lib.hid hb0
 unfold cellsO at hW0
 have HW0:=Lib.hid hW0
 clear hW0
 have b1:=B0.c1
 rw [hk] at b1
 obtain ⟨c4,q1,q2,x4⟩:=h0.c4
 have u4:=h0.cu.c c hc
 have f4:=h0.cu.z c
 have hlu:=h0.cu.lt
 have hnu:L.u∈F:=hF _ (by rw [h.lu];simp)
 have A1:=Lib.hid (mcpu_at (c:Int) h0)
 rw [show hasV (m.C:Int) (c:Int)=true from decide_eq_true ⟨by omega,by omega⟩] at A1
 have hd:Below W0.heap.size W0 W0.drew:=(Below.refl _ _).drew
 have A2:=Lib.hid (mfirst_at (h0.below hd) ho hc)
 obtain ⟨R,hR⟩:∃ R,R=firstM m.sta c:=⟨_,rfl⟩
 rw [← hR] at A2 ⊢
 have H0:=Lib.hid h0
 have HC:=Lib.hid hc
 have HNU:=Lib.hid hnu
 have hci:(c:Int)<(m.C:Int):=by omega
 have hbx:w.heap.size≠L.u:=by have:=h.lz L.u (by rw [h.lu];simp);omega
 have hxu:x≠L.u:=mlab_ne h.lx h.lu (by simp)
 clear h ho hF h0 hb0 B0 hk hd hR q1 q2 hc hnu
 unfold encO
 go_enter Tryz.func80,Tryz.ntmps80
 go_upto_region 1 with fail
 rw [← HW0.out]
 go_wp2_with fail
 refine A1.out.mono ?_;rintro e w5 ⟨rfl,rfl⟩
 go_wp2_with fail
 have hS0:Below W0.heap.size W0 W0.drew∧W0.drew.cell? ⟨x,4,none⟩=some (.slice (some ⟨L.u,0,none⟩) m.C c4)∧W0.drew.cell? ⟨w.heap.size,1,none⟩=some (.int .i64 c):=⟨Below.drew (Below.refl _ _),cell_dr x4,cell_dr b1⟩
 refine startU [12] (fun w'=>Below W0.heap.size W0 w'∧w'.cell? ⟨x,4,none⟩=some (.slice (some ⟨L.u,0,none⟩) m.C c4)∧w'.cell? ⟨w.heap.size,1,none⟩=some (.int .i64 c)) (by kernel_rfl) hS0 (fun hHeld=>?_)
 refine takeUw (i:=0) (v:=?v0_101) rfl (by kernel_rfl) (fun _ _ _ h=>h) (by rfl) ?hy0_101 (by assumption) ?rest0_101
 case hy0_101=>(intro w hSw;(try dsimp only at hSw);go_simp;try with_reducible rfl)
 try simp only [Act.put,List.setIfInBounds_toArray,List.set_cons_zero,List.set_cons_succ]
 refine takeUw (i:=1) (v:=?v1_102) rfl (by kernel_rfl) (fun _ _ _ h=>h) (by rfl) ?hy1_102 (by assumption) ?rest1_102
 case hy1_102=>(intro w hSw;(try dsimp only at hSw);go_simp;try with_reducible rfl)
 try simp only [Act.put,List.setIfInBounds_toArray,List.set_cons_zero,List.set_cons_succ]
 refine takeUw (i:=2) (v:=?v2_103) rfl (by kernel_rfl) (fun _ _ _ h=>h) (by rfl) ?hy2_103 (by assumption) ?rest2_103
 case hy2_103=>(intro w hSw;(try dsimp only at hSw);go_simp;try with_reducible rfl)
 try simp only [Act.put,List.setIfInBounds_toArray,List.set_cons_zero,List.set_cons_succ]
 refine takeUw (i:=3) (v:=?v3_104) rfl (by kernel_rfl) (fun _ _ _ h=>h) (by rfl) ?hy3_104 (by assumption) ?rest3_104
 case hy3_104=>(intro w hSw;(try dsimp only at hSw);go_simp;try with_reducible rfl)
 try simp only [Act.put,List.setIfInBounds_toArray,List.set_cons_zero,List.set_cons_succ]
 refine takeUw (i:=4) (v:=?v4_105) rfl (by kernel_rfl) (fun _ _ _ h=>h) (by rfl) ?hy4_105 (by assumption) ?rest4_105
 case hy4_105=>(intro w hSw;(try dsimp only at hSw);go_simp;try with_reducible rfl)
 try simp only [Act.put,List.setIfInBounds_toArray,List.set_cons_zero,List.set_cons_succ]
 refine takeUw (i:=5) (v:=?v5_106) rfl (by kernel_rfl) (fun _ _ _ h=>h) (by rfl) ?hy5_106 (by assumption) ?rest5_106
 case hy5_106=>(intro w hSw;(try dsimp only at hSw);go_simp;try with_reducible rfl)
 try simp only [Act.put,List.setIfInBounds_toArray,List.set_cons_zero,List.set_cons_succ]
 refine takeUw (i:=6) (v:=?v6_107) rfl (by kernel_rfl) (fun _ _ _ h=>h) (by rfl) ?hy6_107 (by assumption) ?rest6_107
 case hy6_107=>(intro w hSw;(try dsimp only at hSw);go_simp;try with_reducible rfl)
 try simp only [Act.put,List.setIfInBounds_toArray,List.set_cons_zero,List.set_cons_succ]
 refine takeUw (i:=7) (v:=?v7_108) rfl (by kernel_rfl) (fun _ _ _ h=>h) (by rfl) ?hy7_108 (by assumption) ?rest7_108
 case hy7_108=>(intro w hSw;(try dsimp only at hSw);go_simp;try with_reducible rfl)
 try simp only [Act.put,List.setIfInBounds_toArray,List.set_cons_zero,List.set_cons_succ]
 refine takeUw (i:=8) (v:=?v8_109) rfl (by kernel_rfl) (fun _ _ _ h=>h) (by rfl) ?hy8_109 (by assumption) ?rest8_109
 case hy8_109=>(intro w hSw;(try dsimp only at hSw);go_simp;try with_reducible rfl)
 try simp only [Act.put,List.setIfInBounds_toArray,List.set_cons_zero,List.set_cons_succ]
 refine takeUw (i:=9) (v:=?v9_110) rfl (by kernel_rfl) (fun _ _ _ h=>h) (by rfl) ?hy9_110 (by assumption) ?rest9_110
 case hy9_110=>(intro w hSw;(try dsimp only at hSw);go_simp;try with_reducible rfl)
 try simp only [Act.put,List.setIfInBounds_toArray,List.set_cons_zero,List.set_cons_succ]
 refine readyU (rs:=[10]) (by kernel_rfl) (by simp) ?_
 refine consU rfl (fun K hK=>?_) (nilU)
 go_simp
 refine A2.out.mono ?_
 rintro e w6 ⟨rfl,hb6⟩
 have e6:=cell_later hb6 (cell_dr u4)
 have g6:w6.frozen? ⟨L.u,c,none⟩=false:=frz_later hb6 f4 hlu
 have HB6:=Lib.hid hb6
 go_wp2_with fail
 refine hK.out _ _ ?_ (fun hHeld10=>?_)
 ·(first | assumption | (refine held_2 (by assumption) ?_;assumption) | (refine held_2 (below_ad _ _) ?_;assumption) | (refine held_2 (below_a _ _) ?_;assumption))
 clear hK K
 try simp only [Act.put,List.setIfInBounds_toArray,List.set_cons_zero,List.set_cons_succ]
 refine takeUw (i:=11) (v:=?v11_111) rfl (by kernel_rfl) (fun _ _ _ h=>h) (by rfl) ?hy11_111 (by assumption) ?rest11_111
 case hy11_111=>(intro w hSw;(try dsimp only at hSw);go_simp;try with_reducible rfl)
 try simp only [Act.put,List.setIfInBounds_toArray,List.set_cons_zero,List.set_cons_succ]
 refine readyU (rs:=[12]) (by kernel_rfl) (by simp) ?_
 refine consV rfl (by kernel_rfl) (fun K hK=>?_) (nilU)
 go_simp
 go_simp
 refine hK.out _ _ ?_
 clear hK K
 try simp only [Act.put,List.setIfInBounds_toArray,List.set_cons_zero,List.set_cons_succ]
 refine doneU (by kernel_rfl) ?_ _
 have HM7:=Lib.hid (((H0.out.below (Below.refl _ _).drew).below HB6.out).now HC.out R)
 have HK7:=Lib.hid ((((Kept.of (S:=F) HB0.out).drew).step HB6.out).setCell (p:=⟨L.u,c,none⟩) (Or.inl HNU.out) (.int .i64 R))
 have b1c:=cell_set_ne (u:=.int .i64 R) (o':=c) (cell_later hb6 (cell_dr b1)) (Or.inl hbx)
 obtain ⟨W7,hW7⟩:∃ W,W=w6.setCell ⟨L.u,c,none⟩ (.int .i64 R):=⟨_,rfl⟩
 rw [← hW7] at HM7 HK7 b1c ⊢
 obtain ⟨c4',q1',q2',x4'⟩:=HM7.out.c4
 replace x4':W7.cell? ⟨x,4,none⟩=some (.slice (some ⟨L.u,0,none⟩) m.C c4'):=x4'
 have u4':W7.cell? ⟨L.u,c,none⟩=some (.int .i64 R):=by have:=HM7.out.cu.c c HC.out;rwa [show ({ m with cu:=upd m.cu c R }:MSt).cu c=R from upd_same _ _ _] at this
 clear hS0 hHeld x4 u4 f4 b1 e6 g6 hb6 hW7 q1' q2' hlu
 go_wp2_with fail
 go_region
 go_wp2_with fail
 exact bodyPost_ret (v:=.tuple #[.int .i64 R,.int .i64 0]) (by simp [results,Tryz.results80,go_sem]) rfl ⟨rfl,HM7.out.below (Below.refl _ _).drew,HK7.out.drew⟩
end Go.Proofs.YtapnaocdehahdaaGreat
