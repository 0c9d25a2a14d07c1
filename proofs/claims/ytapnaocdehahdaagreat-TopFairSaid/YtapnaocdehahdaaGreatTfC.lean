/-
The walk of TopFair.
-/
import Derived.Test.YtapnaocdehahdaaGreatTfB
namespace Go.Proofs.YtapnaocdehahdaaGreat
open Go.RowKit Go.Maps Go.IntWalk Go.Lib
set_option linter.unusedVariables false
set_option linter.unusedSimpArgs false
instance inhOpV:Inhabited OpV:=⟨⟨0,0,0,0,0,0,0,0⟩⟩
theorem Made5N (n0 n1 n2 p0 p1 p2 p3 p4 v0 v1 v2 v3 v4:Int) (w:World) (h0:0≤n0∧n0≤255) (h1:0≤n1∧n1≤255) (h2:0≤n2∧n2≤4294967295)
  (hp:(0≤p0∧p0≤255)∧(0≤p1∧p1≤255)∧(0≤p2∧p2≤255)∧(0≤p3∧p3≤255)∧(0≤p4∧p4≤255)) (hv:(0≤v0∧v0≤65535)∧(0≤v1∧v1≤65535)∧(0≤v2∧v2≤65535)∧(0≤v3∧v3≤65535)∧(0≤v4∧v4≤65535)) :
  Calls Tryz.prog 14 #[.agg #[.int .u8 n0,.int .u8 n1,.int .u32 n2,.int .u8 p0,.int .u8 p1,.int .u8 p2,.int .u8 p3,.int .u8 p4,.int .u16 v0,.int .u16 v1,.int .u16 v2,.int .u16 v3,.int .u16 v4]] w (MadeN n0 w):=
 Made_n n0 n1 n2 (fiveL p0 p1 p2 p3 p4) (fiveL v0 v1 v2 v3 v4) w h0 h1 h2 (fiveL_in hp.1 hp.2.1 hp.2.2.1 hp.2.2.2.1 hp.2.2.2.2) (fiveL_in hv.1 hv.2.1 hv.2.2.1 hv.2.2.2.1 hv.2.2.2.2)
theorem infoBo:(Tryz.prog.info? 4).map (fun i=>(i.zero,i.size,i.bytes))=some (some (.bool false),1,1):=by kernel_rfl
theorem infoU8:(Tryz.prog.info? 34).map (fun i=>(i.zero,i.size,i.bytes))=some (some (.int .u64 0),1,8):=by kernel_rfl
theorem FRow.made' {α:Type} {K:α→Value} {n b:Nat} {t:TypeId} {z:α} {W:World} {V:World} (hV:V=W.alloc (.cells (madeCells #[K z] n) t)) (hb:b=W.heap.size):FRow K V b n (fun _=>z):=by
 subst hV
 exact FRow.made hb
theorem set_op {w:World} {b:Nat} {o:OpV} (h:OpBox w b o):OpBox ((w.setCell ⟨b,1,none⟩ (.int .i64 0)).setCell ⟨b,7,none⟩ (.int .u64 1)) b (oneO o):=
 ⟨cell_set_ne (cell_set_ne h.c0 (Or.inr (by decide))) (Or.inr (by decide)),cell_set_ne (cell_set_eq h.c1) (Or.inr (by decide)),cell_set_ne (cell_set_ne h.c2 (Or.inr (by decide))) (Or.inr (by decide)),cell_set_ne (cell_set_ne h.c3 (Or.inr (by decide))) (Or.inr (by decide)),cell_set_ne (cell_set_ne h.c4 (Or.inr (by decide))) (Or.inr (by decide)),cell_set_ne (cell_set_ne h.c5 (Or.inr (by decide))) (Or.inr (by decide)),cell_set_ne (cell_set_ne h.c6 (Or.inr (by decide))) (Or.inr (by decide)),cell_set_eq (cell_set_ne h.c7 (Or.inr (by decide)))⟩
theorem HeldR.adds {α:Type} {enc:α→List Value} {F:List Nat} {w:World} {v:Value} {L:List α} {b:Nat} (h:HeldR enc F w v L) (hb:w.heap.size≤b):HeldR enc (b::F) w v L:=h.add hb
theorem StaH.add {F:List Nat} {w:World} {v:Value} {σ:Sta} {b:Nat} (h:StaH F w v σ) (hb:w.heap.size≤b):StaH (b::F) w v σ:=by
 obtain ⟨vg,vl,vu,vt,vs,e,h1,h2,h3,h4,h5⟩:=h.is
 obtain ⟨l,q1,q2,q3⟩:=h5.rows
 exact ⟨vg,vl,vu,vt,vs,e,h1.add hb,h2.add hb,h3.add hb,h4.add hb,⟨l,q1,q2.add hb,fun i a x p r=>(q3 i a x p r).add hb⟩⟩
/-- State,for whoever has blocks of his own -/
theorem StateY_at {w:World} {x:Nat} {F:List Nat} {s:SSt} (h:SIn w x F s) (ho:SOk s):Calls Tryz.prog 16 #[.pointer (some ⟨x,0,none⟩)] w fun e w'=>∃ a0 k0 a1 k1 a2 k2 a3 k3 a4 k4,e=.returned (.tuple #[.agg #[.int .i64 s.C,.int .u64 s.cr,.slice a0 s.n k0,.slice a1 s.C k1,.slice a2 s.C k2,.slice a3 s.c k3,.slice a4 s.n k4],.int .i64 0])∧(∀ G:List Nat,(∀ b∈G,b<w.heap.size)→StaH G w' (.agg #[.int .i64 s.C,.int .u64 s.cr,.slice a0 s.n k0,.slice a1 s.C k1,.slice a2 s.C k2,.slice a3 s.c k3,.slice a4 s.n k4]) (staOf s))∧Below w.heap.size w w':=by
 obtain ⟨L,q,hL⟩:=h
 refine (State_at q ho).mono ?_
 rintro e w' ⟨v,rfl,h1,h2⟩
 have h3:=h1 [] (fun b q=>by cases q)
 obtain ⟨vg,vl,vu,vt,vs,e,g1,l1,u1,t1,s1⟩:=h3.is
 obtain ⟨r1,r2,r3,-⟩:=s1.rows
 obtain ⟨a0,k0,e0,-⟩:=g1
 obtain ⟨a1,k1,e1,-⟩:=l1
 obtain ⟨a2,k2,e2,-⟩:=u1
 obtain ⟨a3,k3,e3,-⟩:=t1
 obtain ⟨a4,k4,e4,-⟩:=r3
 rw [staOf_cl] at e1
 rw [staOf_cu] at e2
 rw [staOf_ts ho] at e3
 rw [r2,staOf_sp] at e4
 replace e0:vg=.slice a0 s.n k0:=e0
 replace e:v=.agg #[.int .i64 s.C,.int .u64 s.cr,vg,vl,vu,vt,vs]:=e
 subst e e0 e1 e2 e3 e4
 exact ⟨a0,k0,a1,k1,a2,k2,a3,k3,a4,k4,rfl,h1,h2⟩
/-- one element of the turns -/
theorem u16_cell {w:World} {s:Option Addr} {l c:Nat} {F:Nat→Nat→Value} (h:PlainRow [some .u16] w s l c F) {k:Nat} (hk:k<l):∃ b off,s=some ⟨b,off,none⟩∧∃ a:Int,(0≤a∧a≤65535)∧w.cell? ⟨b,off+k,none⟩=some (.int .u16 a):=by
 rcases h with ⟨rfl,rfl,rfl⟩ | ⟨rfl,hc,x,rfl⟩ | ⟨h0,hl,hm,b,off,rfl,hc⟩
 ·omega
 ·omega
 ·obtain ⟨e,a,q,w⟩:=hc k hk 0 (some .u16) rfl
  rw [q] at e
  refine ⟨b,off,rfl,a,xf16 w,?_⟩
  have e2:off+k*([some IntKind.u16]:List (Option IntKind)).length+0=off+k:=by simp
  rw [e2] at e
  exact e
/-- from turn to turn -/
structure TrI (w:World) (x:Nat) (s0:SSt) (b12 bb bi ba j:Nat) (wr:World) (s:SSt) (F:List Nat) (A:Nat→Int):Prop where
 tf:Tf s0 s j
 xw:XW w x s wr F
 st:∃ C cr v0 v1 v2 v3 v4,StB wr b12 C cr v0 v1 v2 v3 v4
 hb:FRow Value.bool wr bb s0.n (BF s0)
 hi:FRow (Value.int .i64) wr bi s0.n (LF s0)
 ha:FRow (Value.int .u64) wr ba s0.n A
 ap:∀ g,g<s0.n→sprV s g≤A g∧0≤A g∧A g≤18446744073709551615
 f1:b12∉F
 f2:bb∉F
 f3:bi∉F
 f4:ba∉F
set_option maxRecDepth 100000 in
set_option maxHeartbeats 8000000 in
theorem TopFair_true (a0_0:Int) (a0_1:Int) (a0_2:Int) (a0_3:Int) (a0_4:Int) (a0_5:Int) (a0_6:Int) (a0_7:Int) (a0_8:Int) (a0_9:Int) (a0_10:Int) (a0_11:Int) (a0_12:Int) (s1:Option Addr) (l1 c1:Nat) (F1:Nat→Nat→Value) (s2:Option Addr) (l2 c2:Nat) (F2:Nat→Nat→Value) (w:World) (g0_0:(Lit.int .u8 a0_0).wf=true) (g0_1:(Lit.int .u8 a0_1).wf=true) (g0_2:(Lit.int .u32 a0_2).wf=true) (g0_3:(Lit.int .u8 a0_3).wf=true) (g0_4:(Lit.int .u8 a0_4).wf=true) (g0_5:(Lit.int .u8 a0_5).wf=true) (g0_6:(Lit.int .u8 a0_6).wf=true) (g0_7:(Lit.int .u8 a0_7).wf=true) (g0_8:(Lit.int .u16 a0_8).wf=true) (g0_9:(Lit.int .u16 a0_9).wf=true) (g0_10:(Lit.int .u16 a0_10).wf=true) (g0_11:(Lit.int .u16 a0_11).wf=true) (g0_12:(Lit.int .u16 a0_12).wf=true) (r1:PlainRow scK w s1 l1 c1 F1) (r2:PlainRow [some .u16] w s2 l2 c2 F2) :
  Calls Tryz.prog 10 #[.agg #[.int .u8 a0_0,.int .u8 a0_1,.int .u32 a0_2,.int .u8 a0_3,.int .u8 a0_4,.int .u8 a0_5,.int .u8 a0_6,.int .u8 a0_7,.int .u16 a0_8,.int .u16 a0_9,.int .u16 a0_10,.int .u16 a0_11,.int .u16 a0_12],.slice s1 l1 c1,.slice s2 l2 c2] w fun e w'=>e=.returned (.bool true)∧Below w.heap.size w w':=by
 have A1:=Lib.hid fun W=>Made5N 0 a0_1 a0_2 a0_3 a0_4 a0_5 a0_6 a0_7 a0_8 a0_9 a0_10 a0_11 a0_12 W (by decide) (wf_u8 g0_1) (xf32 g0_2) ⟨wf_u8 g0_3,wf_u8 g0_4,wf_u8 g0_5,wf_u8 g0_6,wf_u8 g0_7⟩ ⟨xf16 g0_8,xf16 g0_9,xf16 g0_10,xf16 g0_11,xf16 g0_12⟩
 have R1:=Lib.hid r1
 have R2:=Lib.hid r2
 obtain ⟨hle,hmax,hnn⟩:=srow_le r2
 obtain ⟨mt,hmt⟩:∃ m,m=min l2 80:=⟨_,rfl⟩
 have e0:min (l2:Int) 80=(mt:Int):=by omega
 have hml:mt≤l2:=by omega
 have hm80:mt≤80:=by omega
 have hmc:(mt:Int)≤(c2:Int):=by omega
 have hmc2:mt≤c2:=by omega
 obtain ⟨ii,qi,qz0,qz1,qz2⟩:=info_parts infoI
 obtain ⟨ib,bi0,bz0,bz1,bz2⟩:=info_parts infoBo
 obtain ⟨iu,ui,uz0,uz1,uz2⟩:=info_parts infoU8
 obtain ⟨W0,hW0⟩:∃ W,W=w.alloc (.cells #[.int .u8 a0_0,.int .u8 a0_1,.int .u32 a0_2,.int .u8 a0_3,.int .u8 a0_4,.int .u8 a0_5,.int .u8 a0_6,.int .u8 a0_7,.int .u16 a0_8,.int .u16 a0_9,.int .u16 a0_10,.int .u16 a0_11,.int .u16 a0_12] 27):=⟨_,rfl⟩
 have n0:W0.cell? ⟨w.heap.size,0,none⟩=some (.int .u8 a0_0):=by rw [hW0];exact cell_nw w _ _ 0 _ rfl
 have n1:W0.cell? ⟨w.heap.size,1,none⟩=some (.int .u8 a0_1):=by rw [hW0];exact cell_nw w _ _ 1 _ rfl
 have n2:W0.cell? ⟨w.heap.size,2,none⟩=some (.int .u32 a0_2):=by rw [hW0];exact cell_nw w _ _ 2 _ rfl
 have n3:W0.cell? ⟨w.heap.size,3,none⟩=some (.int .u8 a0_3):=by rw [hW0];exact cell_nw w _ _ 3 _ rfl
 have n4:W0.cell? ⟨w.heap.size,4,none⟩=some (.int .u8 a0_4):=by rw [hW0];exact cell_nw w _ _ 4 _ rfl
 have n5:W0.cell? ⟨w.heap.size,5,none⟩=some (.int .u8 a0_5):=by rw [hW0];exact cell_nw w _ _ 5 _ rfl
 have n6:W0.cell? ⟨w.heap.size,6,none⟩=some (.int .u8 a0_6):=by rw [hW0];exact cell_nw w _ _ 6 _ rfl
 have n7:W0.cell? ⟨w.heap.size,7,none⟩=some (.int .u8 a0_7):=by rw [hW0];exact cell_nw w _ _ 7 _ rfl
 have n8:W0.cell? ⟨w.heap.size,8,none⟩=some (.int .u16 a0_8):=by rw [hW0];exact cell_nw w _ _ 8 _ rfl
 have n9:W0.cell? ⟨w.heap.size,9,none⟩=some (.int .u16 a0_9):=by rw [hW0];exact cell_nw w _ _ 9 _ rfl
 have n10:W0.cell? ⟨w.heap.size,10,none⟩=some (.int .u16 a0_10):=by rw [hW0];exact cell_nw w _ _ 10 _ rfl
 have n11:W0.cell? ⟨w.heap.size,11,none⟩=some (.int .u16 a0_11):=by rw [hW0];exact cell_nw w _ _ 11 _ rfl
 have n12:W0.cell? ⟨w.heap.size,12,none⟩=some (.int .u16 a0_12):=by rw [hW0];exact cell_nw w _ _ 12 _ rfl
 have nf:W0.frozen? ⟨w.heap.size,0,none⟩=false:=by rw [hW0];exact frz_nw _ _ _ 0
 obtain ⟨W1,hW1⟩:∃ W,W=W0.setCell ⟨w.heap.size,0,none⟩ (.int .u8 0):=⟨_,rfl⟩
 have m0:W1.cell? ⟨w.heap.size,0,none⟩=some (.int .u8 0):=by rw [hW1];exact cell_set_eq n0
 have m1:W1.cell? ⟨w.heap.size,1,none⟩=some (.int .u8 a0_1):=by rw [hW1];exact cell_set_ne n1 (Or.inr (by decide))
 have m2:W1.cell? ⟨w.heap.size,2,none⟩=some (.int .u32 a0_2):=by rw [hW1];exact cell_set_ne n2 (Or.inr (by decide))
 have m3:W1.cell? ⟨w.heap.size,3,none⟩=some (.int .u8 a0_3):=by rw [hW1];exact cell_set_ne n3 (Or.inr (by decide))
 have m4:W1.cell? ⟨w.heap.size,4,none⟩=some (.int .u8 a0_4):=by rw [hW1];exact cell_set_ne n4 (Or.inr (by decide))
 have m5:W1.cell? ⟨w.heap.size,5,none⟩=some (.int .u8 a0_5):=by rw [hW1];exact cell_set_ne n5 (Or.inr (by decide))
 have m6:W1.cell? ⟨w.heap.size,6,none⟩=some (.int .u8 a0_6):=by rw [hW1];exact cell_set_ne n6 (Or.inr (by decide))
 have m7:W1.cell? ⟨w.heap.size,7,none⟩=some (.int .u8 a0_7):=by rw [hW1];exact cell_set_ne n7 (Or.inr (by decide))
 have m8:W1.cell? ⟨w.heap.size,8,none⟩=some (.int .u16 a0_8):=by rw [hW1];exact cell_set_ne n8 (Or.inr (by decide))
 have m9:W1.cell? ⟨w.heap.size,9,none⟩=some (.int .u16 a0_9):=by rw [hW1];exact cell_set_ne n9 (Or.inr (by decide))
 have m10:W1.cell? ⟨w.heap.size,10,none⟩=some (.int .u16 a0_10):=by rw [hW1];exact cell_set_ne n10 (Or.inr (by decide))
 have m11:W1.cell? ⟨w.heap.size,11,none⟩=some (.int .u16 a0_11):=by rw [hW1];exact cell_set_ne n11 (Or.inr (by decide))
 have m12:W1.cell? ⟨w.heap.size,12,none⟩=some (.int .u16 a0_12):=by rw [hW1];exact cell_set_ne n12 (Or.inr (by decide))
 have hB0:Below w.heap.size w W1:=by rw [hW1,hW0];exact (below_a w _).setCell (Nat.le_refl _) _
 have HB0:=Lib.hid hB0
 have HW0:=Lib.hid hW0
 have HW1:=Lib.hid hW1
 obtain ⟨bx0,hbx0⟩:∃ b,b=w.heap.size:=⟨_,rfl⟩
 rw [← hbx0] at n0 n1 n2 n3 n4 n5 n6 n7 n8 n9 n10 n11 n12 m0 m1 m2 m3 m4 m5 m6 m7 m8 m9 m10 m11 m12 nf HW1
 have HBX0:=Lib.hid hbx0
 clear r1 r2 hmt hB0 hW0 hW1 hbx0 g0_0 g0_1 g0_2 g0_3 g0_4 g0_5 g0_6 g0_7 g0_8 g0_9 g0_10 g0_11 g0_12
 go_enter Tryz.func10,Tryz.ntmps10
 go_upto_region 1 with fail
 rw [← HW0.out,← HBX0.out]
 go_upto_region 2 with fail
 rw [← HW1.out]
 clear HW0 HW1 n0 n1 n2 n3 n4 n5 n6 n7 n8 n9 n10 n11 n12 nf
 go_wp2_with fail
 refine (A1.out W1).mono ?_;clear A1;rintro e w1 ⟨Gs,v,C,cr,rfl,hr,hl6,hC1,hC4,hcr,hown,hb1,hCe⟩
 obtain rfl:C=1:=by rw [hCe];rfl
 obtain ⟨bg,cg,rfl⟩:=own_pos hown hr.pos
 have hb2:=below_a w1 (.cells #[.int .i64 ((1:Nat):Int),.int .u64 cr,.slice (some ⟨bg,0,none⟩) Gs.length cg] 37)
 have hb1':=Below.step HB0.out hb1
 have A2:=Lib.hid (NewX_at (base:=w) (C:=1) (cr:=cr) (Below.step hb1' hb2) (own_recs encG_ok (own_below hown hb2)) hr ⟨by omega,by omega⟩ ⟨hcr.1,by omega⟩)
 have H0:=Lib.hid (Sr.begun hr hl6 ⟨hcr.1,by omega⟩)
 clear hr hl6 hC1 hC4 hcr hown hb1 hb2 hb1' hCe m0 m1 m2 m3 m4 m5 m6 m7 m8 m9 m10 m11 m12
 go_wp2_with fail
 refine A2.out.mono ?_;clear A2;rintro e w3 ⟨x,F0,rfl,hX,hb3,hF⟩
 have A4:=Lib.hid (Script_at s1 l1 c1 40 F1 w3 (srow_later R1.out hX.bel) (by decide))
 have HX:=Lib.hid hX
 clear hX hb3 hF
 go_wp2_with fail
 refine A4.out.mono ?_;clear A4;rintro e w6 ⟨v6,all,rfl,hwf,hl2,hown2,hb6⟩
 obtain ⟨m,hm⟩:∃ m,m=all.length:=⟨_,rfl⟩
 rw [← hm] at hown2 hl2
 have HV0:=Lib.hid (own_heldS (F:=F0) hown2 hm rfl (fun b hb=>HX.out.lt b hb))
 obtain ⟨a7,c7,rfl⟩:=own_shapeW hown2
 have HX6:=Lib.hid (HX.out.later hb6)
 have HMA:=Lib.hid hm
 have WF:=Lib.hid hwf
 have hm40:m≤40:=hl2
 clear hown2 hl2 hwf hm HX hb6
 go_wp2_with fail
 go_loopw [51] (fun iv wr=>∃ (k:Nat) (s:SSt) (F:List Nat),k≤m∧iv=.int .i64 k∧Hid (XW w x s wr F)∧Hid (Sr k s)∧Hid (HeldR encOl F wr (.slice a7 m c7) all)) (fun i _=>m - (intOf i).toNat)
 case atStart=>exact ⟨0,_,F0,Nat.zero_le _,rfl,HX6,H0,HV0⟩
 case round =>
  clear HX6 HV0 H0
  obtain ⟨k,s,F,hk,rfl,HX,HSr,HV⟩:=hrel
  by_cases hlt:k<m
  ·as_aux_lemma =>
   have hki:(k:Int)<(m:Int):=by omega
   have z1:decide ((k:Int)<(m:Int))=true:=decide_eq_true hki
   have hka:k<all.length:=by rw [← HMA.out];exact hlt
   have hx:all[k]?=some all[k]!:=by rw [getElem!_pos all k hka];exact List.getElem?_eq_getElem hka
   obtain ⟨b7,off,rfl,-,hcell⟩:=cells_held encOw HV.out hx
   have hwfo:=WF.out all[k]! (by rw [getElem!_pos all k hka];exact List.getElem_mem hka)
   obtain ⟨o,ho⟩:∃ o,o=all[k]!:=⟨_,rfl⟩
   rw [← ho] at hcell hwfo
   clear hx ho
   have u0:wr.cell? ⟨b7,off+k*8+0,none⟩=some (.int .u8 o.kind):=hcell 0 _ rfl
   have u1:wr.cell? ⟨b7,off+k*8+1,none⟩=some (.int .i64 o.cpu):=hcell 1 _ rfl
   have u2:wr.cell? ⟨b7,off+k*8+2,none⟩=some (.int .i64 o.task):=hcell 2 _ rfl
   have u3:wr.cell? ⟨b7,off+k*8+3,none⟩=some (.int .i64 o.group):=hcell 3 _ rfl
   have u4:wr.cell? ⟨b7,off+k*8+4,none⟩=some (.int .i64 o.weight):=hcell 4 _ rfl
   have u5:wr.cell? ⟨b7,off+k*8+5,none⟩=some (.int .i64 o.dst):=hcell 5 _ rfl
   have u6:wr.cell? ⟨b7,off+k*8+6,none⟩=some (.int .i64 o.ticks):=hcell 6 _ rfl
   have u7:wr.cell? ⟨b7,off+k*8+7,none⟩=some (.int .u64 o.mask):=hcell 7 _ rfl
   rw [Nat.add_zero] at u0
   obtain ⟨W8,hW8⟩:∃ W,W=wr.alloc (.cells (cellsO o) 41):=⟨_,rfl⟩
   have hb8:Below wr.heap.size wr W8:=by rw [hW8];exact below_a _ _
   have B8:OpBox W8 wr.heap.size o:=by rw [hW8];exact OpBox.new _ _ _
   have f1:W8.frozen? ⟨wr.heap.size,1,none⟩=false:=by rw [hW8];exact frz_nw _ _ _ 1
   have f7:W8.frozen? ⟨wr.heap.size,7,none⟩=false:=by rw [hW8];exact frz_nw _ _ _ 7
   obtain ⟨W9,hW9⟩:∃ W,W=(W8.setCell ⟨wr.heap.size,1,none⟩ (.int .i64 0)).setCell ⟨wr.heap.size,7,none⟩ (.int .u64 1):=⟨_,rfl⟩
   have B9:OpBox W9 wr.heap.size (oneO o):=by rw [hW9];exact set_op B8
   have hb9:Below wr.heap.size wr W9:=by rw [hW9];exact (hb8.setCell (Nat.le_refl _) _).setCell (Nat.le_refl _) _
   have H9:=Lib.hid (HX.out.later hb9)
   have V9:=Lib.hid (HV.out.later hb9)
   obtain ⟨s',hs'⟩:∃ s',s'=(doR s (oneO o)).2.2:=⟨_,rfl⟩
   have A5:=DoX_at H9.out.inn HSr.out.ok (oneO_wf hwfo)
   rw [← hs'] at A5
   have HSr':=Lib.hid (show Sr (k+1) s' by rw [hs'];exact HSr.out.next hwfo)
   replace A5:=Lib.hid A5
   unfold cellsO at hW8
   have HW8:=Lib.hid hW8
   have HW9:=Lib.hid hW9
   obtain ⟨b8,hb8e⟩:∃ b,b=wr.heap.size:=⟨_,rfl⟩
   rw [← hb8e] at B8 B9 f1 f7 HW9
   have HB8E:=Lib.hid hb8e
   have p1:=B8.c1
   have p7:=B8.c7
   have q0:=B9.c0
   have q1:W9.cell? ⟨b8,1,none⟩=some (.int .i64 0):=B9.c1
   have q2:=B9.c2
   have q3:=B9.c3
   have q4:=B9.c4
   have q5:=B9.c5
   have q6:=B9.c6
   have q7:W9.cell? ⟨b8,7,none⟩=some (.int .u64 1):=B9.c7
   unfold encO oneO at A5
   unfold oneO at q0 q2 q3 q4 q5 q6
   clear hcell hwfo hW8 hW9 hb8 hb9 hs' hb8e B8 B9 HX HV hka
   go_upto_region 9 with fail
   rw [← HW8.out,← HB8E.out]
   go_upto_region 10 with fail
   rw [← HW9.out]
   clear u0 u1 u2 u3 u4 u5 u6 u7 p1 p7 f1 f7 HW8 HW9
   go_wp2_with fail
   refine A5.out.mono ?_;clear A5;rintro e w9 ⟨rfl,hA⟩
   obtain ⟨F9,x9,t9⟩:=H9.out.step hA
   have H10:=Lib.hid (show XW w x s' w9 F9 from x9)
   have V10:=Lib.hid (V9.out.step t9.kept t9.new)
   clear hA x9 t9 q0 q1 q2 q3 q4 q5 q6 q7 H9 V9
   go_wp2_with fail
   go_roundw
   case rel=>exact ⟨k+1,s',F9,by omega,by go_num,H10,HSr',V10⟩
   case measure=>simp [intOf];omega
  ·obtain rfl:m=k:=by omega
   have z1:decide ((m:Int)<(m:Int))=false:=decide_eq_false (by omega)
   as_aux_lemma =>
   have HO:=Lib.hid HSr.out.ok
   have hn6:=HSr.out.n
   have hn1:0<s.n:=HO.out.right.pos
   have HTf:=Lib.hid (Tf.start HO.out HSr.out.wt HSr.out.C (by have:=HSr.out.cl;omega))
   have HC1:=Lib.hid HSr.out.C
   have AS:=Lib.hid (StateX_at HX.out.inn HO.out HX.out.lt)
   obtain ⟨w10,rfl⟩:∃ W:World,W=wr:=⟨_,rfl⟩
   clear HV HMA WF HSr
   go_wp2_with fail
   refine AS.out.mono ?_;clear AS;rintro e w11 ⟨d0,k0,d1,k1,d2,k2,d3,k3,d4,k4,rfl,hSt,hb11⟩
   obtain ⟨W12,hW12⟩:∃ W,W=w11.alloc (.cells #[.int .i64 s.C,.int .u64 s.cr,.slice d0 s.n k0,.slice d1 s.C k1,.slice d2 s.C k2,.slice d3 s.c k3,.slice d4 s.n k4] 46):=⟨_,rfl⟩
   have hb12:=Below.step hb11 (show Below w11.heap.size w11 W12 by rw [hW12];exact below_a _ _)
   have T12:=Lib.hid (show StB W12 w11.heap.size s.C s.cr (.slice d0 s.n k0) (.slice d1 s.C k1) (.slice d2 s.C k2) (.slice d3 s.c k3) (.slice d4 s.n k4) by rw [hW12];exact StB.made _ _ _ _ _ _ _ _ _)
   have S12:=Lib.hid (hSt.later (show Below w11.heap.size w11 W12 by rw [hW12];exact below_a _ _))
   have N12:=Lib.hid (show w11.heap.size∉F from fun m=>by have:=HX.out.lt _ m;have:=hb11.size;omega)
   have H12:=Lib.hid (HX.out.later hb12)
   have HW12:=Lib.hid hW12
   obtain ⟨b12,hb12e⟩:∃ b,b=w11.heap.size:=⟨_,rfl⟩
   rw [← hb12e] at T12 N12
   have HB12E:=Lib.hid hb12e
   have HB12G:=Lib.hid (show w.heap.size≤b12 by have:=HX.out.bel.size;have:=hb11.size;omega)
   have t2:=T12.out.c2
   have t6:=T12.out.c6
   have hz1:((s.n:Int) != (s.n:Int))=false:=by simp
   clear hSt hb11 hb12 hW12 hb12e HX
   go_upto_region 13 with fail
   rw [← HW12.out,← HB12E.out]
   clear HW12 HB12E
   go_upto_region 15 with fail
   go_cut [13,14,15] (fun s13 s14 s15 wx=>∃ bb bi ba,s13=.slice (some ⟨bb,0,none⟩) s.n s.n∧s14=.slice (some ⟨bi,0,none⟩) s.n s.n∧s15=.slice (some ⟨ba,0,none⟩) s.n s.n∧Hid (FRow Value.bool wx bb s.n (fun _=>false))∧Hid (FRow (Value.int .i64) wx bi s.n (fun _=>0))∧Hid (FRow (Value.int .u64) wx ba s.n (fun _=>0))∧Hid (Below W12.heap.size W12 wx)∧Hid (bb≠bi∧bb≠ba∧bi≠ba∧W12.heap.size≤bb∧W12.heap.size≤bi∧W12.heap.size≤ba))
   case first =>
    as_aux_lemma =>
    have hn64:s.n≤64:=by omega
    refine startB (S:=fun w'=>Below W12.heap.size W12 w'∧w'.cell? ⟨b12,6,none⟩=some (.slice d4 s.n k4)) ⟨Below.refl _ _,t6⟩ (held_1 (below_dr _)) (fun hS00 hS0 hHeld=>?_)
    obtain ⟨wc101,hwc101⟩:∃ X,X=W12.drew:=⟨_,rfl⟩
    rw [← hwc101] at hHeld ⊢
    have hWc101:Below W12.heap.size W12 wc101:=by rw [hwc101];exact (Below.refl _ _).drew
    clear hwc101
    refine takeA 0 ?_
    refine takeA 1 ?_
    refine takeA 2 ?_
    refine takeA 4 ?_
    refine takeA 5 ?_
    refine takeA 6 ?_
    refine takeA 8 ?_
    refine takeA 9 ?_
    refine takeA 10 ?_
    refine readyA [3,7,11] (consA (fun K hK=>?_) (consA (fun K hK=>?_) (consA (fun K hK=>?_) .nil)))
    ·skip
     have mk102:=makes wc101 hn64 75 4 ib (.bool false) 1 1 Tryz.underlying75 bi0 bz0 bz1 bz2 (by decide)
     go_simp
     clear mk102
     obtain ⟨w102,hw102⟩:∃ X,X=wc101.alloc (.cells (madeCells #[.bool false] s.n) 4):=⟨_,rfl⟩
     rw [← hw102]
     have hb102:Below wc101.heap.size wc101 w102:=by rw [hw102];exact below_a _ _
     have hW102:=Below.step hWc101 hb102
     have SZbb:=Lib.hid (show w102.heap.size=wc101.heap.size+1 by rw [hw102];simp)
     have sybb:=hWc101.size
     obtain ⟨bb,hEbb⟩:∃ b,b=wc101.heap.size:=⟨_,rfl⟩
     have hbb:FRow Value.bool w102 bb s.n (fun _=>false):=FRow.made' hw102 hEbb
     rw [← hEbb]
     have HEbb:=Lib.hid hEbb
     clear hw102 hEbb
     refine outA hK (held_1 hW102 hS00) (fun hHeld3=>?_)
     clear hK K
     refine takeA 12 ?_
     refine readyA [7,11] (consA (fun K hK=>?_) (consA (fun K hK=>?_) .nil))
     ·skip
      have mk103:=makes w102 hn64 42 3 ii (.int .i64 0) 1 8 Tryz.underlying42 qi qz0 qz1 qz2 (by decide)
      go_simp
      clear mk103
      obtain ⟨w103,hw103⟩:∃ X,X=w102.alloc (.cells (madeCells #[.int .i64 0] s.n) 3):=⟨_,rfl⟩
      rw [← hw103]
      have hb103:Below w102.heap.size w102 w103:=by rw [hw103];exact below_a _ _
      have hW103:=Below.step hW102 hb103
      have SZbi:=Lib.hid (show w103.heap.size=w102.heap.size+1 by rw [hw103];simp)
      have sybi:=hW102.size
      obtain ⟨bi,hEbi⟩:∃ b,b=w102.heap.size:=⟨_,rfl⟩
      have hbi:FRow (Value.int .i64) w103 bi s.n (fun _=>0):=FRow.made' hw103 hEbi
      rw [← hEbi]
      have HEbi:=Lib.hid hEbi
      clear hw103 hEbi
      replace hbb:=hbb.later hb103
      refine outA hK (held_1 hW103 hS00) (fun hHeld7=>?_)
      clear hK K
      refine takeA 13 ?_
      refine readyA [11] (consA (fun K hK=>?_) .nil)
      have mk104:=makes w103 hn64 73 34 iu (.int .u64 0) 1 8 Tryz.underlying73 ui uz0 uz1 uz2 (by decide)
      go_simp
      clear mk104
      obtain ⟨w104,hw104⟩:∃ X,X=w103.alloc (.cells (madeCells #[.int .u64 0] s.n) 34):=⟨_,rfl⟩
      rw [← hw104]
      have hb104:Below w103.heap.size w103 w104:=by rw [hw104];exact below_a _ _
      have hW104:=Below.step hW103 hb104
      have SZba:=Lib.hid (show w104.heap.size=w103.heap.size+1 by rw [hw104];simp)
      have syba:=hW103.size
      obtain ⟨ba,hEba⟩:∃ b,b=w103.heap.size:=⟨_,rfl⟩
      have hba:FRow (Value.int .u64) w104 ba s.n (fun _=>0):=FRow.made' hw104 hEba
      rw [← hEba]
      have HEba:=Lib.hid hEba
      clear hw104 hEba
      replace hbb:=hbb.later hb104
      replace hbi:=hbi.later hb104
      refine outA hK (held_1 hW104 hS00) (fun hHeld11=>?_)
      clear hK K
      refine takeA 14 ?_
      refine doneA ?_
      have hall:bb≠bi∧bb≠ba∧bi≠ba∧W12.heap.size≤bb∧W12.heap.size≤bi∧W12.heap.size≤ba:=by have:=HEbb.out;have:=HEbi.out;have:=HEba.out;have:=SZbb.out;have:=SZbi.out;have:=SZba.out;omega
      have hbb:=Lib.hid hbb
      have hbi:=Lib.hid hbi
      have hba:=Lib.hid hba
      have hWZ:=Lib.hid hW104
      clear hS0 hHeld
      go_wp2_with fail
      go_meet
      case rel=>exact ⟨bb,bi,ba,rfl,rfl,rfl,hbb,hbi,hba,hWZ,Lib.hid hall⟩
     ·skip
      have mk105:=makes w102 hn64 73 34 iu (.int .u64 0) 1 8 Tryz.underlying73 ui uz0 uz1 uz2 (by decide)
      go_simp
      clear mk105
      obtain ⟨w105,hw105⟩:∃ X,X=w102.alloc (.cells (madeCells #[.int .u64 0] s.n) 34):=⟨_,rfl⟩
      rw [← hw105]
      have hb105:Below w102.heap.size w102 w105:=by rw [hw105];exact below_a _ _
      have hW105:=Below.step hW102 hb105
      have SZba:=Lib.hid (show w105.heap.size=w102.heap.size+1 by rw [hw105];simp)
      have syba:=hW102.size
      obtain ⟨ba,hEba⟩:∃ b,b=w102.heap.size:=⟨_,rfl⟩
      have hba:FRow (Value.int .u64) w105 ba s.n (fun _=>0):=FRow.made' hw105 hEba
      rw [← hEba]
      have HEba:=Lib.hid hEba
      clear hw105 hEba
      replace hbb:=hbb.later hb105
      refine outA hK (held_1 hW105 hS00) (fun hHeld11=>?_)
      clear hK K
      refine readyA [7] (consA (fun K hK=>?_) .nil)
      have mk106:=makes w105 hn64 42 3 ii (.int .i64 0) 1 8 Tryz.underlying42 qi qz0 qz1 qz2 (by decide)
      go_simp
      clear mk106
      obtain ⟨w106,hw106⟩:∃ X,X=w105.alloc (.cells (madeCells #[.int .i64 0] s.n) 3):=⟨_,rfl⟩
      rw [← hw106]
      have hb106:Below w105.heap.size w105 w106:=by rw [hw106];exact below_a _ _
      have hW106:=Below.step hW105 hb106
      have SZbi:=Lib.hid (show w106.heap.size=w105.heap.size+1 by rw [hw106];simp)
      have sybi:=hW105.size
      obtain ⟨bi,hEbi⟩:∃ b,b=w105.heap.size:=⟨_,rfl⟩
      have hbi:FRow (Value.int .i64) w106 bi s.n (fun _=>0):=FRow.made' hw106 hEbi
      rw [← hEbi]
      have HEbi:=Lib.hid hEbi
      clear hw106 hEbi
      replace hbb:=hbb.later hb106
      replace hba:=hba.later hb106
      refine outA hK (held_1 hW106 hS00) (fun hHeld7=>?_)
      clear hK K
      refine takeA 13 ?_
      refine takeA 14 ?_
      refine doneA ?_
      have hall:bb≠bi∧bb≠ba∧bi≠ba∧W12.heap.size≤bb∧W12.heap.size≤bi∧W12.heap.size≤ba:=by have:=HEbb.out;have:=HEbi.out;have:=HEba.out;have:=SZbb.out;have:=SZbi.out;have:=SZba.out;omega
      have hbb:=Lib.hid hbb
      have hbi:=Lib.hid hbi
      have hba:=Lib.hid hba
      have hWZ:=Lib.hid hW106
      clear hS0 hHeld
      go_wp2_with fail
      go_meet
      case rel=>exact ⟨bb,bi,ba,rfl,rfl,rfl,hbb,hbi,hba,hWZ,Lib.hid hall⟩
    ·skip
     have mk107:=makes wc101 hn64 42 3 ii (.int .i64 0) 1 8 Tryz.underlying42 qi qz0 qz1 qz2 (by decide)
     go_simp
     clear mk107
     obtain ⟨w107,hw107⟩:∃ X,X=wc101.alloc (.cells (madeCells #[.int .i64 0] s.n) 3):=⟨_,rfl⟩
     rw [← hw107]
     have hb107:Below wc101.heap.size wc101 w107:=by rw [hw107];exact below_a _ _
     have hW107:=Below.step hWc101 hb107
     have SZbi:=Lib.hid (show w107.heap.size=wc101.heap.size+1 by rw [hw107];simp)
     have sybi:=hWc101.size
     obtain ⟨bi,hEbi⟩:∃ b,b=wc101.heap.size:=⟨_,rfl⟩
     have hbi:FRow (Value.int .i64) w107 bi s.n (fun _=>0):=FRow.made' hw107 hEbi
     rw [← hEbi]
     have HEbi:=Lib.hid hEbi
     clear hw107 hEbi
     refine outA hK (held_1 hW107 hS00) (fun hHeld7=>?_)
     clear hK K
     refine readyA [3,11] (consA (fun K hK=>?_) (consA (fun K hK=>?_) .nil))
     ·skip
      have mk108:=makes w107 hn64 75 4 ib (.bool false) 1 1 Tryz.underlying75 bi0 bz0 bz1 bz2 (by decide)
      go_simp
      clear mk108
      obtain ⟨w108,hw108⟩:∃ X,X=w107.alloc (.cells (madeCells #[.bool false] s.n) 4):=⟨_,rfl⟩
      rw [← hw108]
      have hb108:Below w107.heap.size w107 w108:=by rw [hw108];exact below_a _ _
      have hW108:=Below.step hW107 hb108
      have SZbb:=Lib.hid (show w108.heap.size=w107.heap.size+1 by rw [hw108];simp)
      have sybb:=hW107.size
      obtain ⟨bb,hEbb⟩:∃ b,b=w107.heap.size:=⟨_,rfl⟩
      have hbb:FRow Value.bool w108 bb s.n (fun _=>false):=FRow.made' hw108 hEbb
      rw [← hEbb]
      have HEbb:=Lib.hid hEbb
      clear hw108 hEbb
      replace hbi:=hbi.later hb108
      refine outA hK (held_1 hW108 hS00) (fun hHeld3=>?_)
      clear hK K
      refine takeA 12 ?_
      refine takeA 13 ?_
      refine readyA [11] (consA (fun K hK=>?_) .nil)
      have mk109:=makes w108 hn64 73 34 iu (.int .u64 0) 1 8 Tryz.underlying73 ui uz0 uz1 uz2 (by decide)
      go_simp
      clear mk109
      obtain ⟨w109,hw109⟩:∃ X,X=w108.alloc (.cells (madeCells #[.int .u64 0] s.n) 34):=⟨_,rfl⟩
      rw [← hw109]
      have hb109:Below w108.heap.size w108 w109:=by rw [hw109];exact below_a _ _
      have hW109:=Below.step hW108 hb109
      have SZba:=Lib.hid (show w109.heap.size=w108.heap.size+1 by rw [hw109];simp)
      have syba:=hW108.size
      obtain ⟨ba,hEba⟩:∃ b,b=w108.heap.size:=⟨_,rfl⟩
      have hba:FRow (Value.int .u64) w109 ba s.n (fun _=>0):=FRow.made' hw109 hEba
      rw [← hEba]
      have HEba:=Lib.hid hEba
      clear hw109 hEba
      replace hbi:=hbi.later hb109
      replace hbb:=hbb.later hb109
      refine outA hK (held_1 hW109 hS00) (fun hHeld11=>?_)
      clear hK K
      refine takeA 14 ?_
      refine doneA ?_
      have hall:bb≠bi∧bb≠ba∧bi≠ba∧W12.heap.size≤bb∧W12.heap.size≤bi∧W12.heap.size≤ba:=by have:=HEbb.out;have:=HEbi.out;have:=HEba.out;have:=SZbb.out;have:=SZbi.out;have:=SZba.out;omega
      have hbb:=Lib.hid hbb
      have hbi:=Lib.hid hbi
      have hba:=Lib.hid hba
      have hWZ:=Lib.hid hW109
      clear hS0 hHeld
      go_wp2_with fail
      go_meet
      case rel=>exact ⟨bb,bi,ba,rfl,rfl,rfl,hbb,hbi,hba,hWZ,Lib.hid hall⟩
     ·skip
      have mk110:=makes w107 hn64 73 34 iu (.int .u64 0) 1 8 Tryz.underlying73 ui uz0 uz1 uz2 (by decide)
      go_simp
      clear mk110
      obtain ⟨w110,hw110⟩:∃ X,X=w107.alloc (.cells (madeCells #[.int .u64 0] s.n) 34):=⟨_,rfl⟩
      rw [← hw110]
      have hb110:Below w107.heap.size w107 w110:=by rw [hw110];exact below_a _ _
      have hW110:=Below.step hW107 hb110
      have SZba:=Lib.hid (show w110.heap.size=w107.heap.size+1 by rw [hw110];simp)
      have syba:=hW107.size
      obtain ⟨ba,hEba⟩:∃ b,b=w107.heap.size:=⟨_,rfl⟩
      have hba:FRow (Value.int .u64) w110 ba s.n (fun _=>0):=FRow.made' hw110 hEba
      rw [← hEba]
      have HEba:=Lib.hid hEba
      clear hw110 hEba
      replace hbi:=hbi.later hb110
      refine outA hK (held_1 hW110 hS00) (fun hHeld11=>?_)
      clear hK K
      refine readyA [3] (consA (fun K hK=>?_) .nil)
      have mk111:=makes w110 hn64 75 4 ib (.bool false) 1 1 Tryz.underlying75 bi0 bz0 bz1 bz2 (by decide)
      go_simp
      clear mk111
      obtain ⟨w111,hw111⟩:∃ X,X=w110.alloc (.cells (madeCells #[.bool false] s.n) 4):=⟨_,rfl⟩
      rw [← hw111]
      have hb111:Below w110.heap.size w110 w111:=by rw [hw111];exact below_a _ _
      have hW111:=Below.step hW110 hb111
      have SZbb:=Lib.hid (show w111.heap.size=w110.heap.size+1 by rw [hw111];simp)
      have sybb:=hW110.size
      obtain ⟨bb,hEbb⟩:∃ b,b=w110.heap.size:=⟨_,rfl⟩
      have hbb:FRow Value.bool w111 bb s.n (fun _=>false):=FRow.made' hw111 hEbb
      rw [← hEbb]
      have HEbb:=Lib.hid hEbb
      clear hw111 hEbb
      replace hbi:=hbi.later hb111
      replace hba:=hba.later hb111
      refine outA hK (held_1 hW111 hS00) (fun hHeld3=>?_)
      clear hK K
      refine takeA 12 ?_
      refine takeA 13 ?_
      refine takeA 14 ?_
      refine doneA ?_
      have hall:bb≠bi∧bb≠ba∧bi≠ba∧W12.heap.size≤bb∧W12.heap.size≤bi∧W12.heap.size≤ba:=by have:=HEbb.out;have:=HEbi.out;have:=HEba.out;have:=SZbb.out;have:=SZbi.out;have:=SZba.out;omega
      have hbb:=Lib.hid hbb
      have hbi:=Lib.hid hbi
      have hba:=Lib.hid hba
      have hWZ:=Lib.hid hW111
      clear hS0 hHeld
      go_wp2_with fail
      go_meet
      case rel=>exact ⟨bb,bi,ba,rfl,rfl,rfl,hbb,hbi,hba,hWZ,Lib.hid hall⟩
    ·skip
     have mk112:=makes wc101 hn64 73 34 iu (.int .u64 0) 1 8 Tryz.underlying73 ui uz0 uz1 uz2 (by decide)
     go_simp
     clear mk112
     obtain ⟨w112,hw112⟩:∃ X,X=wc101.alloc (.cells (madeCells #[.int .u64 0] s.n) 34):=⟨_,rfl⟩
     rw [← hw112]
     have hb112:Below wc101.heap.size wc101 w112:=by rw [hw112];exact below_a _ _
     have hW112:=Below.step hWc101 hb112
     have SZba:=Lib.hid (show w112.heap.size=wc101.heap.size+1 by rw [hw112];simp)
     have syba:=hWc101.size
     obtain ⟨ba,hEba⟩:∃ b,b=wc101.heap.size:=⟨_,rfl⟩
     have hba:FRow (Value.int .u64) w112 ba s.n (fun _=>0):=FRow.made' hw112 hEba
     rw [← hEba]
     have HEba:=Lib.hid hEba
     clear hw112 hEba
     refine outA hK (held_1 hW112 hS00) (fun hHeld11=>?_)
     clear hK K
     refine readyA [3,7] (consA (fun K hK=>?_) (consA (fun K hK=>?_) .nil))
     ·skip
      have mk113:=makes w112 hn64 75 4 ib (.bool false) 1 1 Tryz.underlying75 bi0 bz0 bz1 bz2 (by decide)
      go_simp
      clear mk113
      obtain ⟨w113,hw113⟩:∃ X,X=w112.alloc (.cells (madeCells #[.bool false] s.n) 4):=⟨_,rfl⟩
      rw [← hw113]
      have hb113:Below w112.heap.size w112 w113:=by rw [hw113];exact below_a _ _
      have hW113:=Below.step hW112 hb113
      have SZbb:=Lib.hid (show w113.heap.size=w112.heap.size+1 by rw [hw113];simp)
      have sybb:=hW112.size
      obtain ⟨bb,hEbb⟩:∃ b,b=w112.heap.size:=⟨_,rfl⟩
      have hbb:FRow Value.bool w113 bb s.n (fun _=>false):=FRow.made' hw113 hEbb
      rw [← hEbb]
      have HEbb:=Lib.hid hEbb
      clear hw113 hEbb
      replace hba:=hba.later hb113
      refine outA hK (held_1 hW113 hS00) (fun hHeld3=>?_)
      clear hK K
      refine takeA 12 ?_
      refine readyA [7] (consA (fun K hK=>?_) .nil)
      have mk114:=makes w113 hn64 42 3 ii (.int .i64 0) 1 8 Tryz.underlying42 qi qz0 qz1 qz2 (by decide)
      go_simp
      clear mk114
      obtain ⟨w114,hw114⟩:∃ X,X=w113.alloc (.cells (madeCells #[.int .i64 0] s.n) 3):=⟨_,rfl⟩
      rw [← hw114]
      have hb114:Below w113.heap.size w113 w114:=by rw [hw114];exact below_a _ _
      have hW114:=Below.step hW113 hb114
      have SZbi:=Lib.hid (show w114.heap.size=w113.heap.size+1 by rw [hw114];simp)
      have sybi:=hW113.size
      obtain ⟨bi,hEbi⟩:∃ b,b=w113.heap.size:=⟨_,rfl⟩
      have hbi:FRow (Value.int .i64) w114 bi s.n (fun _=>0):=FRow.made' hw114 hEbi
      rw [← hEbi]
      have HEbi:=Lib.hid hEbi
      clear hw114 hEbi
      replace hba:=hba.later hb114
      replace hbb:=hbb.later hb114
      refine outA hK (held_1 hW114 hS00) (fun hHeld7=>?_)
      clear hK K
      refine takeA 13 ?_
      refine takeA 14 ?_
      refine doneA ?_
      have hall:bb≠bi∧bb≠ba∧bi≠ba∧W12.heap.size≤bb∧W12.heap.size≤bi∧W12.heap.size≤ba:=by have:=HEbb.out;have:=HEbi.out;have:=HEba.out;have:=SZbb.out;have:=SZbi.out;have:=SZba.out;omega
      have hbb:=Lib.hid hbb
      have hbi:=Lib.hid hbi
      have hba:=Lib.hid hba
      have hWZ:=Lib.hid hW114
      clear hS0 hHeld
      go_wp2_with fail
      go_meet
      case rel=>exact ⟨bb,bi,ba,rfl,rfl,rfl,hbb,hbi,hba,hWZ,Lib.hid hall⟩
     ·skip
      have mk115:=makes w112 hn64 42 3 ii (.int .i64 0) 1 8 Tryz.underlying42 qi qz0 qz1 qz2 (by decide)
      go_simp
      clear mk115
      obtain ⟨w115,hw115⟩:∃ X,X=w112.alloc (.cells (madeCells #[.int .i64 0] s.n) 3):=⟨_,rfl⟩
      rw [← hw115]
      have hb115:Below w112.heap.size w112 w115:=by rw [hw115];exact below_a _ _
      have hW115:=Below.step hW112 hb115
      have SZbi:=Lib.hid (show w115.heap.size=w112.heap.size+1 by rw [hw115];simp)
      have sybi:=hW112.size
      obtain ⟨bi,hEbi⟩:∃ b,b=w112.heap.size:=⟨_,rfl⟩
      have hbi:FRow (Value.int .i64) w115 bi s.n (fun _=>0):=FRow.made' hw115 hEbi
      rw [← hEbi]
      have HEbi:=Lib.hid hEbi
      clear hw115 hEbi
      replace hba:=hba.later hb115
      refine outA hK (held_1 hW115 hS00) (fun hHeld7=>?_)
      clear hK K
      refine readyA [3] (consA (fun K hK=>?_) .nil)
      have mk116:=makes w115 hn64 75 4 ib (.bool false) 1 1 Tryz.underlying75 bi0 bz0 bz1 bz2 (by decide)
      go_simp
      clear mk116
      obtain ⟨w116,hw116⟩:∃ X,X=w115.alloc (.cells (madeCells #[.bool false] s.n) 4):=⟨_,rfl⟩
      rw [← hw116]
      have hb116:Below w115.heap.size w115 w116:=by rw [hw116];exact below_a _ _
      have hW116:=Below.step hW115 hb116
      have SZbb:=Lib.hid (show w116.heap.size=w115.heap.size+1 by rw [hw116];simp)
      have sybb:=hW115.size
      obtain ⟨bb,hEbb⟩:∃ b,b=w115.heap.size:=⟨_,rfl⟩
      have hbb:FRow Value.bool w116 bb s.n (fun _=>false):=FRow.made' hw116 hEbb
      rw [← hEbb]
      have HEbb:=Lib.hid hEbb
      clear hw116 hEbb
      replace hba:=hba.later hb116
      replace hbi:=hbi.later hb116
      refine outA hK (held_1 hW116 hS00) (fun hHeld3=>?_)
      clear hK K
      refine takeA 12 ?_
      refine takeA 13 ?_
      refine takeA 14 ?_
      refine doneA ?_
      have hall:bb≠bi∧bb≠ba∧bi≠ba∧W12.heap.size≤bb∧W12.heap.size≤bi∧W12.heap.size≤ba:=by have:=HEbb.out;have:=HEbi.out;have:=HEba.out;have:=SZbb.out;have:=SZbi.out;have:=SZba.out;omega
      have hbb:=Lib.hid hbb
      have hbi:=Lib.hid hbi
      have hba:=Lib.hid hba
      have hWZ:=Lib.hid hW116
      clear hS0 hHeld
      go_wp2_with fail
      go_meet
      case rel=>exact ⟨bb,bi,ba,rfl,rfl,rfl,hbb,hbi,hba,hWZ,Lib.hid hall⟩
   case rest =>
    as_aux_lemma =>
    obtain ⟨bb,bi,ba,rfl,rfl,rfl,hbb,hbi,hba,hB13,hne⟩:=hcut
    obtain ⟨nbi,nba,nia,lb,li,la⟩:=hne.out
    have T13:=Lib.hid (T12.out.later hB13.out)
    have S13:=Lib.hid (S12.out.later hB13.out)
    have H13:=Lib.hid (H12.out.later hB13.out)
    have lFb:bb∉F:=fun q=>by have:=H12.out.lt _ q;omega
    have lFi:bi∉F:=fun q=>by have:=H12.out.lt _ q;omega
    have lFa:ba∉F:=fun q=>by have:=H12.out.lt _ q;omega
    have n12b:b12≠bb:=by have:=T12.out.lt;omega
    have n12i:b12≠bi:=by have:=T12.out.lt;omega
    have n12a:b12≠ba:=by have:=T12.out.lt;omega
    have hwb:w.heap.size≤W12.heap.size:=H12.out.bel.size
    -- what is held lies off the three rows
    have S14:=Lib.hid (show StaH (bb::bi::ba::F) wc (.agg #[.int .i64 s.C,.int .u64 s.cr,.slice d0 s.n k0,.slice d1 s.C k1,.slice d2 s.C k2,.slice d3 s.c k3,.slice d4 s.n k4]) (staOf s) from ((S12.out.add la).add li |>.add lb).later hB13.out)
    have HLB:=Lib.hid (show w.heap.size≤b12 from HB12G.out)
    clear T12 S12 H12 t2 t6 hne
    obtain ⟨V0,rfl⟩:∃ W:World,W=wc:=⟨_,rfl⟩
    have n3:∀ b,b∉bb::bi::ba::F→b∉[bb,bi,ba]:=fun b q m=>q (by
     simp only [List.mem_cons,List.mem_nil_iff,or_false] at m
     rcases m with m | m | m <;> subst m <;> simp)
    have t13:=T13.out.c3
    obtain ⟨ts,hts⟩:∃ ts,ts=(staOf s).ts:=⟨_,rfl⟩
    have HTS:=Lib.hid hts
    clear hts
    go_wp2_with fail
    go_loopw [92] (fun iv wr=>∃ k:Nat,k≤s.n∧iv=.int .i64 k∧Hid (FRow (Value.int .i64) wr bi s.n (fun j=>if j<k then 65536 else 0))∧Hid (Kept [bi] V0 wr)) (fun iv _=>s.n - (intOf iv).toNat)
    case atStart=>exact ⟨0,Nat.zero_le _,rfl,Lib.hid (hbi.out.congr (fun j _=>by simp)),Lib.hid (Kept.refl _ _)⟩
    case round =>
     obtain ⟨k,hk,rfl,hI,hKP⟩:=hrel
     by_cases hlt:k<s.n
     ·have hki:(k:Int)<(s.n:Int):=by omega
      have z2:decide ((k:Int)<(s.n:Int))=true:=decide_eq_true hki
      have ec:=hI.out.c k hlt
      have ez:=hI.out.z k
      have hI':=Lib.hid ((hI.out.set hlt 65536).congr (g:=fun j=>if j<k+1 then 65536 else 0) (fun j _=>by
       by_cases e:j=k
       ·subst e;rw [upd_same,if_pos (by omega)]
       ·rw [upd_other _ _ e]
        by_cases q:j<k
        ·rw [if_pos q,if_pos (by omega)]
        ·rw [if_neg q,if_neg (by omega)]))
      have hK':=Lib.hid (hKP.out.setCell (p:=⟨bi,k,none⟩) (Or.inl (by simp)) (.int .i64 65536))
      clear hI hKP
      go_wp2_with fail
      go_roundw
      case rel=>exact ⟨k+1,by omega,by go_num,hI',hK'⟩
      case measure=>simp [intOf];omega
     ·obtain rfl:k=s.n:=by omega
      have z2:decide ((s.n:Int)<(s.n:Int))=false:=decide_eq_false (by omega)
      have KV:=Lib.hid (hKP.out.mono (T:=[bb,bi,ba]) (by simp))
      have RI:=Lib.hid (hI.out.congr (g:=l0K ts 0) (fun j q=>by rw [if_pos q];rfl))
      have RB:=Lib.hid (((hbb.out.kept hKP.out (by simpa using nbi)).congr (g:=b0K ts 0) (fun j q=>rfl)))
      have RA:=Lib.hid (hba.out.kept hKP.out (by simpa using nia.symm))
      obtain ⟨V1,rfl⟩:∃ W:World,W=wr:=⟨_,rfl⟩
      have t13v:V1.cell? ⟨b12,5,none⟩=some (.slice d3 s.c k3):=KV.out.cellAt T13.out.c5 (by simp;exact ⟨n12b,n12i,n12a⟩)
      clear hI hKP hbb hbi hba
      go_wp2_with fail
      go_loopw [102] (fun iv wr=>∃ k:Nat,k≤s.c∧iv=.int .i64 k∧Hid (FRow Value.bool wr bb s.n (b0K ts k))∧Hid (FRow (Value.int .i64) wr bi s.n (l0K ts k))∧Hid (FRow (Value.int .u64) wr ba s.n (fun _=>0))∧Hid (Kept [bb,bi,ba] V0 wr)) (fun iv _=>s.c - (intOf iv).toNat)
      case atStart=>exact ⟨0,Nat.zero_le _,rfl,RB,RI,RA,KV⟩
      case round =>
       clear KV RI RB RA t13v
       obtain ⟨k,hk,rfl,RB,RI,RA,KV⟩:=hrel
       by_cases hlt:k<s.c
       ·as_aux_lemma =>
        have hki:(k:Int)<(s.c:Int):=by omega
        have z2:decide ((k:Int)<(s.c:Int))=true:=decide_eq_true hki
        have hkl:k<(keysL s).length:=by rw [HO.out.keys_len];exact hlt
        obtain ⟨ik,hik⟩:∃ ik,ik=(keysL s)[k]!:=⟨_,rfl⟩
        have hidx:(keysL s)[k]?=some ik:=by rw [hik,getElem!_pos (keysL s) k hkl];exact List.getElem?_eq_getElem hkl
        have hmem:ik∈keysL s:=List.mem_of_getElem? hidx
        obtain ⟨t,hT⟩:∃ t,s.T ik=some t:=Option.isSome_iff_exists.1 ((keysL_mem HO.out ik).1 hmem)
        have htk:=(HO.out.task ik t hT).2
        obtain ⟨xe,hxe⟩:∃ xe,xe=ranX s ik t:=⟨_,rfl⟩
        have hv:ts[k]?=some ⟨ik,t.g,t.w,t.cpu,t.mask,t.rdy,xe.1,xe.2.1⟩:=by
         rw [HTS.out,staOf_tsE,List.getElem?_map,hidx]
         show some (viewOf s ik)=_
         unfold viewOf
         rw [hT,hxe]
        obtain ⟨_,_,_,_,_,e14,-,-,-,ts14,-⟩:=S14.out.is
        cases e14
        rw [← HTS.out] at ts14
        obtain ⟨bt,off,rfl,⟨hbt,-⟩,hcc⟩:=cells_held encTl_ok ts14 hv
        have hbt3:=n3 bt hbt
        have t13r:wr.cell? ⟨b12,5,none⟩=some (.slice (some ⟨bt,off,none⟩) s.c k3):=KV.out.cellAt T13.out.c5 (by simp;exact ⟨n12b,n12i,n12a⟩)
        have u0:wr.cell? ⟨bt,off+k*8+0,none⟩=some (.int .i64 ik):=KV.out.cellAt (hcc 0 _ rfl) hbt3
        have u1:wr.cell? ⟨bt,off+k*8+1,none⟩=some (.int .i64 t.g):=KV.out.cellAt (hcc 1 _ rfl) hbt3
        have u2:wr.cell? ⟨bt,off+k*8+2,none⟩=some (.int .i64 t.w):=KV.out.cellAt (hcc 2 _ rfl) hbt3
        have u3:wr.cell? ⟨bt,off+k*8+3,none⟩=some (.int .i64 t.cpu):=KV.out.cellAt (hcc 3 _ rfl) hbt3
        have u4:wr.cell? ⟨bt,off+k*8+4,none⟩=some (.int .u64 t.mask):=KV.out.cellAt (hcc 4 _ rfl) hbt3
        have u5:wr.cell? ⟨bt,off+k*8+5,none⟩=some (.bool t.rdy):=KV.out.cellAt (hcc 5 _ rfl) hbt3
        have u6:wr.cell? ⟨bt,off+k*8+6,none⟩=some (.int .u64 xe.1):=KV.out.cellAt (hcc 6 _ rfl) hbt3
        have u7:wr.cell? ⟨bt,off+k*8+7,none⟩=some (.int .u32 xe.2.1):=KV.out.cellAt (hcc 7 _ rfl) hbt3
        rw [Nat.add_zero] at u0
        obtain ⟨W18,hW18⟩:∃ W,W=wr.alloc (.cells #[.int .i64 ik,.int .i64 t.g,.int .i64 t.w,.int .i64 t.cpu,.int .u64 t.mask,.bool t.rdy,.int .u64 xe.1,.int .u32 xe.2.1] 59):=⟨_,rfl⟩
        have y1:W18.cell? ⟨wr.heap.size,1,none⟩=some (.int .i64 t.g):=by rw [hW18];exact cell_nw wr _ _ 1 _ rfl
        have y2:W18.cell? ⟨wr.heap.size,2,none⟩=some (.int .i64 t.w):=by rw [hW18];exact cell_nw wr _ _ 2 _ rfl
        have y5:W18.cell? ⟨wr.heap.size,5,none⟩=some (.bool t.rdy):=by rw [hW18];exact cell_nw wr _ _ 5 _ rfl
        have hb18:Below wr.heap.size wr W18:=by rw [hW18];exact below_a _ _
        have HBs:=Lib.hid (b0K_step hv)
        have HLs:=Lib.hid (l0K_step hv)
        have RB8:=Lib.hid (RB.out.later hb18)
        have RI8:=Lib.hid (RI.out.later hb18)
        have RA8:=Lib.hid (RA.out.later hb18)
        have KV8:=Lib.hid (KV.out.step hb18)
        have HW18:=Lib.hid hW18
        obtain ⟨b18,hb18e⟩:∃ b,b=wr.heap.size:=⟨_,rfl⟩
        rw [← hb18e] at y1 y2 y5
        have HB18E:=Lib.hid hb18e
        have n18b:b18≠bb:=by have:=RB.out.lt;have:=HB18E.out;omega
        have n18i:b18≠bi:=by have:=RI.out.lt;have:=HB18E.out;omega
        have htg:=htk.g
        have hfew:=HO.out.few
        clear hik hidx hmem hT htk hxe hv hcc hkl hW18 hb18 hb18e RB RI RA KV hbt3 hbt ts14
        go_upto_region 24 with fail
        rw [← HW18.out,← HB18E.out]
        clear u0 u1 u2 u3 u4 u5 u6 u7 HW18 t13r
        cases hrd:t.rdy with
        | false =>
         rw [hrd] at y5
         have RB':=Lib.hid (RB8.out.congr (g:=b0K ts (k+1)) (fun j _=>by rw [HBs.out];dsimp only;rw [hrd];rfl))
         have RI':=Lib.hid (RI8.out.congr (g:=l0K ts (k+1)) (fun j _=>by rw [HLs.out];dsimp only;rw [hrd];rfl))
         clear hrd RB8 RI8
         go_wp2_with fail
         go_roundw
         case rel=>exact ⟨k+1,by omega,by go_num,RB',RI',RA8,KV8⟩
         case measure=>simp [intOf];omega
        | true =>
         rw [hrd] at y5
         have htgi:(t.g:Int)<(s.n:Int):=by omega
         have ebb:=RB8.out.c t.g htg
         have ebi:=RI8.out.c t.g htg
         have fbb:=RB8.out.z t.g
         have fbi:=RI8.out.z t.g
         have lbb:=RB8.out.lt
         have HUB:=Lib.hid (show b0K ts (k+1)=upd (b0K ts k) t.g true by rw [HBs.out];dsimp only;rw [hrd,if_pos rfl,Int.toNat_natCast])
         have HUL:=Lib.hid (show l0K ts (k+1)=upd (l0K ts k) t.g (min (l0K ts k t.g) t.w) by rw [HLs.out];dsimp only;rw [hrd,if_pos rfl,Int.toNat_natCast])
         clear hrd
         obtain ⟨lv,hlv⟩:∃ l,l=l0K ts k t.g:=⟨_,rfl⟩
         rw [← hlv] at ebi
         have HLV:=Lib.hid hlv
         clear hlv
         go_wp2_with fail
         have hS0:(fun w':World=>w'.cell? ⟨b18,1,none⟩=some (.int .i64 t.g)∧w'.cell? ⟨b18,2,none⟩=some (.int .i64 t.w)∧w'.cell? ⟨bi,t.g,none⟩=some (.int .i64 lv)) (W18.drew):=⟨cell_dr y1,cell_dr y2,cell_dr ebi⟩
         refine startU [17] (fun w':World=>w'.cell? ⟨b18,1,none⟩=some (.int .i64 t.g)∧w'.cell? ⟨b18,2,none⟩=some (.int .i64 t.w)∧w'.cell? ⟨bi,t.g,none⟩=some (.int .i64 lv)) (by kernel_rfl) hS0 (fun hHeld=>?_)
         have hS00:Below W18.heap.size W18 W18:=Below.refl _ _
         obtain ⟨wc117,hwc117⟩:∃ X,X=W18.drew:=⟨_,rfl⟩
         rw [← hwc117] at hHeld ⊢
         have hWc117:Below W18.heap.size W18 wc117:=by rw [hwc117];exact (Below.refl _ _).drew
         clear hwc117
         refine takeUw (i:=0) (v:=?v0_118) rfl (by kernel_rfl) (fun _ _ _ h=>h) (by rfl) ?hy0_118 (by assumption) ?rest0_118
         case hy0_118=>(intro w hSw;(try dsimp only at hSw);go_simp;try with_reducible rfl)
         try simp only [Act.put,List.setIfInBounds_toArray,List.set_cons_zero,List.set_cons_succ]
         refine takeUw (i:=1) (v:=?v1_119) rfl (by kernel_rfl) (fun _ _ _ h=>h) (by rfl) ?hy1_119 (by assumption) ?rest1_119
         case hy1_119=>(intro w hSw;(try dsimp only at hSw);go_simp;try with_reducible rfl)
         try simp only [Act.put,List.setIfInBounds_toArray,List.set_cons_zero,List.set_cons_succ]
         refine takeUw (i:=2) (v:=?v2_120) rfl (by kernel_rfl) (fun _ _ _ h=>h) (by rfl) ?hy2_120 (by assumption) ?rest2_120
         case hy2_120=>(intro w hSw;(try dsimp only at hSw);go_simp;try with_reducible rfl)
         try simp only [Act.put,List.setIfInBounds_toArray,List.set_cons_zero,List.set_cons_succ]
         refine takeUw (i:=3) (v:=?v3_121) rfl (by kernel_rfl) (fun _ _ _ h=>h) (by rfl) ?hy3_121 (by assumption) ?rest3_121
         case hy3_121=>(intro w hSw;(try dsimp only at hSw);go_simp;try with_reducible rfl)
         try simp only [Act.put,List.setIfInBounds_toArray,List.set_cons_zero,List.set_cons_succ]
         refine takeUw (i:=4) (v:=?v4_122) rfl (by kernel_rfl) (fun _ _ _ h=>h) (by rfl) ?hy4_122 (by assumption) ?rest4_122
         case hy4_122=>(intro w hSw;(try dsimp only at hSw);go_simp;try with_reducible rfl)
         try simp only [Act.put,List.setIfInBounds_toArray,List.set_cons_zero,List.set_cons_succ]
         refine takeUw (i:=5) (v:=?v5_123) rfl (by kernel_rfl) (fun _ _ _ h=>h) (by rfl) ?hy5_123 (by assumption) ?rest5_123
         case hy5_123=>(intro w hSw;(try dsimp only at hSw);go_simp;try with_reducible rfl)
         try simp only [Act.put,List.setIfInBounds_toArray,List.set_cons_zero,List.set_cons_succ]
         refine takeUw (i:=6) (v:=?v6_124) rfl (by kernel_rfl) (fun _ _ _ h=>h) (by rfl) ?hy6_124 (by assumption) ?rest6_124
         case hy6_124=>(intro w hSw;(try dsimp only at hSw);go_simp;try with_reducible rfl)
         try simp only [Act.put,List.setIfInBounds_toArray,List.set_cons_zero,List.set_cons_succ]
         refine takeUw (i:=7) (v:=?v7_125) rfl (by kernel_rfl) (fun _ _ _ h=>h) (by rfl) ?hy7_125 (by assumption) ?rest7_125
         case hy7_125=>(intro w hSw;(try dsimp only at hSw);go_simp;try with_reducible rfl)
         try simp only [Act.put,List.setIfInBounds_toArray,List.set_cons_zero,List.set_cons_succ]
         refine takeUw (i:=8) (v:=?v8_126) rfl (by kernel_rfl) (fun _ _ _ h=>h) (by rfl) ?hy8_126 (by assumption) ?rest8_126
         case hy8_126=>(intro w hSw;(try dsimp only at hSw);go_simp;try with_reducible rfl)
         try simp only [Act.put,List.setIfInBounds_toArray,List.set_cons_zero,List.set_cons_succ]
         refine takeUw (i:=9) (v:=?v9_127) rfl (by kernel_rfl) (fun _ _ _ h=>h) (by rfl) ?hy9_127 (by assumption) ?rest9_127
         case hy9_127=>(intro w hSw;(try dsimp only at hSw);go_simp;try with_reducible rfl)
         try simp only [Act.put,List.setIfInBounds_toArray,List.set_cons_zero,List.set_cons_succ]
         refine takeUw (i:=10) (v:=?v10_128) rfl (by kernel_rfl) (fun _ _ _ h=>h) (by rfl) ?hy10_128 (by assumption) ?rest10_128
         case hy10_128=>(intro w hSw;(try dsimp only at hSw);go_simp;try with_reducible rfl)
         try simp only [Act.put,List.setIfInBounds_toArray,List.set_cons_zero,List.set_cons_succ]
         refine takeUw (i:=11) (v:=?v11_129) rfl (by kernel_rfl) (fun _ _ _ h=>h) (by rfl) ?hy11_129 (by assumption) ?rest11_129
         case hy11_129=>(intro w hSw;(try dsimp only at hSw);go_simp;try with_reducible rfl)
         try simp only [Act.put,List.setIfInBounds_toArray,List.set_cons_zero,List.set_cons_succ]
         refine takeUw (i:=12) (v:=?v12_130) rfl (by kernel_rfl) (fun _ _ _ h=>h) (by rfl) ?hy12_130 (by assumption) ?rest12_130
         case hy12_130=>(intro w hSw;(try dsimp only at hSw);go_simp;try with_reducible rfl)
         try simp only [Act.put,List.setIfInBounds_toArray,List.set_cons_zero,List.set_cons_succ]
         refine takeUw (i:=13) (v:=?v13_131) rfl (by kernel_rfl) (fun _ _ _ h=>h) (by rfl) ?hy13_131 (by assumption) ?rest13_131
         case hy13_131=>(intro w hSw;(try dsimp only at hSw);go_simp;try with_reducible rfl)
         try simp only [Act.put,List.setIfInBounds_toArray,List.set_cons_zero,List.set_cons_succ]
         refine takeUw (i:=14) (v:=?v14_132) rfl (by kernel_rfl) (fun _ _ _ h=>h) (by rfl) ?hy14_132 (by assumption) ?rest14_132
         case hy14_132=>(intro w hSw;(try dsimp only at hSw);go_simp;try with_reducible rfl)
         try simp only [Act.put,List.setIfInBounds_toArray,List.set_cons_zero,List.set_cons_succ]
         refine readyU (rs:=[15]) (by kernel_rfl) (by simp) ?_
         refine consU rfl (fun K hK=>?_) (nilU)
         have e15:=cell_later hWc117 ebb
         have f15:=frz_later hWc117 fbb lbb
         have ks:(wc117.setCell ⟨bb,t.g,none⟩ (.bool true)).cell? ⟨b18,1,none⟩=some (.int .i64 t.g)∧(wc117.setCell ⟨bb,t.g,none⟩ (.bool true)).cell? ⟨b18,2,none⟩=some (.int .i64 t.w)∧(wc117.setCell ⟨bb,t.g,none⟩ (.bool true)).cell? ⟨bi,t.g,none⟩=some (.int .i64 lv):=⟨cell_set_ne (cell_later hWc117 y1) (Or.inl n18b),cell_set_ne (cell_later hWc117 y2) (Or.inl n18b),cell_set_ne (cell_later hWc117 ebi) (Or.inl nbi.symm)⟩
         have RB9:=(RB8.out.later hWc117).set htg true
         have RI9:=(RI8.out.later hWc117).kept (G:=[bb]) ((Kept.refl [bb] wc117).setCell (p:=⟨bb,t.g,none⟩) (Or.inl (by simp)) (.bool true)) (by simpa using nbi.symm)
         have RA9:=(RA8.out.later hWc117).kept (G:=[bb]) ((Kept.refl [bb] wc117).setCell (p:=⟨bb,t.g,none⟩) (Or.inl (by simp)) (.bool true)) (by simpa using nba.symm)
         have KV9:=(KV8.out.step hWc117).setCell (p:=⟨bb,t.g,none⟩) (Or.inl (by simp)) (.bool true)
         go_simp
         refine hK.out _ _ (ks) (fun hHeld15=>?_)
         clear hK K
         try simp only [Act.put,List.setIfInBounds_toArray,List.set_cons_zero,List.set_cons_succ]
         refine takeUw (i:=16) (v:=?v16_133) rfl (by kernel_rfl) (fun _ _ _ h=>h) (by rfl) ?hy16_133 (by assumption) ?rest16_133
         case hy16_133=>(intro w hSw;(try dsimp only at hSw);go_simp;try with_reducible rfl)
         try simp only [Act.put,List.setIfInBounds_toArray,List.set_cons_zero,List.set_cons_succ]
         refine readyU (rs:=[17]) (by kernel_rfl) (by simp) ?_
         refine consV rfl (by kernel_rfl) (fun K hK=>?_) (nilU)
         have e17:=ks.2.2
         have f17:=RI9.z t.g
         go_simp
         refine hK.out _ _ ?_
         clear hK K
         try simp only [Act.put,List.setIfInBounds_toArray,List.set_cons_zero,List.set_cons_succ]
         refine doneU (by kernel_rfl) ?_ _
         have RB':=Lib.hid ((RB9.kept (G:=[bi]) ((Kept.refl [bi] (wc117.setCell ⟨bb,t.g,none⟩ (.bool true))).setCell (p:=⟨bi,t.g,none⟩) (Or.inl (by simp)) (.int .i64 (min lv t.w))) (by simpa using nbi)).congr (g:=b0K ts (k+1)) (fun j _=>by rw [HUB.out]))
         have RI':=Lib.hid ((RI9.set htg (min lv t.w)).congr (g:=l0K ts (k+1)) (fun j _=>by rw [HUL.out,HLV.out]))
         have RA':=Lib.hid (RA9.kept (G:=[bi]) ((Kept.refl [bi] (wc117.setCell ⟨bb,t.g,none⟩ (.bool true))).setCell (p:=⟨bi,t.g,none⟩) (Or.inl (by simp)) (.int .i64 (min lv t.w))) (by simpa using nia.symm))
         have KV':=Lib.hid (KV9.setCell (p:=⟨bi,t.g,none⟩) (Or.inl (by simp)) (.int .i64 (min lv t.w)))
         clear RB9 RI9 RA9 KV9 ks e15 f15 e17 f17
         go_wp2_with fail
         go_roundw
         case rel=>exact ⟨k+1,by omega,by go_num,RB',RI',RA',KV'⟩
         case measure=>simp [intOf];omega
       ·obtain rfl:k=s.c:=by omega
        have z2:decide ((s.c:Int)<(s.c:Int))=false:=decide_eq_false (by omega)
        as_aux_lemma =>
        obtain ⟨V2,rfl⟩:∃ W:World,W=wr:=⟨_,rfl⟩
        have t6v:V2.cell? ⟨b12,6,none⟩=some (.slice d4 s.n k4):=KV.out.cellAt T13.out.c6 (by simp;exact ⟨n12b,n12i,n12a⟩)
        have yn:IntKind.i64.wrap ((s.n:Int) - 1)=((s.n - 1:Nat):Int):=by rw [show (s.n:Int) - 1=((s.n - 1:Nat):Int) by omega];exact IntWalk.i64_in _ (by omega)
        have yn':wrap64 ((s.n:Int) - 1)=((s.n - 1:Nat):Int):=by rw [show (s.n:Int) - 1=((s.n - 1:Nat):Int) by omega];exact IntWalk.wrap64_in _ (by omega)
        rw [HTS.out] at RB RI
        go_wp2_with fail
        go_loopw [19] (fun iv wr=>∃ (h:Nat) (B:Nat→Bool) (L:Nat→Int),h<s.n∧iv=.int .i64 h∧Hid (dnB (parG s.Gs) h B=BF s)∧Hid (dnL (parG s.Gs) (wG s.Gs) h B L=LF s)∧Hid (FRow Value.bool wr bb s.n B)∧Hid (FRow (Value.int .i64) wr bi s.n L)∧Hid (FRow (Value.int .u64) wr ba s.n (fun _=>0))∧Hid (Kept [bb,bi,ba] V0 wr)) (fun iv _=>(intOf iv).toNat)
        case atStart=>exact ⟨s.n - 1,_,_,by omega,rfl,Lib.hid rfl,Lib.hid rfl,RB,RI,RA,KV⟩
        case round =>
         clear RB RI RA KV t6v yn yn'
         obtain ⟨h,B,L,hh,rfl,hB,hL,RB,RI,RA,KV⟩:=hrel
         by_cases hpos:0<h
         ·as_aux_lemma =>
          have z3:decide ((h:Int) > 0)=true:=decide_eq_true (by omega)
          have z3':decide (0<h)=true:=decide_eq_true hpos
          obtain ⟨k,hk⟩:∃ k,h=k+1:=⟨h - 1,by omega⟩
          have HK1:=Lib.hid hk
          have hgl:h<s.Gs.length:=hh
          have hgx:s.Gs[h]?=some s.Gs[h]!:=by rw [getElem!_pos s.Gs h hgl];exact List.getElem?_eq_getElem hgl
          obtain ⟨_,_,_,_,_,e14,gs14,-,-,-,-⟩:=S14.out.is
          cases e14
          obtain ⟨bg,og,rfl,⟨hbg,-⟩,hgc⟩:=cells_held encG_ok gs14 hgx
          have hbg3:=n3 bg hbg
          obtain ⟨p,hp⟩:∃ p,p=parG s.Gs h:=⟨_,rfl⟩
          obtain ⟨wt,hwt⟩:∃ p,p=wG s.Gs h:=⟨_,rfl⟩
          have hpn:p<s.n:=by rw [hp];have:=(HO.out.right.par hgl).2.2;omega
          have q0:wr.cell? ⟨bg,og+h*2,none⟩=some (.int .i64 (p:Int)):=by
           have:=KV.out.cellAt (hgc 0 _ rfl) hbg3
           rw [Nat.add_zero] at this
           rw [hp,(HO.out.right.par hgl).1]
           exact this
          have q1:wr.cell? ⟨bg,og+h*2+1,none⟩=some (.int .i64 wt):=by
           rw [hwt]
           exact KV.out.cellAt (hgc 1 _ rfl) hbg3
          have t2r:wr.cell? ⟨b12,2,none⟩=some (.slice (some ⟨bg,og,none⟩) s.n k0):=KV.out.cellAt T13.out.c2 (by simp;exact ⟨n12b,n12i,n12a⟩)
          have ebh:=RB.out.c h hh
          have hhi:(h:Int)<(s.n:Int):=by omega
          have hpi:(p:Int)<(s.n:Int):=by omega
          have y1:IntKind.i64.wrap ((h:Int) - 1)=(k:Int):=by rw [show (h:Int) - 1=(k:Int) by omega];exact IntWalk.i64_in _ (by omega)
          have y1':wrap64 ((h:Int) - 1)=(k:Int):=by rw [show (h:Int) - 1=(k:Int) by omega];exact IntWalk.wrap64_in _ (by omega)
          have hkn:k<s.n:=by omega
          have hkh:k<h:=by omega
          have HBd:=Lib.hid (show dnB (parG s.Gs) k (if B h=true then upd B p true else B)=BF s by rw [← hB.out,hp,hk];rfl)
          have HLd:=Lib.hid (show (if B h=true then dnL (parG s.Gs) (wG s.Gs) k (upd B p true) (upd L p (min (L p) wt)) else dnL (parG s.Gs) (wG s.Gs) k B L)=LF s by rw [← hL.out,hp,hwt,hk];rfl)
          clear hk hgx hgc gs14 hbg hp hwt hB hL hgl
          cases hbh:B h with
          | false =>
           rw [hbh] at ebh
           have HB':=Lib.hid (show dnB (parG s.Gs) k B=BF s by have:=HBd.out;rw [hbh] at this;exact this)
           have HL':=Lib.hid (show dnL (parG s.Gs) (wG s.Gs) k B L=LF s by have:=HLd.out;rw [hbh] at this;exact this)
           clear hbh
           go_wp2_with fail
           go_roundw
           case rel=>exact ⟨k,B,L,hkn,by first | rfl | go_num,HB',HL',RB,RI,RA,KV⟩
           case measure=>simp [intOf];omega
          | true =>
           rw [hbh] at ebh
           have HB':=Lib.hid (show dnB (parG s.Gs) k (upd B p true)=BF s by have:=HBd.out;rw [hbh] at this;exact this)
           have HL':=Lib.hid (show dnL (parG s.Gs) (wG s.Gs) k (upd B p true) (upd L p (min (L p) wt))=LF s by have:=HLd.out;rw [hbh] at this;exact this)
           have ebb:=RB.out.c p hpn
           have ebi:=RI.out.c p hpn
           have fbb:=RB.out.z p
           have lbb:=RB.out.lt
           have nbg:bg≠bb:=fun e=>hbg3 (by simp [e])
           obtain ⟨lv,hlv⟩:∃ l,l=L p:=⟨_,rfl⟩
           rw [← hlv] at ebi HL'
           clear hbh hlv HBd HLd
           go_wp2_with fail
           have hS0:(fun w':World=>w'.cell? ⟨b12,2,none⟩=some (.slice (some ⟨bg,og,none⟩) s.n k0)∧w'.cell? ⟨bg,og+h*2+1,none⟩=some (.int .i64 wt)∧w'.cell? ⟨bi,p,none⟩=some (.int .i64 lv)) (wr.drew):=⟨cell_dr t2r,cell_dr q1,cell_dr ebi⟩
           refine startU [19] (fun w':World=>w'.cell? ⟨b12,2,none⟩=some (.slice (some ⟨bg,og,none⟩) s.n k0)∧w'.cell? ⟨bg,og+h*2+1,none⟩=some (.int .i64 wt)∧w'.cell? ⟨bi,p,none⟩=some (.int .i64 lv)) (by kernel_rfl) hS0 (fun hHeld=>?_)
           have hS00:Below wr.heap.size wr wr:=Below.refl _ _
           obtain ⟨wc134,hwc134⟩:∃ X,X=wr.drew:=⟨_,rfl⟩
           rw [← hwc134] at hHeld ⊢
           have hWc134:Below wr.heap.size wr wc134:=by rw [hwc134];exact (Below.refl _ _).drew
           clear hwc134
           refine takeUw (i:=0) (v:=?v0_135) rfl (by kernel_rfl) (fun _ _ _ h=>h) (by rfl) ?hy0_135 (by assumption) ?rest0_135
           case hy0_135=>(intro w hSw;(try dsimp only at hSw);go_simp;try with_reducible rfl)
           try simp only [Act.put,List.setIfInBounds_toArray,List.set_cons_zero,List.set_cons_succ]
           refine takeUw (i:=1) (v:=?v1_136) rfl (by kernel_rfl) (fun _ _ _ h=>h) (by rfl) ?hy1_136 (by assumption) ?rest1_136
           case hy1_136=>(intro w hSw;(try dsimp only at hSw);go_simp;try with_reducible rfl)
           try simp only [Act.put,List.setIfInBounds_toArray,List.set_cons_zero,List.set_cons_succ]
           refine takeUw (i:=2) (v:=?v2_137) rfl (by kernel_rfl) (fun _ _ _ h=>h) (by rfl) ?hy2_137 (by assumption) ?rest2_137
           case hy2_137=>(intro w hSw;(try dsimp only at hSw);go_simp;try with_reducible rfl)
           try simp only [Act.put,List.setIfInBounds_toArray,List.set_cons_zero,List.set_cons_succ]
           refine takeUw (i:=3) (v:=?v3_138) rfl (by kernel_rfl) (fun _ _ _ h=>h) (by rfl) ?hy3_138 (by assumption) ?rest3_138
           case hy3_138=>(intro w hSw;(try dsimp only at hSw);go_simp;try with_reducible rfl)
           try simp only [Act.put,List.setIfInBounds_toArray,List.set_cons_zero,List.set_cons_succ]
           refine takeUw (i:=4) (v:=?v4_139) rfl (by kernel_rfl) (fun _ _ _ h=>h) (by rfl) ?hy4_139 (by assumption) ?rest4_139
           case hy4_139=>(intro w hSw;(try dsimp only at hSw);go_simp;try with_reducible rfl)
           try simp only [Act.put,List.setIfInBounds_toArray,List.set_cons_zero,List.set_cons_succ]
           refine takeUw (i:=5) (v:=?v5_140) rfl (by kernel_rfl) (fun _ _ _ h=>h) (by rfl) ?hy5_140 (by assumption) ?rest5_140
           case hy5_140=>(intro w hSw;(try dsimp only at hSw);go_simp;try with_reducible rfl)
           try simp only [Act.put,List.setIfInBounds_toArray,List.set_cons_zero,List.set_cons_succ]
           refine takeUw (i:=6) (v:=?v6_141) rfl (by kernel_rfl) (fun _ _ _ h=>h) (by rfl) ?hy6_141 (by assumption) ?rest6_141
           case hy6_141=>(intro w hSw;(try dsimp only at hSw);go_simp;try with_reducible rfl)
           try simp only [Act.put,List.setIfInBounds_toArray,List.set_cons_zero,List.set_cons_succ]
           refine takeUw (i:=7) (v:=?v7_142) rfl (by kernel_rfl) (fun _ _ _ h=>h) (by rfl) ?hy7_142 (by assumption) ?rest7_142
           case hy7_142=>(intro w hSw;(try dsimp only at hSw);go_simp;try with_reducible rfl)
           try simp only [Act.put,List.setIfInBounds_toArray,List.set_cons_zero,List.set_cons_succ]
           refine takeUw (i:=8) (v:=?v8_143) rfl (by kernel_rfl) (fun _ _ _ h=>h) (by rfl) ?hy8_143 (by assumption) ?rest8_143
           case hy8_143=>(intro w hSw;(try dsimp only at hSw);go_simp;try with_reducible rfl)
           try simp only [Act.put,List.setIfInBounds_toArray,List.set_cons_zero,List.set_cons_succ]
           refine takeUw (i:=9) (v:=?v9_144) rfl (by kernel_rfl) (fun _ _ _ h=>h) (by rfl) ?hy9_144 (by assumption) ?rest9_144
           case hy9_144=>(intro w hSw;(try dsimp only at hSw);go_simp;try with_reducible rfl)
           try simp only [Act.put,List.setIfInBounds_toArray,List.set_cons_zero,List.set_cons_succ]
           refine takeUw (i:=10) (v:=?v10_145) rfl (by kernel_rfl) (fun _ _ _ h=>h) (by rfl) ?hy10_145 (by assumption) ?rest10_145
           case hy10_145=>(intro w hSw;(try dsimp only at hSw);go_simp;try with_reducible rfl)
           try simp only [Act.put,List.setIfInBounds_toArray,List.set_cons_zero,List.set_cons_succ]
           refine takeUw (i:=11) (v:=?v11_146) rfl (by kernel_rfl) (fun _ _ _ h=>h) (by rfl) ?hy11_146 (by assumption) ?rest11_146
           case hy11_146=>(intro w hSw;(try dsimp only at hSw);go_simp;try with_reducible rfl)
           try simp only [Act.put,List.setIfInBounds_toArray,List.set_cons_zero,List.set_cons_succ]
           refine takeUw (i:=12) (v:=?v12_147) rfl (by kernel_rfl) (fun _ _ _ h=>h) (by rfl) ?hy12_147 (by assumption) ?rest12_147
           case hy12_147=>(intro w hSw;(try dsimp only at hSw);go_simp;try with_reducible rfl)
           try simp only [Act.put,List.setIfInBounds_toArray,List.set_cons_zero,List.set_cons_succ]
           refine takeUw (i:=13) (v:=?v13_148) rfl (by kernel_rfl) (fun _ _ _ h=>h) (by rfl) ?hy13_148 (by assumption) ?rest13_148
           case hy13_148=>(intro w hSw;(try dsimp only at hSw);go_simp;try with_reducible rfl)
           try simp only [Act.put,List.setIfInBounds_toArray,List.set_cons_zero,List.set_cons_succ]
           refine takeUw (i:=14) (v:=?v14_149) rfl (by kernel_rfl) (fun _ _ _ h=>h) (by rfl) ?hy14_149 (by assumption) ?rest14_149
           case hy14_149=>(intro w hSw;(try dsimp only at hSw);go_simp;try with_reducible rfl)
           try simp only [Act.put,List.setIfInBounds_toArray,List.set_cons_zero,List.set_cons_succ]
           refine takeUw (i:=15) (v:=?v15_150) rfl (by kernel_rfl) (fun _ _ _ h=>h) (by rfl) ?hy15_150 (by assumption) ?rest15_150
           case hy15_150=>(intro w hSw;(try dsimp only at hSw);go_simp;try with_reducible rfl)
           try simp only [Act.put,List.setIfInBounds_toArray,List.set_cons_zero,List.set_cons_succ]
           refine takeUw (i:=16) (v:=?v16_151) rfl (by kernel_rfl) (fun _ _ _ h=>h) (by rfl) ?hy16_151 (by assumption) ?rest16_151
           case hy16_151=>(intro w hSw;(try dsimp only at hSw);go_simp;try with_reducible rfl)
           try simp only [Act.put,List.setIfInBounds_toArray,List.set_cons_zero,List.set_cons_succ]
           refine readyU (rs:=[17]) (by kernel_rfl) (by simp) ?_
           refine consU rfl (fun K hK=>?_) (nilU)
           have e17:=cell_later hWc134 ebb
           have f17:=frz_later hWc134 fbb lbb
           have ks:(wc134.setCell ⟨bb,p,none⟩ (.bool true)).cell? ⟨b12,2,none⟩=some (.slice (some ⟨bg,og,none⟩) s.n k0)∧(wc134.setCell ⟨bb,p,none⟩ (.bool true)).cell? ⟨bg,og+h*2+1,none⟩=some (.int .i64 wt)∧(wc134.setCell ⟨bb,p,none⟩ (.bool true)).cell? ⟨bi,p,none⟩=some (.int .i64 lv):=⟨cell_set_ne (cell_later hWc134 t2r) (Or.inl n12b),cell_set_ne (cell_later hWc134 q1) (Or.inl nbg),cell_set_ne (cell_later hWc134 ebi) (Or.inl nbi.symm)⟩
           have RB9:=(RB.out.later hWc134).set hpn true
           have RI9:=(RI.out.later hWc134).kept (G:=[bb]) ((Kept.refl [bb] wc134).setCell (p:=⟨bb,p,none⟩) (Or.inl (by simp)) (.bool true)) (by simpa using nbi.symm)
           have RA9:=(RA.out.later hWc134).kept (G:=[bb]) ((Kept.refl [bb] wc134).setCell (p:=⟨bb,p,none⟩) (Or.inl (by simp)) (.bool true)) (by simpa using nba.symm)
           have KV9:=(KV.out.step hWc134).setCell (p:=⟨bb,p,none⟩) (Or.inl (by simp)) (.bool true)
           go_simp
           refine hK.out _ _ (ks) (fun hHeld17=>?_)
           clear hK K
           try simp only [Act.put,List.setIfInBounds_toArray,List.set_cons_zero,List.set_cons_succ]
           refine takeUw (i:=18) (v:=?v18_152) rfl (by kernel_rfl) (fun _ _ _ h=>h) (by rfl) ?hy18_152 (by assumption) ?rest18_152
           case hy18_152=>(intro w hSw;(try dsimp only at hSw);go_simp;try with_reducible rfl)
           try simp only [Act.put,List.setIfInBounds_toArray,List.set_cons_zero,List.set_cons_succ]
           refine readyU (rs:=[19]) (by kernel_rfl) (by simp) ?_
           refine consV rfl (by kernel_rfl) (fun K hK=>?_) (nilU)
           have e19:=ks.2.2
           have f19:=RI9.z p
           go_simp
           refine hK.out _ _ ?_
           clear hK K
           try simp only [Act.put,List.setIfInBounds_toArray,List.set_cons_zero,List.set_cons_succ]
           refine doneU (by kernel_rfl) ?_ _
           have RB':=Lib.hid (RB9.kept (G:=[bi]) ((Kept.refl [bi] (wc134.setCell ⟨bb,p,none⟩ (.bool true))).setCell (p:=⟨bi,p,none⟩) (Or.inl (by simp)) (.int .i64 (min lv wt))) (by simpa using nbi))
           have RI':=Lib.hid (RI9.set hpn (min lv wt))
           have RA':=Lib.hid (RA9.kept (G:=[bi]) ((Kept.refl [bi] (wc134.setCell ⟨bb,p,none⟩ (.bool true))).setCell (p:=⟨bi,p,none⟩) (Or.inl (by simp)) (.int .i64 (min lv wt))) (by simpa using nia.symm))
           have KV':=Lib.hid (KV9.setCell (p:=⟨bi,p,none⟩) (Or.inl (by simp)) (.int .i64 (min lv wt)))
           clear RB9 RI9 RA9 KV9 ks e17 f17 e19 f19
           go_wp2_with fail
           go_roundw
           case rel=>exact ⟨k,_,_,hkn,by first | rfl | go_num,HB',HL',RB',RI',RA',KV'⟩
           case measure=>simp [intOf];omega
         ·have hh0:h=0:=by omega
          have z3:decide ((h:Int) > 0)=false:=decide_eq_false (by omega)
          have z3':decide (0<h)=false:=decide_eq_false hpos
          have EB:B=BF s:=by have:=hB.out;rw [hh0] at this;exact this
          have EL:L=LF s:=by have:=hL.out;rw [hh0] at this;exact this
          clear hh0
          as_aux_lemma =>
          rw [EB] at RB
          rw [EL] at RI
          have HBF:=Lib.hid fun g (hg:g<s.n)=>BF_is HO.out HC1.out HO.out rfl rfl HC1.out hg
          obtain ⟨V3,rfl⟩:∃ W:World,W=wr:=⟨_,rfl⟩
          have RA3:=Lib.hid (RA.out.congr (g:=fun j=>if j<0 then sprV s j else 0) (fun j _=>by simp))
          clear hB hL EB EL RA
          go_wp2_with fail
          go_loopw [164] (fun iv wr=>∃ k:Nat,k≤s.n∧iv=.int .i64 k∧Hid (FRow (Value.int .u64) wr ba s.n (fun j=>if j<k then sprV s j else 0))∧Hid (Kept [ba] V3 wr)) (fun iv _=>s.n - (intOf iv).toNat)
          case atStart=>exact ⟨0,Nat.zero_le _,rfl,RA3,Lib.hid (Kept.refl _ _)⟩
          case round =>
           clear RA3
           obtain ⟨k,hk,rfl,hA,hKP⟩:=hrel
           have KW:=Lib.hid (KV.out.trans (hKP.out.mono (T:=[bb,bi,ba]) (by simp)))
           have RBw:=Lib.hid (RB.out.kept hKP.out (by simpa using nba))
           by_cases hlt:k<s.n
           ·as_aux_lemma =>
            have hki:(k:Int)<(s.n:Int):=by omega
            have z4:decide ((k:Int)<(s.n:Int))=true:=decide_eq_true hki
            have TW:=KW.out
            have hoff:b12∉[bb,bi,ba]:=by simp;exact ⟨n12b,n12i,n12a⟩
            have T15:=T13.out.kept TW hoff
            have SW:=S14.out.step (F':=[]) (TW.mono (T:=bb::bi::ba::F) (by simp)) (fun b q=>by cases q)
            have ASp:=spread_at (g:=k) (cb:=s.n) SW HO.out HC1.out hlt (RBw.out.congr (fun j q=>HBF.out j q))
            have hBk:fullQ s 0 k=fullQ s 0 k:=rfl
            replace ASp:=Lib.hid ASp
            have v0:=T15.c0
            have v1:=T15.c1
            have v2:=T15.c2
            have v3:=T15.c3
            have v4:=T15.c4
            have v5:=T15.c5
            have v6:=T15.c6
            have hBW:=Lib.hid hA.out
            clear TW SW T15 hA KW RBw
            go_wp2_with fail
            refine ASp.out.mono ?_;clear ASp;rintro e w5 ⟨rfl,hb5⟩
            have R5:=hBW.out.later hb5
            have e5:=R5.c k hlt
            have f5:=R5.z k
            have hA':=Lib.hid ((R5.set hlt (sprV s k)).congr (g:=fun j=>if j<k+1 then sprV s j else 0) (fun j _=>by
             by_cases e:j=k
             ·subst e;rw [upd_same,if_pos (by omega)]
             ·rw [upd_other _ _ e]
              by_cases q:j<k
              ·rw [if_pos q,if_pos (by omega)]
              ·rw [if_neg q,if_neg (by omega)]))
            have hK':=Lib.hid ((hKP.out.step hb5).setCell (p:=⟨ba,k,none⟩) (Or.inl (by simp)) (.int .u64 (sprV s k)))
            clear R5 hb5 v0 v1 v2 v3 v4 v5 v6 hBW
            go_wp2_with fail
            go_roundw
            case rel=>exact ⟨k+1,by omega,by go_num,hA',hK'⟩
            case measure=>simp [intOf];omega
           ·obtain rfl:k=s.n:=by omega
            have z4:decide ((s.n:Int)<(s.n:Int))=false:=decide_eq_false (by omega)
            as_aux_lemma =>
            have kvw:Kept [bb,bi,ba] V0 wr:=KW.out
            have bel:Below w.heap.size V0 wr:=kvw.below (by
             intro b q
             simp only [List.mem_cons,List.mem_nil_iff,or_false] at q
             rcases q with q | q | q <;> subst q <;> omega) H13.out.bel.size
            have X4:=H13.out.kept kvw (by
             intro b q
             simp only [List.mem_cons,List.mem_nil_iff,or_false] at q
             rcases q with q | q | q <;> subst q <;> assumption) (by
             intro b q
             simp only [List.mem_cons,List.mem_nil_iff,or_false] at q
             rcases q with q | q | q <;> subst q <;> omega)
            have hoff:b12∉[bb,bi,ba]:=by simp;exact ⟨n12b,n12i,n12a⟩
            have TI:=Lib.hid (show TrI w x s b12 bb bi ba 0 wr s F (fun j=>if j<s.n then sprV s j else 0) from
             ⟨HTf.out,X4,⟨_,_,_,_,_,_,_,T13.out.kept kvw hoff⟩,RBw.out,RI.out.kept hKP.out (by simpa using nia),hA.out,(fun g hg=>by
              rw [if_pos hg]
              have:=spr_nn HO.out HC1.out hg
              exact ⟨Int.le_refl _,this⟩),N12.out,lFb,lFi,lFa⟩)
            have HNE:=Lib.hid (show b12≠bb∧b12≠bi∧b12≠ba∧bb≠bi∧bb≠ba∧bi≠ba∧w.heap.size≤b12∧w.heap.size≤bb∧w.heap.size≤bi∧w.heap.size≤ba from ⟨n12b,n12i,n12a,nbi,nba,nia,HLB.out,by omega,by omega,by omega⟩)
            have bw:Below w.heap.size w wr:=X4.bel
            have R2w:=Lib.hid (srow_later R2.out bw)
            clear kvw bel X4 hA hKP KW RBw RB RI KV S14 T13 S13 H13 HTf n3 bw
            go_wp2_with fail
            go_loopw [184] (fun iv wr=>∃ (j:Nat) (s':SSt) (F':List Nat) (A:Nat→Int),j≤mt∧iv=.int .i64 j∧Hid (TrI w x s b12 bb bi ba j wr s' F' A)) (fun iv _=>mt - (intOf iv).toNat)
            case atStart=>exact ⟨0,_,_,_,Nat.zero_le _,rfl,TI⟩
            case round =>
             clear TI
             obtain ⟨j,s',F',A,hj,rfl,TI⟩:=hrel
             by_cases hlt:j<mt
             ·as_aux_lemma =>
              have hji:(j:Int)<(mt:Int):=by omega
              have z4:decide ((j:Int)<(mt:Int))=true:=decide_eq_true hji
              obtain ⟨bt,ot,rfl,xv,hxv,hxc⟩:=u16_cell (srow_later R2.out TI.out.xw.bel) (show j<l2 by omega)
              obtain ⟨d,hd⟩:∃ d:Int,d=1+xv % 4096:=⟨_,rfl⟩
              have hd1:1≤d∧d≤4096:=by omega
              have y0:IntKind.i64.wrap xv=xv:=IntWalk.i64_in _ (by omega)
              have y1:Int.tmod xv 4096=d - 1:=by rw [Int.tmod_eq_emod_of_nonneg hxv.1];omega
              have y2:IntKind.i64.wrap (d - 1)=d - 1:=IntWalk.i64_in _ (by omega)
              have y3:IntKind.i64.wrap (1+(d - 1))=d:=by rw [show 1+(d - 1)=d by omega];exact IntWalk.i64_in _ (by omega)
              have y3':wrap64 (1+(d - 1))=d:=by rw [show 1+(d - 1)=d by omega];exact IntWalk.wrap64_in _ (by omega)
              obtain ⟨g1,g2,g3,g4,g5,g6⟩:=TI.out.tf.turn HO.out HC1.out hd1 (show j≤80 by omega)
              obtain ⟨sa,hsa⟩:∃ t,t=(doR s' (pkO 0)).2.2:=⟨_,rfl⟩
              obtain ⟨sb,hsb⟩:∃ t,t=(doR sa (tkO d)).2.2:=⟨_,rfl⟩
              rw [← hsa] at g3 g4 g5 g6
              rw [← hsb] at g5 g6
              obtain ⟨f0,hf0⟩:∃ f,f=fstV s' 0:=⟨_,rfl⟩
              rw [← hf0] at g2 g3
              have OKA:=Lib.hid (show SOk sa by rw [hsa];exact TI.out.tf.ok.done (pkO_wf (by decide)))
              have B1:=Lib.hid fun W (hb:Below wr.heap.size wr W)=>(show Calls Tryz.prog 17 #[.pointer (some ⟨x,0,none⟩),.agg #[.int .u8 6,.int .i64 0,.int .i64 0,.int .i64 0,.int .i64 0,.int .i64 0,.int .i64 0,.int .u64 0]] W fun e w'=>e=.returned (.tuple #[.int .i64 f0,.int .i64 0])∧SAfter W x F' sa w' by
               have q:=DoX_at (TI.out.xw.later hb).inn TI.out.tf.ok (o:=pkO 0) (pkO_wf (by decide))
               rw [g2,g1,← hsa] at q
               exact q)
              have B2:=Lib.hid fun W Fa (hX:XW w x sa W Fa)=>(show Calls Tryz.prog 17 #[.pointer (some ⟨x,0,none⟩),.agg #[.int .u8 5,.int .i64 0,.int .i64 0,.int .i64 0,.int .i64 0,.int .i64 0,.int .i64 d,.int .u64 0]] W fun e w'=>e=.returned (.tuple #[.int .i64 f0,.int .i64 0])∧SAfter W x Fa sb w' by
               have q:=DoX_at hX.inn OKA.out (o:=tkO d) (tkO_wf ⟨by omega,hd1.2⟩)
               rw [g3,g4,← hsb] at q
               exact q)
              have HG5:=Lib.hid g5
              have HG6:=Lib.hid g6
              have hz5:(f0 != f0)=false:=by simp
              have hxc':=hxc
              clear hd g1 g2 g3 g4 g5 g6 hsa hsb hf0 hxc
              go_wp2_with fail
              refine (B1.out wr (Below.refl _ _)).mono ?_;clear B1;rintro e w21 ⟨rfl,hA1⟩
              obtain ⟨F1',x1,t1⟩:=TI.out.xw.step hA1
              have X1:=Lib.hid x1
              have K1:=Lib.hid t1
              have B2':=Lib.hid (B2.out w21 F1' x1)
              clear hA1 x1 t1 B2 hxc'
              go_wp2_with fail
              refine B2'.out.mono ?_;clear B2';rintro e w22 ⟨rfl,hA2⟩
              obtain ⟨F2',x2,t2⟩:=X1.out.step hA2
              have X2:=Lib.hid x2
              have K2:=Lib.hid t2
              have B3:=Lib.hid (StateY_at x2.inn HG5.out.ok)
              clear hA2 x2 t2
              go_wp2_with fail
              refine B3.out.mono ?_;clear B3;rintro e w23 ⟨d0,k0,d1,k1,d2,k2,d3,k3,d4,k4,rfl,hSt,hb23⟩
              obtain ⟨hNE1,hNE2,hNE3,hNE4,hNE5,hNE6,hNE7,hNE8,hNE9,hNE10⟩:=HNE.out
              have l12:b12<wr.heap.size:=by obtain ⟨C,cr,v0,v1,v2,v3,v4,q⟩:=TI.out.st;exact q.lt
              have o121:=K1.out.off TI.out.f1 l12
              have o122:=K2.out.off o121 (Nat.lt_of_lt_of_le l12 K1.out.kept.size)
              have ob1:=K1.out.off TI.out.f2 TI.out.hb.lt
              have ob2:=K2.out.off ob1 (Nat.lt_of_lt_of_le TI.out.hb.lt K1.out.kept.size)
              have oi1:=K1.out.off TI.out.f3 TI.out.hi.lt
              have oi2:=K2.out.off oi1 (Nat.lt_of_lt_of_le TI.out.hi.lt K1.out.kept.size)
              have oa1:=K1.out.off TI.out.f4 TI.out.ha.lt
              have oa2:=K2.out.off oa1 (Nat.lt_of_lt_of_le TI.out.ha.lt K1.out.kept.size)
              have RB3:=((TI.out.hb.kept K1.out.kept TI.out.f2).kept K2.out.kept ob1).later hb23
              have RI3:=((TI.out.hi.kept K1.out.kept TI.out.f3).kept K2.out.kept oi1).later hb23
              have RA3:=((TI.out.ha.kept K1.out.kept TI.out.f4).kept K2.out.kept oa1).later hb23
              obtain ⟨C0,cr0,v0,v1,v2,v3,v4,hst0⟩:=TI.out.st
              have ST3:=((hst0.kept K1.out.kept TI.out.f1).kept K2.out.kept o121).later hb23
              have l12b:b12<w22.heap.size:=Nat.lt_of_lt_of_le (Nat.lt_of_lt_of_le l12 K1.out.kept.size) K2.out.kept.size
              have lab:ba<w22.heap.size:=Nat.lt_of_lt_of_le (Nat.lt_of_lt_of_le TI.out.ha.lt K1.out.kept.size) K2.out.kept.size
              have HS3:=hSt [b12,ba] (by
               intro b q
               simp only [List.mem_cons,List.mem_nil_iff,or_false] at q
               rcases q with q | q <;> subst q <;> assumption)
              obtain ⟨W25,hW25⟩:∃ X,X=fillB w23 b12 sb.C sb.cr (.slice d0 sb.n k0) (.slice d1 sb.C k1) (.slice d2 sb.C k2) (.slice d3 sb.c k3) (.slice d4 sb.n k4):=⟨_,rfl⟩
              have kx:Kept [b12] w23 W25:=by rw [hW25];exact fillB_kept
              have T25:=Lib.hid (show StB W25 b12 sb.C sb.cr (.slice d0 sb.n k0) (.slice d1 sb.C k1) (.slice d2 sb.C k2) (.slice d3 sb.c k3) (.slice d4 sb.n k4) by rw [hW25];exact ST3.fill)
              have q0:=ST3.c0
              have q1:=ST3.c1
              have q2:=ST3.c2
              have q3:=ST3.c3
              have q4:=ST3.c4
              have q5:=ST3.c5
              have q6:=ST3.c6
              have g0_:=ST3.z 0
              have g1_:=ST3.z 1
              have g2_:=ST3.z 2
              have g3_:=ST3.z 3
              have g4_:=ST3.z 4
              have g5_:=ST3.z 5
              have g6_:=ST3.z 6
              have HS25:=Lib.hid (HS3.step (F':=[b12,ba]) (kx.mono (by simp)) (fun b q=>Or.inl q))
              have RB25:=Lib.hid (RB3.kept kx (by simpa using hNE1.symm))
              have RI25:=Lib.hid (RI3.kept kx (by simpa using hNE2.symm))
              have RA25:=Lib.hid (RA3.kept kx (by simpa using hNE3.symm))
              have X25:=Lib.hid ((X2.out.later hb23).kept kx (by simpa using o122) (by simpa using hNE7))
              have HN:=Lib.hid (show sb.n=s.n by unfold SSt.n;rw [HG5.out.Gs])
              have HMM:=Lib.hid fun g (hg:g<s.n)=>HG6.out g hg (TI.out.xw.inn.mems (g:=g) (k:=0) (by unfold SSt.n;rw [TI.out.tf.Gs];exact hg) (by rw [TI.out.tf.C];exact Nat.one_pos)) (X2.out.inn.mems (g:=g) (k:=0) (by rw [HN.out];exact hg) (by rw [HG5.out.C];exact Nat.one_pos))
              have HAP:=Lib.hid TI.out.ap
              have HBb:=Lib.hid fun g (hg:g<s.n)=>BF_is HO.out HC1.out HG5.out.ok HG5.out.T HG5.out.Gs HG5.out.C hg
              have HOF:=Lib.hid (show b12∉F2'∧bb∉F2'∧bi∉F2'∧ba∉F2' from ⟨o122,ob2,oi2,oa2⟩)
              unfold fillB at hW25
              have HW25:=Lib.hid hW25
              have hzn:((sb.n:Int) != (s.n:Int))=false:=by rw [HN.out];simp
              have uu6:=T25.out.c6
              clear hSt hb23 RB3 RI3 RA3 HS3 kx hW25 ST3 hst0 TI X1 X2 K1 K2 HG6
              go_upto_region 45 with fail
              rw [← HW25.out]
              clear HW25 q0 q1 q2 q3 q4 q5 q6 g0_ g1_ g2_ g3_ g4_ g5_ g6_
              go_wp2_with fail
              go_loopw [231] (fun iv wr=>∃ (k:Nat) (A':Nat→Int),k≤s.n∧iv=.int .i64 k∧Hid (FRow (Value.int .u64) wr ba s.n A')∧Hid (∀ g,g<s.n→A' g=if g<k then max (A g) (mostA (LF s g) d) else A g)∧Hid (Kept [ba] W25 wr)) (fun iv _=>s.n - (intOf iv).toNat)
              case atStart=>exact ⟨0,A,Nat.zero_le _,rfl,RA25,Lib.hid (fun g _=>by simp),Lib.hid (Kept.refl _ _)⟩
              case round =>
               clear RA25
               obtain ⟨k,A',hk,rfl,RA,HA',hKP⟩:=hrel
               by_cases hltk:k<s.n
               ·as_aux_lemma =>
                have hki:(k:Int)<(s.n:Int):=by omega
                have z5:decide ((k:Int)<(s.n:Int))=true:=decide_eq_true hki
                have SW:=HS25.out.step (F':=[]) (hKP.out.mono (T:=[b12,ba]) (by simp)) (fun b q=>by cases q)
                have RBw:=RB25.out.kept hKP.out (by simpa using hNE5)
                have RIw:=RI25.out.kept hKP.out (by simpa using hNE6)
                have ASp:=spread_at (s:=sb) (g:=k) (bb:=bb) (cb:=s.n) SW HG5.out.ok HG5.out.C (by rw [HN.out];exact hltk) (by rw [HN.out];exact RBw.congr (fun j q=>HBb.out j q))
                rw [← HBb.out k hltk] at ASp
                obtain ⟨sp,hsp⟩:∃ v,v=sprV sb k:=⟨_,rfl⟩
                obtain ⟨bz,hbz⟩:∃ v,v=BF s k:=⟨_,rfl⟩
                obtain ⟨lw,hlw⟩:∃ v,v=LF s k:=⟨_,rfl⟩
                obtain ⟨tm,htm⟩:∃ v,v=mostA lw d:=⟨_,rfl⟩
                obtain ⟨ak,hak⟩:∃ v,v=A k:=⟨_,rfl⟩
                have hlw1:=LF_in HO.out hltk
                have eb:=RBw.c k hltk
                have ei:=RIw.c k hltk
                have ea:=RA.out.c k hltk
                rw [← hbz] at eb
                rw [← hlw] at ei hlw1
                rw [HA'.out k hltk,if_neg (by omega),← hak] at ea
                have hsle:sp≤max ak tm:=by
                 rw [hsp,hak,htm,hlw]
                 have h1:=HMM.out k hltk
                 have h2:=(HAP.out k hltk).1
                 omega
                have hain:0≤ak∧ak≤18446744073709551615:=by rw [hak];exact (HAP.out k hltk).2
                have htin:=most_in hlw1 hd1
                rw [← htm] at htin
                have AM:=Lib.hid fun W=>Most_eq lw d tm W hlw1 (by omega) htm.symm
                rw [← hsp,← hbz] at ASp
                rw [HN.out] at ASp
                replace ASp:=Lib.hid ASp
                have T26:=T25.out.kept hKP.out (by simpa using hNE3)
                have v0_:=T26.c0
                have v1_:=T26.c1
                have v2_:=T26.c2
                have v3_:=T26.c3
                have v4_:=T26.c4
                have v5_:=T26.c5
                have v6_:=T26.c6
                rw [HN.out] at v2_ v6_
                have z6:(bz != bz)=false:=by simp
                have z7:decide (sp > max ak tm)=false:=decide_eq_false (by omega)
                have z7':decide (max ak tm<sp)=false:=decide_eq_false (by omega)
                have RA9:=Lib.hid RA.out
                have HSET:=Lib.hid (show ∀ g,g<s.n→upd A' k (max ak tm) g=if g<k+1 then max (A g) (mostA (LF s g) d) else A g from fun g hg=>by
                 by_cases e:g=k
                 ·subst e;rw [upd_same,if_pos (by omega),hak,htm,hlw]
                 ·rw [upd_other _ _ e,HA'.out g hg]
                  by_cases q:g<k
                  ·rw [if_pos q,if_pos (by omega)]
                  ·rw [if_neg q,if_neg (by omega)])
                clear SW RBw RIw RA T26 hsp hbz hlw htm hak hsle hain htin HMM HAP HBb
                go_wp2_with fail
                refine ASp.out.mono ?_;clear ASp;rintro e w31 ⟨rfl,hb31⟩
                replace eb:=cell_later hb31 eb
                replace ei:=cell_later hb31 ei
                replace ea:=cell_later hb31 ea
                clear v0_ v1_ v2_ v3_ v4_ v5_ v6_
                go_wp2_with fail
                refine (AM.out _).mono ?_;clear AM;rintro e w32 ⟨rfl,hb32⟩
                replace eb:=cell_later hb32 eb
                replace ea:=cell_later hb32 ea
                have R32:=RA9.out.later (Below.step hb31 hb32)
                have fa:=R32.z k
                have RA':=Lib.hid (R32.set hltk (max ak tm))
                have hK':=Lib.hid ((hKP.out.step (Below.step hb31 hb32)).setCell (p:=⟨ba,k,none⟩) (Or.inl (by simp)) (.int .u64 (max ak tm)))
                clear R32 hb31 hb32 ei RA9 hKP
                go_wp2_with fail
                go_roundw
                case rel=>exact ⟨k+1,_,by omega,by go_num,RA',HSET,hK'⟩
                case measure=>simp [intOf];omega
               ·obtain rfl:k=s.n:=by omega
                have z5:decide ((s.n:Int)<(s.n:Int))=false:=decide_eq_false (by omega)
                have TI':=Lib.hid (show TrI w x s b12 bb bi ba (j+1) wr sb F2' A' from
                 ⟨HG5.out,X25.out.kept hKP.out (by simpa using HOF.out.2.2.2) (by simpa using hNE10),⟨_,_,_,_,_,_,_,T25.out.kept hKP.out (by simpa using hNE3)⟩,RB25.out.kept hKP.out (by simpa using hNE5),RI25.out.kept hKP.out (by simpa using hNE6),RA.out,(fun g hg=>by
                  rw [HA'.out g hg,if_pos hg]
                  have h1:=HMM.out g hg
                  have h2:=HAP.out g hg
                  have h3:=most_in (LF_in HO.out hg) hd1
                  omega),HOF.out.1,HOF.out.2.1,HOF.out.2.2.1,HOF.out.2.2.2⟩)
                clear RA hKP HA' HMM HAP HBb RB25 RI25 X25 HS25 T25
                go_wp2_with fail
                go_roundw
                case rel=>exact ⟨j+1,sb,F2',A',by omega,by go_num,TI'⟩
                case measure=>simp [intOf];omega
             ·obtain rfl:j=mt:=by omega
              have z4:decide ((j:Int)<(j:Int))=false:=decide_eq_false (by omega)
              have HBL:=Lib.hid TI.out.xw.bel
              clear TI
              go_wp2_with fail
              go_ret
              exact ⟨rfl,HBL.out⟩
end Go.Proofs.YtapnaocdehahdaaGreat
