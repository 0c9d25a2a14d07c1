/-
  Layer 25's statements: Groups.
-/
import Derived.Test.YtfgmglghlapbcaaGreatPickT
namespace Go.Proofs.YtfgmglghlapbcaaGreat
open Go.RowKit Go.Maps Go.IntWalk Go.Lib Go.Sort Go.Shelf
set_option linter.unusedVariables false
set_option linter.unusedSimpArgs false
def Ex:Grps:=[(0,1),(0,1024),(1,1)]
theorem right_ex:RightG Ex:=by
 have h1:upL (parG Ex) 1=[1,0]:=by rw [upL_pos (by decide) (by decide),show parG Ex 1=0 from rfl,upL_zero]
 have h2:upL (parG Ex) 2=[2,1,0]:=by rw [upL_pos (by decide) (by decide),show parG Ex 2=1 from rfl,h1]
 refine ⟨by decide,by decide,rfl,fun g h0 hl=>?_⟩
 have hl':g<3:=hl
 obtain rfl | rfl:g=1∨g=2:=by omega
 ·unfold gErr;rw [h1];rfl
 ·unfold gErr;rw [h2];rfl
theorem Example_at (w:World):Calls Tryz.prog 33 #[] w fun e w'=>e=.returned (.slice (some ⟨w.heap.size,0,none⟩) 3 3)∧w'=w.alloc (.cells #[.int .i64 0,.int .i64 1,.int .i64 0,.int .i64 1024,.int .i64 1,.int .i64 1] 53):=by
 go_enter Tryz.func33,Tryz.ntmps33
 go_wp2_with fail
 go_ret
 exact ⟨rfl,rfl⟩
theorem ex_recs (w:World):RecsAt encG (w.alloc (.cells #[.int .i64 0,.int .i64 1,.int .i64 0,.int .i64 1024,.int .i64 1,.int .i64 1] 53)) (.slice (some ⟨w.heap.size,0,none⟩) 3 3) Ex:=lit_recs encG_ok w Ex 53 (by decide)
def downB (s:TSt):Bool:=(List.range s.n).all fun g=>(s.M g).isEmpty || (decide (firstI (s.M g)<65536) || (decide (g<(firstI (s.M g) - 65536).toNat) && decide ((firstI (s.M g) - 65536).toNat<s.n)))
theorem down_of {s:TSt} (h:downB s=true):DownT s:=fun g hg h1 h2=>by
 have:=(List.all_eq_true.1 h) g (List.mem_range.2 hg)
 rw [h1] at this
 simp only [Bool.false_or,Bool.or_eq_true,decide_eq_true_eq,Bool.and_eq_true] at this
 rcases this with q | ⟨q1,q2⟩
 ·omega
 ·exact ⟨(firstI (s.M g) - 65536).toNat,by omega,q1,q2⟩
theorem row3 {w:World} {b:Nat} {x y z:Int} (h0:w.cell? ⟨b,0,none⟩=some (.int .i64 x)) (h1:w.cell? ⟨b,1,none⟩=some (.int .i64 y)) (h2:w.cell? ⟨b,2,none⟩=some (.int .i64 z)):RowAt .i64 w (some ⟨b,0,none⟩) 3 [x,y,z]:=
 ⟨rfl,fun _=>⟨b,0,rfl,fun i v hv=>by
  rw [Nat.zero_add]
  match i,hv with
  | 0,hv=>simp at hv;subst hv;exact h0
  | 1,hv=>simp at hv;subst hv;exact h1
  | 2,hv=>simp at hv;subst hv;exact h2
  | n+3,hv=>simp at hv⟩⟩
def S0:TSt:=newT Ex 10
def S1:TSt:=spawnS S0 7 2 1
def S2:TSt:=pchgS S1 7 1
def S3:TSt:=spawnS S2 8 0 1
def S4:TSt:=plvS S3 7
def S5:TSt:=pchgS S4 8 1
def S6:TSt:=wakeS S5 7 2 (1048576,0,1)
theorem down1:DownT S1:=down_of (by kernel_rfl)
theorem down3:DownT S3:=down_of (by kernel_rfl)
theorem down4:DownT S4:=down_of (by kernel_rfl)
theorem down6:DownT S6:=down_of (by kernel_rfl)
theorem e1:spawnX S0 7 2 1=(0,0,1)∧spawnC S0 7 2 1=0:=⟨by kernel_rfl,by kernel_rfl⟩
theorem e2:leadT S1=(7,[0,1,2]):=by kernel_rfl
theorem e3:pchgC S1 7 1=0:=by kernel_rfl
theorem e4:pSpotV S2 1=(1024,0,1048576)∧pSpotC S2 1=0:=⟨by kernel_rfl,by kernel_rfl⟩
theorem e5:pSpotV S2 2=(1048576,0,1048576)∧pSpotC S2 2=0:=⟨by kernel_rfl,by kernel_rfl⟩
theorem e6:spawnX S2 8 0 1=(1024,0,1)∧spawnC S2 8 0 1=0:=⟨by kernel_rfl,by kernel_rfl⟩
theorem e7:leadT S3=(8,[0]):=by kernel_rfl
theorem e8:plvX S3 7=(1048576,0,1)∧findC S3 7=0:=⟨by kernel_rfl,by kernel_rfl⟩
theorem e9:leadT S4=(8,[0]):=by kernel_rfl
theorem e10:pchgC S4 8 1=0:=by kernel_rfl
theorem e11:wakeX S5 7 2 (1048576,0,1)=(1048576,0,1)∧wakeC S5 7 2 (1048576,0,1)=0:=⟨by kernel_rfl,by kernel_rfl⟩
theorem e12:pSpotV S6 1=(1049590,0,1048576)∧pSpotC S6 1=0:=⟨by kernel_rfl,by kernel_rfl⟩
theorem e13:pSpotV S6 0=(0,0,1049600)∧pSpotC S6 0=0:=⟨by kernel_rfl,by kernel_rfl⟩
theorem e14:leadT S6=(7,[0,1,2]):=by kernel_rfl
theorem e15:loadTo S6 S6.n=2:=by kernel_rfl
theorem e16:S6.c=2:=by kernel_rfl
set_option maxRecDepth 100000 in
set_option maxHeartbeats 4000000 in
theorem awake_at (w:World):Calls Tryz.prog 20 #[] w fun e w'=>e=.returned (.bool true)∧Below w.heap.size w w':=by
 have A0:=Lib.hid fun W Gs v (h:RecsAt encG W v Gs) (hr:RightG Gs)=>pNew_at v Gs 10 W h hr (by decide)
 have A00:=Lib.hid Example_at
 go_enter Tryz.func20,Tryz.ntmps20
 go_wp2_with fail
 refine (A00.out _).mono ?_;rintro e wa ⟨rfl,rfl⟩
 go_wp2_with fail
 refine (A0.out _ Ex _ (ex_recs _) right_ex).mono ?_;rintro e w0 ⟨t,F0,rfl,hT,hF,hb⟩
 have HT:=Lib.hid (show TreeIn w0 t F0 S0 from hT)
 have HB:=Lib.hid (Below.step (below_a w _) hb)
 have HF:=Lib.hid (show ∀ b∈F0,w.heap.size≤b from fun b hb=>by have:=hF b hb;simp at this;omega)
 clear hT hF hb
 have A:=pSpawn_at 7 2 1 _ HT.out rfl rfl rfl
 rw [e1.1] at A
 rw [e1.2] at A
 try dsimp only at A
 replace A:=Lib.hid A
 go_wp2_with fail
 refine A.out.mono ?_;clear A;rintro e w1 ⟨rfl,F1,hT1,s1⟩
 have hq:=s1.below HF.out HB.out.size
 replace HB:=Lib.hid (HB.out.trans hq.1)
 replace HF:=Lib.hid hq.2
 replace HT:=Lib.hid hT1
 clear hq hT1 s1
 replace HT:=Lib.hid (show TreeIn w1 t F1 S1 from HT.out)
 have G_x:=Lib.hid HB.out.size
 have x_n:=cell_nw w1 #[.int .u64 0,.int .u32 0,.int .u32 1] 40
 have x0:=x_n 0 _ rfl
 have x1:=x_n 1 _ rfl
 have x2:=x_n 2 _ rfl
 clear x_n
 have hbn:=below_a w1 (.cells #[.int .u64 0,.int .u32 0,.int .u32 1] 40)
 have N_x:=Lib.hid (show w1.heap.size∉F1 from fun m=>Nat.lt_irrefl _ (HT.out.lt _ m))
 have L_x:=Lib.hid (show w1.heap.size<(w1.alloc (.cells #[.int .u64 0,.int .u32 0,.int .u32 1] 40)).heap.size by simp)
 replace HT:=Lib.hid (HT.out.below hbn)
 replace HB:=Lib.hid (Below.step HB.out hbn)
 clear hbn
 have HLT:=Lib.hid HT.out.lt
 have A:=pChain_at _ HT.out down1
 rw [e2] at A
 try dsimp only at A
 replace A:=Lib.hid A
 go_wp2_with fail
 refine A.out.mono ?_;clear A;rintro e w2 ⟨v5,rfl,own5,hb2⟩
 have hb:=hb2
 replace x0:=cell_later hb x0
 replace x1:=cell_later hb x1
 replace x2:=cell_later hb x2
 replace L_x:=Lib.hid (Nat.lt_of_lt_of_le L_x.out (hb.size))
 replace HT:=Lib.hid (HT.out.below hb)
 replace HB:=Lib.hid (Below.step HB.out hb)
 clear hb
 clear hb2
 replace own5:w2.ownsRow _ 3 1 v5 (2+1) (intsV [0,1,2]):=own5
 obtain ⟨g5,c5,rfl⟩:=own_some own5
 have N_r:=Lib.hid (show g5∉F1 from fun m=>by have:=HLT.out _ m;have:=(own5.lt g5 rfl).1;omega)
 have L_r:=Lib.hid (own5.lt g5 rfl).2
 have r0:w2.cell? ⟨g5,0,none⟩=some (.int .i64 0):=own5.cellAt 0 (by decide)
 have r1:w2.cell? ⟨g5,1,none⟩=some (.int .i64 1):=own5.cellAt 1 (by decide)
 have r2:w2.cell? ⟨g5,2,none⟩=some (.int .i64 2):=own5.cellAt 2 (by decide)
 clear own5 HLT
 have A:=pCharge_at 7 1 _ HT.out rfl rfl
 rw [e3] at A
 try dsimp only at A
 replace A:=Lib.hid A
 go_wp2_with fail
 refine A.out.mono ?_;clear A;rintro e w3 ⟨rfl,F3,hT3,s3⟩
 replace x0:=s3.cell N_x.out x0
 replace x1:=s3.cell N_x.out x1
 replace x2:=s3.cell N_x.out x2
 replace r0:=s3.cell N_r.out r0
 replace r1:=s3.cell N_r.out r1
 replace r2:=s3.cell N_r.out r2
 replace N_x:=Lib.hid (s3.off N_x.out (by have:=L_x.out;first | omega | (simp;omega)))
 replace N_r:=Lib.hid (s3.off N_r.out (by have:=L_r.out;first | omega | (simp;omega)))
 replace L_x:=Lib.hid (Nat.lt_of_lt_of_le L_x.out (s3.kept.size))
 replace L_r:=Lib.hid (Nat.lt_of_lt_of_le L_r.out (s3.kept.size))
 have hq:=s3.below HF.out HB.out.size
 replace HB:=Lib.hid (HB.out.trans hq.1)
 replace HF:=Lib.hid hq.2
 replace HT:=Lib.hid hT3
 clear hq hT3 s3
 replace HT:=Lib.hid (show TreeIn w3 t F3 S2 from HT.out)
 have A:=pSpot_at 1 _ HT.out
 rw [e4.1] at A
 rw [e4.2] at A
 try dsimp only at A
 replace A:=Lib.hid A
 go_wp2_with fail
 refine A.out.mono ?_;clear A;rintro e w4 ⟨rfl,hb4⟩
 have hb:=hb4
 replace x0:=cell_later hb x0
 replace x1:=cell_later hb x1
 replace x2:=cell_later hb x2
 replace r0:=cell_later hb r0
 replace r1:=cell_later hb r1
 replace r2:=cell_later hb r2
 replace L_x:=Lib.hid (Nat.lt_of_lt_of_le L_x.out (hb.size))
 replace L_r:=Lib.hid (Nat.lt_of_lt_of_le L_r.out (hb.size))
 replace HT:=Lib.hid (HT.out.below hb)
 replace HB:=Lib.hid (Below.step HB.out hb)
 clear hb
 clear hb4
 have G_o:=Lib.hid HB.out.size
 have o_n:=cell_nw w4 #[.int .u64 1024,.int .u32 0,.int .u64 1048576] 55
 have o0:=o_n 0 _ rfl
 have o1:=o_n 1 _ rfl
 have o2:=o_n 2 _ rfl
 clear o_n
 have hbn:=below_a w4 (.cells #[.int .u64 1024,.int .u32 0,.int .u64 1048576] 55)
 have N_o:=Lib.hid (show w4.heap.size∉F3 from fun m=>Nat.lt_irrefl _ (HT.out.lt _ m))
 have L_o:=Lib.hid (show w4.heap.size<(w4.alloc (.cells #[.int .u64 1024,.int .u32 0,.int .u64 1048576] 55)).heap.size by simp)
 replace x0:=cell_later hbn x0
 replace x1:=cell_later hbn x1
 replace x2:=cell_later hbn x2
 replace r0:=cell_later hbn r0
 replace r1:=cell_later hbn r1
 replace r2:=cell_later hbn r2
 replace L_x:=Lib.hid (Nat.lt_of_lt_of_le L_x.out (hbn.size))
 replace L_r:=Lib.hid (Nat.lt_of_lt_of_le L_r.out (hbn.size))
 replace HT:=Lib.hid (HT.out.below hbn)
 replace HB:=Lib.hid (Below.step HB.out hbn)
 clear hbn
 have of0:=frz_nw w4 #[.int .u64 1024,.int .u32 0,.int .u64 1048576] 55 0
 have of1:=frz_nw w4 #[.int .u64 1024,.int .u32 0,.int .u64 1048576] 55 1
 have of2:=frz_nw w4 #[.int .u64 1024,.int .u32 0,.int .u64 1048576] 55 2
 have A:=pSpot_at 2 _ HT.out
 rw [e5.1] at A
 rw [e5.2] at A
 try dsimp only at A
 replace A:=Lib.hid A
 go_wp2_with fail
 refine A.out.mono ?_;clear A;rintro e w5 ⟨rfl,hb5⟩
 have hb:=hb5
 replace x0:=cell_later hb x0
 replace x1:=cell_later hb x1
 replace x2:=cell_later hb x2
 replace r0:=cell_later hb r0
 replace r1:=cell_later hb r1
 replace r2:=cell_later hb r2
 replace o0:=cell_later hb o0
 replace o1:=cell_later hb o1
 replace o2:=cell_later hb o2
 replace of0:=frz_later hb of0 L_o.out
 replace of1:=frz_later hb of1 L_o.out
 replace of2:=frz_later hb of2 L_o.out
 replace L_x:=Lib.hid (Nat.lt_of_lt_of_le L_x.out (hb.size))
 replace L_r:=Lib.hid (Nat.lt_of_lt_of_le L_r.out (hb.size))
 replace L_o:=Lib.hid (Nat.lt_of_lt_of_le L_o.out (hb.size))
 replace HT:=Lib.hid (HT.out.below hb)
 replace HB:=Lib.hid (Below.step HB.out hb)
 clear hb
 clear hb5
 have G_p:=Lib.hid HB.out.size
 have p_n:=cell_nw w5 #[.int .u64 1048576,.int .u32 0,.int .u64 1048576] 55
 have p0:=p_n 0 _ rfl
 have p1:=p_n 1 _ rfl
 have p2:=p_n 2 _ rfl
 clear p_n
 have hbn:=below_a w5 (.cells #[.int .u64 1048576,.int .u32 0,.int .u64 1048576] 55)
 have N_p:=Lib.hid (show w5.heap.size∉F3 from fun m=>Nat.lt_irrefl _ (HT.out.lt _ m))
 have L_p:=Lib.hid (show w5.heap.size<(w5.alloc (.cells #[.int .u64 1048576,.int .u32 0,.int .u64 1048576] 55)).heap.size by simp)
 replace x0:=cell_later hbn x0
 replace x1:=cell_later hbn x1
 replace x2:=cell_later hbn x2
 replace r0:=cell_later hbn r0
 replace r1:=cell_later hbn r1
 replace r2:=cell_later hbn r2
 replace o0:=cell_later hbn o0
 replace o1:=cell_later hbn o1
 replace o2:=cell_later hbn o2
 replace of0:=frz_later hbn of0 L_o.out
 replace of1:=frz_later hbn of1 L_o.out
 replace of2:=frz_later hbn of2 L_o.out
 replace L_x:=Lib.hid (Nat.lt_of_lt_of_le L_x.out (hbn.size))
 replace L_r:=Lib.hid (Nat.lt_of_lt_of_le L_r.out (hbn.size))
 replace L_o:=Lib.hid (Nat.lt_of_lt_of_le L_o.out (hbn.size))
 replace HT:=Lib.hid (HT.out.below hbn)
 replace HB:=Lib.hid (Below.step HB.out hbn)
 clear hbn
 have A:=pSpawn_at 8 0 1 _ HT.out rfl rfl rfl
 rw [e6.1] at A
 rw [e6.2] at A
 try dsimp only at A
 replace A:=Lib.hid A
 go_wp2_with fail
 refine A.out.mono ?_;clear A;rintro e w6 ⟨rfl,F6,hT6,s6⟩
 replace x0:=s6.cell N_x.out x0
 replace x1:=s6.cell N_x.out x1
 replace x2:=s6.cell N_x.out x2
 replace r0:=s6.cell N_r.out r0
 replace r1:=s6.cell N_r.out r1
 replace r2:=s6.cell N_r.out r2
 replace o0:=s6.cell N_o.out o0
 replace o1:=s6.cell N_o.out o1
 replace o2:=s6.cell N_o.out o2
 replace p0:=s6.cell N_p.out p0
 replace p1:=s6.cell N_p.out p1
 replace p2:=s6.cell N_p.out p2
 replace of0:=s6.kept.frz of0 L_o.out N_o.out
 replace of1:=s6.kept.frz of1 L_o.out N_o.out
 replace of2:=s6.kept.frz of2 L_o.out N_o.out
 replace N_x:=Lib.hid (s6.off N_x.out (by have:=L_x.out;first | omega | (simp;omega)))
 replace N_r:=Lib.hid (s6.off N_r.out (by have:=L_r.out;first | omega | (simp;omega)))
 replace N_o:=Lib.hid (s6.off N_o.out (by have:=L_o.out;first | omega | (simp;omega)))
 replace N_p:=Lib.hid (s6.off N_p.out (by have:=L_p.out;first | omega | (simp;omega)))
 replace L_x:=Lib.hid (Nat.lt_of_lt_of_le L_x.out (s6.kept.size))
 replace L_r:=Lib.hid (Nat.lt_of_lt_of_le L_r.out (s6.kept.size))
 replace L_o:=Lib.hid (Nat.lt_of_lt_of_le L_o.out (s6.kept.size))
 replace L_p:=Lib.hid (Nat.lt_of_lt_of_le L_p.out (s6.kept.size))
 have hq:=s6.below HF.out HB.out.size
 replace HB:=Lib.hid (HB.out.trans hq.1)
 replace HF:=Lib.hid hq.2
 replace HT:=Lib.hid hT6
 clear hq hT6 s6
 replace HT:=Lib.hid (show TreeIn w6 t F6 S3 from HT.out)
 have G_y:=Lib.hid HB.out.size
 have y_n:=cell_nw w6 #[.int .u64 1024,.int .u32 0,.int .u32 1] 40
 have y0:=y_n 0 _ rfl
 have y1:=y_n 1 _ rfl
 have y2:=y_n 2 _ rfl
 clear y_n
 have hbn:=below_a w6 (.cells #[.int .u64 1024,.int .u32 0,.int .u32 1] 40)
 have N_y:=Lib.hid (show w6.heap.size∉F6 from fun m=>Nat.lt_irrefl _ (HT.out.lt _ m))
 have L_y:=Lib.hid (show w6.heap.size<(w6.alloc (.cells #[.int .u64 1024,.int .u32 0,.int .u32 1] 40)).heap.size by simp)
 replace x0:=cell_later hbn x0
 replace x1:=cell_later hbn x1
 replace x2:=cell_later hbn x2
 replace r0:=cell_later hbn r0
 replace r1:=cell_later hbn r1
 replace r2:=cell_later hbn r2
 replace o0:=cell_later hbn o0
 replace o1:=cell_later hbn o1
 replace o2:=cell_later hbn o2
 replace p0:=cell_later hbn p0
 replace p1:=cell_later hbn p1
 replace p2:=cell_later hbn p2
 replace of0:=frz_later hbn of0 L_o.out
 replace of1:=frz_later hbn of1 L_o.out
 replace of2:=frz_later hbn of2 L_o.out
 replace L_x:=Lib.hid (Nat.lt_of_lt_of_le L_x.out (hbn.size))
 replace L_r:=Lib.hid (Nat.lt_of_lt_of_le L_r.out (hbn.size))
 replace L_o:=Lib.hid (Nat.lt_of_lt_of_le L_o.out (hbn.size))
 replace L_p:=Lib.hid (Nat.lt_of_lt_of_le L_p.out (hbn.size))
 replace HT:=Lib.hid (HT.out.below hbn)
 replace HB:=Lib.hid (Below.step HB.out hbn)
 clear hbn
 have A:=pFirst_at _ HT.out down3
 rw [e7] at A
 try dsimp only at A
 replace A:=Lib.hid A
 go_wp2_with fail
 refine A.out.mono ?_;clear A;rintro e w7 ⟨rfl,hb7⟩
 have hb:=hb7
 replace x0:=cell_later hb x0
 replace x1:=cell_later hb x1
 replace x2:=cell_later hb x2
 replace r0:=cell_later hb r0
 replace r1:=cell_later hb r1
 replace r2:=cell_later hb r2
 replace o0:=cell_later hb o0
 replace o1:=cell_later hb o1
 replace o2:=cell_later hb o2
 replace p0:=cell_later hb p0
 replace p1:=cell_later hb p1
 replace p2:=cell_later hb p2
 replace y0:=cell_later hb y0
 replace y1:=cell_later hb y1
 replace y2:=cell_later hb y2
 replace of0:=frz_later hb of0 L_o.out
 replace of1:=frz_later hb of1 L_o.out
 replace of2:=frz_later hb of2 L_o.out
 replace L_x:=Lib.hid (Nat.lt_of_lt_of_le L_x.out (hb.size))
 replace L_r:=Lib.hid (Nat.lt_of_lt_of_le L_r.out (hb.size))
 replace L_o:=Lib.hid (Nat.lt_of_lt_of_le L_o.out (hb.size))
 replace L_p:=Lib.hid (Nat.lt_of_lt_of_le L_p.out (hb.size))
 replace L_y:=Lib.hid (Nat.lt_of_lt_of_le L_y.out (hb.size))
 replace HT:=Lib.hid (HT.out.below hb)
 replace HB:=Lib.hid (Below.step HB.out hb)
 clear hb
 clear hb7
 have A:=pLeave_at 7 _ HT.out rfl
 rw [e8.1] at A
 rw [e8.2] at A
 try dsimp only at A
 replace A:=Lib.hid A
 go_wp2_with fail
 refine A.out.mono ?_;clear A;rintro e w8 ⟨rfl,F8,hT8,s8⟩
 replace x0:=s8.cell N_x.out x0
 replace x1:=s8.cell N_x.out x1
 replace x2:=s8.cell N_x.out x2
 replace r0:=s8.cell N_r.out r0
 replace r1:=s8.cell N_r.out r1
 replace r2:=s8.cell N_r.out r2
 replace o0:=s8.cell N_o.out o0
 replace o1:=s8.cell N_o.out o1
 replace o2:=s8.cell N_o.out o2
 replace p0:=s8.cell N_p.out p0
 replace p1:=s8.cell N_p.out p1
 replace p2:=s8.cell N_p.out p2
 replace y0:=s8.cell N_y.out y0
 replace y1:=s8.cell N_y.out y1
 replace y2:=s8.cell N_y.out y2
 replace of0:=s8.kept.frz of0 L_o.out N_o.out
 replace of1:=s8.kept.frz of1 L_o.out N_o.out
 replace of2:=s8.kept.frz of2 L_o.out N_o.out
 replace N_x:=Lib.hid (s8.off N_x.out (by have:=L_x.out;first | omega | (simp;omega)))
 replace N_r:=Lib.hid (s8.off N_r.out (by have:=L_r.out;first | omega | (simp;omega)))
 replace N_o:=Lib.hid (s8.off N_o.out (by have:=L_o.out;first | omega | (simp;omega)))
 replace N_p:=Lib.hid (s8.off N_p.out (by have:=L_p.out;first | omega | (simp;omega)))
 replace N_y:=Lib.hid (s8.off N_y.out (by have:=L_y.out;first | omega | (simp;omega)))
 replace L_x:=Lib.hid (Nat.lt_of_lt_of_le L_x.out (s8.kept.size))
 replace L_r:=Lib.hid (Nat.lt_of_lt_of_le L_r.out (s8.kept.size))
 replace L_o:=Lib.hid (Nat.lt_of_lt_of_le L_o.out (s8.kept.size))
 replace L_p:=Lib.hid (Nat.lt_of_lt_of_le L_p.out (s8.kept.size))
 replace L_y:=Lib.hid (Nat.lt_of_lt_of_le L_y.out (s8.kept.size))
 have hq:=s8.below HF.out HB.out.size
 replace HB:=Lib.hid (HB.out.trans hq.1)
 replace HF:=Lib.hid hq.2
 replace HT:=Lib.hid hT8
 clear hq hT8 s8
 replace HT:=Lib.hid (show TreeIn w8 t F8 S4 from HT.out)
 have D_o_z:=Lib.hid L_o.out
 have G_z:=Lib.hid HB.out.size
 have z_n:=cell_nw w8 #[.int .u64 1048576,.int .u32 0,.int .u32 1] 40
 have z0:=z_n 0 _ rfl
 have z1:=z_n 1 _ rfl
 have z2:=z_n 2 _ rfl
 clear z_n
 have hbn:=below_a w8 (.cells #[.int .u64 1048576,.int .u32 0,.int .u32 1] 40)
 have N_z:=Lib.hid (show w8.heap.size∉F8 from fun m=>Nat.lt_irrefl _ (HT.out.lt _ m))
 have L_z:=Lib.hid (show w8.heap.size<(w8.alloc (.cells #[.int .u64 1048576,.int .u32 0,.int .u32 1] 40)).heap.size by simp)
 replace x0:=cell_later hbn x0
 replace x1:=cell_later hbn x1
 replace x2:=cell_later hbn x2
 replace r0:=cell_later hbn r0
 replace r1:=cell_later hbn r1
 replace r2:=cell_later hbn r2
 replace o0:=cell_later hbn o0
 replace o1:=cell_later hbn o1
 replace o2:=cell_later hbn o2
 replace p0:=cell_later hbn p0
 replace p1:=cell_later hbn p1
 replace p2:=cell_later hbn p2
 replace y0:=cell_later hbn y0
 replace y1:=cell_later hbn y1
 replace y2:=cell_later hbn y2
 replace of0:=frz_later hbn of0 L_o.out
 replace of1:=frz_later hbn of1 L_o.out
 replace of2:=frz_later hbn of2 L_o.out
 replace L_x:=Lib.hid (Nat.lt_of_lt_of_le L_x.out (hbn.size))
 replace L_r:=Lib.hid (Nat.lt_of_lt_of_le L_r.out (hbn.size))
 replace L_o:=Lib.hid (Nat.lt_of_lt_of_le L_o.out (hbn.size))
 replace L_p:=Lib.hid (Nat.lt_of_lt_of_le L_p.out (hbn.size))
 replace L_y:=Lib.hid (Nat.lt_of_lt_of_le L_y.out (hbn.size))
 replace HT:=Lib.hid (HT.out.below hbn)
 replace HB:=Lib.hid (Below.step HB.out hbn)
 clear hbn
 go_wp2_with fail
 have hx1:RowAt .i64 ((w8.alloc (.cells #[.int .u64 1048576,.int .u32 0,.int .u32 1] 40)).alloc (.cells #[.int .i64 0,.int .i64 1,.int .i64 2] 3)) (some ⟨g5,0,none⟩) 3 [0,1,2]:=row3 (cell_al _ r0) (cell_al _ r1) (cell_al _ r2)
 have hx2:RowAt .i64 ((w8.alloc (.cells #[.int .u64 1048576,.int .u32 0,.int .u32 1] 40)).alloc (.cells #[.int .i64 0,.int .i64 1,.int .i64 2] 3)) (some ⟨w8.heap.size+1,0,none⟩) 3 [0,1,2]:=row3 (cell_nwE (by simp) _ _ 0 _ rfl) (cell_nwE (by simp) _ _ 1 _ rfl) (cell_nwE (by simp) _ _ 2 _ rfl)
 refine (SameInts_any _ _ 3 3 c5 3 [0,1,2] [0,1,2] _ hx1 hx2 (by decide) (by decide)).mono ?_;rintro e w9 ⟨rfl,hg9⟩
 rw [show decide (([0,1,2]:List Int)=[0,1,2])=true from rfl]
 have hb:=Below.step (below_a (w8.alloc (.cells #[.int .u64 1048576,.int .u32 0,.int .u32 1] 40)) (.cells #[.int .i64 0,.int .i64 1,.int .i64 2] 3)) hg9.below
 replace x0:=cell_later hb x0
 replace x1:=cell_later hb x1
 replace x2:=cell_later hb x2
 replace r0:=cell_later hb r0
 replace r1:=cell_later hb r1
 replace r2:=cell_later hb r2
 replace o0:=cell_later hb o0
 replace o1:=cell_later hb o1
 replace o2:=cell_later hb o2
 replace p0:=cell_later hb p0
 replace p1:=cell_later hb p1
 replace p2:=cell_later hb p2
 replace y0:=cell_later hb y0
 replace y1:=cell_later hb y1
 replace y2:=cell_later hb y2
 replace z0:=cell_later hb z0
 replace z1:=cell_later hb z1
 replace z2:=cell_later hb z2
 replace of0:=frz_later hb of0 L_o.out
 replace of1:=frz_later hb of1 L_o.out
 replace of2:=frz_later hb of2 L_o.out
 replace L_x:=Lib.hid (Nat.lt_of_lt_of_le L_x.out (hb.size))
 replace L_r:=Lib.hid (Nat.lt_of_lt_of_le L_r.out (hb.size))
 replace L_o:=Lib.hid (Nat.lt_of_lt_of_le L_o.out (hb.size))
 replace L_p:=Lib.hid (Nat.lt_of_lt_of_le L_p.out (hb.size))
 replace L_y:=Lib.hid (Nat.lt_of_lt_of_le L_y.out (hb.size))
 replace L_z:=Lib.hid (Nat.lt_of_lt_of_le L_z.out (hb.size))
 replace HT:=Lib.hid (HT.out.below hb)
 replace HB:=Lib.hid (Below.step HB.out hb)
 clear hb
 clear hg9 hx1 hx2
 clear r0 r1 r2
 clear N_r L_r
 have A:=pChain_at _ HT.out down4
 rw [e9] at A
 try dsimp only at A
 replace A:=Lib.hid A
 go_wp2_with fail
 refine A.out.mono ?_;clear A;rintro e w10 ⟨v10,rfl,own10,hb10⟩
 have hb:=hb10
 replace x0:=cell_later hb x0
 replace x1:=cell_later hb x1
 replace x2:=cell_later hb x2
 replace o0:=cell_later hb o0
 replace o1:=cell_later hb o1
 replace o2:=cell_later hb o2
 replace p0:=cell_later hb p0
 replace p1:=cell_later hb p1
 replace p2:=cell_later hb p2
 replace y0:=cell_later hb y0
 replace y1:=cell_later hb y1
 replace y2:=cell_later hb y2
 replace z0:=cell_later hb z0
 replace z1:=cell_later hb z1
 replace z2:=cell_later hb z2
 replace of0:=frz_later hb of0 L_o.out
 replace of1:=frz_later hb of1 L_o.out
 replace of2:=frz_later hb of2 L_o.out
 replace L_x:=Lib.hid (Nat.lt_of_lt_of_le L_x.out (hb.size))
 replace L_o:=Lib.hid (Nat.lt_of_lt_of_le L_o.out (hb.size))
 replace L_p:=Lib.hid (Nat.lt_of_lt_of_le L_p.out (hb.size))
 replace L_y:=Lib.hid (Nat.lt_of_lt_of_le L_y.out (hb.size))
 replace L_z:=Lib.hid (Nat.lt_of_lt_of_le L_z.out (hb.size))
 replace HT:=Lib.hid (HT.out.below hb)
 replace HB:=Lib.hid (Below.step HB.out hb)
 clear hb
 clear hb10
 replace own10:w10.ownsRow _ 3 1 v10 (0+1) (intsV [0]):=own10
 obtain ⟨g10,c10,rfl⟩:=own_some own10
 clear own10
 have A:=pCharge_at 8 1 _ HT.out rfl rfl
 rw [e10] at A
 try dsimp only at A
 replace A:=Lib.hid A
 go_wp2_with fail
 refine A.out.mono ?_;clear A;rintro e w11 ⟨rfl,F11,hT11,s11⟩
 replace x0:=s11.cell N_x.out x0
 replace x1:=s11.cell N_x.out x1
 replace x2:=s11.cell N_x.out x2
 replace o0:=s11.cell N_o.out o0
 replace o1:=s11.cell N_o.out o1
 replace o2:=s11.cell N_o.out o2
 replace p0:=s11.cell N_p.out p0
 replace p1:=s11.cell N_p.out p1
 replace p2:=s11.cell N_p.out p2
 replace y0:=s11.cell N_y.out y0
 replace y1:=s11.cell N_y.out y1
 replace y2:=s11.cell N_y.out y2
 replace z0:=s11.cell N_z.out z0
 replace z1:=s11.cell N_z.out z1
 replace z2:=s11.cell N_z.out z2
 replace of0:=s11.kept.frz of0 L_o.out N_o.out
 replace of1:=s11.kept.frz of1 L_o.out N_o.out
 replace of2:=s11.kept.frz of2 L_o.out N_o.out
 replace N_x:=Lib.hid (s11.off N_x.out (by have:=L_x.out;first | omega | (simp;omega)))
 replace N_o:=Lib.hid (s11.off N_o.out (by have:=L_o.out;first | omega | (simp;omega)))
 replace N_p:=Lib.hid (s11.off N_p.out (by have:=L_p.out;first | omega | (simp;omega)))
 replace N_y:=Lib.hid (s11.off N_y.out (by have:=L_y.out;first | omega | (simp;omega)))
 replace N_z:=Lib.hid (s11.off N_z.out (by have:=L_z.out;first | omega | (simp;omega)))
 replace L_x:=Lib.hid (Nat.lt_of_lt_of_le L_x.out (s11.kept.size))
 replace L_o:=Lib.hid (Nat.lt_of_lt_of_le L_o.out (s11.kept.size))
 replace L_p:=Lib.hid (Nat.lt_of_lt_of_le L_p.out (s11.kept.size))
 replace L_y:=Lib.hid (Nat.lt_of_lt_of_le L_y.out (s11.kept.size))
 replace L_z:=Lib.hid (Nat.lt_of_lt_of_le L_z.out (s11.kept.size))
 have hq:=s11.below HF.out HB.out.size
 replace HB:=Lib.hid (HB.out.trans hq.1)
 replace HF:=Lib.hid hq.2
 replace HT:=Lib.hid hT11
 clear hq hT11 s11
 replace HT:=Lib.hid (show TreeIn w11 t F11 S5 from HT.out)
 clear x0 x1 x2
 clear N_x L_x
 clear p0 p1 p2
 clear N_p L_p
 clear y0 y1 y2
 clear N_y L_y
 have A:=pWake_at 7 2 1048576 0 1 _ HT.out rfl rfl (by unfold Ch.Fits;decide)
 rw [e11.1] at A
 rw [e11.2] at A
 try dsimp only at A
 replace A:=Lib.hid A
 go_wp2_with fail
 refine A.out.mono ?_;clear A;rintro e w12 ⟨rfl,F12,hT12,s12⟩
 replace o0:=s12.cell N_o.out o0
 replace o1:=s12.cell N_o.out o1
 replace o2:=s12.cell N_o.out o2
 replace z0:=s12.cell N_z.out z0
 replace z1:=s12.cell N_z.out z1
 replace z2:=s12.cell N_z.out z2
 replace of0:=s12.kept.frz of0 L_o.out N_o.out
 replace of1:=s12.kept.frz of1 L_o.out N_o.out
 replace of2:=s12.kept.frz of2 L_o.out N_o.out
 replace N_o:=Lib.hid (s12.off N_o.out (by have:=L_o.out;first | omega | (simp;omega)))
 replace N_z:=Lib.hid (s12.off N_z.out (by have:=L_z.out;first | omega | (simp;omega)))
 replace L_o:=Lib.hid (Nat.lt_of_lt_of_le L_o.out (s12.kept.size))
 replace L_z:=Lib.hid (Nat.lt_of_lt_of_le L_z.out (s12.kept.size))
 have hq:=s12.below HF.out HB.out.size
 replace HB:=Lib.hid (HB.out.trans hq.1)
 replace HF:=Lib.hid hq.2
 replace HT:=Lib.hid hT12
 clear hq hT12 s12
 replace HT:=Lib.hid (show TreeIn w12 t F12 S6 from HT.out)
 have D_o_u:=Lib.hid L_o.out
 have G_u:=Lib.hid HB.out.size
 have u_n:=cell_nw w12 #[.int .u64 1048576,.int .u32 0,.int .u32 1] 40
 have u0:=u_n 0 _ rfl
 have u1:=u_n 1 _ rfl
 have u2:=u_n 2 _ rfl
 clear u_n
 have hbn:=below_a w12 (.cells #[.int .u64 1048576,.int .u32 0,.int .u32 1] 40)
 have N_u:=Lib.hid (show w12.heap.size∉F12 from fun m=>Nat.lt_irrefl _ (HT.out.lt _ m))
 have L_u:=Lib.hid (show w12.heap.size<(w12.alloc (.cells #[.int .u64 1048576,.int .u32 0,.int .u32 1] 40)).heap.size by simp)
 replace o0:=cell_later hbn o0
 replace o1:=cell_later hbn o1
 replace o2:=cell_later hbn o2
 replace z0:=cell_later hbn z0
 replace z1:=cell_later hbn z1
 replace z2:=cell_later hbn z2
 replace of0:=frz_later hbn of0 L_o.out
 replace of1:=frz_later hbn of1 L_o.out
 replace of2:=frz_later hbn of2 L_o.out
 replace L_o:=Lib.hid (Nat.lt_of_lt_of_le L_o.out (hbn.size))
 replace L_z:=Lib.hid (Nat.lt_of_lt_of_le L_z.out (hbn.size))
 replace HT:=Lib.hid (HT.out.below hbn)
 replace HB:=Lib.hid (Below.step HB.out hbn)
 clear hbn
 have A:=pSpot_at 1 _ HT.out
 rw [e12.1] at A
 rw [e12.2] at A
 try dsimp only at A
 replace A:=Lib.hid A
 go_wp2_with fail
 refine A.out.mono ?_;clear A;rintro e w13 ⟨rfl,hb13⟩
 have hb:=hb13
 replace o0:=cell_later hb o0
 replace o1:=cell_later hb o1
 replace o2:=cell_later hb o2
 replace z0:=cell_later hb z0
 replace z1:=cell_later hb z1
 replace z2:=cell_later hb z2
 replace u0:=cell_later hb u0
 replace u1:=cell_later hb u1
 replace u2:=cell_later hb u2
 replace of0:=frz_later hb of0 L_o.out
 replace of1:=frz_later hb of1 L_o.out
 replace of2:=frz_later hb of2 L_o.out
 replace L_o:=Lib.hid (Nat.lt_of_lt_of_le L_o.out (hb.size))
 replace L_z:=Lib.hid (Nat.lt_of_lt_of_le L_z.out (hb.size))
 replace L_u:=Lib.hid (Nat.lt_of_lt_of_le L_u.out (hb.size))
 replace HT:=Lib.hid (HT.out.below hb)
 replace HB:=Lib.hid (Below.step HB.out hb)
 clear hb
 clear hb13
 have hk:Kept [w4.heap.size] w13 ((((w13).setCell ⟨w4.heap.size,0,none⟩ (.int .u64 1049590)).setCell ⟨w4.heap.size,1,none⟩ (.int .u32 0)).setCell ⟨w4.heap.size,2,none⟩ (.int .u64 1048576)):=(((Kept.refl [w4.heap.size] w13).setCell (p:=⟨w4.heap.size,0,none⟩) (Or.inl (by simp)) _).setCell (p:=⟨w4.heap.size,1,none⟩) (Or.inl (by simp)) _).setCell (p:=⟨w4.heap.size,2,none⟩) (Or.inl (by simp)) _
 replace z0:=hk.cellAt z0 (by have:=D_o_z.out;simp;omega)
 replace z1:=hk.cellAt z1 (by have:=D_o_z.out;simp;omega)
 replace z2:=hk.cellAt z2 (by have:=D_o_z.out;simp;omega)
 replace u0:=hk.cellAt u0 (by have:=D_o_u.out;simp;omega)
 replace u1:=hk.cellAt u1 (by have:=D_o_u.out;simp;omega)
 replace u2:=hk.cellAt u2 (by have:=D_o_u.out;simp;omega)
 have q0:=cell_set_ne (b':=w4.heap.size) (o':=2) (u:=.int .u64 1048576) (cell_set_ne (b':=w4.heap.size) (o':=1) (u:=.int .u32 0) (cell_set_eq (u:=.int .u64 1049590) o0) (Or.inr (by decide))) (Or.inr (by decide))
 replace L_o:=Lib.hid (Nat.lt_of_lt_of_le L_o.out (hk.size))
 replace L_z:=Lib.hid (Nat.lt_of_lt_of_le L_z.out (hk.size))
 replace L_u:=Lib.hid (Nat.lt_of_lt_of_le L_u.out (hk.size))
 replace HT:=Lib.hid (HT.out.kept hk (fun b hb m=>N_o.out ((List.mem_singleton.1 m) ▸ hb)))
 replace HB:=Lib.hid (show Below w.heap.size w ((((w13).setCell ⟨w4.heap.size,0,none⟩ (.int .u64 1049590)).setCell ⟨w4.heap.size,1,none⟩ (.int .u32 0)).setCell ⟨w4.heap.size,2,none⟩ (.int .u64 1048576)) from HB.out.trans (hk.below (fun b hb=>by have:=G_o.out;simp at hb;omega) HB.out.size))
 clear hk
 have A:=pSpot_at 0 _ HT.out
 rw [e13.1] at A
 rw [e13.2] at A
 try dsimp only at A
 replace A:=Lib.hid A
 go_wp2_with fail
 clear of0 of1 of2 o0 o1 o2
 refine A.out.mono ?_;clear A;rintro e w14 ⟨rfl,hb14⟩
 have hb:=hb14
 replace z0:=cell_later hb z0
 replace z1:=cell_later hb z1
 replace z2:=cell_later hb z2
 replace u0:=cell_later hb u0
 replace u1:=cell_later hb u1
 replace u2:=cell_later hb u2
 replace q0:=cell_later hb q0
 replace L_o:=Lib.hid (Nat.lt_of_lt_of_le L_o.out (hb.size))
 replace L_z:=Lib.hid (Nat.lt_of_lt_of_le L_z.out (hb.size))
 replace L_u:=Lib.hid (Nat.lt_of_lt_of_le L_u.out (hb.size))
 replace HT:=Lib.hid (HT.out.below hb)
 replace HB:=Lib.hid (Below.step HB.out hb)
 clear hb
 clear hb14
 have G_v:=Lib.hid HB.out.size
 have v_n:=cell_nw w14 #[.int .u64 0,.int .u32 0,.int .u64 1049600] 55
 have v0:=v_n 0 _ rfl
 have v1:=v_n 1 _ rfl
 have v2:=v_n 2 _ rfl
 clear v_n
 have hbn:=below_a w14 (.cells #[.int .u64 0,.int .u32 0,.int .u64 1049600] 55)
 have N_v:=Lib.hid (show w14.heap.size∉F12 from fun m=>Nat.lt_irrefl _ (HT.out.lt _ m))
 have L_v:=Lib.hid (show w14.heap.size<(w14.alloc (.cells #[.int .u64 0,.int .u32 0,.int .u64 1049600] 55)).heap.size by simp)
 replace z0:=cell_later hbn z0
 replace z1:=cell_later hbn z1
 replace z2:=cell_later hbn z2
 replace u0:=cell_later hbn u0
 replace u1:=cell_later hbn u1
 replace u2:=cell_later hbn u2
 replace q0:=cell_later hbn q0
 replace L_o:=Lib.hid (Nat.lt_of_lt_of_le L_o.out (hbn.size))
 replace L_z:=Lib.hid (Nat.lt_of_lt_of_le L_z.out (hbn.size))
 replace L_u:=Lib.hid (Nat.lt_of_lt_of_le L_u.out (hbn.size))
 replace HT:=Lib.hid (HT.out.below hbn)
 replace HB:=Lib.hid (Below.step HB.out hbn)
 clear hbn
 have A:=pFirst_at _ HT.out down6
 rw [e14] at A
 try dsimp only at A
 replace A:=Lib.hid A
 go_wp2_with fail
 refine A.out.mono ?_;clear A;rintro e w15 ⟨rfl,hb15⟩
 have hb:=hb15
 replace z0:=cell_later hb z0
 replace z1:=cell_later hb z1
 replace z2:=cell_later hb z2
 replace u0:=cell_later hb u0
 replace u1:=cell_later hb u1
 replace u2:=cell_later hb u2
 replace q0:=cell_later hb q0
 replace v0:=cell_later hb v0
 replace v1:=cell_later hb v1
 replace v2:=cell_later hb v2
 replace L_o:=Lib.hid (Nat.lt_of_lt_of_le L_o.out (hb.size))
 replace L_z:=Lib.hid (Nat.lt_of_lt_of_le L_z.out (hb.size))
 replace L_u:=Lib.hid (Nat.lt_of_lt_of_le L_u.out (hb.size))
 replace L_v:=Lib.hid (Nat.lt_of_lt_of_le L_v.out (hb.size))
 replace HT:=Lib.hid (HT.out.below hb)
 replace HB:=Lib.hid (Below.step HB.out hb)
 clear hb
 clear hb15
 have A:=pLoad_at _ HT.out
 rw [e15] at A
 try dsimp only at A
 replace A:=Lib.hid A
 go_wp2_with fail
 refine A.out.mono ?_;clear A;rintro e w16 ⟨rfl,hb16⟩
 have hb:=hb16
 replace z0:=cell_later hb z0
 replace z1:=cell_later hb z1
 replace z2:=cell_later hb z2
 replace u0:=cell_later hb u0
 replace u1:=cell_later hb u1
 replace u2:=cell_later hb u2
 replace q0:=cell_later hb q0
 replace v0:=cell_later hb v0
 replace v1:=cell_later hb v1
 replace v2:=cell_later hb v2
 replace L_o:=Lib.hid (Nat.lt_of_lt_of_le L_o.out (hb.size))
 replace L_z:=Lib.hid (Nat.lt_of_lt_of_le L_z.out (hb.size))
 replace L_u:=Lib.hid (Nat.lt_of_lt_of_le L_u.out (hb.size))
 replace L_v:=Lib.hid (Nat.lt_of_lt_of_le L_v.out (hb.size))
 replace HT:=Lib.hid (HT.out.below hb)
 replace HB:=Lib.hid (Below.step HB.out hb)
 clear hb
 clear hb16
 have A:=pLen_at _ HT.out
 rw [e16] at A
 try dsimp only at A
 replace A:=Lib.hid A
 go_wp2_with fail
 refine A.out.mono ?_;clear A;rintro e w17 ⟨rfl,rfl⟩
 go_wp2_with fail
 go_ret
 exact ⟨rfl,HB.out⟩
theorem rise_ge (S:Items) (fl:Int):fl≤riseF S fl:=by unfold riseF;split <;> omega
theorem enterF_ge (M:Mems) (id:Int) (x:Ent) (fl:Int):fl≤enterF qN M id x fl:=by
 unfold enterF
 split
 ·exact rise_ge _ _
 ·exact Int.le_refl _
theorem leaveF_ge (M:Mems) (id:Int) (fl:Int):fl≤leaveF qN M id fl:=by
 unfold leaveF
 split
 ·exact rise_ge _ _
 ·exact Int.le_refl _
theorem spot_empty {s:TSt} (h:∀ k,s.M k=[]) (g:Nat):spotX s g=s.A g:=by
 unfold spotX
 rw [h]
 rw [if_neg]
 rintro ⟨q,_⟩
 cases q
section
variable {Gs:Grps} {cr:Int} {L:Spots}
end
end Go.Proofs.YtfgmglghlapbcaaGreat
