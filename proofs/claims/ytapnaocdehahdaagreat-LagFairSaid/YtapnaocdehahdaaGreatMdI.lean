/-
  Layer 30 (model): spawn, for a task of the root whose ID is the greatest.
-/
import Derived.Test.YtapnaocdehahdaaGreatMdH
import Derived.Test.YtapnaocdehahdaaGreatMdG
namespace Go.Proofs.YtapnaocdehahdaaGreat
open Go.RowKit Go.Maps Go.IntWalk Go.Lib
set_option linter.unusedVariables false
set_option linter.unusedSimpArgs false
def bornM (m:MSt) (c:Nat) (o:OpV):TVw:=⟨o.task,0,o.weight,c,o.mask,true,(m.sp 0 c).2.2,0⟩
def spawnM0 (m:MSt) (c:Nat) (o:OpV):MSt:={ m with ts:=m.ts++[bornM m c o] }
theorem find_none {ts:List TVw} {id:Int} (h:∀ y∈ts,y.id<id):findM ts id=-1:=by
 have e:fI ts id=ts.length:=fI_of (Nat.le_refl _) (fun j y _ hy=>h y (List.mem_of_getElem? hy)) (fun j y hj hy=>by have:=(List.getElem?_eq_some_iff.1 hy).1;omega)
 unfold findM fB
 rw [e,List.getElem?_eq_none (Nat.le_refl _)]
 rfl
structure TBox (w:World) (b:Nat) (y:TVw):Prop where
 c:∀ j u,(encTl y)[j]?=some u→w.cell? ⟨b,j,none⟩=some u
 z:∀ j,w.frozen? ⟨b,j,none⟩=false
theorem TBox.lt {w:World} {b:Nat} {y:TVw} (h:TBox w b y):b<w.heap.size:=lt_of_cell (h.c 0 _ rfl)
theorem TBox.later {w w':World} {b:Nat} {y:TVw} (h:TBox w b y) (hb:Below w.heap.size w w'):TBox w' b y:=⟨fun j u hu=>cell_later hb (h.c j u hu),fun j=>frz_later hb (h.z j) h.lt⟩
theorem TBox.put {w:World} {b:Nat} {y:TVw} (h:TBox w b y) (e:Ent):TBox (put3 w b 0 e.1 e.2.1 e.2.2) b (putY y e):=by
 refine ⟨fun j u hu=>?_,fun j=>by unfold put3;simpa using h.z j⟩
 have hj:j<8:=(List.getElem?_eq_some_iff.1 hu).1
 unfold put3
 rcases (show j=0∨j=1∨j=2∨j=3∨j=4∨j=5∨j=6∨j=7 by omega) with rfl | rfl | rfl | rfl | rfl | rfl | rfl | rfl
 ·cases hu;exact cell_set_ne (cell_set_ne (cell_set_ne (h.c 0 _ rfl) (Or.inr (by decide))) (Or.inr (by decide))) (Or.inr (by decide))
 ·cases hu;exact cell_set_ne (cell_set_ne (cell_set_ne (h.c 1 _ rfl) (Or.inr (by decide))) (Or.inr (by decide))) (Or.inr (by decide))
 ·cases hu;exact cell_set_eq (cell_set_ne (cell_set_ne (h.c 2 _ rfl) (Or.inr (by decide))) (Or.inr (by decide)))
 ·cases hu;exact cell_set_ne (cell_set_ne (cell_set_ne (h.c 3 _ rfl) (Or.inr (by decide))) (Or.inr (by decide))) (Or.inr (by decide))
 ·cases hu;exact cell_set_ne (cell_set_ne (cell_set_ne (h.c 4 _ rfl) (Or.inr (by decide))) (Or.inr (by decide))) (Or.inr (by decide))
 ·cases hu;exact cell_set_ne (cell_set_ne (cell_set_ne (h.c 5 _ rfl) (Or.inr (by decide))) (Or.inr (by decide))) (Or.inr (by decide))
 ·cases hu;exact cell_set_ne (cell_set_ne (cell_set_eq (h.c 6 _ rfl)) (Or.inr (by decide))) (Or.inr (by decide))
 ·cases hu;exact cell_set_ne (cell_set_eq (cell_set_ne (h.c 7 _ rfl) (Or.inr (by decide)))) (Or.inr (by decide))
set_option maxRecDepth 100000 in
set_option maxHeartbeats 4000000 in
theorem mspawn0_at {w:World} {x c:Nat} {L:MLay} {m:MSt} {F:List Nat} {o:OpV} (h:MIn w x L m) (ho:MOk2 m) (hF:∀ b,L.lab b≠(0,0)→b∈F) (hk:o.cpu=(c:Int)) (hc:c<m.C)
  (hid:1≤o.task∧o.task≤65535) (hg:o.group=0) (hwt:1≤o.weight∧o.weight≤65536) (hmk:0≤o.mask∧o.mask≤18446744073709551615) (hm0:¬ o.mask=0) (hwd:wideM o.mask m.C=false) (hbit:bitM o.mask c=true) (hall:∀ y∈m.ts,y.id<o.task) :
  Calls Tryz.prog 76 #[.pointer (some ⟨x,0,none⟩),encO o] w fun e w'=>e=.returned (.tuple #[.int .i64 0,.int .i64 0])∧∃ L',MIn w' x L' (spawnM0 m c o)∧Kept F w w'∧∀ b,L'.lab b≠(0,0)→b∈F∨w.heap.size≤b:=by
 have HM:=Lib.hid h
 have HO:=Lib.hid ho
 have HF:=Lib.hid hF
 obtain ⟨W0,hW0⟩:∃ W,W=w.alloc (.cells (cellsO o) 41):=⟨_,rfl⟩
 have hb0:Below w.heap.size w W0:=by rw [hW0];exact below_a _ _
 have B0:OpBox W0 w.heap.size o:=by rw [hW0];exact OpBox.new _ _ _
 have h0:=h.below hb0
 have HB0:=Lib.hid hb0
 unfold cellsO at hW0
 have HW0:=Lib.hid hW0
 clear hW0
 have b1:=B0.c1
 rw [hk] at b1
 have b2:=B0.c2
 have b3:=B0.c3
 rw [hg] at b3
 have b4:=B0.c4
 have b7:=B0.c7
 have hn:=ho.pos
 have hC:=ho.cpus
 have A1:=Lib.hid (mcpu_at (c:Int) h0)
 rw [show hasV (m.C:Int) (c:Int)=true from decide_eq_true ⟨by omega,by omega⟩] at A1
 have A2:=Lib.hid fun W=>mtask_at o.task W
 rw [show nameV o.task=true from nameV_iff.2 hid] at A2
 have A3:=Lib.hid fun W=>mweighs_at o.weight W
 rw [show decide (1≤o.weight∧o.weight≤65536)=true from decide_eq_true hwt] at A3
 have A4:=Lib.hid fun W=>mwide_at o.mask m.C W hC
 rw [hwd] at A4
 obtain ⟨bv,bs,bt0⟩:=bit_shift (m:=o.mask) (k:=c) (by omega) hmk
 rw [hbit] at bt0
 obtain ⟨id,hidd⟩:∃ z,z=o.task:=⟨_,rfl⟩
 obtain ⟨k,hkk⟩:∃ z,z=o.weight:=⟨_,rfl⟩
 obtain ⟨mk,hmkk⟩:∃ z,z=o.mask:=⟨_,rfl⟩
 rw [← hidd] at b2 A2 hid hall
 rw [← hkk] at b4 A3 hwt
 rw [← hmkk] at b7 A4 bs hm0
 have HP:=Lib.hid (show id=o.task∧k=o.weight∧mk=o.mask from ⟨hidd,hkk,hmkk⟩)
 have HW:=Lib.hid hwt
 have HALL:=Lib.hid hall
 have H0:=Lib.hid h0
 have HB00:=Lib.hid B0
 have HC:=Lib.hid hc
 have HN:=Lib.hid hn
 obtain ⟨c6,q1,q2,x6⟩:=h0.c6
 have x0:=h0.c0
 obtain ⟨n,hnn⟩:∃ n,n=m.n:=⟨_,rfl⟩
 rw [← hnn] at x6 hn
 have hni:¬ (n:Int)≤0:=by omega
 have z1:decide ((0:Int) ≥ (n:Int))=false:=decide_eq_false (by omega)
 have z2:decide ((n:Int)≤0)=false:=z1
 have hd1:Below W0.heap.size W0 W0.drew:=(Below.refl _ _).drew
 have hd2:Below W0.heap.size W0 W0.drew.drew:=((Below.refl _ _).drew).drew
 have A5:=Lib.hid (mfind_in id (h0.below hd2) ho)
 rw [find_none hall] at A5
 clear h ho hF h0 hb0 B0 hk hc hg hwt hmk hwd hbit hall q1 q2 hidd hkk hmkk hid hnn hd1 hd2 hC
 unfold encO
 go_enter Tryz.func76,Tryz.ntmps76
 go_upto_region 2 with fail
 rw [← HW0.out]
 go_wp2_with fail
 refine A1.out.mono ?_;rintro e w5 ⟨rfl,rfl⟩
 go_wp2_with fail
 refine (A2.out _).mono ?_;rintro e w5 ⟨rfl,rfl⟩
 go_wp2_with fail
 go_region
 obtain ⟨W1,hW1⟩:∃ W,W=W0.drew:=⟨_,rfl⟩
 have hb1:Below W0.heap.size W0 W1:=by rw [hW1];exact (Below.refl _ _).drew
 rw [← hW1] at A5 ⊢
 have H1:=Lib.hid (H0.out.below hb1)
 have HB1:=Lib.hid (HB00.out.later hb1)
 replace b1:=cell_later hb1 b1
 replace b2:=cell_later hb1 b2
 replace b3:=cell_later hb1 b3
 replace b4:=cell_later hb1 b4
 replace b7:=cell_later hb1 b7
 replace x0:=cell_later hb1 x0
 have HBW:=Lib.hid (Below.step HB0.out hb1)
 have zm:(mk == 0)=false:=by simp [hm0]
 clear hb1 hW1 x6 hni z1 z2
 go_wp2_with fail
 refine startA (S:=fun w'=>Below W1.heap.size W1 w'∧w'.cell? ⟨w.heap.size,4,none⟩=some (.int .i64 k)∧w'.cell? ⟨w.heap.size,7,none⟩=some (.int .u64 mk)∧w'.cell? ⟨x,0,none⟩=some (.int .i64 m.C)) ⟨Below.refl _ _,b4,b7,x0⟩ (held_3 (below_dr _)) (fun hS0 hHeld=>?_)
 refine takeA 0 ?_
 refine takeA 1 ?_
 refine readyA [2] (consA (fun K hK=>?_) .nil)
 go_simp
 refine (A3.out _).mono ?_
 rintro e w6 ⟨rfl,rfl⟩
 go_wp2_with fail
 refine outA hK kp_3 (fun hHeld2=>?_)
 clear hK K
 refine takeA 3 ?_
 refine takeA 4 ?_
 refine takeA 5 ?_
 refine takeA 6 ?_
 refine takeA 7 ?_
 refine takeA 8 ?_
 refine takeA 9 ?_
 refine takeA 10 ?_
 refine takeA 11 ?_
 refine takeA 12 ?_
 refine takeA 13 ?_
 refine takeA 14 ?_
 refine takeA 15 ?_
 refine takeA 16 ?_
 refine readyA [17] (consA (fun K hK=>?_) .nil)
 go_simp
 refine (A4.out _).mono ?_
 rintro e w6 ⟨rfl,rfl⟩
 go_wp2_with fail
 refine outA hK kp_3 (fun hHeld17=>?_)
 clear hK K
 refine takeA 18 ?_
 refine takeA 19 ?_
 refine doneA ?_
 skip
 go_wp2_with fail
 refine A5.out.mono ?_;rintro e w6 ⟨rfl,hb6⟩
 have hb2:Below W1.heap.size W1 w6:=Below.step (Below.refl _ _).drew hb6
 obtain ⟨W2,rfl⟩:∃ W:World,W=w6:=⟨_,rfl⟩
 have H2:=Lib.hid (H1.out.below hb2)
 replace b1:=cell_later hb2 b1
 replace b2:=cell_later hb2 b2
 replace b3:=cell_later hb2 b3
 replace b4:=cell_later hb2 b4
 replace b7:=cell_later hb2 b7
 have HBW2:=Lib.hid (Below.step HBW.out hb2)
 have bt1:(bits BinOp.and IntKind.u64 bv 1 == 0)=false:=bt0
 have A6:=Lib.hid (mempty0_at x c W2)
 clear hb2 hb6 hS0 hHeld hHeld2 hHeld17 x0 A5 A3 A4 A2 A1 bt0 zm hm0
 go_wp2_with fail
 refine A6.out.mono ?_;rintro e w7 ⟨rfl,rfl⟩
 go_upto_region 16 with fail
 obtain ⟨b8,hb8⟩:∃ b,b=W2.heap.size:=⟨_,rfl⟩
 obtain ⟨W3,hW3⟩:∃ W,W=W2.alloc (.cells #[.int .i64 id,.int .i64 0,.int .i64 0,.int .i64 c,.int .u64 mk,.bool true,.int .u64 0,.int .u32 0] 59):=⟨_,rfl⟩
 rw [← hW3,← hb8]
 have hb3:Below W2.heap.size W2 W3:=by rw [hW3];exact below_a _ _
 obtain ⟨y0,hy0⟩:∃ y:TVw,y=⟨id,0,0,c,mk,true,0,0⟩:=⟨_,rfl⟩
 have HT3:=Lib.hid (show TBox W3 b8 y0 by
  rw [hW3,hb8,hy0]
  refine ⟨fun j u hu=>cell_nw W2 #[.int .i64 id,.int .i64 0,.int .i64 0,.int .i64 c,.int .u64 mk,.bool true,.int .u64 0,.int .u32 0] _ j _ (by simpa [encTl] using hu),fun j=>frz_nw _ _ _ _⟩)
 have HBL8:=Lib.hid (show w.heap.size<b8 by rw [hb8];exact lt_of_cell b1)
 have H3:=Lib.hid (H2.out.below hb3)
 replace b1:=cell_later hb3 b1
 replace b3:=cell_later hb3 b3
 replace b4:=cell_later hb3 b4
 have HBW3:=Lib.hid (Below.step HBW2.out hb3)
 have HB8:=Lib.hid (show w.heap.size≤b8 by rw [hb8];exact HBW2.out.size)
 obtain ⟨c6',q1,q2,x6⟩:=H3.out.c6
 obtain ⟨cr,q3,q4,r6⟩:=H3.out.rows.c 0 HN.out.1
 have p6:=((H3.out.sp 0 HN.out.1).c c HC.out).2.2
 obtain ⟨fl,hfl⟩:∃ f,f=(m.sp 0 c).2.2:=⟨_,rfl⟩
 rw [← hfl] at p6
 have hflb:=(HO.out.spot 0 c HN.out.1 HC.out).2
 rw [← hfl] at hflb
 obtain ⟨n,hnn⟩:∃ n,n=m.n:=⟨_,rfl⟩
 rw [← hnn] at x6
 have hn0:(0:Int)<(n:Int):=by have:=HN.out;omega
 have hn1:0<n:=by have:=HN.out;omega
 have hcN:c<m.C:=HC.out
 have hci:(c:Int)<(m.C:Int):=by have:=HC.out;omega
 obtain ⟨ye,hye⟩:∃ e:Ent,e=(fl,0,k):=⟨_,rfl⟩
 have A7:=Lib.hid fun W (hB:Below W3.heap.size W3 W)=>(show Calls Tryz.prog 149 #[.int .u64 fl,.int .i64 k] W fun e w'=>e=.returned (.tuple #[.agg #[.int .u64 ye.1,.int .u32 ye.2.1,.int .u32 ye.2.2],.int .i64 0])∧Below W.heap.size W w' from by
  have:=plNew_at fl k W hflb (WalkArith.wf_i64 (by have:=HW.out;omega))
  unfold newX newC PlP at this
  rw [if_pos HW.out,if_pos HW.out] at this
  rw [hye]
  exact this)
 have HYE:=Lib.hid hye
 have HFL:=Lib.hid hfl
 have HY0:=Lib.hid hy0
 clear hb3 hW3 hy0 q1 q2 q3 q4 hfl hflb hnn hye bt1 bs b2 b7 A6 hb8
 go_upto_region 16 with fail
 go_cut [9] (fun sE wx=>∃ br,sE=.pointer (some ⟨br,0,none⟩)∧Hid (EBox wx br ye)∧Hid (W3.heap.size≤br)∧Hid (Below W3.heap.size W3 wx))
 case first =>
  refine startB (S:=fun w'=>Below W3.heap.size W3 w'∧w'.cell? ⟨x,6,none⟩=some (.slice (some ⟨L.s,0,none⟩) n c6')∧w'.cell? ⟨w.heap.size,3,none⟩=some (.int .i64 0)∧w'.cell? ⟨L.s,0,none⟩=some (.slice (some ⟨L.r 0,0,none⟩) m.C cr)∧w'.cell? ⟨w.heap.size,1,none⟩=some (.int .i64 c)∧w'.cell? ⟨L.r 0,c*3+2,none⟩=some (.int .u64 fl)∧w'.cell? ⟨w.heap.size,4,none⟩=some (.int .i64 k)) ⟨Below.refl _ _,x6,b3,r6,b1,p6,b4⟩ (held_6 (below_dr _)) (fun hS00 hS0 hHeld=>?_)
  obtain ⟨wc101,hwc101⟩:∃ X,X=W3.drew:=⟨_,rfl⟩
  rw [← hwc101] at hHeld ⊢
  have hWc101:Below W3.heap.size W3 wc101:=by rw [hwc101];exact (Below.refl _ _).drew
  clear hwc101
  refine takeA 0 ?_
  refine takeA 1 ?_
  refine takeA 2 ?_
  refine takeA 3 ?_
  refine takeA 4 ?_
  refine takeA 5 ?_
  refine takeA 6 ?_
  refine takeA 7 ?_
  refine takeA 8 ?_
  refine takeA 9 ?_
  refine takeA 10 ?_
  refine takeA 11 ?_
  refine takeA 12 ?_
  refine takeA 13 ?_
  refine takeA 14 ?_
  refine readyA [15,19] (consA (fun K hK=>?_) (consA (fun K hK=>?_) .nil))
  ·skip
   go_simp
   refine (A7.out wc101 hWc101).mono ?_
   rintro e wv1 ⟨rfl,hbv1⟩
   have hWv1:=Below.step hWc101 hbv1
   go_wp2_with fail
   refine outA hK (held_6 hWv1 hS00) (fun hHeld15=>?_)
   clear hK K
   refine takeA 16 ?_
   refine takeA 17 ?_
   refine takeA 18 ?_
   refine readyA [19] (consA (fun K hK=>?_) .nil)
   go_simp
   obtain ⟨wv2,hwv2⟩:∃ X,X=wv1.alloc (.cells #[.int .u64 0,.int .u32 0,.int .u32 0] 107):=⟨_,rfl⟩
   rw [← hwv2]
   have hbv2:Below wv1.heap.size wv1 wv2:=by rw [hwv2];exact below_a _ _
   have hWv2:=Below.step hWv1 hbv2
   have syv2:=hWv1.size
   have hz:EBox wv2 wv1.heap.size (0,0,0):=by rw [hwv2];exact EBox.new _ _
   obtain ⟨br,hbr⟩:∃ b,b=wv1.heap.size:=⟨_,rfl⟩
   rw [← hbr] at hz ⊢
   have hlb:W3.heap.size≤br:=by omega
   clear hbr
   clear hwv2
   refine outA hK (held_6 hWv2 hS00) (fun hHeld19=>?_)
   clear hK K
   refine readyA [20] (consA (fun K hK=>?_) .nil)
   have hBz:Below W3.heap.size W3 (set3 wv2 br 0 ye):=set3_below hWv2 hlb
   have e0:=hz.c0
   have e1:=hz.c1
   have e2:=hz.c2
   have f0:=hz.z 0
   have f1:=hz.z 1
   have f2:=hz.z 2
   go_simp
   refine outA hK (held_6 hBz hS00) (fun hHeld20=>?_)
   clear hK K
   refine takeA 21 ?_
   refine doneA ?_
   have hs:EBox (set3 wv2 br 0 ye) br ye:=hz.set _
   have hs:=Lib.hid hs
   have hBz:=Lib.hid hBz
   unfold set3 at hs hBz
   clear hS0 hHeld
   go_wp2_with fail
   go_meet
   case rel=>exact ⟨br,rfl,hs,Lib.hid hlb,hBz⟩
  ·skip
   go_simp
   obtain ⟨wv3,hwv3⟩:∃ X,X=wc101.alloc (.cells #[.int .u64 0,.int .u32 0,.int .u32 0] 107):=⟨_,rfl⟩
   rw [← hwv3]
   have hbv3:Below wc101.heap.size wc101 wv3:=by rw [hwv3];exact below_a _ _
   have hWv3:=Below.step hWc101 hbv3
   have syv3:=hWc101.size
   have hz:EBox wv3 wc101.heap.size (0,0,0):=by rw [hwv3];exact EBox.new _ _
   obtain ⟨br,hbr⟩:∃ b,b=wc101.heap.size:=⟨_,rfl⟩
   rw [← hbr] at hz ⊢
   have hlb:W3.heap.size≤br:=by omega
   clear hbr
   clear hwv3
   refine outA hK (held_6 hWv3 hS00) (fun hHeld19=>?_)
   clear hK K
   refine readyA [15] (consA (fun K hK=>?_) .nil)
   go_simp
   refine (A7.out wv3 hWv3).mono ?_
   rintro e wv4 ⟨rfl,hbv4⟩
   have hWv4:=Below.step hWv3 hbv4
   replace hz:=hz.later hbv4
   go_wp2_with fail
   refine outA hK (held_6 hWv4 hS00) (fun hHeld15=>?_)
   clear hK K
   refine takeA 16 ?_
   refine takeA 17 ?_
   refine takeA 18 ?_
   refine readyA [20] (consA (fun K hK=>?_) .nil)
   have hBz:Below W3.heap.size W3 (set3 wv4 br 0 ye):=set3_below hWv4 hlb
   have e0:=hz.c0
   have e1:=hz.c1
   have e2:=hz.c2
   have f0:=hz.z 0
   have f1:=hz.z 1
   have f2:=hz.z 2
   go_simp
   refine outA hK (held_6 hBz hS00) (fun hHeld20=>?_)
   clear hK K
   refine takeA 21 ?_
   refine doneA ?_
   have hs:EBox (set3 wv4 br 0 ye) br ye:=hz.set _
   have hs:=Lib.hid hs
   have hBz:=Lib.hid hBz
   unfold set3 at hs hBz
   clear hS0 hHeld
   go_wp2_with fail
   go_meet
   case rel=>exact ⟨br,rfl,hs,Lib.hid hlb,hBz⟩
 case rest =>
  obtain ⟨br,rfl,hE,hlb,hB⟩:=hcut
  have H4:=Lib.hid (H3.out.below hB.out)
  have HT4:=Lib.hid (HT3.out.later hB.out)
  have HBW4:=Lib.hid (Below.step HBW3.out hB.out)
  have e0:=hE.out.c0
  have e1:=hE.out.c1
  have e2:=hE.out.c2
  have hyw:0≤ye.2.2∧ye.2.2≤4294967295:=by rw [HYE.out];have:=HW.out;show 0≤k∧k≤_;omega
  have A5:=Lib.hid (mput_at (w:=wc) (b:=b8) (o:=0) ye.1 ye.2.1 ye.2.2 hyw (HT4.out.c 6 _ rfl) (HT4.out.c 7 _ rfl) (HT4.out.c 2 _ rfl) HT4.out.z)
  replace b1:=cell_later hB.out b1
  clear x6 r6 p6 b3 b4 A7 hyw
  go_wp2_with fail
  refine A5.out.mono ?_;clear A5;rintro e w7 ⟨rfl,W7,hb7,rfl⟩
  have HT9':=(HT4.out.later hb7).put ye
  have hb9:Below w.heap.size w (put3 W7 b8 0 ye.1 ye.2.1 ye.2.2):=(((Below.step HBW4.out hb7).setCell HB8.out _).setCell HB8.out _).setCell HB8.out _
  have hk9:Kept [b8] wc (put3 W7 b8 0 ye.1 ye.2.1 ye.2.2):=(((Kept.of hb7).setCell (Or.inl (by simp)) _).setCell (Or.inl (by simp)) _).setCell (Or.inl (by simp)) _
  have hl8:L.lab b8=(0,0):=Decidable.byContradiction fun q=>by have:=HM.out.lz b8 q;have:=HB8.out;omega
  have H9:=Lib.hid (H4.out.kept hk9 fun b q=>by simp at q;subst q;exact hl8)
  have hbne:w.heap.size≠b8:=by have:=HBL8.out;omega
  replace b1:=hk9.cellAt b1 (by simp;exact hbne)
  obtain ⟨W9,hW9⟩:∃ W,W=put3 W7 b8 0 ye.1 ye.2.1 ye.2.2:=⟨_,rfl⟩
  rw [← hW9] at HT9' hb9 H9 b1 ⊢
  have HB9:=Lib.hid hb9
  have ey:putY y0 ye=⟨id,0,k,c,mk,true,fl,0⟩:=by rw [HY0.out,HYE.out];rfl
  rw [ey] at HT9'
  have HT9:=Lib.hid HT9'
  have t0:W9.cell? ⟨b8,0,none⟩=some (.int .i64 id):=HT9.out.c 0 _ rfl
  have t1:W9.cell? ⟨b8,1,none⟩=some (.int .i64 0):=HT9.out.c 1 _ rfl
  have t2:W9.cell? ⟨b8,2,none⟩=some (.int .i64 k):=HT9.out.c 2 _ rfl
  have t3:W9.cell? ⟨b8,3,none⟩=some (.int .i64 c):=HT9.out.c 3 _ rfl
  have t4:W9.cell? ⟨b8,4,none⟩=some (.int .u64 mk):=HT9.out.c 4 _ rfl
  have t5:W9.cell? ⟨b8,5,none⟩=some (.bool true):=HT9.out.c 5 _ rfl
  have t6:W9.cell? ⟨b8,6,none⟩=some (.int .u64 fl):=HT9.out.c 6 _ rfl
  have t7:W9.cell? ⟨b8,7,none⟩=some (.int .u32 0):=HT9.out.c 7 _ rfl
  clear e0 e1 e2 HT9' hb9 hk9 hb7 hW9 ey hbne
  obtain ⟨vt,x5,hts⟩:=H9.out.c5
  obtain ⟨at5,ct5,rfl⟩:=hts.shape
  have hfew:m.ts.length≤1000000:=by have:=HO.out.few;omega
  have A8:=Lib.hid (ixf_none hts (fun y q=>HALL.out y q) hfew t0)
  have HTS:=Lib.hid hts
  obtain ⟨nt,hnt⟩:∃ n,n=m.ts.length:=⟨_,rfl⟩
  rw [← hnt] at x5 A8 hfew
  have HNT:=Lib.hid hnt
  clear hts hnt
  go_wp2_with fail
  refine A8.out.mono ?_;clear A8;rintro e wX ⟨rfl,hbX⟩
  have H10:=Lib.hid (H9.out.below hbX)
  have HB10:=Lib.hid (Below.step HB9.out hbX)
  have HT10:=Lib.hid (HT9.out.later hbX)
  have HTS10:=Lib.hid (HTS.out.kept (G:=[]) (Kept.of hbX) (by simp))
  replace x5:=cell_later hbX x5
  replace b1:=cell_later hbX b1
  replace t0:=cell_later hbX t0
  replace t1:=cell_later hbX t1
  replace t2:=cell_later hbX t2
  replace t3:=cell_later hbX t3
  replace t4:=cell_later hbX t4
  replace t5:=cell_later hbX t5
  replace t6:=cell_later hbX t6
  replace t7:=cell_later hbX t7
  clear hbX
  go_upto_region 21 with fail
  obtain ⟨W10,rfl⟩:∃ W:World,W=wX:=⟨_,rfl⟩
  have mx:x∉L.t.toList:=fun q=>by have:=H10.out.lt x (by simpa using q);rw [H10.out.lx] at this;cases this
  have m8:b8∉L.t.toList:=fun q=>by have:=H10.out.lz b8 (by rw [H10.out.lt b8 (by simpa using q)];simp);have:=HM.out.lz b8 (by rw [H10.out.lt b8 (by simpa using q)];simp);have:=HB8.out;omega
  have f5:=H10.out.z 5
  have hlx:=lt_of_cell x5
  have hS0:Kept L.t.toList W10 W10.drew∧W10.drew.cell? ⟨x,5,none⟩=some (.slice at5 nt ct5)∧W10.drew.cell? ⟨b8,0,none⟩=some (.int .i64 id)∧W10.drew.cell? ⟨b8,1,none⟩=some (.int .i64 0)∧W10.drew.cell? ⟨b8,2,none⟩=some (.int .i64 k)∧W10.drew.cell? ⟨b8,3,none⟩=some (.int .i64 c)∧W10.drew.cell? ⟨b8,4,none⟩=some (.int .u64 mk)∧W10.drew.cell? ⟨b8,5,none⟩=some (.bool true)∧W10.drew.cell? ⟨b8,6,none⟩=some (.int .u64 fl)∧W10.drew.cell? ⟨b8,7,none⟩=some (.int .u32 0):=⟨Kept.drew (Kept.refl _ _),cell_dr x5,cell_dr t0,cell_dr t1,cell_dr t2,cell_dr t3,cell_dr t4,cell_dr t5,cell_dr t6,cell_dr t7⟩
  refine startU [9,10,11] (fun w'=>Kept L.t.toList W10 w'∧w'.cell? ⟨x,5,none⟩=some (.slice at5 nt ct5)∧w'.cell? ⟨b8,0,none⟩=some (.int .i64 id)∧w'.cell? ⟨b8,1,none⟩=some (.int .i64 0)∧w'.cell? ⟨b8,2,none⟩=some (.int .i64 k)∧w'.cell? ⟨b8,3,none⟩=some (.int .i64 c)∧w'.cell? ⟨b8,4,none⟩=some (.int .u64 mk)∧w'.cell? ⟨b8,5,none⟩=some (.bool true)∧w'.cell? ⟨b8,6,none⟩=some (.int .u64 fl)∧w'.cell? ⟨b8,7,none⟩=some (.int .u32 0)) (by kernel_rfl) hS0 (fun hHeld=>?_)
  refine takeUw (i:=0) (v:=?v0_102) rfl (by kernel_rfl) (fun _ _ _ h=>h) (by rfl) ?hy0_102 (by assumption) ?rest0_102
  case hy0_102=>(intro w hSw;(try dsimp only at hSw);go_simp;try with_reducible rfl)
  try simp only [Act.put,List.setIfInBounds_toArray,List.set_cons_zero,List.set_cons_succ]
  refine takeUw (i:=1) (v:=?v1_103) rfl (by kernel_rfl) (fun _ _ _ h=>h) (by rfl) ?hy1_103 (by assumption) ?rest1_103
  case hy1_103=>(intro w hSw;(try dsimp only at hSw);go_simp;try with_reducible rfl)
  try simp only [Act.put,List.setIfInBounds_toArray,List.set_cons_zero,List.set_cons_succ]
  refine takeUw (i:=2) (v:=?v2_104) rfl (by kernel_rfl) (fun _ _ _ h=>h) (by rfl) ?hy2_104 (by assumption) ?rest2_104
  case hy2_104=>(intro w hSw;(try dsimp only at hSw);go_simp;try with_reducible rfl)
  try simp only [Act.put,List.setIfInBounds_toArray,List.set_cons_zero,List.set_cons_succ]
  refine takeUw (i:=3) (v:=?v3_105) rfl (by kernel_rfl) (fun _ _ _ h=>h) (by rfl) ?hy3_105 (by assumption) ?rest3_105
  case hy3_105=>(intro w hSw;(try dsimp only at hSw);go_simp;try with_reducible rfl)
  try simp only [Act.put,List.setIfInBounds_toArray,List.set_cons_zero,List.set_cons_succ]
  refine takeUw (i:=4) (v:=?v4_106) rfl (by kernel_rfl) (fun _ _ _ h=>h) (by rfl) ?hy4_106 (by assumption) ?rest4_106
  case hy4_106=>(intro w hSw;(try dsimp only at hSw);go_simp;try with_reducible rfl)
  try simp only [Act.put,List.setIfInBounds_toArray,List.set_cons_zero,List.set_cons_succ]
  refine takeUw (i:=5) (v:=?v5_107) rfl (by kernel_rfl) (fun _ _ _ h=>h) (by rfl) ?hy5_107 (by assumption) ?rest5_107
  case hy5_107=>(intro w hSw;(try dsimp only at hSw);go_simp;try with_reducible rfl)
  try simp only [Act.put,List.setIfInBounds_toArray,List.set_cons_zero,List.set_cons_succ]
  refine takeUw (i:=6) (v:=?v6_108) rfl (by kernel_rfl) (fun _ _ _ h=>h) (by rfl) ?hy6_108 (by assumption) ?rest6_108
  case hy6_108=>(intro w hSw;(try dsimp only at hSw);go_simp;try with_reducible rfl)
  try simp only [Act.put,List.setIfInBounds_toArray,List.set_cons_zero,List.set_cons_succ]
  refine readyU (rs:=[7]) (by kernel_rfl) (by simp) ?_
  refine consU rfl (fun K hK=>?_) (nilU)
  go_simp
  obtain ⟨WB,hWB⟩:∃ W,W=(W10.alloc (.cells #[.int .i64 id,.int .i64 0,.int .i64 k,.int .i64 c,.int .u64 mk,.bool true,.int .u64 fl,.int .u32 0] 59)).drew:=⟨_,rfl⟩
  rw [← hWB]
  have hbB:Below W10.heap.size W10 WB:=by rw [hWB];exact (below_a _ _).drew
  have hkB:Kept L.t.toList W10.drew WB:=by rw [hWB];exact Kept.of (below_ad _ _)
  have hsB:W10.heap.size≤WB.heap.size:=hbB.size
  have AI:=ins_end (w:=WB) (v:=.slice at5 m.ts.length ct5) (tb:=L.t) (ts:=m.ts) (bn:=W10.heap.size) (y:=⟨id,0,k,c,mk,true,fl,0⟩) (HTS10.out.kept (G:=[]) (Kept.of hbB) (by simp)) (by rw [← HNT.out];exact hfew) (fun j u hu=>by rw [hWB];exact cell_dr (cell_nw W10 #[.int .i64 id,.int .i64 0,.int .i64 k,.int .i64 c,.int .u64 mk,.bool true,.int .u64 fl,.int .u32 0] _ j _ (by simpa [encTl] using hu)))
  rw [← HNT.out] at AI
  have x5B:=cell_later hbB x5
  have f5B:=frz_later hbB f5 hlx
  have HXB:=Lib.hid hbB
  have AI:=Lib.hid AI
  clear hWB hbB
  refine hK.out _ _ ?_ (fun hHeld7=>?_)
  ·(first | with_reducible assumption | (refine heldK_9 (by (repeat (with_reducible refine Kept.setCell ?_ (Or.inl (by simp)) _));exact Kept.refl _ _) ?_;with_reducible assumption) | (refine heldK_9 (by assumption) ?_;assumption) | (refine heldK_9 (Kept.of (below_ad _ _)) ?_;assumption) | (refine heldK_9 (Kept.of (below_a _ _)) ?_;assumption))
  clear hK K
  try simp only [Act.put,List.setIfInBounds_toArray,List.set_cons_zero,List.set_cons_succ]
  refine readyU (rs:=[8]) (by kernel_rfl) (by simp) ?_
  refine consU rfl (fun K hK=>?_) (nilU)
  go_simp
  refine AI.out.mono ?_
  rintro e wI ⟨v2,tb2,rfl,hts2,hk2,hnb2⟩
  obtain ⟨a2,c2,hv2⟩:=hts2.shape
  subst v2
  have e5:=hk2.cellAt x5B mx
  have g5:=hk2.frz f5B (lt_of_cell x5B) mx
  clear AI x5B f5B
  go_wp2_with fail
  refine hK.out _ _ ?_ (fun hHeld8=>?_)
  ·(first | with_reducible assumption | (refine heldK_9 (by (repeat (with_reducible refine Kept.setCell ?_ (Or.inl (by simp)) _));exact Kept.refl _ _) ?_;with_reducible assumption) | (refine heldK_9 (by assumption) ?_;assumption) | (refine heldK_9 (Kept.of (below_ad _ _)) ?_;assumption) | (refine heldK_9 (Kept.of (below_a _ _)) ?_;assumption))
  clear hK K
  try simp only [Act.put,List.setIfInBounds_toArray,List.set_cons_zero,List.set_cons_succ]
  refine readyU (rs:=[9]) (by kernel_rfl) (by simp) ?_
  refine consV rfl (by kernel_rfl) (fun K hK=>?_) (nilU)
  go_simp
  skip
  refine hK.out _ _ ?_
  clear hK K
  try simp only [Act.put,List.setIfInBounds_toArray,List.set_cons_zero,List.set_cons_succ]
  refine readyU (rs:=[10]) (by kernel_rfl) (by simp) ?_
  refine consV rfl (by kernel_rfl) (fun K hK=>?_) (nilU)
  go_simp
  skip
  refine hK.out _ _ ?_
  clear hK K
  try simp only [Act.put,List.setIfInBounds_toArray,List.set_cons_zero,List.set_cons_succ]
  refine readyU (rs:=[11]) (by kernel_rfl) (by simp) ?_
  refine consV rfl (by kernel_rfl) (fun K hK=>?_) (nilU)
  go_simp
  go_simp
  refine hK.out _ _ ?_
  clear hK K
  try simp only [Act.put,List.setIfInBounds_toArray,List.set_cons_zero,List.set_cons_succ]
  refine doneU (by kernel_rfl) ?_ _
  obtain ⟨yb,hyb⟩:∃ y:TVw,y=⟨id,0,k,c,mk,true,fl,0⟩:=⟨_,rfl⟩
  rw [← hyb] at hts2
  rw [show (m.ts++[yb]).length=m.ts.length+1 by simp] at hts2
  have HWB:=H10.out.below HXB.out
  have HE:=Lib.hid (HWB.tasks hk2 hts2 hnb2)
  have hsub:∀ b∈L.t.toList,b∈F:=fun b q=>HF.out b (by rw [HWB.lt b (by simpa using q)];simp)
  have HKE:=Lib.hid (((((Kept.of (S:=F) HB10.out).step HXB.out).trans (hk2.mono hsub)).setCell (p:=⟨x,5,none⟩) (Or.inl (HF.out x (by rw [HWB.lx];simp))) (.slice a2 (m.ts.length+1) c2)))
  have hwn:w.heap.size∉L.t.toList:=fun q=>by have:=HM.out.lz w.heap.size (by rw [HM.out.lt _ (by simpa using q)];simp);omega
  have hwx:w.heap.size≠x:=by have:=HM.out.lz x (by rw [HM.out.lx];simp);omega
  have b1E:=cell_set_ne (b':=x) (o':=5) (u:=.slice a2 (m.ts.length+1) c2) (hk2.cellAt (cell_later HXB.out b1) hwn) (Or.inl hwx)
  have HLE:=Lib.hid (show ∀ b,(L.tasks tb2).lab b≠(0,0)→b∈F∨w.heap.size≤b from fun b q=>by
   replace q:(if tb2=some b then ((1:Nat),(4:Nat)) else if L.t=some b then (0,0) else L.lab b)≠(0,0):=q
   by_cases q1:tb2=some b
   ·rcases hnb2 b q1 with q2 | q2
    ·exact Or.inl (HF.out b (by rw [HWB.lt b q2];simp))
    ·exact Or.inr (by have:=HB10.out.size;have:=HXB.out.size;omega)
   ·rw [if_neg q1] at q
    by_cases q2:L.t=some b
    ·rw [if_pos q2] at q;exact absurd rfl q
    ·rw [if_neg q2] at q;exact Or.inl (HF.out b q))
  have eyb:yb=bornM m c o:=by rw [hyb];unfold bornM;rw [HP.out.1,HP.out.2.1,HP.out.2.2,HFL.out]
  have HEY:=Lib.hid eyb
  obtain ⟨WF,hWF⟩:∃ W,W=wI.setCell ⟨x,5,none⟩ (.slice a2 (m.ts.length+1) c2):=⟨_,rfl⟩
  rw [← hWF] at HE HKE b1E ⊢
  have A9:=Lib.hid (mwake0_at x c WF)
  clear hS0 hHeld hHeld7 hHeld8 hts2 hk2 hnb2 hsub hwn hwx eyb hyb hWF e5 g5 hkB x5 t0 t1 t2 t3 t4 t5 t6 t7 b1 mx m8 f5 HWB
  go_wp2_with fail
  refine A9.out.mono ?_;rintro e w8 ⟨rfl,rfl⟩
  go_wp2_with fail
  refine bodyPost_ret (v:=.tuple #[.int .i64 0,.int .i64 0]) (by simp [results,Tryz.results76,go_sem]) rfl ⟨rfl,L.tasks tb2,?_,HKE.out,HLE.out⟩
  have:=HE.out
  rw [HEY.out] at this
  exact this
end Go.Proofs.YtapnaocdehahdaaGreat
