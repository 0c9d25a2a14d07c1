/-
  Layer 30 (model): tick, where a task of the root runs.
-/
import Derived.Test.YtapnaocdehahdaaGreatMdF
namespace Go.Proofs.YtapnaocdehahdaaGreat
open Go.RowKit Go.Maps Go.IntWalk Go.Lib
set_option linter.unusedVariables false
set_option linter.unusedSimpArgs false
def putY (y:TVw) (x:Ent):TVw:={ y with v:=x.1,r:=x.2.1,w:=x.2.2 }
def tickM0 (m:MSt) (c i:Nat) (y:TVw) (tk:Int):MSt:={ m with cl:=upd m.cl c (m.cl c+tk),ts:=m.ts.set i (putY y (chgX tk (y.v,y.r,y.w))) }
theorem MIn.put {w:World} {x i b:Nat} {L:MLay} {m:MSt} {y:TVw} (h:MIn w x L m) (hb:L.t=some b) (hy:m.ts[i]?=some y) (e:Ent):MIn (put3 w b (i*8) e.1 e.2.1 e.2.2) x L { m with ts:=m.ts.set i (putY y e) }:=by
 have hi:=(List.getElem?_eq_some_iff.1 hy).1
 have h1:=h.task (y':={ y with v:=e.1 }) (u:=.int .u64 e.1) (j:=6) hb hy (by decide) rfl
 have h2:=h1.task (i:=i) (y:={ y with v:=e.1 }) (y':={ y with v:=e.1,r:=e.2.1 }) (u:=.int .u32 e.2.1) (j:=7) hb (by simp [hi]) (by decide) rfl
 have h3:=h2.task (i:=i) (y:={ y with v:=e.1,r:=e.2.1 }) (y':=putY y e) (u:=.int .i64 e.2.2) (j:=2) hb (by simp [hi]) (by decide) rfl
 simp only [List.set_set] at h3
 exact h3
set_option maxRecDepth 100000 in
set_option maxHeartbeats 2000000 in
theorem mtick0_at {w:World} {x c i:Nat} {L:MLay} {m:MSt} {F:List Nat} {o:OpV} {y:TVw} (h:MIn w x L m) (ho:MOk2 m) (hF:∀ b,L.lab b≠(0,0)→b∈F) (hk:o.cpu=(c:Int)) (hc:c<m.C)
  (h1:1≤o.ticks∧o.ticks≤4294967295) (h2:m.cl c+o.ticks≤281474976710656) (hcu:m.cu c≠0) (hi:findM m.ts (m.cu c)=(i:Int)) (hy:m.ts[i]?=some y) (hg:y.g=0) :
  Calls Tryz.prog 79 #[.pointer (some ⟨x,0,none⟩),encO o] w fun e w'=>e=.returned (.tuple #[.int .i64 (m.cu c),.int .i64 0])∧MIn w' x L (tickM0 m c i y o.ticks)∧Kept F w w':=by
 have HM:=Lib.hid h
 have HO:=Lib.hid ho
 have HF:=Lib.hid hF
 obtain ⟨W0,hW0⟩:∃ W,W=w.alloc (.cells (cellsO o) 41):=⟨_,rfl⟩
 have hb0:Below w.heap.size w W0:=by rw [hW0];exact below_a _ _
 have B0:OpBox W0 w.heap.size o:=by rw [hW0];exact OpBox.new _ _ _
 have h0:=h.below hb0
 have HB0:=Lib.hid hb0
 unfold cellsO at hW0
 have HW0:=Lib.hid hW0
 clear hW0
 have HKO:=Lib.hid hk
 have b1:=B0.c1
 rw [hk] at b1
 have b6:=B0.c6
 obtain ⟨tk,htk⟩:∃ tk,tk=o.ticks:=⟨_,rfl⟩
 rw [← htk] at b6 h1 h2 ⊢
 obtain ⟨cid,hcid⟩:∃ z,z=m.cu c:=⟨_,rfl⟩
 rw [← hcid] at hcu hi ⊢
 have HCID:=Lib.hid hcid
 have HTK:=Lib.hid htk
 obtain ⟨c3,q1,q2,x3⟩:=h0.c3
 have u3:=h0.cl.c c hc
 have f3:=h0.cl.z c
 have hlu:=h0.cl.lt
 have hnu:L.l∈F:=hF _ (by rw [h.ll];simp)
 have hcl:=ho.cl c hc
 have A1:=Lib.hid (mcpu_at (c:Int) h0)
 rw [show hasV (m.C:Int) (c:Int)=true from decide_eq_true ⟨by omega,by omega⟩] at A1
 have z1:decide (tk<1)=false:=decide_eq_false (by omega)
 have z2:decide (tk > 4294967295)=false:=decide_eq_false (by omega)
 have z3:decide (4294967295<tk)=false:=z2
 have zw:IntKind.i64.wrap (m.cl c+tk)=m.cl c+tk:=IntWalk.i64_in _ (by omega)
 have zw':wrap64 (m.cl c+tk)=m.cl c+tk:=IntWalk.wrap64_in _ (by omega)
 have z4:decide (m.cl c+tk > 281474976710656)=false:=decide_eq_false (by omega)
 have z5:decide (281474976710656<m.cl c+tk)=false:=z4
 have hci:(c:Int)<(m.C:Int):=by omega
 have hxl:x≠L.l:=mlab_ne h.lx h.ll (by simp)
 have hbx:w.heap.size≠L.l:=by have:=h.lz L.l (by rw [h.ll];simp);omega
 have HX:=Lib.hid (show cid≠0∧findM m.ts cid=(i:Int)∧m.ts[i]?=some y∧y.g=0∧1≤tk∧tk≤4294967295 from ⟨hcu,hi,hy,hg,h1⟩)
 have H0:=Lib.hid h0
 have HB00:=Lib.hid B0
 have HC:=Lib.hid hc
 have HNU:=Lib.hid hnu
 clear h ho hF h0 hb0 B0 hk hc hnu htk q1 q2 hcu hi hy hg h1 h2 hcl hcid
 unfold encO
 go_enter Tryz.func79,Tryz.ntmps79
 go_upto_region 2 with fail
 rw [← HW0.out]
 go_wp2_with fail
 refine A1.out.mono ?_;rintro e w5 ⟨rfl,rfl⟩
 go_wp2_with fail
 go_region
 go_wp2_with fail
 go_region
 obtain ⟨W1,hW1⟩:∃ W,W=(W0.setCell ⟨L.l,c,none⟩ (.int .i64 (m.cl c+tk))).drew.drew:=⟨_,rfl⟩
 rw [← hW1]
 obtain ⟨m1,hm1⟩:∃ m1,m1=({ m with cl:=upd m.cl c (m.cl c+tk) }:MSt):=⟨_,rfl⟩
 have H1:=Lib.hid (show MIn W1 x L m1 by rw [hW1,hm1];exact ((H0.out.clock HC.out (m.cl c+tk)).below (Below.refl _ _).drew).below (Below.refl _ _).drew)
 have HK1:=Lib.hid (show Kept F w W1 by rw [hW1];exact ((((Kept.of (S:=F) HB0.out).setCell (p:=⟨L.l,c,none⟩) (Or.inl HNU.out) (.int .i64 (m.cl c+tk))).drew).drew))
 have k1:Kept [L.l] W0 W1:=by rw [hW1];exact (((Kept.refl _ _).setCell (Or.inl (by simp)) _).drew).drew
 have HB1:=Lib.hid (HB00.out.kept k1 (by simp;exact hbx))
 have e1:m1.C=m.C∧m1.cu=m.cu∧m1.ts=m.ts∧m1.n=m.n:=by rw [hm1];exact ⟨rfl,rfl,rfl,rfl⟩
 have HO1:=Lib.hid (show MOk2 m1 by
  rw [hm1]
  refine { HO.out with cl:=fun k hk=>?_ }
  show 0≤upd m.cl c _ k∧upd m.cl c _ k≤_
  by_cases q:k=c
  ·subst q;rw [upd_same];have:=HO.out.cl k HC.out;have:=HX.out.2.2.2.2.1;have:=of_decide_eq_false z4;omega
  ·rw [upd_other _ _ q];exact HO.out.cl k hk)
 have HE1:=Lib.hid e1
 obtain ⟨c4,q1,q2,x4⟩:=H1.out.c4
 rw [e1.1] at x4
 have u4:=H1.out.cu.c c (by rw [e1.1];exact HC.out)
 rw [e1.2.1] at u4
 rw [← HCID.out] at u4
 have hne:¬ cid=0:=HX.out.1
 have HM1:=Lib.hid hm1
 have hdd:Below W1.heap.size W1 W1.drew:=(Below.refl _ _).drew
 clear x3 u3 f3 z1 z2 z3 z4 z5 zw zw' A1 hlu hW1 hm1 q1 q2 e1 k1 b1 b6
 have b1:=HB1.out.c1
 rw [HKO.out] at b1
 go_wp2_with fail
 go_region
 obtain ⟨W2,hW2⟩:∃ W,W=W1.drew:=⟨_,rfl⟩
 rw [← hW2] at hdd ⊢
 have H2:=Lib.hid (H1.out.below hdd)
 have HK2:=Lib.hid (HK1.out.step hdd)
 have HB2:=Lib.hid (HB1.out.later hdd)
 clear x4 u4 b1 hdd hW2
 obtain ⟨vt,x5,hts⟩:=H2.out.c5
 rw [HE1.out.2.2.1] at hts
 obtain ⟨bt,ct,hbt,rfl⟩:=hts.some HX.out.2.2.1
 have HTS:=Lib.hid hts
 have HBT:=Lib.hid hbt
 obtain ⟨nt,hnt⟩:∃ n,n=m.ts.length:=⟨_,rfl⟩
 rw [← hnt] at x5
 have hii:(i:Int)<(nt:Int):=by have:=(List.getElem?_eq_some_iff.1 HX.out.2.2.1).1;omega
 have A2:=Lib.hid (mfind_in cid (H2.out.below (Below.refl _ _).drew) HO1.out)
 rw [HE1.out.2.2.1,HX.out.2.1] at A2
 have HNT:=Lib.hid hnt
 clear hts hbt hnt
 go_wp2_with fail
 refine startA (S:=fun w'=>Below W2.heap.size W2 w'∧w'.cell? ⟨x,5,none⟩=some (.slice (some ⟨bt,0,none⟩) nt ct)) ⟨Below.refl _ _,x5⟩ (held_1 (below_dr _)) (fun hS0 hHeld=>?_)
 refine takeA 0 ?_
 refine takeA 1 ?_
 refine takeA 2 ?_
 refine takeA 3 ?_
 refine takeA 4 ?_
 refine takeA 5 ?_
 refine readyA [6] (consA (fun K hK=>?_) .nil)
 go_simp
 refine A2.out.mono ?_
 rintro e w6 ⟨rfl,hb6⟩
 go_wp2_with fail
 refine outA hK kp_1 (fun hHeld6=>?_)
 clear hK K
 refine takeA 7 ?_
 refine takeA 8 ?_
 refine doneA ?_
 skip
 have hb3:Below W2.heap.size W2 w6:=Below.step (Below.refl _ _).drew hb6
 obtain ⟨W3,rfl⟩:∃ W:World,W=w6:=⟨_,rfl⟩
 have H3:=Lib.hid (H2.out.below hb3)
 have HK3:=Lib.hid (HK2.out.step hb3)
 have HB3:=Lib.hid (HB2.out.later hb3)
 have HWW:=Lib.hid hb3
 have hts3:=HTS.out.kept (G:=[]) (Kept.of hb3) (by simp)
 have p6:W3.cell? ⟨bt,i*8+6,none⟩=some (.int .u64 y.v):=(hts3.cell HX.out.2.2.1 (j:=6) (by decide)).1
 have p7:W3.cell? ⟨bt,i*8+7,none⟩=some (.int .u32 y.r):=(hts3.cell HX.out.2.2.1 (j:=7) (by decide)).1
 have p2:W3.cell? ⟨bt,i*8+2,none⟩=some (.int .i64 y.w):=(hts3.cell HX.out.2.2.1 (j:=2) (by decide)).1
 have HZ3:=Lib.hid (show ∀ j,W3.frozen? ⟨bt,j,none⟩=false from fun j=>hts3.own.frozenAt j)
 have b6:=HB3.out.c6
 rw [← HTK.out] at b6
 have hty:=HO.out.task y (List.mem_of_getElem? HX.out.2.2.1)
 obtain ⟨ye,hye⟩:∃ e:Ent,e=chgX tk (y.v,y.r,y.w):=⟨_,rfl⟩
 have A3:=Lib.hid fun W (hB:Below W3.heap.size W3 W)=>mentity_at y.v y.r y.w W (by have:=hty.w;omega)
 have A4:=Lib.hid fun W (hB:Below W3.heap.size W3 W)=>(show Calls Tryz.prog 158 #[.agg #[.int .u64 y.v,.int .u32 y.r,.int .u32 y.w],.int .i64 tk] W fun e w'=>e=.returned (.tuple #[.agg #[.int .u64 ye.1,.int .u32 ye.2.1,.int .u32 ye.2.2],.int .i64 0])∧Below W.heap.size W w' from by
  rw [hye]
  exact Add_ok y.v y.r y.w tk W hty.run ⟨by have:=HX.out.2.2.2.2.1;omega,HX.out.2.2.2.2.2⟩)
 have hyw:ye.2.2=y.w:=by rw [hye];rfl
 have HYW:=Lib.hid (show 0≤ye.2.2∧ye.2.2≤4294967295 by have:=hty.w;omega)
 have HYE:=Lib.hid hye
 clear hb3 hb6 x5 hii hHeld hHeld6 hS0 A2 hts3 hty hye hyw
 go_upto_region 13 with fail
 go_cut [9] (fun sE wx=>∃ br,sE=.pointer (some ⟨br,0,none⟩)∧Hid (EBox wx br ye)∧Hid (W3.heap.size≤br)∧Hid (Below W3.heap.size W3 wx))
 case first =>
  refine startB (S:=fun w'=>Below W3.heap.size W3 w'∧w'.cell? ⟨bt,i*8+6,none⟩=some (.int .u64 y.v)∧w'.cell? ⟨bt,i*8+7,none⟩=some (.int .u32 y.r)∧w'.cell? ⟨bt,i*8+2,none⟩=some (.int .i64 y.w)∧w'.cell? ⟨w.heap.size,6,none⟩=some (.int .i64 tk)) ⟨Below.refl _ _,p6,p7,p2,b6⟩ (held_4 (below_dr _)) (fun hS00 hS0 hHeld=>?_)
  obtain ⟨wc101,hwc101⟩:∃ X,X=W3.drew:=⟨_,rfl⟩
  rw [← hwc101] at hHeld ⊢
  have hWc101:Below W3.heap.size W3 wc101:=by rw [hwc101];exact (Below.refl _ _).drew
  clear hwc101
  refine takeA 0 ?_
  refine takeA 1 ?_
  refine takeA 2 ?_
  refine takeA 3 ?_
  refine takeA 4 ?_
  refine takeA 5 ?_
  refine takeA 6 ?_
  refine takeA 7 ?_
  refine takeA 8 ?_
  refine takeA 9 ?_
  refine takeA 10 ?_
  refine takeA 11 ?_
  refine takeA 13 ?_
  refine takeA 14 ?_
  refine readyA [12,19] (consA (fun K hK=>?_) (consA (fun K hK=>?_) .nil))
  ·skip
   go_simp
   refine (A3.out wc101 hWc101).mono ?_
   rintro e wv1 ⟨rfl,hbv1⟩
   have hWv1:=Below.step hWc101 hbv1
   go_wp2_with fail
   refine outA hK (held_4 hWv1 hS00) (fun hHeld12=>?_)
   clear hK K
   refine readyA [15,19] (consA (fun K hK=>?_) (consA (fun K hK=>?_) .nil))
   ·skip
    go_simp
    refine (A4.out wv1 hWv1).mono ?_
    rintro e wv2 ⟨rfl,hbv2⟩
    have hWv2:=Below.step hWv1 hbv2
    go_wp2_with fail
    refine outA hK (held_4 hWv2 hS00) (fun hHeld15=>?_)
    clear hK K
    refine takeA 16 ?_
    refine takeA 17 ?_
    refine takeA 18 ?_
    refine readyA [19] (consA (fun K hK=>?_) .nil)
    go_simp
    obtain ⟨wv3,hwv3⟩:∃ X,X=wv2.alloc (.cells #[.int .u64 0,.int .u32 0,.int .u32 0] 107):=⟨_,rfl⟩
    rw [← hwv3]
    have hbv3:Below wv2.heap.size wv2 wv3:=by rw [hwv3];exact below_a _ _
    have hWv3:=Below.step hWv2 hbv3
    have syv3:=hWv2.size
    have hz:EBox wv3 wv2.heap.size (0,0,0):=by rw [hwv3];exact EBox.new _ _
    obtain ⟨br,hbr⟩:∃ b,b=wv2.heap.size:=⟨_,rfl⟩
    rw [← hbr] at hz ⊢
    have hlb:W3.heap.size≤br:=by omega
    clear hbr
    clear hwv3
    refine outA hK (held_4 hWv3 hS00) (fun hHeld19=>?_)
    clear hK K
    refine readyA [20] (consA (fun K hK=>?_) .nil)
    have hBz:Below W3.heap.size W3 (set3 wv3 br 0 ye):=set3_below hWv3 hlb
    have e0:=hz.c0
    have e1:=hz.c1
    have e2:=hz.c2
    have f0:=hz.z 0
    have f1:=hz.z 1
    have f2:=hz.z 2
    go_simp
    refine outA hK (held_4 hBz hS00) (fun hHeld20=>?_)
    clear hK K
    refine takeA 21 ?_
    refine doneA ?_
    have hs:EBox (set3 wv3 br 0 ye) br ye:=hz.set _
    have hs:=Lib.hid hs
    have hBz:=Lib.hid hBz
    unfold set3 at hs hBz
    clear hS0 hHeld
    go_wp2_with fail
    go_meet
    case rel=>exact ⟨br,rfl,hs,Lib.hid hlb,hBz⟩
   ·skip
    go_simp
    obtain ⟨wv4,hwv4⟩:∃ X,X=wv1.alloc (.cells #[.int .u64 0,.int .u32 0,.int .u32 0] 107):=⟨_,rfl⟩
    rw [← hwv4]
    have hbv4:Below wv1.heap.size wv1 wv4:=by rw [hwv4];exact below_a _ _
    have hWv4:=Below.step hWv1 hbv4
    have syv4:=hWv1.size
    have hz:EBox wv4 wv1.heap.size (0,0,0):=by rw [hwv4];exact EBox.new _ _
    obtain ⟨br,hbr⟩:∃ b,b=wv1.heap.size:=⟨_,rfl⟩
    rw [← hbr] at hz ⊢
    have hlb:W3.heap.size≤br:=by omega
    clear hbr
    clear hwv4
    refine outA hK (held_4 hWv4 hS00) (fun hHeld19=>?_)
    clear hK K
    refine readyA [15] (consA (fun K hK=>?_) .nil)
    go_simp
    refine (A4.out wv4 hWv4).mono ?_
    rintro e wv5 ⟨rfl,hbv5⟩
    have hWv5:=Below.step hWv4 hbv5
    replace hz:=hz.later hbv5
    go_wp2_with fail
    refine outA hK (held_4 hWv5 hS00) (fun hHeld15=>?_)
    clear hK K
    refine takeA 16 ?_
    refine takeA 17 ?_
    refine takeA 18 ?_
    refine readyA [20] (consA (fun K hK=>?_) .nil)
    have hBz:Below W3.heap.size W3 (set3 wv5 br 0 ye):=set3_below hWv5 hlb
    have e0:=hz.c0
    have e1:=hz.c1
    have e2:=hz.c2
    have f0:=hz.z 0
    have f1:=hz.z 1
    have f2:=hz.z 2
    go_simp
    refine outA hK (held_4 hBz hS00) (fun hHeld20=>?_)
    clear hK K
    refine takeA 21 ?_
    refine doneA ?_
    have hs:EBox (set3 wv5 br 0 ye) br ye:=hz.set _
    have hs:=Lib.hid hs
    have hBz:=Lib.hid hBz
    unfold set3 at hs hBz
    clear hS0 hHeld
    go_wp2_with fail
    go_meet
    case rel=>exact ⟨br,rfl,hs,Lib.hid hlb,hBz⟩
  ·skip
   go_simp
   obtain ⟨wv6,hwv6⟩:∃ X,X=wc101.alloc (.cells #[.int .u64 0,.int .u32 0,.int .u32 0] 107):=⟨_,rfl⟩
   rw [← hwv6]
   have hbv6:Below wc101.heap.size wc101 wv6:=by rw [hwv6];exact below_a _ _
   have hWv6:=Below.step hWc101 hbv6
   have syv6:=hWc101.size
   have hz:EBox wv6 wc101.heap.size (0,0,0):=by rw [hwv6];exact EBox.new _ _
   obtain ⟨br,hbr⟩:∃ b,b=wc101.heap.size:=⟨_,rfl⟩
   rw [← hbr] at hz ⊢
   have hlb:W3.heap.size≤br:=by omega
   clear hbr
   clear hwv6
   refine outA hK (held_4 hWv6 hS00) (fun hHeld19=>?_)
   clear hK K
   refine readyA [12] (consA (fun K hK=>?_) .nil)
   go_simp
   refine (A3.out wv6 hWv6).mono ?_
   rintro e wv7 ⟨rfl,hbv7⟩
   have hWv7:=Below.step hWv6 hbv7
   replace hz:=hz.later hbv7
   go_wp2_with fail
   refine outA hK (held_4 hWv7 hS00) (fun hHeld12=>?_)
   clear hK K
   refine readyA [15] (consA (fun K hK=>?_) .nil)
   go_simp
   refine (A4.out wv7 hWv7).mono ?_
   rintro e wv8 ⟨rfl,hbv8⟩
   have hWv8:=Below.step hWv7 hbv8
   replace hz:=hz.later hbv8
   go_wp2_with fail
   refine outA hK (held_4 hWv8 hS00) (fun hHeld15=>?_)
   clear hK K
   refine takeA 16 ?_
   refine takeA 17 ?_
   refine takeA 18 ?_
   refine readyA [20] (consA (fun K hK=>?_) .nil)
   have hBz:Below W3.heap.size W3 (set3 wv8 br 0 ye):=set3_below hWv8 hlb
   have e0:=hz.c0
   have e1:=hz.c1
   have e2:=hz.c2
   have f0:=hz.z 0
   have f1:=hz.z 1
   have f2:=hz.z 2
   go_simp
   refine outA hK (held_4 hBz hS00) (fun hHeld20=>?_)
   clear hK K
   refine takeA 21 ?_
   refine doneA ?_
   have hs:EBox (set3 wv8 br 0 ye) br ye:=hz.set _
   have hs:=Lib.hid hs
   have hBz:=Lib.hid hBz
   unfold set3 at hs hBz
   clear hS0 hHeld
   go_wp2_with fail
   go_meet
   case rel=>exact ⟨br,rfl,hs,Lib.hid hlb,hBz⟩
 case rest =>
  obtain ⟨br,rfl,hE,hlb,hB⟩:=hcut
  have H4:=Lib.hid (H3.out.below hB.out)
  have HK4:=Lib.hid (HK3.out.step hB.out)
  have e0:=hE.out.c0
  have e1:=hE.out.c1
  have e2:=hE.out.c2
  have hlt:=lt_of_cell p6
  have A5:=Lib.hid (mput_at (w:=wc) (b:=bt) (o:=i*8) ye.1 ye.2.1 ye.2.2 HYW.out (cell_later hB.out p6) (cell_later hB.out p7) (cell_later hB.out p2) (fun j=>frz_later hB.out (HZ3.out j) hlt))
  have hbtF:bt∈F:=HF.out bt (by rw [H3.out.lt bt HBT.out];simp)
  clear p6 p7 p2 b6 A3 A4 hlt
  go_wp2_with fail
  refine A5.out.mono ?_;clear A5;rintro e w7 ⟨rfl,W7,hb7,rfl⟩
  have H5:=Lib.hid ((H4.out.below hb7).put HBT.out (by rw [HE1.out.2.2.1];exact HX.out.2.2.1) ye)
  have HK5:=Lib.hid (show Kept F w (put3 W7 bt (i*8) ye.1 ye.2.1 ye.2.2) from (((HK4.out.step hb7).setCell (Or.inl hbtF) _).setCell (Or.inl hbtF) _).setCell (Or.inl hbtF) _)
  obtain ⟨W9,hW9⟩:∃ W,W=put3 W7 bt (i*8) ye.1 ye.2.1 ye.2.2:=⟨_,rfl⟩
  rw [← hW9] at H5 HK5 ⊢
  have p1:W9.cell? ⟨bt,i*8+1,none⟩=some (.int .i64 0):=by
   rw [hW9]
   have hq:=((HTS.out.kept (G:=[]) (Kept.of (Below.step (Below.step HWW.out hB.out) hb7)) (by simp)).cell HX.out.2.2.1 (j:=1) (by decide)).1
   have hq2:W7.cell? ⟨bt,i*8+1,none⟩=some (.int .i64 0):=by rw [hq];show some (Value.int .i64 y.g)=_;rw [HX.out.2.2.2.1]
   exact cell_set_ne (cell_set_ne (cell_set_ne hq2 (Or.inr (by omega))) (Or.inr (by omega))) (Or.inr (by omega))
  clear hW9 e0 e1 e2 hb7
  go_wp2_with fail
  refine wp_loop_rounds 1 ?_
  rw [rounds_succ]
  go_wp2_with fail
  refine bodyPost_ret (v:=.tuple #[.int .i64 cid,.int .i64 0]) (by simp [results,Tryz.results79,go_sem]) rfl ⟨rfl,?_,HK5.out⟩
  have:=H5.out
  rw [HE1.out.2.2.1,HYE.out,HM1.out] at this
  exact this
end Go.Proofs.YtapnaocdehahdaaGreat
