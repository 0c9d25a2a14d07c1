/-
  Layer 25 (pick), the reference: Wake.
-/
import Derived.Test.YtfgmglghlapbcaaGreatRfI
namespace Go.Proofs.YtfgmglghlapbcaaGreat
open Go.RowKit Go.Maps Go.IntWalk Go.Lib Go.Sort Go.Shelf
set_option linter.unusedVariables false
set_option linter.unusedSimpArgs false
set_option maxRecDepth 100000 in
set_option maxHeartbeats 4000000 in
theorem tWake_at (r:RSt) (n m:Nat) (hl:ROk r n m) (hm1:m<69000) (id g:Int) (x:Ent) (hx:Ch.Fits x.1 x.2.1 x.2.2) (a:RAd) (w:World) (hin:RIn w a.ag a.at' a.aa a.af a.cg a.ct a.ca a.cf n m r) :
  Calls Tryz.prog 61 #[.agg #[.slice a.ag n a.cg,.int .u64 r.cr,.slice a.at' m a.ct,.slice a.aa n a.ca,.slice a.af n a.cf],.int .i64 id,.int .i64 g,.agg #[.int .u64 x.1,.int .u32 x.2.1,.int .u32 x.2.2]] w (ResP w a r n m (wakeRS r n id g x) (tup3 (wakeRX r n id g x) (wrongC r n id g (decide (EntOk x))))):=by
 have HL:=Lib.hid hl
 have HIN:=Lib.hid hin
 have A1:=Lib.hid fun W=>rRight_any x.1 x.2.1 x.2.2 W hx
 have A2:=Lib.hid fun W ok (q:RIn W a.ag a.at' a.aa a.af a.cg a.ct a.ca a.cf n m r)=>twrong_at r n m hl.toRLen id g ok a.ag a.at' a.aa a.af a.cg a.ct a.ca a.cf W q
 have A3:=Lib.hid fun W k x (hk:k<n) (q:RIn W a.ag a.at' a.aa a.af a.cg a.ct a.ca a.cf n m r)=>tenter_at r n m hl hm1 id k hk x a.ag a.at' a.aa a.af a.cg a.ct a.ca a.cf W q
 have A5:=Lib.hid fun W fl (hf:0≤fl∧fl≤18446744073709551615)=>eWoken_at x.1 x.2.1 x.2.2 fl r.cr W hx hf hl.cr0
 rw [okB_dec] at A1
 have HC:=Lib.hid (wrong_in (r:=r) (n:=n) (id:=id) (g:=g) (ok:=decide (EntOk x)))
 obtain ⟨c,hc⟩:∃ c,c=wrongC r n id g (decide (EntOk x)):=⟨_,rfl⟩
 have HF:=Lib.hid (show ∀ W,c≠0→Below w.heap.size w W→ResP w a r n m (wakeRS r n id g x) (tup3 (wakeRX r n id g x) c) (.returned (tup3 (0,0,0) c (a.val n m r.cr))) W from fun W h hb=>by
  unfold wakeRS wakeRX
  rw [← hc,if_neg h,if_neg h]
  exact ResP.same (val:=tup3 (0,0,0) c) hl.t hb)
 have HE:=Lib.hid (show c=0→wakeRS r n id g x=enterR r n id g.toNat (wokenX x r.fl[g.toNat]! r.cr)∧wakeRX r n id g x=wokenX x r.fl[g.toNat]! r.cr from fun h=>by unfold wakeRS wakeRX;rw [← hc,if_pos h,if_pos h];exact ⟨rfl,rfl⟩)
 have HRL:=Lib.hid (fun k x=>enterR_len hl.toRLen hm1 id k x)
 obtain ⟨ok,hok⟩:∃ ok,ok=decide (EntOk x):=⟨_,rfl⟩
 rw [← hok] at hc HC A1
 rw [← hok,← hc]
 rw [← hc] at HC
 have HCC:=Lib.hid hc
 have HOK:=Lib.hid hok
 obtain ⟨xv,xr,xw⟩:=x
 dsimp only at A1 A5 ⊢
 obtain ⟨ag,at',aa,af,cg,ct,ca,cf⟩:=a
 dsimp only at A2 A3 HIN ⊢
 have hn:=hl.pos
 clear hin hl hc hok hx
 obtain ⟨W0,hW0⟩:∃ W0,W0=((((w.alloc (.cells #[.slice ag n cg,.int .u64 r.cr,.slice at' m ct,.slice aa n ca,.slice af n cf] 74)).alloc (.cells #[.int .u64 xv,.int .u32 xr,.int .u32 xw] 120)).alloc (.cells #[.slice none 0 0,.int .u64 0,.slice none 0 0,.slice none 0 0,.slice none 0 0] 74)).alloc (.cells #[.int .u64 0,.int .u32 0,.int .u32 0] 120)):=⟨_,rfl⟩
 have HB0:=Lib.hid (show Below w.heap.size w W0 by rw [hW0];exact (Below.allocS (Below.allocS (Below.allocS (Below.allocS (Below.refl _ _) _) _) _) _))
 obtain ⟨c0,fc0,c1,fc1,c2,fc2,c3,fc3,c4,fc4⟩:=uc5 (show CellsF W0 (w.heap.size) [.slice ag n cg,.int .u64 r.cr,.slice at' m ct,.slice aa n ca,.slice af n cf] by rw [hW0];exact (((CellsF.new (by simp)).later (below_a _ _)).later (below_a _ _)).later (below_a _ _))
 obtain ⟨x0,fx0,x1,fx1,x2,fx2⟩:=uc3 (show CellsF W0 (w.heap.size+1) [.int .u64 xv,.int .u32 xr,.int .u32 xw] by rw [hW0];exact ((CellsF.new (by simp)).later (below_a _ _)).later (below_a _ _))
 obtain ⟨r0,fr0,r1,fr1,r2,fr2,r3,fr3,r4,fr4⟩:=uc5 (show CellsF W0 (w.heap.size+1+1) [.slice none 0 0,.int .u64 0,.slice none 0 0,.slice none 0 0,.slice none 0 0] by rw [hW0];exact (CellsF.new (by simp)).later (below_a _ _))
 obtain ⟨q0,fq0,q1,fq1,q2,fq2⟩:=uc3 (show CellsF W0 (w.heap.size+1+1+1) [.int .u64 0,.int .u32 0,.int .u32 0] by rw [hW0];exact CellsF.new (by simp))
 have HSZ:=Lib.hid (show W0.heap.size=w.heap.size+1+1+1+1 by rw [hW0];simp)
 have HW0:=Lib.hid hW0
 clear hW0
 go_enter Tryz.func61,Tryz.ntmps61
 go_upto_region 1 with fail
 rw [← HW0.out]
 generalize hbx:w.heap.size=bx at c0 c1 c2 c3 c4 x0 x1 x2 r0 r1 r2 r3 r4 q0 q1 q2 fc0 fc1 fc2 fc3 fc4 fx0 fx1 fx2 fr0 fr1 fr2 fr3 fr4 fq0 fq1 fq2 HSZ  ⊢
 have HBX:=Lib.hid hbx
 clear hbx HW0
 refine startA (S:=fun w'=>Below W0.heap.size W0 w'∧w'.cell? ⟨bx,0,none⟩=some (.slice ag n cg)∧w'.cell? ⟨bx,1,none⟩=some (.int .u64 r.cr)∧w'.cell? ⟨bx,2,none⟩=some (.slice at' m ct)∧w'.cell? ⟨bx,3,none⟩=some (.slice aa n ca)∧w'.cell? ⟨bx,4,none⟩=some (.slice af n cf)∧w'.cell? ⟨bx+1,0,none⟩=some (.int .u64 xv)∧w'.cell? ⟨bx+1,1,none⟩=some (.int .u32 xr)∧w'.cell? ⟨bx+1,2,none⟩=some (.int .u32 xw)) ⟨Below.refl _ _,c0,c1,c2,c3,c4,x0,x1,x2⟩ (held_8 (below_dr _)) (fun hS0 hHeld=>?_)
 refine takeA 0 ?_
 refine takeA 1 ?_
 refine takeA 2 ?_
 refine takeA 3 ?_
 refine readyA [4] (consA (fun K hK=>?_) .nil)
 go_simp
 refine (A1.out _).mono ?_
 rintro e w5 ⟨rfl,hb5⟩
 go_wp2_with fail
 refine outA hK kp_8 (fun hHeld4=>?_)
 clear hK K
 refine readyA [5] (consA (fun K hK=>?_) .nil)
 go_simp
 refine (A2.out _ ok ((HIN.out.later (HB0.out.drew)).later hb5)).mono ?_
 rintro e w6 ⟨rfl,hb6⟩
 rw [← HCC.out]
 go_wp2_with fail
 refine outA hK kp_8 (fun hHeld5=>?_)
 clear hK K
 refine takeA 6 ?_
 refine doneA ?_
 skip
 have hbb:=Below.step (Below.step (Below.refl W0.heap.size W0).drew hb5) hb6
 clear hS0 hb5 hb6
 have q:=uc5 ((pc5 c0 fc0 c1 fc1 c2 fc2 c3 fc3 c4 fc4).later hbb)
 clear c0 fc0 c1 fc1 c2 fc2 c3 fc3 c4 fc4
 obtain ⟨c0,fc0,c1,fc1,c2,fc2,c3,fc3,c4,fc4⟩:=q
 have q:=uc3 ((pc3 x0 fx0 x1 fx1 x2 fx2).later hbb)
 clear x0 fx0 x1 fx1 x2 fx2
 obtain ⟨x0,fx0,x1,fx1,x2,fx2⟩:=q
 have q:=uc5 ((pc5 r0 fr0 r1 fr1 r2 fr2 r3 fr3 r4 fr4).later hbb)
 clear r0 fr0 r1 fr1 r2 fr2 r3 fr3 r4 fr4
 obtain ⟨r0,fr0,r1,fr1,r2,fr2,r3,fr3,r4,fr4⟩:=q
 have q:=uc3 ((pc3 q0 fq0 q1 fq1 q2 fq2).later hbb)
 clear q0 fq0 q1 fq1 q2 fq2
 obtain ⟨q0,fq0,q1,fq1,q2,fq2⟩:=q
 have HB6:=Lib.hid (Below.step HB0.out hbb)
 have hle:w.heap.size≤bx+1+1:=by have:=HBX.out;omega
 have hle2:w.heap.size≤bx+1+1+1:=by have:=HBX.out;omega
 clear hbb
 by_cases hc0:c=0
 ·subst hc0
  obtain ⟨h1,h2,h3⟩:=HC.out rfl
  obtain ⟨k,rfl⟩:∃ k:Nat,g=k:=⟨g.toNat,by omega⟩
  have hkn:k<n:=by omega
  have hki:(k:Int)<(n:Int):=by omega
  have hk0:(0:Int)≤(k:Int):=by omega
  have hxo:EntOk (xv,xr,xw):=of_decide_eq_true (HOK.out.symm.trans h3)
  obtain ⟨hcg,hct,hca,hcf⟩:=HIN.out.caps
  obtain ⟨bq,oq,haf,f0⟩:=(HIN.out.later HB6.out).floor HL.out.toRLen hkn
  have hfk:=HL.out.fok k hkn
  have HE2:=Lib.hid (HE.out rfl)
  rw [Int.toNat_natCast] at HE2
  obtain ⟨fo,hfo⟩:∃ f,f=r.fl[k]!:=⟨_,rfl⟩
  rw [← hfo] at f0 HE2 hfk
  have AW:=fun W=>A5.out W fo hfk
  rw [show wokenC (xv,xr,xw)=0 by unfold wokenC;exact if_pos hxo] at AW
  obtain ⟨⟨yv,yr,yw⟩,hy⟩:∃ y,y=wokenX (xv,xr,xw) fo r.cr:=⟨_,rfl⟩
  rw [← hy] at HE2 AW
  dsimp only at AW
  replace AW:=Lib.hid AW
  have A4:=Lib.hid fun W (hb:Below w.heap.size w W)=>A3.out W k (yv,yr,yw) hkn (HIN.out.later hb)
  have HRL2:=Lib.hid (HRL.out k (yv,yr,yw))
  subst haf
  clear h1 h2 h3 A3 A5 HE hfo HRL hfk hxo hy
  go_wp2_with fail
  refine startB (S:=fun w'=>Below w6.heap.size w6 w'∧w'.cell? ⟨bx,1,none⟩=some (.int .u64 r.cr)∧w'.cell? ⟨bx,4,none⟩=some (.slice (some ⟨bq,oq,none⟩) n cf)∧w'.cell? ⟨bx+1,0,none⟩=some (.int .u64 xv)∧w'.cell? ⟨bx+1,1,none⟩=some (.int .u32 xr)∧w'.cell? ⟨bx+1,2,none⟩=some (.int .u32 xw)∧w'.cell? ⟨bq,oq+k,none⟩=some (.int .u64 fo)) ⟨Below.refl _ _,c1,c4,x0,x1,x2,f0⟩ (held_6 (below_dr _)) (fun hS00 hS0 hHeld=>?_)
  obtain ⟨wc101,hwc101⟩:∃ X,X=w6.drew:=⟨_,rfl⟩
  rw [← hwc101] at hHeld ⊢
  have hWc101:Below w6.heap.size w6 wc101:=by rw [hwc101];exact (Below.refl _ _).drew
  clear hwc101
  refine takeA 0 ?_
  refine takeA 1 ?_
  refine takeA 2 ?_
  refine takeA 3 ?_
  refine takeA 4 ?_
  refine takeA 5 ?_
  refine takeA 6 ?_
  refine takeA 7 ?_
  refine readyA [8,12] (consA (fun K hK=>?_) (consA (fun K hK=>?_) .nil))
  ·skip
   go_simp
   refine (AW.out wc101).mono ?_
   rintro e w102 ⟨rfl,hb102⟩
   have hW102:=Below.step hWc101 hb102
   go_wp2_with fail
   refine outA hK (held_6 hW102 hS00) (fun hHeld8=>?_)
   clear hK K
   refine takeA 9 ?_
   refine takeA 10 ?_
   refine takeA 11 ?_
   refine readyA [12] (consA (fun K hK=>?_) .nil)
   go_simp
   obtain ⟨w103,hw103⟩:∃ X,X=w102.alloc (.cells #[.int .u64 0,.int .u32 0,.int .u32 0] 120):=⟨_,rfl⟩
   rw [← hw103]
   have hb103:Below w102.heap.size w102 w103:=by rw [hw103];exact below_a _ _
   have hW103:=Below.step hW102 hb103
   have n0:w103.cell? ⟨w102.heap.size,0,none⟩=some (.int .u64 0):=by rw [hw103];exact cell_nw _ _ _ 0 _ rfl
   have n1:w103.cell? ⟨w102.heap.size,1,none⟩=some (.int .u32 0):=by rw [hw103];exact cell_nw _ _ _ 1 _ rfl
   have n2:w103.cell? ⟨w102.heap.size,2,none⟩=some (.int .u32 0):=by rw [hw103];exact cell_nw _ _ _ 2 _ rfl
   have fn0:w103.frozen? ⟨w102.heap.size,0,none⟩=false:=by rw [hw103];exact frz_nw _ _ _ 0
   have fn1:w103.frozen? ⟨w102.heap.size,1,none⟩=false:=by rw [hw103];exact frz_nw _ _ _ 1
   have fn2:w103.frozen? ⟨w102.heap.size,2,none⟩=false:=by rw [hw103];exact frz_nw _ _ _ 2
   clear hw103
   obtain ⟨bN,hbN⟩:∃ b,b=w102.heap.size:=⟨_,rfl⟩
   have hNge:w6.heap.size≤bN:=by rw [hbN];exact hW102.size
   rw [← hbN] at n0 n1 n2 fn0 fn1 fn2 ⊢
   clear hbN
   refine outA hK (held_6 hW103 hS00) (fun hHeld12=>?_)
   clear hK K
   refine readyA [13] (consA (fun K hK=>?_) .nil)
   go_simp
   have hs13:Below w6.heap.size w6 (((w103.setCell ⟨bN,0,none⟩ (.int .u64 yv)).setCell ⟨bN,1,none⟩ (.int .u32 yr)).setCell ⟨bN,2,none⟩ (.int .u32 yw)):=((hW103.setCell hNge _).setCell hNge _).setCell hNge _
   refine outA hK (held_6 hs13 hS00) (fun hHeld13=>?_)
   clear hK K
   refine takeA 14 ?_
   refine doneA ?_
   have k0:(((w103.setCell ⟨bN,0,none⟩ (.int .u64 yv)).setCell ⟨bN,1,none⟩ (.int .u32 yr)).setCell ⟨bN,2,none⟩ (.int .u32 yw)).cell? ⟨bN,0,none⟩=some (.int .u64 yv):=cell_set_ne (cell_set_ne (cell_set_eq n0) (Or.inr (by decide))) (Or.inr (by decide))
   have k1:(((w103.setCell ⟨bN,0,none⟩ (.int .u64 yv)).setCell ⟨bN,1,none⟩ (.int .u32 yr)).setCell ⟨bN,2,none⟩ (.int .u32 yw)).cell? ⟨bN,1,none⟩=some (.int .u32 yr):=cell_set_ne (cell_set_eq (cell_set_ne n1 (Or.inr (by decide)))) (Or.inr (by decide))
   have k2:(((w103.setCell ⟨bN,0,none⟩ (.int .u64 yv)).setCell ⟨bN,1,none⟩ (.int .u32 yr)).setCell ⟨bN,2,none⟩ (.int .u32 yw)).cell? ⟨bN,2,none⟩=some (.int .u32 yw):=cell_set_eq (cell_set_ne (cell_set_ne n2 (Or.inr (by decide))) (Or.inr (by decide)))
   have hb67:=hs13
   obtain ⟨w7,hw7⟩:∃ W,W=(((w103.setCell ⟨bN,0,none⟩ (.int .u64 yv)).setCell ⟨bN,1,none⟩ (.int .u32 yr)).setCell ⟨bN,2,none⟩ (.int .u32 yw)):=⟨_,rfl⟩
   rw [← hw7] at k0 k1 k2 hb67 ⊢
   clear hw7 hs13 n0 n1 n2 fn0 fn1 fn2 hS00 hS0
   go_upto_region 5 with fail
   obtain ⟨bE,rfl⟩:∃ b,b=bN:=⟨_,rfl⟩
   have hbEl:bx+1+1+1<bE:=Nat.lt_of_lt_of_le (lt_of_cell q0) hNge
   have q:=uc5 ((pc5 c0 fc0 c1 fc1 c2 fc2 c3 fc3 c4 fc4).later hb67)
   clear c0 fc0 c1 fc1 c2 fc2 c3 fc3 c4 fc4
   obtain ⟨c0,fc0,c1,fc1,c2,fc2,c3,fc3,c4,fc4⟩:=q
   have q:=uc3 ((pc3 x0 fx0 x1 fx1 x2 fx2).later hb67)
   clear x0 fx0 x1 fx1 x2 fx2
   obtain ⟨x0,fx0,x1,fx1,x2,fx2⟩:=q
   have q:=uc5 ((pc5 r0 fr0 r1 fr1 r2 fr2 r3 fr3 r4 fr4).later hb67)
   clear r0 fr0 r1 fr1 r2 fr2 r3 fr3 r4 fr4
   obtain ⟨r0,fr0,r1,fr1,r2,fr2,r3,fr3,r4,fr4⟩:=q
   have q:=uc3 ((pc3 q0 fq0 q1 fq1 q2 fq2).later hb67)
   clear q0 fq0 q1 fq1 q2 fq2
   obtain ⟨q0,fq0,q1,fq1,q2,fq2⟩:=q
   have HB7:=Lib.hid (Below.step HB6.out hb67)
   clear hb67
   have nb:bx∉[bx+1+1,bx+1+1+1]:=by simp only [List.mem_cons,List.not_mem_nil,or_false,not_or];omega
   have nE:bE∉[bx+1+1,bx+1+1+1]:=by simp only [List.mem_cons,List.not_mem_nil,or_false,not_or];omega
   refine startB (S:=fun w'=>Kept [bx+1+1,bx+1+1+1] w7 w'∧w'.cell? ⟨bx,0,none⟩=some (.slice ag n cg)∧w'.cell? ⟨bx,1,none⟩=some (.int .u64 r.cr)∧w'.cell? ⟨bx,2,none⟩=some (.slice at' m ct)∧w'.cell? ⟨bx,3,none⟩=some (.slice aa n ca)∧w'.cell? ⟨bx,4,none⟩=some (.slice (some ⟨bq,oq,none⟩) n cf)∧w'.cell? ⟨bE,0,none⟩=some (.int .u64 (yv))∧w'.cell? ⟨bE,1,none⟩=some (.int .u32 (yr))∧w'.cell? ⟨bE,2,none⟩=some (.int .u32 (yw))) ⟨Kept.refl _ _,c0,c1,c2,c3,c4,k0,k1,k2⟩ (fun h=>heldK_8 (kept_dr _ _) h) (fun hS00 hS0 hHeld=>?_)
   obtain ⟨wc106,hwc106⟩:∃ X,X=w7.drew:=⟨_,rfl⟩
   rw [← hwc106] at hHeld ⊢
   have hWc106:Below w7.heap.size w7 wc106:=by rw [hwc106];exact (Below.refl _ _).drew
   clear hwc106
   refine takeA 0 ?_
   refine takeA 1 ?_
   refine takeA 2 ?_
   refine takeA 3 ?_
   refine readyA [4,5] (consA (fun K hK=>?_) (consA (fun K hK=>?_) .nil))
   ·skip
    go_simp
    refine (A4.out _ (Below.step HB7.out hWc106)).mono ?_
    rintro e w107 ⟨bg,a1,ba,bf,dg,dt,da,df,rfl,hO,hb107⟩
    have hW107:=Below.step hWc106 hb107
    have gfr0:=frz_later hW107 fr0 (lt_of_cell r0)
    have gr0:=cell_later hW107 r0
    have gfr1:=frz_later hW107 fr1 (lt_of_cell r1)
    have gr1:=cell_later hW107 r1
    have gfr2:=frz_later hW107 fr2 (lt_of_cell r2)
    have gr2:=cell_later hW107 r2
    have gfr3:=frz_later hW107 fr3 (lt_of_cell r3)
    have gr3:=cell_later hW107 r3
    have gfr4:=frz_later hW107 fr4 (lt_of_cell r4)
    have gr4:=cell_later hW107 r4
    have gfq0:=frz_later hW107 fq0 (lt_of_cell q0)
    have gq0:=cell_later hW107 q0
    have gfq1:=frz_later hW107 fq1 (lt_of_cell q1)
    have gq1:=cell_later hW107 q1
    have gfq2:=frz_later hW107 fq2 (lt_of_cell q2)
    have gq2:=cell_later hW107 q2
    have hbw:=hW107
    have HS9:=Lib.hid (show bx+1+1+1<wc106.heap.size from Nat.lt_of_lt_of_le (lt_of_cell q0) hWc106.size)
    have HZ7:=Lib.hid (show w.heap.size≤wc106.heap.size from Nat.le_trans HB7.out.size hWc106.size)
    go_wp2_with fail
    refine outA hK (heldK_8 (S:=[bx+1+1,bx+1+1+1]) (Kept.of hW107) hS00 nb nb nb nb nb nE nE nE) (fun hHeld4=>?_)
    clear hK K
    refine readyA [5,6] (consA (fun K hK=>?_) (consA (fun K hK=>?_) .nil))
    ·skip
     go_simp
     refine outA hK (heldK_8 (S:=[bx+1+1,bx+1+1+1]) (Kept.of hW107) hS00 nb nb nb nb nb nE nE nE) (fun hHeld5=>?_)
     clear hK K
     refine readyA [6] (consA (fun K hK=>?_) .nil)
     go_simp
     have hk108:Kept [bx+1+1,bx+1+1+1] w7 (((((w107.setCell ⟨bx+1+1,0,none⟩ (.slice (some ⟨bg,0,none⟩) n dg)).setCell ⟨bx+1+1,1,none⟩ (.int .u64 (enterR r n id k (yv,yr,yw)).cr)).setCell ⟨bx+1+1,2,none⟩ (.slice a1 (m+1) dt)).setCell ⟨bx+1+1,3,none⟩ (.slice (some ⟨ba,0,none⟩) n da)).setCell ⟨bx+1+1,4,none⟩ (.slice (some ⟨bf,0,none⟩) n df)):=((((((Kept.of hW107).setCell (p:=⟨bx+1+1,0,none⟩) (Or.inl (by simp)) _).setCell (p:=⟨bx+1+1,1,none⟩) (Or.inl (by simp)) _).setCell (p:=⟨bx+1+1,2,none⟩) (Or.inl (by simp)) _).setCell (p:=⟨bx+1+1,3,none⟩) (Or.inl (by simp)) _).setCell (p:=⟨bx+1+1,4,none⟩) (Or.inl (by simp)) _)
     refine outA hK (heldK_8 (S:=[bx+1+1,bx+1+1+1]) (hk108) hS00 nb nb nb nb nb nE nE nE) (fun hHeld6=>?_)
     clear hK K
     refine readyA [7] (consA (fun K hK=>?_) .nil)
     go_simp
     have hk109:Kept [bx+1+1,bx+1+1+1] w7 ((((((((w107.setCell ⟨bx+1+1,0,none⟩ (.slice (some ⟨bg,0,none⟩) n dg)).setCell ⟨bx+1+1,1,none⟩ (.int .u64 (enterR r n id k (yv,yr,yw)).cr)).setCell ⟨bx+1+1,2,none⟩ (.slice a1 (m+1) dt)).setCell ⟨bx+1+1,3,none⟩ (.slice (some ⟨ba,0,none⟩) n da)).setCell ⟨bx+1+1,4,none⟩ (.slice (some ⟨bf,0,none⟩) n df)).setCell ⟨bx+1+1+1,0,none⟩ (.int .u64 (yv))).setCell ⟨bx+1+1+1,1,none⟩ (.int .u32 (yr))).setCell ⟨bx+1+1+1,2,none⟩ (.int .u32 (yw))):=(((hk108.setCell (p:=⟨bx+1+1+1,0,none⟩) (Or.inl (by simp)) _).setCell (p:=⟨bx+1+1+1,1,none⟩) (Or.inl (by simp)) _).setCell (p:=⟨bx+1+1+1,2,none⟩) (Or.inl (by simp)) _)
     refine outA hK (heldK_8 (S:=[bx+1+1,bx+1+1+1]) (hk109) hS00 nb nb nb nb nb nE nE nE) (fun hHeld7=>?_)
     clear hK K
     refine takeA 8 ?_
     refine doneA ?_
     have HO:=Lib.hid hO
     have HB9:=Lib.hid (Below.step HB7.out hbw)
     clear hO hS0
     go_wp2_with fail
     refine bodyPost_ret (v:=.tuple #[.agg #[.slice (some ⟨bg,0,none⟩) n dg,.int .u64 (enterR r n id k (yv,yr,yw)).cr,.slice a1 (m+1) dt,.slice (some ⟨ba,0,none⟩) n da,.slice (some ⟨bf,0,none⟩) n df],.agg #[.int .u64 (yv),.int .u32 (yr),.int .u32 (yw)],.int .i64 0]) (by simp [results,Tryz.results61,go_sem, *]) rfl ?_
     rw [HE2.out.1,HE2.out.2]
     have hlow2:=HS9.out
     have hlow:bx+1+1<_:=Nat.lt_of_succ_lt hlow2
     have hO:=HO.out
     exact ResP.own (val:=tup3 (yv,yr,yw) 0) (ROwn.toBase ((((((((hO.low (a:=⟨bx+1+1,0,none⟩) hlow _).low (a:=⟨bx+1+1,1,none⟩) hlow _).low (a:=⟨bx+1+1,2,none⟩) hlow _).low (a:=⟨bx+1+1,3,none⟩) hlow _).low (a:=⟨bx+1+1,4,none⟩) hlow _).low (a:=⟨bx+1+1+1,0,none⟩) hlow2 _).low (a:=⟨bx+1+1+1,1,none⟩) hlow2 _).low (a:=⟨bx+1+1+1,2,none⟩) hlow2 _) HZ7.out) HRL2.out ((((((((HB9.out.setCell hle _).setCell hle _).setCell hle _).setCell hle _).setCell hle _).setCell hle2 _).setCell hle2 _).setCell hle2 _)
    ·skip
     go_simp
     have hk110:Kept [bx+1+1,bx+1+1+1] w7 (((((w107.setCell ⟨bx+1+1,0,none⟩ (.slice (some ⟨bg,0,none⟩) n dg)).setCell ⟨bx+1+1,1,none⟩ (.int .u64 (enterR r n id k (yv,yr,yw)).cr)).setCell ⟨bx+1+1,2,none⟩ (.slice a1 (m+1) dt)).setCell ⟨bx+1+1,3,none⟩ (.slice (some ⟨ba,0,none⟩) n da)).setCell ⟨bx+1+1,4,none⟩ (.slice (some ⟨bf,0,none⟩) n df)):=((((((Kept.of hW107).setCell (p:=⟨bx+1+1,0,none⟩) (Or.inl (by simp)) _).setCell (p:=⟨bx+1+1,1,none⟩) (Or.inl (by simp)) _).setCell (p:=⟨bx+1+1,2,none⟩) (Or.inl (by simp)) _).setCell (p:=⟨bx+1+1,3,none⟩) (Or.inl (by simp)) _).setCell (p:=⟨bx+1+1,4,none⟩) (Or.inl (by simp)) _)
     refine outA hK (heldK_8 (S:=[bx+1+1,bx+1+1+1]) (hk110) hS00 nb nb nb nb nb nE nE nE) (fun hHeld6=>?_)
     clear hK K
     refine readyA [5] (consA (fun K hK=>?_) .nil)
     go_simp
     refine outA hK (heldK_8 (S:=[bx+1+1,bx+1+1+1]) (hk110) hS00 nb nb nb nb nb nE nE nE) (fun hHeld5=>?_)
     clear hK K
     refine readyA [7] (consA (fun K hK=>?_) .nil)
     go_simp
     have hk111:Kept [bx+1+1,bx+1+1+1] w7 ((((((((w107.setCell ⟨bx+1+1,0,none⟩ (.slice (some ⟨bg,0,none⟩) n dg)).setCell ⟨bx+1+1,1,none⟩ (.int .u64 (enterR r n id k (yv,yr,yw)).cr)).setCell ⟨bx+1+1,2,none⟩ (.slice a1 (m+1) dt)).setCell ⟨bx+1+1,3,none⟩ (.slice (some ⟨ba,0,none⟩) n da)).setCell ⟨bx+1+1,4,none⟩ (.slice (some ⟨bf,0,none⟩) n df)).setCell ⟨bx+1+1+1,0,none⟩ (.int .u64 (yv))).setCell ⟨bx+1+1+1,1,none⟩ (.int .u32 (yr))).setCell ⟨bx+1+1+1,2,none⟩ (.int .u32 (yw))):=(((hk110.setCell (p:=⟨bx+1+1+1,0,none⟩) (Or.inl (by simp)) _).setCell (p:=⟨bx+1+1+1,1,none⟩) (Or.inl (by simp)) _).setCell (p:=⟨bx+1+1+1,2,none⟩) (Or.inl (by simp)) _)
     refine outA hK (heldK_8 (S:=[bx+1+1,bx+1+1+1]) (hk111) hS00 nb nb nb nb nb nE nE nE) (fun hHeld7=>?_)
     clear hK K
     refine takeA 8 ?_
     refine doneA ?_
     have HO:=Lib.hid hO
     have HB9:=Lib.hid (Below.step HB7.out hbw)
     clear hO hS0
     go_wp2_with fail
     refine bodyPost_ret (v:=.tuple #[.agg #[.slice (some ⟨bg,0,none⟩) n dg,.int .u64 (enterR r n id k (yv,yr,yw)).cr,.slice a1 (m+1) dt,.slice (some ⟨ba,0,none⟩) n da,.slice (some ⟨bf,0,none⟩) n df],.agg #[.int .u64 (yv),.int .u32 (yr),.int .u32 (yw)],.int .i64 0]) (by simp [results,Tryz.results61,go_sem, *]) rfl ?_
     rw [HE2.out.1,HE2.out.2]
     have hlow2:=HS9.out
     have hlow:bx+1+1<_:=Nat.lt_of_succ_lt hlow2
     have hO:=HO.out
     exact ResP.own (val:=tup3 (yv,yr,yw) 0) (ROwn.toBase ((((((((hO.low (a:=⟨bx+1+1,0,none⟩) hlow _).low (a:=⟨bx+1+1,1,none⟩) hlow _).low (a:=⟨bx+1+1,2,none⟩) hlow _).low (a:=⟨bx+1+1,3,none⟩) hlow _).low (a:=⟨bx+1+1,4,none⟩) hlow _).low (a:=⟨bx+1+1+1,0,none⟩) hlow2 _).low (a:=⟨bx+1+1+1,1,none⟩) hlow2 _).low (a:=⟨bx+1+1+1,2,none⟩) hlow2 _) HZ7.out) HRL2.out ((((((((HB9.out.setCell hle _).setCell hle _).setCell hle _).setCell hle _).setCell hle _).setCell hle2 _).setCell hle2 _).setCell hle2 _)
   ·skip
    go_simp
    refine outA hK (heldK_8 (S:=[bx+1+1,bx+1+1+1]) (Kept.of hWc106) hS00 nb nb nb nb nb nE nE nE) (fun hHeld5=>?_)
    clear hK K
    refine readyA [4] (consA (fun K hK=>?_) .nil)
    go_simp
    refine (A4.out _ (Below.step HB7.out hWc106)).mono ?_
    rintro e w112 ⟨bg,a1,ba,bf,dg,dt,da,df,rfl,hO,hb112⟩
    have hW112:=Below.step hWc106 hb112
    have gfr0:=frz_later hW112 fr0 (lt_of_cell r0)
    have gr0:=cell_later hW112 r0
    have gfr1:=frz_later hW112 fr1 (lt_of_cell r1)
    have gr1:=cell_later hW112 r1
    have gfr2:=frz_later hW112 fr2 (lt_of_cell r2)
    have gr2:=cell_later hW112 r2
    have gfr3:=frz_later hW112 fr3 (lt_of_cell r3)
    have gr3:=cell_later hW112 r3
    have gfr4:=frz_later hW112 fr4 (lt_of_cell r4)
    have gr4:=cell_later hW112 r4
    have gfq0:=frz_later hW112 fq0 (lt_of_cell q0)
    have gq0:=cell_later hW112 q0
    have gfq1:=frz_later hW112 fq1 (lt_of_cell q1)
    have gq1:=cell_later hW112 q1
    have gfq2:=frz_later hW112 fq2 (lt_of_cell q2)
    have gq2:=cell_later hW112 q2
    have hbw:=hW112
    have HS9:=Lib.hid (show bx+1+1+1<wc106.heap.size from Nat.lt_of_lt_of_le (lt_of_cell q0) hWc106.size)
    have HZ7:=Lib.hid (show w.heap.size≤wc106.heap.size from Nat.le_trans HB7.out.size hWc106.size)
    go_wp2_with fail
    refine outA hK (heldK_8 (S:=[bx+1+1,bx+1+1+1]) (Kept.of hW112) hS00 nb nb nb nb nb nE nE nE) (fun hHeld4=>?_)
    clear hK K
    refine readyA [6] (consA (fun K hK=>?_) .nil)
    go_simp
    have hk113:Kept [bx+1+1,bx+1+1+1] w7 (((((w112.setCell ⟨bx+1+1,0,none⟩ (.slice (some ⟨bg,0,none⟩) n dg)).setCell ⟨bx+1+1,1,none⟩ (.int .u64 (enterR r n id k (yv,yr,yw)).cr)).setCell ⟨bx+1+1,2,none⟩ (.slice a1 (m+1) dt)).setCell ⟨bx+1+1,3,none⟩ (.slice (some ⟨ba,0,none⟩) n da)).setCell ⟨bx+1+1,4,none⟩ (.slice (some ⟨bf,0,none⟩) n df)):=((((((Kept.of hW112).setCell (p:=⟨bx+1+1,0,none⟩) (Or.inl (by simp)) _).setCell (p:=⟨bx+1+1,1,none⟩) (Or.inl (by simp)) _).setCell (p:=⟨bx+1+1,2,none⟩) (Or.inl (by simp)) _).setCell (p:=⟨bx+1+1,3,none⟩) (Or.inl (by simp)) _).setCell (p:=⟨bx+1+1,4,none⟩) (Or.inl (by simp)) _)
    refine outA hK (heldK_8 (S:=[bx+1+1,bx+1+1+1]) (hk113) hS00 nb nb nb nb nb nE nE nE) (fun hHeld6=>?_)
    clear hK K
    refine readyA [7] (consA (fun K hK=>?_) .nil)
    go_simp
    have hk114:Kept [bx+1+1,bx+1+1+1] w7 ((((((((w112.setCell ⟨bx+1+1,0,none⟩ (.slice (some ⟨bg,0,none⟩) n dg)).setCell ⟨bx+1+1,1,none⟩ (.int .u64 (enterR r n id k (yv,yr,yw)).cr)).setCell ⟨bx+1+1,2,none⟩ (.slice a1 (m+1) dt)).setCell ⟨bx+1+1,3,none⟩ (.slice (some ⟨ba,0,none⟩) n da)).setCell ⟨bx+1+1,4,none⟩ (.slice (some ⟨bf,0,none⟩) n df)).setCell ⟨bx+1+1+1,0,none⟩ (.int .u64 (yv))).setCell ⟨bx+1+1+1,1,none⟩ (.int .u32 (yr))).setCell ⟨bx+1+1+1,2,none⟩ (.int .u32 (yw))):=(((hk113.setCell (p:=⟨bx+1+1+1,0,none⟩) (Or.inl (by simp)) _).setCell (p:=⟨bx+1+1+1,1,none⟩) (Or.inl (by simp)) _).setCell (p:=⟨bx+1+1+1,2,none⟩) (Or.inl (by simp)) _)
    refine outA hK (heldK_8 (S:=[bx+1+1,bx+1+1+1]) (hk114) hS00 nb nb nb nb nb nE nE nE) (fun hHeld7=>?_)
    clear hK K
    refine takeA 8 ?_
    refine doneA ?_
    have HO:=Lib.hid hO
    have HB9:=Lib.hid (Below.step HB7.out hbw)
    clear hO hS0
    go_wp2_with fail
    refine bodyPost_ret (v:=.tuple #[.agg #[.slice (some ⟨bg,0,none⟩) n dg,.int .u64 (enterR r n id k (yv,yr,yw)).cr,.slice a1 (m+1) dt,.slice (some ⟨ba,0,none⟩) n da,.slice (some ⟨bf,0,none⟩) n df],.agg #[.int .u64 (yv),.int .u32 (yr),.int .u32 (yw)],.int .i64 0]) (by simp [results,Tryz.results61,go_sem, *]) rfl ?_
    rw [HE2.out.1,HE2.out.2]
    have hlow2:=HS9.out
    have hlow:bx+1+1<_:=Nat.lt_of_succ_lt hlow2
    have hO:=HO.out
    exact ResP.own (val:=tup3 (yv,yr,yw) 0) (ROwn.toBase ((((((((hO.low (a:=⟨bx+1+1,0,none⟩) hlow _).low (a:=⟨bx+1+1,1,none⟩) hlow _).low (a:=⟨bx+1+1,2,none⟩) hlow _).low (a:=⟨bx+1+1,3,none⟩) hlow _).low (a:=⟨bx+1+1,4,none⟩) hlow _).low (a:=⟨bx+1+1+1,0,none⟩) hlow2 _).low (a:=⟨bx+1+1+1,1,none⟩) hlow2 _).low (a:=⟨bx+1+1+1,2,none⟩) hlow2 _) HZ7.out) HRL2.out ((((((((HB9.out.setCell hle _).setCell hle _).setCell hle _).setCell hle _).setCell hle _).setCell hle2 _).setCell hle2 _).setCell hle2 _)
  ·skip
   go_simp
   obtain ⟨w104,hw104⟩:∃ X,X=wc101.alloc (.cells #[.int .u64 0,.int .u32 0,.int .u32 0] 120):=⟨_,rfl⟩
   rw [← hw104]
   have hb104:Below wc101.heap.size wc101 w104:=by rw [hw104];exact below_a _ _
   have hW104:=Below.step hWc101 hb104
   have n0:w104.cell? ⟨wc101.heap.size,0,none⟩=some (.int .u64 0):=by rw [hw104];exact cell_nw _ _ _ 0 _ rfl
   have n1:w104.cell? ⟨wc101.heap.size,1,none⟩=some (.int .u32 0):=by rw [hw104];exact cell_nw _ _ _ 1 _ rfl
   have n2:w104.cell? ⟨wc101.heap.size,2,none⟩=some (.int .u32 0):=by rw [hw104];exact cell_nw _ _ _ 2 _ rfl
   have fn0:w104.frozen? ⟨wc101.heap.size,0,none⟩=false:=by rw [hw104];exact frz_nw _ _ _ 0
   have fn1:w104.frozen? ⟨wc101.heap.size,1,none⟩=false:=by rw [hw104];exact frz_nw _ _ _ 1
   have fn2:w104.frozen? ⟨wc101.heap.size,2,none⟩=false:=by rw [hw104];exact frz_nw _ _ _ 2
   clear hw104
   obtain ⟨bN,hbN⟩:∃ b,b=wc101.heap.size:=⟨_,rfl⟩
   have hNge:w6.heap.size≤bN:=by rw [hbN];exact hWc101.size
   rw [← hbN] at n0 n1 n2 fn0 fn1 fn2 ⊢
   clear hbN
   refine outA hK (held_6 hW104 hS00) (fun hHeld12=>?_)
   clear hK K
   refine readyA [8] (consA (fun K hK=>?_) .nil)
   go_simp
   refine (AW.out w104).mono ?_
   rintro e w105 ⟨rfl,hb105⟩
   have hW105:=Below.step hW104 hb105
   replace fn0:=frz_later hb105 fn0 (lt_of_cell n0)
   replace fn1:=frz_later hb105 fn1 (lt_of_cell n1)
   replace fn2:=frz_later hb105 fn2 (lt_of_cell n2)
   replace n0:=cell_later hb105 n0
   replace n1:=cell_later hb105 n1
   replace n2:=cell_later hb105 n2
   go_wp2_with fail
   refine outA hK (held_6 hW105 hS00) (fun hHeld8=>?_)
   clear hK K
   refine takeA 9 ?_
   refine takeA 10 ?_
   refine takeA 11 ?_
   refine readyA [13] (consA (fun K hK=>?_) .nil)
   go_simp
   have hs13:Below w6.heap.size w6 (((w105.setCell ⟨bN,0,none⟩ (.int .u64 yv)).setCell ⟨bN,1,none⟩ (.int .u32 yr)).setCell ⟨bN,2,none⟩ (.int .u32 yw)):=((hW105.setCell hNge _).setCell hNge _).setCell hNge _
   refine outA hK (held_6 hs13 hS00) (fun hHeld13=>?_)
   clear hK K
   refine takeA 14 ?_
   refine doneA ?_
   have k0:(((w105.setCell ⟨bN,0,none⟩ (.int .u64 yv)).setCell ⟨bN,1,none⟩ (.int .u32 yr)).setCell ⟨bN,2,none⟩ (.int .u32 yw)).cell? ⟨bN,0,none⟩=some (.int .u64 yv):=cell_set_ne (cell_set_ne (cell_set_eq n0) (Or.inr (by decide))) (Or.inr (by decide))
   have k1:(((w105.setCell ⟨bN,0,none⟩ (.int .u64 yv)).setCell ⟨bN,1,none⟩ (.int .u32 yr)).setCell ⟨bN,2,none⟩ (.int .u32 yw)).cell? ⟨bN,1,none⟩=some (.int .u32 yr):=cell_set_ne (cell_set_eq (cell_set_ne n1 (Or.inr (by decide)))) (Or.inr (by decide))
   have k2:(((w105.setCell ⟨bN,0,none⟩ (.int .u64 yv)).setCell ⟨bN,1,none⟩ (.int .u32 yr)).setCell ⟨bN,2,none⟩ (.int .u32 yw)).cell? ⟨bN,2,none⟩=some (.int .u32 yw):=cell_set_eq (cell_set_ne (cell_set_ne n2 (Or.inr (by decide))) (Or.inr (by decide)))
   have hb67:=hs13
   obtain ⟨w7,hw7⟩:∃ W,W=(((w105.setCell ⟨bN,0,none⟩ (.int .u64 yv)).setCell ⟨bN,1,none⟩ (.int .u32 yr)).setCell ⟨bN,2,none⟩ (.int .u32 yw)):=⟨_,rfl⟩
   rw [← hw7] at k0 k1 k2 hb67 ⊢
   clear hw7 hs13 n0 n1 n2 fn0 fn1 fn2 hS00 hS0
   go_upto_region 5 with fail
   obtain ⟨bE,rfl⟩:∃ b,b=bN:=⟨_,rfl⟩
   have hbEl:bx+1+1+1<bE:=Nat.lt_of_lt_of_le (lt_of_cell q0) hNge
   have q:=uc5 ((pc5 c0 fc0 c1 fc1 c2 fc2 c3 fc3 c4 fc4).later hb67)
   clear c0 fc0 c1 fc1 c2 fc2 c3 fc3 c4 fc4
   obtain ⟨c0,fc0,c1,fc1,c2,fc2,c3,fc3,c4,fc4⟩:=q
   have q:=uc3 ((pc3 x0 fx0 x1 fx1 x2 fx2).later hb67)
   clear x0 fx0 x1 fx1 x2 fx2
   obtain ⟨x0,fx0,x1,fx1,x2,fx2⟩:=q
   have q:=uc5 ((pc5 r0 fr0 r1 fr1 r2 fr2 r3 fr3 r4 fr4).later hb67)
   clear r0 fr0 r1 fr1 r2 fr2 r3 fr3 r4 fr4
   obtain ⟨r0,fr0,r1,fr1,r2,fr2,r3,fr3,r4,fr4⟩:=q
   have q:=uc3 ((pc3 q0 fq0 q1 fq1 q2 fq2).later hb67)
   clear q0 fq0 q1 fq1 q2 fq2
   obtain ⟨q0,fq0,q1,fq1,q2,fq2⟩:=q
   have HB7:=Lib.hid (Below.step HB6.out hb67)
   clear hb67
   have nb:bx∉[bx+1+1,bx+1+1+1]:=by simp only [List.mem_cons,List.not_mem_nil,or_false,not_or];omega
   have nE:bE∉[bx+1+1,bx+1+1+1]:=by simp only [List.mem_cons,List.not_mem_nil,or_false,not_or];omega
   refine startB (S:=fun w'=>Kept [bx+1+1,bx+1+1+1] w7 w'∧w'.cell? ⟨bx,0,none⟩=some (.slice ag n cg)∧w'.cell? ⟨bx,1,none⟩=some (.int .u64 r.cr)∧w'.cell? ⟨bx,2,none⟩=some (.slice at' m ct)∧w'.cell? ⟨bx,3,none⟩=some (.slice aa n ca)∧w'.cell? ⟨bx,4,none⟩=some (.slice (some ⟨bq,oq,none⟩) n cf)∧w'.cell? ⟨bE,0,none⟩=some (.int .u64 (yv))∧w'.cell? ⟨bE,1,none⟩=some (.int .u32 (yr))∧w'.cell? ⟨bE,2,none⟩=some (.int .u32 (yw))) ⟨Kept.refl _ _,c0,c1,c2,c3,c4,k0,k1,k2⟩ (fun h=>heldK_8 (kept_dr _ _) h) (fun hS00 hS0 hHeld=>?_)
   obtain ⟨wc115,hwc115⟩:∃ X,X=w7.drew:=⟨_,rfl⟩
   rw [← hwc115] at hHeld ⊢
   have hWc115:Below w7.heap.size w7 wc115:=by rw [hwc115];exact (Below.refl _ _).drew
   clear hwc115
   refine takeA 0 ?_
   refine takeA 1 ?_
   refine takeA 2 ?_
   refine takeA 3 ?_
   refine readyA [4,5] (consA (fun K hK=>?_) (consA (fun K hK=>?_) .nil))
   ·skip
    go_simp
    refine (A4.out _ (Below.step HB7.out hWc115)).mono ?_
    rintro e w116 ⟨bg,a1,ba,bf,dg,dt,da,df,rfl,hO,hb116⟩
    have hW116:=Below.step hWc115 hb116
    have gfr0:=frz_later hW116 fr0 (lt_of_cell r0)
    have gr0:=cell_later hW116 r0
    have gfr1:=frz_later hW116 fr1 (lt_of_cell r1)
    have gr1:=cell_later hW116 r1
    have gfr2:=frz_later hW116 fr2 (lt_of_cell r2)
    have gr2:=cell_later hW116 r2
    have gfr3:=frz_later hW116 fr3 (lt_of_cell r3)
    have gr3:=cell_later hW116 r3
    have gfr4:=frz_later hW116 fr4 (lt_of_cell r4)
    have gr4:=cell_later hW116 r4
    have gfq0:=frz_later hW116 fq0 (lt_of_cell q0)
    have gq0:=cell_later hW116 q0
    have gfq1:=frz_later hW116 fq1 (lt_of_cell q1)
    have gq1:=cell_later hW116 q1
    have gfq2:=frz_later hW116 fq2 (lt_of_cell q2)
    have gq2:=cell_later hW116 q2
    have hbw:=hW116
    have HS9:=Lib.hid (show bx+1+1+1<wc115.heap.size from Nat.lt_of_lt_of_le (lt_of_cell q0) hWc115.size)
    have HZ7:=Lib.hid (show w.heap.size≤wc115.heap.size from Nat.le_trans HB7.out.size hWc115.size)
    go_wp2_with fail
    refine outA hK (heldK_8 (S:=[bx+1+1,bx+1+1+1]) (Kept.of hW116) hS00 nb nb nb nb nb nE nE nE) (fun hHeld4=>?_)
    clear hK K
    refine readyA [5,6] (consA (fun K hK=>?_) (consA (fun K hK=>?_) .nil))
    ·skip
     go_simp
     refine outA hK (heldK_8 (S:=[bx+1+1,bx+1+1+1]) (Kept.of hW116) hS00 nb nb nb nb nb nE nE nE) (fun hHeld5=>?_)
     clear hK K
     refine readyA [6] (consA (fun K hK=>?_) .nil)
     go_simp
     have hk117:Kept [bx+1+1,bx+1+1+1] w7 (((((w116.setCell ⟨bx+1+1,0,none⟩ (.slice (some ⟨bg,0,none⟩) n dg)).setCell ⟨bx+1+1,1,none⟩ (.int .u64 (enterR r n id k (yv,yr,yw)).cr)).setCell ⟨bx+1+1,2,none⟩ (.slice a1 (m+1) dt)).setCell ⟨bx+1+1,3,none⟩ (.slice (some ⟨ba,0,none⟩) n da)).setCell ⟨bx+1+1,4,none⟩ (.slice (some ⟨bf,0,none⟩) n df)):=((((((Kept.of hW116).setCell (p:=⟨bx+1+1,0,none⟩) (Or.inl (by simp)) _).setCell (p:=⟨bx+1+1,1,none⟩) (Or.inl (by simp)) _).setCell (p:=⟨bx+1+1,2,none⟩) (Or.inl (by simp)) _).setCell (p:=⟨bx+1+1,3,none⟩) (Or.inl (by simp)) _).setCell (p:=⟨bx+1+1,4,none⟩) (Or.inl (by simp)) _)
     refine outA hK (heldK_8 (S:=[bx+1+1,bx+1+1+1]) (hk117) hS00 nb nb nb nb nb nE nE nE) (fun hHeld6=>?_)
     clear hK K
     refine readyA [7] (consA (fun K hK=>?_) .nil)
     go_simp
     have hk118:Kept [bx+1+1,bx+1+1+1] w7 ((((((((w116.setCell ⟨bx+1+1,0,none⟩ (.slice (some ⟨bg,0,none⟩) n dg)).setCell ⟨bx+1+1,1,none⟩ (.int .u64 (enterR r n id k (yv,yr,yw)).cr)).setCell ⟨bx+1+1,2,none⟩ (.slice a1 (m+1) dt)).setCell ⟨bx+1+1,3,none⟩ (.slice (some ⟨ba,0,none⟩) n da)).setCell ⟨bx+1+1,4,none⟩ (.slice (some ⟨bf,0,none⟩) n df)).setCell ⟨bx+1+1+1,0,none⟩ (.int .u64 (yv))).setCell ⟨bx+1+1+1,1,none⟩ (.int .u32 (yr))).setCell ⟨bx+1+1+1,2,none⟩ (.int .u32 (yw))):=(((hk117.setCell (p:=⟨bx+1+1+1,0,none⟩) (Or.inl (by simp)) _).setCell (p:=⟨bx+1+1+1,1,none⟩) (Or.inl (by simp)) _).setCell (p:=⟨bx+1+1+1,2,none⟩) (Or.inl (by simp)) _)
     refine outA hK (heldK_8 (S:=[bx+1+1,bx+1+1+1]) (hk118) hS00 nb nb nb nb nb nE nE nE) (fun hHeld7=>?_)
     clear hK K
     refine takeA 8 ?_
     refine doneA ?_
     have HO:=Lib.hid hO
     have HB9:=Lib.hid (Below.step HB7.out hbw)
     clear hO hS0
     go_wp2_with fail
     refine bodyPost_ret (v:=.tuple #[.agg #[.slice (some ⟨bg,0,none⟩) n dg,.int .u64 (enterR r n id k (yv,yr,yw)).cr,.slice a1 (m+1) dt,.slice (some ⟨ba,0,none⟩) n da,.slice (some ⟨bf,0,none⟩) n df],.agg #[.int .u64 (yv),.int .u32 (yr),.int .u32 (yw)],.int .i64 0]) (by simp [results,Tryz.results61,go_sem, *]) rfl ?_
     rw [HE2.out.1,HE2.out.2]
     have hlow2:=HS9.out
     have hlow:bx+1+1<_:=Nat.lt_of_succ_lt hlow2
     have hO:=HO.out
     exact ResP.own (val:=tup3 (yv,yr,yw) 0) (ROwn.toBase ((((((((hO.low (a:=⟨bx+1+1,0,none⟩) hlow _).low (a:=⟨bx+1+1,1,none⟩) hlow _).low (a:=⟨bx+1+1,2,none⟩) hlow _).low (a:=⟨bx+1+1,3,none⟩) hlow _).low (a:=⟨bx+1+1,4,none⟩) hlow _).low (a:=⟨bx+1+1+1,0,none⟩) hlow2 _).low (a:=⟨bx+1+1+1,1,none⟩) hlow2 _).low (a:=⟨bx+1+1+1,2,none⟩) hlow2 _) HZ7.out) HRL2.out ((((((((HB9.out.setCell hle _).setCell hle _).setCell hle _).setCell hle _).setCell hle _).setCell hle2 _).setCell hle2 _).setCell hle2 _)
    ·skip
     go_simp
     have hk119:Kept [bx+1+1,bx+1+1+1] w7 (((((w116.setCell ⟨bx+1+1,0,none⟩ (.slice (some ⟨bg,0,none⟩) n dg)).setCell ⟨bx+1+1,1,none⟩ (.int .u64 (enterR r n id k (yv,yr,yw)).cr)).setCell ⟨bx+1+1,2,none⟩ (.slice a1 (m+1) dt)).setCell ⟨bx+1+1,3,none⟩ (.slice (some ⟨ba,0,none⟩) n da)).setCell ⟨bx+1+1,4,none⟩ (.slice (some ⟨bf,0,none⟩) n df)):=((((((Kept.of hW116).setCell (p:=⟨bx+1+1,0,none⟩) (Or.inl (by simp)) _).setCell (p:=⟨bx+1+1,1,none⟩) (Or.inl (by simp)) _).setCell (p:=⟨bx+1+1,2,none⟩) (Or.inl (by simp)) _).setCell (p:=⟨bx+1+1,3,none⟩) (Or.inl (by simp)) _).setCell (p:=⟨bx+1+1,4,none⟩) (Or.inl (by simp)) _)
     refine outA hK (heldK_8 (S:=[bx+1+1,bx+1+1+1]) (hk119) hS00 nb nb nb nb nb nE nE nE) (fun hHeld6=>?_)
     clear hK K
     refine readyA [5] (consA (fun K hK=>?_) .nil)
     go_simp
     refine outA hK (heldK_8 (S:=[bx+1+1,bx+1+1+1]) (hk119) hS00 nb nb nb nb nb nE nE nE) (fun hHeld5=>?_)
     clear hK K
     refine readyA [7] (consA (fun K hK=>?_) .nil)
     go_simp
     have hk120:Kept [bx+1+1,bx+1+1+1] w7 ((((((((w116.setCell ⟨bx+1+1,0,none⟩ (.slice (some ⟨bg,0,none⟩) n dg)).setCell ⟨bx+1+1,1,none⟩ (.int .u64 (enterR r n id k (yv,yr,yw)).cr)).setCell ⟨bx+1+1,2,none⟩ (.slice a1 (m+1) dt)).setCell ⟨bx+1+1,3,none⟩ (.slice (some ⟨ba,0,none⟩) n da)).setCell ⟨bx+1+1,4,none⟩ (.slice (some ⟨bf,0,none⟩) n df)).setCell ⟨bx+1+1+1,0,none⟩ (.int .u64 (yv))).setCell ⟨bx+1+1+1,1,none⟩ (.int .u32 (yr))).setCell ⟨bx+1+1+1,2,none⟩ (.int .u32 (yw))):=(((hk119.setCell (p:=⟨bx+1+1+1,0,none⟩) (Or.inl (by simp)) _).setCell (p:=⟨bx+1+1+1,1,none⟩) (Or.inl (by simp)) _).setCell (p:=⟨bx+1+1+1,2,none⟩) (Or.inl (by simp)) _)
     refine outA hK (heldK_8 (S:=[bx+1+1,bx+1+1+1]) (hk120) hS00 nb nb nb nb nb nE nE nE) (fun hHeld7=>?_)
     clear hK K
     refine takeA 8 ?_
     refine doneA ?_
     have HO:=Lib.hid hO
     have HB9:=Lib.hid (Below.step HB7.out hbw)
     clear hO hS0
     go_wp2_with fail
     refine bodyPost_ret (v:=.tuple #[.agg #[.slice (some ⟨bg,0,none⟩) n dg,.int .u64 (enterR r n id k (yv,yr,yw)).cr,.slice a1 (m+1) dt,.slice (some ⟨ba,0,none⟩) n da,.slice (some ⟨bf,0,none⟩) n df],.agg #[.int .u64 (yv),.int .u32 (yr),.int .u32 (yw)],.int .i64 0]) (by simp [results,Tryz.results61,go_sem, *]) rfl ?_
     rw [HE2.out.1,HE2.out.2]
     have hlow2:=HS9.out
     have hlow:bx+1+1<_:=Nat.lt_of_succ_lt hlow2
     have hO:=HO.out
     exact ResP.own (val:=tup3 (yv,yr,yw) 0) (ROwn.toBase ((((((((hO.low (a:=⟨bx+1+1,0,none⟩) hlow _).low (a:=⟨bx+1+1,1,none⟩) hlow _).low (a:=⟨bx+1+1,2,none⟩) hlow _).low (a:=⟨bx+1+1,3,none⟩) hlow _).low (a:=⟨bx+1+1,4,none⟩) hlow _).low (a:=⟨bx+1+1+1,0,none⟩) hlow2 _).low (a:=⟨bx+1+1+1,1,none⟩) hlow2 _).low (a:=⟨bx+1+1+1,2,none⟩) hlow2 _) HZ7.out) HRL2.out ((((((((HB9.out.setCell hle _).setCell hle _).setCell hle _).setCell hle _).setCell hle _).setCell hle2 _).setCell hle2 _).setCell hle2 _)
   ·skip
    go_simp
    refine outA hK (heldK_8 (S:=[bx+1+1,bx+1+1+1]) (Kept.of hWc115) hS00 nb nb nb nb nb nE nE nE) (fun hHeld5=>?_)
    clear hK K
    refine readyA [4] (consA (fun K hK=>?_) .nil)
    go_simp
    refine (A4.out _ (Below.step HB7.out hWc115)).mono ?_
    rintro e w121 ⟨bg,a1,ba,bf,dg,dt,da,df,rfl,hO,hb121⟩
    have hW121:=Below.step hWc115 hb121
    have gfr0:=frz_later hW121 fr0 (lt_of_cell r0)
    have gr0:=cell_later hW121 r0
    have gfr1:=frz_later hW121 fr1 (lt_of_cell r1)
    have gr1:=cell_later hW121 r1
    have gfr2:=frz_later hW121 fr2 (lt_of_cell r2)
    have gr2:=cell_later hW121 r2
    have gfr3:=frz_later hW121 fr3 (lt_of_cell r3)
    have gr3:=cell_later hW121 r3
    have gfr4:=frz_later hW121 fr4 (lt_of_cell r4)
    have gr4:=cell_later hW121 r4
    have gfq0:=frz_later hW121 fq0 (lt_of_cell q0)
    have gq0:=cell_later hW121 q0
    have gfq1:=frz_later hW121 fq1 (lt_of_cell q1)
    have gq1:=cell_later hW121 q1
    have gfq2:=frz_later hW121 fq2 (lt_of_cell q2)
    have gq2:=cell_later hW121 q2
    have hbw:=hW121
    have HS9:=Lib.hid (show bx+1+1+1<wc115.heap.size from Nat.lt_of_lt_of_le (lt_of_cell q0) hWc115.size)
    have HZ7:=Lib.hid (show w.heap.size≤wc115.heap.size from Nat.le_trans HB7.out.size hWc115.size)
    go_wp2_with fail
    refine outA hK (heldK_8 (S:=[bx+1+1,bx+1+1+1]) (Kept.of hW121) hS00 nb nb nb nb nb nE nE nE) (fun hHeld4=>?_)
    clear hK K
    refine readyA [6] (consA (fun K hK=>?_) .nil)
    go_simp
    have hk122:Kept [bx+1+1,bx+1+1+1] w7 (((((w121.setCell ⟨bx+1+1,0,none⟩ (.slice (some ⟨bg,0,none⟩) n dg)).setCell ⟨bx+1+1,1,none⟩ (.int .u64 (enterR r n id k (yv,yr,yw)).cr)).setCell ⟨bx+1+1,2,none⟩ (.slice a1 (m+1) dt)).setCell ⟨bx+1+1,3,none⟩ (.slice (some ⟨ba,0,none⟩) n da)).setCell ⟨bx+1+1,4,none⟩ (.slice (some ⟨bf,0,none⟩) n df)):=((((((Kept.of hW121).setCell (p:=⟨bx+1+1,0,none⟩) (Or.inl (by simp)) _).setCell (p:=⟨bx+1+1,1,none⟩) (Or.inl (by simp)) _).setCell (p:=⟨bx+1+1,2,none⟩) (Or.inl (by simp)) _).setCell (p:=⟨bx+1+1,3,none⟩) (Or.inl (by simp)) _).setCell (p:=⟨bx+1+1,4,none⟩) (Or.inl (by simp)) _)
    refine outA hK (heldK_8 (S:=[bx+1+1,bx+1+1+1]) (hk122) hS00 nb nb nb nb nb nE nE nE) (fun hHeld6=>?_)
    clear hK K
    refine readyA [7] (consA (fun K hK=>?_) .nil)
    go_simp
    have hk123:Kept [bx+1+1,bx+1+1+1] w7 ((((((((w121.setCell ⟨bx+1+1,0,none⟩ (.slice (some ⟨bg,0,none⟩) n dg)).setCell ⟨bx+1+1,1,none⟩ (.int .u64 (enterR r n id k (yv,yr,yw)).cr)).setCell ⟨bx+1+1,2,none⟩ (.slice a1 (m+1) dt)).setCell ⟨bx+1+1,3,none⟩ (.slice (some ⟨ba,0,none⟩) n da)).setCell ⟨bx+1+1,4,none⟩ (.slice (some ⟨bf,0,none⟩) n df)).setCell ⟨bx+1+1+1,0,none⟩ (.int .u64 (yv))).setCell ⟨bx+1+1+1,1,none⟩ (.int .u32 (yr))).setCell ⟨bx+1+1+1,2,none⟩ (.int .u32 (yw))):=(((hk122.setCell (p:=⟨bx+1+1+1,0,none⟩) (Or.inl (by simp)) _).setCell (p:=⟨bx+1+1+1,1,none⟩) (Or.inl (by simp)) _).setCell (p:=⟨bx+1+1+1,2,none⟩) (Or.inl (by simp)) _)
    refine outA hK (heldK_8 (S:=[bx+1+1,bx+1+1+1]) (hk123) hS00 nb nb nb nb nb nE nE nE) (fun hHeld7=>?_)
    clear hK K
    refine takeA 8 ?_
    refine doneA ?_
    have HO:=Lib.hid hO
    have HB9:=Lib.hid (Below.step HB7.out hbw)
    clear hO hS0
    go_wp2_with fail
    refine bodyPost_ret (v:=.tuple #[.agg #[.slice (some ⟨bg,0,none⟩) n dg,.int .u64 (enterR r n id k (yv,yr,yw)).cr,.slice a1 (m+1) dt,.slice (some ⟨ba,0,none⟩) n da,.slice (some ⟨bf,0,none⟩) n df],.agg #[.int .u64 (yv),.int .u32 (yr),.int .u32 (yw)],.int .i64 0]) (by simp [results,Tryz.results61,go_sem, *]) rfl ?_
    rw [HE2.out.1,HE2.out.2]
    have hlow2:=HS9.out
    have hlow:bx+1+1<_:=Nat.lt_of_succ_lt hlow2
    have hO:=HO.out
    exact ResP.own (val:=tup3 (yv,yr,yw) 0) (ROwn.toBase ((((((((hO.low (a:=⟨bx+1+1,0,none⟩) hlow _).low (a:=⟨bx+1+1,1,none⟩) hlow _).low (a:=⟨bx+1+1,2,none⟩) hlow _).low (a:=⟨bx+1+1,3,none⟩) hlow _).low (a:=⟨bx+1+1,4,none⟩) hlow _).low (a:=⟨bx+1+1+1,0,none⟩) hlow2 _).low (a:=⟨bx+1+1+1,1,none⟩) hlow2 _).low (a:=⟨bx+1+1+1,2,none⟩) hlow2 _) HZ7.out) HRL2.out ((((((((HB9.out.setCell hle _).setCell hle _).setCell hle _).setCell hle _).setCell hle _).setCell hle2 _).setCell hle2 _).setCell hle2 _)
 ·have z0:(c != 0)=true:=by simpa using hc0
  have z1:¬ c=0:=hc0
  have HC0:=Lib.hid hc0
  clear hc0
  go_wp2_with fail
  refine bodyPost_ret (v:=.tuple #[.agg #[.slice ag n cg,.int .u64 r.cr,.slice at' m ct,.slice aa n ca,.slice af n cf],.agg #[.int .u64 0,.int .u32 0,.int .u32 0],.int .i64 c]) (by simp [results,Tryz.results61,go_sem, *]) rfl ?_
  exact HF.out _ HC0.out ((((((((HB6.out.setCell hle _).setCell hle _).setCell hle _).setCell hle _).setCell hle _).setCell hle2 _).setCell hle2 _).setCell hle2 _)
end Go.Proofs.YtfgmglghlapbcaaGreat
