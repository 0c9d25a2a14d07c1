/-
  Layer 25 (pick), law.go: act: Come, Charge, Weigh, Regroup, Lay; act.
-/
import Derived.Test.YtfgmglghlapbcaaGreatPrefX
import Derived.Test.YtfgmglghlapbcaaGreatPrefO
namespace Go.Proofs.YtfgmglghlapbcaaGreat
open Go.RowKit Go.Maps Go.IntWalk Go.Lib Go.Sort Go.Shelf
set_option linter.unusedVariables false
set_option linter.unusedSimpArgs false
theorem weigh_code {s:TSt} {r:RSt} (h:Twin s r) (hok:TOk s) (id wt:Int):thereC r id (Ch.wB wt)=pweiC s id wt:=by
 rw [there_twin h.toTwinC hok]
 unfold pweiC
 by_cases hw:wgOk wt
 ·rw [if_pos ((wB_dec wt).2 hw),if_pos hw]
  by_cases hF:findC s id=0
  ·obtain ⟨k,g,x,hk,a2,_,a3,hg,hT,hE,hG,hi⟩:=twin_there h.toTwinC hok hF
   rw [if_pos hF,hG,Int.toNat_natCast,hF]
   unfold chC
   rw [show hasV qN id=true from decide_eq_true (show 0≤id∧id<65792 by omega),if_pos rfl,if_pos (decide_eq_true hw),hE]
   rfl
  ·rw [if_neg hF]
 ·rw [if_neg (fun z=>hw ((wB_dec wt).1 z)),if_neg hw]
theorem lay_fr (s:TSt) (L:Spots) (id:Int):Fr s (playS s L) id:=by
 unfold playS
 split
 ·exact ⟨rfl,rfl,rfl,fun _ _=>rfl⟩
 ·exact Fr.refl s id
set_option maxRecDepth 100000 in
set_option maxHeartbeats 4000000 in
theorem act_come {t n:Nat} {F:List Nat} {s:TSt} {r:RSt} {G:List Nat} {a:RAd} {kd id g nn xv xr xw:Int} {sv:Value} {L:Spots} {w:World} (H:ActH t n F s r G a kd id g nn xv xr xw sv L w) (hk:kd % 9=2):ActC t n F r G a kd id g nn xv xr xw sv w:=by
 obtain ⟨h,hb,hr,hG,hkd,hid,hg,hnn,hx,hv,hL⟩:=H
 unfold ActC
 obtain ⟨z0,z1,z2,z3,z4,z5,z6,z7⟩:=kdz false false true false false false false false hkd hk (by decide)
 clear hk
 have ho:=tree_ord h
 have hks:=tree_keys h
 have hro:=hb.tw.rok hb.ok hb.cr
 rw [hb.n] at hro
 have hm1:r.T.length<69000:=by have:=srt_len hb.tw.srt (fun t ht=>(hb.tw.toTwinC.task hb.ok ht).1);omega
 have hn9:=hb.n
 have hwn:=wf_i64 hnn
 obtain ⟨rN,hrN⟩:∃ x,x=comR r n id g (xv,xr,xw):=⟨_,rfl⟩
 obtain ⟨s2,hs2⟩:∃ x,x=comS s id g (xv,xr,xw):=⟨_,rfl⟩
 obtain ⟨cN,hcN⟩:∃ x,x=comC s id g (xv,xr,xw):=⟨_,rfl⟩
 have hC:=wrong_come hb.tw hb.ok id g (xv,xr,xw)
 rw [hn9] at hC
 have HB2:=Lib.hid (show OrdT s2→BothT n s2 rN from fun ho2=>by
  have:=come_twin hb.tw hb.ok ho hb.fl id g (xv,xr,xw) (by rw [← hs2];exact ho2)
  rw [← hs2,hn9,← hrN] at this
  exact hb.of (by rw [hs2];exact come_ok hb.ok) (by rw [hs2];exact (fls_enS _ _ _ _ _).le hb.fl) this (id:=id) (by rw [hs2];exact enS_fr _ _ _ _ _)
  )
 have AE:=Lib.hid (show ∀ W,RIn W a.ag a.at' a.aa a.af a.cg a.ct a.ca a.cf n r.T.length r→Calls Tryz.prog 62 #[.agg #[.slice a.ag n a.cg,.int .u64 r.cr,.slice a.at' r.T.length a.ct,.slice a.aa n a.ca,.slice a.af n a.cf],.int .i64 id,.int .i64 g,.agg #[.int .u64 xv,.int .u32 xr,.int .u32 xw]] W (ResP W a r n r.T.length rN (tup2 cN)) from fun W q=>by
  have this:=tCome_at r n r.T.length hro hm1 id g (xv,xr,xw) hx a W q
  rw [hC,← hrN,← hcN] at this
  exact this)
 have AP:=Lib.hid (show ∀ W,TreeIn W t F s→Calls Tryz.prog 17 #[.pointer (some ⟨t,0,none⟩),.int .i64 id,.int .i64 g,.agg #[.int .u64 xv,.int .u32 xr,.int .u32 xw]] W (TDid W t F (.int .i64 cN) s2) from fun W q=>by
  have this:=pCome_at id g xv xr xw W q hid hg hx
  rw [← hs2,← hcN] at this
  exact this)
 have HI:=Lib.hid h
 have HRH:=Lib.hid hr
 have HGL:=Lib.hid hG
 have HF:=Lib.hid h.lt
 have HV:=Lib.hid hv
 clear hrN hs2 hcN  hb hr hG hro hm1 hn9 hwn ho hks hkd hid hg hnn hx hv hL h
 obtain ⟨m,hm⟩:∃ m,m=r.T.length:=⟨_,rfl⟩
 obtain ⟨cr0,hcr0⟩:∃ c,c=r.cr:=⟨_,rfl⟩
 rw [← hm] at AE HRH ⊢
 rw [← hcr0] at AE ⊢
 clear hm hcr0
 obtain ⟨ag,at',aa,af,cg,ct,ca,cf⟩:=a
 dsimp only at AE HRH ⊢
 obtain ⟨W0,hW0⟩:∃ W0,W0=(((w.alloc (.cells #[.slice ag n cg,.int .u64 cr0,.slice at' m ct,.slice aa n ca,.slice af n cf] 74)).alloc (.cells #[.int .u8 kd,.int .i64 id,.int .i64 g,.int .i64 nn,.int .u64 xv,.int .u32 xr,.int .u32 xw,sv] 78)).alloc (.cells #[.slice none 0 0,.int .u64 0,.slice none 0 0,.slice none 0 0,.slice none 0 0] 74)):=⟨_,rfl⟩
 have HB0:=Lib.hid (show Below w.heap.size w W0 by rw [hW0];exact (Below.allocS (Below.allocS (Below.allocS (Below.refl _ _) _) _) _))
 obtain ⟨c0,fc0,c1,fc1,c2,fc2,c3,fc3,c4,fc4⟩:=uc5 (show CellsF W0 (w.heap.size) [.slice ag n cg,.int .u64 cr0,.slice at' m ct,.slice aa n ca,.slice af n cf] by rw [hW0];exact ((CellsF.new (by simp)).later (below_a _ _)).later (below_a _ _))
 obtain ⟨x0,fx0,x1,fx1,x2,fx2,x3,fx3,x4,fx4,x5,fx5,x6,fx6,x7,fx7⟩:=uc8 (show CellsF W0 (w.heap.size+1) [.int .u8 kd,.int .i64 id,.int .i64 g,.int .i64 nn,.int .u64 xv,.int .u32 xr,.int .u32 xw,sv] by rw [hW0];exact (CellsF.new (by simp)).later (below_a _ _))
 obtain ⟨r0,fr0,r1,fr1,r2,fr2,r3,fr3,r4,fr4⟩:=uc5 (show CellsF W0 (w.heap.size+1+1) [.slice none 0 0,.int .u64 0,.slice none 0 0,.slice none 0 0,.slice none 0 0] by rw [hW0];exact CellsF.new (by simp))
 have HSZ:=Lib.hid (show W0.heap.size=w.heap.size+1+1+1 by rw [hW0];simp)
 have HW0:=Lib.hid hW0
 clear hW0
 have nc:w.heap.size∉F:=fun m=>by have:=HF.out _ m;omega
 have nx:w.heap.size+1∉F:=fun m=>by have:=HF.out _ m;omega
 have nr:w.heap.size+1+1∉F:=fun m=>by have:=HF.out _ m;omega
 go_enter Tryz.func30,Tryz.ntmps30
 go_upto_region 1 with fail
 rw [← HW0.out]
 generalize hbx:w.heap.size=bx at c0 c1 c2 c3 c4 x0 x1 x2 x3 x4 x5 x6 x7 r0 r1 r2 r3 r4 fc0 fc1 fc2 fc3 fc4 fx0 fx1 fx2 fx3 fx4 fx5 fx6 fx7 fr0 fr1 fr2 fr3 fr4 HSZ nc nx nr ⊢
 have HBX:=Lib.hid hbx
 clear hbx HW0
 go_upto_region 2 with fail
 obtain ⟨W1,hW1⟩:∃ W,W=W0.alloc (.cells #[.int .u64 xv,.int .u32 xr,.int .u32 xw] 120):=⟨_,rfl⟩
 rw [← hW1]
 have hb1:Below W0.heap.size W0 W1:=by rw [hW1];exact below_a _ _
 have o0:W1.cell? ⟨W0.heap.size,0,none⟩=some (.int .u64 xv):=by rw [hW1];exact cell_nw _ _ _ 0 _ rfl
 have o1:W1.cell? ⟨W0.heap.size,1,none⟩=some (.int .u32 xr):=by rw [hW1];exact cell_nw _ _ _ 1 _ rfl
 have o2:W1.cell? ⟨W0.heap.size,2,none⟩=some (.int .u32 xw):=by rw [hW1];exact cell_nw _ _ _ 2 _ rfl
 have q:=uc5 ((pc5 c0 fc0 c1 fc1 c2 fc2 c3 fc3 c4 fc4).later hb1)
 clear c0 fc0 c1 fc1 c2 fc2 c3 fc3 c4 fc4
 obtain ⟨c0,fc0,c1,fc1,c2,fc2,c3,fc3,c4,fc4⟩:=q
 have q:=uc8 ((pc8 x0 fx0 x1 fx1 x2 fx2 x3 fx3 x4 fx4 x5 fx5 x6 fx6 x7 fx7).later hb1)
 clear x0 fx0 x1 fx1 x2 fx2 x3 fx3 x4 fx4 x5 fx5 x6 fx6 x7 fx7
 obtain ⟨x0,fx0,x1,fx1,x2,fx2,x3,fx3,x4,fx4,x5,fx5,x6,fx6,x7,fx7⟩:=q
 have q:=uc5 ((pc5 r0 fr0 r1 fr1 r2 fr2 r3 fr3 r4 fr4).later hb1)
 clear r0 fr0 r1 fr1 r2 fr2 r3 fr3 r4 fr4
 obtain ⟨r0,fr0,r1,fr1,r2,fr2,r3,fr3,r4,fr4⟩:=q
 have HB1:=Lib.hid (Below.step HB0.out hb1)
 have HS1:=Lib.hid (show W0.heap.size≤W1.heap.size from hb1.size)
 obtain ⟨bo,hbo⟩:∃ b,b=W0.heap.size:=⟨_,rfl⟩
 rw [← hbo] at o0 o1 o2 ⊢
 clear hb1 hW1 hbo
 go_wp2_with fail
 refine (AE.out W1 (HRH.out.rin.later HB1.out) ).mono ?_
 rintro e w3 ⟨⟨a2g,a2t,a2a,a2f,d1,d2,d3,d4⟩,rfl,hn3,hb3⟩
 dsimp only [tup2,RAd.val]
 have q:=uc5 ((pc5 c0 fc0 c1 fc1 c2 fc2 c3 fc3 c4 fc4).later hb3)
 clear c0 fc0 c1 fc1 c2 fc2 c3 fc3 c4 fc4
 obtain ⟨c0,fc0,c1,fc1,c2,fc2,c3,fc3,c4,fc4⟩:=q
 have q:=uc8 ((pc8 x0 fx0 x1 fx1 x2 fx2 x3 fx3 x4 fx4 x5 fx5 x6 fx6 x7 fx7).later hb3)
 clear x0 fx0 x1 fx1 x2 fx2 x3 fx3 x4 fx4 x5 fx5 x6 fx6 x7 fx7
 obtain ⟨x0,fx0,x1,fx1,x2,fx2,x3,fx3,x4,fx4,x5,fx5,x6,fx6,x7,fx7⟩:=q
 have q:=uc5 ((pc5 r0 fr0 r1 fr1 r2 fr2 r3 fr3 r4 fr4).later hb3)
 clear r0 fr0 r1 fr1 r2 fr2 r3 fr3 r4 fr4
 obtain ⟨r0,fr0,r1,fr1,r2,fr2,r3,fr3,r4,fr4⟩:=q
 have HN3:=Lib.hid hn3
 have HB3:=Lib.hid (Below.step HB1.out hb3)
 have H03:=Lib.hid hb3
 obtain ⟨N,hN⟩:∃ N,N=rN.T.length:=⟨_,rfl⟩
 obtain ⟨cr2,hcr2⟩:∃ c,c=rN.cr:=⟨_,rfl⟩
 rw [← hN] at HN3 ⊢
 rw [← hcr2]
 have HN:=Lib.hid hN
 have HCR:=Lib.hid hcr2
 clear hn3 hb3 hN hcr2
 go_upto_region 13 with fail
 obtain ⟨W4,hW4⟩:∃ W,W=(w3.alloc (.cells #[.slice a2g n d1,.int .u64 cr2,.slice a2t N d2,.slice a2a n d3,.slice a2f n d4] 74)):=⟨_,rfl⟩
 rw [← hW4]
 have hb4:Below w3.heap.size w3 W4:=by rw [hW4];exact below_a _ _
 have y0:W4.cell? ⟨w3.heap.size,0,none⟩=some (.slice a2g n d1):=by rw [hW4];exact cell_nw _ _ _ 0 _ rfl
 have y1:W4.cell? ⟨w3.heap.size,1,none⟩=some (.int .u64 cr2):=by rw [hW4];exact cell_nw _ _ _ 1 _ rfl
 have y2:W4.cell? ⟨w3.heap.size,2,none⟩=some (.slice a2t N d2):=by rw [hW4];exact cell_nw _ _ _ 2 _ rfl
 have y3:W4.cell? ⟨w3.heap.size,3,none⟩=some (.slice a2a n d3):=by rw [hW4];exact cell_nw _ _ _ 3 _ rfl
 have y4:W4.cell? ⟨w3.heap.size,4,none⟩=some (.slice a2f n d4):=by rw [hW4];exact cell_nw _ _ _ 4 _ rfl
 have q:=uc5 ((pc5 c0 fc0 c1 fc1 c2 fc2 c3 fc3 c4 fc4).later hb4)
 clear c0 fc0 c1 fc1 c2 fc2 c3 fc3 c4 fc4
 obtain ⟨c0,fc0,c1,fc1,c2,fc2,c3,fc3,c4,fc4⟩:=q
 have q:=uc8 ((pc8 x0 fx0 x1 fx1 x2 fx2 x3 fx3 x4 fx4 x5 fx5 x6 fx6 x7 fx7).later hb4)
 clear x0 fx0 x1 fx1 x2 fx2 x3 fx3 x4 fx4 x5 fx5 x6 fx6 x7 fx7
 obtain ⟨x0,fx0,x1,fx1,x2,fx2,x3,fx3,x4,fx4,x5,fx5,x6,fx6,x7,fx7⟩:=q
 have q:=uc5 ((pc5 r0 fr0 r1 fr1 r2 fr2 r3 fr3 r4 fr4).later hb4)
 clear r0 fr0 r1 fr1 r2 fr2 r3 fr3 r4 fr4
 obtain ⟨r0,fr0,r1,fr1,r2,fr2,r3,fr3,r4,fr4⟩:=q
 have HB4:=Lib.hid (Below.step HB3.out hb4)
 have HX4:=Lib.hid hb4
 have L8:=Lib.hid (show W0.heap.size≤w3.heap.size from Nat.le_trans HS1.out H03.out.size)
 generalize hb8:w3.heap.size=b8 at y0 y1 y2 y3 y4 L8 ⊢
 have m8:b8∉F:=fun m=>by have:=HF.out _ m;have h1:=HSZ.out;have h2:=L8.out;have h4:=HBX.out;omega
 have HL4:=Lib.hid (show bx+1+1<W4.heap.size from lt_of_cell r0)
 have HH:=Lib.hid (show TreeIn W4 t F s from HI.out.below HB4.out)
 have HRR:=Lib.hid (show RHeld ((bx+1+1)::(G++F)) W4 ⟨a2g,a2t,a2a,a2f,d1,d2,d3,d4⟩ n N rN from (HN3.out ((bx+1+1)::(G++F)) (fun b hb=>by
  have h1:=HSZ.out;have h3:=HB0.out.size;have h4:=HBX.out;have h5:=HS1.out
  rcases List.mem_cons.1 hb with rfl | hb
  ·omega
  ·rcases List.mem_append.1 hb with hb | hb
   ·have:=HGL.out _ hb;omega
   ·have:=HF.out _ hb;omega) (HRH.out.step (Kept.of HB1.out) (fun b hb=>by
  have h1:=HBX.out
  rcases List.mem_cons.1 hb with rfl | hb
  ·exact Or.inr (by omega)
  ·exact Or.inl hb))).later HX4.out)
 clear hb4 hW4 hb8
 have HHD:=Lib.hid (show TreeIn W4.drew t F s from HH.out.below (Below.refl _ _).drew)
 have hm8:b8∉(bx+1+1)::F:=fun m=>by
  rcases List.mem_cons.1 m with m | m
  ·have h1:=HSZ.out;have h2:=L8.out;omega
  ·exact m8 m
 have hm1:bx+1∉(bx+1+1)::F:=fun m=>by
  rcases List.mem_cons.1 m with m | m
  ·omega
  ·exact nx m
 refine startA (S:=fun w'=>Kept ((bx+1+1)::F) W4 w'∧w'.cell? ⟨b8,0,none⟩=some (.slice a2g n d1)∧w'.cell? ⟨b8,1,none⟩=some (.int .u64 cr2)∧w'.cell? ⟨b8,2,none⟩=some (.slice a2t N d2)∧w'.cell? ⟨b8,3,none⟩=some (.slice a2a n d3)∧w'.cell? ⟨b8,4,none⟩=some (.slice a2f n d4)∧w'.cell? ⟨bx+1,1,none⟩=some (.int .i64 id)∧w'.cell? ⟨bx+1,2,none⟩=some (.int .i64 g)∧w'.cell? ⟨bx+1,4,none⟩=some (.int .u64 xv)∧w'.cell? ⟨bx+1,5,none⟩=some (.int .u32 xr)∧w'.cell? ⟨bx+1,6,none⟩=some (.int .u32 xw)) ⟨Kept.refl _ _,y0,y1,y2,y3,y4,x1,x2,x4,x5,x6⟩ (fun h=>heldK_10 (kept_dr _ _) h) (fun hS0 hHeld=>?_)
 refine takeA 0 ?_
 refine takeA 1 ?_
 refine takeA 2 ?_
 refine takeA 3 ?_
 refine takeA 4 ?_
 refine takeA 5 ?_
 refine takeA 6 ?_
 refine takeA 7 ?_
 refine takeA 9 ?_
 refine readyA [8] (consA (fun K hK=>?_) .nil)
 go_simp
 refine (AP.out _ HHD.out ).mono ?_
 rintro e w9 ⟨rfl,F9,h9,s9⟩
 have hk9:Kept ((bx+1+1)::F) W4.drew w9:=s9.kept.mono (fun b hb=>by simp [hb])
 have q:=uc5 ((pc5 r0 fr0 r1 fr1 r2 fr2 r3 fr3 r4 fr4).kept ((kept_dr F W4).trans s9.kept) nr)
 clear r0 fr0 r1 fr1 r2 fr2 r3 fr3 r4 fr4
 obtain ⟨r0,fr0,r1,fr1,r2,fr2,r3,fr3,r4,fr4⟩:=q
 have HS9:=Lib.hid s9
 have HH9:=Lib.hid h9
 clear s9 h9
 go_wp2_with fail
 refine outA hK kpK_10 (fun hHeld8=>?_)
 clear hK K
 refine takeA 10 ?_
 refine readyA [11] (consA (fun K hK=>?_) .nil)
 go_simp
 have hk9b:=ks5 (S:=(bx+1+1)::F) (w:=w9) (b:=bx+1+1) (.slice a2g n d1) (.int .u64 cr2) (.slice a2t N d2) (.slice a2a n d3) (.slice a2f n d4) (by simp)
 have KF:=ks5 (S:=[bx+1+1]) (w:=w9) (b:=bx+1+1) (.slice a2g n d1) (.int .u64 cr2) (.slice a2t N d2) (.slice a2a n d3) (.slice a2f n d4) (by simp)
 have q:=cs5 (.slice a2g n d1) (.int .u64 cr2) (.slice a2t N d2) (.slice a2a n d3) (.slice a2f n d4) (pc5 r0 fr0 r1 fr1 r2 fr2 r3 fr3 r4 fr4)
 clear r0 fr0 r1 fr1 r2 fr2 r3 fr3 r4 fr4
 obtain ⟨r0,fr0,r1,fr1,r2,fr2,r3,fr3,r4,fr4⟩:=uc5 q
 clear q fr0 fr1 fr2 fr3 fr4
 obtain ⟨wq,hwq⟩:∃ wq,wq=(((((w9.setCell ⟨bx+1+1,0,none⟩ (.slice a2g n d1)).setCell ⟨bx+1+1,1,none⟩ (.int .u64 cr2)).setCell ⟨bx+1+1,2,none⟩ (.slice a2t N d2)).setCell ⟨bx+1+1,3,none⟩ (.slice a2a n d3)).setCell ⟨bx+1+1,4,none⟩ (.slice a2f n d4)):=⟨_,rfl⟩
 rw [← hwq] at hk9b KF r0 r1 r2 r3 r4 ⊢
 clear hwq
 refine outA hK kpK_10 (fun hHeld11=>?_)
 clear hK K
 refine takeA 12 ?_
 refine doneA ?_
 go_wp2_with fail
 refine bodyPost_ret (v:=.tuple #[.agg #[.slice a2g n d1,.int .u64 cr2,.slice a2t N d2,.slice a2a n d3,.slice a2f n d4],.bool true]) (by simp [results,Tryz.results30,go_sem, *]) rfl ?_
 have HR9:=HRR.out
 rw [HN.out] at HR9 ⊢
 rw [HCR.out]
 exact pact_done HB4.out HF.out (by have:=HBX.out;omega) HL4.out ((Step.of (Below.refl W4.heap.size W4).drew).trans HS9.out) HH9.out HR9 KF HB2.out
set_option maxRecDepth 100000 in
set_option maxHeartbeats 4000000 in
theorem act_charge4 {t n:Nat} {F:List Nat} {s:TSt} {r:RSt} {G:List Nat} {a:RAd} {kd id g nn xv xr xw:Int} {sv:Value} {L:Spots} {w:World} (H:ActH t n F s r G a kd id g nn xv xr xw sv L w) (hk:kd % 9=4):ActC t n F r G a kd id g nn xv xr xw sv w:=by
 obtain ⟨h,hb,hr,hG,hkd,hid,hg,hnn,hx,hv,hL⟩:=H
 unfold ActC
 obtain ⟨z0,z1,z2,z3,z4,z5,z6,z7⟩:=kdz false false false false true false false false hkd hk (by decide)
 clear hk
 have ho:=tree_ord h
 have hks:=tree_keys h
 have hro:=hb.tw.rok hb.ok hb.cr
 rw [hb.n] at hro
 have hm1:r.T.length<69000:=by have:=srt_len hb.tw.srt (fun t ht=>(hb.tw.toTwinC.task hb.ok ht).1);omega
 have hn9:=hb.n
 have hwn:=wf_i64 hnn
 obtain ⟨rN,hrN⟩:∃ x,x=chargeRS r n id nn:=⟨_,rfl⟩
 obtain ⟨s2,hs2⟩:∃ x,x=pchgS s id nn:=⟨_,rfl⟩
 obtain ⟨cN,hcN⟩:∃ x,x=pchgC s id nn:=⟨_,rfl⟩
 have hC:=there_charge hb.tw hb.ok id nn
 have HB2:=Lib.hid (show OrdT s2→BothT n s2 rN from fun ho2=>by
  have:=charge_twin hb.tw hb.ok ho hb.fl id nn (by rw [← hs2];exact ho2)
  rw [← hs2,hn9,← hrN] at this
  exact hb.of (by rw [hs2];exact charge_ok hb.ok) (by rw [hs2];exact (fls_pchg _ _ _).le hb.fl) this (id:=id) (by rw [hs2];exact charge_fr _ _ _)
  )
 have AE:=Lib.hid (show ∀ W,RIn W a.ag a.at' a.aa a.af a.cg a.ct a.ca a.cf n r.T.length r→Calls Tryz.prog 64 #[.agg #[.slice a.ag n a.cg,.int .u64 r.cr,.slice a.at' r.T.length a.ct,.slice a.aa n a.ca,.slice a.af n a.cf],.int .i64 id,.int .i64 nn] W (ResP W a r n r.T.length rN (tup2 cN)) from fun W q=>by
  have this:=tCharge_at r n r.T.length hro id nn a W q
  rw [hC,← hrN,← hcN] at this
  exact this)
 have AP:=Lib.hid (show ∀ W,TreeIn W t F s→Calls Tryz.prog 36 #[.pointer (some ⟨t,0,none⟩),.int .i64 id,.int .i64 nn] W (TDid W t F (.int .i64 cN) s2) from fun W q=>by
  have this:=pCharge_at id nn W q hid hnn
  rw [← hs2,← hcN] at this
  exact this)
 have HI:=Lib.hid h
 have HRH:=Lib.hid hr
 have HGL:=Lib.hid hG
 have HF:=Lib.hid h.lt
 have HV:=Lib.hid hv
 clear hrN hs2 hcN  hb hr hG hro hm1 hn9 hwn ho hks hkd hid hg hnn hx hv hL h
 obtain ⟨m,hm⟩:∃ m,m=r.T.length:=⟨_,rfl⟩
 obtain ⟨cr0,hcr0⟩:∃ c,c=r.cr:=⟨_,rfl⟩
 rw [← hm] at AE HRH ⊢
 rw [← hcr0] at AE ⊢
 clear hm hcr0
 obtain ⟨ag,at',aa,af,cg,ct,ca,cf⟩:=a
 dsimp only at AE HRH ⊢
 obtain ⟨W0,hW0⟩:∃ W0,W0=(((w.alloc (.cells #[.slice ag n cg,.int .u64 cr0,.slice at' m ct,.slice aa n ca,.slice af n cf] 74)).alloc (.cells #[.int .u8 kd,.int .i64 id,.int .i64 g,.int .i64 nn,.int .u64 xv,.int .u32 xr,.int .u32 xw,sv] 78)).alloc (.cells #[.slice none 0 0,.int .u64 0,.slice none 0 0,.slice none 0 0,.slice none 0 0] 74)):=⟨_,rfl⟩
 have HB0:=Lib.hid (show Below w.heap.size w W0 by rw [hW0];exact (Below.allocS (Below.allocS (Below.allocS (Below.refl _ _) _) _) _))
 obtain ⟨c0,fc0,c1,fc1,c2,fc2,c3,fc3,c4,fc4⟩:=uc5 (show CellsF W0 (w.heap.size) [.slice ag n cg,.int .u64 cr0,.slice at' m ct,.slice aa n ca,.slice af n cf] by rw [hW0];exact ((CellsF.new (by simp)).later (below_a _ _)).later (below_a _ _))
 obtain ⟨x0,fx0,x1,fx1,x2,fx2,x3,fx3,x4,fx4,x5,fx5,x6,fx6,x7,fx7⟩:=uc8 (show CellsF W0 (w.heap.size+1) [.int .u8 kd,.int .i64 id,.int .i64 g,.int .i64 nn,.int .u64 xv,.int .u32 xr,.int .u32 xw,sv] by rw [hW0];exact (CellsF.new (by simp)).later (below_a _ _))
 obtain ⟨r0,fr0,r1,fr1,r2,fr2,r3,fr3,r4,fr4⟩:=uc5 (show CellsF W0 (w.heap.size+1+1) [.slice none 0 0,.int .u64 0,.slice none 0 0,.slice none 0 0,.slice none 0 0] by rw [hW0];exact CellsF.new (by simp))
 have HSZ:=Lib.hid (show W0.heap.size=w.heap.size+1+1+1 by rw [hW0];simp)
 have HW0:=Lib.hid hW0
 clear hW0
 have nc:w.heap.size∉F:=fun m=>by have:=HF.out _ m;omega
 have nx:w.heap.size+1∉F:=fun m=>by have:=HF.out _ m;omega
 have nr:w.heap.size+1+1∉F:=fun m=>by have:=HF.out _ m;omega
 go_enter Tryz.func30,Tryz.ntmps30
 go_upto_region 1 with fail
 rw [← HW0.out]
 generalize hbx:w.heap.size=bx at c0 c1 c2 c3 c4 x0 x1 x2 x3 x4 x5 x6 x7 r0 r1 r2 r3 r4 fc0 fc1 fc2 fc3 fc4 fx0 fx1 fx2 fx3 fx4 fx5 fx6 fx7 fr0 fr1 fr2 fr3 fr4 HSZ nc nx nr ⊢
 have HBX:=Lib.hid hbx
 clear hbx HW0
 go_upto_region 2 with fail
 obtain ⟨W1,hW1⟩:∃ W,W=W0.alloc (.cells #[.int .u64 xv,.int .u32 xr,.int .u32 xw] 120):=⟨_,rfl⟩
 rw [← hW1]
 have hb1:Below W0.heap.size W0 W1:=by rw [hW1];exact below_a _ _
 have o0:W1.cell? ⟨W0.heap.size,0,none⟩=some (.int .u64 xv):=by rw [hW1];exact cell_nw _ _ _ 0 _ rfl
 have o1:W1.cell? ⟨W0.heap.size,1,none⟩=some (.int .u32 xr):=by rw [hW1];exact cell_nw _ _ _ 1 _ rfl
 have o2:W1.cell? ⟨W0.heap.size,2,none⟩=some (.int .u32 xw):=by rw [hW1];exact cell_nw _ _ _ 2 _ rfl
 have q:=uc5 ((pc5 c0 fc0 c1 fc1 c2 fc2 c3 fc3 c4 fc4).later hb1)
 clear c0 fc0 c1 fc1 c2 fc2 c3 fc3 c4 fc4
 obtain ⟨c0,fc0,c1,fc1,c2,fc2,c3,fc3,c4,fc4⟩:=q
 have q:=uc8 ((pc8 x0 fx0 x1 fx1 x2 fx2 x3 fx3 x4 fx4 x5 fx5 x6 fx6 x7 fx7).later hb1)
 clear x0 fx0 x1 fx1 x2 fx2 x3 fx3 x4 fx4 x5 fx5 x6 fx6 x7 fx7
 obtain ⟨x0,fx0,x1,fx1,x2,fx2,x3,fx3,x4,fx4,x5,fx5,x6,fx6,x7,fx7⟩:=q
 have q:=uc5 ((pc5 r0 fr0 r1 fr1 r2 fr2 r3 fr3 r4 fr4).later hb1)
 clear r0 fr0 r1 fr1 r2 fr2 r3 fr3 r4 fr4
 obtain ⟨r0,fr0,r1,fr1,r2,fr2,r3,fr3,r4,fr4⟩:=q
 have HB1:=Lib.hid (Below.step HB0.out hb1)
 have HS1:=Lib.hid (show W0.heap.size≤W1.heap.size from hb1.size)
 obtain ⟨bo,hbo⟩:∃ b,b=W0.heap.size:=⟨_,rfl⟩
 rw [← hbo] at o0 o1 o2 ⊢
 clear hb1 hW1 hbo
 go_wp2_with fail
 refine (AE.out W1 (HRH.out.rin.later HB1.out) ).mono ?_
 rintro e w3 ⟨⟨a2g,a2t,a2a,a2f,d1,d2,d3,d4⟩,rfl,hn3,hb3⟩
 dsimp only [tup2,RAd.val]
 have q:=uc5 ((pc5 c0 fc0 c1 fc1 c2 fc2 c3 fc3 c4 fc4).later hb3)
 clear c0 fc0 c1 fc1 c2 fc2 c3 fc3 c4 fc4
 obtain ⟨c0,fc0,c1,fc1,c2,fc2,c3,fc3,c4,fc4⟩:=q
 have q:=uc8 ((pc8 x0 fx0 x1 fx1 x2 fx2 x3 fx3 x4 fx4 x5 fx5 x6 fx6 x7 fx7).later hb3)
 clear x0 fx0 x1 fx1 x2 fx2 x3 fx3 x4 fx4 x5 fx5 x6 fx6 x7 fx7
 obtain ⟨x0,fx0,x1,fx1,x2,fx2,x3,fx3,x4,fx4,x5,fx5,x6,fx6,x7,fx7⟩:=q
 have q:=uc5 ((pc5 r0 fr0 r1 fr1 r2 fr2 r3 fr3 r4 fr4).later hb3)
 clear r0 fr0 r1 fr1 r2 fr2 r3 fr3 r4 fr4
 obtain ⟨r0,fr0,r1,fr1,r2,fr2,r3,fr3,r4,fr4⟩:=q
 have HN3:=Lib.hid hn3
 have HB3:=Lib.hid (Below.step HB1.out hb3)
 have H03:=Lib.hid hb3
 obtain ⟨N,hN⟩:∃ N,N=rN.T.length:=⟨_,rfl⟩
 obtain ⟨cr2,hcr2⟩:∃ c,c=rN.cr:=⟨_,rfl⟩
 rw [← hN] at HN3 ⊢
 rw [← hcr2]
 have HN:=Lib.hid hN
 have HCR:=Lib.hid hcr2
 clear hn3 hb3 hN hcr2
 go_upto_region 21 with fail
 obtain ⟨W4,hW4⟩:∃ W,W=(w3.alloc (.cells #[.slice a2g n d1,.int .u64 cr2,.slice a2t N d2,.slice a2a n d3,.slice a2f n d4] 74)):=⟨_,rfl⟩
 rw [← hW4]
 have hb4:Below w3.heap.size w3 W4:=by rw [hW4];exact below_a _ _
 have y0:W4.cell? ⟨w3.heap.size,0,none⟩=some (.slice a2g n d1):=by rw [hW4];exact cell_nw _ _ _ 0 _ rfl
 have y1:W4.cell? ⟨w3.heap.size,1,none⟩=some (.int .u64 cr2):=by rw [hW4];exact cell_nw _ _ _ 1 _ rfl
 have y2:W4.cell? ⟨w3.heap.size,2,none⟩=some (.slice a2t N d2):=by rw [hW4];exact cell_nw _ _ _ 2 _ rfl
 have y3:W4.cell? ⟨w3.heap.size,3,none⟩=some (.slice a2a n d3):=by rw [hW4];exact cell_nw _ _ _ 3 _ rfl
 have y4:W4.cell? ⟨w3.heap.size,4,none⟩=some (.slice a2f n d4):=by rw [hW4];exact cell_nw _ _ _ 4 _ rfl
 have q:=uc5 ((pc5 c0 fc0 c1 fc1 c2 fc2 c3 fc3 c4 fc4).later hb4)
 clear c0 fc0 c1 fc1 c2 fc2 c3 fc3 c4 fc4
 obtain ⟨c0,fc0,c1,fc1,c2,fc2,c3,fc3,c4,fc4⟩:=q
 have q:=uc8 ((pc8 x0 fx0 x1 fx1 x2 fx2 x3 fx3 x4 fx4 x5 fx5 x6 fx6 x7 fx7).later hb4)
 clear x0 fx0 x1 fx1 x2 fx2 x3 fx3 x4 fx4 x5 fx5 x6 fx6 x7 fx7
 obtain ⟨x0,fx0,x1,fx1,x2,fx2,x3,fx3,x4,fx4,x5,fx5,x6,fx6,x7,fx7⟩:=q
 have q:=uc5 ((pc5 r0 fr0 r1 fr1 r2 fr2 r3 fr3 r4 fr4).later hb4)
 clear r0 fr0 r1 fr1 r2 fr2 r3 fr3 r4 fr4
 obtain ⟨r0,fr0,r1,fr1,r2,fr2,r3,fr3,r4,fr4⟩:=q
 have HB4:=Lib.hid (Below.step HB3.out hb4)
 have HX4:=Lib.hid hb4
 have L8:=Lib.hid (show W0.heap.size≤w3.heap.size from Nat.le_trans HS1.out H03.out.size)
 generalize hb8:w3.heap.size=b8 at y0 y1 y2 y3 y4 L8 ⊢
 have m8:b8∉F:=fun m=>by have:=HF.out _ m;have h1:=HSZ.out;have h2:=L8.out;have h4:=HBX.out;omega
 have HL4:=Lib.hid (show bx+1+1<W4.heap.size from lt_of_cell r0)
 have HH:=Lib.hid (show TreeIn W4 t F s from HI.out.below HB4.out)
 have HRR:=Lib.hid (show RHeld ((bx+1+1)::(G++F)) W4 ⟨a2g,a2t,a2a,a2f,d1,d2,d3,d4⟩ n N rN from (HN3.out ((bx+1+1)::(G++F)) (fun b hb=>by
  have h1:=HSZ.out;have h3:=HB0.out.size;have h4:=HBX.out;have h5:=HS1.out
  rcases List.mem_cons.1 hb with rfl | hb
  ·omega
  ·rcases List.mem_append.1 hb with hb | hb
   ·have:=HGL.out _ hb;omega
   ·have:=HF.out _ hb;omega) (HRH.out.step (Kept.of HB1.out) (fun b hb=>by
  have h1:=HBX.out
  rcases List.mem_cons.1 hb with rfl | hb
  ·exact Or.inr (by omega)
  ·exact Or.inl hb))).later HX4.out)
 clear hb4 hW4 hb8
 have HHD:=Lib.hid (show TreeIn W4.drew t F s from HH.out.below (Below.refl _ _).drew)
 have hm8:b8∉(bx+1+1)::F:=fun m=>by
  rcases List.mem_cons.1 m with m | m
  ·have h1:=HSZ.out;have h2:=L8.out;omega
  ·exact m8 m
 have hm1:bx+1∉(bx+1+1)::F:=fun m=>by
  rcases List.mem_cons.1 m with m | m
  ·omega
  ·exact nx m
 refine startA (S:=fun w'=>Kept ((bx+1+1)::F) W4 w'∧w'.cell? ⟨b8,0,none⟩=some (.slice a2g n d1)∧w'.cell? ⟨b8,1,none⟩=some (.int .u64 cr2)∧w'.cell? ⟨b8,2,none⟩=some (.slice a2t N d2)∧w'.cell? ⟨b8,3,none⟩=some (.slice a2a n d3)∧w'.cell? ⟨b8,4,none⟩=some (.slice a2f n d4)∧w'.cell? ⟨bx+1,1,none⟩=some (.int .i64 id)∧w'.cell? ⟨bx+1,3,none⟩=some (.int .i64 nn)) ⟨Kept.refl _ _,y0,y1,y2,y3,y4,x1,x3⟩ (fun h=>heldK_7 (kept_dr _ _) h) (fun hS0 hHeld=>?_)
 refine takeA 0 ?_
 refine takeA 1 ?_
 refine takeA 2 ?_
 refine takeA 3 ?_
 refine takeA 4 ?_
 refine takeA 5 ?_
 refine takeA 7 ?_
 refine readyA [6] (consA (fun K hK=>?_) .nil)
 go_simp
 refine (AP.out _ HHD.out ).mono ?_
 rintro e w9 ⟨rfl,F9,h9,s9⟩
 have hk9:Kept ((bx+1+1)::F) W4.drew w9:=s9.kept.mono (fun b hb=>by simp [hb])
 have q:=uc5 ((pc5 r0 fr0 r1 fr1 r2 fr2 r3 fr3 r4 fr4).kept ((kept_dr F W4).trans s9.kept) nr)
 clear r0 fr0 r1 fr1 r2 fr2 r3 fr3 r4 fr4
 obtain ⟨r0,fr0,r1,fr1,r2,fr2,r3,fr3,r4,fr4⟩:=q
 have HS9:=Lib.hid s9
 have HH9:=Lib.hid h9
 clear s9 h9
 go_wp2_with fail
 refine outA hK kpK_7 (fun hHeld6=>?_)
 clear hK K
 refine takeA 8 ?_
 refine readyA [9] (consA (fun K hK=>?_) .nil)
 go_simp
 have hk9b:=ks5 (S:=(bx+1+1)::F) (w:=w9) (b:=bx+1+1) (.slice a2g n d1) (.int .u64 cr2) (.slice a2t N d2) (.slice a2a n d3) (.slice a2f n d4) (by simp)
 have KF:=ks5 (S:=[bx+1+1]) (w:=w9) (b:=bx+1+1) (.slice a2g n d1) (.int .u64 cr2) (.slice a2t N d2) (.slice a2a n d3) (.slice a2f n d4) (by simp)
 have q:=cs5 (.slice a2g n d1) (.int .u64 cr2) (.slice a2t N d2) (.slice a2a n d3) (.slice a2f n d4) (pc5 r0 fr0 r1 fr1 r2 fr2 r3 fr3 r4 fr4)
 clear r0 fr0 r1 fr1 r2 fr2 r3 fr3 r4 fr4
 obtain ⟨r0,fr0,r1,fr1,r2,fr2,r3,fr3,r4,fr4⟩:=uc5 q
 clear q fr0 fr1 fr2 fr3 fr4
 obtain ⟨wq,hwq⟩:∃ wq,wq=(((((w9.setCell ⟨bx+1+1,0,none⟩ (.slice a2g n d1)).setCell ⟨bx+1+1,1,none⟩ (.int .u64 cr2)).setCell ⟨bx+1+1,2,none⟩ (.slice a2t N d2)).setCell ⟨bx+1+1,3,none⟩ (.slice a2a n d3)).setCell ⟨bx+1+1,4,none⟩ (.slice a2f n d4)):=⟨_,rfl⟩
 rw [← hwq] at hk9b KF r0 r1 r2 r3 r4 ⊢
 clear hwq
 refine outA hK kpK_7 (fun hHeld9=>?_)
 clear hK K
 refine takeA 10 ?_
 refine doneA ?_
 go_wp2_with fail
 refine bodyPost_ret (v:=.tuple #[.agg #[.slice a2g n d1,.int .u64 cr2,.slice a2t N d2,.slice a2a n d3,.slice a2f n d4],.bool true]) (by simp [results,Tryz.results30,go_sem, *]) rfl ?_
 have HR9:=HRR.out
 rw [HN.out] at HR9 ⊢
 rw [HCR.out]
 exact pact_done HB4.out HF.out (by have:=HBX.out;omega) HL4.out ((Step.of (Below.refl W4.heap.size W4).drew).trans HS9.out) HH9.out HR9 KF HB2.out
set_option maxRecDepth 100000 in
set_option maxHeartbeats 4000000 in
theorem act_charge5 {t n:Nat} {F:List Nat} {s:TSt} {r:RSt} {G:List Nat} {a:RAd} {kd id g nn xv xr xw:Int} {sv:Value} {L:Spots} {w:World} (H:ActH t n F s r G a kd id g nn xv xr xw sv L w) (hk:kd % 9=5):ActC t n F r G a kd id g nn xv xr xw sv w:=by
 obtain ⟨h,hb,hr,hG,hkd,hid,hg,hnn,hx,hv,hL⟩:=H
 unfold ActC
 obtain ⟨z0,z1,z2,z3,z4,z5,z6,z7⟩:=kdz false false false false false true false false hkd hk (by decide)
 clear hk
 have ho:=tree_ord h
 have hks:=tree_keys h
 have hro:=hb.tw.rok hb.ok hb.cr
 rw [hb.n] at hro
 have hm1:r.T.length<69000:=by have:=srt_len hb.tw.srt (fun t ht=>(hb.tw.toTwinC.task hb.ok ht).1);omega
 have hn9:=hb.n
 have hwn:=wf_i64 hnn
 obtain ⟨rN,hrN⟩:∃ x,x=chargeRS r n id nn:=⟨_,rfl⟩
 obtain ⟨s2,hs2⟩:∃ x,x=pchgS s id nn:=⟨_,rfl⟩
 obtain ⟨cN,hcN⟩:∃ x,x=pchgC s id nn:=⟨_,rfl⟩
 have hC:=there_charge hb.tw hb.ok id nn
 have HB2:=Lib.hid (show OrdT s2→BothT n s2 rN from fun ho2=>by
  have:=charge_twin hb.tw hb.ok ho hb.fl id nn (by rw [← hs2];exact ho2)
  rw [← hs2,hn9,← hrN] at this
  exact hb.of (by rw [hs2];exact charge_ok hb.ok) (by rw [hs2];exact (fls_pchg _ _ _).le hb.fl) this (id:=id) (by rw [hs2];exact charge_fr _ _ _)
  )
 have AE:=Lib.hid (show ∀ W,RIn W a.ag a.at' a.aa a.af a.cg a.ct a.ca a.cf n r.T.length r→Calls Tryz.prog 64 #[.agg #[.slice a.ag n a.cg,.int .u64 r.cr,.slice a.at' r.T.length a.ct,.slice a.aa n a.ca,.slice a.af n a.cf],.int .i64 id,.int .i64 nn] W (ResP W a r n r.T.length rN (tup2 cN)) from fun W q=>by
  have this:=tCharge_at r n r.T.length hro id nn a W q
  rw [hC,← hrN,← hcN] at this
  exact this)
 have AP:=Lib.hid (show ∀ W,TreeIn W t F s→Calls Tryz.prog 36 #[.pointer (some ⟨t,0,none⟩),.int .i64 id,.int .i64 nn] W (TDid W t F (.int .i64 cN) s2) from fun W q=>by
  have this:=pCharge_at id nn W q hid hnn
  rw [← hs2,← hcN] at this
  exact this)
 have HI:=Lib.hid h
 have HRH:=Lib.hid hr
 have HGL:=Lib.hid hG
 have HF:=Lib.hid h.lt
 have HV:=Lib.hid hv
 clear hrN hs2 hcN  hb hr hG hro hm1 hn9 hwn ho hks hkd hid hg hnn hx hv hL h
 obtain ⟨m,hm⟩:∃ m,m=r.T.length:=⟨_,rfl⟩
 obtain ⟨cr0,hcr0⟩:∃ c,c=r.cr:=⟨_,rfl⟩
 rw [← hm] at AE HRH ⊢
 rw [← hcr0] at AE ⊢
 clear hm hcr0
 obtain ⟨ag,at',aa,af,cg,ct,ca,cf⟩:=a
 dsimp only at AE HRH ⊢
 obtain ⟨W0,hW0⟩:∃ W0,W0=(((w.alloc (.cells #[.slice ag n cg,.int .u64 cr0,.slice at' m ct,.slice aa n ca,.slice af n cf] 74)).alloc (.cells #[.int .u8 kd,.int .i64 id,.int .i64 g,.int .i64 nn,.int .u64 xv,.int .u32 xr,.int .u32 xw,sv] 78)).alloc (.cells #[.slice none 0 0,.int .u64 0,.slice none 0 0,.slice none 0 0,.slice none 0 0] 74)):=⟨_,rfl⟩
 have HB0:=Lib.hid (show Below w.heap.size w W0 by rw [hW0];exact (Below.allocS (Below.allocS (Below.allocS (Below.refl _ _) _) _) _))
 obtain ⟨c0,fc0,c1,fc1,c2,fc2,c3,fc3,c4,fc4⟩:=uc5 (show CellsF W0 (w.heap.size) [.slice ag n cg,.int .u64 cr0,.slice at' m ct,.slice aa n ca,.slice af n cf] by rw [hW0];exact ((CellsF.new (by simp)).later (below_a _ _)).later (below_a _ _))
 obtain ⟨x0,fx0,x1,fx1,x2,fx2,x3,fx3,x4,fx4,x5,fx5,x6,fx6,x7,fx7⟩:=uc8 (show CellsF W0 (w.heap.size+1) [.int .u8 kd,.int .i64 id,.int .i64 g,.int .i64 nn,.int .u64 xv,.int .u32 xr,.int .u32 xw,sv] by rw [hW0];exact (CellsF.new (by simp)).later (below_a _ _))
 obtain ⟨r0,fr0,r1,fr1,r2,fr2,r3,fr3,r4,fr4⟩:=uc5 (show CellsF W0 (w.heap.size+1+1) [.slice none 0 0,.int .u64 0,.slice none 0 0,.slice none 0 0,.slice none 0 0] by rw [hW0];exact CellsF.new (by simp))
 have HSZ:=Lib.hid (show W0.heap.size=w.heap.size+1+1+1 by rw [hW0];simp)
 have HW0:=Lib.hid hW0
 clear hW0
 have nc:w.heap.size∉F:=fun m=>by have:=HF.out _ m;omega
 have nx:w.heap.size+1∉F:=fun m=>by have:=HF.out _ m;omega
 have nr:w.heap.size+1+1∉F:=fun m=>by have:=HF.out _ m;omega
 go_enter Tryz.func30,Tryz.ntmps30
 go_upto_region 1 with fail
 rw [← HW0.out]
 generalize hbx:w.heap.size=bx at c0 c1 c2 c3 c4 x0 x1 x2 x3 x4 x5 x6 x7 r0 r1 r2 r3 r4 fc0 fc1 fc2 fc3 fc4 fx0 fx1 fx2 fx3 fx4 fx5 fx6 fx7 fr0 fr1 fr2 fr3 fr4 HSZ nc nx nr ⊢
 have HBX:=Lib.hid hbx
 clear hbx HW0
 go_upto_region 2 with fail
 obtain ⟨W1,hW1⟩:∃ W,W=W0.alloc (.cells #[.int .u64 xv,.int .u32 xr,.int .u32 xw] 120):=⟨_,rfl⟩
 rw [← hW1]
 have hb1:Below W0.heap.size W0 W1:=by rw [hW1];exact below_a _ _
 have o0:W1.cell? ⟨W0.heap.size,0,none⟩=some (.int .u64 xv):=by rw [hW1];exact cell_nw _ _ _ 0 _ rfl
 have o1:W1.cell? ⟨W0.heap.size,1,none⟩=some (.int .u32 xr):=by rw [hW1];exact cell_nw _ _ _ 1 _ rfl
 have o2:W1.cell? ⟨W0.heap.size,2,none⟩=some (.int .u32 xw):=by rw [hW1];exact cell_nw _ _ _ 2 _ rfl
 have q:=uc5 ((pc5 c0 fc0 c1 fc1 c2 fc2 c3 fc3 c4 fc4).later hb1)
 clear c0 fc0 c1 fc1 c2 fc2 c3 fc3 c4 fc4
 obtain ⟨c0,fc0,c1,fc1,c2,fc2,c3,fc3,c4,fc4⟩:=q
 have q:=uc8 ((pc8 x0 fx0 x1 fx1 x2 fx2 x3 fx3 x4 fx4 x5 fx5 x6 fx6 x7 fx7).later hb1)
 clear x0 fx0 x1 fx1 x2 fx2 x3 fx3 x4 fx4 x5 fx5 x6 fx6 x7 fx7
 obtain ⟨x0,fx0,x1,fx1,x2,fx2,x3,fx3,x4,fx4,x5,fx5,x6,fx6,x7,fx7⟩:=q
 have q:=uc5 ((pc5 r0 fr0 r1 fr1 r2 fr2 r3 fr3 r4 fr4).later hb1)
 clear r0 fr0 r1 fr1 r2 fr2 r3 fr3 r4 fr4
 obtain ⟨r0,fr0,r1,fr1,r2,fr2,r3,fr3,r4,fr4⟩:=q
 have HB1:=Lib.hid (Below.step HB0.out hb1)
 have HS1:=Lib.hid (show W0.heap.size≤W1.heap.size from hb1.size)
 obtain ⟨bo,hbo⟩:∃ b,b=W0.heap.size:=⟨_,rfl⟩
 rw [← hbo] at o0 o1 o2 ⊢
 clear hb1 hW1 hbo
 go_wp2_with fail
 refine (AE.out W1 (HRH.out.rin.later HB1.out) ).mono ?_
 rintro e w3 ⟨⟨a2g,a2t,a2a,a2f,d1,d2,d3,d4⟩,rfl,hn3,hb3⟩
 dsimp only [tup2,RAd.val]
 have q:=uc5 ((pc5 c0 fc0 c1 fc1 c2 fc2 c3 fc3 c4 fc4).later hb3)
 clear c0 fc0 c1 fc1 c2 fc2 c3 fc3 c4 fc4
 obtain ⟨c0,fc0,c1,fc1,c2,fc2,c3,fc3,c4,fc4⟩:=q
 have q:=uc8 ((pc8 x0 fx0 x1 fx1 x2 fx2 x3 fx3 x4 fx4 x5 fx5 x6 fx6 x7 fx7).later hb3)
 clear x0 fx0 x1 fx1 x2 fx2 x3 fx3 x4 fx4 x5 fx5 x6 fx6 x7 fx7
 obtain ⟨x0,fx0,x1,fx1,x2,fx2,x3,fx3,x4,fx4,x5,fx5,x6,fx6,x7,fx7⟩:=q
 have q:=uc5 ((pc5 r0 fr0 r1 fr1 r2 fr2 r3 fr3 r4 fr4).later hb3)
 clear r0 fr0 r1 fr1 r2 fr2 r3 fr3 r4 fr4
 obtain ⟨r0,fr0,r1,fr1,r2,fr2,r3,fr3,r4,fr4⟩:=q
 have HN3:=Lib.hid hn3
 have HB3:=Lib.hid (Below.step HB1.out hb3)
 have H03:=Lib.hid hb3
 obtain ⟨N,hN⟩:∃ N,N=rN.T.length:=⟨_,rfl⟩
 obtain ⟨cr2,hcr2⟩:∃ c,c=rN.cr:=⟨_,rfl⟩
 rw [← hN] at HN3 ⊢
 rw [← hcr2]
 have HN:=Lib.hid hN
 have HCR:=Lib.hid hcr2
 clear hn3 hb3 hN hcr2
 go_upto_region 21 with fail
 obtain ⟨W4,hW4⟩:∃ W,W=(w3.alloc (.cells #[.slice a2g n d1,.int .u64 cr2,.slice a2t N d2,.slice a2a n d3,.slice a2f n d4] 74)):=⟨_,rfl⟩
 rw [← hW4]
 have hb4:Below w3.heap.size w3 W4:=by rw [hW4];exact below_a _ _
 have y0:W4.cell? ⟨w3.heap.size,0,none⟩=some (.slice a2g n d1):=by rw [hW4];exact cell_nw _ _ _ 0 _ rfl
 have y1:W4.cell? ⟨w3.heap.size,1,none⟩=some (.int .u64 cr2):=by rw [hW4];exact cell_nw _ _ _ 1 _ rfl
 have y2:W4.cell? ⟨w3.heap.size,2,none⟩=some (.slice a2t N d2):=by rw [hW4];exact cell_nw _ _ _ 2 _ rfl
 have y3:W4.cell? ⟨w3.heap.size,3,none⟩=some (.slice a2a n d3):=by rw [hW4];exact cell_nw _ _ _ 3 _ rfl
 have y4:W4.cell? ⟨w3.heap.size,4,none⟩=some (.slice a2f n d4):=by rw [hW4];exact cell_nw _ _ _ 4 _ rfl
 have q:=uc5 ((pc5 c0 fc0 c1 fc1 c2 fc2 c3 fc3 c4 fc4).later hb4)
 clear c0 fc0 c1 fc1 c2 fc2 c3 fc3 c4 fc4
 obtain ⟨c0,fc0,c1,fc1,c2,fc2,c3,fc3,c4,fc4⟩:=q
 have q:=uc8 ((pc8 x0 fx0 x1 fx1 x2 fx2 x3 fx3 x4 fx4 x5 fx5 x6 fx6 x7 fx7).later hb4)
 clear x0 fx0 x1 fx1 x2 fx2 x3 fx3 x4 fx4 x5 fx5 x6 fx6 x7 fx7
 obtain ⟨x0,fx0,x1,fx1,x2,fx2,x3,fx3,x4,fx4,x5,fx5,x6,fx6,x7,fx7⟩:=q
 have q:=uc5 ((pc5 r0 fr0 r1 fr1 r2 fr2 r3 fr3 r4 fr4).later hb4)
 clear r0 fr0 r1 fr1 r2 fr2 r3 fr3 r4 fr4
 obtain ⟨r0,fr0,r1,fr1,r2,fr2,r3,fr3,r4,fr4⟩:=q
 have HB4:=Lib.hid (Below.step HB3.out hb4)
 have HX4:=Lib.hid hb4
 have L8:=Lib.hid (show W0.heap.size≤w3.heap.size from Nat.le_trans HS1.out H03.out.size)
 generalize hb8:w3.heap.size=b8 at y0 y1 y2 y3 y4 L8 ⊢
 have m8:b8∉F:=fun m=>by have:=HF.out _ m;have h1:=HSZ.out;have h2:=L8.out;have h4:=HBX.out;omega
 have HL4:=Lib.hid (show bx+1+1<W4.heap.size from lt_of_cell r0)
 have HH:=Lib.hid (show TreeIn W4 t F s from HI.out.below HB4.out)
 have HRR:=Lib.hid (show RHeld ((bx+1+1)::(G++F)) W4 ⟨a2g,a2t,a2a,a2f,d1,d2,d3,d4⟩ n N rN from (HN3.out ((bx+1+1)::(G++F)) (fun b hb=>by
  have h1:=HSZ.out;have h3:=HB0.out.size;have h4:=HBX.out;have h5:=HS1.out
  rcases List.mem_cons.1 hb with rfl | hb
  ·omega
  ·rcases List.mem_append.1 hb with hb | hb
   ·have:=HGL.out _ hb;omega
   ·have:=HF.out _ hb;omega) (HRH.out.step (Kept.of HB1.out) (fun b hb=>by
  have h1:=HBX.out
  rcases List.mem_cons.1 hb with rfl | hb
  ·exact Or.inr (by omega)
  ·exact Or.inl hb))).later HX4.out)
 clear hb4 hW4 hb8
 have HHD:=Lib.hid (show TreeIn W4.drew t F s from HH.out.below (Below.refl _ _).drew)
 have hm8:b8∉(bx+1+1)::F:=fun m=>by
  rcases List.mem_cons.1 m with m | m
  ·have h1:=HSZ.out;have h2:=L8.out;omega
  ·exact m8 m
 have hm1:bx+1∉(bx+1+1)::F:=fun m=>by
  rcases List.mem_cons.1 m with m | m
  ·omega
  ·exact nx m
 refine startA (S:=fun w'=>Kept ((bx+1+1)::F) W4 w'∧w'.cell? ⟨b8,0,none⟩=some (.slice a2g n d1)∧w'.cell? ⟨b8,1,none⟩=some (.int .u64 cr2)∧w'.cell? ⟨b8,2,none⟩=some (.slice a2t N d2)∧w'.cell? ⟨b8,3,none⟩=some (.slice a2a n d3)∧w'.cell? ⟨b8,4,none⟩=some (.slice a2f n d4)∧w'.cell? ⟨bx+1,1,none⟩=some (.int .i64 id)∧w'.cell? ⟨bx+1,3,none⟩=some (.int .i64 nn)) ⟨Kept.refl _ _,y0,y1,y2,y3,y4,x1,x3⟩ (fun h=>heldK_7 (kept_dr _ _) h) (fun hS0 hHeld=>?_)
 refine takeA 0 ?_
 refine takeA 1 ?_
 refine takeA 2 ?_
 refine takeA 3 ?_
 refine takeA 4 ?_
 refine takeA 5 ?_
 refine takeA 7 ?_
 refine readyA [6] (consA (fun K hK=>?_) .nil)
 go_simp
 refine (AP.out _ HHD.out ).mono ?_
 rintro e w9 ⟨rfl,F9,h9,s9⟩
 have hk9:Kept ((bx+1+1)::F) W4.drew w9:=s9.kept.mono (fun b hb=>by simp [hb])
 have q:=uc5 ((pc5 r0 fr0 r1 fr1 r2 fr2 r3 fr3 r4 fr4).kept ((kept_dr F W4).trans s9.kept) nr)
 clear r0 fr0 r1 fr1 r2 fr2 r3 fr3 r4 fr4
 obtain ⟨r0,fr0,r1,fr1,r2,fr2,r3,fr3,r4,fr4⟩:=q
 have HS9:=Lib.hid s9
 have HH9:=Lib.hid h9
 clear s9 h9
 go_wp2_with fail
 refine outA hK kpK_7 (fun hHeld6=>?_)
 clear hK K
 refine takeA 8 ?_
 refine readyA [9] (consA (fun K hK=>?_) .nil)
 go_simp
 have hk9b:=ks5 (S:=(bx+1+1)::F) (w:=w9) (b:=bx+1+1) (.slice a2g n d1) (.int .u64 cr2) (.slice a2t N d2) (.slice a2a n d3) (.slice a2f n d4) (by simp)
 have KF:=ks5 (S:=[bx+1+1]) (w:=w9) (b:=bx+1+1) (.slice a2g n d1) (.int .u64 cr2) (.slice a2t N d2) (.slice a2a n d3) (.slice a2f n d4) (by simp)
 have q:=cs5 (.slice a2g n d1) (.int .u64 cr2) (.slice a2t N d2) (.slice a2a n d3) (.slice a2f n d4) (pc5 r0 fr0 r1 fr1 r2 fr2 r3 fr3 r4 fr4)
 clear r0 fr0 r1 fr1 r2 fr2 r3 fr3 r4 fr4
 obtain ⟨r0,fr0,r1,fr1,r2,fr2,r3,fr3,r4,fr4⟩:=uc5 q
 clear q fr0 fr1 fr2 fr3 fr4
 obtain ⟨wq,hwq⟩:∃ wq,wq=(((((w9.setCell ⟨bx+1+1,0,none⟩ (.slice a2g n d1)).setCell ⟨bx+1+1,1,none⟩ (.int .u64 cr2)).setCell ⟨bx+1+1,2,none⟩ (.slice a2t N d2)).setCell ⟨bx+1+1,3,none⟩ (.slice a2a n d3)).setCell ⟨bx+1+1,4,none⟩ (.slice a2f n d4)):=⟨_,rfl⟩
 rw [← hwq] at hk9b KF r0 r1 r2 r3 r4 ⊢
 clear hwq
 refine outA hK kpK_7 (fun hHeld9=>?_)
 clear hK K
 refine takeA 10 ?_
 refine doneA ?_
 go_wp2_with fail
 refine bodyPost_ret (v:=.tuple #[.agg #[.slice a2g n d1,.int .u64 cr2,.slice a2t N d2,.slice a2a n d3,.slice a2f n d4],.bool true]) (by simp [results,Tryz.results30,go_sem, *]) rfl ?_
 have HR9:=HRR.out
 rw [HN.out] at HR9 ⊢
 rw [HCR.out]
 exact pact_done HB4.out HF.out (by have:=HBX.out;omega) HL4.out ((Step.of (Below.refl W4.heap.size W4).drew).trans HS9.out) HH9.out HR9 KF HB2.out
set_option maxRecDepth 100000 in
set_option maxHeartbeats 4000000 in
theorem act_weigh {t n:Nat} {F:List Nat} {s:TSt} {r:RSt} {G:List Nat} {a:RAd} {kd id g nn xv xr xw:Int} {sv:Value} {L:Spots} {w:World} (H:ActH t n F s r G a kd id g nn xv xr xw sv L w) (hk:kd % 9=6):ActC t n F r G a kd id g nn xv xr xw sv w:=by
 obtain ⟨h,hb,hr,hG,hkd,hid,hg,hnn,hx,hv,hL⟩:=H
 unfold ActC
 obtain ⟨z0,z1,z2,z3,z4,z5,z6,z7⟩:=kdz false false false false false false true false hkd hk (by decide)
 clear hk
 have ho:=tree_ord h
 have hks:=tree_keys h
 have hro:=hb.tw.rok hb.ok hb.cr
 rw [hb.n] at hro
 have hm1:r.T.length<69000:=by have:=srt_len hb.tw.srt (fun t ht=>(hb.tw.toTwinC.task hb.ok ht).1);omega
 have hn9:=hb.n
 have hwn:=wf_i64 hnn
 obtain ⟨rN,hrN⟩:∃ x,x=weighRS r id nn:=⟨_,rfl⟩
 obtain ⟨s2,hs2⟩:∃ x,x=pweiS s id nn:=⟨_,rfl⟩
 obtain ⟨cN,hcN⟩:∃ x,x=pweiC s id nn:=⟨_,rfl⟩
 have hC:=weigh_code hb.tw hb.ok id nn
 have HB2:=Lib.hid (show OrdT s2→BothT n s2 rN from fun ho2=>by
  have:=(weigh_twin hb.tw hb.ok ho hb.fl id nn (by rw [← hs2];exact ho2)).1
  rw [← hs2,← hrN] at this
  exact hb.of (by rw [hs2];exact weigh_ok hb.ok) (by rw [hs2];exact (fls_pwei _ _ _).le hb.fl) this (id:=id) (by rw [hs2];exact weigh_fr _ _ _)
  )
 have AE:=Lib.hid (show ∀ W,RIn W a.ag a.at' a.aa a.af a.cg a.ct a.ca a.cf n r.T.length r→Calls Tryz.prog 65 #[.agg #[.slice a.ag n a.cg,.int .u64 r.cr,.slice a.at' r.T.length a.ct,.slice a.aa n a.ca,.slice a.af n a.cf],.int .i64 id,.int .i64 nn] W (ResP W a r n r.T.length rN (tup2 cN)) from fun W q=>by
  have this:=tWeigh_at r n r.T.length hro id nn hwn a W q
  rw [hC,← hrN,← hcN] at this
  exact this)
 have AP:=Lib.hid (show ∀ W,TreeIn W t F s→Calls Tryz.prog 37 #[.pointer (some ⟨t,0,none⟩),.int .i64 id,.int .i64 nn] W (TDid W t F (.int .i64 cN) s2) from fun W q=>by
  have this:=pWeigh_at id nn W q hid hnn
  rw [← hs2,← hcN] at this
  exact this)
 have HI:=Lib.hid h
 have HRH:=Lib.hid hr
 have HGL:=Lib.hid hG
 have HF:=Lib.hid h.lt
 have HV:=Lib.hid hv
 clear hrN hs2 hcN  hb hr hG hro hm1 hn9 hwn ho hks hkd hid hg hnn hx hv hL h
 obtain ⟨m,hm⟩:∃ m,m=r.T.length:=⟨_,rfl⟩
 obtain ⟨cr0,hcr0⟩:∃ c,c=r.cr:=⟨_,rfl⟩
 rw [← hm] at AE HRH ⊢
 rw [← hcr0] at AE ⊢
 clear hm hcr0
 obtain ⟨ag,at',aa,af,cg,ct,ca,cf⟩:=a
 dsimp only at AE HRH ⊢
 obtain ⟨W0,hW0⟩:∃ W0,W0=(((w.alloc (.cells #[.slice ag n cg,.int .u64 cr0,.slice at' m ct,.slice aa n ca,.slice af n cf] 74)).alloc (.cells #[.int .u8 kd,.int .i64 id,.int .i64 g,.int .i64 nn,.int .u64 xv,.int .u32 xr,.int .u32 xw,sv] 78)).alloc (.cells #[.slice none 0 0,.int .u64 0,.slice none 0 0,.slice none 0 0,.slice none 0 0] 74)):=⟨_,rfl⟩
 have HB0:=Lib.hid (show Below w.heap.size w W0 by rw [hW0];exact (Below.allocS (Below.allocS (Below.allocS (Below.refl _ _) _) _) _))
 obtain ⟨c0,fc0,c1,fc1,c2,fc2,c3,fc3,c4,fc4⟩:=uc5 (show CellsF W0 (w.heap.size) [.slice ag n cg,.int .u64 cr0,.slice at' m ct,.slice aa n ca,.slice af n cf] by rw [hW0];exact ((CellsF.new (by simp)).later (below_a _ _)).later (below_a _ _))
 obtain ⟨x0,fx0,x1,fx1,x2,fx2,x3,fx3,x4,fx4,x5,fx5,x6,fx6,x7,fx7⟩:=uc8 (show CellsF W0 (w.heap.size+1) [.int .u8 kd,.int .i64 id,.int .i64 g,.int .i64 nn,.int .u64 xv,.int .u32 xr,.int .u32 xw,sv] by rw [hW0];exact (CellsF.new (by simp)).later (below_a _ _))
 obtain ⟨r0,fr0,r1,fr1,r2,fr2,r3,fr3,r4,fr4⟩:=uc5 (show CellsF W0 (w.heap.size+1+1) [.slice none 0 0,.int .u64 0,.slice none 0 0,.slice none 0 0,.slice none 0 0] by rw [hW0];exact CellsF.new (by simp))
 have HSZ:=Lib.hid (show W0.heap.size=w.heap.size+1+1+1 by rw [hW0];simp)
 have HW0:=Lib.hid hW0
 clear hW0
 have nc:w.heap.size∉F:=fun m=>by have:=HF.out _ m;omega
 have nx:w.heap.size+1∉F:=fun m=>by have:=HF.out _ m;omega
 have nr:w.heap.size+1+1∉F:=fun m=>by have:=HF.out _ m;omega
 go_enter Tryz.func30,Tryz.ntmps30
 go_upto_region 1 with fail
 rw [← HW0.out]
 generalize hbx:w.heap.size=bx at c0 c1 c2 c3 c4 x0 x1 x2 x3 x4 x5 x6 x7 r0 r1 r2 r3 r4 fc0 fc1 fc2 fc3 fc4 fx0 fx1 fx2 fx3 fx4 fx5 fx6 fx7 fr0 fr1 fr2 fr3 fr4 HSZ nc nx nr ⊢
 have HBX:=Lib.hid hbx
 clear hbx HW0
 go_upto_region 2 with fail
 obtain ⟨W1,hW1⟩:∃ W,W=W0.alloc (.cells #[.int .u64 xv,.int .u32 xr,.int .u32 xw] 120):=⟨_,rfl⟩
 rw [← hW1]
 have hb1:Below W0.heap.size W0 W1:=by rw [hW1];exact below_a _ _
 have o0:W1.cell? ⟨W0.heap.size,0,none⟩=some (.int .u64 xv):=by rw [hW1];exact cell_nw _ _ _ 0 _ rfl
 have o1:W1.cell? ⟨W0.heap.size,1,none⟩=some (.int .u32 xr):=by rw [hW1];exact cell_nw _ _ _ 1 _ rfl
 have o2:W1.cell? ⟨W0.heap.size,2,none⟩=some (.int .u32 xw):=by rw [hW1];exact cell_nw _ _ _ 2 _ rfl
 have q:=uc5 ((pc5 c0 fc0 c1 fc1 c2 fc2 c3 fc3 c4 fc4).later hb1)
 clear c0 fc0 c1 fc1 c2 fc2 c3 fc3 c4 fc4
 obtain ⟨c0,fc0,c1,fc1,c2,fc2,c3,fc3,c4,fc4⟩:=q
 have q:=uc8 ((pc8 x0 fx0 x1 fx1 x2 fx2 x3 fx3 x4 fx4 x5 fx5 x6 fx6 x7 fx7).later hb1)
 clear x0 fx0 x1 fx1 x2 fx2 x3 fx3 x4 fx4 x5 fx5 x6 fx6 x7 fx7
 obtain ⟨x0,fx0,x1,fx1,x2,fx2,x3,fx3,x4,fx4,x5,fx5,x6,fx6,x7,fx7⟩:=q
 have q:=uc5 ((pc5 r0 fr0 r1 fr1 r2 fr2 r3 fr3 r4 fr4).later hb1)
 clear r0 fr0 r1 fr1 r2 fr2 r3 fr3 r4 fr4
 obtain ⟨r0,fr0,r1,fr1,r2,fr2,r3,fr3,r4,fr4⟩:=q
 have HB1:=Lib.hid (Below.step HB0.out hb1)
 have HS1:=Lib.hid (show W0.heap.size≤W1.heap.size from hb1.size)
 obtain ⟨bo,hbo⟩:∃ b,b=W0.heap.size:=⟨_,rfl⟩
 rw [← hbo] at o0 o1 o2 ⊢
 clear hb1 hW1 hbo
 go_wp2_with fail
 refine (AE.out W1 (HRH.out.rin.later HB1.out) ).mono ?_
 rintro e w3 ⟨⟨a2g,a2t,a2a,a2f,d1,d2,d3,d4⟩,rfl,hn3,hb3⟩
 dsimp only [tup2,RAd.val]
 have q:=uc5 ((pc5 c0 fc0 c1 fc1 c2 fc2 c3 fc3 c4 fc4).later hb3)
 clear c0 fc0 c1 fc1 c2 fc2 c3 fc3 c4 fc4
 obtain ⟨c0,fc0,c1,fc1,c2,fc2,c3,fc3,c4,fc4⟩:=q
 have q:=uc8 ((pc8 x0 fx0 x1 fx1 x2 fx2 x3 fx3 x4 fx4 x5 fx5 x6 fx6 x7 fx7).later hb3)
 clear x0 fx0 x1 fx1 x2 fx2 x3 fx3 x4 fx4 x5 fx5 x6 fx6 x7 fx7
 obtain ⟨x0,fx0,x1,fx1,x2,fx2,x3,fx3,x4,fx4,x5,fx5,x6,fx6,x7,fx7⟩:=q
 have q:=uc5 ((pc5 r0 fr0 r1 fr1 r2 fr2 r3 fr3 r4 fr4).later hb3)
 clear r0 fr0 r1 fr1 r2 fr2 r3 fr3 r4 fr4
 obtain ⟨r0,fr0,r1,fr1,r2,fr2,r3,fr3,r4,fr4⟩:=q
 have HN3:=Lib.hid hn3
 have HB3:=Lib.hid (Below.step HB1.out hb3)
 have H03:=Lib.hid hb3
 obtain ⟨N,hN⟩:∃ N,N=rN.T.length:=⟨_,rfl⟩
 obtain ⟨cr2,hcr2⟩:∃ c,c=rN.cr:=⟨_,rfl⟩
 rw [← hN] at HN3 ⊢
 rw [← hcr2]
 have HN:=Lib.hid hN
 have HCR:=Lib.hid hcr2
 clear hn3 hb3 hN hcr2
 go_upto_region 24 with fail
 obtain ⟨W4,hW4⟩:∃ W,W=(w3.alloc (.cells #[.slice a2g n d1,.int .u64 cr2,.slice a2t N d2,.slice a2a n d3,.slice a2f n d4] 74)):=⟨_,rfl⟩
 rw [← hW4]
 have hb4:Below w3.heap.size w3 W4:=by rw [hW4];exact below_a _ _
 have y0:W4.cell? ⟨w3.heap.size,0,none⟩=some (.slice a2g n d1):=by rw [hW4];exact cell_nw _ _ _ 0 _ rfl
 have y1:W4.cell? ⟨w3.heap.size,1,none⟩=some (.int .u64 cr2):=by rw [hW4];exact cell_nw _ _ _ 1 _ rfl
 have y2:W4.cell? ⟨w3.heap.size,2,none⟩=some (.slice a2t N d2):=by rw [hW4];exact cell_nw _ _ _ 2 _ rfl
 have y3:W4.cell? ⟨w3.heap.size,3,none⟩=some (.slice a2a n d3):=by rw [hW4];exact cell_nw _ _ _ 3 _ rfl
 have y4:W4.cell? ⟨w3.heap.size,4,none⟩=some (.slice a2f n d4):=by rw [hW4];exact cell_nw _ _ _ 4 _ rfl
 have q:=uc5 ((pc5 c0 fc0 c1 fc1 c2 fc2 c3 fc3 c4 fc4).later hb4)
 clear c0 fc0 c1 fc1 c2 fc2 c3 fc3 c4 fc4
 obtain ⟨c0,fc0,c1,fc1,c2,fc2,c3,fc3,c4,fc4⟩:=q
 have q:=uc8 ((pc8 x0 fx0 x1 fx1 x2 fx2 x3 fx3 x4 fx4 x5 fx5 x6 fx6 x7 fx7).later hb4)
 clear x0 fx0 x1 fx1 x2 fx2 x3 fx3 x4 fx4 x5 fx5 x6 fx6 x7 fx7
 obtain ⟨x0,fx0,x1,fx1,x2,fx2,x3,fx3,x4,fx4,x5,fx5,x6,fx6,x7,fx7⟩:=q
 have q:=uc5 ((pc5 r0 fr0 r1 fr1 r2 fr2 r3 fr3 r4 fr4).later hb4)
 clear r0 fr0 r1 fr1 r2 fr2 r3 fr3 r4 fr4
 obtain ⟨r0,fr0,r1,fr1,r2,fr2,r3,fr3,r4,fr4⟩:=q
 have HB4:=Lib.hid (Below.step HB3.out hb4)
 have HX4:=Lib.hid hb4
 have L8:=Lib.hid (show W0.heap.size≤w3.heap.size from Nat.le_trans HS1.out H03.out.size)
 generalize hb8:w3.heap.size=b8 at y0 y1 y2 y3 y4 L8 ⊢
 have m8:b8∉F:=fun m=>by have:=HF.out _ m;have h1:=HSZ.out;have h2:=L8.out;have h4:=HBX.out;omega
 have HL4:=Lib.hid (show bx+1+1<W4.heap.size from lt_of_cell r0)
 have HH:=Lib.hid (show TreeIn W4 t F s from HI.out.below HB4.out)
 have HRR:=Lib.hid (show RHeld ((bx+1+1)::(G++F)) W4 ⟨a2g,a2t,a2a,a2f,d1,d2,d3,d4⟩ n N rN from (HN3.out ((bx+1+1)::(G++F)) (fun b hb=>by
  have h1:=HSZ.out;have h3:=HB0.out.size;have h4:=HBX.out;have h5:=HS1.out
  rcases List.mem_cons.1 hb with rfl | hb
  ·omega
  ·rcases List.mem_append.1 hb with hb | hb
   ·have:=HGL.out _ hb;omega
   ·have:=HF.out _ hb;omega) (HRH.out.step (Kept.of HB1.out) (fun b hb=>by
  have h1:=HBX.out
  rcases List.mem_cons.1 hb with rfl | hb
  ·exact Or.inr (by omega)
  ·exact Or.inl hb))).later HX4.out)
 clear hb4 hW4 hb8
 have HHD:=Lib.hid (show TreeIn W4.drew t F s from HH.out.below (Below.refl _ _).drew)
 have hm8:b8∉(bx+1+1)::F:=fun m=>by
  rcases List.mem_cons.1 m with m | m
  ·have h1:=HSZ.out;have h2:=L8.out;omega
  ·exact m8 m
 have hm1:bx+1∉(bx+1+1)::F:=fun m=>by
  rcases List.mem_cons.1 m with m | m
  ·omega
  ·exact nx m
 refine startA (S:=fun w'=>Kept ((bx+1+1)::F) W4 w'∧w'.cell? ⟨b8,0,none⟩=some (.slice a2g n d1)∧w'.cell? ⟨b8,1,none⟩=some (.int .u64 cr2)∧w'.cell? ⟨b8,2,none⟩=some (.slice a2t N d2)∧w'.cell? ⟨b8,3,none⟩=some (.slice a2a n d3)∧w'.cell? ⟨b8,4,none⟩=some (.slice a2f n d4)∧w'.cell? ⟨bx+1,1,none⟩=some (.int .i64 id)∧w'.cell? ⟨bx+1,3,none⟩=some (.int .i64 nn)) ⟨Kept.refl _ _,y0,y1,y2,y3,y4,x1,x3⟩ (fun h=>heldK_7 (kept_dr _ _) h) (fun hS0 hHeld=>?_)
 refine takeA 0 ?_
 refine takeA 1 ?_
 refine takeA 2 ?_
 refine takeA 3 ?_
 refine takeA 4 ?_
 refine takeA 5 ?_
 refine takeA 7 ?_
 refine readyA [6] (consA (fun K hK=>?_) .nil)
 go_simp
 refine (AP.out _ HHD.out ).mono ?_
 rintro e w9 ⟨rfl,F9,h9,s9⟩
 have hk9:Kept ((bx+1+1)::F) W4.drew w9:=s9.kept.mono (fun b hb=>by simp [hb])
 have q:=uc5 ((pc5 r0 fr0 r1 fr1 r2 fr2 r3 fr3 r4 fr4).kept ((kept_dr F W4).trans s9.kept) nr)
 clear r0 fr0 r1 fr1 r2 fr2 r3 fr3 r4 fr4
 obtain ⟨r0,fr0,r1,fr1,r2,fr2,r3,fr3,r4,fr4⟩:=q
 have HS9:=Lib.hid s9
 have HH9:=Lib.hid h9
 clear s9 h9
 go_wp2_with fail
 refine outA hK kpK_7 (fun hHeld6=>?_)
 clear hK K
 refine takeA 8 ?_
 refine readyA [9] (consA (fun K hK=>?_) .nil)
 go_simp
 have hk9b:=ks5 (S:=(bx+1+1)::F) (w:=w9) (b:=bx+1+1) (.slice a2g n d1) (.int .u64 cr2) (.slice a2t N d2) (.slice a2a n d3) (.slice a2f n d4) (by simp)
 have KF:=ks5 (S:=[bx+1+1]) (w:=w9) (b:=bx+1+1) (.slice a2g n d1) (.int .u64 cr2) (.slice a2t N d2) (.slice a2a n d3) (.slice a2f n d4) (by simp)
 have q:=cs5 (.slice a2g n d1) (.int .u64 cr2) (.slice a2t N d2) (.slice a2a n d3) (.slice a2f n d4) (pc5 r0 fr0 r1 fr1 r2 fr2 r3 fr3 r4 fr4)
 clear r0 fr0 r1 fr1 r2 fr2 r3 fr3 r4 fr4
 obtain ⟨r0,fr0,r1,fr1,r2,fr2,r3,fr3,r4,fr4⟩:=uc5 q
 clear q fr0 fr1 fr2 fr3 fr4
 obtain ⟨wq,hwq⟩:∃ wq,wq=(((((w9.setCell ⟨bx+1+1,0,none⟩ (.slice a2g n d1)).setCell ⟨bx+1+1,1,none⟩ (.int .u64 cr2)).setCell ⟨bx+1+1,2,none⟩ (.slice a2t N d2)).setCell ⟨bx+1+1,3,none⟩ (.slice a2a n d3)).setCell ⟨bx+1+1,4,none⟩ (.slice a2f n d4)):=⟨_,rfl⟩
 rw [← hwq] at hk9b KF r0 r1 r2 r3 r4 ⊢
 clear hwq
 refine outA hK kpK_7 (fun hHeld9=>?_)
 clear hK K
 refine takeA 10 ?_
 refine doneA ?_
 go_wp2_with fail
 refine bodyPost_ret (v:=.tuple #[.agg #[.slice a2g n d1,.int .u64 cr2,.slice a2t N d2,.slice a2a n d3,.slice a2f n d4],.bool true]) (by simp [results,Tryz.results30,go_sem, *]) rfl ?_
 have HR9:=HRR.out
 rw [HN.out] at HR9 ⊢
 rw [HCR.out]
 exact pact_done HB4.out HF.out (by have:=HBX.out;omega) HL4.out ((Step.of (Below.refl W4.heap.size W4).drew).trans HS9.out) HH9.out HR9 KF HB2.out
set_option maxRecDepth 100000 in
set_option maxHeartbeats 4000000 in
theorem act_regroup {t n:Nat} {F:List Nat} {s:TSt} {r:RSt} {G:List Nat} {a:RAd} {kd id g nn xv xr xw:Int} {sv:Value} {L:Spots} {w:World} (H:ActH t n F s r G a kd id g nn xv xr xw sv L w) (hk:kd % 9=7):ActC t n F r G a kd id g nn xv xr xw sv w:=by
 obtain ⟨h,hb,hr,hG,hkd,hid,hg,hnn,hx,hv,hL⟩:=H
 unfold ActC
 obtain ⟨z0,z1,z2,z3,z4,z5,z6,z7⟩:=kdz false false false false false false false true hkd hk (by decide)
 clear hk
 have ho:=tree_ord h
 have hks:=tree_keys h
 have hro:=hb.tw.rok hb.ok hb.cr
 rw [hb.n] at hro
 have hm1:r.T.length<69000:=by have:=srt_len hb.tw.srt (fun t ht=>(hb.tw.toTwinC.task hb.ok ht).1);omega
 have hn9:=hb.n
 have hwn:=wf_i64 hnn
 obtain ⟨rN,hrN⟩:∃ x,x=regRS r n g nn:=⟨_,rfl⟩
 obtain ⟨s2,hs2⟩:∃ x,x=pregS s g nn:=⟨_,rfl⟩
 obtain ⟨cN,hcN⟩:∃ x,x=pregC s g nn:=⟨_,rfl⟩
 have hC:=reg_code hb.tw hb.ok g nn
 rw [hn9] at hC
 have HB2:=Lib.hid (show OrdT s2→BothT n s2 rN from fun ho2=>by
  have:=regroup_twin hb.tw hb.ok ho hb.fl g nn (by rw [← hs2];exact ho2)
  rw [← hs2,hn9,← hrN] at this
  exact hb.of (by rw [hs2];exact regroup_ok hb.ok) (by rw [hs2];exact (fls_preg _ _ _).le hb.fl) this (id:=id) (by rw [hs2];exact regroup_fr _ _ _ _)
  )
 have AE:=Lib.hid (show ∀ W,RIn W a.ag a.at' a.aa a.af a.cg a.ct a.ca a.cf n r.T.length r→Calls Tryz.prog 66 #[.agg #[.slice a.ag n a.cg,.int .u64 r.cr,.slice a.at' r.T.length a.ct,.slice a.aa n a.ca,.slice a.af n a.cf],.int .i64 g,.int .i64 nn] W (ResP W a r n r.T.length rN (tup2 cN)) from fun W q=>by
  have this:=tRegroup_at r n r.T.length hro g nn hwn a W q
  rw [hC,← hrN,← hcN] at this
  exact this)
 have AP:=Lib.hid (show ∀ W,TreeIn W t F s→Calls Tryz.prog 38 #[.pointer (some ⟨t,0,none⟩),.int .i64 g,.int .i64 nn] W (TDid W t F (.int .i64 cN) s2) from fun W q=>by
  have this:=pRegroup_at g nn W q hnn
  rw [← hs2,← hcN] at this
  exact this)
 have HI:=Lib.hid h
 have HRH:=Lib.hid hr
 have HGL:=Lib.hid hG
 have HF:=Lib.hid h.lt
 have HV:=Lib.hid hv
 clear hrN hs2 hcN  hb hr hG hro hm1 hn9 hwn ho hks hkd hid hg hnn hx hv hL h
 obtain ⟨m,hm⟩:∃ m,m=r.T.length:=⟨_,rfl⟩
 obtain ⟨cr0,hcr0⟩:∃ c,c=r.cr:=⟨_,rfl⟩
 rw [← hm] at AE HRH ⊢
 rw [← hcr0] at AE ⊢
 clear hm hcr0
 obtain ⟨ag,at',aa,af,cg,ct,ca,cf⟩:=a
 dsimp only at AE HRH ⊢
 obtain ⟨W0,hW0⟩:∃ W0,W0=(((w.alloc (.cells #[.slice ag n cg,.int .u64 cr0,.slice at' m ct,.slice aa n ca,.slice af n cf] 74)).alloc (.cells #[.int .u8 kd,.int .i64 id,.int .i64 g,.int .i64 nn,.int .u64 xv,.int .u32 xr,.int .u32 xw,sv] 78)).alloc (.cells #[.slice none 0 0,.int .u64 0,.slice none 0 0,.slice none 0 0,.slice none 0 0] 74)):=⟨_,rfl⟩
 have HB0:=Lib.hid (show Below w.heap.size w W0 by rw [hW0];exact (Below.allocS (Below.allocS (Below.allocS (Below.refl _ _) _) _) _))
 obtain ⟨c0,fc0,c1,fc1,c2,fc2,c3,fc3,c4,fc4⟩:=uc5 (show CellsF W0 (w.heap.size) [.slice ag n cg,.int .u64 cr0,.slice at' m ct,.slice aa n ca,.slice af n cf] by rw [hW0];exact ((CellsF.new (by simp)).later (below_a _ _)).later (below_a _ _))
 obtain ⟨x0,fx0,x1,fx1,x2,fx2,x3,fx3,x4,fx4,x5,fx5,x6,fx6,x7,fx7⟩:=uc8 (show CellsF W0 (w.heap.size+1) [.int .u8 kd,.int .i64 id,.int .i64 g,.int .i64 nn,.int .u64 xv,.int .u32 xr,.int .u32 xw,sv] by rw [hW0];exact (CellsF.new (by simp)).later (below_a _ _))
 obtain ⟨r0,fr0,r1,fr1,r2,fr2,r3,fr3,r4,fr4⟩:=uc5 (show CellsF W0 (w.heap.size+1+1) [.slice none 0 0,.int .u64 0,.slice none 0 0,.slice none 0 0,.slice none 0 0] by rw [hW0];exact CellsF.new (by simp))
 have HSZ:=Lib.hid (show W0.heap.size=w.heap.size+1+1+1 by rw [hW0];simp)
 have HW0:=Lib.hid hW0
 clear hW0
 have nc:w.heap.size∉F:=fun m=>by have:=HF.out _ m;omega
 have nx:w.heap.size+1∉F:=fun m=>by have:=HF.out _ m;omega
 have nr:w.heap.size+1+1∉F:=fun m=>by have:=HF.out _ m;omega
 go_enter Tryz.func30,Tryz.ntmps30
 go_upto_region 1 with fail
 rw [← HW0.out]
 generalize hbx:w.heap.size=bx at c0 c1 c2 c3 c4 x0 x1 x2 x3 x4 x5 x6 x7 r0 r1 r2 r3 r4 fc0 fc1 fc2 fc3 fc4 fx0 fx1 fx2 fx3 fx4 fx5 fx6 fx7 fr0 fr1 fr2 fr3 fr4 HSZ nc nx nr ⊢
 have HBX:=Lib.hid hbx
 clear hbx HW0
 go_upto_region 2 with fail
 obtain ⟨W1,hW1⟩:∃ W,W=W0.alloc (.cells #[.int .u64 xv,.int .u32 xr,.int .u32 xw] 120):=⟨_,rfl⟩
 rw [← hW1]
 have hb1:Below W0.heap.size W0 W1:=by rw [hW1];exact below_a _ _
 have o0:W1.cell? ⟨W0.heap.size,0,none⟩=some (.int .u64 xv):=by rw [hW1];exact cell_nw _ _ _ 0 _ rfl
 have o1:W1.cell? ⟨W0.heap.size,1,none⟩=some (.int .u32 xr):=by rw [hW1];exact cell_nw _ _ _ 1 _ rfl
 have o2:W1.cell? ⟨W0.heap.size,2,none⟩=some (.int .u32 xw):=by rw [hW1];exact cell_nw _ _ _ 2 _ rfl
 have q:=uc5 ((pc5 c0 fc0 c1 fc1 c2 fc2 c3 fc3 c4 fc4).later hb1)
 clear c0 fc0 c1 fc1 c2 fc2 c3 fc3 c4 fc4
 obtain ⟨c0,fc0,c1,fc1,c2,fc2,c3,fc3,c4,fc4⟩:=q
 have q:=uc8 ((pc8 x0 fx0 x1 fx1 x2 fx2 x3 fx3 x4 fx4 x5 fx5 x6 fx6 x7 fx7).later hb1)
 clear x0 fx0 x1 fx1 x2 fx2 x3 fx3 x4 fx4 x5 fx5 x6 fx6 x7 fx7
 obtain ⟨x0,fx0,x1,fx1,x2,fx2,x3,fx3,x4,fx4,x5,fx5,x6,fx6,x7,fx7⟩:=q
 have q:=uc5 ((pc5 r0 fr0 r1 fr1 r2 fr2 r3 fr3 r4 fr4).later hb1)
 clear r0 fr0 r1 fr1 r2 fr2 r3 fr3 r4 fr4
 obtain ⟨r0,fr0,r1,fr1,r2,fr2,r3,fr3,r4,fr4⟩:=q
 have HB1:=Lib.hid (Below.step HB0.out hb1)
 have HS1:=Lib.hid (show W0.heap.size≤W1.heap.size from hb1.size)
 obtain ⟨bo,hbo⟩:∃ b,b=W0.heap.size:=⟨_,rfl⟩
 rw [← hbo] at o0 o1 o2 ⊢
 clear hb1 hW1 hbo
 go_wp2_with fail
 refine (AE.out W1 (HRH.out.rin.later HB1.out) ).mono ?_
 rintro e w3 ⟨⟨a2g,a2t,a2a,a2f,d1,d2,d3,d4⟩,rfl,hn3,hb3⟩
 dsimp only [tup2,RAd.val]
 have q:=uc5 ((pc5 c0 fc0 c1 fc1 c2 fc2 c3 fc3 c4 fc4).later hb3)
 clear c0 fc0 c1 fc1 c2 fc2 c3 fc3 c4 fc4
 obtain ⟨c0,fc0,c1,fc1,c2,fc2,c3,fc3,c4,fc4⟩:=q
 have q:=uc8 ((pc8 x0 fx0 x1 fx1 x2 fx2 x3 fx3 x4 fx4 x5 fx5 x6 fx6 x7 fx7).later hb3)
 clear x0 fx0 x1 fx1 x2 fx2 x3 fx3 x4 fx4 x5 fx5 x6 fx6 x7 fx7
 obtain ⟨x0,fx0,x1,fx1,x2,fx2,x3,fx3,x4,fx4,x5,fx5,x6,fx6,x7,fx7⟩:=q
 have q:=uc5 ((pc5 r0 fr0 r1 fr1 r2 fr2 r3 fr3 r4 fr4).later hb3)
 clear r0 fr0 r1 fr1 r2 fr2 r3 fr3 r4 fr4
 obtain ⟨r0,fr0,r1,fr1,r2,fr2,r3,fr3,r4,fr4⟩:=q
 have HN3:=Lib.hid hn3
 have HB3:=Lib.hid (Below.step HB1.out hb3)
 have H03:=Lib.hid hb3
 obtain ⟨N,hN⟩:∃ N,N=rN.T.length:=⟨_,rfl⟩
 obtain ⟨cr2,hcr2⟩:∃ c,c=rN.cr:=⟨_,rfl⟩
 rw [← hN] at HN3 ⊢
 rw [← hcr2]
 have HN:=Lib.hid hN
 have HCR:=Lib.hid hcr2
 clear hn3 hb3 hN hcr2
 go_upto_region 27 with fail
 obtain ⟨W4,hW4⟩:∃ W,W=(w3.alloc (.cells #[.slice a2g n d1,.int .u64 cr2,.slice a2t N d2,.slice a2a n d3,.slice a2f n d4] 74)):=⟨_,rfl⟩
 rw [← hW4]
 have hb4:Below w3.heap.size w3 W4:=by rw [hW4];exact below_a _ _
 have y0:W4.cell? ⟨w3.heap.size,0,none⟩=some (.slice a2g n d1):=by rw [hW4];exact cell_nw _ _ _ 0 _ rfl
 have y1:W4.cell? ⟨w3.heap.size,1,none⟩=some (.int .u64 cr2):=by rw [hW4];exact cell_nw _ _ _ 1 _ rfl
 have y2:W4.cell? ⟨w3.heap.size,2,none⟩=some (.slice a2t N d2):=by rw [hW4];exact cell_nw _ _ _ 2 _ rfl
 have y3:W4.cell? ⟨w3.heap.size,3,none⟩=some (.slice a2a n d3):=by rw [hW4];exact cell_nw _ _ _ 3 _ rfl
 have y4:W4.cell? ⟨w3.heap.size,4,none⟩=some (.slice a2f n d4):=by rw [hW4];exact cell_nw _ _ _ 4 _ rfl
 have q:=uc5 ((pc5 c0 fc0 c1 fc1 c2 fc2 c3 fc3 c4 fc4).later hb4)
 clear c0 fc0 c1 fc1 c2 fc2 c3 fc3 c4 fc4
 obtain ⟨c0,fc0,c1,fc1,c2,fc2,c3,fc3,c4,fc4⟩:=q
 have q:=uc8 ((pc8 x0 fx0 x1 fx1 x2 fx2 x3 fx3 x4 fx4 x5 fx5 x6 fx6 x7 fx7).later hb4)
 clear x0 fx0 x1 fx1 x2 fx2 x3 fx3 x4 fx4 x5 fx5 x6 fx6 x7 fx7
 obtain ⟨x0,fx0,x1,fx1,x2,fx2,x3,fx3,x4,fx4,x5,fx5,x6,fx6,x7,fx7⟩:=q
 have q:=uc5 ((pc5 r0 fr0 r1 fr1 r2 fr2 r3 fr3 r4 fr4).later hb4)
 clear r0 fr0 r1 fr1 r2 fr2 r3 fr3 r4 fr4
 obtain ⟨r0,fr0,r1,fr1,r2,fr2,r3,fr3,r4,fr4⟩:=q
 have HB4:=Lib.hid (Below.step HB3.out hb4)
 have HX4:=Lib.hid hb4
 have L8:=Lib.hid (show W0.heap.size≤w3.heap.size from Nat.le_trans HS1.out H03.out.size)
 generalize hb8:w3.heap.size=b8 at y0 y1 y2 y3 y4 L8 ⊢
 have m8:b8∉F:=fun m=>by have:=HF.out _ m;have h1:=HSZ.out;have h2:=L8.out;have h4:=HBX.out;omega
 have HL4:=Lib.hid (show bx+1+1<W4.heap.size from lt_of_cell r0)
 have HH:=Lib.hid (show TreeIn W4 t F s from HI.out.below HB4.out)
 have HRR:=Lib.hid (show RHeld ((bx+1+1)::(G++F)) W4 ⟨a2g,a2t,a2a,a2f,d1,d2,d3,d4⟩ n N rN from (HN3.out ((bx+1+1)::(G++F)) (fun b hb=>by
  have h1:=HSZ.out;have h3:=HB0.out.size;have h4:=HBX.out;have h5:=HS1.out
  rcases List.mem_cons.1 hb with rfl | hb
  ·omega
  ·rcases List.mem_append.1 hb with hb | hb
   ·have:=HGL.out _ hb;omega
   ·have:=HF.out _ hb;omega) (HRH.out.step (Kept.of HB1.out) (fun b hb=>by
  have h1:=HBX.out
  rcases List.mem_cons.1 hb with rfl | hb
  ·exact Or.inr (by omega)
  ·exact Or.inl hb))).later HX4.out)
 clear hb4 hW4 hb8
 have HHD:=Lib.hid (show TreeIn W4.drew t F s from HH.out.below (Below.refl _ _).drew)
 have hm8:b8∉(bx+1+1)::F:=fun m=>by
  rcases List.mem_cons.1 m with m | m
  ·have h1:=HSZ.out;have h2:=L8.out;omega
  ·exact m8 m
 have hm1:bx+1∉(bx+1+1)::F:=fun m=>by
  rcases List.mem_cons.1 m with m | m
  ·omega
  ·exact nx m
 refine startA (S:=fun w'=>Kept ((bx+1+1)::F) W4 w'∧w'.cell? ⟨b8,0,none⟩=some (.slice a2g n d1)∧w'.cell? ⟨b8,1,none⟩=some (.int .u64 cr2)∧w'.cell? ⟨b8,2,none⟩=some (.slice a2t N d2)∧w'.cell? ⟨b8,3,none⟩=some (.slice a2a n d3)∧w'.cell? ⟨b8,4,none⟩=some (.slice a2f n d4)∧w'.cell? ⟨bx+1,2,none⟩=some (.int .i64 g)∧w'.cell? ⟨bx+1,3,none⟩=some (.int .i64 nn)) ⟨Kept.refl _ _,y0,y1,y2,y3,y4,x2,x3⟩ (fun h=>heldK_7 (kept_dr _ _) h) (fun hS0 hHeld=>?_)
 refine takeA 0 ?_
 refine takeA 1 ?_
 refine takeA 2 ?_
 refine takeA 3 ?_
 refine takeA 4 ?_
 refine takeA 5 ?_
 refine takeA 7 ?_
 refine readyA [6] (consA (fun K hK=>?_) .nil)
 go_simp
 refine (AP.out _ HHD.out ).mono ?_
 rintro e w9 ⟨rfl,F9,h9,s9⟩
 have hk9:Kept ((bx+1+1)::F) W4.drew w9:=s9.kept.mono (fun b hb=>by simp [hb])
 have q:=uc5 ((pc5 r0 fr0 r1 fr1 r2 fr2 r3 fr3 r4 fr4).kept ((kept_dr F W4).trans s9.kept) nr)
 clear r0 fr0 r1 fr1 r2 fr2 r3 fr3 r4 fr4
 obtain ⟨r0,fr0,r1,fr1,r2,fr2,r3,fr3,r4,fr4⟩:=q
 have HS9:=Lib.hid s9
 have HH9:=Lib.hid h9
 clear s9 h9
 go_wp2_with fail
 refine outA hK kpK_7 (fun hHeld6=>?_)
 clear hK K
 refine takeA 8 ?_
 refine readyA [9] (consA (fun K hK=>?_) .nil)
 go_simp
 have hk9b:=ks5 (S:=(bx+1+1)::F) (w:=w9) (b:=bx+1+1) (.slice a2g n d1) (.int .u64 cr2) (.slice a2t N d2) (.slice a2a n d3) (.slice a2f n d4) (by simp)
 have KF:=ks5 (S:=[bx+1+1]) (w:=w9) (b:=bx+1+1) (.slice a2g n d1) (.int .u64 cr2) (.slice a2t N d2) (.slice a2a n d3) (.slice a2f n d4) (by simp)
 have q:=cs5 (.slice a2g n d1) (.int .u64 cr2) (.slice a2t N d2) (.slice a2a n d3) (.slice a2f n d4) (pc5 r0 fr0 r1 fr1 r2 fr2 r3 fr3 r4 fr4)
 clear r0 fr0 r1 fr1 r2 fr2 r3 fr3 r4 fr4
 obtain ⟨r0,fr0,r1,fr1,r2,fr2,r3,fr3,r4,fr4⟩:=uc5 q
 clear q fr0 fr1 fr2 fr3 fr4
 obtain ⟨wq,hwq⟩:∃ wq,wq=(((((w9.setCell ⟨bx+1+1,0,none⟩ (.slice a2g n d1)).setCell ⟨bx+1+1,1,none⟩ (.int .u64 cr2)).setCell ⟨bx+1+1,2,none⟩ (.slice a2t N d2)).setCell ⟨bx+1+1,3,none⟩ (.slice a2a n d3)).setCell ⟨bx+1+1,4,none⟩ (.slice a2f n d4)):=⟨_,rfl⟩
 rw [← hwq] at hk9b KF r0 r1 r2 r3 r4 ⊢
 clear hwq
 refine outA hK kpK_7 (fun hHeld9=>?_)
 clear hK K
 refine takeA 10 ?_
 refine doneA ?_
 go_wp2_with fail
 refine bodyPost_ret (v:=.tuple #[.agg #[.slice a2g n d1,.int .u64 cr2,.slice a2t N d2,.slice a2a n d3,.slice a2f n d4],.bool true]) (by simp [results,Tryz.results30,go_sem, *]) rfl ?_
 have HR9:=HRR.out
 rw [HN.out] at HR9 ⊢
 rw [HCR.out]
 exact pact_done HB4.out HF.out (by have:=HBX.out;omega) HL4.out ((Step.of (Below.refl W4.heap.size W4).drew).trans HS9.out) HH9.out HR9 KF HB2.out
set_option maxRecDepth 100000 in
set_option maxHeartbeats 4000000 in
theorem act_lay {t n:Nat} {F:List Nat} {s:TSt} {r:RSt} {G:List Nat} {a:RAd} {kd id g nn xv xr xw:Int} {sv:Value} {L:Spots} {w:World} (H:ActH t n F s r G a kd id g nn xv xr xw sv L w) (hk:kd % 9=8):ActC t n F r G a kd id g nn xv xr xw sv w:=by
 obtain ⟨h,hb,hr,hG,hkd,hid,hg,hnn,hx,hv,hL⟩:=H
 unfold ActC
 obtain ⟨z0,z1,z2,z3,z4,z5,z6,z7⟩:=kdz false false false false false false false false hkd hk (by decide)
 clear hk
 have ho:=tree_ord h
 have hks:=tree_keys h
 have hro:=hb.tw.rok hb.ok hb.cr
 rw [hb.n] at hro
 have hm1:r.T.length<69000:=by have:=srt_len hb.tw.srt (fun t ht=>(hb.tw.toTwinC.task hb.ok ht).1);omega
 have hn9:=hb.n
 have hwn:=wf_i64 hnn
 obtain ⟨rN,hrN⟩:∃ x,x=layRS r n r.T.length L:=⟨_,rfl⟩
 obtain ⟨s2,hs2⟩:∃ x,x=playS s L:=⟨_,rfl⟩
 obtain ⟨cN,hcN⟩:∃ x,x=playC s L:=⟨_,rfl⟩
 have hC:=lay_code hb.tw hb.ok hks L
 rw [hn9] at hC
 have HB2:=Lib.hid (show OrdT s2→BothT n s2 rN from fun ho2=>by
  have:=lay_twin hb.tw hb.ok hks hb.fl L
  rw [← hs2,hn9,← hrN] at this
  exact hb.of (by rw [hs2];exact lay_ok hb.ok hks hL) this.2 this.1 (id:=id) (by rw [hs2];exact lay_fr _ _ _)
  )
 have AE:=Lib.hid (show ∀ W,RIn W a.ag a.at' a.aa a.af a.cg a.ct a.ca a.cf n r.T.length r→Below w.heap.size w W→Calls Tryz.prog 67 #[.agg #[.slice a.ag n a.cg,.int .u64 r.cr,.slice a.at' r.T.length a.ct,.slice a.aa n a.ca,.slice a.af n a.cf],sv] W (ResP W a r n r.T.length rN (tup2 cN)) from fun W q hw=>by
  have this:=tLay_at r n r.T.length hro sv L hL a W q (hv.recs.later hw)
  rw [hC,← hrN,← hcN] at this
  exact this)
 have AP:=Lib.hid (show ∀ W,TreeIn W t F s→Below w.heap.size w W→Calls Tryz.prog 39 #[.pointer (some ⟨t,0,none⟩),sv] W (TDid W t F (.int .i64 cN) s2) from fun W q hw=>by
  have this:=pLay_at sv L W q (hv.later hw) hL
  rw [← hs2,← hcN] at this
  exact this)
 have HI:=Lib.hid h
 have HRH:=Lib.hid hr
 have HGL:=Lib.hid hG
 have HF:=Lib.hid h.lt
 have HV:=Lib.hid hv
 clear hrN hs2 hcN  hb hr hG hro hm1 hn9 hwn ho hks hkd hid hg hnn hx hv hL h
 obtain ⟨m,hm⟩:∃ m,m=r.T.length:=⟨_,rfl⟩
 obtain ⟨cr0,hcr0⟩:∃ c,c=r.cr:=⟨_,rfl⟩
 rw [← hm] at AE HRH ⊢
 rw [← hcr0] at AE ⊢
 clear hm hcr0
 obtain ⟨ag,at',aa,af,cg,ct,ca,cf⟩:=a
 dsimp only at AE HRH ⊢
 obtain ⟨W0,hW0⟩:∃ W0,W0=(((w.alloc (.cells #[.slice ag n cg,.int .u64 cr0,.slice at' m ct,.slice aa n ca,.slice af n cf] 74)).alloc (.cells #[.int .u8 kd,.int .i64 id,.int .i64 g,.int .i64 nn,.int .u64 xv,.int .u32 xr,.int .u32 xw,sv] 78)).alloc (.cells #[.slice none 0 0,.int .u64 0,.slice none 0 0,.slice none 0 0,.slice none 0 0] 74)):=⟨_,rfl⟩
 have HB0:=Lib.hid (show Below w.heap.size w W0 by rw [hW0];exact (Below.allocS (Below.allocS (Below.allocS (Below.refl _ _) _) _) _))
 obtain ⟨c0,fc0,c1,fc1,c2,fc2,c3,fc3,c4,fc4⟩:=uc5 (show CellsF W0 (w.heap.size) [.slice ag n cg,.int .u64 cr0,.slice at' m ct,.slice aa n ca,.slice af n cf] by rw [hW0];exact ((CellsF.new (by simp)).later (below_a _ _)).later (below_a _ _))
 obtain ⟨x0,fx0,x1,fx1,x2,fx2,x3,fx3,x4,fx4,x5,fx5,x6,fx6,x7,fx7⟩:=uc8 (show CellsF W0 (w.heap.size+1) [.int .u8 kd,.int .i64 id,.int .i64 g,.int .i64 nn,.int .u64 xv,.int .u32 xr,.int .u32 xw,sv] by rw [hW0];exact (CellsF.new (by simp)).later (below_a _ _))
 obtain ⟨r0,fr0,r1,fr1,r2,fr2,r3,fr3,r4,fr4⟩:=uc5 (show CellsF W0 (w.heap.size+1+1) [.slice none 0 0,.int .u64 0,.slice none 0 0,.slice none 0 0,.slice none 0 0] by rw [hW0];exact CellsF.new (by simp))
 have HSZ:=Lib.hid (show W0.heap.size=w.heap.size+1+1+1 by rw [hW0];simp)
 have HW0:=Lib.hid hW0
 clear hW0
 have nc:w.heap.size∉F:=fun m=>by have:=HF.out _ m;omega
 have nx:w.heap.size+1∉F:=fun m=>by have:=HF.out _ m;omega
 have nr:w.heap.size+1+1∉F:=fun m=>by have:=HF.out _ m;omega
 go_enter Tryz.func30,Tryz.ntmps30
 go_upto_region 1 with fail
 rw [← HW0.out]
 generalize hbx:w.heap.size=bx at c0 c1 c2 c3 c4 x0 x1 x2 x3 x4 x5 x6 x7 r0 r1 r2 r3 r4 fc0 fc1 fc2 fc3 fc4 fx0 fx1 fx2 fx3 fx4 fx5 fx6 fx7 fr0 fr1 fr2 fr3 fr4 HSZ nc nx nr ⊢
 have HBX:=Lib.hid hbx
 clear hbx HW0
 go_upto_region 2 with fail
 obtain ⟨W1,hW1⟩:∃ W,W=W0.alloc (.cells #[.int .u64 xv,.int .u32 xr,.int .u32 xw] 120):=⟨_,rfl⟩
 rw [← hW1]
 have hb1:Below W0.heap.size W0 W1:=by rw [hW1];exact below_a _ _
 have o0:W1.cell? ⟨W0.heap.size,0,none⟩=some (.int .u64 xv):=by rw [hW1];exact cell_nw _ _ _ 0 _ rfl
 have o1:W1.cell? ⟨W0.heap.size,1,none⟩=some (.int .u32 xr):=by rw [hW1];exact cell_nw _ _ _ 1 _ rfl
 have o2:W1.cell? ⟨W0.heap.size,2,none⟩=some (.int .u32 xw):=by rw [hW1];exact cell_nw _ _ _ 2 _ rfl
 have q:=uc5 ((pc5 c0 fc0 c1 fc1 c2 fc2 c3 fc3 c4 fc4).later hb1)
 clear c0 fc0 c1 fc1 c2 fc2 c3 fc3 c4 fc4
 obtain ⟨c0,fc0,c1,fc1,c2,fc2,c3,fc3,c4,fc4⟩:=q
 have q:=uc8 ((pc8 x0 fx0 x1 fx1 x2 fx2 x3 fx3 x4 fx4 x5 fx5 x6 fx6 x7 fx7).later hb1)
 clear x0 fx0 x1 fx1 x2 fx2 x3 fx3 x4 fx4 x5 fx5 x6 fx6 x7 fx7
 obtain ⟨x0,fx0,x1,fx1,x2,fx2,x3,fx3,x4,fx4,x5,fx5,x6,fx6,x7,fx7⟩:=q
 have q:=uc5 ((pc5 r0 fr0 r1 fr1 r2 fr2 r3 fr3 r4 fr4).later hb1)
 clear r0 fr0 r1 fr1 r2 fr2 r3 fr3 r4 fr4
 obtain ⟨r0,fr0,r1,fr1,r2,fr2,r3,fr3,r4,fr4⟩:=q
 have HB1:=Lib.hid (Below.step HB0.out hb1)
 have HS1:=Lib.hid (show W0.heap.size≤W1.heap.size from hb1.size)
 obtain ⟨bo,hbo⟩:∃ b,b=W0.heap.size:=⟨_,rfl⟩
 rw [← hbo] at o0 o1 o2 ⊢
 clear hb1 hW1 hbo
 go_wp2_with fail
 refine (AE.out W1 (HRH.out.rin.later HB1.out) HB1.out).mono ?_
 rintro e w3 ⟨⟨a2g,a2t,a2a,a2f,d1,d2,d3,d4⟩,rfl,hn3,hb3⟩
 dsimp only [tup2,RAd.val]
 have q:=uc5 ((pc5 c0 fc0 c1 fc1 c2 fc2 c3 fc3 c4 fc4).later hb3)
 clear c0 fc0 c1 fc1 c2 fc2 c3 fc3 c4 fc4
 obtain ⟨c0,fc0,c1,fc1,c2,fc2,c3,fc3,c4,fc4⟩:=q
 have q:=uc8 ((pc8 x0 fx0 x1 fx1 x2 fx2 x3 fx3 x4 fx4 x5 fx5 x6 fx6 x7 fx7).later hb3)
 clear x0 fx0 x1 fx1 x2 fx2 x3 fx3 x4 fx4 x5 fx5 x6 fx6 x7 fx7
 obtain ⟨x0,fx0,x1,fx1,x2,fx2,x3,fx3,x4,fx4,x5,fx5,x6,fx6,x7,fx7⟩:=q
 have q:=uc5 ((pc5 r0 fr0 r1 fr1 r2 fr2 r3 fr3 r4 fr4).later hb3)
 clear r0 fr0 r1 fr1 r2 fr2 r3 fr3 r4 fr4
 obtain ⟨r0,fr0,r1,fr1,r2,fr2,r3,fr3,r4,fr4⟩:=q
 have HN3:=Lib.hid hn3
 have HB3:=Lib.hid (Below.step HB1.out hb3)
 have H03:=Lib.hid hb3
 obtain ⟨N,hN⟩:∃ N,N=rN.T.length:=⟨_,rfl⟩
 obtain ⟨cr2,hcr2⟩:∃ c,c=rN.cr:=⟨_,rfl⟩
 rw [← hN] at HN3 ⊢
 rw [← hcr2]
 have HN:=Lib.hid hN
 have HCR:=Lib.hid hcr2
 clear hn3 hb3 hN hcr2
 go_upto_region 29 with fail
 obtain ⟨W4,hW4⟩:∃ W,W=(w3.alloc (.cells #[.slice a2g n d1,.int .u64 cr2,.slice a2t N d2,.slice a2a n d3,.slice a2f n d4] 74)):=⟨_,rfl⟩
 rw [← hW4]
 have hb4:Below w3.heap.size w3 W4:=by rw [hW4];exact below_a _ _
 have y0:W4.cell? ⟨w3.heap.size,0,none⟩=some (.slice a2g n d1):=by rw [hW4];exact cell_nw _ _ _ 0 _ rfl
 have y1:W4.cell? ⟨w3.heap.size,1,none⟩=some (.int .u64 cr2):=by rw [hW4];exact cell_nw _ _ _ 1 _ rfl
 have y2:W4.cell? ⟨w3.heap.size,2,none⟩=some (.slice a2t N d2):=by rw [hW4];exact cell_nw _ _ _ 2 _ rfl
 have y3:W4.cell? ⟨w3.heap.size,3,none⟩=some (.slice a2a n d3):=by rw [hW4];exact cell_nw _ _ _ 3 _ rfl
 have y4:W4.cell? ⟨w3.heap.size,4,none⟩=some (.slice a2f n d4):=by rw [hW4];exact cell_nw _ _ _ 4 _ rfl
 have q:=uc5 ((pc5 c0 fc0 c1 fc1 c2 fc2 c3 fc3 c4 fc4).later hb4)
 clear c0 fc0 c1 fc1 c2 fc2 c3 fc3 c4 fc4
 obtain ⟨c0,fc0,c1,fc1,c2,fc2,c3,fc3,c4,fc4⟩:=q
 have q:=uc8 ((pc8 x0 fx0 x1 fx1 x2 fx2 x3 fx3 x4 fx4 x5 fx5 x6 fx6 x7 fx7).later hb4)
 clear x0 fx0 x1 fx1 x2 fx2 x3 fx3 x4 fx4 x5 fx5 x6 fx6 x7 fx7
 obtain ⟨x0,fx0,x1,fx1,x2,fx2,x3,fx3,x4,fx4,x5,fx5,x6,fx6,x7,fx7⟩:=q
 have q:=uc5 ((pc5 r0 fr0 r1 fr1 r2 fr2 r3 fr3 r4 fr4).later hb4)
 clear r0 fr0 r1 fr1 r2 fr2 r3 fr3 r4 fr4
 obtain ⟨r0,fr0,r1,fr1,r2,fr2,r3,fr3,r4,fr4⟩:=q
 have HB4:=Lib.hid (Below.step HB3.out hb4)
 have HX4:=Lib.hid hb4
 have L8:=Lib.hid (show W0.heap.size≤w3.heap.size from Nat.le_trans HS1.out H03.out.size)
 generalize hb8:w3.heap.size=b8 at y0 y1 y2 y3 y4 L8 ⊢
 have m8:b8∉F:=fun m=>by have:=HF.out _ m;have h1:=HSZ.out;have h2:=L8.out;have h4:=HBX.out;omega
 have HL4:=Lib.hid (show bx+1+1<W4.heap.size from lt_of_cell r0)
 have HH:=Lib.hid (show TreeIn W4 t F s from HI.out.below HB4.out)
 have HRR:=Lib.hid (show RHeld ((bx+1+1)::(G++F)) W4 ⟨a2g,a2t,a2a,a2f,d1,d2,d3,d4⟩ n N rN from (HN3.out ((bx+1+1)::(G++F)) (fun b hb=>by
  have h1:=HSZ.out;have h3:=HB0.out.size;have h4:=HBX.out;have h5:=HS1.out
  rcases List.mem_cons.1 hb with rfl | hb
  ·omega
  ·rcases List.mem_append.1 hb with hb | hb
   ·have:=HGL.out _ hb;omega
   ·have:=HF.out _ hb;omega) (HRH.out.step (Kept.of HB1.out) (fun b hb=>by
  have h1:=HBX.out
  rcases List.mem_cons.1 hb with rfl | hb
  ·exact Or.inr (by omega)
  ·exact Or.inl hb))).later HX4.out)
 clear hb4 hW4 hb8
 have HHD:=Lib.hid (show TreeIn W4.drew t F s from HH.out.below (Below.refl _ _).drew)
 have hm8:b8∉(bx+1+1)::F:=fun m=>by
  rcases List.mem_cons.1 m with m | m
  ·have h1:=HSZ.out;have h2:=L8.out;omega
  ·exact m8 m
 have hm1:bx+1∉(bx+1+1)::F:=fun m=>by
  rcases List.mem_cons.1 m with m | m
  ·omega
  ·exact nx m
 refine startA (S:=fun w'=>Kept ((bx+1+1)::F) W4 w'∧w'.cell? ⟨b8,0,none⟩=some (.slice a2g n d1)∧w'.cell? ⟨b8,1,none⟩=some (.int .u64 cr2)∧w'.cell? ⟨b8,2,none⟩=some (.slice a2t N d2)∧w'.cell? ⟨b8,3,none⟩=some (.slice a2a n d3)∧w'.cell? ⟨b8,4,none⟩=some (.slice a2f n d4)∧w'.cell? ⟨bx+1,7,none⟩=some (sv)) ⟨Kept.refl _ _,y0,y1,y2,y3,y4,x7⟩ (fun h=>heldK_6 (kept_dr _ _) h) (fun hS0 hHeld=>?_)
 refine takeA 0 ?_
 refine takeA 1 ?_
 refine takeA 2 ?_
 refine takeA 3 ?_
 refine takeA 5 ?_
 refine readyA [4] (consA (fun K hK=>?_) .nil)
 go_simp
 refine (AP.out _ HHD.out (HB4.out.drew)).mono ?_
 rintro e w9 ⟨rfl,F9,h9,s9⟩
 have hk9:Kept ((bx+1+1)::F) W4.drew w9:=s9.kept.mono (fun b hb=>by simp [hb])
 have q:=uc5 ((pc5 r0 fr0 r1 fr1 r2 fr2 r3 fr3 r4 fr4).kept ((kept_dr F W4).trans s9.kept) nr)
 clear r0 fr0 r1 fr1 r2 fr2 r3 fr3 r4 fr4
 obtain ⟨r0,fr0,r1,fr1,r2,fr2,r3,fr3,r4,fr4⟩:=q
 have HS9:=Lib.hid s9
 have HH9:=Lib.hid h9
 clear s9 h9
 go_wp2_with fail
 refine outA hK kpK_6 (fun hHeld4=>?_)
 clear hK K
 refine takeA 6 ?_
 refine readyA [7] (consA (fun K hK=>?_) .nil)
 go_simp
 have hk9b:=ks5 (S:=(bx+1+1)::F) (w:=w9) (b:=bx+1+1) (.slice a2g n d1) (.int .u64 cr2) (.slice a2t N d2) (.slice a2a n d3) (.slice a2f n d4) (by simp)
 have KF:=ks5 (S:=[bx+1+1]) (w:=w9) (b:=bx+1+1) (.slice a2g n d1) (.int .u64 cr2) (.slice a2t N d2) (.slice a2a n d3) (.slice a2f n d4) (by simp)
 have q:=cs5 (.slice a2g n d1) (.int .u64 cr2) (.slice a2t N d2) (.slice a2a n d3) (.slice a2f n d4) (pc5 r0 fr0 r1 fr1 r2 fr2 r3 fr3 r4 fr4)
 clear r0 fr0 r1 fr1 r2 fr2 r3 fr3 r4 fr4
 obtain ⟨r0,fr0,r1,fr1,r2,fr2,r3,fr3,r4,fr4⟩:=uc5 q
 clear q fr0 fr1 fr2 fr3 fr4
 obtain ⟨wq,hwq⟩:∃ wq,wq=(((((w9.setCell ⟨bx+1+1,0,none⟩ (.slice a2g n d1)).setCell ⟨bx+1+1,1,none⟩ (.int .u64 cr2)).setCell ⟨bx+1+1,2,none⟩ (.slice a2t N d2)).setCell ⟨bx+1+1,3,none⟩ (.slice a2a n d3)).setCell ⟨bx+1+1,4,none⟩ (.slice a2f n d4)):=⟨_,rfl⟩
 rw [← hwq] at hk9b KF r0 r1 r2 r3 r4 ⊢
 clear hwq
 refine outA hK kpK_6 (fun hHeld7=>?_)
 clear hK K
 refine takeA 8 ?_
 refine doneA ?_
 go_wp2_with fail
 refine bodyPost_ret (v:=.tuple #[.agg #[.slice a2g n d1,.int .u64 cr2,.slice a2t N d2,.slice a2a n d3,.slice a2f n d4],.bool true]) (by simp [results,Tryz.results30,go_sem, *]) rfl ?_
 have HR9:=HRR.out
 rw [HN.out] at HR9 ⊢
 rw [HCR.out]
 exact pact_done HB4.out HF.out (by have:=HBX.out;omega) HL4.out ((Step.of (Below.refl W4.heap.size W4).drew).trans HS9.out) HH9.out HR9 KF HB2.out
theorem mod_nine {k:Int} (h:0≤k):k % 9=0∨k % 9=1∨k % 9=2∨k % 9=3∨k % 9=4∨k % 9=5∨k % 9=6∨k % 9=7∨k % 9=8:=by omega
set_option maxRecDepth 100000 in
set_option maxHeartbeats 4000000 in
theorem pact_any {t n:Nat} {F:List Nat} {s:TSt} {r:RSt} (G:List Nat) (a:RAd) (kd id g nn xv xr xw:Int) (sv:Value) (L:Spots) (w:World) (h:TreeIn w t F s) (hb:BothT n s r) (hr:RHeld (G++F) w a n r.T.length r) (hG:∀ b∈G,b<w.heap.size) (hk:True) (hkd:0≤kd) (hid:(Lit.int .i64 id).wf=true) (hg:(Lit.int .i64 g).wf=true) (hnn:(Lit.int .i64 nn).wf=true) (hx:Ch.Fits xv xr xw) (hv:HeldR encS F w sv L) (hL:FitS L) :
  Calls Tryz.prog 30 #[.pointer (some ⟨t,0,none⟩),.agg #[.slice a.ag n a.cg,.int .u64 r.cr,.slice a.at' r.T.length a.ct,.slice a.aa n a.ca,.slice a.af n a.cf],.agg #[.int .u8 kd,.int .i64 id,.int .i64 g,.int .i64 nn,.int .u64 xv,.int .u32 xr,.int .u32 xw,sv]] w (PActP w t F G n):=by
 have H:ActH t n F s r G a kd id g nn xv xr xw sv L w:=⟨h,hb,hr,hG,hkd,hid,hg,hnn,hx,hv,hL⟩
 rcases mod_nine hkd with e | e | e | e | e | e | e | e | e
 ·exact act_spawn H e
 ·exact act_wake H e
 ·exact act_come H e
 ·exact act_leave H e
 ·exact act_charge4 H e
 ·exact act_charge5 H e
 ·exact act_weigh H e
 ·exact act_regroup H e
 ·exact act_lay H e
end Go.Proofs.YtfgmglghlapbcaaGreat
