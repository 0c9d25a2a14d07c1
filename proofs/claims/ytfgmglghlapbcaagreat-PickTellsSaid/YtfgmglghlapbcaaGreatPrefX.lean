/-
  Layer 25 (pick), law.go: act: Spawn, Wake, Leave.
-/
import Derived.Test.YtfgmglghlapbcaaGreatRfV
import Derived.Test.YtfgmglghlapbcaaGreatPrefK
import Derived.Test.YtfgmglghlapbcaaGreatPrefN
namespace Go.Proofs.YtfgmglghlapbcaaGreat
open Go.RowKit Go.Maps Go.IntWalk Go.Lib Go.Sort Go.Shelf
set_option linter.unusedVariables false
set_option linter.unusedSimpArgs false
structure BothT (n:Nat) (s:TSt) (r:RSt):Prop where
 ok:TOk s
 fl:FlI s
 tw:Twin s r
 n:s.n=n
 cr:s.cr≤18446744073709551615
def PActP (w:World) (t:Nat) (F G:List Nat) (n:Nat) (e:Ending) (w':World):Prop:=∃ (a2:RAd) (s':TSt) (r':RSt) (F':List Nat),e=.returned (.tuple #[.agg #[.slice a2.ag n a2.cg,.int .u64 r'.cr,.slice a2.at' r'.T.length a2.ct,.slice a2.aa n a2.ca,.slice a2.af n a2.cf],.bool true])∧TreeIn w' t F' s'∧RHeld (G++F') w' a2 n r'.T.length r'∧Step F w F' w'∧BothT n s' r'
theorem pact_done {w W4 w9 wf:World} {t bq n:Nat} {F F9 G:List Nat} {s':TSt} {r':RSt} {a2:RAd} (hW:Below w.heap.size w W4) (hF:∀ b∈F,b<w.heap.size) (hx:w.heap.size≤bq) (hbq:bq<W4.heap.size) (hS:Step F W4 F9 w9) (hH:TreeIn w9 t F9 s') (hR:RHeld (bq::(G++F)) W4 a2 n r'.T.length r') (KF:Kept [bq] w9 wf) (hB:OrdT s'→BothT n s' r') :
  PActP w t F G n (.returned (.tuple #[.agg #[.slice a2.ag n a2.cg,.int .u64 r'.cr,.slice a2.at' r'.T.length a2.ct,.slice a2.aa n a2.ca,.slice a2.af n a2.cf],.bool true])) wf:=by
 have hn:bq∉F:=fun m=>by have:=hF _ m;omega
 have hn9:bq∉F9:=hS.off hn hbq
 have s1:Step F w F9 w9:=(Step.of hW).trans hS
 refine ⟨a2,s',r',F9,rfl,hH.kept KF (fun b hb m=>?_),?_,⟨?_,s1.new⟩,hB (tree_ord hH)⟩
 ·simp at m;subst m;exact hn9 hb
 ·have h1:RHeld (bq::(G++F9)) w9 a2 n r'.T.length r':=hR.step (hS.kept.mono (fun b hb=>by simp [hb])) (fun b hb=>by
   rcases List.mem_cons.1 hb with rfl | hb
   ·exact Or.inl (by simp)
   ·rcases List.mem_append.1 hb with hb | hb
    ·exact Or.inl (by simp [hb])
    ·rcases hS.new b hb with q | q
     ·exact Or.inl (by simp [q])
     ·exact Or.inr q)
  exact h1.step (KF.mono (fun b hb=>by simp at hb;simp [hb])) (fun b hb=>Or.inl (by simp [hb]))
 ·refine ⟨KF.os.trans s1.kept.os,KF.tape.trans s1.kept.tape,KF.output.trans s1.kept.output,Nat.le_trans s1.kept.size KF.size,fun k hk hkn=>?_⟩
  rw [KF.block k (Nat.lt_of_lt_of_le hk s1.kept.size) (by simp;omega)]
  exact s1.kept.block k hk hkn
theorem eqE_self (b c d:Int):eqE b c d b c d=true:=by unfold eqE;simp
theorem BothT.of {n:Nat} {s s2:TSt} {r r2:RSt} {id:Int} (h:BothT n s r) (hok:TOk s2) (hf:FlI s2) (ht:Twin s2 r2) (hr:Fr s s2 id):BothT n s2 r2:=⟨hok,hf,ht,by rw [← h.n];exact hr.n,by rw [hr.cr];exact h.cr⟩
theorem fls_plv (s:TSt) (id:Int):FlS s (plvS s id):=by
 unfold plvS
 split
 ·exact (fls_lv s _ _).trans (FlS.trans (fls_same (s':=lvT (lvQ s (findG s id).toNat id) id) rfl rfl) (fls_lvUp (parG s.Gs) _ (lvT (lvQ s (findG s id).toNat id) id,false)))
 ·exact FlS.refl _
theorem fls_pwei (s:TSt) (id k:Int):FlS s (pweiS s id k):=by
 unfold pweiS
 split
 ·split
  ·exact fls_wg _ _ _ _
  ·exact FlS.refl _
 ·exact FlS.refl _
theorem fls_preg (s:TSt) (g k:Int):FlS s (pregS s g k):=by
 unfold pregS
 split
 ·exact FlS.trans (b:={ s with Gs:=setW s.Gs g.toNat k,A:=upd s.A g.toNat (wghX k (s.A g.toNat)) }) (fls_same rfl rfl) (fls_wg _ _ _ _)
 ·exact FlS.refl _
theorem fls_pchg (s:TSt) (id tk:Int):FlS s (pchgS s id tk):=by
 unfold pchgS
 split
 ·exact (fls_chg _ s _ _).trans (fls_chgUp _ _ _ _)
 ·exact FlS.refl _
structure ActH (t n:Nat) (F:List Nat) (s:TSt) (r:RSt) (G:List Nat) (a:RAd) (kd id g nn xv xr xw:Int) (sv:Value) (L:Spots) (w:World):Prop where
 h:TreeIn w t F s
 hb:BothT n s r
 hr:RHeld (G++F) w a n r.T.length r
 hG:∀ b∈G,b<w.heap.size
 hkd:0≤kd
 hid:(Lit.int .i64 id).wf=true
 hg:(Lit.int .i64 g).wf=true
 hnn:(Lit.int .i64 nn).wf=true
 hx:Ch.Fits xv xr xw
 hv:HeldR encS F w sv L
 hL:FitS L
def ActC (t n:Nat) (F:List Nat) (r:RSt) (G:List Nat) (a:RAd) (kd id g nn xv xr xw:Int) (sv:Value) (w:World):Prop:=
 Calls Tryz.prog 30 #[.pointer (some ⟨t,0,none⟩),.agg #[.slice a.ag n a.cg,.int .u64 r.cr,.slice a.at' r.T.length a.ct,.slice a.aa n a.ca,.slice a.af n a.cf],.agg #[.int .u8 kd,.int .i64 id,.int .i64 g,.int .i64 nn,.int .u64 xv,.int .u32 xr,.int .u32 xw,sv]] w (PActP w t F G n)
theorem kdz {kd k:Int} (b0 b1 b2 b3 b4 b5 b6 b7:Bool) (hkd:0≤kd) (hk:kd % 9=k) (h:(k == 0)=b0∧(k == 1)=b1∧(k == 2)=b2∧(k == 3)=b3∧(k == 4)=b4∧(k == 5)=b5∧(k == 6)=b6∧(k == 7)=b7) :
  (kd.tmod 9 == 0)=b0∧(kd.tmod 9 == 1)=b1∧(kd.tmod 9 == 2)=b2∧(kd.tmod 9 == 3)=b3∧(kd.tmod 9 == 4)=b4∧(kd.tmod 9 == 5)=b5∧(kd.tmod 9 == 6)=b6∧(kd.tmod 9 == 7)=b7:=by
 rw [Int.tmod_eq_emod_of_nonneg hkd,hk]
 exact h
set_option maxRecDepth 100000 in
set_option maxHeartbeats 4000000 in
theorem act_spawn {t n:Nat} {F:List Nat} {s:TSt} {r:RSt} {G:List Nat} {a:RAd} {kd id g nn xv xr xw:Int} {sv:Value} {L:Spots} {w:World} (H:ActH t n F s r G a kd id g nn xv xr xw sv L w) (hk:kd % 9=0):ActC t n F r G a kd id g nn xv xr xw sv w:=by
 obtain ⟨h,hb,hr,hG,hkd,hid,hg,hnn,hx,hv,hL⟩:=H
 unfold ActC
 obtain ⟨z0,z1,z2,z3,z4,z5,z6,z7⟩:=kdz true false false false false false false false hkd hk (by decide)
 clear hk
 have ho:=tree_ord h
 have hks:=tree_keys h
 have hro:=hb.tw.rok hb.ok hb.cr
 rw [hb.n] at hro
 have hm1:r.T.length<69000:=by have:=srt_len hb.tw.srt (fun t ht=>(hb.tw.toTwinC.task hb.ok ht).1);omega
 have hn9:=hb.n
 have hwn:=wf_i64 hnn
 obtain ⟨rN,hrN⟩:∃ x,x=spawnRS r n id g nn:=⟨_,rfl⟩
 obtain ⟨s2,hs2⟩:∃ x,x=spawnS s id g nn:=⟨_,rfl⟩
 obtain ⟨xe,hxe⟩:∃ x,x=spawnX s id g nn:=⟨_,rfl⟩
 obtain ⟨cN,hcN⟩:∃ x,x=spawnC s id g nn:=⟨_,rfl⟩
 have hX:=spawnX_twin hb.tw hb.ok id g nn
 have hC:=wrong_spawn hb.tw hb.ok id g nn
 rw [hn9] at hX hC
 have HB2:=Lib.hid (show OrdT s2→BothT n s2 rN from fun ho2=>by
  have:=spawn_twin hb.tw hb.ok ho hb.fl id g nn (by rw [← hs2];exact ho2)
  rw [← hs2,hn9,← hrN] at this
  exact hb.of (by rw [hs2];exact spawn_ok hb.ok) (by rw [hs2];exact (fls_enS _ _ _ _ _).le hb.fl) this (id:=id) (by rw [hs2];exact enS_fr _ _ _ _ _)
  )
 have AE:=Lib.hid (show ∀ W,RIn W a.ag a.at' a.aa a.af a.cg a.ct a.ca a.cf n r.T.length r→Calls Tryz.prog 60 #[.agg #[.slice a.ag n a.cg,.int .u64 r.cr,.slice a.at' r.T.length a.ct,.slice a.aa n a.ca,.slice a.af n a.cf],.int .i64 id,.int .i64 g,.int .i64 nn] W (ResP W a r n r.T.length rN (tup3 xe cN)) from fun W q=>by
  have this:=tSpawn_at r n r.T.length hro hm1 id g nn hwn a W q
  rw [hX,hC,← hrN,← hxe,← hcN] at this
  exact this)
 have AP:=Lib.hid (show ∀ W,TreeIn W t F s→Calls Tryz.prog 34 #[.pointer (some ⟨t,0,none⟩),.int .i64 id,.int .i64 g,.int .i64 nn] W (TDid W t F (.tuple #[.agg #[.int .u64 xe.1,.int .u32 xe.2.1,.int .u32 xe.2.2],.int .i64 cN]) s2) from fun W q=>by
  have this:=pSpawn_at id g nn W q hid hg hnn
  rw [← hs2,← hxe,← hcN] at this
  exact this)
 have HI:=Lib.hid h
 have HRH:=Lib.hid hr
 have HGL:=Lib.hid hG
 have HF:=Lib.hid h.lt
 have HV:=Lib.hid hv
 clear hrN hs2 hcN hxe hb hr hG hro hm1 hn9 hwn ho hks hkd hid hg hnn hx hv hL h
 obtain ⟨m,hm⟩:∃ m,m=r.T.length:=⟨_,rfl⟩
 obtain ⟨cr0,hcr0⟩:∃ c,c=r.cr:=⟨_,rfl⟩
 rw [← hm] at AE HRH ⊢
 rw [← hcr0] at AE ⊢
 clear hm hcr0
 obtain ⟨ag,at',aa,af,cg,ct,ca,cf⟩:=a
 dsimp only at AE HRH ⊢
 obtain ⟨W0,hW0⟩:∃ W0,W0=(((w.alloc (.cells #[.slice ag n cg,.int .u64 cr0,.slice at' m ct,.slice aa n ca,.slice af n cf] 74)).alloc (.cells #[.int .u8 kd,.int .i64 id,.int .i64 g,.int .i64 nn,.int .u64 xv,.int .u32 xr,.int .u32 xw,sv] 78)).alloc (.cells #[.slice none 0 0,.int .u64 0,.slice none 0 0,.slice none 0 0,.slice none 0 0] 74)):=⟨_,rfl⟩
 have HB0:=Lib.hid (show Below w.heap.size w W0 by rw [hW0];exact (Below.allocS (Below.allocS (Below.allocS (Below.refl _ _) _) _) _))
 obtain ⟨c0,fc0,c1,fc1,c2,fc2,c3,fc3,c4,fc4⟩:=uc5 (show CellsF W0 (w.heap.size) [.slice ag n cg,.int .u64 cr0,.slice at' m ct,.slice aa n ca,.slice af n cf] by rw [hW0];exact ((CellsF.new (by simp)).later (below_a _ _)).later (below_a _ _))
 obtain ⟨x0,fx0,x1,fx1,x2,fx2,x3,fx3,x4,fx4,x5,fx5,x6,fx6,x7,fx7⟩:=uc8 (show CellsF W0 (w.heap.size+1) [.int .u8 kd,.int .i64 id,.int .i64 g,.int .i64 nn,.int .u64 xv,.int .u32 xr,.int .u32 xw,sv] by rw [hW0];exact (CellsF.new (by simp)).later (below_a _ _))
 obtain ⟨r0,fr0,r1,fr1,r2,fr2,r3,fr3,r4,fr4⟩:=uc5 (show CellsF W0 (w.heap.size+1+1) [.slice none 0 0,.int .u64 0,.slice none 0 0,.slice none 0 0,.slice none 0 0] by rw [hW0];exact CellsF.new (by simp))
 have HSZ:=Lib.hid (show W0.heap.size=w.heap.size+1+1+1 by rw [hW0];simp)
 have HW0:=Lib.hid hW0
 clear hW0
 have nc:w.heap.size∉F:=fun m=>by have:=HF.out _ m;omega
 have nx:w.heap.size+1∉F:=fun m=>by have:=HF.out _ m;omega
 have nr:w.heap.size+1+1∉F:=fun m=>by have:=HF.out _ m;omega
 go_enter Tryz.func30,Tryz.ntmps30
 go_upto_region 1 with fail
 rw [← HW0.out]
 generalize hbx:w.heap.size=bx at c0 c1 c2 c3 c4 x0 x1 x2 x3 x4 x5 x6 x7 r0 r1 r2 r3 r4 fc0 fc1 fc2 fc3 fc4 fx0 fx1 fx2 fx3 fx4 fx5 fx6 fx7 fr0 fr1 fr2 fr3 fr4 HSZ nc nx nr ⊢
 have HBX:=Lib.hid hbx
 clear hbx HW0
 go_upto_region 2 with fail
 obtain ⟨W1,hW1⟩:∃ W,W=W0.alloc (.cells #[.int .u64 xv,.int .u32 xr,.int .u32 xw] 120):=⟨_,rfl⟩
 rw [← hW1]
 have hb1:Below W0.heap.size W0 W1:=by rw [hW1];exact below_a _ _
 have o0:W1.cell? ⟨W0.heap.size,0,none⟩=some (.int .u64 xv):=by rw [hW1];exact cell_nw _ _ _ 0 _ rfl
 have o1:W1.cell? ⟨W0.heap.size,1,none⟩=some (.int .u32 xr):=by rw [hW1];exact cell_nw _ _ _ 1 _ rfl
 have o2:W1.cell? ⟨W0.heap.size,2,none⟩=some (.int .u32 xw):=by rw [hW1];exact cell_nw _ _ _ 2 _ rfl
 have q:=uc5 ((pc5 c0 fc0 c1 fc1 c2 fc2 c3 fc3 c4 fc4).later hb1)
 clear c0 fc0 c1 fc1 c2 fc2 c3 fc3 c4 fc4
 obtain ⟨c0,fc0,c1,fc1,c2,fc2,c3,fc3,c4,fc4⟩:=q
 have q:=uc8 ((pc8 x0 fx0 x1 fx1 x2 fx2 x3 fx3 x4 fx4 x5 fx5 x6 fx6 x7 fx7).later hb1)
 clear x0 fx0 x1 fx1 x2 fx2 x3 fx3 x4 fx4 x5 fx5 x6 fx6 x7 fx7
 obtain ⟨x0,fx0,x1,fx1,x2,fx2,x3,fx3,x4,fx4,x5,fx5,x6,fx6,x7,fx7⟩:=q
 have q:=uc5 ((pc5 r0 fr0 r1 fr1 r2 fr2 r3 fr3 r4 fr4).later hb1)
 clear r0 fr0 r1 fr1 r2 fr2 r3 fr3 r4 fr4
 obtain ⟨r0,fr0,r1,fr1,r2,fr2,r3,fr3,r4,fr4⟩:=q
 have HB1:=Lib.hid (Below.step HB0.out hb1)
 have HS1:=Lib.hid (show W0.heap.size≤W1.heap.size from hb1.size)
 obtain ⟨bo,hbo⟩:∃ b,b=W0.heap.size:=⟨_,rfl⟩
 rw [← hbo] at o0 o1 o2 ⊢
 clear hb1 hW1 hbo
 go_wp2_with fail
 refine (AE.out W1 (HRH.out.rin.later HB1.out) ).mono ?_
 rintro e w3 ⟨⟨a2g,a2t,a2a,a2f,d1,d2,d3,d4⟩,rfl,hn3,hb3⟩
 dsimp only [tup3,RAd.val]
 have q:=uc5 ((pc5 c0 fc0 c1 fc1 c2 fc2 c3 fc3 c4 fc4).later hb3)
 clear c0 fc0 c1 fc1 c2 fc2 c3 fc3 c4 fc4
 obtain ⟨c0,fc0,c1,fc1,c2,fc2,c3,fc3,c4,fc4⟩:=q
 have q:=uc8 ((pc8 x0 fx0 x1 fx1 x2 fx2 x3 fx3 x4 fx4 x5 fx5 x6 fx6 x7 fx7).later hb3)
 clear x0 fx0 x1 fx1 x2 fx2 x3 fx3 x4 fx4 x5 fx5 x6 fx6 x7 fx7
 obtain ⟨x0,fx0,x1,fx1,x2,fx2,x3,fx3,x4,fx4,x5,fx5,x6,fx6,x7,fx7⟩:=q
 have q:=uc5 ((pc5 r0 fr0 r1 fr1 r2 fr2 r3 fr3 r4 fr4).later hb3)
 clear r0 fr0 r1 fr1 r2 fr2 r3 fr3 r4 fr4
 obtain ⟨r0,fr0,r1,fr1,r2,fr2,r3,fr3,r4,fr4⟩:=q
 have HN3:=Lib.hid hn3
 have HB3:=Lib.hid (Below.step HB1.out hb3)
 have H03:=Lib.hid hb3
 obtain ⟨N,hN⟩:∃ N,N=rN.T.length:=⟨_,rfl⟩
 obtain ⟨cr2,hcr2⟩:∃ c,c=rN.cr:=⟨_,rfl⟩
 rw [← hN] at HN3 ⊢
 rw [← hcr2]
 have HN:=Lib.hid hN
 have HCR:=Lib.hid hcr2
 clear hn3 hb3 hN hcr2
 go_upto_region 5 with fail
 obtain ⟨W4,hW4⟩:∃ W,W=((w3.alloc (.cells #[.slice a2g n d1,.int .u64 cr2,.slice a2t N d2,.slice a2a n d3,.slice a2f n d4] 74)).alloc (.cells #[.int .u64 xe.1,.int .u32 xe.2.1,.int .u32 xe.2.2] 120)):=⟨_,rfl⟩
 rw [← hW4]
 have hb4:Below w3.heap.size w3 W4:=by rw [hW4];exact Below.allocS (below_a _ _) _
 have y0:W4.cell? ⟨w3.heap.size,0,none⟩=some (.slice a2g n d1):=by rw [hW4];exact cell_al _ (cell_nw _ _ _ 0 _ rfl)
 have y1:W4.cell? ⟨w3.heap.size,1,none⟩=some (.int .u64 cr2):=by rw [hW4];exact cell_al _ (cell_nw _ _ _ 1 _ rfl)
 have y2:W4.cell? ⟨w3.heap.size,2,none⟩=some (.slice a2t N d2):=by rw [hW4];exact cell_al _ (cell_nw _ _ _ 2 _ rfl)
 have y3:W4.cell? ⟨w3.heap.size,3,none⟩=some (.slice a2a n d3):=by rw [hW4];exact cell_al _ (cell_nw _ _ _ 3 _ rfl)
 have y4:W4.cell? ⟨w3.heap.size,4,none⟩=some (.slice a2f n d4):=by rw [hW4];exact cell_al _ (cell_nw _ _ _ 4 _ rfl)
 have p0:W4.cell? ⟨w3.heap.size+1,0,none⟩=some (.int .u64 xe.1):=by rw [hW4];exact cell_nwE (by simp) _ _ 0 _ rfl
 have p1:W4.cell? ⟨w3.heap.size+1,1,none⟩=some (.int .u32 xe.2.1):=by rw [hW4];exact cell_nwE (by simp) _ _ 1 _ rfl
 have p2:W4.cell? ⟨w3.heap.size+1,2,none⟩=some (.int .u32 xe.2.2):=by rw [hW4];exact cell_nwE (by simp) _ _ 2 _ rfl
 have q:=uc5 ((pc5 c0 fc0 c1 fc1 c2 fc2 c3 fc3 c4 fc4).later hb4)
 clear c0 fc0 c1 fc1 c2 fc2 c3 fc3 c4 fc4
 obtain ⟨c0,fc0,c1,fc1,c2,fc2,c3,fc3,c4,fc4⟩:=q
 have q:=uc8 ((pc8 x0 fx0 x1 fx1 x2 fx2 x3 fx3 x4 fx4 x5 fx5 x6 fx6 x7 fx7).later hb4)
 clear x0 fx0 x1 fx1 x2 fx2 x3 fx3 x4 fx4 x5 fx5 x6 fx6 x7 fx7
 obtain ⟨x0,fx0,x1,fx1,x2,fx2,x3,fx3,x4,fx4,x5,fx5,x6,fx6,x7,fx7⟩:=q
 have q:=uc5 ((pc5 r0 fr0 r1 fr1 r2 fr2 r3 fr3 r4 fr4).later hb4)
 clear r0 fr0 r1 fr1 r2 fr2 r3 fr3 r4 fr4
 obtain ⟨r0,fr0,r1,fr1,r2,fr2,r3,fr3,r4,fr4⟩:=q
 have HB4:=Lib.hid (Below.step HB3.out hb4)
 have HX4:=Lib.hid hb4
 have L8:=Lib.hid (show W0.heap.size≤w3.heap.size from Nat.le_trans HS1.out H03.out.size)
 generalize hb8:w3.heap.size=b8 at y0 y1 y2 y3 y4 p0 p1 p2 L8 ⊢
 have m8:b8∉F:=fun m=>by have:=HF.out _ m;have h1:=HSZ.out;have h2:=L8.out;have h4:=HBX.out;omega
 have m9:b8+1∉F:=fun m=>by have:=HF.out _ m;have h1:=HSZ.out;have h2:=L8.out;have h4:=HBX.out;omega
 have HL4:=Lib.hid (show bx+1+1<W4.heap.size from lt_of_cell r0)
 have HH:=Lib.hid (show TreeIn W4 t F s from HI.out.below HB4.out)
 have HRR:=Lib.hid (show RHeld ((bx+1+1)::(G++F)) W4 ⟨a2g,a2t,a2a,a2f,d1,d2,d3,d4⟩ n N rN from (HN3.out ((bx+1+1)::(G++F)) (fun b hb=>by
  have h1:=HSZ.out;have h3:=HB0.out.size;have h4:=HBX.out;have h5:=HS1.out
  rcases List.mem_cons.1 hb with rfl | hb
  ·omega
  ·rcases List.mem_append.1 hb with hb | hb
   ·have:=HGL.out _ hb;omega
   ·have:=HF.out _ hb;omega) (HRH.out.step (Kept.of HB1.out) (fun b hb=>by
  have h1:=HBX.out
  rcases List.mem_cons.1 hb with rfl | hb
  ·exact Or.inr (by omega)
  ·exact Or.inl hb))).later HX4.out)
 clear hb4 hW4 hb8
 go_wp2_with fail
 refine (AP.out W4 HH.out).mono ?_
 rintro e w5 ⟨rfl,F5,h5,s5⟩
 have q:=uc5 ((pc5 r0 fr0 r1 fr1 r2 fr2 r3 fr3 r4 fr4).kept s5.kept nr)
 clear r0 fr0 r1 fr1 r2 fr2 r3 fr3 r4 fr4
 obtain ⟨r0,fr0,r1,fr1,r2,fr2,r3,fr3,r4,fr4⟩:=q
 replace y0:=s5.cell m8 y0
 replace y1:=s5.cell m8 y1
 replace y2:=s5.cell m8 y2
 replace y3:=s5.cell m8 y3
 replace y4:=s5.cell m8 y4
 replace p0:=s5.cell m9 p0
 replace p1:=s5.cell m9 p1
 replace p2:=s5.cell m9 p2
 have HS5:=Lib.hid s5
 have HH5:=Lib.hid h5
 have HZ5:=Lib.hid s5.kept.size
 clear s5 h5
 go_upto_region 6 with fail
 obtain ⟨W6,hW6⟩:∃ W,W=w5.alloc (.cells #[.int .u64 xe.1,.int .u32 xe.2.1,.int .u32 xe.2.2] 40):=⟨_,rfl⟩
 rw [← hW6]
 have hb6:Below w5.heap.size w5 W6:=by rw [hW6];exact below_a _ _
 have t0:W6.cell? ⟨w5.heap.size,0,none⟩=some (.int .u64 xe.1):=by rw [hW6];exact cell_nw _ _ _ 0 _ rfl
 have t1:W6.cell? ⟨w5.heap.size,1,none⟩=some (.int .u32 xe.2.1):=by rw [hW6];exact cell_nw _ _ _ 1 _ rfl
 have t2:W6.cell? ⟨w5.heap.size,2,none⟩=some (.int .u32 xe.2.2):=by rw [hW6];exact cell_nw _ _ _ 2 _ rfl
 have q:=uc5 ((pc5 r0 fr0 r1 fr1 r2 fr2 r3 fr3 r4 fr4).later hb6)
 clear r0 fr0 r1 fr1 r2 fr2 r3 fr3 r4 fr4
 obtain ⟨r0,fr0,r1,fr1,r2,fr2,r3,fr3,r4,fr4⟩:=q
 replace y0:=cell_later hb6 y0
 replace y1:=cell_later hb6 y1
 replace y2:=cell_later hb6 y2
 replace y3:=cell_later hb6 y3
 replace y4:=cell_later hb6 y4
 replace p0:=cell_later hb6 p0
 replace p1:=cell_later hb6 p1
 replace p2:=cell_later hb6 p2
 have HS6:=Lib.hid (HS5.out.trans (Step.of hb6))
 have HH6:=Lib.hid (HH5.out.below hb6)
 generalize hb9:w5.heap.size=b9 at t0 t1 t2 HZ5 ⊢
 have k8:b8∉[bx+1+1]:=fun m=>by simp at m;have h1:=HSZ.out;have h2:=L8.out;omega
 have k9:b8+1∉[bx+1+1]:=fun m=>by simp at m;have h1:=HSZ.out;have h2:=L8.out;omega
 have k10:b9∉[bx+1+1]:=fun m=>by simp at m;have h1:=HL4.out;have h2:=HZ5.out;omega
 have zq:=eqE_self xe.1 xe.2.1 xe.2.2
 clear hb6 hW6 hb9 m8 m9
 refine startA (S:=fun w'=>Kept [bx+1+1] W6 w'∧w'.cell? ⟨b8,0,none⟩=some (.slice a2g n d1)∧w'.cell? ⟨b8,1,none⟩=some (.int .u64 cr2)∧w'.cell? ⟨b8,2,none⟩=some (.slice a2t N d2)∧w'.cell? ⟨b8,3,none⟩=some (.slice a2a n d3)∧w'.cell? ⟨b8,4,none⟩=some (.slice a2f n d4)∧w'.cell? ⟨b8+1,0,none⟩=some (.int .u64 xe.1)∧w'.cell? ⟨b8+1,1,none⟩=some (.int .u32 xe.2.1)∧w'.cell? ⟨b8+1,2,none⟩=some (.int .u32 xe.2.2)∧w'.cell? ⟨b9,0,none⟩=some (.int .u64 xe.1)∧w'.cell? ⟨b9,1,none⟩=some (.int .u32 xe.2.1)∧w'.cell? ⟨b9,2,none⟩=some (.int .u32 xe.2.2)) ⟨Kept.refl _ _,y0,y1,y2,y3,y4,p0,p1,p2,t0,t1,t2⟩ (fun h=>heldK_11 (kept_dr _ _) h) (fun hS0 hHeld=>?_)
 refine takeA 0 ?_
 refine takeA 1 ?_
 refine takeA 2 ?_
 refine takeA 3 ?_
 refine takeA 4 ?_
 refine takeA 5 ?_
 refine takeA 6 ?_
 refine takeA 7 ?_
 refine takeA 8 ?_
 refine readyA [9] (consA (fun K hK=>?_) .nil)
 go_simp
 have KF:=(ks5 (S:=[bx+1+1]) (w:=W6) (b:=bx+1+1) (.slice a2g n d1) (.int .u64 cr2) (.slice a2t N d2) (.slice a2a n d3) (.slice a2f n d4) (by simp)).drew
 have KD:Kept [bx+1+1] W6.drew _:=⟨KF.os,KF.tape,KF.output,KF.size,KF.block⟩
 have q:=(cs5 (.slice a2g n d1) (.int .u64 cr2) (.slice a2t N d2) (.slice a2a n d3) (.slice a2f n d4) (pc5 r0 fr0 r1 fr1 r2 fr2 r3 fr3 r4 fr4)).later (Below.refl _ _).drew
 clear r0 fr0 r1 fr1 r2 fr2 r3 fr3 r4 fr4
 obtain ⟨r0,fr0,r1,fr1,r2,fr2,r3,fr3,r4,fr4⟩:=uc5 q
 clear q fr0 fr1 fr2 fr3 fr4
 obtain ⟨wq,hwq⟩:∃ wq,wq=((((((W6.setCell ⟨bx+1+1,0,none⟩ (.slice a2g n d1)).setCell ⟨bx+1+1,1,none⟩ (.int .u64 cr2)).setCell ⟨bx+1+1,2,none⟩ (.slice a2t N d2)).setCell ⟨bx+1+1,3,none⟩ (.slice a2a n d3)).setCell ⟨bx+1+1,4,none⟩ (.slice a2f n d4))).drew:=⟨_,rfl⟩
 clear KF
 rw [← hwq] at KD r0 r1 r2 r3 r4 ⊢
 clear hwq
 refine outA hK kpK_11 (fun hHeld9=>?_)
 clear hK K
 refine takeA 10 ?_
 refine doneA ?_
 go_wp2_with fail
 refine bodyPost_ret (v:=.tuple #[.agg #[.slice a2g n d1,.int .u64 cr2,.slice a2t N d2,.slice a2a n d3,.slice a2f n d4],.bool true]) (by simp [results,Tryz.results30,go_sem, *]) rfl ?_
 have HR9:=HRR.out
 rw [HN.out] at HR9 ⊢
 rw [HCR.out]
 exact pact_done HB4.out HF.out (by have:=HBX.out;omega) HL4.out HS6.out HH6.out HR9 ⟨KD.os,KD.tape,KD.output,KD.size,KD.block⟩ HB2.out
set_option maxRecDepth 100000 in
set_option maxHeartbeats 4000000 in
theorem act_wake {t n:Nat} {F:List Nat} {s:TSt} {r:RSt} {G:List Nat} {a:RAd} {kd id g nn xv xr xw:Int} {sv:Value} {L:Spots} {w:World} (H:ActH t n F s r G a kd id g nn xv xr xw sv L w) (hk:kd % 9=1):ActC t n F r G a kd id g nn xv xr xw sv w:=by
 obtain ⟨h,hb,hr,hG,hkd,hid,hg,hnn,hx,hv,hL⟩:=H
 unfold ActC
 obtain ⟨z0,z1,z2,z3,z4,z5,z6,z7⟩:=kdz false true false false false false false false hkd hk (by decide)
 clear hk
 have ho:=tree_ord h
 have hks:=tree_keys h
 have hro:=hb.tw.rok hb.ok hb.cr
 rw [hb.n] at hro
 have hm1:r.T.length<69000:=by have:=srt_len hb.tw.srt (fun t ht=>(hb.tw.toTwinC.task hb.ok ht).1);omega
 have hn9:=hb.n
 have hwn:=wf_i64 hnn
 obtain ⟨rN,hrN⟩:∃ x,x=wakeRS r n id g (xv,xr,xw):=⟨_,rfl⟩
 obtain ⟨s2,hs2⟩:∃ x,x=wakeS s id g (xv,xr,xw):=⟨_,rfl⟩
 obtain ⟨xe,hxe⟩:∃ x,x=wakeX s id g (xv,xr,xw):=⟨_,rfl⟩
 obtain ⟨cN,hcN⟩:∃ x,x=wakeC s id g (xv,xr,xw):=⟨_,rfl⟩
 have hX:=wakeX_twin hb.tw hb.ok id g (xv,xr,xw)
 have hC:=wrong_wake hb.tw hb.ok id g (xv,xr,xw)
 rw [hn9] at hX hC
 have HB2:=Lib.hid (show OrdT s2→BothT n s2 rN from fun ho2=>by
  have:=wake_twin hb.tw hb.ok ho hb.fl id g (xv,xr,xw) (by rw [← hs2];exact ho2)
  rw [← hs2,hn9,← hrN] at this
  exact hb.of (by rw [hs2];exact wake_ok hb.ok) (by rw [hs2];exact (fls_enS _ _ _ _ _).le hb.fl) this (id:=id) (by rw [hs2];exact enS_fr _ _ _ _ _)
  )
 have AE:=Lib.hid (show ∀ W,RIn W a.ag a.at' a.aa a.af a.cg a.ct a.ca a.cf n r.T.length r→Calls Tryz.prog 61 #[.agg #[.slice a.ag n a.cg,.int .u64 r.cr,.slice a.at' r.T.length a.ct,.slice a.aa n a.ca,.slice a.af n a.cf],.int .i64 id,.int .i64 g,.agg #[.int .u64 xv,.int .u32 xr,.int .u32 xw]] W (ResP W a r n r.T.length rN (tup3 xe cN)) from fun W q=>by
  have this:=tWake_at r n r.T.length hro hm1 id g (xv,xr,xw) hx a W q
  rw [hX,hC,← hrN,← hxe,← hcN] at this
  exact this)
 have AP:=Lib.hid (show ∀ W,TreeIn W t F s→Calls Tryz.prog 35 #[.pointer (some ⟨t,0,none⟩),.int .i64 id,.int .i64 g,.agg #[.int .u64 xv,.int .u32 xr,.int .u32 xw]] W (TDid W t F (.tuple #[.agg #[.int .u64 xe.1,.int .u32 xe.2.1,.int .u32 xe.2.2],.int .i64 cN]) s2) from fun W q=>by
  have this:=pWake_at id g xv xr xw W q hid hg hx
  rw [← hs2,← hxe,← hcN] at this
  exact this)
 have HI:=Lib.hid h
 have HRH:=Lib.hid hr
 have HGL:=Lib.hid hG
 have HF:=Lib.hid h.lt
 have HV:=Lib.hid hv
 clear hrN hs2 hcN hxe hb hr hG hro hm1 hn9 hwn ho hks hkd hid hg hnn hx hv hL h
 obtain ⟨m,hm⟩:∃ m,m=r.T.length:=⟨_,rfl⟩
 obtain ⟨cr0,hcr0⟩:∃ c,c=r.cr:=⟨_,rfl⟩
 rw [← hm] at AE HRH ⊢
 rw [← hcr0] at AE ⊢
 clear hm hcr0
 obtain ⟨ag,at',aa,af,cg,ct,ca,cf⟩:=a
 dsimp only at AE HRH ⊢
 obtain ⟨W0,hW0⟩:∃ W0,W0=(((w.alloc (.cells #[.slice ag n cg,.int .u64 cr0,.slice at' m ct,.slice aa n ca,.slice af n cf] 74)).alloc (.cells #[.int .u8 kd,.int .i64 id,.int .i64 g,.int .i64 nn,.int .u64 xv,.int .u32 xr,.int .u32 xw,sv] 78)).alloc (.cells #[.slice none 0 0,.int .u64 0,.slice none 0 0,.slice none 0 0,.slice none 0 0] 74)):=⟨_,rfl⟩
 have HB0:=Lib.hid (show Below w.heap.size w W0 by rw [hW0];exact (Below.allocS (Below.allocS (Below.allocS (Below.refl _ _) _) _) _))
 obtain ⟨c0,fc0,c1,fc1,c2,fc2,c3,fc3,c4,fc4⟩:=uc5 (show CellsF W0 (w.heap.size) [.slice ag n cg,.int .u64 cr0,.slice at' m ct,.slice aa n ca,.slice af n cf] by rw [hW0];exact ((CellsF.new (by simp)).later (below_a _ _)).later (below_a _ _))
 obtain ⟨x0,fx0,x1,fx1,x2,fx2,x3,fx3,x4,fx4,x5,fx5,x6,fx6,x7,fx7⟩:=uc8 (show CellsF W0 (w.heap.size+1) [.int .u8 kd,.int .i64 id,.int .i64 g,.int .i64 nn,.int .u64 xv,.int .u32 xr,.int .u32 xw,sv] by rw [hW0];exact (CellsF.new (by simp)).later (below_a _ _))
 obtain ⟨r0,fr0,r1,fr1,r2,fr2,r3,fr3,r4,fr4⟩:=uc5 (show CellsF W0 (w.heap.size+1+1) [.slice none 0 0,.int .u64 0,.slice none 0 0,.slice none 0 0,.slice none 0 0] by rw [hW0];exact CellsF.new (by simp))
 have HSZ:=Lib.hid (show W0.heap.size=w.heap.size+1+1+1 by rw [hW0];simp)
 have HW0:=Lib.hid hW0
 clear hW0
 have nc:w.heap.size∉F:=fun m=>by have:=HF.out _ m;omega
 have nx:w.heap.size+1∉F:=fun m=>by have:=HF.out _ m;omega
 have nr:w.heap.size+1+1∉F:=fun m=>by have:=HF.out _ m;omega
 go_enter Tryz.func30,Tryz.ntmps30
 go_upto_region 1 with fail
 rw [← HW0.out]
 generalize hbx:w.heap.size=bx at c0 c1 c2 c3 c4 x0 x1 x2 x3 x4 x5 x6 x7 r0 r1 r2 r3 r4 fc0 fc1 fc2 fc3 fc4 fx0 fx1 fx2 fx3 fx4 fx5 fx6 fx7 fr0 fr1 fr2 fr3 fr4 HSZ nc nx nr ⊢
 have HBX:=Lib.hid hbx
 clear hbx HW0
 go_upto_region 2 with fail
 obtain ⟨W1,hW1⟩:∃ W,W=W0.alloc (.cells #[.int .u64 xv,.int .u32 xr,.int .u32 xw] 120):=⟨_,rfl⟩
 rw [← hW1]
 have hb1:Below W0.heap.size W0 W1:=by rw [hW1];exact below_a _ _
 have o0:W1.cell? ⟨W0.heap.size,0,none⟩=some (.int .u64 xv):=by rw [hW1];exact cell_nw _ _ _ 0 _ rfl
 have o1:W1.cell? ⟨W0.heap.size,1,none⟩=some (.int .u32 xr):=by rw [hW1];exact cell_nw _ _ _ 1 _ rfl
 have o2:W1.cell? ⟨W0.heap.size,2,none⟩=some (.int .u32 xw):=by rw [hW1];exact cell_nw _ _ _ 2 _ rfl
 have q:=uc5 ((pc5 c0 fc0 c1 fc1 c2 fc2 c3 fc3 c4 fc4).later hb1)
 clear c0 fc0 c1 fc1 c2 fc2 c3 fc3 c4 fc4
 obtain ⟨c0,fc0,c1,fc1,c2,fc2,c3,fc3,c4,fc4⟩:=q
 have q:=uc8 ((pc8 x0 fx0 x1 fx1 x2 fx2 x3 fx3 x4 fx4 x5 fx5 x6 fx6 x7 fx7).later hb1)
 clear x0 fx0 x1 fx1 x2 fx2 x3 fx3 x4 fx4 x5 fx5 x6 fx6 x7 fx7
 obtain ⟨x0,fx0,x1,fx1,x2,fx2,x3,fx3,x4,fx4,x5,fx5,x6,fx6,x7,fx7⟩:=q
 have q:=uc5 ((pc5 r0 fr0 r1 fr1 r2 fr2 r3 fr3 r4 fr4).later hb1)
 clear r0 fr0 r1 fr1 r2 fr2 r3 fr3 r4 fr4
 obtain ⟨r0,fr0,r1,fr1,r2,fr2,r3,fr3,r4,fr4⟩:=q
 have HB1:=Lib.hid (Below.step HB0.out hb1)
 have HS1:=Lib.hid (show W0.heap.size≤W1.heap.size from hb1.size)
 obtain ⟨bo,hbo⟩:∃ b,b=W0.heap.size:=⟨_,rfl⟩
 rw [← hbo] at o0 o1 o2 ⊢
 clear hb1 hW1 hbo
 go_wp2_with fail
 refine (AE.out W1 (HRH.out.rin.later HB1.out) ).mono ?_
 rintro e w3 ⟨⟨a2g,a2t,a2a,a2f,d1,d2,d3,d4⟩,rfl,hn3,hb3⟩
 dsimp only [tup3,RAd.val]
 have q:=uc5 ((pc5 c0 fc0 c1 fc1 c2 fc2 c3 fc3 c4 fc4).later hb3)
 clear c0 fc0 c1 fc1 c2 fc2 c3 fc3 c4 fc4
 obtain ⟨c0,fc0,c1,fc1,c2,fc2,c3,fc3,c4,fc4⟩:=q
 have q:=uc8 ((pc8 x0 fx0 x1 fx1 x2 fx2 x3 fx3 x4 fx4 x5 fx5 x6 fx6 x7 fx7).later hb3)
 clear x0 fx0 x1 fx1 x2 fx2 x3 fx3 x4 fx4 x5 fx5 x6 fx6 x7 fx7
 obtain ⟨x0,fx0,x1,fx1,x2,fx2,x3,fx3,x4,fx4,x5,fx5,x6,fx6,x7,fx7⟩:=q
 have q:=uc5 ((pc5 r0 fr0 r1 fr1 r2 fr2 r3 fr3 r4 fr4).later hb3)
 clear r0 fr0 r1 fr1 r2 fr2 r3 fr3 r4 fr4
 obtain ⟨r0,fr0,r1,fr1,r2,fr2,r3,fr3,r4,fr4⟩:=q
 have HN3:=Lib.hid hn3
 have HB3:=Lib.hid (Below.step HB1.out hb3)
 have H03:=Lib.hid hb3
 obtain ⟨N,hN⟩:∃ N,N=rN.T.length:=⟨_,rfl⟩
 obtain ⟨cr2,hcr2⟩:∃ c,c=rN.cr:=⟨_,rfl⟩
 rw [← hN] at HN3 ⊢
 rw [← hcr2]
 have HN:=Lib.hid hN
 have HCR:=Lib.hid hcr2
 clear hn3 hb3 hN hcr2
 go_upto_region 9 with fail
 obtain ⟨W4,hW4⟩:∃ W,W=((w3.alloc (.cells #[.slice a2g n d1,.int .u64 cr2,.slice a2t N d2,.slice a2a n d3,.slice a2f n d4] 74)).alloc (.cells #[.int .u64 xe.1,.int .u32 xe.2.1,.int .u32 xe.2.2] 120)):=⟨_,rfl⟩
 rw [← hW4]
 have hb4:Below w3.heap.size w3 W4:=by rw [hW4];exact Below.allocS (below_a _ _) _
 have y0:W4.cell? ⟨w3.heap.size,0,none⟩=some (.slice a2g n d1):=by rw [hW4];exact cell_al _ (cell_nw _ _ _ 0 _ rfl)
 have y1:W4.cell? ⟨w3.heap.size,1,none⟩=some (.int .u64 cr2):=by rw [hW4];exact cell_al _ (cell_nw _ _ _ 1 _ rfl)
 have y2:W4.cell? ⟨w3.heap.size,2,none⟩=some (.slice a2t N d2):=by rw [hW4];exact cell_al _ (cell_nw _ _ _ 2 _ rfl)
 have y3:W4.cell? ⟨w3.heap.size,3,none⟩=some (.slice a2a n d3):=by rw [hW4];exact cell_al _ (cell_nw _ _ _ 3 _ rfl)
 have y4:W4.cell? ⟨w3.heap.size,4,none⟩=some (.slice a2f n d4):=by rw [hW4];exact cell_al _ (cell_nw _ _ _ 4 _ rfl)
 have p0:W4.cell? ⟨w3.heap.size+1,0,none⟩=some (.int .u64 xe.1):=by rw [hW4];exact cell_nwE (by simp) _ _ 0 _ rfl
 have p1:W4.cell? ⟨w3.heap.size+1,1,none⟩=some (.int .u32 xe.2.1):=by rw [hW4];exact cell_nwE (by simp) _ _ 1 _ rfl
 have p2:W4.cell? ⟨w3.heap.size+1,2,none⟩=some (.int .u32 xe.2.2):=by rw [hW4];exact cell_nwE (by simp) _ _ 2 _ rfl
 have q:=uc5 ((pc5 c0 fc0 c1 fc1 c2 fc2 c3 fc3 c4 fc4).later hb4)
 clear c0 fc0 c1 fc1 c2 fc2 c3 fc3 c4 fc4
 obtain ⟨c0,fc0,c1,fc1,c2,fc2,c3,fc3,c4,fc4⟩:=q
 have q:=uc8 ((pc8 x0 fx0 x1 fx1 x2 fx2 x3 fx3 x4 fx4 x5 fx5 x6 fx6 x7 fx7).later hb4)
 clear x0 fx0 x1 fx1 x2 fx2 x3 fx3 x4 fx4 x5 fx5 x6 fx6 x7 fx7
 obtain ⟨x0,fx0,x1,fx1,x2,fx2,x3,fx3,x4,fx4,x5,fx5,x6,fx6,x7,fx7⟩:=q
 have q:=uc5 ((pc5 r0 fr0 r1 fr1 r2 fr2 r3 fr3 r4 fr4).later hb4)
 clear r0 fr0 r1 fr1 r2 fr2 r3 fr3 r4 fr4
 obtain ⟨r0,fr0,r1,fr1,r2,fr2,r3,fr3,r4,fr4⟩:=q
 have HB4:=Lib.hid (Below.step HB3.out hb4)
 have HX4:=Lib.hid hb4
 have L8:=Lib.hid (show W0.heap.size≤w3.heap.size from Nat.le_trans HS1.out H03.out.size)
 generalize hb8:w3.heap.size=b8 at y0 y1 y2 y3 y4 p0 p1 p2 L8 ⊢
 have m8:b8∉F:=fun m=>by have:=HF.out _ m;have h1:=HSZ.out;have h2:=L8.out;have h4:=HBX.out;omega
 have m9:b8+1∉F:=fun m=>by have:=HF.out _ m;have h1:=HSZ.out;have h2:=L8.out;have h4:=HBX.out;omega
 have HL4:=Lib.hid (show bx+1+1<W4.heap.size from lt_of_cell r0)
 have HH:=Lib.hid (show TreeIn W4 t F s from HI.out.below HB4.out)
 have HRR:=Lib.hid (show RHeld ((bx+1+1)::(G++F)) W4 ⟨a2g,a2t,a2a,a2f,d1,d2,d3,d4⟩ n N rN from (HN3.out ((bx+1+1)::(G++F)) (fun b hb=>by
  have h1:=HSZ.out;have h3:=HB0.out.size;have h4:=HBX.out;have h5:=HS1.out
  rcases List.mem_cons.1 hb with rfl | hb
  ·omega
  ·rcases List.mem_append.1 hb with hb | hb
   ·have:=HGL.out _ hb;omega
   ·have:=HF.out _ hb;omega) (HRH.out.step (Kept.of HB1.out) (fun b hb=>by
  have h1:=HBX.out
  rcases List.mem_cons.1 hb with rfl | hb
  ·exact Or.inr (by omega)
  ·exact Or.inl hb))).later HX4.out)
 clear hb4 hW4 hb8
 go_wp2_with fail
 refine (AP.out W4 HH.out).mono ?_
 rintro e w5 ⟨rfl,F5,h5,s5⟩
 have q:=uc5 ((pc5 r0 fr0 r1 fr1 r2 fr2 r3 fr3 r4 fr4).kept s5.kept nr)
 clear r0 fr0 r1 fr1 r2 fr2 r3 fr3 r4 fr4
 obtain ⟨r0,fr0,r1,fr1,r2,fr2,r3,fr3,r4,fr4⟩:=q
 replace y0:=s5.cell m8 y0
 replace y1:=s5.cell m8 y1
 replace y2:=s5.cell m8 y2
 replace y3:=s5.cell m8 y3
 replace y4:=s5.cell m8 y4
 replace p0:=s5.cell m9 p0
 replace p1:=s5.cell m9 p1
 replace p2:=s5.cell m9 p2
 have HS5:=Lib.hid s5
 have HH5:=Lib.hid h5
 have HZ5:=Lib.hid s5.kept.size
 clear s5 h5
 go_upto_region 10 with fail
 obtain ⟨W6,hW6⟩:∃ W,W=w5.alloc (.cells #[.int .u64 xe.1,.int .u32 xe.2.1,.int .u32 xe.2.2] 40):=⟨_,rfl⟩
 rw [← hW6]
 have hb6:Below w5.heap.size w5 W6:=by rw [hW6];exact below_a _ _
 have t0:W6.cell? ⟨w5.heap.size,0,none⟩=some (.int .u64 xe.1):=by rw [hW6];exact cell_nw _ _ _ 0 _ rfl
 have t1:W6.cell? ⟨w5.heap.size,1,none⟩=some (.int .u32 xe.2.1):=by rw [hW6];exact cell_nw _ _ _ 1 _ rfl
 have t2:W6.cell? ⟨w5.heap.size,2,none⟩=some (.int .u32 xe.2.2):=by rw [hW6];exact cell_nw _ _ _ 2 _ rfl
 have q:=uc5 ((pc5 r0 fr0 r1 fr1 r2 fr2 r3 fr3 r4 fr4).later hb6)
 clear r0 fr0 r1 fr1 r2 fr2 r3 fr3 r4 fr4
 obtain ⟨r0,fr0,r1,fr1,r2,fr2,r3,fr3,r4,fr4⟩:=q
 replace y0:=cell_later hb6 y0
 replace y1:=cell_later hb6 y1
 replace y2:=cell_later hb6 y2
 replace y3:=cell_later hb6 y3
 replace y4:=cell_later hb6 y4
 replace p0:=cell_later hb6 p0
 replace p1:=cell_later hb6 p1
 replace p2:=cell_later hb6 p2
 have HS6:=Lib.hid (HS5.out.trans (Step.of hb6))
 have HH6:=Lib.hid (HH5.out.below hb6)
 generalize hb9:w5.heap.size=b9 at t0 t1 t2 HZ5 ⊢
 have k8:b8∉[bx+1+1]:=fun m=>by simp at m;have h1:=HSZ.out;have h2:=L8.out;omega
 have k9:b8+1∉[bx+1+1]:=fun m=>by simp at m;have h1:=HSZ.out;have h2:=L8.out;omega
 have k10:b9∉[bx+1+1]:=fun m=>by simp at m;have h1:=HL4.out;have h2:=HZ5.out;omega
 have zq:=eqE_self xe.1 xe.2.1 xe.2.2
 clear hb6 hW6 hb9 m8 m9
 refine startA (S:=fun w'=>Kept [bx+1+1] W6 w'∧w'.cell? ⟨b8,0,none⟩=some (.slice a2g n d1)∧w'.cell? ⟨b8,1,none⟩=some (.int .u64 cr2)∧w'.cell? ⟨b8,2,none⟩=some (.slice a2t N d2)∧w'.cell? ⟨b8,3,none⟩=some (.slice a2a n d3)∧w'.cell? ⟨b8,4,none⟩=some (.slice a2f n d4)∧w'.cell? ⟨b8+1,0,none⟩=some (.int .u64 xe.1)∧w'.cell? ⟨b8+1,1,none⟩=some (.int .u32 xe.2.1)∧w'.cell? ⟨b8+1,2,none⟩=some (.int .u32 xe.2.2)∧w'.cell? ⟨b9,0,none⟩=some (.int .u64 xe.1)∧w'.cell? ⟨b9,1,none⟩=some (.int .u32 xe.2.1)∧w'.cell? ⟨b9,2,none⟩=some (.int .u32 xe.2.2)) ⟨Kept.refl _ _,y0,y1,y2,y3,y4,p0,p1,p2,t0,t1,t2⟩ (fun h=>heldK_11 (kept_dr _ _) h) (fun hS0 hHeld=>?_)
 refine takeA 0 ?_
 refine takeA 1 ?_
 refine takeA 2 ?_
 refine takeA 3 ?_
 refine takeA 4 ?_
 refine takeA 5 ?_
 refine takeA 6 ?_
 refine takeA 7 ?_
 refine takeA 8 ?_
 refine readyA [9] (consA (fun K hK=>?_) .nil)
 go_simp
 have KF:=(ks5 (S:=[bx+1+1]) (w:=W6) (b:=bx+1+1) (.slice a2g n d1) (.int .u64 cr2) (.slice a2t N d2) (.slice a2a n d3) (.slice a2f n d4) (by simp)).drew
 have KD:Kept [bx+1+1] W6.drew _:=⟨KF.os,KF.tape,KF.output,KF.size,KF.block⟩
 have q:=(cs5 (.slice a2g n d1) (.int .u64 cr2) (.slice a2t N d2) (.slice a2a n d3) (.slice a2f n d4) (pc5 r0 fr0 r1 fr1 r2 fr2 r3 fr3 r4 fr4)).later (Below.refl _ _).drew
 clear r0 fr0 r1 fr1 r2 fr2 r3 fr3 r4 fr4
 obtain ⟨r0,fr0,r1,fr1,r2,fr2,r3,fr3,r4,fr4⟩:=uc5 q
 clear q fr0 fr1 fr2 fr3 fr4
 obtain ⟨wq,hwq⟩:∃ wq,wq=((((((W6.setCell ⟨bx+1+1,0,none⟩ (.slice a2g n d1)).setCell ⟨bx+1+1,1,none⟩ (.int .u64 cr2)).setCell ⟨bx+1+1,2,none⟩ (.slice a2t N d2)).setCell ⟨bx+1+1,3,none⟩ (.slice a2a n d3)).setCell ⟨bx+1+1,4,none⟩ (.slice a2f n d4))).drew:=⟨_,rfl⟩
 clear KF
 rw [← hwq] at KD r0 r1 r2 r3 r4 ⊢
 clear hwq
 refine outA hK kpK_11 (fun hHeld9=>?_)
 clear hK K
 refine takeA 10 ?_
 refine doneA ?_
 go_wp2_with fail
 refine bodyPost_ret (v:=.tuple #[.agg #[.slice a2g n d1,.int .u64 cr2,.slice a2t N d2,.slice a2a n d3,.slice a2f n d4],.bool true]) (by simp [results,Tryz.results30,go_sem, *]) rfl ?_
 have HR9:=HRR.out
 rw [HN.out] at HR9 ⊢
 rw [HCR.out]
 exact pact_done HB4.out HF.out (by have:=HBX.out;omega) HL4.out HS6.out HH6.out HR9 ⟨KD.os,KD.tape,KD.output,KD.size,KD.block⟩ HB2.out
set_option maxRecDepth 100000 in
set_option maxHeartbeats 4000000 in
theorem act_leave {t n:Nat} {F:List Nat} {s:TSt} {r:RSt} {G:List Nat} {a:RAd} {kd id g nn xv xr xw:Int} {sv:Value} {L:Spots} {w:World} (H:ActH t n F s r G a kd id g nn xv xr xw sv L w) (hk:kd % 9=3):ActC t n F r G a kd id g nn xv xr xw sv w:=by
 obtain ⟨h,hb,hr,hG,hkd,hid,hg,hnn,hx,hv,hL⟩:=H
 unfold ActC
 obtain ⟨z0,z1,z2,z3,z4,z5,z6,z7⟩:=kdz false false false true false false false false hkd hk (by decide)
 clear hk
 have ho:=tree_ord h
 have hks:=tree_keys h
 have hro:=hb.tw.rok hb.ok hb.cr
 rw [hb.n] at hro
 have hm1:r.T.length<69000:=by have:=srt_len hb.tw.srt (fun t ht=>(hb.tw.toTwinC.task hb.ok ht).1);omega
 have hn9:=hb.n
 have hwn:=wf_i64 hnn
 obtain ⟨rN,hrN⟩:∃ x,x=leaveRS r n id:=⟨_,rfl⟩
 obtain ⟨s2,hs2⟩:∃ x,x=plvS s id:=⟨_,rfl⟩
 obtain ⟨xe,hxe⟩:∃ x,x=plvX s id:=⟨_,rfl⟩
 obtain ⟨cN,hcN⟩:∃ x,x=findC s id:=⟨_,rfl⟩
 have hX:=leaveX_twin hb.tw.toTwinC hb.ok id
 have hC:=there_twin hb.tw.toTwinC hb.ok id true
 rw [if_pos rfl] at hC
 have HB2:=Lib.hid (show OrdT s2→BothT n s2 rN from fun ho2=>by
  have:=leave_twin hb.tw hb.ok ho hb.fl id (by rw [← hs2];exact ho2)
  rw [← hs2,hn9,← hrN] at this
  exact hb.of (by rw [hs2];exact leave_ok hb.ok) (by rw [hs2];exact (fls_plv _ _).le hb.fl) this (id:=id) (by rw [hs2];exact leave_fr _ _)
  )
 have AE:=Lib.hid (show ∀ W,RIn W a.ag a.at' a.aa a.af a.cg a.ct a.ca a.cf n r.T.length r→Calls Tryz.prog 63 #[.agg #[.slice a.ag n a.cg,.int .u64 r.cr,.slice a.at' r.T.length a.ct,.slice a.aa n a.ca,.slice a.af n a.cf],.int .i64 id] W (ResP W a r n r.T.length rN (tup3 xe cN)) from fun W q=>by
  have this:=tLeave_at r n r.T.length hro id a W q
  rw [hX,hC,← hrN,← hxe,← hcN] at this
  exact this)
 have AP:=Lib.hid (show ∀ W,TreeIn W t F s→Calls Tryz.prog 18 #[.pointer (some ⟨t,0,none⟩),.int .i64 id] W (TDid W t F (.tuple #[.agg #[.int .u64 xe.1,.int .u32 xe.2.1,.int .u32 xe.2.2],.int .i64 cN]) s2) from fun W q=>by
  have this:=pLeave_at id W q hid
  rw [← hs2,← hxe,← hcN] at this
  exact this)
 have HI:=Lib.hid h
 have HRH:=Lib.hid hr
 have HGL:=Lib.hid hG
 have HF:=Lib.hid h.lt
 have HV:=Lib.hid hv
 clear hrN hs2 hcN hxe hb hr hG hro hm1 hn9 hwn ho hks hkd hid hg hnn hx hv hL h
 obtain ⟨m,hm⟩:∃ m,m=r.T.length:=⟨_,rfl⟩
 obtain ⟨cr0,hcr0⟩:∃ c,c=r.cr:=⟨_,rfl⟩
 rw [← hm] at AE HRH ⊢
 rw [← hcr0] at AE ⊢
 clear hm hcr0
 obtain ⟨ag,at',aa,af,cg,ct,ca,cf⟩:=a
 dsimp only at AE HRH ⊢
 obtain ⟨W0,hW0⟩:∃ W0,W0=(((w.alloc (.cells #[.slice ag n cg,.int .u64 cr0,.slice at' m ct,.slice aa n ca,.slice af n cf] 74)).alloc (.cells #[.int .u8 kd,.int .i64 id,.int .i64 g,.int .i64 nn,.int .u64 xv,.int .u32 xr,.int .u32 xw,sv] 78)).alloc (.cells #[.slice none 0 0,.int .u64 0,.slice none 0 0,.slice none 0 0,.slice none 0 0] 74)):=⟨_,rfl⟩
 have HB0:=Lib.hid (show Below w.heap.size w W0 by rw [hW0];exact (Below.allocS (Below.allocS (Below.allocS (Below.refl _ _) _) _) _))
 obtain ⟨c0,fc0,c1,fc1,c2,fc2,c3,fc3,c4,fc4⟩:=uc5 (show CellsF W0 (w.heap.size) [.slice ag n cg,.int .u64 cr0,.slice at' m ct,.slice aa n ca,.slice af n cf] by rw [hW0];exact ((CellsF.new (by simp)).later (below_a _ _)).later (below_a _ _))
 obtain ⟨x0,fx0,x1,fx1,x2,fx2,x3,fx3,x4,fx4,x5,fx5,x6,fx6,x7,fx7⟩:=uc8 (show CellsF W0 (w.heap.size+1) [.int .u8 kd,.int .i64 id,.int .i64 g,.int .i64 nn,.int .u64 xv,.int .u32 xr,.int .u32 xw,sv] by rw [hW0];exact (CellsF.new (by simp)).later (below_a _ _))
 obtain ⟨r0,fr0,r1,fr1,r2,fr2,r3,fr3,r4,fr4⟩:=uc5 (show CellsF W0 (w.heap.size+1+1) [.slice none 0 0,.int .u64 0,.slice none 0 0,.slice none 0 0,.slice none 0 0] by rw [hW0];exact CellsF.new (by simp))
 have HSZ:=Lib.hid (show W0.heap.size=w.heap.size+1+1+1 by rw [hW0];simp)
 have HW0:=Lib.hid hW0
 clear hW0
 have nc:w.heap.size∉F:=fun m=>by have:=HF.out _ m;omega
 have nx:w.heap.size+1∉F:=fun m=>by have:=HF.out _ m;omega
 have nr:w.heap.size+1+1∉F:=fun m=>by have:=HF.out _ m;omega
 go_enter Tryz.func30,Tryz.ntmps30
 go_upto_region 1 with fail
 rw [← HW0.out]
 generalize hbx:w.heap.size=bx at c0 c1 c2 c3 c4 x0 x1 x2 x3 x4 x5 x6 x7 r0 r1 r2 r3 r4 fc0 fc1 fc2 fc3 fc4 fx0 fx1 fx2 fx3 fx4 fx5 fx6 fx7 fr0 fr1 fr2 fr3 fr4 HSZ nc nx nr ⊢
 have HBX:=Lib.hid hbx
 clear hbx HW0
 go_upto_region 2 with fail
 obtain ⟨W1,hW1⟩:∃ W,W=W0.alloc (.cells #[.int .u64 xv,.int .u32 xr,.int .u32 xw] 120):=⟨_,rfl⟩
 rw [← hW1]
 have hb1:Below W0.heap.size W0 W1:=by rw [hW1];exact below_a _ _
 have o0:W1.cell? ⟨W0.heap.size,0,none⟩=some (.int .u64 xv):=by rw [hW1];exact cell_nw _ _ _ 0 _ rfl
 have o1:W1.cell? ⟨W0.heap.size,1,none⟩=some (.int .u32 xr):=by rw [hW1];exact cell_nw _ _ _ 1 _ rfl
 have o2:W1.cell? ⟨W0.heap.size,2,none⟩=some (.int .u32 xw):=by rw [hW1];exact cell_nw _ _ _ 2 _ rfl
 have q:=uc5 ((pc5 c0 fc0 c1 fc1 c2 fc2 c3 fc3 c4 fc4).later hb1)
 clear c0 fc0 c1 fc1 c2 fc2 c3 fc3 c4 fc4
 obtain ⟨c0,fc0,c1,fc1,c2,fc2,c3,fc3,c4,fc4⟩:=q
 have q:=uc8 ((pc8 x0 fx0 x1 fx1 x2 fx2 x3 fx3 x4 fx4 x5 fx5 x6 fx6 x7 fx7).later hb1)
 clear x0 fx0 x1 fx1 x2 fx2 x3 fx3 x4 fx4 x5 fx5 x6 fx6 x7 fx7
 obtain ⟨x0,fx0,x1,fx1,x2,fx2,x3,fx3,x4,fx4,x5,fx5,x6,fx6,x7,fx7⟩:=q
 have q:=uc5 ((pc5 r0 fr0 r1 fr1 r2 fr2 r3 fr3 r4 fr4).later hb1)
 clear r0 fr0 r1 fr1 r2 fr2 r3 fr3 r4 fr4
 obtain ⟨r0,fr0,r1,fr1,r2,fr2,r3,fr3,r4,fr4⟩:=q
 have HB1:=Lib.hid (Below.step HB0.out hb1)
 have HS1:=Lib.hid (show W0.heap.size≤W1.heap.size from hb1.size)
 obtain ⟨bo,hbo⟩:∃ b,b=W0.heap.size:=⟨_,rfl⟩
 rw [← hbo] at o0 o1 o2 ⊢
 clear hb1 hW1 hbo
 go_wp2_with fail
 refine (AE.out W1 (HRH.out.rin.later HB1.out) ).mono ?_
 rintro e w3 ⟨⟨a2g,a2t,a2a,a2f,d1,d2,d3,d4⟩,rfl,hn3,hb3⟩
 dsimp only [tup3,RAd.val]
 have q:=uc5 ((pc5 c0 fc0 c1 fc1 c2 fc2 c3 fc3 c4 fc4).later hb3)
 clear c0 fc0 c1 fc1 c2 fc2 c3 fc3 c4 fc4
 obtain ⟨c0,fc0,c1,fc1,c2,fc2,c3,fc3,c4,fc4⟩:=q
 have q:=uc8 ((pc8 x0 fx0 x1 fx1 x2 fx2 x3 fx3 x4 fx4 x5 fx5 x6 fx6 x7 fx7).later hb3)
 clear x0 fx0 x1 fx1 x2 fx2 x3 fx3 x4 fx4 x5 fx5 x6 fx6 x7 fx7
 obtain ⟨x0,fx0,x1,fx1,x2,fx2,x3,fx3,x4,fx4,x5,fx5,x6,fx6,x7,fx7⟩:=q
 have q:=uc5 ((pc5 r0 fr0 r1 fr1 r2 fr2 r3 fr3 r4 fr4).later hb3)
 clear r0 fr0 r1 fr1 r2 fr2 r3 fr3 r4 fr4
 obtain ⟨r0,fr0,r1,fr1,r2,fr2,r3,fr3,r4,fr4⟩:=q
 have HN3:=Lib.hid hn3
 have HB3:=Lib.hid (Below.step HB1.out hb3)
 have H03:=Lib.hid hb3
 obtain ⟨N,hN⟩:∃ N,N=rN.T.length:=⟨_,rfl⟩
 obtain ⟨cr2,hcr2⟩:∃ c,c=rN.cr:=⟨_,rfl⟩
 rw [← hN] at HN3 ⊢
 rw [← hcr2]
 have HN:=Lib.hid hN
 have HCR:=Lib.hid hcr2
 clear hn3 hb3 hN hcr2
 go_upto_region 16 with fail
 obtain ⟨W4,hW4⟩:∃ W,W=((w3.alloc (.cells #[.slice a2g n d1,.int .u64 cr2,.slice a2t N d2,.slice a2a n d3,.slice a2f n d4] 74)).alloc (.cells #[.int .u64 xe.1,.int .u32 xe.2.1,.int .u32 xe.2.2] 120)):=⟨_,rfl⟩
 rw [← hW4]
 have hb4:Below w3.heap.size w3 W4:=by rw [hW4];exact Below.allocS (below_a _ _) _
 have y0:W4.cell? ⟨w3.heap.size,0,none⟩=some (.slice a2g n d1):=by rw [hW4];exact cell_al _ (cell_nw _ _ _ 0 _ rfl)
 have y1:W4.cell? ⟨w3.heap.size,1,none⟩=some (.int .u64 cr2):=by rw [hW4];exact cell_al _ (cell_nw _ _ _ 1 _ rfl)
 have y2:W4.cell? ⟨w3.heap.size,2,none⟩=some (.slice a2t N d2):=by rw [hW4];exact cell_al _ (cell_nw _ _ _ 2 _ rfl)
 have y3:W4.cell? ⟨w3.heap.size,3,none⟩=some (.slice a2a n d3):=by rw [hW4];exact cell_al _ (cell_nw _ _ _ 3 _ rfl)
 have y4:W4.cell? ⟨w3.heap.size,4,none⟩=some (.slice a2f n d4):=by rw [hW4];exact cell_al _ (cell_nw _ _ _ 4 _ rfl)
 have p0:W4.cell? ⟨w3.heap.size+1,0,none⟩=some (.int .u64 xe.1):=by rw [hW4];exact cell_nwE (by simp) _ _ 0 _ rfl
 have p1:W4.cell? ⟨w3.heap.size+1,1,none⟩=some (.int .u32 xe.2.1):=by rw [hW4];exact cell_nwE (by simp) _ _ 1 _ rfl
 have p2:W4.cell? ⟨w3.heap.size+1,2,none⟩=some (.int .u32 xe.2.2):=by rw [hW4];exact cell_nwE (by simp) _ _ 2 _ rfl
 have q:=uc5 ((pc5 c0 fc0 c1 fc1 c2 fc2 c3 fc3 c4 fc4).later hb4)
 clear c0 fc0 c1 fc1 c2 fc2 c3 fc3 c4 fc4
 obtain ⟨c0,fc0,c1,fc1,c2,fc2,c3,fc3,c4,fc4⟩:=q
 have q:=uc8 ((pc8 x0 fx0 x1 fx1 x2 fx2 x3 fx3 x4 fx4 x5 fx5 x6 fx6 x7 fx7).later hb4)
 clear x0 fx0 x1 fx1 x2 fx2 x3 fx3 x4 fx4 x5 fx5 x6 fx6 x7 fx7
 obtain ⟨x0,fx0,x1,fx1,x2,fx2,x3,fx3,x4,fx4,x5,fx5,x6,fx6,x7,fx7⟩:=q
 have q:=uc5 ((pc5 r0 fr0 r1 fr1 r2 fr2 r3 fr3 r4 fr4).later hb4)
 clear r0 fr0 r1 fr1 r2 fr2 r3 fr3 r4 fr4
 obtain ⟨r0,fr0,r1,fr1,r2,fr2,r3,fr3,r4,fr4⟩:=q
 have HB4:=Lib.hid (Below.step HB3.out hb4)
 have HX4:=Lib.hid hb4
 have L8:=Lib.hid (show W0.heap.size≤w3.heap.size from Nat.le_trans HS1.out H03.out.size)
 generalize hb8:w3.heap.size=b8 at y0 y1 y2 y3 y4 p0 p1 p2 L8 ⊢
 have m8:b8∉F:=fun m=>by have:=HF.out _ m;have h1:=HSZ.out;have h2:=L8.out;have h4:=HBX.out;omega
 have m9:b8+1∉F:=fun m=>by have:=HF.out _ m;have h1:=HSZ.out;have h2:=L8.out;have h4:=HBX.out;omega
 have HL4:=Lib.hid (show bx+1+1<W4.heap.size from lt_of_cell r0)
 have HH:=Lib.hid (show TreeIn W4 t F s from HI.out.below HB4.out)
 have HRR:=Lib.hid (show RHeld ((bx+1+1)::(G++F)) W4 ⟨a2g,a2t,a2a,a2f,d1,d2,d3,d4⟩ n N rN from (HN3.out ((bx+1+1)::(G++F)) (fun b hb=>by
  have h1:=HSZ.out;have h3:=HB0.out.size;have h4:=HBX.out;have h5:=HS1.out
  rcases List.mem_cons.1 hb with rfl | hb
  ·omega
  ·rcases List.mem_append.1 hb with hb | hb
   ·have:=HGL.out _ hb;omega
   ·have:=HF.out _ hb;omega) (HRH.out.step (Kept.of HB1.out) (fun b hb=>by
  have h1:=HBX.out
  rcases List.mem_cons.1 hb with rfl | hb
  ·exact Or.inr (by omega)
  ·exact Or.inl hb))).later HX4.out)
 clear hb4 hW4 hb8
 go_wp2_with fail
 refine (AP.out W4 HH.out).mono ?_
 rintro e w5 ⟨rfl,F5,h5,s5⟩
 have q:=uc5 ((pc5 r0 fr0 r1 fr1 r2 fr2 r3 fr3 r4 fr4).kept s5.kept nr)
 clear r0 fr0 r1 fr1 r2 fr2 r3 fr3 r4 fr4
 obtain ⟨r0,fr0,r1,fr1,r2,fr2,r3,fr3,r4,fr4⟩:=q
 replace y0:=s5.cell m8 y0
 replace y1:=s5.cell m8 y1
 replace y2:=s5.cell m8 y2
 replace y3:=s5.cell m8 y3
 replace y4:=s5.cell m8 y4
 replace p0:=s5.cell m9 p0
 replace p1:=s5.cell m9 p1
 replace p2:=s5.cell m9 p2
 have HS5:=Lib.hid s5
 have HH5:=Lib.hid h5
 have HZ5:=Lib.hid s5.kept.size
 clear s5 h5
 go_upto_region 17 with fail
 obtain ⟨W6,hW6⟩:∃ W,W=w5.alloc (.cells #[.int .u64 xe.1,.int .u32 xe.2.1,.int .u32 xe.2.2] 40):=⟨_,rfl⟩
 rw [← hW6]
 have hb6:Below w5.heap.size w5 W6:=by rw [hW6];exact below_a _ _
 have t0:W6.cell? ⟨w5.heap.size,0,none⟩=some (.int .u64 xe.1):=by rw [hW6];exact cell_nw _ _ _ 0 _ rfl
 have t1:W6.cell? ⟨w5.heap.size,1,none⟩=some (.int .u32 xe.2.1):=by rw [hW6];exact cell_nw _ _ _ 1 _ rfl
 have t2:W6.cell? ⟨w5.heap.size,2,none⟩=some (.int .u32 xe.2.2):=by rw [hW6];exact cell_nw _ _ _ 2 _ rfl
 have q:=uc5 ((pc5 r0 fr0 r1 fr1 r2 fr2 r3 fr3 r4 fr4).later hb6)
 clear r0 fr0 r1 fr1 r2 fr2 r3 fr3 r4 fr4
 obtain ⟨r0,fr0,r1,fr1,r2,fr2,r3,fr3,r4,fr4⟩:=q
 replace y0:=cell_later hb6 y0
 replace y1:=cell_later hb6 y1
 replace y2:=cell_later hb6 y2
 replace y3:=cell_later hb6 y3
 replace y4:=cell_later hb6 y4
 replace p0:=cell_later hb6 p0
 replace p1:=cell_later hb6 p1
 replace p2:=cell_later hb6 p2
 have HS6:=Lib.hid (HS5.out.trans (Step.of hb6))
 have HH6:=Lib.hid (HH5.out.below hb6)
 generalize hb9:w5.heap.size=b9 at t0 t1 t2 HZ5 ⊢
 have k8:b8∉[bx+1+1]:=fun m=>by simp at m;have h1:=HSZ.out;have h2:=L8.out;omega
 have k9:b8+1∉[bx+1+1]:=fun m=>by simp at m;have h1:=HSZ.out;have h2:=L8.out;omega
 have k10:b9∉[bx+1+1]:=fun m=>by simp at m;have h1:=HL4.out;have h2:=HZ5.out;omega
 have zq:=eqE_self xe.1 xe.2.1 xe.2.2
 clear hb6 hW6 hb9 m8 m9
 refine startA (S:=fun w'=>Kept [bx+1+1] W6 w'∧w'.cell? ⟨b8,0,none⟩=some (.slice a2g n d1)∧w'.cell? ⟨b8,1,none⟩=some (.int .u64 cr2)∧w'.cell? ⟨b8,2,none⟩=some (.slice a2t N d2)∧w'.cell? ⟨b8,3,none⟩=some (.slice a2a n d3)∧w'.cell? ⟨b8,4,none⟩=some (.slice a2f n d4)∧w'.cell? ⟨b8+1,0,none⟩=some (.int .u64 xe.1)∧w'.cell? ⟨b8+1,1,none⟩=some (.int .u32 xe.2.1)∧w'.cell? ⟨b8+1,2,none⟩=some (.int .u32 xe.2.2)∧w'.cell? ⟨b9,0,none⟩=some (.int .u64 xe.1)∧w'.cell? ⟨b9,1,none⟩=some (.int .u32 xe.2.1)∧w'.cell? ⟨b9,2,none⟩=some (.int .u32 xe.2.2)) ⟨Kept.refl _ _,y0,y1,y2,y3,y4,p0,p1,p2,t0,t1,t2⟩ (fun h=>heldK_11 (kept_dr _ _) h) (fun hS0 hHeld=>?_)
 refine takeA 0 ?_
 refine takeA 1 ?_
 refine takeA 2 ?_
 refine takeA 3 ?_
 refine takeA 4 ?_
 refine takeA 5 ?_
 refine takeA 6 ?_
 refine takeA 7 ?_
 refine takeA 8 ?_
 refine readyA [9] (consA (fun K hK=>?_) .nil)
 go_simp
 have KF:=(ks5 (S:=[bx+1+1]) (w:=W6) (b:=bx+1+1) (.slice a2g n d1) (.int .u64 cr2) (.slice a2t N d2) (.slice a2a n d3) (.slice a2f n d4) (by simp)).drew
 have KD:Kept [bx+1+1] W6.drew _:=⟨KF.os,KF.tape,KF.output,KF.size,KF.block⟩
 have q:=(cs5 (.slice a2g n d1) (.int .u64 cr2) (.slice a2t N d2) (.slice a2a n d3) (.slice a2f n d4) (pc5 r0 fr0 r1 fr1 r2 fr2 r3 fr3 r4 fr4)).later (Below.refl _ _).drew
 clear r0 fr0 r1 fr1 r2 fr2 r3 fr3 r4 fr4
 obtain ⟨r0,fr0,r1,fr1,r2,fr2,r3,fr3,r4,fr4⟩:=uc5 q
 clear q fr0 fr1 fr2 fr3 fr4
 obtain ⟨wq,hwq⟩:∃ wq,wq=((((((W6.setCell ⟨bx+1+1,0,none⟩ (.slice a2g n d1)).setCell ⟨bx+1+1,1,none⟩ (.int .u64 cr2)).setCell ⟨bx+1+1,2,none⟩ (.slice a2t N d2)).setCell ⟨bx+1+1,3,none⟩ (.slice a2a n d3)).setCell ⟨bx+1+1,4,none⟩ (.slice a2f n d4))).drew:=⟨_,rfl⟩
 clear KF
 rw [← hwq] at KD r0 r1 r2 r3 r4 ⊢
 clear hwq
 refine outA hK kpK_11 (fun hHeld9=>?_)
 clear hK K
 refine takeA 10 ?_
 refine doneA ?_
 go_wp2_with fail
 refine bodyPost_ret (v:=.tuple #[.agg #[.slice a2g n d1,.int .u64 cr2,.slice a2t N d2,.slice a2a n d3,.slice a2f n d4],.bool true]) (by simp [results,Tryz.results30,go_sem, *]) rfl ?_
 have HR9:=HRR.out
 rw [HN.out] at HR9 ⊢
 rw [HCR.out]
 exact pact_done HB4.out HF.out (by have:=HBX.out;omega) HL4.out HS6.out HH6.out HR9 ⟨KD.os,KD.tape,KD.output,KD.size,KD.block⟩ HB2.out
end Go.Proofs.YtfgmglghlapbcaaGreat
