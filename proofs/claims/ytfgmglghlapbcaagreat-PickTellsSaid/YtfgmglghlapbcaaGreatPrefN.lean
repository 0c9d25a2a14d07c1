/-
  Layer 25 (pick), the reference: Leave.
-/
import Derived.Test.YtfgmglghlapbcaaGreatRfI
namespace Go.Proofs.YtfgmglghlapbcaaGreat
open Go.RowKit Go.Maps Go.IntWalk Go.Lib Go.Sort Go.Shelf
set_option linter.unusedVariables false
set_option linter.unusedSimpArgs false
def leaveRX (r:RSt) (id:Int):Ent:=if thereC r id true=0 then r.T[atT r id]!.2.2 else (0,0,0)
def outTk (T:List (Int×Int×Ent)) (k:Nat):List (Int×Int×Ent):=T.take k++T.drop (k+1)
def leaveRS (r:RSt) (n:Nat) (id:Int):RSt:=if thereC r id true=0 then raisedR { r with T:=outTk r.T (atT r id) } n else r
theorem outTk_len {T:List (Int×Int×Ent)} {k:Nat} (hk:k<T.length):(outTk T k).length=T.length - 1:=by
 unfold outTk
 rw [List.length_append,List.length_take,List.length_drop]
 omega
set_option maxRecDepth 100000 in
set_option maxHeartbeats 4000000 in
theorem tLeave_at (r:RSt) (n m:Nat) (hl:ROk r n m) (id:Int) (a:RAd) (w:World) (hin:RIn w a.ag a.at' a.aa a.af a.cg a.ct a.ca a.cf n m r) :
  Calls Tryz.prog 63 #[.agg #[.slice a.ag n a.cg,.int .u64 r.cr,.slice a.at' m a.ct,.slice a.aa n a.ca,.slice a.af n a.cf],.int .i64 id] w (ResP w a r n m (leaveRS r n id) (tup3 (leaveRX r id) (thereC r id true))):=by
 obtain ⟨i0,hi,hz0,hz1,hz2⟩:=info_parts infoTk
 have HL:=Lib.hid hl
 have HIN:=Lib.hid hin
 have A2:=Lib.hid fun W (q:RIn W a.ag a.at' a.aa a.af a.cg a.ct a.ca a.cf n m r)=>tthere_at r n m hl.toRLen id true a.ag a.at' a.aa a.af a.cg a.ct a.ca a.cf W q
 have A3:=Lib.hid fun W (q:RIn W a.ag a.at' a.aa a.af a.cg a.ct a.ca a.cf n m r)=>tcopied_at r n m hl.toRLen a.ag a.at' a.aa a.af a.cg a.ct a.ca a.cf W q
 have HC:=Lib.hid (there_in (r:=r) (id:=id) (ok:=true))
 obtain ⟨c,hc⟩:∃ c,c=thereC r id true:=⟨_,rfl⟩
 have HF:=Lib.hid (show ∀ W,c≠0→Below w.heap.size w W→ResP w a r n m (leaveRS r n id) (tup3 (leaveRX r id) c) (.returned (tup3 (0,0,0) c (a.val n m r.cr))) W from fun W h hb=>by
  unfold leaveRS leaveRX
  rw [← hc,if_neg h,if_neg h]
  exact ResP.same (val:=tup3 (0,0,0) c) hl.t hb)
 have HE:=Lib.hid (show c=0→leaveRS r n id=raisedR { r with T:=outTk r.T (atT r id) } n∧leaveRX r id=r.T[atT r id]!.2.2 from fun h=>by unfold leaveRS leaveRX;rw [← hc,if_pos h,if_pos h];exact ⟨rfl,rfl⟩)
 rw [← hc]
 rw [← hc] at HC
 obtain ⟨ti,hti⟩:∃ i,i=thereI r id true:=⟨_,rfl⟩
 rw [← hti] at HC
 have HCC:=Lib.hid hc
 have HTI:=Lib.hid hti
 obtain ⟨ag,at',aa,af,cg,ct,ca,cf⟩:=a
 dsimp only at A2 A3 HIN ⊢
 have hn:=hl.pos
 have hfew:=hl.few
 clear hin hl hc hti
 obtain ⟨W0,hW0⟩:∃ W0,W0=(((w.alloc (.cells #[.slice ag n cg,.int .u64 r.cr,.slice at' m ct,.slice aa n ca,.slice af n cf] 74)).alloc (.cells #[.slice none 0 0,.int .u64 0,.slice none 0 0,.slice none 0 0,.slice none 0 0] 74)).alloc (.cells #[.int .u64 0,.int .u32 0,.int .u32 0] 120)):=⟨_,rfl⟩
 have HB0:=Lib.hid (show Below w.heap.size w W0 by rw [hW0];exact (Below.allocS (Below.allocS (Below.allocS (Below.refl _ _) _) _) _))
 obtain ⟨c0,fc0,c1,fc1,c2,fc2,c3,fc3,c4,fc4⟩:=uc5 (show CellsF W0 (w.heap.size) [.slice ag n cg,.int .u64 r.cr,.slice at' m ct,.slice aa n ca,.slice af n cf] by rw [hW0];exact ((CellsF.new (by simp)).later (below_a _ _)).later (below_a _ _))
 obtain ⟨r0,fr0,r1,fr1,r2,fr2,r3,fr3,r4,fr4⟩:=uc5 (show CellsF W0 (w.heap.size+1) [.slice none 0 0,.int .u64 0,.slice none 0 0,.slice none 0 0,.slice none 0 0] by rw [hW0];exact (CellsF.new (by simp)).later (below_a _ _))
 obtain ⟨q0,fq0,q1,fq1,q2,fq2⟩:=uc3 (show CellsF W0 (w.heap.size+1+1) [.int .u64 0,.int .u32 0,.int .u32 0] by rw [hW0];exact CellsF.new (by simp))
 have HSZ:=Lib.hid (show W0.heap.size=w.heap.size+1+1+1 by rw [hW0];simp)
 have HW0:=Lib.hid hW0
 clear hW0
 go_enter Tryz.func63,Tryz.ntmps63
 go_upto_region 1 with fail
 rw [← HW0.out]
 generalize hbx:w.heap.size=bx at c0 c1 c2 c3 c4 r0 r1 r2 r3 r4 q0 q1 q2 fc0 fc1 fc2 fc3 fc4 fr0 fr1 fr2 fr3 fr4 fq0 fq1 fq2 HSZ  ⊢
 have HBX:=Lib.hid hbx
 clear hbx HW0
 go_wp2_with fail
 refine (A2.out W0 (HIN.out.later HB0.out)).mono ?_;clear A2;rintro e w6 ⟨rfl,hb6⟩
 rw [← HCC.out,← HTI.out]
 have q:=uc5 ((pc5 c0 fc0 c1 fc1 c2 fc2 c3 fc3 c4 fc4).later hb6)
 clear c0 fc0 c1 fc1 c2 fc2 c3 fc3 c4 fc4
 obtain ⟨c0,fc0,c1,fc1,c2,fc2,c3,fc3,c4,fc4⟩:=q
 have q:=uc5 ((pc5 r0 fr0 r1 fr1 r2 fr2 r3 fr3 r4 fr4).later hb6)
 clear r0 fr0 r1 fr1 r2 fr2 r3 fr3 r4 fr4
 obtain ⟨r0,fr0,r1,fr1,r2,fr2,r3,fr3,r4,fr4⟩:=q
 have q:=uc3 ((pc3 q0 fq0 q1 fq1 q2 fq2).later hb6)
 clear q0 fq0 q1 fq1 q2 fq2
 obtain ⟨q0,fq0,q1,fq1,q2,fq2⟩:=q
 have HB6:=Lib.hid (Below.step HB0.out hb6)
 have hle:w.heap.size≤bx+1:=by have:=HBX.out;omega
 have hle2:w.heap.size≤bx+1+1:=by have:=HBX.out;omega
 clear hb6
 by_cases hc0:c=0
 ·subst hc0
  obtain ⟨h1,h2,h3,h4⟩:=HC.out rfl
  obtain ⟨k,hk⟩:∃ k,k=atT r id:=⟨_,rfl⟩
  have HE2:=Lib.hid (HE.out rfl)
  rw [← hk] at h1 h2 HE2
  subst h1
  rw [HL.out.t] at h2
  have hki:(k:Int)<(m:Int):=by omega
  have hk0:(0:Int)≤(k:Int):=by omega
  have hwr:IntKind.i64.wrap ((k:Int)+1)=(k:Int)+1:=IntWalk.i64_in _ (by omega)
  clear h3 h4 HE hk HC
  obtain ⟨b9,o9,hat,y0,y1,y2,y3,y4⟩:=(HIN.out.later HB6.out).task HL.out.toRLen h2
  obtain ⟨⟨ev,er,ew⟩,hev⟩:∃ v,v=r.T[k]!.2.2:=⟨_,rfl⟩
  rw [← hev] at y2 y3 y4 HE2
  dsimp only at y2 y3 y4
  have HEV:=Lib.hid hev
  subst hat
  clear hev y0 y1
  go_upto_region 5 with fail
  have hbEx:=lt_of_cell q0
  have hb67:Below w6.heap.size w6 (w6.alloc (.cells #[.int .u64 ev,.int .u32 er,.int .u32 ew] 120)):=below_a _ _
  have HB7:=Lib.hid (Below.step HB6.out hb67)
  have q:=uc5 ((pc5 c0 fc0 c1 fc1 c2 fc2 c3 fc3 c4 fc4).later hb67)
  clear c0 fc0 c1 fc1 c2 fc2 c3 fc3 c4 fc4
  obtain ⟨c0,fc0,c1,fc1,c2,fc2,c3,fc3,c4,fc4⟩:=q
  have q:=uc5 ((pc5 r0 fr0 r1 fr1 r2 fr2 r3 fr3 r4 fr4).later hb67)
  clear r0 fr0 r1 fr1 r2 fr2 r3 fr3 r4 fr4
  obtain ⟨r0,fr0,r1,fr1,r2,fr2,r3,fr3,r4,fr4⟩:=q
  have q:=uc3 ((pc3 q0 fq0 q1 fq1 q2 fq2).later hb67)
  clear q0 fq0 q1 fq1 q2 fq2
  obtain ⟨q0,fq0,q1,fq1,q2,fq2⟩:=q
  have k0:(w6.alloc (.cells #[.int .u64 ev,.int .u32 er,.int .u32 ew] 120)).cell? ⟨w6.heap.size,0,none⟩=some (.int .u64 ev):=cell_nw _ _ _ 0 _ rfl
  have fk0:(w6.alloc (.cells #[.int .u64 ev,.int .u32 er,.int .u32 ew] 120)).frozen? ⟨w6.heap.size,0,none⟩=false:=frz_nw _ _ _ 0
  have k1:(w6.alloc (.cells #[.int .u64 ev,.int .u32 er,.int .u32 ew] 120)).cell? ⟨w6.heap.size,1,none⟩=some (.int .u32 er):=cell_nw _ _ _ 1 _ rfl
  have fk1:(w6.alloc (.cells #[.int .u64 ev,.int .u32 er,.int .u32 ew] 120)).frozen? ⟨w6.heap.size,1,none⟩=false:=frz_nw _ _ _ 1
  have k2:(w6.alloc (.cells #[.int .u64 ev,.int .u32 er,.int .u32 ew] 120)).cell? ⟨w6.heap.size,2,none⟩=some (.int .u32 ew):=cell_nw _ _ _ 2 _ rfl
  have fk2:(w6.alloc (.cells #[.int .u64 ev,.int .u32 er,.int .u32 ew] 120)).frozen? ⟨w6.heap.size,2,none⟩=false:=frz_nw _ _ _ 2
  clear hb67 y2 y3 y4
  generalize (w6.alloc (.cells #[.int .u64 ev,.int .u32 er,.int .u32 ew] 120))=w7 at *
  generalize hbE:w6.heap.size=bE at *
  have HBE:=Lib.hid hbE
  clear hbE
  go_wp2_with fail
  have HLW:=Lib.hid (show bE<w7.heap.size from lt_of_cell k0)
  have hleb:w.heap.size≤bx:=Nat.le_of_eq HBX.out
  refine (A3.out w7 (HIN.out.later HB7.out)).mono ?_;rintro e wq1 ⟨bg,a1,ba,bf,dg,dt,da,df,rfl,hO,hb1⟩
  have hbb:=hb1
  have q:=uc5 ((pc5 c0 fc0 c1 fc1 c2 fc2 c3 fc3 c4 fc4).later hb1)
  clear c0 fc0 c1 fc1 c2 fc2 c3 fc3 c4 fc4
  obtain ⟨c0,fc0,c1,fc1,c2,fc2,c3,fc3,c4,fc4⟩:=q
  have q:=uc5 ((pc5 r0 fr0 r1 fr1 r2 fr2 r3 fr3 r4 fr4).later hb1)
  clear r0 fr0 r1 fr1 r2 fr2 r3 fr3 r4 fr4
  obtain ⟨r0,fr0,r1,fr1,r2,fr2,r3,fr3,r4,fr4⟩:=q
  have q:=uc3 ((pc3 q0 fq0 q1 fq1 q2 fq2).later hb1)
  clear q0 fq0 q1 fq1 q2 fq2
  obtain ⟨q0,fq0,q1,fq1,q2,fq2⟩:=q
  have q:=uc3 ((pc3 k0 fk0 k1 fk1 k2 fk2).later hb1)
  clear k0 fk0 k1 fk1 k2 fk2
  obtain ⟨k0,fk0,k1,fk1,k2,fk2⟩:=q
  have Qc:=Lib.hid (cs5 (.slice (some ⟨bg,0,none⟩) n dg) (.int .u64 r.cr) (.slice a1 m dt) (.slice (some ⟨ba,0,none⟩) n da) (.slice (some ⟨bf,0,none⟩) n df) (pc5 c0 fc0 c1 fc1 c2 fc2 c3 fc3 c4 fc4))
  have Qr:=Lib.hid (co5 (b:=bx) (.slice (some ⟨bg,0,none⟩) n dg) (.int .u64 r.cr) (.slice a1 m dt) (.slice (some ⟨ba,0,none⟩) n da) (.slice (some ⟨bf,0,none⟩) n df) (pc5 r0 fr0 r1 fr1 r2 fr2 r3 fr3 r4 fr4) (by first | (simp;done) | (simp;omega) | omega))
  have Qq:=Lib.hid (co5 (b:=bx) (.slice (some ⟨bg,0,none⟩) n dg) (.int .u64 r.cr) (.slice a1 m dt) (.slice (some ⟨ba,0,none⟩) n da) (.slice (some ⟨bf,0,none⟩) n df) (pc3 q0 fq0 q1 fq1 q2 fq2) (by first | (simp;done) | (simp;omega) | omega))
  have Qk:=Lib.hid (co5 (b:=bx) (.slice (some ⟨bg,0,none⟩) n dg) (.int .u64 r.cr) (.slice a1 m dt) (.slice (some ⟨ba,0,none⟩) n da) (.slice (some ⟨bf,0,none⟩) n df) (pc3 k0 fk0 k1 fk1 k2 fk2) (by first | (simp;done) | (simp;omega) | omega))
  have hlow:bx<w7.heap.size:=by have:=HLW.out;omega
  have HO1:=Lib.hid (show ROwn w7.heap.size (((((wq1.setCell ⟨bx,0,none⟩ (.slice (some ⟨bg,0,none⟩) n dg)).setCell ⟨bx,1,none⟩ (.int .u64 r.cr)).setCell ⟨bx,2,none⟩ (.slice a1 m dt)).setCell ⟨bx,3,none⟩ (.slice (some ⟨ba,0,none⟩) n da)).setCell ⟨bx,4,none⟩ (.slice (some ⟨bf,0,none⟩) n df)) bg a1 ba bf dg dt da df n m r from ((((hO.low (a:=⟨bx,0,none⟩) hlow _).low (a:=⟨bx,1,none⟩) hlow _).low (a:=⟨bx,2,none⟩) hlow _).low (a:=⟨bx,3,none⟩) hlow _).low (a:=⟨bx,4,none⟩) hlow _)
  have HB1:=Lib.hid (show Below w.heap.size w (((((wq1.setCell ⟨bx,0,none⟩ (.slice (some ⟨bg,0,none⟩) n dg)).setCell ⟨bx,1,none⟩ (.int .u64 r.cr)).setCell ⟨bx,2,none⟩ (.slice a1 m dt)).setCell ⟨bx,3,none⟩ (.slice (some ⟨ba,0,none⟩) n da)).setCell ⟨bx,4,none⟩ (.slice (some ⟨bf,0,none⟩) n df)) from ((((((Below.step HB7.out hbb).setCell hleb _).setCell hleb _).setCell hleb _).setCell hleb _).setCell hleb _))
  have HS1:=Lib.hid (show w7.heap.size≤(((((wq1.setCell ⟨bx,0,none⟩ (.slice (some ⟨bg,0,none⟩) n dg)).setCell ⟨bx,1,none⟩ (.int .u64 r.cr)).setCell ⟨bx,2,none⟩ (.slice a1 m dt)).setCell ⟨bx,3,none⟩ (.slice (some ⟨ba,0,none⟩) n da)).setCell ⟨bx,4,none⟩ (.slice (some ⟨bf,0,none⟩) n df)).heap.size by simp only [World.size_setCell];exact hbb.size)
  clear hO hb1 hbb hlow
  go_upto_region 6 with fail
  clear c0 fc0 c1 fc1 c2 fc2 c3 fc3 c4 fc4 r0 fr0 r1 fr1 r2 fr2 r3 fr3 r4 fr4 q0 fq0 q1 fq1 q2 fq2 k0 fk0 k1 fk1 k2 fk2
  generalize hW:(((((wq1.setCell ⟨bx,0,none⟩ (.slice (some ⟨bg,0,none⟩) n dg)).setCell ⟨bx,1,none⟩ (.int .u64 r.cr)).setCell ⟨bx,2,none⟩ (.slice a1 m dt)).setCell ⟨bx,3,none⟩ (.slice (some ⟨ba,0,none⟩) n da)).setCell ⟨bx,4,none⟩ (.slice (some ⟨bf,0,none⟩) n df))=W1 at *
  clear hW
  obtain ⟨c0,fc0,c1,fc1,c2,fc2,c3,fc3,c4,fc4⟩:=uc5 Qc.out
  obtain ⟨r0,fr0,r1,fr1,r2,fr2,r3,fr3,r4,fr4⟩:=uc5 Qr.out
  obtain ⟨q0,fq0,q1,fq1,q2,fq2⟩:=uc3 Qq.out
  obtain ⟨k0,fk0,k1,fk1,k2,fk2⟩:=uc3 Qk.out
  clear Qc Qr Qq Qk
  have RI:=Lib.hid (HO1.out.rin HL.out.toRLen)
  obtain ⟨b,hb0⟩:∃ b,a1=some ⟨b,0,none⟩:=by
   obtain ⟨g',c',e'⟩:=own_pos HO1.out.t (by omega)
   simp only [Value.slice.injEq] at e'
   exact ⟨g',e'.1⟩
  subst hb0
  obtain ⟨hcg,hct,hca,hcf⟩:=RI.out.caps
  have hjm2:k+1≤m:=by omega
  have RT:=Lib.hid (sliced_take (m:=k) encTk_ok RI.out.t (by omega))
  have RD:=Lib.hid (sliced_drop (m:=k+1) encTk_ok RI.out.t hjm2)
  have hlT:=Lib.hid (show (r.T.take k).length=k by rw [List.length_take,HL.out.t];omega)
  have hlD:=Lib.hid (show (r.T.drop (k+1)).length=m - (k+1) by rw [List.length_drop,HL.out.t])
  have hjC:k≤dt:=by omega
  obtain ⟨vT,hvT⟩:∃ v,v=sliced (some ⟨b,0,none⟩) 0 k dt 5:=⟨_,rfl⟩
  obtain ⟨vD,hvD⟩:∃ v,v=sliced (some ⟨b,0,none⟩) (k+1) m dt 5:=⟨_,rfl⟩
  rw [← hvT] at RT
  rw [← hvD] at RD
  have HVT:=Lib.hid hvT
  have HVD:=Lib.hid hvD
  clear hvT hvD hcg hca hcf
  have hS0:Below W1.heap.size W1 W1.drew∧W1.drew.cell? ⟨bx,2,none⟩=some (.slice (some ⟨b,0,none⟩) m dt):=⟨Below.drew (Below.refl _ _),cell_dr c2⟩
  refine startU [13] (fun w'=>Below W1.heap.size W1 w'∧w'.cell? ⟨bx,2,none⟩=some (.slice (some ⟨b,0,none⟩) m dt)) (by kernel_rfl) hS0 (fun hHeld=>?_)
  have hS00:Below W1.heap.size W1 W1∧W1.cell? ⟨bx,2,none⟩=some (.slice (some ⟨b,0,none⟩) m dt):=⟨Below.refl _ _,c2⟩
  obtain ⟨wc101,hwc101⟩:∃ X,X=W1.drew:=⟨_,rfl⟩
  rw [← hwc101] at hHeld ⊢
  have hWc101:Below W1.heap.size W1 wc101:=by rw [hwc101];exact (Below.refl _ _).drew
  clear hwc101
  refine takeUw (i:=1) (v:=?v1_102) rfl (by kernel_rfl) (fun _ _ _ h=>h) (by rfl) ?hy1_102 (by assumption) ?rest1_102
  case hy1_102=>(intro w hSw;(try dsimp only at hSw);go_simp;try with_reducible rfl)
  try simp only [Act.put,List.setIfInBounds_toArray,List.set_cons_zero,List.set_cons_succ]
  refine takeUw (i:=2) (v:=?v2_103) rfl (by kernel_rfl) (fun _ _ _ h=>h) (by rfl) ?hy2_103 (by assumption) ?rest2_103
  case hy2_103=>(intro w hSw;(try dsimp only at hSw);go_simp;try with_reducible rfl)
  try simp only [Act.put,List.setIfInBounds_toArray,List.set_cons_zero,List.set_cons_succ]
  refine takeUw (i:=3) (v:=?v3_104) rfl (by kernel_rfl) (fun _ _ _ h=>h) (by rfl) ?hy3_104 (by assumption) ?rest3_104
  case hy3_104=>(intro w hSw;(try dsimp only at hSw);go_simp;try with_reducible rfl)
  try simp only [Act.put,List.setIfInBounds_toArray,List.set_cons_zero,List.set_cons_succ]
  refine takeUw (i:=4) (v:=vT) rfl (by kernel_rfl) (fun _ _ _ h=>h) (by rfl) (fun w _=>by rw [HVT.out];exact run_take 71 (.tmp 31) (.tmp 32) rfl undTks sizeTk rfl rfl hjC) (by assumption) ?_
  try simp only [Act.put,List.setIfInBounds_toArray,List.set_cons_zero,List.set_cons_succ]
  refine takeUw (i:=6) (v:=?v6_105) rfl (by kernel_rfl) (fun _ _ _ h=>h) (by rfl) ?hy6_105 (by assumption) ?rest6_105
  case hy6_105=>(intro w hSw;(try dsimp only at hSw);go_simp;try with_reducible rfl)
  try simp only [Act.put,List.setIfInBounds_toArray,List.set_cons_zero,List.set_cons_succ]
  refine takeUw (i:=7) (v:=?v7_106) rfl (by kernel_rfl) (fun _ _ _ h=>h) (by rfl) ?hy7_106 (by assumption) ?rest7_106
  case hy7_106=>(intro w hSw;(try dsimp only at hSw);go_simp;try with_reducible rfl)
  try simp only [Act.put,List.setIfInBounds_toArray,List.set_cons_zero,List.set_cons_succ]
  refine takeUw (i:=8) (v:=?v8_107) rfl (by kernel_rfl) (fun _ _ _ h=>h) (by rfl) ?hy8_107 (by assumption) ?rest8_107
  case hy8_107=>(intro w hSw;(try dsimp only at hSw);go_simp;try with_reducible rfl)
  try simp only [Act.put,List.setIfInBounds_toArray,List.set_cons_zero,List.set_cons_succ]
  refine takeUw (i:=9) (v:=?v9_108) rfl (by kernel_rfl) (fun _ _ _ h=>h) (by rfl) ?hy9_108 (by assumption) ?rest9_108
  case hy9_108=>(intro w hSw;(try dsimp only at hSw);go_simp;try with_reducible rfl)
  try simp only [Act.put,List.setIfInBounds_toArray,List.set_cons_zero,List.set_cons_succ]
  refine takeUw (i:=10) (v:=vD) rfl (by kernel_rfl) (fun _ _ _ h=>h) (by rfl) (fun w _=>by rw [HVD.out];exact run_drop 71 (.tmp 36) (.tmp 38) rfl undTks sizeTk rfl rfl hjm2) (by assumption) ?_
  try simp only [Act.put,List.setIfInBounds_toArray,List.set_cons_zero,List.set_cons_succ]
  refine readyU (rs:=[0]) (by kernel_rfl) (by simp) ?_
  refine consU rfl (fun K hK=>?_) (nilU)
  go_simp
  obtain ⟨w109,hw109⟩:∃ X,X=wc101.alloc (.cells #[] 131):=⟨_,rfl⟩
  rw [← hw109]
  have hb109:Below wc101.heap.size wc101 w109:=by rw [hw109];exact below_a _ _
  have hW109:=Below.step hWc101 hb109
  have o0:w109.ownsRow W1.heap.size 131 5 (.slice (some ⟨wc101.heap.size,0,none⟩) 0 0) 0 []:=by rw [hw109];exact World.ownsRow_lit _ #[] 0 hWc101.size (by unfold maxLen;omega) rfl
  clear hw109
  refine hK.out _ _ (held_1 hW109 hS00) (fun hHeld0=>?_)
  clear hK K
  try simp only [Act.put,List.setIfInBounds_toArray,List.set_cons_zero,List.set_cons_succ]
  refine readyU (rs:=[5]) (by kernel_rfl) (by simp) ?_
  refine consU rfl (fun K hK=>?_) (nilU)
  refine stepF rfl (.tmp 29) (.tmp 33) 71 rfl W1.heap.size 131 i0 (.agg #[.int .i64 0,.int .i64 0,.int .u64 0,.int .u32 0,.int .u32 0]) 5 32 encTk_ok Tryz.underlying71 hi hz0 hz1 hz2 rfl _ rfl o0 _ _ rfl (RT.out.later hW109) (by have:=hlT.out;have:=hlD.out;unfold maxLen;omega) (by have:=hlT.out;have:=hlD.out;omega) hW109.size ?_
  intro v110 w110 o5 hb110 hp110
  have hW110:=Below.step hW109 hb110
  refine hK.out _ _ (held_1 hW110 hS00) (fun hHeld5=>?_)
  clear hK K
  try simp only [Act.put,List.setIfInBounds_toArray,List.set_cons_zero,List.set_cons_succ]
  refine readyU (rs:=[11]) (by kernel_rfl) (by simp) ?_
  refine consU rfl (fun K hK=>?_) (nilU)
  refine stepR rfl (.tmp 34) (.tmp 39) 71 rfl W1.heap.size 131 i0 (.agg #[.int .i64 0,.int .i64 0,.int .u64 0,.int .u32 0,.int .u32 0]) 5 32 encTk_ok Tryz.underlying71 hi hz0 hz1 hz2 rfl _ _ _ rfl o5 _ _ rfl (RD.out.later hW110) (by have:=hlT.out;have:=hlD.out;unfold maxLen;omega) (by have:=hlT.out;have:=hlD.out;omega) hW110.size ?_
  intro v111 w111 o13 hg111 hp111 hn111
  have hW111:Below W1.heap.size W1 w111:=hW110.grown hg111 hW110.size (fun g hg=>(o5.lt g hg).1)
  refine hK.out _ _ (held_1 hW111 hS00) (fun hHeld11=>?_)
  clear hK K
  try simp only [Act.put,List.setIfInBounds_toArray,List.set_cons_zero,List.set_cons_succ]
  refine takeUw (i:=12) (v:=?v12_112) rfl (by kernel_rfl) (fun _ _ _ h=>h) (by rfl) ?hy12_112 (by assumption) ?rest12_112
  case hy12_112=>(intro w hSw;(try dsimp only at hSw);go_simp;try with_reducible rfl)
  try simp only [Act.put,List.setIfInBounds_toArray,List.set_cons_zero,List.set_cons_succ]
  refine readyU (rs:=[13]) (by kernel_rfl) (by simp) ?_
  refine consV rfl (by kernel_rfl) (fun K hK=>?_) (nilU)
  rw [hlT.out,hlD.out,show k+(m - (k+1))=m - 1 by omega] at o13
  obtain ⟨ga,gc,rfl⟩:=own_shapeI o13
  replace fc0:=frz_later hW111 fc0 (lt_of_cell c0)
  replace fc1:=frz_later hW111 fc1 (lt_of_cell c1)
  replace fc2:=frz_later hW111 fc2 (lt_of_cell c2)
  replace fc3:=frz_later hW111 fc3 (lt_of_cell c3)
  replace fc4:=frz_later hW111 fc4 (lt_of_cell c4)
  replace fr0:=frz_later hW111 fr0 (lt_of_cell r0)
  replace fr1:=frz_later hW111 fr1 (lt_of_cell r1)
  replace fr2:=frz_later hW111 fr2 (lt_of_cell r2)
  replace fr3:=frz_later hW111 fr3 (lt_of_cell r3)
  replace fr4:=frz_later hW111 fr4 (lt_of_cell r4)
  replace fq0:=frz_later hW111 fq0 (lt_of_cell q0)
  replace fq1:=frz_later hW111 fq1 (lt_of_cell q1)
  replace fq2:=frz_later hW111 fq2 (lt_of_cell q2)
  replace fk0:=frz_later hW111 fk0 (lt_of_cell k0)
  replace fk1:=frz_later hW111 fk1 (lt_of_cell k1)
  replace fk2:=frz_later hW111 fk2 (lt_of_cell k2)
  replace c0:=cell_later hW111 c0
  replace c1:=cell_later hW111 c1
  replace c2:=cell_later hW111 c2
  replace c3:=cell_later hW111 c3
  replace c4:=cell_later hW111 c4
  replace r0:=cell_later hW111 r0
  replace r1:=cell_later hW111 r1
  replace r2:=cell_later hW111 r2
  replace r3:=cell_later hW111 r3
  replace r4:=cell_later hW111 r4
  replace q0:=cell_later hW111 q0
  replace q1:=cell_later hW111 q1
  replace q2:=cell_later hW111 q2
  replace k0:=cell_later hW111 k0
  replace k1:=cell_later hW111 k1
  replace k2:=cell_later hW111 k2
  go_simp
  refine hK.out _ _ ?_
  clear hK K
  try simp only [Act.put,List.setIfInBounds_toArray,List.set_cons_zero,List.set_cons_succ]
  refine doneU (by kernel_rfl) ?_ _
  replace c0:(w111.setCell ⟨bx,2,none⟩ (.slice ga (m - 1) gc)).cell? ⟨bx,0,none⟩=some (.slice (some ⟨bg,0,none⟩) n dg):=cell_set_ne c0 (Or.inr (by decide))
  replace fc0:(w111.setCell ⟨bx,2,none⟩ (.slice ga (m - 1) gc)).frozen? ⟨bx,0,none⟩=false:=by rw [World.frozen?_setCell];exact fc0
  replace c1:(w111.setCell ⟨bx,2,none⟩ (.slice ga (m - 1) gc)).cell? ⟨bx,1,none⟩=some (.int .u64 r.cr):=cell_set_ne c1 (Or.inr (by decide))
  replace fc1:(w111.setCell ⟨bx,2,none⟩ (.slice ga (m - 1) gc)).frozen? ⟨bx,1,none⟩=false:=by rw [World.frozen?_setCell];exact fc1
  replace c2:(w111.setCell ⟨bx,2,none⟩ (.slice ga (m - 1) gc)).cell? ⟨bx,2,none⟩=some (.slice ga (m - 1) gc):=cell_set_eq c2
  replace fc2:(w111.setCell ⟨bx,2,none⟩ (.slice ga (m - 1) gc)).frozen? ⟨bx,2,none⟩=false:=by rw [World.frozen?_setCell];exact fc2
  replace c3:(w111.setCell ⟨bx,2,none⟩ (.slice ga (m - 1) gc)).cell? ⟨bx,3,none⟩=some (.slice (some ⟨ba,0,none⟩) n da):=cell_set_ne c3 (Or.inr (by decide))
  replace fc3:(w111.setCell ⟨bx,2,none⟩ (.slice ga (m - 1) gc)).frozen? ⟨bx,3,none⟩=false:=by rw [World.frozen?_setCell];exact fc3
  replace c4:(w111.setCell ⟨bx,2,none⟩ (.slice ga (m - 1) gc)).cell? ⟨bx,4,none⟩=some (.slice (some ⟨bf,0,none⟩) n df):=cell_set_ne c4 (Or.inr (by decide))
  replace fc4:(w111.setCell ⟨bx,2,none⟩ (.slice ga (m - 1) gc)).frozen? ⟨bx,4,none⟩=false:=by rw [World.frozen?_setCell];exact fc4
  replace r0:(w111.setCell ⟨bx,2,none⟩ (.slice ga (m - 1) gc)).cell? ⟨bx+1,0,none⟩=some (.slice none 0 0):=cell_set_ne r0 (Or.inl (by first | (simp;done) | (simp;omega) | omega))
  replace fr0:(w111.setCell ⟨bx,2,none⟩ (.slice ga (m - 1) gc)).frozen? ⟨bx+1,0,none⟩=false:=by rw [World.frozen?_setCell];exact fr0
  replace r1:(w111.setCell ⟨bx,2,none⟩ (.slice ga (m - 1) gc)).cell? ⟨bx+1,1,none⟩=some (.int .u64 0):=cell_set_ne r1 (Or.inl (by first | (simp;done) | (simp;omega) | omega))
  replace fr1:(w111.setCell ⟨bx,2,none⟩ (.slice ga (m - 1) gc)).frozen? ⟨bx+1,1,none⟩=false:=by rw [World.frozen?_setCell];exact fr1
  replace r2:(w111.setCell ⟨bx,2,none⟩ (.slice ga (m - 1) gc)).cell? ⟨bx+1,2,none⟩=some (.slice none 0 0):=cell_set_ne r2 (Or.inl (by first | (simp;done) | (simp;omega) | omega))
  replace fr2:(w111.setCell ⟨bx,2,none⟩ (.slice ga (m - 1) gc)).frozen? ⟨bx+1,2,none⟩=false:=by rw [World.frozen?_setCell];exact fr2
  replace r3:(w111.setCell ⟨bx,2,none⟩ (.slice ga (m - 1) gc)).cell? ⟨bx+1,3,none⟩=some (.slice none 0 0):=cell_set_ne r3 (Or.inl (by first | (simp;done) | (simp;omega) | omega))
  replace fr3:(w111.setCell ⟨bx,2,none⟩ (.slice ga (m - 1) gc)).frozen? ⟨bx+1,3,none⟩=false:=by rw [World.frozen?_setCell];exact fr3
  replace r4:(w111.setCell ⟨bx,2,none⟩ (.slice ga (m - 1) gc)).cell? ⟨bx+1,4,none⟩=some (.slice none 0 0):=cell_set_ne r4 (Or.inl (by first | (simp;done) | (simp;omega) | omega))
  replace fr4:(w111.setCell ⟨bx,2,none⟩ (.slice ga (m - 1) gc)).frozen? ⟨bx+1,4,none⟩=false:=by rw [World.frozen?_setCell];exact fr4
  replace q0:(w111.setCell ⟨bx,2,none⟩ (.slice ga (m - 1) gc)).cell? ⟨bx+1+1,0,none⟩=some (.int .u64 0):=cell_set_ne q0 (Or.inl (by first | (simp;done) | (simp;omega) | omega))
  replace fq0:(w111.setCell ⟨bx,2,none⟩ (.slice ga (m - 1) gc)).frozen? ⟨bx+1+1,0,none⟩=false:=by rw [World.frozen?_setCell];exact fq0
  replace q1:(w111.setCell ⟨bx,2,none⟩ (.slice ga (m - 1) gc)).cell? ⟨bx+1+1,1,none⟩=some (.int .u32 0):=cell_set_ne q1 (Or.inl (by first | (simp;done) | (simp;omega) | omega))
  replace fq1:(w111.setCell ⟨bx,2,none⟩ (.slice ga (m - 1) gc)).frozen? ⟨bx+1+1,1,none⟩=false:=by rw [World.frozen?_setCell];exact fq1
  replace q2:(w111.setCell ⟨bx,2,none⟩ (.slice ga (m - 1) gc)).cell? ⟨bx+1+1,2,none⟩=some (.int .u32 0):=cell_set_ne q2 (Or.inl (by first | (simp;done) | (simp;omega) | omega))
  replace fq2:(w111.setCell ⟨bx,2,none⟩ (.slice ga (m - 1) gc)).frozen? ⟨bx+1+1,2,none⟩=false:=by rw [World.frozen?_setCell];exact fq2
  replace k0:(w111.setCell ⟨bx,2,none⟩ (.slice ga (m - 1) gc)).cell? ⟨bE,0,none⟩=some (.int .u64 ev):=cell_set_ne k0 (Or.inl (by first | (simp;done) | (simp;omega) | omega))
  replace fk0:(w111.setCell ⟨bx,2,none⟩ (.slice ga (m - 1) gc)).frozen? ⟨bE,0,none⟩=false:=by rw [World.frozen?_setCell];exact fk0
  replace k1:(w111.setCell ⟨bx,2,none⟩ (.slice ga (m - 1) gc)).cell? ⟨bE,1,none⟩=some (.int .u32 er):=cell_set_ne k1 (Or.inl (by first | (simp;done) | (simp;omega) | omega))
  replace fk1:(w111.setCell ⟨bx,2,none⟩ (.slice ga (m - 1) gc)).frozen? ⟨bE,1,none⟩=false:=by rw [World.frozen?_setCell];exact fk1
  replace k2:(w111.setCell ⟨bx,2,none⟩ (.slice ga (m - 1) gc)).cell? ⟨bE,2,none⟩=some (.int .u32 ew):=cell_set_ne k2 (Or.inl (by first | (simp;done) | (simp;omega) | omega))
  replace fk2:(w111.setCell ⟨bx,2,none⟩ (.slice ga (m - 1) gc)).frozen? ⟨bE,2,none⟩=false:=by rw [World.frozen?_setCell];exact fk2
  have hlow:bx<w7.heap.size:=by have:=HLW.out;omega
  have hpre:ROwn w7.heap.size w111 bg ga ba bf dg gc da df n (m - 1) { r with T:=outTk r.T k }:=⟨own_below HO1.out.g hW111,by
   show World.ownsRow _ _ _ _ _ _ (flatR encTk (outTk r.T k))
   rw [show flatR encTk (outTk r.T k)=flatR encTk (r.T.take k)++flatR encTk (r.T.drop (k+1)) by unfold outTk;rw [flatR_app]]
   exact own_base o13 HS1.out,own_below HO1.out.a hW111,own_below HO1.out.f hW111⟩
  have HO2:=Lib.hid (show ROwn w7.heap.size (w111.setCell ⟨bx,2,none⟩ (.slice ga (m - 1) gc)) bg ga ba bf dg gc da df n (m - 1) { r with T:=outTk r.T k } from hpre.low (a:=⟨bx,2,none⟩) hlow _)
  have HB2:=Lib.hid (show Below w.heap.size w (w111.setCell ⟨bx,2,none⟩ (.slice ga (m - 1) gc)) from (Below.step HB1.out hW111).setCell (by show w.heap.size≤bx;exact hleb) _)
  clear hpre o13 hlow hS00 hS0
  generalize (w111.setCell ⟨bx,2,none⟩ (.slice ga (m - 1) gc))=W2 at *
  go_wp2_with fail
  have hgeb:=HO2.out.ge
  have hbl:=HLW.out
  have HL3:=Lib.hid (show RLen { r with T:=outTk r.T k } n (m - 1) from ⟨HL.out.g,by show (outTk r.T k).length=m - 1;rw [outTk_len (by rw [HL.out.t];exact h2),HL.out.t],HL.out.a,HL.out.f,HL.out.right,by omega⟩)
  have nb:bx∉[bx+1,bx+1+1,bf]:=by simp only [List.mem_cons,List.not_mem_nil,or_false,not_or];omega
  have nE:bE∉[bx+1,bx+1+1,bf]:=by simp only [List.mem_cons,List.not_mem_nil,or_false,not_or];omega
  have nr:bx+1∉[bf]:=by simp only [List.mem_cons,List.not_mem_nil,or_false];omega
  have nq:bx+1+1∉[bf]:=by simp only [List.mem_cons,List.not_mem_nil,or_false];omega
  have hbfw:w.heap.size≤bf:=by have:=HB7.out.size;omega
  refine startB (S:=fun w'=>Kept [bx+1,bx+1+1,bf] W2 w'∧w'.cell? ⟨bx,0,none⟩=some (.slice (some ⟨bg,0,none⟩) n dg)∧w'.cell? ⟨bx,1,none⟩=some (.int .u64 r.cr)∧w'.cell? ⟨bx,2,none⟩=some (.slice ga (m - 1) gc)∧w'.cell? ⟨bx,3,none⟩=some (.slice (some ⟨ba,0,none⟩) n da)∧w'.cell? ⟨bx,4,none⟩=some (.slice (some ⟨bf,0,none⟩) n df)∧w'.cell? ⟨bE,0,none⟩=some (.int .u64 ev)∧w'.cell? ⟨bE,1,none⟩=some (.int .u32 er)∧w'.cell? ⟨bE,2,none⟩=some (.int .u32 ew)) ⟨Kept.refl _ _,c0,c1,c2,c3,c4,k0,k1,k2⟩ (fun h=>heldK_8 (kept_dr _ _) h) (fun hS00 hS0 hHeld=>?_)
  obtain ⟨wc113,hwc113⟩:∃ X,X=W2.drew:=⟨_,rfl⟩
  rw [← hwc113] at hHeld ⊢
  have hWc113:Below W2.heap.size W2 wc113:=by rw [hwc113];exact (Below.refl _ _).drew
  clear hwc113
  refine takeA 0 ?_
  refine readyA [1,2] (consA (fun K hK=>?_) (consA (fun K hK=>?_) .nil))
  ·skip
   go_simp
   refine (traised_at { r with T:=outTk r.T k } n (m - 1) HL3.out w7.heap.size bg ga ba bf dg gc da df wc113 (HO2.out.later hWc113)).mono ?_
   rintro e w114 ⟨rfl,hO,hkr⟩
   have hKb:Kept [bf] W2 w114:=(Kept.of hWc113).trans hkr
   have hK114:Kept [bx+1,bx+1+1,bf] W2 w114:=hKb.mono (fun b hb=>by simp at hb;simp [hb])
   have gfr0:=hKb.frz fr0 (lt_of_cell r0) nr
   have gr0:=hKb.cellAt r0 nr
   have gfr1:=hKb.frz fr1 (lt_of_cell r1) nr
   have gr1:=hKb.cellAt r1 nr
   have gfr2:=hKb.frz fr2 (lt_of_cell r2) nr
   have gr2:=hKb.cellAt r2 nr
   have gfr3:=hKb.frz fr3 (lt_of_cell r3) nr
   have gr3:=hKb.cellAt r3 nr
   have gfr4:=hKb.frz fr4 (lt_of_cell r4) nr
   have gr4:=hKb.cellAt r4 nr
   have gfq0:=hKb.frz fq0 (lt_of_cell q0) nq
   have gq0:=hKb.cellAt q0 nq
   have gfq1:=hKb.frz fq1 (lt_of_cell q1) nq
   have gq1:=hKb.cellAt q1 nq
   have gfq2:=hKb.frz fq2 (lt_of_cell q2) nq
   have gq2:=hKb.cellAt q2 nq
   go_wp2_with fail
   refine outA hK (heldK_8 (S:=[bx+1,bx+1+1,bf]) (hK114) hS00 nb nb nb nb nb nE nE nE) (fun hHeld1=>?_)
   clear hK K
   refine readyA [2,3] (consA (fun K hK=>?_) (consA (fun K hK=>?_) .nil))
   ·skip
    go_simp
    refine outA hK (heldK_8 (S:=[bx+1,bx+1+1,bf]) (hK114) hS00 nb nb nb nb nb nE nE nE) (fun hHeld2=>?_)
    clear hK K
    refine readyA [3] (consA (fun K hK=>?_) .nil)
    go_simp
    have hk115:Kept [bx+1,bx+1+1,bf] W2 (((((w114.setCell ⟨bx+1,0,none⟩ (.slice (some ⟨bg,0,none⟩) n dg)).setCell ⟨bx+1,1,none⟩ (.int .u64 r.cr)).setCell ⟨bx+1,2,none⟩ (.slice ga (m - 1) gc)).setCell ⟨bx+1,3,none⟩ (.slice (some ⟨ba,0,none⟩) n da)).setCell ⟨bx+1,4,none⟩ (.slice (some ⟨bf,0,none⟩) n df)):=(((((hK114.setCell (p:=⟨bx+1,0,none⟩) (Or.inl (by simp)) _).setCell (p:=⟨bx+1,1,none⟩) (Or.inl (by simp)) _).setCell (p:=⟨bx+1,2,none⟩) (Or.inl (by simp)) _).setCell (p:=⟨bx+1,3,none⟩) (Or.inl (by simp)) _).setCell (p:=⟨bx+1,4,none⟩) (Or.inl (by simp)) _)
    refine outA hK (heldK_8 (S:=[bx+1,bx+1+1,bf]) (hk115) hS00 nb nb nb nb nb nE nE nE) (fun hHeld3=>?_)
    clear hK K
    refine readyA [4] (consA (fun K hK=>?_) .nil)
    go_simp
    have hk116:Kept [bx+1,bx+1+1,bf] W2 ((((((((w114.setCell ⟨bx+1,0,none⟩ (.slice (some ⟨bg,0,none⟩) n dg)).setCell ⟨bx+1,1,none⟩ (.int .u64 r.cr)).setCell ⟨bx+1,2,none⟩ (.slice ga (m - 1) gc)).setCell ⟨bx+1,3,none⟩ (.slice (some ⟨ba,0,none⟩) n da)).setCell ⟨bx+1,4,none⟩ (.slice (some ⟨bf,0,none⟩) n df)).setCell ⟨bx+1+1,0,none⟩ (.int .u64 ev)).setCell ⟨bx+1+1,1,none⟩ (.int .u32 er)).setCell ⟨bx+1+1,2,none⟩ (.int .u32 ew)):=(((hk115.setCell (p:=⟨bx+1+1,0,none⟩) (Or.inl (by simp)) _).setCell (p:=⟨bx+1+1,1,none⟩) (Or.inl (by simp)) _).setCell (p:=⟨bx+1+1,2,none⟩) (Or.inl (by simp)) _)
    refine outA hK (heldK_8 (S:=[bx+1,bx+1+1,bf]) (hk116) hS00 nb nb nb nb nb nE nE nE) (fun hHeld4=>?_)
    clear hK K
    refine takeA 5 ?_
    refine doneA ?_
    have HO:=Lib.hid hO
    have HB9:=Lib.hid (show Below w.heap.size w w114 from HB2.out.trans (hKb.below (fun b hb=>by simp at hb;subst hb;exact hbfw) HB2.out.size))
    clear hO hS0 hS00 hKb hkr
    go_wp2_with fail
    refine bodyPost_ret (v:=.tuple #[.agg #[.slice (some ⟨bg,0,none⟩) n dg,.int .u64 r.cr,.slice ga (m - 1) gc,.slice (some ⟨ba,0,none⟩) n da,.slice (some ⟨bf,0,none⟩) n df],.agg #[.int .u64 ev,.int .u32 er,.int .u32 ew],.int .i64 0]) (by simp [results,Tryz.results63,go_sem, *]) rfl ?_
    rw [HE2.out.1,HE2.out.2]
    have hlow:bx+1<w7.heap.size:=by omega
    have hlow2:bx+1+1<w7.heap.size:=by omega
    have hO:=HO.out
    exact ResP.own (r2:=raisedR { r with T:=outTk r.T k } n) (val:=tup3 (ev,er,ew) 0) (ROwn.toBase ((((((((hO.low (a:=⟨bx+1,0,none⟩) hlow _).low (a:=⟨bx+1,1,none⟩) hlow _).low (a:=⟨bx+1,2,none⟩) hlow _).low (a:=⟨bx+1,3,none⟩) hlow _).low (a:=⟨bx+1,4,none⟩) hlow _).low (a:=⟨bx+1+1,0,none⟩) hlow2 _).low (a:=⟨bx+1+1,1,none⟩) hlow2 _).low (a:=⟨bx+1+1,2,none⟩) hlow2 _) HB7.out.size) (raisedR_len HL3.out) ((((((((HB9.out.setCell hle _).setCell hle _).setCell hle _).setCell hle _).setCell hle _).setCell hle2 _).setCell hle2 _).setCell hle2 _)
   ·skip
    go_simp
    have hk117:Kept [bx+1,bx+1+1,bf] W2 (((((w114.setCell ⟨bx+1,0,none⟩ (.slice (some ⟨bg,0,none⟩) n dg)).setCell ⟨bx+1,1,none⟩ (.int .u64 r.cr)).setCell ⟨bx+1,2,none⟩ (.slice ga (m - 1) gc)).setCell ⟨bx+1,3,none⟩ (.slice (some ⟨ba,0,none⟩) n da)).setCell ⟨bx+1,4,none⟩ (.slice (some ⟨bf,0,none⟩) n df)):=(((((hK114.setCell (p:=⟨bx+1,0,none⟩) (Or.inl (by simp)) _).setCell (p:=⟨bx+1,1,none⟩) (Or.inl (by simp)) _).setCell (p:=⟨bx+1,2,none⟩) (Or.inl (by simp)) _).setCell (p:=⟨bx+1,3,none⟩) (Or.inl (by simp)) _).setCell (p:=⟨bx+1,4,none⟩) (Or.inl (by simp)) _)
    refine outA hK (heldK_8 (S:=[bx+1,bx+1+1,bf]) (hk117) hS00 nb nb nb nb nb nE nE nE) (fun hHeld3=>?_)
    clear hK K
    refine readyA [2] (consA (fun K hK=>?_) .nil)
    go_simp
    refine outA hK (heldK_8 (S:=[bx+1,bx+1+1,bf]) (hk117) hS00 nb nb nb nb nb nE nE nE) (fun hHeld2=>?_)
    clear hK K
    refine readyA [4] (consA (fun K hK=>?_) .nil)
    go_simp
    have hk118:Kept [bx+1,bx+1+1,bf] W2 ((((((((w114.setCell ⟨bx+1,0,none⟩ (.slice (some ⟨bg,0,none⟩) n dg)).setCell ⟨bx+1,1,none⟩ (.int .u64 r.cr)).setCell ⟨bx+1,2,none⟩ (.slice ga (m - 1) gc)).setCell ⟨bx+1,3,none⟩ (.slice (some ⟨ba,0,none⟩) n da)).setCell ⟨bx+1,4,none⟩ (.slice (some ⟨bf,0,none⟩) n df)).setCell ⟨bx+1+1,0,none⟩ (.int .u64 ev)).setCell ⟨bx+1+1,1,none⟩ (.int .u32 er)).setCell ⟨bx+1+1,2,none⟩ (.int .u32 ew)):=(((hk117.setCell (p:=⟨bx+1+1,0,none⟩) (Or.inl (by simp)) _).setCell (p:=⟨bx+1+1,1,none⟩) (Or.inl (by simp)) _).setCell (p:=⟨bx+1+1,2,none⟩) (Or.inl (by simp)) _)
    refine outA hK (heldK_8 (S:=[bx+1,bx+1+1,bf]) (hk118) hS00 nb nb nb nb nb nE nE nE) (fun hHeld4=>?_)
    clear hK K
    refine takeA 5 ?_
    refine doneA ?_
    have HO:=Lib.hid hO
    have HB9:=Lib.hid (show Below w.heap.size w w114 from HB2.out.trans (hKb.below (fun b hb=>by simp at hb;subst hb;exact hbfw) HB2.out.size))
    clear hO hS0 hS00 hKb hkr
    go_wp2_with fail
    refine bodyPost_ret (v:=.tuple #[.agg #[.slice (some ⟨bg,0,none⟩) n dg,.int .u64 r.cr,.slice ga (m - 1) gc,.slice (some ⟨ba,0,none⟩) n da,.slice (some ⟨bf,0,none⟩) n df],.agg #[.int .u64 ev,.int .u32 er,.int .u32 ew],.int .i64 0]) (by simp [results,Tryz.results63,go_sem, *]) rfl ?_
    rw [HE2.out.1,HE2.out.2]
    have hlow:bx+1<w7.heap.size:=by omega
    have hlow2:bx+1+1<w7.heap.size:=by omega
    have hO:=HO.out
    exact ResP.own (r2:=raisedR { r with T:=outTk r.T k } n) (val:=tup3 (ev,er,ew) 0) (ROwn.toBase ((((((((hO.low (a:=⟨bx+1,0,none⟩) hlow _).low (a:=⟨bx+1,1,none⟩) hlow _).low (a:=⟨bx+1,2,none⟩) hlow _).low (a:=⟨bx+1,3,none⟩) hlow _).low (a:=⟨bx+1,4,none⟩) hlow _).low (a:=⟨bx+1+1,0,none⟩) hlow2 _).low (a:=⟨bx+1+1,1,none⟩) hlow2 _).low (a:=⟨bx+1+1,2,none⟩) hlow2 _) HB7.out.size) (raisedR_len HL3.out) ((((((((HB9.out.setCell hle _).setCell hle _).setCell hle _).setCell hle _).setCell hle _).setCell hle2 _).setCell hle2 _).setCell hle2 _)
  ·skip
   go_simp
   refine outA hK (heldK_8 (S:=[bx+1,bx+1+1,bf]) (Kept.of hWc113) hS00 nb nb nb nb nb nE nE nE) (fun hHeld2=>?_)
   clear hK K
   refine readyA [1] (consA (fun K hK=>?_) .nil)
   go_simp
   refine (traised_at { r with T:=outTk r.T k } n (m - 1) HL3.out w7.heap.size bg ga ba bf dg gc da df wc113 (HO2.out.later hWc113)).mono ?_
   rintro e w119 ⟨rfl,hO,hkr⟩
   have hKb:Kept [bf] W2 w119:=(Kept.of hWc113).trans hkr
   have hK119:Kept [bx+1,bx+1+1,bf] W2 w119:=hKb.mono (fun b hb=>by simp at hb;simp [hb])
   have gfr0:=hKb.frz fr0 (lt_of_cell r0) nr
   have gr0:=hKb.cellAt r0 nr
   have gfr1:=hKb.frz fr1 (lt_of_cell r1) nr
   have gr1:=hKb.cellAt r1 nr
   have gfr2:=hKb.frz fr2 (lt_of_cell r2) nr
   have gr2:=hKb.cellAt r2 nr
   have gfr3:=hKb.frz fr3 (lt_of_cell r3) nr
   have gr3:=hKb.cellAt r3 nr
   have gfr4:=hKb.frz fr4 (lt_of_cell r4) nr
   have gr4:=hKb.cellAt r4 nr
   have gfq0:=hKb.frz fq0 (lt_of_cell q0) nq
   have gq0:=hKb.cellAt q0 nq
   have gfq1:=hKb.frz fq1 (lt_of_cell q1) nq
   have gq1:=hKb.cellAt q1 nq
   have gfq2:=hKb.frz fq2 (lt_of_cell q2) nq
   have gq2:=hKb.cellAt q2 nq
   go_wp2_with fail
   refine outA hK (heldK_8 (S:=[bx+1,bx+1+1,bf]) (hK119) hS00 nb nb nb nb nb nE nE nE) (fun hHeld1=>?_)
   clear hK K
   refine readyA [3] (consA (fun K hK=>?_) .nil)
   go_simp
   have hk120:Kept [bx+1,bx+1+1,bf] W2 (((((w119.setCell ⟨bx+1,0,none⟩ (.slice (some ⟨bg,0,none⟩) n dg)).setCell ⟨bx+1,1,none⟩ (.int .u64 r.cr)).setCell ⟨bx+1,2,none⟩ (.slice ga (m - 1) gc)).setCell ⟨bx+1,3,none⟩ (.slice (some ⟨ba,0,none⟩) n da)).setCell ⟨bx+1,4,none⟩ (.slice (some ⟨bf,0,none⟩) n df)):=(((((hK119.setCell (p:=⟨bx+1,0,none⟩) (Or.inl (by simp)) _).setCell (p:=⟨bx+1,1,none⟩) (Or.inl (by simp)) _).setCell (p:=⟨bx+1,2,none⟩) (Or.inl (by simp)) _).setCell (p:=⟨bx+1,3,none⟩) (Or.inl (by simp)) _).setCell (p:=⟨bx+1,4,none⟩) (Or.inl (by simp)) _)
   refine outA hK (heldK_8 (S:=[bx+1,bx+1+1,bf]) (hk120) hS00 nb nb nb nb nb nE nE nE) (fun hHeld3=>?_)
   clear hK K
   refine readyA [4] (consA (fun K hK=>?_) .nil)
   go_simp
   have hk121:Kept [bx+1,bx+1+1,bf] W2 ((((((((w119.setCell ⟨bx+1,0,none⟩ (.slice (some ⟨bg,0,none⟩) n dg)).setCell ⟨bx+1,1,none⟩ (.int .u64 r.cr)).setCell ⟨bx+1,2,none⟩ (.slice ga (m - 1) gc)).setCell ⟨bx+1,3,none⟩ (.slice (some ⟨ba,0,none⟩) n da)).setCell ⟨bx+1,4,none⟩ (.slice (some ⟨bf,0,none⟩) n df)).setCell ⟨bx+1+1,0,none⟩ (.int .u64 ev)).setCell ⟨bx+1+1,1,none⟩ (.int .u32 er)).setCell ⟨bx+1+1,2,none⟩ (.int .u32 ew)):=(((hk120.setCell (p:=⟨bx+1+1,0,none⟩) (Or.inl (by simp)) _).setCell (p:=⟨bx+1+1,1,none⟩) (Or.inl (by simp)) _).setCell (p:=⟨bx+1+1,2,none⟩) (Or.inl (by simp)) _)
   refine outA hK (heldK_8 (S:=[bx+1,bx+1+1,bf]) (hk121) hS00 nb nb nb nb nb nE nE nE) (fun hHeld4=>?_)
   clear hK K
   refine takeA 5 ?_
   refine doneA ?_
   have HO:=Lib.hid hO
   have HB9:=Lib.hid (show Below w.heap.size w w119 from HB2.out.trans (hKb.below (fun b hb=>by simp at hb;subst hb;exact hbfw) HB2.out.size))
   clear hO hS0 hS00 hKb hkr
   go_wp2_with fail
   refine bodyPost_ret (v:=.tuple #[.agg #[.slice (some ⟨bg,0,none⟩) n dg,.int .u64 r.cr,.slice ga (m - 1) gc,.slice (some ⟨ba,0,none⟩) n da,.slice (some ⟨bf,0,none⟩) n df],.agg #[.int .u64 ev,.int .u32 er,.int .u32 ew],.int .i64 0]) (by simp [results,Tryz.results63,go_sem, *]) rfl ?_
   rw [HE2.out.1,HE2.out.2]
   have hlow:bx+1<w7.heap.size:=by omega
   have hlow2:bx+1+1<w7.heap.size:=by omega
   have hO:=HO.out
   exact ResP.own (r2:=raisedR { r with T:=outTk r.T k } n) (val:=tup3 (ev,er,ew) 0) (ROwn.toBase ((((((((hO.low (a:=⟨bx+1,0,none⟩) hlow _).low (a:=⟨bx+1,1,none⟩) hlow _).low (a:=⟨bx+1,2,none⟩) hlow _).low (a:=⟨bx+1,3,none⟩) hlow _).low (a:=⟨bx+1,4,none⟩) hlow _).low (a:=⟨bx+1+1,0,none⟩) hlow2 _).low (a:=⟨bx+1+1,1,none⟩) hlow2 _).low (a:=⟨bx+1+1,2,none⟩) hlow2 _) HB7.out.size) (raisedR_len HL3.out) ((((((((HB9.out.setCell hle _).setCell hle _).setCell hle _).setCell hle _).setCell hle _).setCell hle2 _).setCell hle2 _).setCell hle2 _)
 ·have z0:(c != 0)=true:=by simpa using hc0
  have z1:¬ c=0:=hc0
  have HC0:=Lib.hid hc0
  clear hc0
  go_wp2_with fail
  refine bodyPost_ret (v:=.tuple #[.agg #[.slice ag n cg,.int .u64 r.cr,.slice at' m ct,.slice aa n ca,.slice af n cf],.agg #[.int .u64 0,.int .u32 0,.int .u32 0],.int .i64 c]) (by simp [results,Tryz.results63,go_sem, *]) rfl ?_
  exact HF.out _ HC0.out ((((((((HB6.out.setCell hle _).setCell hle _).setCell hle _).setCell hle _).setCell hle _).setCell hle2 _).setCell hle2 _).setCell hle2 _)
end Go.Proofs.YtfgmglghlapbcaaGreat
