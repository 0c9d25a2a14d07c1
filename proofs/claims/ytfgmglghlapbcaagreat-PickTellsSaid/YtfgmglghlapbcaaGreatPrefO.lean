/-
  Layer 25 (pick), the reference: Charge.
-/
import Derived.Test.YtfgmglghlapbcaaGreatPrefN
namespace Go.Proofs.YtfgmglghlapbcaaGreat
open Go.RowKit Go.Maps Go.IntWalk Go.Lib Go.Sort Go.Shelf
set_option linter.unusedVariables false
set_option linter.unusedSimpArgs false
def chA (tk:Int):List Nat→List Ent→List Ent
 | [],A=>A
 | g::q,A=>chA tk q (A.set g (chgX tk A[g]!))
theorem chA_len (tk:Int):∀ (q:List Nat) (A:List Ent),(chA tk q A).length=A.length
 | [],A=>rfl
 | g::q,A=>by unfold chA;rw [chA_len tk q,List.length_set]
def chgT (r:RSt) (tk:Int) (k:Nat):List (Int×Int×Ent):=r.T.set k (r.T[k]!.1,r.T[k]!.2.1,chgX tk r.T[k]!.2.2)
def chargeRS (r:RSt) (n:Nat) (id tk:Int):RSt:=if thereC r id (Ch.tB tk)=0 then raisedR { r with T:=chgT r tk (atT r id),A:=chA tk (pathT (parG r.Gs) (r.T[atT r id]!.2.1).toNat) r.A } n else r
set_option maxRecDepth 100000 in
set_option maxHeartbeats 4000000 in
theorem tCharge_at (r:RSt) (n m:Nat) (hl:ROk r n m) (id tk:Int) (a:RAd) (w:World) (hin:RIn w a.ag a.at' a.aa a.af a.cg a.ct a.ca a.cf n m r) :
  Calls Tryz.prog 64 #[.agg #[.slice a.ag n a.cg,.int .u64 r.cr,.slice a.at' m a.ct,.slice a.aa n a.ca,.slice a.af n a.cf],.int .i64 id,.int .i64 tk] w (ResP w a r n m (chargeRS r n id tk) (tup2 (thereC r id (Ch.tB tk)))):=by
 have HL:=Lib.hid hl
 have HIN:=Lib.hid hin
 have A1:=Lib.hid fun W=>rTicks_any tk W
 have A2:=Lib.hid fun W ok (q:RIn W a.ag a.at' a.aa a.af a.cg a.ct a.ca a.cf n m r)=>tthere_at r n m hl.toRLen id ok a.ag a.at' a.aa a.af a.cg a.ct a.ca a.cf W q
 have A3:=Lib.hid fun W (q:RIn W a.ag a.at' a.aa a.af a.cg a.ct a.ca a.cf n m r)=>tcopied_at r n m hl.toRLen a.ag a.at' a.aa a.af a.cg a.ct a.ca a.cf W q
 have HC:=Lib.hid (there_in (r:=r) (id:=id) (ok:=Ch.tB tk))
 obtain ⟨c,hc⟩:∃ c,c=thereC r id (Ch.tB tk):=⟨_,rfl⟩
 have HF:=Lib.hid (show ∀ W,c≠0→Below w.heap.size w W→ResP w a r n m (chargeRS r n id tk) (tup2 c) (.returned (tup2 c (a.val n m r.cr))) W from fun W h hb=>by
  unfold chargeRS
  rw [← hc,if_neg h]
  exact ResP.same (val:=tup2 c) hl.t hb)
 have HE:=Lib.hid (show c=0→chargeRS r n id tk=raisedR { r with T:=chgT r tk (atT r id),A:=chA tk (pathT (parG r.Gs) (r.T[atT r id]!.2.1).toNat) r.A } n from fun h=>by unfold chargeRS;rw [← hc,if_pos h])
 obtain ⟨ok,hok⟩:∃ ok,ok=Ch.tB tk:=⟨_,rfl⟩
 rw [← hok] at hc HC A1
 rw [← hok,← hc]
 rw [← hc] at HC
 obtain ⟨ti,hti⟩:∃ i,i=thereI r id ok:=⟨_,rfl⟩
 rw [← hti] at HC
 have HCC:=Lib.hid hc
 have HTI:=Lib.hid hti
 have HOK:=Lib.hid hok
 obtain ⟨ag,at',aa,af,cg,ct,ca,cf⟩:=a
 dsimp only at A2 A3 HIN ⊢
 have hn:=hl.pos
 clear hin hl hc hok hti
 obtain ⟨W0,hW0⟩:∃ W0,W0=((w.alloc (.cells #[.slice ag n cg,.int .u64 r.cr,.slice at' m ct,.slice aa n ca,.slice af n cf] 74)).alloc (.cells #[.slice none 0 0,.int .u64 0,.slice none 0 0,.slice none 0 0,.slice none 0 0] 74)):=⟨_,rfl⟩
 have HB0:=Lib.hid (show Below w.heap.size w W0 by rw [hW0];exact (Below.allocS (Below.allocS (Below.refl _ _) _) _))
 obtain ⟨c0,fc0,c1,fc1,c2,fc2,c3,fc3,c4,fc4⟩:=uc5 (show CellsF W0 (w.heap.size) [.slice ag n cg,.int .u64 r.cr,.slice at' m ct,.slice aa n ca,.slice af n cf] by rw [hW0];exact (CellsF.new (by simp)).later (below_a _ _))
 obtain ⟨r0,fr0,r1,fr1,r2,fr2,r3,fr3,r4,fr4⟩:=uc5 (show CellsF W0 (w.heap.size+1) [.slice none 0 0,.int .u64 0,.slice none 0 0,.slice none 0 0,.slice none 0 0] by rw [hW0];exact CellsF.new (by simp))
 have HSZ:=Lib.hid (show W0.heap.size=w.heap.size+1+1 by rw [hW0];simp)
 have HW0:=Lib.hid hW0
 clear hW0
 go_enter Tryz.func64,Tryz.ntmps64
 go_upto_region 1 with fail
 rw [← HW0.out]
 generalize hbx:w.heap.size=bx at c0 c1 c2 c3 c4 r0 r1 r2 r3 r4 fc0 fc1 fc2 fc3 fc4 fr0 fr1 fr2 fr3 fr4 HSZ  ⊢
 have HBX:=Lib.hid hbx
 clear hbx HW0
 refine startA (S:=fun w'=>Below W0.heap.size W0 w'∧w'.cell? ⟨bx,0,none⟩=some (.slice ag n cg)∧w'.cell? ⟨bx,1,none⟩=some (.int .u64 r.cr)∧w'.cell? ⟨bx,2,none⟩=some (.slice at' m ct)∧w'.cell? ⟨bx,3,none⟩=some (.slice aa n ca)∧w'.cell? ⟨bx,4,none⟩=some (.slice af n cf)) ⟨Below.refl _ _,c0,c1,c2,c3,c4⟩ (held_5 (below_dr _)) (fun hS0 hHeld=>?_)
 refine takeA 0 ?_
 refine takeA 1 ?_
 refine takeA 2 ?_
 refine readyA [3] (consA (fun K hK=>?_) .nil)
 go_simp
 refine (A1.out _).mono ?_
 rintro e w5 ⟨rfl,rfl⟩
 go_wp2_with fail
 refine outA hK kp_5 (fun hHeld3=>?_)
 clear hK K
 refine readyA [4] (consA (fun K hK=>?_) .nil)
 go_simp
 refine (A2.out _ ok (HIN.out.later (HB0.out.drew))).mono ?_
 rintro e w6 ⟨rfl,hb6⟩
 rw [← HCC.out,← HTI.out]
 go_wp2_with fail
 refine outA hK kp_5 (fun hHeld4=>?_)
 clear hK K
 refine takeA 5 ?_
 refine takeA 6 ?_
 refine takeA 7 ?_
 refine takeA 8 ?_
 refine takeA 9 ?_
 refine doneA ?_
 skip
 have hbb:=Below.step (Below.refl W0.heap.size W0).drew hb6
 clear hS0 hb6
 have q:=uc5 ((pc5 c0 fc0 c1 fc1 c2 fc2 c3 fc3 c4 fc4).later hbb)
 clear c0 fc0 c1 fc1 c2 fc2 c3 fc3 c4 fc4
 obtain ⟨c0,fc0,c1,fc1,c2,fc2,c3,fc3,c4,fc4⟩:=q
 have q:=uc5 ((pc5 r0 fr0 r1 fr1 r2 fr2 r3 fr3 r4 fr4).later hbb)
 clear r0 fr0 r1 fr1 r2 fr2 r3 fr3 r4 fr4
 obtain ⟨r0,fr0,r1,fr1,r2,fr2,r3,fr3,r4,fr4⟩:=q
 have HB6:=Lib.hid (Below.step HB0.out hbb)
 have hle:w.heap.size≤bx+1:=by have:=HBX.out;omega
 clear hbb
 by_cases hc0:c=0
 ·subst hc0
  obtain ⟨h1,h2,h3,h4⟩:=HC.out rfl
  obtain ⟨k,hk⟩:∃ k,k=atT r id:=⟨_,rfl⟩
  have HE2:=Lib.hid (HE.out rfl)
  rw [← hk] at h1 h2 HE2
  subst h1
  rw [HL.out.t] at h2
  have hki:(k:Int)<(m:Int):=by omega
  have hk0:(0:Int)≤(k:Int):=by omega
  have htk:0≤tk∧tk≤4294967295:=by have:=HOK.out.symm.trans h3;unfold Ch.tB at this;simpa using this
  have hkT:k<r.T.length:=by rw [HL.out.t];exact h2
  have hte:=HL.out.ten r.T[k]! (by rw [getElem!_pos r.T k hkT];exact List.getElem_mem _)
  obtain ⟨g0,hg0,hgn0⟩:=HL.out.tgr r.T[k]! (by rw [getElem!_pos r.T k hkT];exact List.getElem_mem _)
  obtain ⟨⟨sv,sr,sw⟩,hse⟩:∃ s,s=r.T[k]!.2.2:=⟨_,rfl⟩
  rw [← hse] at hte
  have AW:=Lib.hid fun W=>rAdd_ok sv sr sw tk W hte htk
  rw [hg0,Int.toNat_natCast] at HE2
  have HSE:=Lib.hid hse
  have HG0:=Lib.hid (And.intro hg0 hgn0)
  have HTK:=Lib.hid htk
  clear h3 h4 HE hk HC hte hse hg0 hgn0 hkT
  go_wp2_with fail
  have HLW:=Lib.hid (show bx+1<w6.heap.size from lt_of_cell r0)
  have hleb:w.heap.size≤bx:=Nat.le_of_eq HBX.out
  refine (A3.out w6 (HIN.out.later HB6.out)).mono ?_;rintro e wq1 ⟨bg,a1,ba,bf,dg,dt,da,df,rfl,hO,hb1⟩
  have hbb:=hb1
  have q:=uc5 ((pc5 c0 fc0 c1 fc1 c2 fc2 c3 fc3 c4 fc4).later hb1)
  clear c0 fc0 c1 fc1 c2 fc2 c3 fc3 c4 fc4
  obtain ⟨c0,fc0,c1,fc1,c2,fc2,c3,fc3,c4,fc4⟩:=q
  have q:=uc5 ((pc5 r0 fr0 r1 fr1 r2 fr2 r3 fr3 r4 fr4).later hb1)
  clear r0 fr0 r1 fr1 r2 fr2 r3 fr3 r4 fr4
  obtain ⟨r0,fr0,r1,fr1,r2,fr2,r3,fr3,r4,fr4⟩:=q
  have Qc:=Lib.hid (cs5 (.slice (some ⟨bg,0,none⟩) n dg) (.int .u64 r.cr) (.slice a1 m dt) (.slice (some ⟨ba,0,none⟩) n da) (.slice (some ⟨bf,0,none⟩) n df) (pc5 c0 fc0 c1 fc1 c2 fc2 c3 fc3 c4 fc4))
  have Qr:=Lib.hid (co5 (b:=bx) (.slice (some ⟨bg,0,none⟩) n dg) (.int .u64 r.cr) (.slice a1 m dt) (.slice (some ⟨ba,0,none⟩) n da) (.slice (some ⟨bf,0,none⟩) n df) (pc5 r0 fr0 r1 fr1 r2 fr2 r3 fr3 r4 fr4) (by first | (simp;done) | (simp;omega) | omega))
  have hlow:bx<w6.heap.size:=by have:=HLW.out;omega
  have HO1:=Lib.hid (show ROwn w6.heap.size (((((wq1.setCell ⟨bx,0,none⟩ (.slice (some ⟨bg,0,none⟩) n dg)).setCell ⟨bx,1,none⟩ (.int .u64 r.cr)).setCell ⟨bx,2,none⟩ (.slice a1 m dt)).setCell ⟨bx,3,none⟩ (.slice (some ⟨ba,0,none⟩) n da)).setCell ⟨bx,4,none⟩ (.slice (some ⟨bf,0,none⟩) n df)) bg a1 ba bf dg dt da df n m r from ((((hO.low (a:=⟨bx,0,none⟩) hlow _).low (a:=⟨bx,1,none⟩) hlow _).low (a:=⟨bx,2,none⟩) hlow _).low (a:=⟨bx,3,none⟩) hlow _).low (a:=⟨bx,4,none⟩) hlow _)
  have HB1:=Lib.hid (show Below w.heap.size w (((((wq1.setCell ⟨bx,0,none⟩ (.slice (some ⟨bg,0,none⟩) n dg)).setCell ⟨bx,1,none⟩ (.int .u64 r.cr)).setCell ⟨bx,2,none⟩ (.slice a1 m dt)).setCell ⟨bx,3,none⟩ (.slice (some ⟨ba,0,none⟩) n da)).setCell ⟨bx,4,none⟩ (.slice (some ⟨bf,0,none⟩) n df)) from ((((((Below.step HB6.out hbb).setCell hleb _).setCell hleb _).setCell hleb _).setCell hleb _).setCell hleb _))
  have HS1:=Lib.hid (show w6.heap.size≤(((((wq1.setCell ⟨bx,0,none⟩ (.slice (some ⟨bg,0,none⟩) n dg)).setCell ⟨bx,1,none⟩ (.int .u64 r.cr)).setCell ⟨bx,2,none⟩ (.slice a1 m dt)).setCell ⟨bx,3,none⟩ (.slice (some ⟨ba,0,none⟩) n da)).setCell ⟨bx,4,none⟩ (.slice (some ⟨bf,0,none⟩) n df)).heap.size by simp only [World.size_setCell];exact hbb.size)
  clear hO hb1 hbb hlow
  go_upto_region 5 with fail
  clear c0 fc0 c1 fc1 c2 fc2 c3 fc3 c4 fc4 r0 fr0 r1 fr1 r2 fr2 r3 fr3 r4 fr4
  generalize hW:(((((wq1.setCell ⟨bx,0,none⟩ (.slice (some ⟨bg,0,none⟩) n dg)).setCell ⟨bx,1,none⟩ (.int .u64 r.cr)).setCell ⟨bx,2,none⟩ (.slice a1 m dt)).setCell ⟨bx,3,none⟩ (.slice (some ⟨ba,0,none⟩) n da)).setCell ⟨bx,4,none⟩ (.slice (some ⟨bf,0,none⟩) n df))=W1 at *
  clear hW
  obtain ⟨c0,fc0,c1,fc1,c2,fc2,c3,fc3,c4,fc4⟩:=uc5 Qc.out
  obtain ⟨r0,fr0,r1,fr1,r2,fr2,r3,fr3,r4,fr4⟩:=uc5 Qr.out
  clear Qc Qr
  obtain ⟨b,hb0⟩:∃ b,a1=some ⟨b,0,none⟩:=by
   obtain ⟨g',c',e'⟩:=own_pos HO1.out.t (by omega)
   simp only [Value.slice.injEq] at e'
   exact ⟨g',e'.1⟩
  subst hb0
  obtain ⟨bt,ot,hat,y0,y1,u0,u1,u2⟩:=(HO1.out.rin HL.out.toRLen).task HL.out.toRLen h2
  cases hat
  rw [Nat.zero_add] at y1 u0 u1 u2
  rw [← HSE.out] at u0 u1 u2
  rw [HG0.out.1] at y1
  dsimp only at u0 u1 u2
  have HFU:=Lib.hid (show ∀ j,W1.frozen? ⟨b,j,none⟩=false from fun j=>HO1.out.t.frozenAt j)
  have hge:=(HO1.out.t.lt b rfl).1
  have nb:bx∉[b]:=by have:=HLW.out;simp;omega
  have nr:bx+1∉[b]:=by have:=HLW.out;simp;omega
  have hle1:w.heap.size≤b:=by have:=HB6.out.size;omega
  have d0:=cell_dr u0
  have d1:=cell_dr u1
  have d2:=cell_dr u2
  clear y0
  obtain ⟨yv,hyv⟩:∃ v,v=Ch.addV sv sr sw tk:=⟨_,rfl⟩
  obtain ⟨yr,hyr⟩:∃ v,v=Ch.addR sv sr sw tk:=⟨_,rfl⟩
  rw [← hyv,← hyr] at AW
  have HY:=Lib.hid (show chgX tk (sv,sr,sw)=(yv,yr,sw) by rw [hyv,hyr];rfl)
  clear hyv hyr
  refine startA (S:=fun w'=>Kept [b] W1 w'∧w'.cell? ⟨bx,2,none⟩=some (.slice (some ⟨b,0,none⟩) m dt)) ⟨Kept.refl _ _,c2⟩ (fun h=>heldK_1 (kept_dr _ _) h) (fun hS0 hHeld=>?_)
  refine takeA 0 ?_
  refine takeA 1 ?_
  refine takeA 2 ?_
  refine takeA 3 ?_
  refine takeA 4 ?_
  refine takeA 5 ?_
  refine takeA 6 ?_
  refine takeA 7 ?_
  refine takeA 9 ?_
  refine readyA [8] (consA (fun K hK=>?_) .nil)
  go_simp
  refine outA hK kpK_1 (fun hHeld8=>?_)
  clear hK K
  refine readyA [10] (consA (fun K hK=>?_) .nil)
  go_simp
  refine (AW.out _).mono ?_
  rintro e w17 ⟨rfl,hb17⟩
  have hk17:Kept [b] W1.drew w17:=Kept.of hb17
  have hbw:Below W1.heap.size W1 w17:=Below.step (Below.refl _ _).drew hb17
  have gu0:=frz_later hbw (HFU.out (k*5+2)) (lt_of_cell u0)
  have k0:=cell_later hbw u0
  have gu1:=frz_later hbw (HFU.out (k*5+3)) (lt_of_cell u1)
  have k1:=cell_later hbw u1
  have gu2:=frz_later hbw (HFU.out (k*5+4)) (lt_of_cell u2)
  have k2:=cell_later hbw u2
  go_wp2_with fail
  refine outA hK kpK_1 (fun hHeld10=>?_)
  clear hK K
  refine takeA 11 ?_
  refine takeA 12 ?_
  refine takeA 13 ?_
  refine takeA 14 ?_
  refine takeA 15 ?_
  refine readyA [16] (consA (fun K hK=>?_) .nil)
  go_simp
  have hk25:Kept [b] w17 (((w17.setCell ⟨b,k*5+2,none⟩ (.int .u64 yv)).setCell ⟨b,k*5+3,none⟩ (.int .u32 yr)).setCell ⟨b,k*5+4,none⟩ (.int .u32 sw)):=(((Kept.refl [b] w17).setCell (p:=⟨b,k*5+2,none⟩) (Or.inl (by simp)) _).setCell (p:=⟨b,k*5+3,none⟩) (Or.inl (by simp)) _).setCell (p:=⟨b,k*5+4,none⟩) (Or.inl (by simp)) _
  refine outA hK kpK_1 (fun hHeld16=>?_)
  clear hK K
  refine doneA ?_
  skip
  have hk:=hHeld16.1
  have HT2:=Lib.hid (show chgT r tk k=r.T.set k (r.T[k]!.1,r.T[k]!.2.1,(yv,yr,sw)) by unfold chgT;rw [← HSE.out,HY.out])
  rw [HT2.out] at HE2
  obtain ⟨T2,hT2⟩:∃ T2,T2=r.T.set k (r.T[k]!.1,r.T[k]!.2.1,(yv,yr,sw)):=⟨_,rfl⟩
  have HO2:=Lib.hid (show ROwn w6.heap.size (((w17.setCell ⟨b,k*5+2,none⟩ (.int .u64 yv)).setCell ⟨b,k*5+3,none⟩ (.int .u32 yr)).setCell ⟨b,k*5+4,none⟩ (.int .u32 sw)) bg (some ⟨b,0,none⟩) ba bf dg dt da df n m { r with T:=T2 } by rw [hT2];exact (HO1.out.later hbw).setT HL.out.toRLen h2 (yv,yr,sw))
  have HB2:=Lib.hid (show Below w.heap.size w (((w17.setCell ⟨b,k*5+2,none⟩ (.int .u64 yv)).setCell ⟨b,k*5+3,none⟩ (.int .u32 yr)).setCell ⟨b,k*5+4,none⟩ (.int .u32 sw)) from (((Below.step HB1.out hbw).setCell hle1 _).setCell hle1 _).setCell hle1 _)
  have y2:(((w17.setCell ⟨b,k*5+2,none⟩ (.int .u64 yv)).setCell ⟨b,k*5+3,none⟩ (.int .u32 yr)).setCell ⟨b,k*5+4,none⟩ (.int .u32 sw)).cell? ⟨b,k*5+1,none⟩=some (.int .i64 (g0:Int)):=cell_set_ne (cell_set_ne (cell_set_ne (cell_later hbw y1) (Or.inr (by simp))) (Or.inr (by simp))) (Or.inr (by simp))
  replace fc0:=hk.frz fc0 (lt_of_cell c0) nb
  replace c0:=hk.cellAt c0 nb
  replace fc1:=hk.frz fc1 (lt_of_cell c1) nb
  replace c1:=hk.cellAt c1 nb
  replace fc2:=hk.frz fc2 (lt_of_cell c2) nb
  replace c2:=hk.cellAt c2 nb
  replace fc3:=hk.frz fc3 (lt_of_cell c3) nb
  replace c3:=hk.cellAt c3 nb
  replace fc4:=hk.frz fc4 (lt_of_cell c4) nb
  replace c4:=hk.cellAt c4 nb
  replace fr0:=hk.frz fr0 (lt_of_cell r0) nr
  replace r0:=hk.cellAt r0 nr
  replace fr1:=hk.frz fr1 (lt_of_cell r1) nr
  replace r1:=hk.cellAt r1 nr
  replace fr2:=hk.frz fr2 (lt_of_cell r2) nr
  replace r2:=hk.cellAt r2 nr
  replace fr3:=hk.frz fr3 (lt_of_cell r3) nr
  replace r3:=hk.cellAt r3 nr
  replace fr4:=hk.frz fr4 (lt_of_cell r4) nr
  replace r4:=hk.cellAt r4 nr
  have hlT:T2.length=m:=by rw [hT2,List.length_set];exact HL.out.t
  rw [← hT2] at HE2
  have HLT:=Lib.hid hlT
  clear hlT hT2 hk hHeld16 hS0 u0 u1 u2 d0 d1 d2 k0 k1 k2 gu0 gu1 gu2 hk17 hk25 hbw hb17 y1
  generalize (((w17.setCell ⟨b,k*5+2,none⟩ (.int .u64 yv)).setCell ⟨b,k*5+3,none⟩ (.int .u32 yr)).setCell ⟨b,k*5+4,none⟩ (.int .u32 sw))=W2 at *
  have HCC2:=Lib.hid (cells5 c0 c1 c2 c3 c4 fc0 fc1 fc2 fc3 fc4)
  have HZZ2:=Lib.hid (cells5 r0 r1 r2 r3 r4 fr0 fr1 fr2 fr3 fr4)
  go_wp2_with fail
  clear c0 c1 c2 c3 c4 r0 r1 r2 r3 r4 fc0 fc1 fc2 fc3 fc4 fr0 fr1 fr2 fr3 fr4 y2
  go_loopw [10] (fun i wr=>∃ (g:Nat) (A:List Ent),g<n∧i=.int .i64 g∧A.length=n∧(∀ q,q<n→EntOk A[q]!)∧Hid (chA tk (pathT (parG r.Gs) g) A=chA tk (pathT (parG r.Gs) g0) r.A)∧ROwn w6.heap.size wr bg (some ⟨b,0,none⟩) ba bf dg dt da df n m { r with T:=T2,A:=A }∧Below w.heap.size w wr∧CellsF wr bx [.slice (some ⟨bg,0,none⟩) n dg,.int .u64 r.cr,.slice (some ⟨b,0,none⟩) m dt,.slice (some ⟨ba,0,none⟩) n da,.slice (some ⟨bf,0,none⟩) n df]∧CellsF wr (bx+1) [.slice none 0 0,.int .u64 0,.slice none 0 0,.slice none 0 0,.slice none 0 0]) (fun i _=>(intOf i).toNat)
  case atStart=>exact ⟨g0,r.A,HG0.out.2,rfl,HL.out.a,HL.out.aok,Lib.hid rfl,HO2.out,HB2.out,HCC2.out,HZZ2.out⟩
  case round =>
   clear HO2 HB2 HCC2 HZZ2
   obtain ⟨g,A,hg,rfl,hAl,hAo,hup,hO,hB,hC,hZ⟩:=hrel
   have HO:=Lib.hid hO
   have HB:=Lib.hid hB
   have HCX:=Lib.hid hC
   have HZ:=Lib.hid hZ
   have HAO:=Lib.hid hAo
   have HAL:=Lib.hid hAl
   have HUP:=Lib.hid hup.out
   have HL3:=Lib.hid (show RLen { r with T:=T2,A:=A } n m from ⟨HL.out.g,HLT.out,hAl,HL.out.f,HL.out.right,HL.out.few⟩)
   clear hup hAo hAl hB hZ
   have c0:wr.cell? ⟨bx,0,none⟩=some (.slice (some ⟨bg,0,none⟩) n dg):=(hC 0 _ rfl).1
   have c1:wr.cell? ⟨bx,1,none⟩=some (.int .u64 r.cr):=(hC 1 _ rfl).1
   have c2:wr.cell? ⟨bx,2,none⟩=some (.slice (some ⟨b,0,none⟩) m dt):=(hC 2 _ rfl).1
   have c3:wr.cell? ⟨bx,3,none⟩=some (.slice (some ⟨ba,0,none⟩) n da):=(hC 3 _ rfl).1
   have c4:wr.cell? ⟨bx,4,none⟩=some (.slice (some ⟨bf,0,none⟩) n df):=(hC 4 _ rfl).1
   have hg0:(0:Int)≤(g:Int):=by omega
   have hgi:(g:Int)<(n:Int):=by omega
   have hgee:=hO.ge
   have hne:=hO.neGA
   clear hO hC
   by_cases h0:0<g
   ·have z1:decide ((g:Int) > 0)=true:=decide_eq_true (by omega)
    have z2:decide (0<g)=true:=decide_eq_true h0
    have z3:(0:Int)<(g:Int):=by omega
    have hpl:=(HL.out.right.par (k:=g) (by rw [HL.out.g];exact hg)).2.1 h0
    have HUP2:=Lib.hid (show chA tk (pathT (parG r.Gs) (parG r.Gs g)) (A.set g (chgX tk A[g]!))=chA tk (pathT (parG r.Gs) g0) r.A by
     have:=HUP.out
     rw [pathT_pos h0 hpl] at this
     exact this)
    obtain ⟨pg,hpg⟩:∃ p,p=parG r.Gs g:=⟨_,rfl⟩
    have hpgn:pg<n:=by rw [hpg];omega
    obtain ⟨b0,o0,hag,y9,-⟩:=(HO.out.rin HL3.out).grp HL3.out hg
    cases hag
    replace y9:wr.cell? ⟨bg,g*2,none⟩=some (.int .i64 (pg:Int)):=by rw [hpg];have:=y9;rw [Nat.zero_add] at this;exact this
    obtain ⟨b1,o1,haa,u0,u1,u2⟩:=(HO.out.rin HL3.out).spot HL3.out hg
    cases haa
    rw [Nat.zero_add] at u0 u1 u2
    have hok:=HAO.out g hg
    obtain ⟨⟨av,ar,aw⟩,hse⟩:∃ s:Ent,s=A[g]!:=⟨_,rfl⟩
    dsimp only at u0 u1 u2
    rw [← hse] at u0 u1 u2 hok HUP2
    rw [← hpg] at HUP2
    have AX:=fun W=>rAdd_ok av ar aw tk W hok HTK.out
    obtain ⟨xv,hxv⟩:∃ v,v=Ch.addV av ar aw tk:=⟨_,rfl⟩
    obtain ⟨xr,hxr⟩:∃ v,v=Ch.addR av ar aw tk:=⟨_,rfl⟩
    rw [← hxv,← hxr] at AX
    have hxx:chgX tk (av,ar,aw)=(xv,xr,aw):=by rw [hxv,hxr];rfl
    have HXO:=Lib.hid (show EntOk (xv,xr,aw) by rw [← hxx];exact Ch.add_ok hok HTK.out.1)
    rw [hxx] at HUP2
    replace AX:=Lib.hid AX
    have HPL:=Lib.hid (show pg<g by rw [hpg];exact hpl)
    have HFV:=Lib.hid (show ∀ j,wr.frozen? ⟨ba,j,none⟩=false from fun j=>HO.out.a.frozenAt j)
    clear hok hse hxv hxr hxx hpg hpl HUP
    have na:bx∉[ba]:=by have:=HLW.out;simp;omega
    have nz:bx+1∉[ba]:=by have:=HLW.out;simp;omega
    have ng:bg∉[ba]:=by simpa using hne
    have hlea:w.heap.size≤ba:=by have:=HB6.out.size;omega
    have d0:=cell_dr u0
    have d1:=cell_dr u1
    have d2:=cell_dr u2
    go_wp2_with fail
    refine startA (S:=fun w'=>Kept [ba] wr w'∧w'.cell? ⟨bx,0,none⟩=some (.slice (some ⟨bg,0,none⟩) n dg)∧w'.cell? ⟨bx,3,none⟩=some (.slice (some ⟨ba,0,none⟩) n da)∧w'.cell? ⟨bg,g*2,none⟩=some (.int .i64 (pg:Int))) ⟨Kept.refl _ _,c0,c3,y9⟩ (fun h=>heldK_3 (kept_dr _ _) h) (fun hS0 hHeld=>?_)
    refine takeA 0 ?_
    refine takeA 1 ?_
    refine takeA 2 ?_
    refine takeA 3 ?_
    refine takeA 4 ?_
    refine takeA 5 ?_
    refine takeA 6 ?_
    refine takeA 8 ?_
    refine readyA [7] (consA (fun K hK=>?_) .nil)
    go_simp
    refine outA hK kpK_3 (fun hHeld7=>?_)
    clear hK K
    refine readyA [9] (consA (fun K hK=>?_) .nil)
    go_simp
    refine (AX.out _).mono ?_
    rintro e w27 ⟨rfl,hb27⟩
    have hk27:Kept [ba] wr.drew w27:=Kept.of hb27
    have hbw:Below wr.heap.size wr w27:=Below.step (Below.refl _ _).drew hb27
    have gu0:=frz_later hbw (HFV.out (g*3)) (lt_of_cell u0)
    have k0:=cell_later hbw u0
    have gu1:=frz_later hbw (HFV.out (g*3+1)) (lt_of_cell u1)
    have k1:=cell_later hbw u1
    have gu2:=frz_later hbw (HFV.out (g*3+2)) (lt_of_cell u2)
    have k2:=cell_later hbw u2
    go_wp2_with fail
    refine outA hK kpK_3 (fun hHeld9=>?_)
    clear hK K
    refine takeA 10 ?_
    refine takeA 11 ?_
    refine takeA 12 ?_
    refine takeA 13 ?_
    refine readyA [14] (consA (fun K hK=>?_) .nil)
    go_simp
    have hk35:Kept [ba] w27 (((w27.setCell ⟨ba,g*3,none⟩ (.int .u64 xv)).setCell ⟨ba,g*3+1,none⟩ (.int .u32 xr)).setCell ⟨ba,g*3+2,none⟩ (.int .u32 aw)):=(((Kept.refl [ba] w27).setCell (p:=⟨ba,g*3,none⟩) (Or.inl (by simp)) _).setCell (p:=⟨ba,g*3+1,none⟩) (Or.inl (by simp)) _).setCell (p:=⟨ba,g*3+2,none⟩) (Or.inl (by simp)) _
    refine outA hK kpK_3 (fun hHeld14=>?_)
    clear hK K
    refine doneA ?_
    skip
    have HO3:=Lib.hid (show ROwn w6.heap.size (((w27.setCell ⟨ba,g*3,none⟩ (.int .u64 xv)).setCell ⟨ba,g*3+1,none⟩ (.int .u32 xr)).setCell ⟨ba,g*3+2,none⟩ (.int .u32 aw)) bg (some ⟨b,0,none⟩) ba bf dg dt da df n m { r with T:=T2,A:=A.set g (xv,xr,aw) } from (HO.out.later hbw).setA HL3.out hg (xv,xr,aw))
    have HB3:=Lib.hid (show Below w.heap.size w (((w27.setCell ⟨ba,g*3,none⟩ (.int .u64 xv)).setCell ⟨ba,g*3+1,none⟩ (.int .u32 xr)).setCell ⟨ba,g*3+2,none⟩ (.int .u32 aw)) from (((Below.step HB.out hbw).setCell hlea _).setCell hlea _).setCell hlea _)
    have HC3:=Lib.hid (HCX.out.kept hHeld14.1 na)
    have HZ3:=Lib.hid (HZ.out.kept hHeld14.1 nz)
    have e0:=hHeld14.2.1
    have e9:=hHeld14.2.2.2
    have HAL2:=Lib.hid (show (A.set g (xv,xr,aw)).length=n by rw [List.length_set];exact HAL.out)
    have HAO2:=Lib.hid (show ∀ q,q<n→EntOk (A.set g (xv,xr,aw))[q]! from fun q hq=>by
     have hq':q<(A.set g (xv,xr,aw)).length:=by rw [HAL2.out];exact hq
     rw [getElem!_pos _ q hq',List.getElem_set]
     split
     ·exact HXO.out
     ·have:=HAO.out q hq
      rwa [getElem!_pos A q (by rw [HAL.out];exact hq)] at this)
    clear hHeld14 hS0 c0 c1 c2 c3 c4 y9 u0 u1 u2 d0 d1 d2 k0 k1 k2 gu0 gu1 gu2 hk27 hk35 hbw hb27 na nz ng
    go_wp2_with fail
    go_roundw
    case rel=>exact ⟨pg,A.set g (xv,xr,aw),hpgn,rfl,HAL2.out,HAO2.out,Lib.hid HUP2.out,HO3.out,HB3.out,HC3.out,HZ3.out⟩
    case measure=>have:=HPL.out;simp [intOf];omega
   ·have z1:decide ((g:Int) > 0)=false:=decide_eq_false (by omega)
    have z2:decide (0<g)=false:=decide_eq_false h0
    have z3:¬ (0:Int)<(g:Int):=by omega
    have hup:A=chA tk (pathT (parG r.Gs) g0) r.A:=by
     have:=HUP.out
     obtain rfl:g=0:=by omega
     rw [pathT_zero] at this
     exact this
    have HUP3:=Lib.hid hup
    clear HUP hup
    have AR:=Lib.hid (traised_at { r with T:=T2,A:=A } n m HL3.out w6.heap.size bg (some ⟨b,0,none⟩) ba bf dg dt da df wr HO.out)
    go_wp2_with fail
    refine AR.out.mono ?_;clear AR;rintro e w20 ⟨rfl,hO,hk⟩
    have nz:bx+1∉[bf]:=by have:=HLW.out;simp;omega
    have hz:=HZ.out.kept hk nz
    have z_0:w20.cell? ⟨bx+1,0,none⟩=some (.slice none 0 0):=(hz 0 _ rfl).1
    have fz0:w20.frozen? ⟨bx+1,0,none⟩=false:=(hz 0 _ rfl).2
    have z_1:w20.cell? ⟨bx+1,1,none⟩=some (.int .u64 0):=(hz 1 _ rfl).1
    have fz1:w20.frozen? ⟨bx+1,1,none⟩=false:=(hz 1 _ rfl).2
    have z_2:w20.cell? ⟨bx+1,2,none⟩=some (.slice none 0 0):=(hz 2 _ rfl).1
    have fz2:w20.frozen? ⟨bx+1,2,none⟩=false:=(hz 2 _ rfl).2
    have z_3:w20.cell? ⟨bx+1,3,none⟩=some (.slice none 0 0):=(hz 3 _ rfl).1
    have fz3:w20.frozen? ⟨bx+1,3,none⟩=false:=(hz 3 _ rfl).2
    have z_4:w20.cell? ⟨bx+1,4,none⟩=some (.slice none 0 0):=(hz 4 _ rfl).1
    have fz4:w20.frozen? ⟨bx+1,4,none⟩=false:=(hz 4 _ rfl).2
    have HO20:=Lib.hid hO
    have HB20:=Lib.hid (show Below w.heap.size w w20 from HB.out.trans (hk.below (fun b hb=>by have:=HB6.out.size;simp at hb;omega) HB.out.size))
    clear hO hk hz nz
    go_wp2_with fail
    refine bodyPost_ret (v:=.tuple #[.agg #[.slice (some ⟨bg,0,none⟩) n dg,.int .u64 r.cr,.slice (some ⟨b,0,none⟩) m dt,.slice (some ⟨ba,0,none⟩) n da,.slice (some ⟨bf,0,none⟩) n df],.int .i64 0]) (by simp [results,Tryz.results64,go_sem, *]) rfl ?_
    rw [HE2.out,← HUP3.out]
    have hlow:bx+1<w6.heap.size:=HLW.out
    have hO:=HO20.out
    exact ResP.own (r2:=raisedR { r with T:=T2,A:=A } n) (val:=tup2 0) (ROwn.toBase (((((hO.low (a:=⟨bx+1,0,none⟩) hlow _).low (a:=⟨bx+1,1,none⟩) hlow _).low (a:=⟨bx+1,2,none⟩) hlow _).low (a:=⟨bx+1,3,none⟩) hlow _).low (a:=⟨bx+1,4,none⟩) hlow _) HB6.out.size) (raisedR_len HL3.out) (((((HB20.out.setCell hle _).setCell hle _).setCell hle _).setCell hle _).setCell hle _)
 ·have z0:(c != 0)=true:=by simpa using hc0
  have z1:¬ c=0:=hc0
  have HC0:=Lib.hid hc0
  clear hc0
  go_wp2_with fail
  refine bodyPost_ret (v:=.tuple #[.agg #[.slice ag n cg,.int .u64 r.cr,.slice at' m ct,.slice aa n ca,.slice af n cf],.int .i64 c]) (by simp [results,Tryz.results64,go_sem, *]) rfl ?_
  exact HF.out _ HC0.out (((((HB6.out.setCell hle _).setCell hle _).setCell hle _).setCell hle _).setCell hle _)
end Go.Proofs.YtfgmglghlapbcaaGreat
