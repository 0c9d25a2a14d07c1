/-
  Layer 30 (model): copied.
-/
import Derived.Test.YtapnaocdehahdaaGreatMdK
namespace Go.Proofs.YtapnaocdehahdaaGreat
open Go.RowKit Go.Maps Go.IntWalk Go.Lib
set_option linter.unusedVariables false
set_option linter.unusedSimpArgs false
set_option maxRecDepth 100000 in
set_option maxHeartbeats 1000000 in
theorem CloneT_at {w:World} {v:Value} {tb:Option Nat} {ts:List TVw} (h:TsAt w v tb ts) (hn:ts.length≤65535):Calls Tryz.prog 164 #[v] w fun e w'=>∃ v' tb',e=.returned v'∧TsAt w' v' tb' ts∧Below w.heap.size w w'∧∀ b,tb'=some b→w.heap.size≤b:=by
 obtain ⟨i0,hi,hz0,hz1,hz2⟩:=info_parts infoTk
 have hs:=@Lib.run_eql_slice_nil Tryz.prog
 have HO1:=Lib.hid (flatR_one encTl_ok ts)
 have HLN:=Lib.hid (flatR_len encTl_ok ts)
 rcases h.own.2 with ⟨rfl,h0⟩ | ⟨b,c,cur,rfl,_⟩
 ·have e:ts=[]:=List.eq_nil_of_length_eq_zero h0
  subst e
  clear h
  go_enter Tryz.func164,Tryz.ntmps164
  go_wp2_with fail
  go_ret
  exact ⟨_,none,rfl,⟨World.ownsRow_nil _ _ _ _,rfl⟩,Below.refl _ _,fun b q=>by cases q⟩
 ·have HC:=Lib.hid (show ∀ j u,(flatR encTl ts)[j]?=some u→w.cell? ⟨b,j,none⟩=some u from fun j u hu=>by
   have hj:j<ts.length*8:=by rw [← flatR_len encTl_ok];exact (List.getElem?_eq_some_iff.1 hu).1
   rw [h.own.cellAt j hj];exact hu)
  obtain ⟨N,hN⟩:∃ N,N=ts.length:=⟨_,rfl⟩
  rw [← hN] at hn ⊢
  have HN:=Lib.hid hN
  clear h hN
  go_enter Tryz.func164,Tryz.ntmps164
  go_wp2_with (at_builtin;refine wpList_append_own _ rfl _ _ 43 rfl w.heap.size 59 i0 (.agg #[.int .i64 0,.int .i64 0,.int .i64 0,.int .i64 0,.int .u64 0,.bool false,.int .u64 0,.int .u32 0]) 8 64 Tryz.underlying43 hi hz0 hz1 hz2 rfl (by decide) _ 0 [] rfl (World.ownsRow_lit w #[] 0 (Nat.le_refl _) (by unfold maxLen;omega) rfl) ⟨b,0,none⟩ N c (flatR encTl ts) rfl ?c1 ?c2 HO1.out ?c3 ?c4 ?c5 ?_)
  case c1=>rw [HLN.out,HN.out]
  case c2=>exact fun j u hu=>by rw [addN,Nat.zero_add];exact cell_al _ (HC.out j u hu)
  case c3=>unfold maxLen;omega
  case c4=>omega
  case c5=>simp
  intro v' w1 hown hgrow _
  have hbw:Below w.heap.size w w1:=(Below.allocS (Below.refl _ _) _).grown hgrow (by simp) (fun k hk=>by cases hk;exact Nat.le_refl _)
  have HOW:=Lib.hid hown
  clear hown hgrow
  go_wp2_with fail
  go_ret
  refine ⟨v',v'.ownBlock,rfl,⟨?_,rfl⟩,hbw,fun b q=>(HOW.out.lt b q).1⟩
  have:=own_base HOW.out (Nat.zero_le _)
  rw [← HN.out]
  simpa using this
theorem makeRows (W:World) {n:Nat} (h:n≤256):(Instr.makeSlice 44 (.int .i64 (n:Int)) (.int .i64 (n:Int))).run Tryz.prog W=.ok (.slice (some ⟨W.heap.size,0,none⟩) n n) (W.alloc (.cells (madeCells #[.slice none 0 0] (n*1)) 69)):=by
 obtain ⟨i0,hi,hz0,hz1,hz2⟩:=info_parts infoSptR
 have hb:(i0.bytes:Int)*(n:Int)≤281474976710656:=by rw [hz2];omega
 have hr:=run_make (P:=Tryz.prog) W 44 69 i0 _ Tryz.underlying44 hi hz0 .i64 .i64 n n (by omega) (Int.le_refl _) hb (by omega)
 simp only [Int.toNat_natCast,hz1] at hr
 exact hr
def CopP (m:MSt) (w:World) (e:Ending) (w':World):Prop:=∃ (g l u s:Nat) (tb:Option Nat) (rr:Nat→Nat) (cg cl cu cs:Nat) (vt:Value),e=.returned (.agg #[.int .i64 m.C,.int .u64 m.cr,.slice (some ⟨g,0,none⟩) m.n cg,.slice (some ⟨l,0,none⟩) m.C cl,.slice (some ⟨u,0,none⟩) m.C cu,vt,.slice (some ⟨s,0,none⟩) m.n cs])
 ∧ (m.n≤cg∧cg≤9223372036854775807)∧(m.C≤cl∧cl≤9223372036854775807)∧(m.C≤cu∧cu≤9223372036854775807)∧(m.n≤cs∧cs≤9223372036854775807)
 ∧ GrpsAt w' g m.Gs∧IntsAt w' l m.C m.cl∧IntsAt w' u m.C m.cu∧TsAt w' vt tb m.ts∧RwsAt w' s m.n m.C rr∧(∀ i,i<m.n→SpsAt w' (rr i) m.C (m.sp i))∧ChainB g l u tb s m.n rr∧w.heap.size≤g∧Below w.heap.size w w'
theorem own_cap {w:World} {base b n c t k:Nat} {xs:List Value} (h:w.ownsRow base t k (.slice (some ⟨b,0,none⟩) n c) n xs):n≤c∧c≤9223372036854775807:=by
 rcases h.2 with ⟨e,_⟩ | ⟨g,cap,cur,e,_,_,h1,h2,_⟩
 ·cases e
 ·cases e;unfold maxLen at h2;omega
theorem StB.lists {w:World} {b:Nat} {C cr:Int} {vg vl vu vt vs:Value} (h:StB w b C cr vg vl vu vt vs) (x3 x4 x5:Value):StB (((w.setCell ⟨b,3,none⟩ x3).setCell ⟨b,4,none⟩ x4).setCell ⟨b,5,none⟩ x5) b C cr vg x3 x4 x5 vs:=by
 have d:∀ {w:World} {o o':Nat} {v u:Value},w.cell? ⟨b,o,none⟩=some v→o≠o'→(w.setCell ⟨b,o',none⟩ u).cell? ⟨b,o,none⟩=some v:=fun q n=>cell_set_ne q (Or.inr n)
 exact ⟨d (d (d h.c0 (by decide)) (by decide)) (by decide),d (d (d h.c1 (by decide)) (by decide)) (by decide),d (d (d h.c2 (by decide)) (by decide)) (by decide),d (d (cell_set_eq h.c3) (by decide)) (by decide),d (cell_set_eq (d h.c4 (by decide))) (by decide),cell_set_eq (d (d h.c5 (by decide)) (by decide)),d (d (d h.c6 (by decide)) (by decide)) (by decide),fun j=>by simpa using h.z j⟩
structure CopI (W6 wr:World) (sb n C k:Nat) (sp:Nat→Nat→Int×Int×Int) (r2:Nat→Nat):Prop where
 kp:Kept [sb] W6 wr
 row:∀ i,i<k→SlAt wr sb i (r2 i) C∧SpsAt wr (r2 i) C (sp i)∧sb<r2 i∧r2 i<wr.heap.size∧W6.heap.size≤r2 i
 up:∀ i j,i<j→j<k→r2 i<r2 j
 ex:∀ i,i<n→∃ u,wr.cell? ⟨sb,i,none⟩=some u
 z:∀ j,wr.frozen? ⟨sb,j,none⟩=false
theorem CopI.step {W6 wr w1:World} {sb n C k c2 g2:Nat} {sp:Nat→Nat→Int×Int×Int} {r2:Nat→Nat} (h:CopI W6 wr sb n C k sp r2) (hk:k<n) (hs:sb<W6.heap.size) (hb:Below wr.heap.size wr w1) (ho:w1.ownsRow wr.heap.size 121 3 (.slice (some ⟨g2,0,none⟩) C c2) C (flatR encSp ((List.range C).map (sp k)))) :
  CopI W6 (w1.setCell ⟨sb,k,none⟩ (.slice (some ⟨g2,0,none⟩) C c2)) sb n C (k+1) sp (upd r2 k g2):=by
 have hg:=ho.lt g2 rfl
 have hsz:=h.kp.size
 have hc:=own_cap ho
 obtain ⟨u,hu⟩:=h.ex k hk
 have hss:sb<wr.heap.size:=by omega
 have ks:Kept [sb] w1 (w1.setCell ⟨sb,k,none⟩ (.slice (some ⟨g2,0,none⟩) C c2)):=(Kept.refl _ _).setCell (Or.inl (by simp)) _
 have hsize:(w1.setCell ⟨sb,k,none⟩ (.slice (some ⟨g2,0,none⟩) C c2)).heap.size=w1.heap.size:=by simp
 refine ⟨(h.kp.step hb).setCell (Or.inl (by simp)) _,fun i hi=>?_,fun i j hij hj=>?_,fun i hi=>?_,fun j=>by rw [World.frozen?_setCell];exact frz_later hb (h.z j) hss⟩
 ·by_cases e:i=k
  ·subst e
   rw [upd_same]
   refine ⟨⟨c2,hc.1,hc.2,cell_set_eq (cell_later hb hu)⟩,(own_sps ho).kept ks (by simp;omega),by omega,by rw [hsize];exact hg.2,by omega⟩
  ·rw [upd_other _ _ e]
   obtain ⟨⟨c,q1,q2,q3⟩,q4,q5,q6,q7⟩:=h.row i (by omega)
   refine ⟨⟨c,q1,q2,cell_set_ne (cell_later hb q3) (Or.inr e)⟩,(q4.kept (G:=[]) (Kept.of hb) (by simp)).kept ks (by simp;omega),q5,by rw [hsize];have:=hb.size;omega,q7⟩
 ·by_cases e:j=k
  ·subst e
   rw [upd_same,upd_other _ _ (by omega)]
   have:=(h.row i hij).2.2.2.1
   omega
  ·rw [upd_other _ _ e,upd_other _ _ (by omega)]
   exact h.up i j hij (by omega)
 ·by_cases e:i=k
  ·subst e;exact ⟨_,cell_set_eq (cell_later hb hu)⟩
  ·obtain ⟨v,hv⟩:=h.ex i hi;exact ⟨v,cell_set_ne (cell_later hb hv) (Or.inr e)⟩
set_option maxRecDepth 100000 in
set_option maxHeartbeats 4000000 in
theorem mcopied_at {w:World} {g l u s cg cl cu cs:Nat} {vt:Value} {tb:Option Nat} {rr:Nat→Nat} {m:MSt} (hg:GrpsAt w g m.Gs) (hl:IntsAt w l m.C m.cl) (hu:IntsAt w u m.C m.cu) (ht:TsAt w vt tb m.ts) (hs:RwsAt w s m.n m.C rr) (hsp:∀ i,i<m.n→SpsAt w (rr i) m.C (m.sp i)) (hn:0<m.n∧m.n≤256) (hC:1≤m.C∧m.C≤64) (hfew:m.ts.length≤65535) :
  Calls Tryz.prog 86 #[.agg #[.int .i64 m.C,.int .u64 m.cr,.slice (some ⟨g,0,none⟩) m.n cg,.slice (some ⟨l,0,none⟩) m.C cl,.slice (some ⟨u,0,none⟩) m.C cu,vt,.slice (some ⟨s,0,none⟩) m.n cs]] w (CopP m w):=by
 obtain ⟨a5,c5,rfl⟩:=ht.shape
 obtain ⟨W0,hW0⟩:∃ W,W=(w.alloc (.cells #[.int .i64 m.C,.int .u64 m.cr,.slice (some ⟨g,0,none⟩) m.n cg,.slice (some ⟨l,0,none⟩) m.C cl,.slice (some ⟨u,0,none⟩) m.C cu,.slice a5 m.ts.length c5,.slice (some ⟨s,0,none⟩) m.n cs] 46)).alloc (.cells #[.int .i64 0,.int .u64 0,.slice none 0 0,.slice none 0 0,.slice none 0 0,.slice none 0 0,.slice none 0 0] 46):=⟨_,rfl⟩
 have HW0:=Lib.hid hW0
 have hb0:Below w.heap.size w W0:=by rw [hW0];exact Below.allocS (below_a _ _) _
 obtain ⟨b1,hb1⟩:∃ b,b=w.heap.size:=⟨_,rfl⟩
 obtain ⟨b2,hb2⟩:∃ b,b=w.heap.size+1:=⟨_,rfl⟩
 have BX1:=Lib.hid (show StB W0 b1 m.C m.cr (.slice (some ⟨g,0,none⟩) m.n cg) (.slice (some ⟨l,0,none⟩) m.C cl) (.slice (some ⟨u,0,none⟩) m.C cu) (.slice a5 m.ts.length c5) (.slice (some ⟨s,0,none⟩) m.n cs) by rw [hW0,hb1];exact (StB.made _ _ _ _ _ _ _ _ _).later (below_a _ _))
 have BX2:=Lib.hid (show StB W0 b2 0 0 (.slice none 0 0) (.slice none 0 0) (.slice none 0 0) (.slice none 0 0) (.slice none 0 0) by
  rw [hW0,hb2]
  have:=StB.made (w.alloc (.cells #[.int .i64 m.C,.int .u64 m.cr,.slice (some ⟨g,0,none⟩) m.n cg,.slice (some ⟨l,0,none⟩) m.C cl,.slice (some ⟨u,0,none⟩) m.C cu,.slice a5 m.ts.length c5,.slice (some ⟨s,0,none⟩) m.n cs] 46)) 46 0 0 (.slice none 0 0) (.slice none 0 0) (.slice none 0 0) (.slice none 0 0) (.slice none 0 0)
  simpa using this)
 have HL:=Lib.hid (show g<b1∧l<b1∧u<b1∧s<b1∧(∀ b,tb=some b→b<b1)∧(∀ i,i<m.n→rr i<b1)∧b1=w.heap.size∧b2=b1+1∧W0.heap.size=b1+2 from
  ⟨by rw [hb1];exact hg.lt,by rw [hb1];exact hl.lt,by rw [hb1];exact hu.lt,by rw [hb1];exact hs.lt,fun b q=>by rw [hb1];exact ht.lt q,fun i q=>by rw [hb1];exact (hsp i q).lt,hb1,by omega,by rw [hW0,hb1];simp⟩)
 have HB0:=Lib.hid hb0
 have ACG:=Lib.hid (show Calls Tryz.prog 46 #[.slice (some ⟨g,0,none⟩) m.n cg] W0 (ClonP (flatR encG m.Gs) 72 2 m.n W0) from GpClone_at (c:=cg) (hg.kept (G:=[]) (Kept.of hb0) (by simp)) hn.1 hn.2)
 have HGL:=Lib.hid (hl.kept (G:=[]) (Kept.of hb0) (by simp))
 have HGU:=Lib.hid (hu.kept (G:=[]) (Kept.of hb0) (by simp))
 have HGT:=Lib.hid (ht.kept (G:=[]) (Kept.of hb0) (by simp))
 have HGS:=Lib.hid (hs.kept (G:=[]) (Kept.of hb0) (by simp))
 have HSP:=Lib.hid fun i (q:i<m.n)=>(hsp i q).kept (G:=[]) (Kept.of hb0) (by simp)
 have HNN:=Lib.hid hn
 have HCC:=Lib.hid hC
 have HFW:=Lib.hid hfew
 clear hg hl hu ht hs hsp hn hC hfew hb0 hW0
 go_enter Tryz.func86,Tryz.ntmps86
 go_upto_region 1 with fail
 rw [← HW0.out]
 rw [← hb2,← hb1]
 clear hb1 hb2
 have x2:=BX1.out.c2
 have z2:=BX1.out.z 2
 unfold ClonP at ACG
 go_wp2_with fail
 refine ACG.out.mono ?_;rintro e w1 ⟨g',cg',rfl,og,hb1⟩
 have B11:=BX1.out.later hb1
 have x2':=B11.c2
 have z2':=B11.z 2
 go_wp2_with fail
 obtain ⟨W1,hW1⟩:∃ W,W=w1.setCell ⟨b1,2,none⟩ (.slice (some ⟨g',0,none⟩) m.n cg'):=⟨_,rfl⟩
 have k1:Kept [b1] W0 W1:=by rw [hW1];exact (Kept.of hb1).setCell (Or.inl (by simp)) _
 have hg':W0.heap.size≤g'∧g'<w1.heap.size:=⟨(og.lt g' rfl).1,(og.lt g' rfl).2⟩
 have BY1:=Lib.hid (show StB W1 b1 m.C m.cr (.slice (some ⟨g',0,none⟩) m.n cg') (.slice (some ⟨l,0,none⟩) m.C cl) (.slice (some ⟨u,0,none⟩) m.C cu) (.slice a5 m.ts.length c5) (.slice (some ⟨s,0,none⟩) m.n cs) by rw [hW1];exact B11.grps _)
 have hs1:W1.heap.size=w1.heap.size:=by rw [hW1];simp
 have OG1:=Lib.hid (show W1.ownsRow W0.heap.size 72 2 (.slice (some ⟨g',0,none⟩) m.n cg') m.n (flatR encG m.Gs) by
  rw [hW1];exact own_kept og (S:=[b1]) ((Kept.refl _ _).setCell (Or.inl (by simp)) _) (fun b q r=>by cases q;simp at r;have:=HL.out;omega))
 have HBW1:=Lib.hid (show Below w.heap.size w W1 from Kept.stepB HB0.out (Nat.le_refl _) k1 fun b q=>by simp at q;have:=HL.out;omega)
 have HG1:=Lib.hid (show b1<W1.heap.size∧b2<W1.heap.size∧b2<g'∧g'<W1.heap.size by have:=HL.out;omega)
 have BY2:=Lib.hid (BX2.out.kept k1 (by have:=HL.out;simp;omega))
 have nl:l∉[b1]:=by have:=HL.out;simp;omega
 have nu:u∉[b1]:=by have:=HL.out;simp;omega
 have HGS1:=Lib.hid (HGS.out.kept k1 (by have:=HL.out;simp;omega))
 have HSP1:=Lib.hid fun i (q:i<m.n)=>(HSP.out i q).kept k1 (by have:=HL.out.2.2.2.2.2.1 i q;simp;omega)
 have ACL:=Lib.hid fun W (hb:Below W1.heap.size W1 W)=>(show Calls Tryz.prog 49 #[.slice (some ⟨l,0,none⟩) m.C cl] W (ClonP (flatR encZ1 ((List.range m.C).map m.cl)) 3 1 m.C W) from IClone_at (c:=cl) ((HGL.out.kept k1 nl).kept (G:=[]) (Kept.of hb) (by simp)) (by have:=HCC.out;omega) HCC.out.2)
 have ACU:=Lib.hid fun W (hb:Below W1.heap.size W1 W)=>(show Calls Tryz.prog 49 #[.slice (some ⟨u,0,none⟩) m.C cu] W (ClonP (flatR encZ1 ((List.range m.C).map m.cu)) 3 1 m.C W) from IClone_at (c:=cu) ((HGU.out.kept k1 nu).kept (G:=[]) (Kept.of hb) (by simp)) (by have:=HCC.out;omega) HCC.out.2)
 have ACT:=Lib.hid fun W (hb:Below W1.heap.size W1 W)=>CloneT_at ((HGT.out.kept k1 (fun b q r=>by simp at r;have:=HL.out.2.2.2.2.1 b q;omega)).kept (G:=[]) (Kept.of hb) (by simp)) HFW.out
 unfold ClonP at ACL ACU
 have e3:=BY1.out.c3
 have e4:=BY1.out.c4
 have e5:=BY1.out.c5
 rw [← hW1]
 clear hW1 k1 og hb1 x2 z2 x2' z2' B11 ACG hs1 nl nu hg'
 go_upto_region 2 with fail
 go_cut [1] (fun v wx=>∃ (gl gu c1 c2 c6:Nat) (a6:Option Addr) (tb2:Option Nat),v=.pointer (some ⟨b1,0,none⟩)∧Hid (StB wx b1 m.C m.cr (.slice (some ⟨g',0,none⟩) m.n cg') (.slice (some ⟨gl,0,none⟩) m.C c1) (.slice (some ⟨gu,0,none⟩) m.C c2) (.slice a6 m.ts.length c6) (.slice (some ⟨s,0,none⟩) m.n cs))∧Hid (wx.ownsRow 0 3 1 (.slice (some ⟨gl,0,none⟩) m.C c1) m.C (flatR encZ1 ((List.range m.C).map m.cl)))∧Hid (wx.ownsRow 0 3 1 (.slice (some ⟨gu,0,none⟩) m.C c2) m.C (flatR encZ1 ((List.range m.C).map m.cu)))∧Hid (TsAt wx (.slice a6 m.ts.length c6) tb2 m.ts)∧Hid (Kept [b1] W1 wx)∧Hid (g'<gl∧gl<gu∧gu<wx.heap.size∧∀ b,tb2=some b→gu<b∧b<wx.heap.size))
 case first =>
  have hS0:Below W1.heap.size W1 W1.drew∧W1.drew.cell? ⟨b1,3,none⟩=some (.slice (some ⟨l,0,none⟩) m.C cl)∧W1.drew.cell? ⟨b1,4,none⟩=some (.slice (some ⟨u,0,none⟩) m.C cu)∧W1.drew.cell? ⟨b1,5,none⟩=some (.slice a5 m.ts.length c5):=⟨Below.drew (Below.refl _ _),cell_dr e3,cell_dr e4,cell_dr e5⟩
  refine startU [9,10,11,12,13,14] (fun w'=>Below W1.heap.size W1 w'∧w'.cell? ⟨b1,3,none⟩=some (.slice (some ⟨l,0,none⟩) m.C cl)∧w'.cell? ⟨b1,4,none⟩=some (.slice (some ⟨u,0,none⟩) m.C cu)∧w'.cell? ⟨b1,5,none⟩=some (.slice a5 m.ts.length c5)) (by kernel_rfl) hS0 (fun hHeld=>?_)
  refine takeUw (i:=0) (v:=?v0_101) rfl (by kernel_rfl) (fun _ _ _ h=>h) (by rfl) ?hy0_101 (by assumption) ?rest0_101
  case hy0_101=>(intro w hSw;(try dsimp only at hSw);go_simp;try with_reducible rfl)
  try simp only [Act.put,List.setIfInBounds_toArray,List.set_cons_zero,List.set_cons_succ]
  refine takeUw (i:=1) (v:=?v1_102) rfl (by kernel_rfl) (fun _ _ _ h=>h) (by rfl) ?hy1_102 (by assumption) ?rest1_102
  case hy1_102=>(intro w hSw;(try dsimp only at hSw);go_simp;try with_reducible rfl)
  try simp only [Act.put,List.setIfInBounds_toArray,List.set_cons_zero,List.set_cons_succ]
  refine takeUw (i:=3) (v:=?v3_103) rfl (by kernel_rfl) (fun _ _ _ h=>h) (by rfl) ?hy3_103 (by assumption) ?rest3_103
  case hy3_103=>(intro w hSw;(try dsimp only at hSw);go_simp;try with_reducible rfl)
  try simp only [Act.put,List.setIfInBounds_toArray,List.set_cons_zero,List.set_cons_succ]
  refine takeUw (i:=4) (v:=?v4_104) rfl (by kernel_rfl) (fun _ _ _ h=>h) (by rfl) ?hy4_104 (by assumption) ?rest4_104
  case hy4_104=>(intro w hSw;(try dsimp only at hSw);go_simp;try with_reducible rfl)
  try simp only [Act.put,List.setIfInBounds_toArray,List.set_cons_zero,List.set_cons_succ]
  refine takeUw (i:=6) (v:=?v6_105) rfl (by kernel_rfl) (fun _ _ _ h=>h) (by rfl) ?hy6_105 (by assumption) ?rest6_105
  case hy6_105=>(intro w hSw;(try dsimp only at hSw);go_simp;try with_reducible rfl)
  try simp only [Act.put,List.setIfInBounds_toArray,List.set_cons_zero,List.set_cons_succ]
  refine takeUw (i:=7) (v:=?v7_106) rfl (by kernel_rfl) (fun _ _ _ h=>h) (by rfl) ?hy7_106 (by assumption) ?rest7_106
  case hy7_106=>(intro w hSw;(try dsimp only at hSw);go_simp;try with_reducible rfl)
  try simp only [Act.put,List.setIfInBounds_toArray,List.set_cons_zero,List.set_cons_succ]
  refine readyU (rs:=[2]) (by kernel_rfl) (by simp) ?_
  refine consU rfl (fun K hK=>?_) (nilU)
  go_simp
  refine (ACL.out _ (Below.refl _ _).drew).mono ?_
  rintro e w2 ⟨gl,c1,rfl,ol,hb2⟩
  go_wp2_with fail
  refine hK.out _ _ ?_ (fun hHeld2=>?_)
  ·(first | assumption | (refine held_3 (by assumption) ?_;assumption) | (refine held_3 (below_ad _ _) ?_;assumption) | (refine held_3 (below_a _ _) ?_;assumption))
  clear hK K
  try simp only [Act.put,List.setIfInBounds_toArray,List.set_cons_zero,List.set_cons_succ]
  refine readyU (rs:=[5,9]) (by kernel_rfl) (by simp) ?_
  refine consU rfl (fun K hK=>?_) (consV rfl (by kernel_rfl) (fun K hK=>?_) (nilU))
  ·skip
   go_simp
   have HW2:=Lib.hid (Below.step ((Below.refl W1.heap.size W1).drew) hb2)
   refine (ACU.out _ HW2.out).mono ?_
   rintro e w3 ⟨gu,c2,rfl,ou,hb3⟩
   go_wp2_with fail
   refine hK.out _ _ ?_ (fun hHeld5=>?_)
   ·(first | assumption | (refine held_3 (by assumption) ?_;assumption) | (refine held_3 (below_ad _ _) ?_;assumption) | (refine held_3 (below_a _ _) ?_;assumption))
   clear hK K
   try simp only [Act.put,List.setIfInBounds_toArray,List.set_cons_zero,List.set_cons_succ]
   refine readyU (rs:=[8,9]) (by kernel_rfl) (by simp) ?_
   refine consU rfl (fun K hK=>?_) (consV rfl (by kernel_rfl) (fun K hK=>?_) (nilU))
   ·skip
    go_simp
    have HW3:=Lib.hid (Below.step HW2.out hb3)
    refine (ACT.out _ HW3.out).mono ?_
    rintro e w4 ⟨vt2,tb2,rfl,ot,hb4,hnb4⟩
    obtain ⟨a6,c6,hv6⟩:=ot.shape
    subst vt2
    have B4:=BY1.out.later (Below.step HW3.out hb4)
    have y3:=B4.c3
    have y4:=B4.c4
    have y5:=B4.c5
    have z3:=B4.z 3
    have z4:=B4.z 4
    have z5:=B4.z 5
    go_wp2_with fail
    refine hK.out _ _ ?_ (fun hHeld8=>?_)
    ·(first | assumption | (refine held_3 (by assumption) ?_;assumption) | (refine held_3 (below_ad _ _) ?_;assumption) | (refine held_3 (below_a _ _) ?_;assumption))
    clear hK K
    try simp only [Act.put,List.setIfInBounds_toArray,List.set_cons_zero,List.set_cons_succ]
    refine readyU (rs:=[9]) (by kernel_rfl) (by simp) ?_
    refine consV rfl (by kernel_rfl) (fun K hK=>?_) (nilU)
    go_simp
    skip
    refine hK.out _ _ ?_
    clear hK K
    try simp only [Act.put,List.setIfInBounds_toArray,List.set_cons_zero,List.set_cons_succ]
    refine readyU (rs:=[10]) (by kernel_rfl) (by simp) ?_
    refine consV rfl (by kernel_rfl) (fun K hK=>?_) (nilU)
    go_simp
    go_simp
    refine hK.out _ _ ?_
    clear hK K
    try simp only [Act.put,List.setIfInBounds_toArray,List.set_cons_zero,List.set_cons_succ]
    refine readyU (rs:=[11]) (by kernel_rfl) (by simp) ?_
    refine consV rfl (by kernel_rfl) (fun K hK=>?_) (nilU)
    go_simp
    skip
    refine hK.out _ _ ?_
    clear hK K
    try simp only [Act.put,List.setIfInBounds_toArray,List.set_cons_zero,List.set_cons_succ]
    refine readyU (rs:=[12]) (by kernel_rfl) (by simp) ?_
    refine consV rfl (by kernel_rfl) (fun K hK=>?_) (nilU)
    go_simp
    go_simp
    refine hK.out _ _ ?_
    clear hK K
    try simp only [Act.put,List.setIfInBounds_toArray,List.set_cons_zero,List.set_cons_succ]
    refine readyU (rs:=[13]) (by kernel_rfl) (by simp) ?_
    refine consV rfl (by kernel_rfl) (fun K hK=>?_) (nilU)
    go_simp
    skip
    refine hK.out _ _ ?_
    clear hK K
    try simp only [Act.put,List.setIfInBounds_toArray,List.set_cons_zero,List.set_cons_succ]
    refine readyU (rs:=[14]) (by kernel_rfl) (by simp) ?_
    refine consV rfl (by kernel_rfl) (fun K hK=>?_) (nilU)
    go_simp
    go_simp
    refine hK.out _ _ ?_
    clear hK K
    try simp only [Act.put,List.setIfInBounds_toArray,List.set_cons_zero,List.set_cons_succ]
    refine doneU (by kernel_rfl) ?_ _
    obtain ⟨W5,hW5⟩:∃ W,W=(((w4.setCell ⟨b1,3,none⟩ (.slice (some ⟨gl,0,none⟩) m.C c1)).setCell ⟨b1,4,none⟩ (.slice (some ⟨gu,0,none⟩) m.C c2)).setCell ⟨b1,5,none⟩ (.slice a6 m.ts.length c6)):=⟨_,rfl⟩
    have hb14:Below W1.heap.size W1 w4:=Below.step HW3.out hb4
    have k5:Kept [b1] w4 W5:=by rw [hW5];exact (((Kept.refl _ _).setCell (Or.inl (by simp)) _).setCell (Or.inl (by simp)) _).setCell (Or.inl (by simp)) _
    have hs5:W5.heap.size=w4.heap.size:=by rw [hW5];simp
    have k15:=Lib.hid (show Kept [b1] W1 W5 from (Kept.of hb14).trans k5)
    have BZ1:=Lib.hid (show StB W5 b1 m.C m.cr (.slice (some ⟨g',0,none⟩) m.n cg') (.slice (some ⟨gl,0,none⟩) m.C c1) (.slice (some ⟨gu,0,none⟩) m.C c2) (.slice a6 m.ts.length c6) (.slice (some ⟨s,0,none⟩) m.n cs) by rw [hW5];exact B4.lists _ _ _)
    have hgl:=ol.lt gl rfl
    have hgu:=ou.lt gu rfl
    have hd1:W1.drew.heap.size=W1.heap.size:=rfl
    have hz3:=hb3.size
    have hz4:=hb4.size
    have hz2:=hb2.size
    have n1:gl∉[b1]:=by have:=HG1.out;simp;omega
    have n2:gu∉[b1]:=by have:=HG1.out;simp;omega
    have OL5:=Lib.hid (own_base (own_kept (own_below (own_below ol hb3) hb4) k5 (fun b q r=>by cases q;exact n1 r)) (Nat.zero_le _))
    have OU5:=Lib.hid (own_base (own_kept (own_below ou hb4) k5 (fun b q r=>by cases q;exact n2 r)) (Nat.zero_le _))
    have OT5:=Lib.hid (ot.kept k5 (fun b q r=>by have:=hnb4 b q;have:=HG1.out;simp at r;omega))
    have HCH:=Lib.hid (show g'<gl∧gl<gu∧gu<W5.heap.size∧∀ b,tb2=some b→gu<b∧b<W5.heap.size by
     have:=HG1.out
     refine ⟨by omega,by omega,by omega,fun b q=>?_⟩
     have q1:=hnb4 b q
     have q2:=ot.lt q
     omega)
    rw [← hW5]
    clear hW5 hb14 k5 hs5 hgl hgu hd1 hz2 hz3 hz4 n1 n2 ol ou ot hnb4 hb2 hb3 hb4 B4 y3 y4 y5 z3 z4 z5 e3 e4 e5 hS0 hHeld
    go_wp2_with fail
    go_meet
    case rel=>exact ⟨gl,gu,c1,c2,c6,a6,tb2,rfl,BZ1,OL5,OU5,OT5,k15,HCH⟩
   ·skip
    go_simp
    skip
    refine hK.out _ _ ?_
    clear hK K
    try simp only [Act.put,List.setIfInBounds_toArray,List.set_cons_zero,List.set_cons_succ]
    refine readyU (rs:=[8]) (by kernel_rfl) (by simp) ?_
    refine consU rfl (fun K hK=>?_) (nilU)
    go_simp
    have HW3:=Lib.hid (Below.step HW2.out hb3)
    refine (ACT.out _ HW3.out).mono ?_
    rintro e w4 ⟨vt2,tb2,rfl,ot,hb4,hnb4⟩
    obtain ⟨a6,c6,hv6⟩:=ot.shape
    subst vt2
    have B4:=BY1.out.later (Below.step HW3.out hb4)
    have y3:=B4.c3
    have y4:=B4.c4
    have y5:=B4.c5
    have z3:=B4.z 3
    have z4:=B4.z 4
    have z5:=B4.z 5
    go_wp2_with fail
    refine hK.out _ _ ?_ (fun hHeld8=>?_)
    ·(first | assumption | (refine held_3 (by assumption) ?_;assumption) | (refine held_3 (below_ad _ _) ?_;assumption) | (refine held_3 (below_a _ _) ?_;assumption))
    clear hK K
    try simp only [Act.put,List.setIfInBounds_toArray,List.set_cons_zero,List.set_cons_succ]
    refine readyU (rs:=[10]) (by kernel_rfl) (by simp) ?_
    refine consV rfl (by kernel_rfl) (fun K hK=>?_) (nilU)
    go_simp
    go_simp
    refine hK.out _ _ ?_
    clear hK K
    try simp only [Act.put,List.setIfInBounds_toArray,List.set_cons_zero,List.set_cons_succ]
    refine readyU (rs:=[11]) (by kernel_rfl) (by simp) ?_
    refine consV rfl (by kernel_rfl) (fun K hK=>?_) (nilU)
    go_simp
    skip
    refine hK.out _ _ ?_
    clear hK K
    try simp only [Act.put,List.setIfInBounds_toArray,List.set_cons_zero,List.set_cons_succ]
    refine readyU (rs:=[12]) (by kernel_rfl) (by simp) ?_
    refine consV rfl (by kernel_rfl) (fun K hK=>?_) (nilU)
    go_simp
    go_simp
    refine hK.out _ _ ?_
    clear hK K
    try simp only [Act.put,List.setIfInBounds_toArray,List.set_cons_zero,List.set_cons_succ]
    refine readyU (rs:=[13]) (by kernel_rfl) (by simp) ?_
    refine consV rfl (by kernel_rfl) (fun K hK=>?_) (nilU)
    go_simp
    skip
    refine hK.out _ _ ?_
    clear hK K
    try simp only [Act.put,List.setIfInBounds_toArray,List.set_cons_zero,List.set_cons_succ]
    refine readyU (rs:=[14]) (by kernel_rfl) (by simp) ?_
    refine consV rfl (by kernel_rfl) (fun K hK=>?_) (nilU)
    go_simp
    go_simp
    refine hK.out _ _ ?_
    clear hK K
    try simp only [Act.put,List.setIfInBounds_toArray,List.set_cons_zero,List.set_cons_succ]
    refine doneU (by kernel_rfl) ?_ _
    obtain ⟨W5,hW5⟩:∃ W,W=(((w4.setCell ⟨b1,3,none⟩ (.slice (some ⟨gl,0,none⟩) m.C c1)).setCell ⟨b1,4,none⟩ (.slice (some ⟨gu,0,none⟩) m.C c2)).setCell ⟨b1,5,none⟩ (.slice a6 m.ts.length c6)):=⟨_,rfl⟩
    have hb14:Below W1.heap.size W1 w4:=Below.step HW3.out hb4
    have k5:Kept [b1] w4 W5:=by rw [hW5];exact (((Kept.refl _ _).setCell (Or.inl (by simp)) _).setCell (Or.inl (by simp)) _).setCell (Or.inl (by simp)) _
    have hs5:W5.heap.size=w4.heap.size:=by rw [hW5];simp
    have k15:=Lib.hid (show Kept [b1] W1 W5 from (Kept.of hb14).trans k5)
    have BZ1:=Lib.hid (show StB W5 b1 m.C m.cr (.slice (some ⟨g',0,none⟩) m.n cg') (.slice (some ⟨gl,0,none⟩) m.C c1) (.slice (some ⟨gu,0,none⟩) m.C c2) (.slice a6 m.ts.length c6) (.slice (some ⟨s,0,none⟩) m.n cs) by rw [hW5];exact B4.lists _ _ _)
    have hgl:=ol.lt gl rfl
    have hgu:=ou.lt gu rfl
    have hd1:W1.drew.heap.size=W1.heap.size:=rfl
    have hz3:=hb3.size
    have hz4:=hb4.size
    have hz2:=hb2.size
    have n1:gl∉[b1]:=by have:=HG1.out;simp;omega
    have n2:gu∉[b1]:=by have:=HG1.out;simp;omega
    have OL5:=Lib.hid (own_base (own_kept (own_below (own_below ol hb3) hb4) k5 (fun b q r=>by cases q;exact n1 r)) (Nat.zero_le _))
    have OU5:=Lib.hid (own_base (own_kept (own_below ou hb4) k5 (fun b q r=>by cases q;exact n2 r)) (Nat.zero_le _))
    have OT5:=Lib.hid (ot.kept k5 (fun b q r=>by have:=hnb4 b q;have:=HG1.out;simp at r;omega))
    have HCH:=Lib.hid (show g'<gl∧gl<gu∧gu<W5.heap.size∧∀ b,tb2=some b→gu<b∧b<W5.heap.size by
     have:=HG1.out
     refine ⟨by omega,by omega,by omega,fun b q=>?_⟩
     have q1:=hnb4 b q
     have q2:=ot.lt q
     omega)
    rw [← hW5]
    clear hW5 hb14 k5 hs5 hgl hgu hd1 hz2 hz3 hz4 n1 n2 ol ou ot hnb4 hb2 hb3 hb4 B4 y3 y4 y5 z3 z4 z5 e3 e4 e5 hS0 hHeld
    go_wp2_with fail
    go_meet
    case rel=>exact ⟨gl,gu,c1,c2,c6,a6,tb2,rfl,BZ1,OL5,OU5,OT5,k15,HCH⟩
  ·skip
   go_simp
   skip
   refine hK.out _ _ ?_
   clear hK K
   try simp only [Act.put,List.setIfInBounds_toArray,List.set_cons_zero,List.set_cons_succ]
   refine readyU (rs:=[5]) (by kernel_rfl) (by simp) ?_
   refine consU rfl (fun K hK=>?_) (nilU)
   go_simp
   have HW2:=Lib.hid (Below.step ((Below.refl W1.heap.size W1).drew) hb2)
   refine (ACU.out _ HW2.out).mono ?_
   rintro e w3 ⟨gu,c2,rfl,ou,hb3⟩
   go_wp2_with fail
   refine hK.out _ _ ?_ (fun hHeld5=>?_)
   ·(first | assumption | (refine held_3 (by assumption) ?_;assumption) | (refine held_3 (below_ad _ _) ?_;assumption) | (refine held_3 (below_a _ _) ?_;assumption))
   clear hK K
   try simp only [Act.put,List.setIfInBounds_toArray,List.set_cons_zero,List.set_cons_succ]
   refine readyU (rs:=[8]) (by kernel_rfl) (by simp) ?_
   refine consU rfl (fun K hK=>?_) (nilU)
   go_simp
   have HW3:=Lib.hid (Below.step HW2.out hb3)
   refine (ACT.out _ HW3.out).mono ?_
   rintro e w4 ⟨vt2,tb2,rfl,ot,hb4,hnb4⟩
   obtain ⟨a6,c6,hv6⟩:=ot.shape
   subst vt2
   have B4:=BY1.out.later (Below.step HW3.out hb4)
   have y3:=B4.c3
   have y4:=B4.c4
   have y5:=B4.c5
   have z3:=B4.z 3
   have z4:=B4.z 4
   have z5:=B4.z 5
   go_wp2_with fail
   refine hK.out _ _ ?_ (fun hHeld8=>?_)
   ·(first | assumption | (refine held_3 (by assumption) ?_;assumption) | (refine held_3 (below_ad _ _) ?_;assumption) | (refine held_3 (below_a _ _) ?_;assumption))
   clear hK K
   try simp only [Act.put,List.setIfInBounds_toArray,List.set_cons_zero,List.set_cons_succ]
   refine readyU (rs:=[10]) (by kernel_rfl) (by simp) ?_
   refine consV rfl (by kernel_rfl) (fun K hK=>?_) (nilU)
   go_simp
   go_simp
   refine hK.out _ _ ?_
   clear hK K
   try simp only [Act.put,List.setIfInBounds_toArray,List.set_cons_zero,List.set_cons_succ]
   refine readyU (rs:=[11]) (by kernel_rfl) (by simp) ?_
   refine consV rfl (by kernel_rfl) (fun K hK=>?_) (nilU)
   go_simp
   skip
   refine hK.out _ _ ?_
   clear hK K
   try simp only [Act.put,List.setIfInBounds_toArray,List.set_cons_zero,List.set_cons_succ]
   refine readyU (rs:=[12]) (by kernel_rfl) (by simp) ?_
   refine consV rfl (by kernel_rfl) (fun K hK=>?_) (nilU)
   go_simp
   go_simp
   refine hK.out _ _ ?_
   clear hK K
   try simp only [Act.put,List.setIfInBounds_toArray,List.set_cons_zero,List.set_cons_succ]
   refine readyU (rs:=[13]) (by kernel_rfl) (by simp) ?_
   refine consV rfl (by kernel_rfl) (fun K hK=>?_) (nilU)
   go_simp
   skip
   refine hK.out _ _ ?_
   clear hK K
   try simp only [Act.put,List.setIfInBounds_toArray,List.set_cons_zero,List.set_cons_succ]
   refine readyU (rs:=[14]) (by kernel_rfl) (by simp) ?_
   refine consV rfl (by kernel_rfl) (fun K hK=>?_) (nilU)
   go_simp
   go_simp
   refine hK.out _ _ ?_
   clear hK K
   try simp only [Act.put,List.setIfInBounds_toArray,List.set_cons_zero,List.set_cons_succ]
   refine doneU (by kernel_rfl) ?_ _
   obtain ⟨W5,hW5⟩:∃ W,W=(((w4.setCell ⟨b1,3,none⟩ (.slice (some ⟨gl,0,none⟩) m.C c1)).setCell ⟨b1,4,none⟩ (.slice (some ⟨gu,0,none⟩) m.C c2)).setCell ⟨b1,5,none⟩ (.slice a6 m.ts.length c6)):=⟨_,rfl⟩
   have hb14:Below W1.heap.size W1 w4:=Below.step HW3.out hb4
   have k5:Kept [b1] w4 W5:=by rw [hW5];exact (((Kept.refl _ _).setCell (Or.inl (by simp)) _).setCell (Or.inl (by simp)) _).setCell (Or.inl (by simp)) _
   have hs5:W5.heap.size=w4.heap.size:=by rw [hW5];simp
   have k15:=Lib.hid (show Kept [b1] W1 W5 from (Kept.of hb14).trans k5)
   have BZ1:=Lib.hid (show StB W5 b1 m.C m.cr (.slice (some ⟨g',0,none⟩) m.n cg') (.slice (some ⟨gl,0,none⟩) m.C c1) (.slice (some ⟨gu,0,none⟩) m.C c2) (.slice a6 m.ts.length c6) (.slice (some ⟨s,0,none⟩) m.n cs) by rw [hW5];exact B4.lists _ _ _)
   have hgl:=ol.lt gl rfl
   have hgu:=ou.lt gu rfl
   have hd1:W1.drew.heap.size=W1.heap.size:=rfl
   have hz3:=hb3.size
   have hz4:=hb4.size
   have hz2:=hb2.size
   have n1:gl∉[b1]:=by have:=HG1.out;simp;omega
   have n2:gu∉[b1]:=by have:=HG1.out;simp;omega
   have OL5:=Lib.hid (own_base (own_kept (own_below (own_below ol hb3) hb4) k5 (fun b q r=>by cases q;exact n1 r)) (Nat.zero_le _))
   have OU5:=Lib.hid (own_base (own_kept (own_below ou hb4) k5 (fun b q r=>by cases q;exact n2 r)) (Nat.zero_le _))
   have OT5:=Lib.hid (ot.kept k5 (fun b q r=>by have:=hnb4 b q;have:=HG1.out;simp at r;omega))
   have HCH:=Lib.hid (show g'<gl∧gl<gu∧gu<W5.heap.size∧∀ b,tb2=some b→gu<b∧b<W5.heap.size by
    have:=HG1.out
    refine ⟨by omega,by omega,by omega,fun b q=>?_⟩
    have q1:=hnb4 b q
    have q2:=ot.lt q
    omega)
   rw [← hW5]
   clear hW5 hb14 k5 hs5 hgl hgu hd1 hz2 hz3 hz4 n1 n2 ol ou ot hnb4 hb2 hb3 hb4 B4 y3 y4 y5 z3 z4 z5 e3 e4 e5 hS0 hHeld
   go_wp2_with fail
   go_meet
   case rel=>exact ⟨gl,gu,c1,c2,c6,a6,tb2,rfl,BZ1,OL5,OU5,OT5,k15,HCH⟩
 case rest =>
  obtain ⟨gl,gu,c1,c2,c6,a6,tb2,rfl,BZ1,OL5,OU5,OT5,K15,HCH⟩:=hcut
  obtain ⟨W5,rfl⟩:∃ W:World,W=wc:=⟨_,rfl⟩
  have k15:=K15.out
  have OG5:=Lib.hid (own_kept OG1.out k15 (fun b q r=>by cases q;have:=HG1.out;have:=HL.out;simp at r;omega))
  have HGS5:=Lib.hid (HGS1.out.kept k15 (by have:=HL.out;simp;omega))
  have HSP5:=Lib.hid fun i (q:i<m.n)=>(HSP1.out i q).kept k15 (by have:=HL.out.2.2.2.2.2.1 i q;simp;omega)
  have BZ2:=Lib.hid (BY2.out.kept k15 (by have:=HL.out;simp;omega))
  have HBW5:=Lib.hid (show Below w.heap.size w W5 from Kept.stepB HBW1.out (Nat.le_refl _) k15 fun b q=>by simp at q;have:=HL.out;omega)
  have HB5:=Lib.hid (show b1<W5.heap.size∧b2<W5.heap.size∧w.heap.size≤g' by have:=HG1.out;have:=HL.out;have:=k15.size;omega)
  have MK:=makeRows W5 (n:=m.n) HNN.out.2
  clear k15 e3 e4 e5 ACL ACU ACT
  have x6:=BZ1.out.c6
  go_upto_region 4 with fail
  clear x6
  obtain ⟨W6,hW6⟩:∃ W,W=W5.alloc (.cells (madeCells #[.slice none 0 0] m.n) 69):=⟨_,rfl⟩
  obtain ⟨sb,hsb⟩:∃ b,b=W5.heap.size:=⟨_,rfl⟩
  rw [← hW6,← hsb]
  have hb6:Below W5.heap.size W5 W6:=by rw [hW6];exact below_a _ _
  have hs6:W6.heap.size=sb+1:=by rw [hW6,hsb];simp
  have I0:=Lib.hid (show CopI W6 W6 sb m.n m.C 0 m.sp (fun _=>0) from
   ⟨Kept.refl _ _,fun i q=>absurd q (Nat.not_lt_zero _),fun i j _ q=>absurd q (Nat.not_lt_zero _),fun i q=>⟨_,by rw [hW6,hsb];exact cell_nw W5 _ _ i _ (by have:=made1_at (C:=m.n) (.slice none 0 0) q;rwa [Nat.mul_one] at this)⟩,fun j=>by rw [hW6,hsb];exact frz_nw _ _ _ _⟩)
  have BA1:=Lib.hid (BZ1.out.later hb6)
  have BA2:=Lib.hid (BZ2.out.later hb6)
  have OL6:=Lib.hid (own_below OL5.out hb6)
  have OU6:=Lib.hid (own_below OU5.out hb6)
  have OT6:=Lib.hid (OT5.out.kept (G:=[]) (Kept.of hb6) (by simp))
  have OG6:=Lib.hid (own_below OG5.out hb6)
  have HGS6:=Lib.hid (HGS5.out.kept (G:=[]) (Kept.of hb6) (by simp))
  have HSP6:=Lib.hid fun i (q:i<m.n)=>(HSP5.out i q).kept (G:=[]) (Kept.of hb6) (by simp)
  have HBW6:=Lib.hid (Below.step HBW5.out hb6)
  have HSB:=Lib.hid (show W6.heap.size=sb+1∧b1<sb∧b2<sb∧w.heap.size≤g'∧gu<sb∧(∀ b,tb2=some b→b<sb) by have:=HB5.out;have:=HCH.out;refine ⟨by omega,by omega,by omega,by omega,by omega,fun b q=>by have:=HCH.out.2.2.2 b q;omega⟩)
  have x6:=BA1.out.c6
  clear hW6 hsb hb6 hs6 MK
  go_wp2_with fail
  go_loopw [31] (fun v wr=>∃ (k:Nat) (r2:Nat→Nat),k≤m.n∧v=.int .i64 k∧Hid (CopI W6 wr sb m.n m.C k m.sp r2)) (fun v _=>m.n - (RowKit.intOf v).toNat)
  case atStart=>exact ⟨0,_,Nat.zero_le _,rfl,I0⟩
  case round =>
   clear I0 x6
   obtain ⟨k,r2,hk,rfl,HI⟩:=hrel
   have hnb:m.n≤256:=HNN.out.2
   by_cases hlt:k<m.n
   ·as_aux_lemma =>
    obtain ⟨c',q1,q2,xs⟩:=HGS6.out.c k hlt
    replace xs:=HI.out.kp.cellAt xs (by have:=HL.out;have:=HSB.out;simp;omega)
    have hki:(k:Int)<(m.n:Int):=by omega
    have AF:=Lib.hid (show Calls Tryz.prog 165 #[.slice (some ⟨rr k,0,none⟩) m.C c'] wr (ClonP (flatR encSp ((List.range m.C).map (m.sp k))) 121 3 m.C wr) from SpClone_at (c:=c') ((HSP6.out k hlt).kept HI.out.kp (by have:=HL.out.2.2.2.2.2.1 k hlt;have:=HSB.out;simp;omega)) (by have:=HCC.out;omega) HCC.out.2)
    unfold ClonP at AF
    obtain ⟨u0,hu0⟩:=HI.out.ex k hlt
    have hz0:=HI.out.z k
    have hsl:sb<wr.heap.size:=lt_of_cell hu0
    clear q1 q2
    go_wp2_with fail
    refine AF.out.mono ?_;clear AF;rintro e w5 ⟨g2,c2,rfl,ow,hb5⟩
    replace hu0:=cell_later hb5 hu0
    replace hz0:=frz_later hb5 hz0 hsl
    have HI':=Lib.hid (HI.out.step hlt (by have:=HSB.out;omega) hb5 ow)
    clear ow hb5 xs hsl
    go_wp2_with fail
    go_roundw
    case rel=>exact ⟨k+1,_,by omega,by go_num,HI'⟩
    case measure=>simp [RowKit.intOf];omega
   ·as_aux_lemma =>
    obtain rfl:k=m.n:=by omega
    have hki:¬ (m.n:Int)<(m.n:Int):=by omega
    have D1:=BA1.out.kept HI.out.kp (by have:=HSB.out;simp;omega)
    have D2:=BA2.out.kept HI.out.kp (by have:=HSB.out;simp;omega)
    have d6:=D1.c6
    have dz:=D1.z 6
    go_upto_region 10 with fail
    obtain ⟨W7,hW7⟩:∃ W,W=wr.setCell ⟨b1,6,none⟩ (.slice (some ⟨sb,0,none⟩) m.n m.n):=⟨_,rfl⟩
    rw [← hW7]
    have k7:Kept [b1] wr W7:=by rw [hW7];exact (Kept.refl _ _).setCell (Or.inl (by simp)) _
    have E1:=(show StB W7 b1 m.C m.cr (.slice (some ⟨g',0,none⟩) m.n cg') (.slice (some ⟨gl,0,none⟩) m.C c1) (.slice (some ⟨gu,0,none⟩) m.C c2) (.slice a6 m.ts.length c6) (.slice (some ⟨sb,0,none⟩) m.n m.n) by rw [hW7];exact D1.spots _)
    have E2:=D2.kept k7 (by have:=HL.out;simp;omega)
    have E3:=E2.fill (C:=m.C) (cr:=m.cr) (vg:=.slice (some ⟨g',0,none⟩) m.n cg') (vl:=.slice (some ⟨gl,0,none⟩) m.C c1) (vu:=.slice (some ⟨gu,0,none⟩) m.C c2) (vt:=.slice a6 m.ts.length c6) (vs:=.slice (some ⟨sb,0,none⟩) m.n m.n)
    have k8:=fillB_kept (w:=W7) (b:=b2) (C:=m.C) (cr:=m.cr) (vg:=.slice (some ⟨g',0,none⟩) m.n cg') (vl:=.slice (some ⟨gl,0,none⟩) m.C c1) (vu:=.slice (some ⟨gu,0,none⟩) m.C c2) (vt:=.slice a6 m.ts.length c6) (vs:=.slice (some ⟨sb,0,none⟩) m.n m.n)
    obtain ⟨W8,hW8⟩:∃ W,W=fillB W7 b2 m.C m.cr (.slice (some ⟨g',0,none⟩) m.n cg') (.slice (some ⟨gl,0,none⟩) m.C c1) (.slice (some ⟨gu,0,none⟩) m.C c2) (.slice a6 m.ts.length c6) (.slice (some ⟨sb,0,none⟩) m.n m.n):=⟨_,rfl⟩
    rw [← hW8] at E3 k8
    have HE3:=Lib.hid E3
    have k68:Kept [b1,b2,sb] W6 W8:=((HI.out.kp.mono (by simp)).trans (k7.mono (by simp))).trans (k8.mono (by simp))
    have K8:=Lib.hid k68
    have KI:=Lib.hid (show Kept [b1,b2] wr W8 from (k7.mono (by simp)).trans (k8.mono (by simp)))
    have hW8':=hW8
    unfold fillB at hW8'
    have HW8:=Lib.hid hW8'
    have e0:=E1.c0
    have d0:=E2.c0
    have z0:=E2.z 0
    have e1:=E1.c1
    have d1:=E2.c1
    have z1:=E2.z 1
    have e2:=E1.c2
    have d2:=E2.c2
    have z2:=E2.z 2
    have e3:=E1.c3
    have d3:=E2.c3
    have z3:=E2.z 3
    have e4:=E1.c4
    have d4:=E2.c4
    have z4:=E2.z 4
    have e5:=E1.c5
    have d5:=E2.c5
    have z5:=E2.z 5
    have e6:=E1.c6
    have d6:=E2.c6
    have z6:=E2.z 6
    clear E1 E2 E3 D1 D2 dz hW7 k7 k8 k68 hW8 hW8'
    go_wp2_with fail
    rw [← HW8.out]
    have rc0:=HE3.out.c0
    have rc1:=HE3.out.c1
    have rc2:=HE3.out.c2
    have rc3:=HE3.out.c3
    have rc4:=HE3.out.c4
    have rc5:=HE3.out.c5
    have rc6:=HE3.out.c6
    clear e0 d0 z0 e1 d1 z1 e2 d2 z2 e3 d3 z3 e4 d4 z4 e5 d5 z5 e6 d6 z6
    have hord:=HCH.out
    have hord2:=HSB.out
    have hord3:=HG1.out
    have hord4:=HL.out
    refine bodyPost_ret (v:=.agg #[.int .i64 m.C,.int .u64 m.cr,.slice (some ⟨g',0,none⟩) m.n cg',.slice (some ⟨gl,0,none⟩) m.C c1,.slice (some ⟨gu,0,none⟩) m.C c2,.slice a6 m.ts.length c6,.slice (some ⟨sb,0,none⟩) m.n m.n]) (by simp [results,Tryz.results86,go_sem,rc0,rc1,rc2,rc3,rc4,rc5,rc6]) rfl ?_
    refine ⟨g',gl,gu,sb,tb2,r2,cg',c1,c2,m.n,_,rfl,own_cap OG6.out,own_cap OL6.out,own_cap OU6.out,⟨Nat.le_refl _,by omega⟩,?_,?_,?_,?_,⟨fun i hi=>?_,?_⟩,fun i hi=>?_,⟨hord.1,hord.2.1,by omega,fun b q=>⟨(hord.2.2.2 b q).1,hord2.2.2.2.2.2 b q⟩,fun i hi=>(HI.out.row i hi).2.2.1,HI.out.up⟩,by omega,?_⟩
    ·exact (own_grps (Gs:=m.Gs) OG6.out).kept K8.out (by simp;omega)
    ·exact (own_ints OL6.out).kept K8.out (by simp;omega)
    ·exact (own_ints OU6.out).kept K8.out (by simp;omega)
    ·exact OT6.out.kept K8.out (fun b q r=>by have:=hord.2.2.2 b q;have:=hord2.2.2.2.2.2 b q;simp at r;omega)
    ·exact (HI.out.row i hi).1.kept KI.out (by simp;omega)
    ·have:=KI.out.size;have:=HI.out.kp.size;omega
    ·have:=(HI.out.row i hi).2.2.1
     exact (HI.out.row i hi).2.1.kept KI.out (by simp;omega)
    ·exact Kept.stepB HBW6.out (Nat.le_refl _) K8.out fun b q=>by simp at q;omega
end Go.Proofs.YtapnaocdehahdaaGreat
