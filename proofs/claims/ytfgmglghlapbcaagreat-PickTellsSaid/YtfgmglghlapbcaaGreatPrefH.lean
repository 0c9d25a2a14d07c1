/-
  Layer 25 (pick), the reference: enter.
-/
import Derived.Test.YtfgmglghlapbcaaGreatRfE
import Derived.Deep.DeepCutAuto
namespace Go.Proofs.YtfgmglghlapbcaaGreat
open Go.RowKit Go.Maps Go.IntWalk Go.Lib Go.Sort Go.Shelf
set_option linter.unusedVariables false
set_option linter.unusedSimpArgs false
theorem sizeTk (w:World):(Go.sizeOf (Tryz.prog.elem 71)).run Tryz.prog w=.ok 5 w:=by kernel_rfl
theorem undTks:Tryz.prog.underlying 71=some (.slice (Tryz.prog.elem 71)):=by kernel_rfl
def cutTk (T:List (Int×Int×Ent)) (id:Int):Nat:=(T.takeWhile fun y=>decide (y.1<id)).length
def insTk (T:List (Int×Int×Ent)) (t:Int×Int×Ent):List (Int×Int×Ent):=T.take (cutTk T t.1)++t::T.drop (cutTk T t.1)
theorem cutTk_le (T:List (Int×Int×Ent)) (id:Int):cutTk T id≤T.length:=(List.takeWhile_sublist _).length_le
theorem insTk_len (T:List (Int×Int×Ent)) (t:Int×Int×Ent):(insTk T t).length=T.length+1:=by
 have:=cutTk_le T t.1
 unfold insTk
 rw [List.length_append,List.length_cons,List.length_take,List.length_drop]
 omega
theorem cutTk_bef {T:List (Int×Int×Ent)} {id:Int}:∀ {k:Nat},k<T.length→(k<cutTk T id→T[k]!.1<id)∧(k=cutTk T id→¬ T[k]!.1<id):=by
 induction T with
 | nil=>intro k hk;simp at hk
 | cons y r ih =>
  intro k hk
  unfold cutTk
  rw [List.takeWhile_cons]
  by_cases hb:y.1<id
  ·rw [if_pos (decide_eq_true hb),List.length_cons]
   cases k with
   | zero=>exact ⟨fun _=>by simpa using hb,fun h=>by omega⟩
   | succ k =>
    have:=ih (k:=k) (by simpa using hk)
    have e:(y::r)[k+1]! = r[k]!:=by simp
    rw [e]
    exact ⟨fun h=>this.1 (by unfold cutTk;omega),fun h=>this.2 (by unfold cutTk;omega)⟩
  ·rw [if_neg (by simpa using hb)]
   refine ⟨fun h=>by simp at h,fun h=>?_⟩
   simp only [List.length_nil] at h
   subst h
   simpa using hb
def upA (r:RSt) (n:Nat):List Nat→List Ent→List Ent
 | [],A=>A
 | g::q,A=>if (mR r n g).length=0 then upA r n q (A.set g (wokenX A[g]! r.fl[parG r.Gs g]! r.cr)) else A
def enterR (r:RSt) (n:Nat) (id:Int) (k:Nat) (x:Ent):RSt:=raisedR { r with T:=insTk r.T (id,(k:Int),x),A:=upA r n (pathT (parG r.Gs) k) r.A } n
theorem cells5 {w:World} {b:Nat} {u0 u1 u2 u3 u4:Value} (h0:w.cell? ⟨b,0,none⟩=some u0) (h1:w.cell? ⟨b,1,none⟩=some u1) (h2:w.cell? ⟨b,2,none⟩=some u2) (h3:w.cell? ⟨b,3,none⟩=some u3) (h4:w.cell? ⟨b,4,none⟩=some u4)
  (f0:w.frozen? ⟨b,0,none⟩=false) (f1:w.frozen? ⟨b,1,none⟩=false) (f2:w.frozen? ⟨b,2,none⟩=false) (f3:w.frozen? ⟨b,3,none⟩=false) (f4:w.frozen? ⟨b,4,none⟩=false):CellsF w b [u0,u1,u2,u3,u4]:=fun j u hu=>by
 match j,hu with
 | 0,hu=>cases hu;exact ⟨h0,f0⟩
 | 1,hu=>cases hu;exact ⟨h1,f1⟩
 | 2,hu=>cases hu;exact ⟨h2,f2⟩
 | 3,hu=>cases hu;exact ⟨h3,f3⟩
 | 4,hu=>cases hu;exact ⟨h4,f4⟩
 | j+5,hu=>simp at hu
structure EMid (w:World) (base bx bg:Nat) (ga:Option Addr) (ba bf dg gc da df n m1:Nat) (r2:RSt) (P:List Value) (wx:World):Prop where
 own:ROwn base wx bg ga ba bf dg gc da df n m1 r2
 bel:Below w.heap.size w wx
 ge:base≤wx.heap.size
 c:CellsF wx bx [.slice (some ⟨bg,0,none⟩) n dg,.int .u64 r2.cr,.slice ga m1 gc,.slice (some ⟨ba,0,none⟩) n da,.slice (some ⟨bf,0,none⟩) n df]
 z:CellsF wx (bx+1+1) [.slice none 0 0,.int .u64 0,.slice none 0 0,.slice none 0 0,.slice none 0 0]
 p:CellsF wx (bx+1+1+1) P
theorem EMid.later {w wx w':World} {base bx bg ba bf dg gc da df n m1:Nat} {ga:Option Addr} {r2:RSt} {P:List Value} (h:EMid w base bx bg ga ba bf dg gc da df n m1 r2 P wx) (hb:Below wx.heap.size wx w'):EMid w base bx bg ga ba bf dg gc da df n m1 r2 P w':=
 ⟨h.own.later hb,Below.step h.bel hb,Nat.le_trans h.ge hb.size,h.c.later hb,h.z.later hb,h.p.later hb⟩
theorem ROwn.neGA {base:Nat} {w:World} {bg:Nat} {at':Option Addr} {ba bf cg ct ca cf n m:Nat} {r:RSt} (h:ROwn base w bg at' ba bf cg ct ca cf n m r):bg≠ba:=by
 rcases own_apart h.g h.a (by decide) with q | q
 ·simp [Value.ownBlock] at q
 ·simpa [Value.ownBlock] using q
theorem EMid.setA {w wx:World} {base bx bg ba bf dg gc da df n m1:Nat} {ga:Option Addr} {r2:RSt} {P:List Value} (h:EMid w base bx bg ga ba bf dg gc da df n m1 r2 P wx) (hl:RLen r2 n m1) {g:Nat} (hg:g<n) (x:Ent) (nb:bx∉[ba]) (nz:bx+1+1∉[ba]) (np:bx+1+1+1∉[ba]) (hbx:bx=w.heap.size) (hb4:bx+1+1+1<base) :
  EMid w base bx bg ga ba bf dg gc da df n m1 { r2 with A:=r2.A.set g x } P (((wx.setCell ⟨ba,g*3,none⟩ (.int .u64 x.1)).setCell ⟨ba,g*3+1,none⟩ (.int .u32 x.2.1)).setCell ⟨ba,g*3+2,none⟩ (.int .u32 x.2.2)):=by
 have hk:Kept [ba] wx (((wx.setCell ⟨ba,g*3,none⟩ (.int .u64 x.1)).setCell ⟨ba,g*3+1,none⟩ (.int .u32 x.2.1)).setCell ⟨ba,g*3+2,none⟩ (.int .u32 x.2.2)):=(((Kept.refl [ba] wx).setCell (p:=⟨ba,g*3,none⟩) (Or.inl (by simp)) _).setCell (p:=⟨ba,g*3+1,none⟩) (Or.inl (by simp)) _).setCell (p:=⟨ba,g*3+2,none⟩) (Or.inl (by simp)) _
 have hge:=h.own.ge
 have hle:w.heap.size≤ba:=by omega
 exact ⟨h.own.setA hl hg x,((h.bel.setCell hle _).setCell hle _).setCell hle _,Nat.le_trans h.ge hk.size,h.c.kept hk nb,h.z.kept hk nz,h.p.kept hk np⟩
def EntP (w:World) (r:RSt) (n m:Nat) (e:Ending) (w':World):Prop:=∃ bg at' ba bf cg ct ca cf,e=.returned (.agg #[.slice (some ⟨bg,0,none⟩) n cg,.int .u64 r.cr,.slice at' m ct,.slice (some ⟨ba,0,none⟩) n ca,.slice (some ⟨bf,0,none⟩) n cf])∧ROwn w.heap.size w' bg at' ba bf cg ct ca cf n m r∧Below w.heap.size w w'
set_option maxRecDepth 100000 in
set_option maxHeartbeats 8000000 in
theorem tenter_at (r:RSt) (n m:Nat) (hl:ROk r n m) (hm1:m<69000) (id:Int) (k:Nat) (hk:k<n) (x:Ent) (ag at' aa af:Option Addr) (cg ct ca cf:Nat) (w:World) (hin:RIn w ag at' aa af cg ct ca cf n m r) :
  Calls Tryz.prog 97 #[.agg #[.slice ag n cg,.int .u64 r.cr,.slice at' m ct,.slice aa n ca,.slice af n cf],.int .i64 id,.int .i64 k,.agg #[.int .u64 x.1,.int .u32 x.2.1,.int .u32 x.2.2]] w (EntP w (enterR r n id k x) n (m+1)):=by
 obtain ⟨i0,hi,hz0,hz1,hz2⟩:=info_parts infoTk
 have hn:=hl.pos
 obtain ⟨xv,xr,xw⟩:=x
 have HL:=Lib.hid hl
 have HIN:=Lib.hid hin
 have A0:=Lib.hid fun W (q:RIn W ag at' aa af cg ct ca cf n m r)=>tcopied_at r n m hl.toRLen ag at' aa af cg ct ca cf W q
 have HKN:=Lib.hid hk
 clear hin hl hk
 obtain ⟨W0,hW0⟩:∃ W0,W0=((((w.alloc (.cells #[.slice ag n cg,.int .u64 r.cr,.slice at' m ct,.slice aa n ca,.slice af n cf] 74)).alloc (.cells #[.int .u64 xv,.int .u32 xr,.int .u32 xw] 120)).alloc (.cells #[.slice none 0 0,.int .u64 0,.slice none 0 0,.slice none 0 0,.slice none 0 0] 74)).alloc (.cells #[.slice ag n cg,.int .u64 r.cr,.slice at' m ct,.slice aa n ca,.slice af n cf] 74)):=⟨_,rfl⟩
 have HB0:=Lib.hid (show Below w.heap.size w W0 by rw [hW0];exact (Below.allocS (Below.allocS (Below.allocS (Below.allocS (Below.refl _ _) _) _) _) _))
 obtain ⟨c0,fc0,c1,fc1,c2,fc2,c3,fc3,c4,fc4⟩:=uc5 (show CellsF W0 (w.heap.size) [.slice ag n cg,.int .u64 r.cr,.slice at' m ct,.slice aa n ca,.slice af n cf] by rw [hW0];exact (((CellsF.new (by simp)).later (below_a _ _)).later (below_a _ _)).later (below_a _ _))
 obtain ⟨x0,fx0,x1,fx1,x2,fx2⟩:=uc3 (show CellsF W0 (w.heap.size+1) [.int .u64 xv,.int .u32 xr,.int .u32 xw] by rw [hW0];exact ((CellsF.new (by simp)).later (below_a _ _)).later (below_a _ _))
 obtain ⟨r0,fr0,r1,fr1,r2,fr2,r3,fr3,r4,fr4⟩:=uc5 (show CellsF W0 (w.heap.size+1+1) [.slice none 0 0,.int .u64 0,.slice none 0 0,.slice none 0 0,.slice none 0 0] by rw [hW0];exact (CellsF.new (by simp)).later (below_a _ _))
 obtain ⟨p0,fp0,p1,fp1,p2,fp2,p3,fp3,p4,fp4⟩:=uc5 (show CellsF W0 (w.heap.size+1+1+1) [.slice ag n cg,.int .u64 r.cr,.slice at' m ct,.slice aa n ca,.slice af n cf] by rw [hW0];exact CellsF.new (by simp))
 have HSZ:=Lib.hid (show W0.heap.size=w.heap.size+1+1+1+1 by rw [hW0];simp)
 have HW0:=Lib.hid hW0
 clear hW0
 go_enter Tryz.func97,Tryz.ntmps97
 go_upto_region 2 with fail
 rw [← HW0.out]
 generalize hbx:w.heap.size=bx at c0 c1 c2 c3 c4 x0 x1 x2 r0 r1 r2 r3 r4 p0 p1 p2 p3 p4 fc0 fc1 fc2 fc3 fc4 fx0 fx1 fx2 fr0 fr1 fr2 fr3 fr4 fp0 fp1 fp2 fp3 fp4 HSZ  ⊢
 have HBX:=Lib.hid hbx
 clear hbx HW0
 have HBX4:=Lib.hid (show bx+1+1+1<W0.heap.size by rw [HSZ.out];omega)
 go_wp2_with fail
 have HLW:=Lib.hid (show bx+1+1+1<W0.heap.size from lt_of_cell p0)
 have hleb:w.heap.size≤bx:=Nat.le_of_eq HBX.out
 refine (A0.out W0 (HIN.out.later HB0.out)).mono ?_;rintro e wq1 ⟨bg,a1,ba,bf,dg,dt,da,df,rfl,hO,hb1⟩
 have hbb:=hb1
 have q:=uc5 ((pc5 c0 fc0 c1 fc1 c2 fc2 c3 fc3 c4 fc4).later hb1)
 clear c0 fc0 c1 fc1 c2 fc2 c3 fc3 c4 fc4
 obtain ⟨c0,fc0,c1,fc1,c2,fc2,c3,fc3,c4,fc4⟩:=q
 have q:=uc3 ((pc3 x0 fx0 x1 fx1 x2 fx2).later hb1)
 clear x0 fx0 x1 fx1 x2 fx2
 obtain ⟨x0,fx0,x1,fx1,x2,fx2⟩:=q
 have q:=uc5 ((pc5 r0 fr0 r1 fr1 r2 fr2 r3 fr3 r4 fr4).later hb1)
 clear r0 fr0 r1 fr1 r2 fr2 r3 fr3 r4 fr4
 obtain ⟨r0,fr0,r1,fr1,r2,fr2,r3,fr3,r4,fr4⟩:=q
 have q:=uc5 ((pc5 p0 fp0 p1 fp1 p2 fp2 p3 fp3 p4 fp4).later hb1)
 clear p0 fp0 p1 fp1 p2 fp2 p3 fp3 p4 fp4
 obtain ⟨p0,fp0,p1,fp1,p2,fp2,p3,fp3,p4,fp4⟩:=q
 have Qc:=Lib.hid (cs5 (.slice (some ⟨bg,0,none⟩) n dg) (.int .u64 r.cr) (.slice a1 m dt) (.slice (some ⟨ba,0,none⟩) n da) (.slice (some ⟨bf,0,none⟩) n df) (pc5 c0 fc0 c1 fc1 c2 fc2 c3 fc3 c4 fc4))
 have Qx:=Lib.hid (co5 (b:=bx) (.slice (some ⟨bg,0,none⟩) n dg) (.int .u64 r.cr) (.slice a1 m dt) (.slice (some ⟨ba,0,none⟩) n da) (.slice (some ⟨bf,0,none⟩) n df) (pc3 x0 fx0 x1 fx1 x2 fx2) (by first | (simp;done) | (simp;omega) | omega))
 have Qr:=Lib.hid (co5 (b:=bx) (.slice (some ⟨bg,0,none⟩) n dg) (.int .u64 r.cr) (.slice a1 m dt) (.slice (some ⟨ba,0,none⟩) n da) (.slice (some ⟨bf,0,none⟩) n df) (pc5 r0 fr0 r1 fr1 r2 fr2 r3 fr3 r4 fr4) (by first | (simp;done) | (simp;omega) | omega))
 have Qp:=Lib.hid (co5 (b:=bx) (.slice (some ⟨bg,0,none⟩) n dg) (.int .u64 r.cr) (.slice a1 m dt) (.slice (some ⟨ba,0,none⟩) n da) (.slice (some ⟨bf,0,none⟩) n df) (pc5 p0 fp0 p1 fp1 p2 fp2 p3 fp3 p4 fp4) (by first | (simp;done) | (simp;omega) | omega))
 have hlow:bx<W0.heap.size:=by have:=HLW.out;omega
 have HO1:=Lib.hid (show ROwn W0.heap.size (((((wq1.setCell ⟨bx,0,none⟩ (.slice (some ⟨bg,0,none⟩) n dg)).setCell ⟨bx,1,none⟩ (.int .u64 r.cr)).setCell ⟨bx,2,none⟩ (.slice a1 m dt)).setCell ⟨bx,3,none⟩ (.slice (some ⟨ba,0,none⟩) n da)).setCell ⟨bx,4,none⟩ (.slice (some ⟨bf,0,none⟩) n df)) bg a1 ba bf dg dt da df n m r from ((((hO.low (a:=⟨bx,0,none⟩) hlow _).low (a:=⟨bx,1,none⟩) hlow _).low (a:=⟨bx,2,none⟩) hlow _).low (a:=⟨bx,3,none⟩) hlow _).low (a:=⟨bx,4,none⟩) hlow _)
 have HB1:=Lib.hid (show Below w.heap.size w (((((wq1.setCell ⟨bx,0,none⟩ (.slice (some ⟨bg,0,none⟩) n dg)).setCell ⟨bx,1,none⟩ (.int .u64 r.cr)).setCell ⟨bx,2,none⟩ (.slice a1 m dt)).setCell ⟨bx,3,none⟩ (.slice (some ⟨ba,0,none⟩) n da)).setCell ⟨bx,4,none⟩ (.slice (some ⟨bf,0,none⟩) n df)) from ((((((Below.step HB0.out hbb).setCell hleb _).setCell hleb _).setCell hleb _).setCell hleb _).setCell hleb _))
 have HS1:=Lib.hid (show W0.heap.size≤(((((wq1.setCell ⟨bx,0,none⟩ (.slice (some ⟨bg,0,none⟩) n dg)).setCell ⟨bx,1,none⟩ (.int .u64 r.cr)).setCell ⟨bx,2,none⟩ (.slice a1 m dt)).setCell ⟨bx,3,none⟩ (.slice (some ⟨ba,0,none⟩) n da)).setCell ⟨bx,4,none⟩ (.slice (some ⟨bf,0,none⟩) n df)).heap.size by simp only [World.size_setCell];exact hbb.size)
 clear hO hb1 hbb hlow
 go_upto_region 3 with fail
 clear c0 fc0 c1 fc1 c2 fc2 c3 fc3 c4 fc4 x0 fx0 x1 fx1 x2 fx2 r0 fr0 r1 fr1 r2 fr2 r3 fr3 r4 fr4 p0 fp0 p1 fp1 p2 fp2 p3 fp3 p4 fp4
 generalize hW:(((((wq1.setCell ⟨bx,0,none⟩ (.slice (some ⟨bg,0,none⟩) n dg)).setCell ⟨bx,1,none⟩ (.int .u64 r.cr)).setCell ⟨bx,2,none⟩ (.slice a1 m dt)).setCell ⟨bx,3,none⟩ (.slice (some ⟨ba,0,none⟩) n da)).setCell ⟨bx,4,none⟩ (.slice (some ⟨bf,0,none⟩) n df))=W1 at *
 clear hW
 obtain ⟨c0,fc0,c1,fc1,c2,fc2,c3,fc3,c4,fc4⟩:=uc5 Qc.out
 obtain ⟨x0,fx0,x1,fx1,x2,fx2⟩:=uc3 Qx.out
 obtain ⟨r0,fr0,r1,fr1,r2,fr2,r3,fr3,r4,fr4⟩:=uc5 Qr.out
 obtain ⟨p0,fp0,p1,fp1,p2,fp2,p3,fp3,p4,fp4⟩:=uc5 Qp.out
 clear Qc Qx Qr Qp
 clear A0
 have hle:=hleb
 have RI:=Lib.hid (HO1.out.rin HL.out.toRLen)
 go_wp2_with fail
 go_loop [10] (fun i=>∃ j:Nat,j≤cutTk r.T id∧i=.int .i64 j) (fun i=>cutTk r.T id - (intOf i).toNat)
 case atStart=>exact ⟨0,Nat.zero_le _,rfl⟩
 case round =>
  obtain ⟨j,hj,rfl⟩:=hrel
  have hcl:=cutTk_le r.T id
  rw [HL.out.t] at hcl
  have hj0:(0:Int)≤(j:Int):=by omega
  obtain ⟨hcg,hct,hca,hcf⟩:=RI.out.caps
  obtain ⟨lt,hlt⟩:∃ lt:Bool,lt=decide (j<cutTk r.T id):=⟨_,rfl⟩
  have HLB:=Lib.hid hlt
  clear hlt
  go_upto_region 4 with fail
  go_cut [29] (fun s29 wx=>s29=.bool lt∧W1=wx)
  case first =>
   by_cases hjm:j<m
   ·obtain ⟨b,off,rfl,y0,-,-,-,-⟩:=RI.out.task HL.out.toRLen hjm
    have hbb:=cutTk_bef (id:=id) (by rw [HL.out.t];exact hjm:j<r.T.length)
    obtain ⟨yi,hy⟩:∃ y,y=r.T[j]!.1:=⟨_,rfl⟩
    rw [← hy] at y0 hbb
    have hji:(j:Int)<(m:Int):=by omega
    have z1:decide ((j:Int)<(m:Int))=true:=decide_eq_true hji
    have z2:decide (j<m)=true:=decide_eq_true hjm
    clear hy
    by_cases hv:yi<id
    ·have HLT:=Lib.hid (show lt=true by
      rw [HLB.out]
      refine decide_eq_true ?_
      rcases Nat.lt_or_ge j (cutTk r.T id) with h | h
      ·exact h
      ·exact absurd hv (hbb.2 (by omega)))
     have d1:decide (yi<id)=true:=decide_eq_true hv
     clear hbb hv hj hcl
     go_wp2_with fail
     go_meet
     case rel=>exact ⟨by rw [HLT.out],rfl⟩
    ·have HLT:=Lib.hid (show lt=false by
      rw [HLB.out]
      refine decide_eq_false fun h=>hv (hbb.1 h))
     have d1:decide (yi<id)=false:=decide_eq_false hv
     clear hbb hv hj hcl
     go_wp2_with fail
     go_meet
     case rel=>exact ⟨by rw [HLT.out],rfl⟩
   ·have HLT:=Lib.hid (show lt=false by rw [HLB.out];exact decide_eq_false (by omega))
    have z1:decide ((j:Int)<(m:Int))=false:=decide_eq_false (by omega)
    have z2:decide (j<m)=false:=decide_eq_false hjm
    have z3:¬ (j:Int)<(m:Int):=by omega
    clear hj hcl
    go_wp2_with fail
    go_meet
    case rel=>exact ⟨by rw [HLT.out],rfl⟩
  case rest =>
   obtain ⟨rfl,rfl⟩:=hcut
   cases lt with
   | true =>
    have HLT:=Lib.hid (show j<cutTk r.T id from of_decide_eq_true HLB.out.symm)
    have hjm2:j<m:=by have:=HLT.out;omega
    clear hj hcl
    go_wp2_with fail
    go_round
    case rel=>exact ⟨j+1,by have:=HLT.out;omega,by go_num⟩
    case measure=>have:=HLT.out;simp [intOf];omega
   | false =>
    have HC:=Lib.hid (show j=cutTk r.T id by have:=of_decide_eq_false HLB.out.symm;omega)
    clear hj hcl
    go_wp2_with fail
    have hjm2:j≤m:=by have:=cutTk_le r.T id;rw [HL.out.t] at this;have:=HC.out;omega
    have RT:=Lib.hid (sliced_take (m:=j) encTk_ok RI.out.t hjm2)
    have RD:=Lib.hid (sliced_drop (m:=j) encTk_ok RI.out.t hjm2)
    have hlT:=Lib.hid (show (r.T.take j).length=j by rw [List.length_take,HL.out.t];omega)
    have hlD:=Lib.hid (show (r.T.drop j).length=m - j by rw [List.length_drop,HL.out.t])
    have hjC:j≤dt:=by omega
    obtain ⟨vT,hvT⟩:∃ v,v=sliced a1 0 j dt 5:=⟨_,rfl⟩
    obtain ⟨vD,hvD⟩:∃ v,v=sliced a1 j m dt 5:=⟨_,rfl⟩
    rw [← hvT] at RT
    rw [← hvD] at RD
    have HVT:=Lib.hid hvT
    have HVD:=Lib.hid hvD
    clear hvT hvD
    go_cut [10] (fun s10 wx=>∃ ga gc,EMid w W0.heap.size bx bg ga ba bf dg gc da df n (m+1) { r with T:=insTk r.T (id,(k:Int),(xv,xr,xw)) } [.slice ag n cg,.int .u64 r.cr,.slice at' m ct,.slice aa n ca,.slice af n cf] wx)
    case first =>
     have hS0:Below W1.heap.size W1 W1.drew∧W1.drew.cell? ⟨bx,2,none⟩=some (.slice a1 m dt)∧W1.drew.cell? ⟨bx+1,0,none⟩=some (.int .u64 xv)∧W1.drew.cell? ⟨bx+1,1,none⟩=some (.int .u32 xr)∧W1.drew.cell? ⟨bx+1,2,none⟩=some (.int .u32 xw):=⟨Below.drew (Below.refl _ _),cell_dr c2,cell_dr x0,cell_dr x1,cell_dr x2⟩
     refine startU [18] (fun w'=>Below W1.heap.size W1 w'∧w'.cell? ⟨bx,2,none⟩=some (.slice a1 m dt)∧w'.cell? ⟨bx+1,0,none⟩=some (.int .u64 xv)∧w'.cell? ⟨bx+1,1,none⟩=some (.int .u32 xr)∧w'.cell? ⟨bx+1,2,none⟩=some (.int .u32 xw)) (by kernel_rfl) hS0 (fun hHeld=>?_)
     have hS00:Below W1.heap.size W1 W1∧W1.cell? ⟨bx,2,none⟩=some (.slice a1 m dt)∧W1.cell? ⟨bx+1,0,none⟩=some (.int .u64 xv)∧W1.cell? ⟨bx+1,1,none⟩=some (.int .u32 xr)∧W1.cell? ⟨bx+1,2,none⟩=some (.int .u32 xw):=⟨Below.refl _ _,c2,x0,x1,x2⟩
     obtain ⟨wc101,hwc101⟩:∃ X,X=W1.drew:=⟨_,rfl⟩
     rw [← hwc101] at hHeld ⊢
     have hWc101:Below W1.heap.size W1 wc101:=by rw [hwc101];exact (Below.refl _ _).drew
     clear hwc101
     refine takeUw (i:=1) (v:=?v1_102) rfl (by kernel_rfl) (fun _ _ _ h=>h) (by rfl) ?hy1_102 (by assumption) ?rest1_102
     case hy1_102=>(intro w hSw;(try dsimp only at hSw);go_simp;try with_reducible rfl)
     try simp only [Act.put,List.setIfInBounds_toArray,List.set_cons_zero,List.set_cons_succ]
     refine takeUw (i:=2) (v:=?v2_103) rfl (by kernel_rfl) (fun _ _ _ h=>h) (by rfl) ?hy2_103 (by assumption) ?rest2_103
     case hy2_103=>(intro w hSw;(try dsimp only at hSw);go_simp;try with_reducible rfl)
     try simp only [Act.put,List.setIfInBounds_toArray,List.set_cons_zero,List.set_cons_succ]
     refine takeUw (i:=3) (v:=?v3_104) rfl (by kernel_rfl) (fun _ _ _ h=>h) (by rfl) ?hy3_104 (by assumption) ?rest3_104
     case hy3_104=>(intro w hSw;(try dsimp only at hSw);go_simp;try with_reducible rfl)
     try simp only [Act.put,List.setIfInBounds_toArray,List.set_cons_zero,List.set_cons_succ]
     refine takeUw (i:=4) (v:=vT) rfl (by kernel_rfl) (fun _ _ _ h=>h) (by rfl) (fun w _=>by rw [HVT.out];exact run_take 71 (.tmp 34) (.tmp 35) rfl undTks sizeTk rfl rfl hjC) (by assumption) ?_
     try simp only [Act.put,List.setIfInBounds_toArray,List.set_cons_zero,List.set_cons_succ]
     refine takeUw (i:=6) (v:=?v6_105) rfl (by kernel_rfl) (fun _ _ _ h=>h) (by rfl) ?hy6_105 (by assumption) ?rest6_105
     case hy6_105=>(intro w hSw;(try dsimp only at hSw);go_simp;try with_reducible rfl)
     try simp only [Act.put,List.setIfInBounds_toArray,List.set_cons_zero,List.set_cons_succ]
     refine takeUw (i:=7) (v:=?v7_106) rfl (by kernel_rfl) (fun _ _ _ h=>h) (by rfl) ?hy7_106 (by assumption) ?rest7_106
     case hy7_106=>(intro w hSw;(try dsimp only at hSw);go_simp;try with_reducible rfl)
     try simp only [Act.put,List.setIfInBounds_toArray,List.set_cons_zero,List.set_cons_succ]
     refine takeUw (i:=8) (v:=?v8_107) rfl (by kernel_rfl) (fun _ _ _ h=>h) (by rfl) ?hy8_107 (by assumption) ?rest8_107
     case hy8_107=>(intro w hSw;(try dsimp only at hSw);go_simp;try with_reducible rfl)
     try simp only [Act.put,List.setIfInBounds_toArray,List.set_cons_zero,List.set_cons_succ]
     refine takeUw (i:=9) (v:=?v9_108) rfl (by kernel_rfl) (fun _ _ _ h=>h) (by rfl) ?hy9_108 (by assumption) ?rest9_108
     case hy9_108=>(intro w hSw;(try dsimp only at hSw);go_simp;try with_reducible rfl)
     try simp only [Act.put,List.setIfInBounds_toArray,List.set_cons_zero,List.set_cons_succ]
     refine takeUw (i:=12) (v:=?v12_109) rfl (by kernel_rfl) (fun _ _ _ h=>h) (by rfl) ?hy12_109 (by assumption) ?rest12_109
     case hy12_109=>(intro w hSw;(try dsimp only at hSw);go_simp;try with_reducible rfl)
     try simp only [Act.put,List.setIfInBounds_toArray,List.set_cons_zero,List.set_cons_succ]
     refine takeUw (i:=13) (v:=?v13_110) rfl (by kernel_rfl) (fun _ _ _ h=>h) (by rfl) ?hy13_110 (by assumption) ?rest13_110
     case hy13_110=>(intro w hSw;(try dsimp only at hSw);go_simp;try with_reducible rfl)
     try simp only [Act.put,List.setIfInBounds_toArray,List.set_cons_zero,List.set_cons_succ]
     refine takeUw (i:=14) (v:=?v14_111) rfl (by kernel_rfl) (fun _ _ _ h=>h) (by rfl) ?hy14_111 (by assumption) ?rest14_111
     case hy14_111=>(intro w hSw;(try dsimp only at hSw);go_simp;try with_reducible rfl)
     try simp only [Act.put,List.setIfInBounds_toArray,List.set_cons_zero,List.set_cons_succ]
     refine takeUw (i:=15) (v:=vD) rfl (by kernel_rfl) (fun _ _ _ h=>h) (by rfl) (fun w _=>by rw [HVD.out];exact run_drop 71 (.tmp 45) (.tmp 46) rfl undTks sizeTk rfl rfl hjm2) (by assumption) ?_
     try simp only [Act.put,List.setIfInBounds_toArray,List.set_cons_zero,List.set_cons_succ]
     refine readyU (rs:=[0,10]) (by kernel_rfl) (by simp) ?_
     refine consU rfl (fun K hK=>?_) (consU rfl (fun K hK=>?_) (nilU))
     ·skip
      go_simp
      obtain ⟨w112,hw112⟩:∃ X,X=wc101.alloc (.cells #[] 131):=⟨_,rfl⟩
      rw [← hw112]
      have hb112:Below wc101.heap.size wc101 w112:=by rw [hw112];exact below_a _ _
      have hW112:=Below.step hWc101 hb112
      have o0:w112.ownsRow W1.heap.size 131 5 (.slice (some ⟨wc101.heap.size,0,none⟩) 0 0) 0 []:=by rw [hw112];exact World.ownsRow_lit _ #[] 0 hWc101.size (by unfold maxLen;omega) rfl
      clear hw112
      refine hK.out _ _ (held_4 hW112 hS00) (fun hHeld0=>?_)
      clear hK K
      try simp only [Act.put,List.setIfInBounds_toArray,List.set_cons_zero,List.set_cons_succ]
      refine readyU (rs:=[5,10]) (by kernel_rfl) (by simp) ?_
      refine consU rfl (fun K hK=>?_) (consU rfl (fun K hK=>?_) (nilU))
      ·skip
       refine stepF rfl (.tmp 32) (.tmp 36) 71 rfl W1.heap.size 131 i0 (.agg #[.int .i64 0,.int .i64 0,.int .u64 0,.int .u32 0,.int .u32 0]) 5 32 encTk_ok Tryz.underlying71 hi hz0 hz1 hz2 rfl _ rfl o0 _ _ rfl (RT.out.later hW112) (by have:=hlT.out;have:=hlD.out;(try simp only [List.length_cons,List.length_nil]);unfold maxLen;omega) (by have:=hlT.out;have:=hlD.out;(try simp only [List.length_cons,List.length_nil]);omega) hW112.size ?_
       intro v113 w113 o5 hb113 hp113
       have hW113:=Below.step hW112 hb113
       refine hK.out _ _ (held_4 hW113 hS00) (fun hHeld5=>?_)
       clear hK K
       try simp only [Act.put,List.setIfInBounds_toArray,List.set_cons_zero,List.set_cons_succ]
       refine readyU (rs:=[10]) (by kernel_rfl) (by simp) ?_
       refine consU rfl (fun K hK=>?_) (nilU)
       go_simp
       obtain ⟨w114,hw114⟩:∃ X,X=w113.alloc (.cells #[.int .i64 id,.int .i64 k,.int .u64 xv,.int .u32 xr,.int .u32 xw] 131):=⟨_,rfl⟩
       rw [← hw114]
       have hb114:Below w113.heap.size w113 w114:=by rw [hw114];exact below_a _ _
       have hW114:=Below.step hW113 hb114
       replace o5:=own_below o5 hb114
       have rx:RecsAt encTk w114 (.slice (some ⟨w113.heap.size,0,none⟩) 1 1) [(id,(k:Int),(xv,xr,xw))]:=by rw [hw114];exact lit_recs encTk_ok _ [(id,(k:Int),(xv,xr,xw))] _ (by simp)
       clear hw114
       refine hK.out _ _ (held_4 hW114 hS00) (fun hHeld10=>?_)
       clear hK K
       try simp only [Act.put,List.setIfInBounds_toArray,List.set_cons_zero,List.set_cons_succ]
       refine readyU (rs:=[11]) (by kernel_rfl) (by simp) ?_
       refine consU rfl (fun K hK=>?_) (nilU)
       refine stepR rfl (.tmp 37) (.tmp 42) 71 rfl W1.heap.size 131 i0 (.agg #[.int .i64 0,.int .i64 0,.int .u64 0,.int .u32 0,.int .u32 0]) 5 32 encTk_ok Tryz.underlying71 hi hz0 hz1 hz2 rfl _ _ _ rfl o5 _ _ rfl (rx) (by have:=hlT.out;have:=hlD.out;(try simp only [List.length_cons,List.length_nil]);unfold maxLen;omega) (by have:=hlT.out;have:=hlD.out;(try simp only [List.length_cons,List.length_nil]);omega) hW114.size ?_
       intro v115 w115 o8 hg115 hp115 hn115
       have hW115:Below W1.heap.size W1 w115:=hW114.grown hg115 hW114.size (fun g hg=>(o5.lt g hg).1)
       refine hK.out _ _ (held_4 hW115 hS00) (fun hHeld11=>?_)
       clear hK K
       try simp only [Act.put,List.setIfInBounds_toArray,List.set_cons_zero,List.set_cons_succ]
       refine readyU (rs:=[16]) (by kernel_rfl) (by simp) ?_
       refine consU rfl (fun K hK=>?_) (nilU)
       refine stepR rfl (.tmp 43) (.tmp 47) 71 rfl W1.heap.size 131 i0 (.agg #[.int .i64 0,.int .i64 0,.int .u64 0,.int .u32 0,.int .u32 0]) 5 32 encTk_ok Tryz.underlying71 hi hz0 hz1 hz2 rfl _ _ _ rfl o8 _ _ rfl (RD.out.later hW115) (by have:=hlT.out;have:=hlD.out;(try simp only [List.length_cons,List.length_nil]);unfold maxLen;omega) (by have:=hlT.out;have:=hlD.out;(try simp only [List.length_cons,List.length_nil]);omega) hW115.size ?_
       intro v116 w116 o13 hg116 hp116 hn116
       have hW116:Below W1.heap.size W1 w116:=hW115.grown hg116 hW115.size (fun g hg=>(o8.lt g hg).1)
       refine hK.out _ _ (held_4 hW116 hS00) (fun hHeld16=>?_)
       clear hK K
       try simp only [Act.put,List.setIfInBounds_toArray,List.set_cons_zero,List.set_cons_succ]
       refine takeUw (i:=17) (v:=?v17_117) rfl (by kernel_rfl) (fun _ _ _ h=>h) (by rfl) ?hy17_117 (by assumption) ?rest17_117
       case hy17_117=>(intro w hSw;(try dsimp only at hSw);go_simp;try with_reducible rfl)
       try simp only [Act.put,List.setIfInBounds_toArray,List.set_cons_zero,List.set_cons_succ]
       refine readyU (rs:=[18]) (by kernel_rfl) (by simp) ?_
       refine consV rfl (by kernel_rfl) (fun K hK=>?_) (nilU)
       rw [hlT.out,hlD.out,show j+[(id,(k:Int),(xv,xr,xw))].length+(m - j)=m+1 by simp only [List.length_cons,List.length_nil];omega] at o13
       obtain ⟨ga,gc,rfl⟩:=own_shapeI o13
       have Qc:=Lib.hid ((pc5 c0 fc0 c1 fc1 c2 fc2 c3 fc3 c4 fc4).later hW116)
       have Qr:=Lib.hid ((pc5 r0 fr0 r1 fr1 r2 fr2 r3 fr3 r4 fr4).later hW116)
       have Qp:=Lib.hid ((pc5 p0 fp0 p1 fp1 p2 fp2 p3 fp3 p4 fp4).later hW116)
       clear r0 fr0 r1 fr1 r2 fr2 r3 fr3 r4 fr4 p0 fp0 p1 fp1 p2 fp2 p3 fp3 p4 fp4
       replace c2:=cell_later hW116 c2
       replace fc2:=(Qc.out 2 _ rfl).2
       go_simp
       refine hK.out _ _ ?_
       clear hK K
       try simp only [Act.put,List.setIfInBounds_toArray,List.set_cons_zero,List.set_cons_succ]
       refine doneU (by kernel_rfl) ?_ _
       replace Qc:Hid (CellsF (w116.setCell ⟨bx,2,none⟩ (.slice ga (m+1) gc)) bx [.slice (some ⟨bg,0,none⟩) n dg,.int .u64 r.cr,.slice ga (m+1) gc,.slice (some ⟨ba,0,none⟩) n da,.slice (some ⟨bf,0,none⟩) n df]):=Lib.hid (cells_set (i:=2) (v:=.slice ga (m+1) gc) Qc.out)
       replace Qr:=Lib.hid (cells_other (b':=bx) (i:=2) (v:=.slice ga (m+1) gc) Qr.out (by first | (simp;done) | (simp;omega) | omega))
       replace Qp:=Lib.hid (cells_other (b':=bx) (i:=2) (v:=.slice ga (m+1) gc) Qp.out (by first | (simp;done) | (simp;omega) | omega))
       have hlow:bx<W0.heap.size:=by have:=HBX4.out;omega
       have hpre:ROwn W0.heap.size w116 bg ga ba bf dg gc da df n (m+1) { r with T:=insTk r.T (id,(k:Int),(xv,xr,xw)) }:=⟨own_below HO1.out.g hW116,by
        have e:flatR encTk (insTk r.T (id,(k:Int),(xv,xr,xw)))=(flatR encTk (r.T.take j)++flatR encTk [(id,(k:Int),(xv,xr,xw))])++flatR encTk (r.T.drop j):=by
         unfold insTk
         rw [show cutTk r.T (id,(k:Int),(xv,xr,xw)).1=j from HC.out.symm,← flatR_app,← flatR_app]
         simp
        show World.ownsRow _ _ _ _ _ _ (flatR encTk (insTk r.T (id,(k:Int),(xv,xr,xw))))
        rw [e]
        exact own_base o13 HS1.out,own_below HO1.out.a hW116,own_below HO1.out.f hW116⟩
       have HO2:=Lib.hid (show ROwn W0.heap.size (w116.setCell ⟨bx,2,none⟩ (.slice ga (m+1) gc)) bg ga ba bf dg gc da df n (m+1) { r with T:=insTk r.T (id,(k:Int),(xv,xr,xw)) } from hpre.low (a:=⟨bx,2,none⟩) hlow _)
       clear hpre
       have HB2:=Lib.hid (show Below w.heap.size w (w116.setCell ⟨bx,2,none⟩ (.slice ga (m+1) gc)) from (Below.step HB1.out hW116).setCell (by show w.heap.size≤bx;exact hle) _)
       have HS2:=Lib.hid (show W0.heap.size≤(w116.setCell ⟨bx,2,none⟩ (.slice ga (m+1) gc)).heap.size by rw [World.size_setCell];exact Nat.le_trans HS1.out hW116.size)
       clear o13 hlow
       go_wp2_with fail
       go_meet
       case rel=>exact ⟨ga,gc,HO2.out,HB2.out,HS2.out,Qc.out,Qr.out,Qp.out⟩
      ·skip
       go_simp
       obtain ⟨w118,hw118⟩:∃ X,X=w112.alloc (.cells #[.int .i64 id,.int .i64 k,.int .u64 xv,.int .u32 xr,.int .u32 xw] 131):=⟨_,rfl⟩
       rw [← hw118]
       have hb118:Below w112.heap.size w112 w118:=by rw [hw118];exact below_a _ _
       have hW118:=Below.step hW112 hb118
       replace o0:=own_below o0 hb118
       have rx:RecsAt encTk w118 (.slice (some ⟨w112.heap.size,0,none⟩) 1 1) [(id,(k:Int),(xv,xr,xw))]:=by rw [hw118];exact lit_recs encTk_ok _ [(id,(k:Int),(xv,xr,xw))] _ (by simp)
       clear hw118
       refine hK.out _ _ (held_4 hW118 hS00) (fun hHeld10=>?_)
       clear hK K
       try simp only [Act.put,List.setIfInBounds_toArray,List.set_cons_zero,List.set_cons_succ]
       refine readyU (rs:=[5]) (by kernel_rfl) (by simp) ?_
       refine consU rfl (fun K hK=>?_) (nilU)
       refine stepF rfl (.tmp 32) (.tmp 36) 71 rfl W1.heap.size 131 i0 (.agg #[.int .i64 0,.int .i64 0,.int .u64 0,.int .u32 0,.int .u32 0]) 5 32 encTk_ok Tryz.underlying71 hi hz0 hz1 hz2 rfl _ rfl o0 _ _ rfl (RT.out.later hW118) (by have:=hlT.out;have:=hlD.out;(try simp only [List.length_cons,List.length_nil]);unfold maxLen;omega) (by have:=hlT.out;have:=hlD.out;(try simp only [List.length_cons,List.length_nil]);omega) hW118.size ?_
       intro v119 w119 o5 hb119 hp119
       have hW119:=Below.step hW118 hb119
       replace rx:=rx.later hb119
       refine hK.out _ _ (held_4 hW119 hS00) (fun hHeld5=>?_)
       clear hK K
       try simp only [Act.put,List.setIfInBounds_toArray,List.set_cons_zero,List.set_cons_succ]
       refine readyU (rs:=[11]) (by kernel_rfl) (by simp) ?_
       refine consU rfl (fun K hK=>?_) (nilU)
       refine stepR rfl (.tmp 37) (.tmp 42) 71 rfl W1.heap.size 131 i0 (.agg #[.int .i64 0,.int .i64 0,.int .u64 0,.int .u32 0,.int .u32 0]) 5 32 encTk_ok Tryz.underlying71 hi hz0 hz1 hz2 rfl _ _ _ rfl o5 _ _ rfl (rx) (by have:=hlT.out;have:=hlD.out;(try simp only [List.length_cons,List.length_nil]);unfold maxLen;omega) (by have:=hlT.out;have:=hlD.out;(try simp only [List.length_cons,List.length_nil]);omega) hW119.size ?_
       intro v120 w120 o8 hg120 hp120 hn120
       have hW120:Below W1.heap.size W1 w120:=hW119.grown hg120 hW119.size (fun g hg=>(o5.lt g hg).1)
       refine hK.out _ _ (held_4 hW120 hS00) (fun hHeld11=>?_)
       clear hK K
       try simp only [Act.put,List.setIfInBounds_toArray,List.set_cons_zero,List.set_cons_succ]
       refine readyU (rs:=[16]) (by kernel_rfl) (by simp) ?_
       refine consU rfl (fun K hK=>?_) (nilU)
       refine stepR rfl (.tmp 43) (.tmp 47) 71 rfl W1.heap.size 131 i0 (.agg #[.int .i64 0,.int .i64 0,.int .u64 0,.int .u32 0,.int .u32 0]) 5 32 encTk_ok Tryz.underlying71 hi hz0 hz1 hz2 rfl _ _ _ rfl o8 _ _ rfl (RD.out.later hW120) (by have:=hlT.out;have:=hlD.out;(try simp only [List.length_cons,List.length_nil]);unfold maxLen;omega) (by have:=hlT.out;have:=hlD.out;(try simp only [List.length_cons,List.length_nil]);omega) hW120.size ?_
       intro v121 w121 o13 hg121 hp121 hn121
       have hW121:Below W1.heap.size W1 w121:=hW120.grown hg121 hW120.size (fun g hg=>(o8.lt g hg).1)
       refine hK.out _ _ (held_4 hW121 hS00) (fun hHeld16=>?_)
       clear hK K
       try simp only [Act.put,List.setIfInBounds_toArray,List.set_cons_zero,List.set_cons_succ]
       refine takeUw (i:=17) (v:=?v17_122) rfl (by kernel_rfl) (fun _ _ _ h=>h) (by rfl) ?hy17_122 (by assumption) ?rest17_122
       case hy17_122=>(intro w hSw;(try dsimp only at hSw);go_simp;try with_reducible rfl)
       try simp only [Act.put,List.setIfInBounds_toArray,List.set_cons_zero,List.set_cons_succ]
       refine readyU (rs:=[18]) (by kernel_rfl) (by simp) ?_
       refine consV rfl (by kernel_rfl) (fun K hK=>?_) (nilU)
       rw [hlT.out,hlD.out,show j+[(id,(k:Int),(xv,xr,xw))].length+(m - j)=m+1 by simp only [List.length_cons,List.length_nil];omega] at o13
       obtain ⟨ga,gc,rfl⟩:=own_shapeI o13
       have Qc:=Lib.hid ((pc5 c0 fc0 c1 fc1 c2 fc2 c3 fc3 c4 fc4).later hW121)
       have Qr:=Lib.hid ((pc5 r0 fr0 r1 fr1 r2 fr2 r3 fr3 r4 fr4).later hW121)
       have Qp:=Lib.hid ((pc5 p0 fp0 p1 fp1 p2 fp2 p3 fp3 p4 fp4).later hW121)
       clear r0 fr0 r1 fr1 r2 fr2 r3 fr3 r4 fr4 p0 fp0 p1 fp1 p2 fp2 p3 fp3 p4 fp4
       replace c2:=cell_later hW121 c2
       replace fc2:=(Qc.out 2 _ rfl).2
       go_simp
       refine hK.out _ _ ?_
       clear hK K
       try simp only [Act.put,List.setIfInBounds_toArray,List.set_cons_zero,List.set_cons_succ]
       refine doneU (by kernel_rfl) ?_ _
       replace Qc:Hid (CellsF (w121.setCell ⟨bx,2,none⟩ (.slice ga (m+1) gc)) bx [.slice (some ⟨bg,0,none⟩) n dg,.int .u64 r.cr,.slice ga (m+1) gc,.slice (some ⟨ba,0,none⟩) n da,.slice (some ⟨bf,0,none⟩) n df]):=Lib.hid (cells_set (i:=2) (v:=.slice ga (m+1) gc) Qc.out)
       replace Qr:=Lib.hid (cells_other (b':=bx) (i:=2) (v:=.slice ga (m+1) gc) Qr.out (by first | (simp;done) | (simp;omega) | omega))
       replace Qp:=Lib.hid (cells_other (b':=bx) (i:=2) (v:=.slice ga (m+1) gc) Qp.out (by first | (simp;done) | (simp;omega) | omega))
       have hlow:bx<W0.heap.size:=by have:=HBX4.out;omega
       have hpre:ROwn W0.heap.size w121 bg ga ba bf dg gc da df n (m+1) { r with T:=insTk r.T (id,(k:Int),(xv,xr,xw)) }:=⟨own_below HO1.out.g hW121,by
        have e:flatR encTk (insTk r.T (id,(k:Int),(xv,xr,xw)))=(flatR encTk (r.T.take j)++flatR encTk [(id,(k:Int),(xv,xr,xw))])++flatR encTk (r.T.drop j):=by
         unfold insTk
         rw [show cutTk r.T (id,(k:Int),(xv,xr,xw)).1=j from HC.out.symm,← flatR_app,← flatR_app]
         simp
        show World.ownsRow _ _ _ _ _ _ (flatR encTk (insTk r.T (id,(k:Int),(xv,xr,xw))))
        rw [e]
        exact own_base o13 HS1.out,own_below HO1.out.a hW121,own_below HO1.out.f hW121⟩
       have HO2:=Lib.hid (show ROwn W0.heap.size (w121.setCell ⟨bx,2,none⟩ (.slice ga (m+1) gc)) bg ga ba bf dg gc da df n (m+1) { r with T:=insTk r.T (id,(k:Int),(xv,xr,xw)) } from hpre.low (a:=⟨bx,2,none⟩) hlow _)
       clear hpre
       have HB2:=Lib.hid (show Below w.heap.size w (w121.setCell ⟨bx,2,none⟩ (.slice ga (m+1) gc)) from (Below.step HB1.out hW121).setCell (by show w.heap.size≤bx;exact hle) _)
       have HS2:=Lib.hid (show W0.heap.size≤(w121.setCell ⟨bx,2,none⟩ (.slice ga (m+1) gc)).heap.size by rw [World.size_setCell];exact Nat.le_trans HS1.out hW121.size)
       clear o13 hlow
       go_wp2_with fail
       go_meet
       case rel=>exact ⟨ga,gc,HO2.out,HB2.out,HS2.out,Qc.out,Qr.out,Qp.out⟩
     ·skip
      go_simp
      obtain ⟨w123,hw123⟩:∃ X,X=wc101.alloc (.cells #[.int .i64 id,.int .i64 k,.int .u64 xv,.int .u32 xr,.int .u32 xw] 131):=⟨_,rfl⟩
      rw [← hw123]
      have hb123:Below wc101.heap.size wc101 w123:=by rw [hw123];exact below_a _ _
      have hW123:=Below.step hWc101 hb123
      have rx:RecsAt encTk w123 (.slice (some ⟨wc101.heap.size,0,none⟩) 1 1) [(id,(k:Int),(xv,xr,xw))]:=by rw [hw123];exact lit_recs encTk_ok _ [(id,(k:Int),(xv,xr,xw))] _ (by simp)
      clear hw123
      refine hK.out _ _ (held_4 hW123 hS00) (fun hHeld10=>?_)
      clear hK K
      try simp only [Act.put,List.setIfInBounds_toArray,List.set_cons_zero,List.set_cons_succ]
      refine readyU (rs:=[0]) (by kernel_rfl) (by simp) ?_
      refine consU rfl (fun K hK=>?_) (nilU)
      go_simp
      obtain ⟨w124,hw124⟩:∃ X,X=w123.alloc (.cells #[] 131):=⟨_,rfl⟩
      rw [← hw124]
      have hb124:Below w123.heap.size w123 w124:=by rw [hw124];exact below_a _ _
      have hW124:=Below.step hW123 hb124
      replace rx:=rx.later hb124
      have o0:w124.ownsRow W1.heap.size 131 5 (.slice (some ⟨w123.heap.size,0,none⟩) 0 0) 0 []:=by rw [hw124];exact World.ownsRow_lit _ #[] 0 hW123.size (by unfold maxLen;omega) rfl
      clear hw124
      refine hK.out _ _ (held_4 hW124 hS00) (fun hHeld0=>?_)
      clear hK K
      try simp only [Act.put,List.setIfInBounds_toArray,List.set_cons_zero,List.set_cons_succ]
      refine readyU (rs:=[5]) (by kernel_rfl) (by simp) ?_
      refine consU rfl (fun K hK=>?_) (nilU)
      refine stepF rfl (.tmp 32) (.tmp 36) 71 rfl W1.heap.size 131 i0 (.agg #[.int .i64 0,.int .i64 0,.int .u64 0,.int .u32 0,.int .u32 0]) 5 32 encTk_ok Tryz.underlying71 hi hz0 hz1 hz2 rfl _ rfl o0 _ _ rfl (RT.out.later hW124) (by have:=hlT.out;have:=hlD.out;(try simp only [List.length_cons,List.length_nil]);unfold maxLen;omega) (by have:=hlT.out;have:=hlD.out;(try simp only [List.length_cons,List.length_nil]);omega) hW124.size ?_
      intro v125 w125 o5 hb125 hp125
      have hW125:=Below.step hW124 hb125
      replace rx:=rx.later hb125
      refine hK.out _ _ (held_4 hW125 hS00) (fun hHeld5=>?_)
      clear hK K
      try simp only [Act.put,List.setIfInBounds_toArray,List.set_cons_zero,List.set_cons_succ]
      refine readyU (rs:=[11]) (by kernel_rfl) (by simp) ?_
      refine consU rfl (fun K hK=>?_) (nilU)
      refine stepR rfl (.tmp 37) (.tmp 42) 71 rfl W1.heap.size 131 i0 (.agg #[.int .i64 0,.int .i64 0,.int .u64 0,.int .u32 0,.int .u32 0]) 5 32 encTk_ok Tryz.underlying71 hi hz0 hz1 hz2 rfl _ _ _ rfl o5 _ _ rfl (rx) (by have:=hlT.out;have:=hlD.out;(try simp only [List.length_cons,List.length_nil]);unfold maxLen;omega) (by have:=hlT.out;have:=hlD.out;(try simp only [List.length_cons,List.length_nil]);omega) hW125.size ?_
      intro v126 w126 o8 hg126 hp126 hn126
      have hW126:Below W1.heap.size W1 w126:=hW125.grown hg126 hW125.size (fun g hg=>(o5.lt g hg).1)
      refine hK.out _ _ (held_4 hW126 hS00) (fun hHeld11=>?_)
      clear hK K
      try simp only [Act.put,List.setIfInBounds_toArray,List.set_cons_zero,List.set_cons_succ]
      refine readyU (rs:=[16]) (by kernel_rfl) (by simp) ?_
      refine consU rfl (fun K hK=>?_) (nilU)
      refine stepR rfl (.tmp 43) (.tmp 47) 71 rfl W1.heap.size 131 i0 (.agg #[.int .i64 0,.int .i64 0,.int .u64 0,.int .u32 0,.int .u32 0]) 5 32 encTk_ok Tryz.underlying71 hi hz0 hz1 hz2 rfl _ _ _ rfl o8 _ _ rfl (RD.out.later hW126) (by have:=hlT.out;have:=hlD.out;(try simp only [List.length_cons,List.length_nil]);unfold maxLen;omega) (by have:=hlT.out;have:=hlD.out;(try simp only [List.length_cons,List.length_nil]);omega) hW126.size ?_
      intro v127 w127 o13 hg127 hp127 hn127
      have hW127:Below W1.heap.size W1 w127:=hW126.grown hg127 hW126.size (fun g hg=>(o8.lt g hg).1)
      refine hK.out _ _ (held_4 hW127 hS00) (fun hHeld16=>?_)
      clear hK K
      try simp only [Act.put,List.setIfInBounds_toArray,List.set_cons_zero,List.set_cons_succ]
      refine takeUw (i:=17) (v:=?v17_128) rfl (by kernel_rfl) (fun _ _ _ h=>h) (by rfl) ?hy17_128 (by assumption) ?rest17_128
      case hy17_128=>(intro w hSw;(try dsimp only at hSw);go_simp;try with_reducible rfl)
      try simp only [Act.put,List.setIfInBounds_toArray,List.set_cons_zero,List.set_cons_succ]
      refine readyU (rs:=[18]) (by kernel_rfl) (by simp) ?_
      refine consV rfl (by kernel_rfl) (fun K hK=>?_) (nilU)
      rw [hlT.out,hlD.out,show j+[(id,(k:Int),(xv,xr,xw))].length+(m - j)=m+1 by simp only [List.length_cons,List.length_nil];omega] at o13
      obtain ⟨ga,gc,rfl⟩:=own_shapeI o13
      have Qc:=Lib.hid ((pc5 c0 fc0 c1 fc1 c2 fc2 c3 fc3 c4 fc4).later hW127)
      have Qr:=Lib.hid ((pc5 r0 fr0 r1 fr1 r2 fr2 r3 fr3 r4 fr4).later hW127)
      have Qp:=Lib.hid ((pc5 p0 fp0 p1 fp1 p2 fp2 p3 fp3 p4 fp4).later hW127)
      clear r0 fr0 r1 fr1 r2 fr2 r3 fr3 r4 fr4 p0 fp0 p1 fp1 p2 fp2 p3 fp3 p4 fp4
      replace c2:=cell_later hW127 c2
      replace fc2:=(Qc.out 2 _ rfl).2
      go_simp
      refine hK.out _ _ ?_
      clear hK K
      try simp only [Act.put,List.setIfInBounds_toArray,List.set_cons_zero,List.set_cons_succ]
      refine doneU (by kernel_rfl) ?_ _
      replace Qc:Hid (CellsF (w127.setCell ⟨bx,2,none⟩ (.slice ga (m+1) gc)) bx [.slice (some ⟨bg,0,none⟩) n dg,.int .u64 r.cr,.slice ga (m+1) gc,.slice (some ⟨ba,0,none⟩) n da,.slice (some ⟨bf,0,none⟩) n df]):=Lib.hid (cells_set (i:=2) (v:=.slice ga (m+1) gc) Qc.out)
      replace Qr:=Lib.hid (cells_other (b':=bx) (i:=2) (v:=.slice ga (m+1) gc) Qr.out (by first | (simp;done) | (simp;omega) | omega))
      replace Qp:=Lib.hid (cells_other (b':=bx) (i:=2) (v:=.slice ga (m+1) gc) Qp.out (by first | (simp;done) | (simp;omega) | omega))
      have hlow:bx<W0.heap.size:=by have:=HBX4.out;omega
      have hpre:ROwn W0.heap.size w127 bg ga ba bf dg gc da df n (m+1) { r with T:=insTk r.T (id,(k:Int),(xv,xr,xw)) }:=⟨own_below HO1.out.g hW127,by
       have e:flatR encTk (insTk r.T (id,(k:Int),(xv,xr,xw)))=(flatR encTk (r.T.take j)++flatR encTk [(id,(k:Int),(xv,xr,xw))])++flatR encTk (r.T.drop j):=by
        unfold insTk
        rw [show cutTk r.T (id,(k:Int),(xv,xr,xw)).1=j from HC.out.symm,← flatR_app,← flatR_app]
        simp
       show World.ownsRow _ _ _ _ _ _ (flatR encTk (insTk r.T (id,(k:Int),(xv,xr,xw))))
       rw [e]
       exact own_base o13 HS1.out,own_below HO1.out.a hW127,own_below HO1.out.f hW127⟩
      have HO2:=Lib.hid (show ROwn W0.heap.size (w127.setCell ⟨bx,2,none⟩ (.slice ga (m+1) gc)) bg ga ba bf dg gc da df n (m+1) { r with T:=insTk r.T (id,(k:Int),(xv,xr,xw)) } from hpre.low (a:=⟨bx,2,none⟩) hlow _)
      clear hpre
      have HB2:=Lib.hid (show Below w.heap.size w (w127.setCell ⟨bx,2,none⟩ (.slice ga (m+1) gc)) from (Below.step HB1.out hW127).setCell (by show w.heap.size≤bx;exact hle) _)
      have HS2:=Lib.hid (show W0.heap.size≤(w127.setCell ⟨bx,2,none⟩ (.slice ga (m+1) gc)).heap.size by rw [World.size_setCell];exact Nat.le_trans HS1.out hW127.size)
      clear o13 hlow
      go_wp2_with fail
      go_meet
      case rel=>exact ⟨ga,gc,HO2.out,HB2.out,HS2.out,Qc.out,Qr.out,Qp.out⟩
    case rest =>
     obtain ⟨ga,gc,hM⟩:=hcut
     obtain ⟨W2,rfl⟩:∃ W2:World,W2=wc:=⟨_,rfl⟩
     obtain ⟨T2,hT2⟩:∃ T2,T2=insTk r.T (id,(k:Int),(xv,xr,xw)):=⟨_,rfl⟩
     rw [← hT2] at hM
     have HT2:=Lib.hid hT2
     have HM:=Lib.hid hM
     have hl2:T2.length=m+1:=by rw [hT2,insTk_len,HL.out.t]
     have HL2:=Lib.hid hl2
     clear hM hT2 hl2 RT RD hlT hlD HVT HVD HO1 HB1 HS1 RI
     clear c0 c1 c2 c3 c4 x0 x1 x2 r0 r1 r2 r3 r4 p0 p1 p2 p3 p4 fc0 fc1 fc2 fc3 fc4 fx0 fx1 fx2 fr0 fr1 fr2 fr3 fr4 fp0 fp1 fp2 fp3 fp4
     go_wp2_with fail
     go_loopw [11] (fun i wr=>∃ (g:Nat) (A:List Ent),g<n∧i=.int .i64 g∧A.length=n∧(∀ q,q<n→EntOk A[q]!)∧Hid (upA r n (pathT (parG r.Gs) g) A=upA r n (pathT (parG r.Gs) k) r.A)∧EMid w W0.heap.size bx bg ga ba bf dg gc da df n (m+1) { r with T:=T2,A:=A } [.slice ag n cg,.int .u64 r.cr,.slice at' m ct,.slice aa n ca,.slice af n cf] wr) (fun i _=>(intOf i).toNat)
     case atStart=>exact ⟨k,r.A,HKN.out,rfl,HL.out.a,HL.out.aok,Lib.hid rfl,HM.out⟩
     case round =>
      clear HM
      obtain ⟨g,A,hg,rfl,hAl,hAo,hup,hM⟩:=hrel
      have HM:=Lib.hid hM
      have HUP:=Lib.hid hup.out
      have HAO:=Lib.hid hAo
      have HAL:=Lib.hid hAl
      have HL3:=Lib.hid (show RLen { r with T:=T2,A:=A } n (m+1) from ⟨HL.out.g,HL2.out,hAl,HL.out.f,HL.out.right,by have:=hm1;omega⟩)
      clear hM hup hAo hAl
      have c0:wr.cell? ⟨bx,0,none⟩=some (.slice (some ⟨bg,0,none⟩) n dg):=(HM.out.c 0 _ rfl).1
      have c1:wr.cell? ⟨bx,1,none⟩=some (.int .u64 r.cr):=(HM.out.c 1 _ rfl).1
      have c2:wr.cell? ⟨bx,2,none⟩=some (.slice ga (m+1) gc):=(HM.out.c 2 _ rfl).1
      have c3:wr.cell? ⟨bx,3,none⟩=some (.slice (some ⟨ba,0,none⟩) n da):=(HM.out.c 3 _ rfl).1
      have c4:wr.cell? ⟨bx,4,none⟩=some (.slice (some ⟨bf,0,none⟩) n df):=(HM.out.c 4 _ rfl).1
      have p0:wr.cell? ⟨bx+1+1+1,0,none⟩=some (.slice ag n cg):=(HM.out.p 0 _ rfl).1
      have p1:wr.cell? ⟨bx+1+1+1,1,none⟩=some (.int .u64 r.cr):=(HM.out.p 1 _ rfl).1
      have p2:wr.cell? ⟨bx+1+1+1,2,none⟩=some (.slice at' m ct):=(HM.out.p 2 _ rfl).1
      have p3:wr.cell? ⟨bx+1+1+1,3,none⟩=some (.slice aa n ca):=(HM.out.p 3 _ rfl).1
      have p4:wr.cell? ⟨bx+1+1+1,4,none⟩=some (.slice af n cf):=(HM.out.p 4 _ rfl).1
      have hg0:(0:Int)≤(g:Int):=by omega
      obtain ⟨hcg,hct,hca,hcf⟩:=(HM.out.own.rin HL3.out).caps
      by_cases h0:0<g
      ·have z1:decide ((g:Int) > 0)=true:=decide_eq_true (by omega)
       have z2:decide (0<g)=true:=decide_eq_true h0
       have z3:(0:Int)<(g:Int):=by omega
       have A1:=Lib.hid (tMembers_at r n m HL.out.toRLen n g ag at' aa af cg ct ca cf wr hg (by omega) (HIN.out.later HM.out.bel))
       have hpl:=(HL.out.right.par (k:=g) (by rw [HL.out.g];exact hg)).2.1 h0
       have HUP2:=Lib.hid (show (if (mR r n g).length=0 then upA r n (pathT (parG r.Gs) (parG r.Gs g)) (A.set g (wokenX A[g]! r.fl[parG r.Gs g]! r.cr)) else A)=upA r n (pathT (parG r.Gs) k) r.A by
        have:=HUP.out
        rw [pathT_pos h0 hpl] at this
        exact this)
       obtain ⟨q,hq⟩:∃ q,q=mR r n g:=⟨_,rfl⟩
       rw [← hq] at A1 HUP2
       replace A1:=Lib.hid A1.out
       have HQ:=Lib.hid hq
       clear hq
       go_wp2_with fail
       refine A1.out.mono ?_;clear A1;rintro e w9 ⟨v9,rfl,ho9,hb9⟩
       obtain ⟨a9,c9,rfl⟩:=own_shapeI ho9
       have HM9:=Lib.hid (HM.out.later hb9)
       replace c0:=cell_later hb9 c0
       replace c1:=cell_later hb9 c1
       replace c2:=cell_later hb9 c2
       replace c3:=cell_later hb9 c3
       replace c4:=cell_later hb9 c4
       replace p0:=cell_later hb9 p0
       replace p1:=cell_later hb9 p1
       replace p2:=cell_later hb9 p2
       replace p3:=cell_later hb9 p3
       replace p4:=cell_later hb9 p4
       clear ho9 hb9 HM
       by_cases hql:q.length=0
       ·have v1:((q.length:Int) == 0)=true:=by simpa using hql
        have HUP3:=Lib.hid (show upA r n (pathT (parG r.Gs) (parG r.Gs g)) (A.set g (wokenX A[g]! r.fl[parG r.Gs g]! r.cr))=upA r n (pathT (parG r.Gs) k) r.A by have:=HUP2.out;rw [if_pos hql] at this;exact this)
        have hqz:q=[]:=List.length_eq_zero_iff.1 hql
        subst hqz
        clear HUP2 HUP hql
        go_wp2_with fail
        obtain ⟨pg,hpg⟩:∃ p,p=parG r.Gs g:=⟨_,rfl⟩
        have hpgn:pg<n:=by rw [hpg];omega
        obtain ⟨b0,o0,hag,y9,-⟩:=(HM9.out.own.rin HL3.out).grp HL3.out hg
        cases hag
        replace y9:w9.cell? ⟨bg,g*2,none⟩=some (.int .i64 (pg:Int)):=by rw [hpg];have:=y9;rw [Nat.zero_add] at this;exact this
        obtain ⟨b1,o1,haa,u0,u1,u2⟩:=(HM9.out.own.rin HL3.out).spot HL3.out hg
        cases haa
        rw [Nat.zero_add] at u0 u1 u2
        obtain ⟨bq,oq,haf,f0⟩:=(HIN.out.later HM9.out.bel).floor HL.out.toRLen hpgn
        have hok:=HAO.out g hg
        have hfo:=HL.out.fok pg hpgn
        obtain ⟨fo,hfo2⟩:∃ f,f=r.fl[pg]!:=⟨_,rfl⟩
        obtain ⟨⟨sv,sr,sw⟩,hse⟩:∃ s:Ent,s=A[g]!:=⟨_,rfl⟩
        dsimp only at u0 u1 u2
        rw [← hse] at u0 u1 u2 hok HUP3
        rw [← hpg,← hfo2] at HUP3
        rw [← hfo2] at f0 hfo
        obtain ⟨⟨yv,yr,yw⟩,hy⟩:∃ y,y=wokenX (sv,sr,sw) fo r.cr:=⟨_,rfl⟩
        have AW:=fun W=>eWoken_at sv sr sw fo r.cr W hok.fits hfo HL.out.cr0
        rw [show wokenC (sv,sr,sw)=0 by unfold wokenC;exact if_pos hok,← hy] at AW
        replace AW:=Lib.hid AW
        rw [← hy] at HUP3
        have HYO:=Lib.hid (show EntOk (yv,yr,yw) by rw [hy];exact wokenX_ok hok hfo HL.out.cr0.1)
        have HPG:=Lib.hid hpg
        have hpi:(pg:Int)<(n:Int):=by omega
        have hp0:(0:Int)≤(pg:Int):=by omega
        have hgi:(g:Int)<(n:Int):=by omega
        have HFU:=Lib.hid (show ∀ j,w9.frozen? ⟨ba,j,none⟩=false from fun j=>HM9.out.own.a.frozenAt j)
        subst haf
        have HPL:=Lib.hid (show pg<g by rw [hpg];exact hpl)
        clear hok hfo hfo2 hse hy hpg hpl hcg hct hca
        have nb:bx∉[ba]:=by have:=HM9.out.own.ge;have:=HBX4.out;simp;omega
        have np:bx+1+1+1∉[ba]:=by have:=HM9.out.own.ge;have:=HBX4.out;simp;omega
        have nz:bx+1+1∉[ba]:=by have:=HM9.out.own.ge;have:=HBX4.out;simp;omega
        have ng:bg∉[ba]:=by have:=HM9.out.own.neGA;simpa using this
        have nf:bq∉[ba]:=by
         obtain ⟨bq',oq',he,f0'⟩:=HIN.out.floor HL.out.toRLen hpgn
         cases he
         have:=lt_of_cell f0'
         have:=HM9.out.own.ge
         have:=HBX4.out
         have:=HBX.out
         simp;omega
        have d0:=cell_dr u0
        have d1:=cell_dr u1
        have d2:=cell_dr u2
        refine startA (S:=fun w'=>Kept [ba] w9 w'∧w'.cell? ⟨bx,0,none⟩=some (.slice (some ⟨bg,0,none⟩) n dg)∧w'.cell? ⟨bx,1,none⟩=some (.int .u64 r.cr)∧w'.cell? ⟨bx,3,none⟩=some (.slice (some ⟨ba,0,none⟩) n da)∧w'.cell? ⟨bx+1+1+1,4,none⟩=some (.slice (some ⟨bq,oq,none⟩) n cf)∧w'.cell? ⟨bg,g*2,none⟩=some (.int .i64 (pg:Int))∧w'.cell? ⟨bq,oq+pg,none⟩=some (.int .u64 fo)) ⟨Kept.refl _ _,c0,c1,c3,p4,y9,f0⟩ (fun h=>heldK_6 (kept_dr _ _) h) (fun hS0 hHeld=>?_)
        refine takeA 0 ?_
        refine takeA 1 ?_
        refine takeA 2 ?_
        refine takeA 3 ?_
        refine takeA 4 ?_
        refine takeA 5 ?_
        refine takeA 6 ?_
        refine takeA 8 ?_
        refine takeA 9 ?_
        refine takeA 10 ?_
        refine takeA 11 ?_
        refine takeA 12 ?_
        refine takeA 13 ?_
        refine takeA 14 ?_
        refine takeA 15 ?_
        refine takeA 16 ?_
        refine takeA 17 ?_
        refine takeA 18 ?_
        refine takeA 19 ?_
        refine readyA [7] (consA (fun K hK=>?_) .nil)
        go_simp
        refine outA hK kpK_6 (fun hHeld7=>?_)
        clear hK K
        refine readyA [20] (consA (fun K hK=>?_) .nil)
        go_simp
        refine (AW.out _).mono ?_
        rintro e w17 ⟨rfl,hb17⟩
        have hk17:Kept [ba] w9.drew w17:=Kept.of hb17
        have hbw:Below w9.heap.size w9 w17:=Below.step (Below.refl _ _).drew hb17
        have gu0:=frz_later hbw (HFU.out (g*3)) (lt_of_cell u0)
        have k0:=cell_later hbw u0
        have gu1:=frz_later hbw (HFU.out (g*3+1)) (lt_of_cell u1)
        have k1:=cell_later hbw u1
        have gu2:=frz_later hbw (HFU.out (g*3+2)) (lt_of_cell u2)
        have k2:=cell_later hbw u2
        go_wp2_with fail
        refine outA hK kpK_6 (fun hHeld20=>?_)
        clear hK K
        refine takeA 21 ?_
        refine takeA 22 ?_
        refine takeA 23 ?_
        refine takeA 24 ?_
        refine readyA [25] (consA (fun K hK=>?_) .nil)
        go_simp
        have hk25:Kept [ba] w17 (((w17.setCell ⟨ba,g*3,none⟩ (.int .u64 yv)).setCell ⟨ba,g*3+1,none⟩ (.int .u32 yr)).setCell ⟨ba,g*3+2,none⟩ (.int .u32 yw)):=(((Kept.refl [ba] w17).setCell (p:=⟨ba,g*3,none⟩) (Or.inl (by simp)) _).setCell (p:=⟨ba,g*3+1,none⟩) (Or.inl (by simp)) _).setCell (p:=⟨ba,g*3+2,none⟩) (Or.inl (by simp)) _
        refine outA hK kpK_6 (fun hHeld25=>?_)
        clear hK K
        refine doneA ?_
        skip
        have HMn:=Lib.hid ((HM9.out.later hbw).setA HL3.out hg (yv,yr,yw) nb nz np HBX.out.symm HBX4.out)
        have e0:=hHeld25.2.1
        have e9:=hHeld25.2.2.2.2.2.1
        have HAL2:=Lib.hid (show (A.set g (yv,yr,yw)).length=n by rw [List.length_set];exact HAL.out)
        have HAO2:=Lib.hid (show ∀ q,q<n→EntOk (A.set g (yv,yr,yw))[q]! from fun q hq=>by
         have hq':q<(A.set g (yv,yr,yw)).length:=by rw [HAL2.out];exact hq
         rw [getElem!_pos _ q hq',List.getElem_set]
         split
         ·exact HYO.out
         ·have:=HAO.out q hq
          rwa [getElem!_pos A q (by rw [HAL.out];exact hq)] at this)
        clear hHeld25 hS0 c0 c1 c2 c3 c4 p0 p1 p2 p3 p4 y9 u0 u1 u2 d0 d1 d2 k0 k1 k2 gu0 gu1 gu2 f0 hk17 hk25 hbw hb17 nb nz np ng nf
        go_wp2_with fail
        go_roundw
        case rel=>exact ⟨pg,A.set g (yv,yr,yw),hpgn,rfl,HAL2.out,HAO2.out,Lib.hid HUP3.out,HMn.out⟩
        case measure=>have:=HPL.out;simp [intOf];omega
       ·have v1:((q.length:Int) == 0)=false:=by simp;intro h;exact hql (by rw [h];rfl)
        have v2:(q.length == 0)=false:=by simpa using hql
        have v3:¬ q.length=0:=hql
        have HUP3:=Lib.hid (show A=upA r n (pathT (parG r.Gs) k) r.A by have:=HUP2.out;rw [if_neg hql] at this;exact this)
        clear HUP2 HUP hcg hct hca hcf
        have e:A=upA r n (pathT (parG r.Gs) k) r.A:=HUP3.out
        have AR:=Lib.hid (traised_at { r with T:=T2,A:=A } n (m+1) HL3.out W0.heap.size bg ga ba bf dg gc da df w9 HM9.out.own)
        go_wp2_with fail
        refine AR.out.mono ?_;clear AR;rintro e w20 ⟨rfl,hO,hk⟩
        have nz:bx+1+1∉[bf]:=by have:=HM9.out.own.ge;have:=HBX4.out;simp;omega
        have hz:=HM9.out.z.kept hk nz
        have z0:w20.cell? ⟨bx+1+1,0,none⟩=some (.slice none 0 0):=(hz 0 _ rfl).1
        have fz0:w20.frozen? ⟨bx+1+1,0,none⟩=false:=(hz 0 _ rfl).2
        have z1:w20.cell? ⟨bx+1+1,1,none⟩=some (.int .u64 0):=(hz 1 _ rfl).1
        have fz1:w20.frozen? ⟨bx+1+1,1,none⟩=false:=(hz 1 _ rfl).2
        have z2:w20.cell? ⟨bx+1+1,2,none⟩=some (.slice none 0 0):=(hz 2 _ rfl).1
        have fz2:w20.frozen? ⟨bx+1+1,2,none⟩=false:=(hz 2 _ rfl).2
        have z3:w20.cell? ⟨bx+1+1,3,none⟩=some (.slice none 0 0):=(hz 3 _ rfl).1
        have fz3:w20.frozen? ⟨bx+1+1,3,none⟩=false:=(hz 3 _ rfl).2
        have z4:w20.cell? ⟨bx+1+1,4,none⟩=some (.slice none 0 0):=(hz 4 _ rfl).1
        have fz4:w20.frozen? ⟨bx+1+1,4,none⟩=false:=(hz 4 _ rfl).2
        have HO20:=Lib.hid hO
        have HB20:=Lib.hid (show Below w.heap.size w w20 from HM9.out.bel.trans (hk.below (fun b hb=>by have:=HM9.out.own.ge;have:=HBX4.out;have:=HBX.out;simp at hb;omega) HM9.out.bel.size))
        have HE:=Lib.hid e
        clear hO hk hz e nz
        go_wp2_with fail
        refine bodyPost_ret (v:=.agg #[.slice (some ⟨bg,0,none⟩) n dg,.int .u64 r.cr,.slice ga (m+1) gc,.slice (some ⟨ba,0,none⟩) n da,.slice (some ⟨bf,0,none⟩) n df]) (by simp [results,Tryz.results97,go_sem, *]) rfl ?_
        have hle:w.heap.size≤bx+1+1:=by have:=HBX.out;omega
        have hlow:bx+1+1<W0.heap.size:=by have:=HBX4.out;omega
        refine ⟨bg,ga,ba,bf,dg,gc,da,df,rfl,?_,((((HB20.out.setCell hle _).setCell hle _).setCell hle _).setCell hle _).setCell hle _⟩
        refine ROwn.toBase (base:=W0.heap.size) ?_ (by have:=HBX4.out;have:=HBX.out;omega)
        have hO:=HO20.out
        rw [HE.out,HT2.out] at hO
        exact ((((hO.low (a:=⟨bx+1+1,0,none⟩) hlow _).low (a:=⟨bx+1+1,1,none⟩) hlow _).low (a:=⟨bx+1+1,2,none⟩) hlow _).low (a:=⟨bx+1+1,3,none⟩) hlow _).low (a:=⟨bx+1+1,4,none⟩) hlow _
      ·have z1:decide ((g:Int) > 0)=false:=decide_eq_false (by omega)
       have z2:decide (0<g)=false:=decide_eq_false h0
       have z3:¬ (0:Int)<(g:Int):=by omega
       have HUP3:=Lib.hid (show A=upA r n (pathT (parG r.Gs) k) r.A by
        have:=HUP.out
        obtain rfl:g=0:=by omega
        rw [pathT_zero] at this
        exact this)
       clear HUP hcg hct hca hcf
       have e:A=upA r n (pathT (parG r.Gs) k) r.A:=HUP3.out
       have AR:=Lib.hid (traised_at { r with T:=T2,A:=A } n (m+1) HL3.out W0.heap.size bg ga ba bf dg gc da df wr HM.out.own)
       go_wp2_with fail
       refine AR.out.mono ?_;clear AR;rintro e w20 ⟨rfl,hO,hk⟩
       have nz:bx+1+1∉[bf]:=by have:=HM.out.own.ge;have:=HBX4.out;simp;omega
       have hz:=HM.out.z.kept hk nz
       have z0:w20.cell? ⟨bx+1+1,0,none⟩=some (.slice none 0 0):=(hz 0 _ rfl).1
       have fz0:w20.frozen? ⟨bx+1+1,0,none⟩=false:=(hz 0 _ rfl).2
       have z1:w20.cell? ⟨bx+1+1,1,none⟩=some (.int .u64 0):=(hz 1 _ rfl).1
       have fz1:w20.frozen? ⟨bx+1+1,1,none⟩=false:=(hz 1 _ rfl).2
       have z2:w20.cell? ⟨bx+1+1,2,none⟩=some (.slice none 0 0):=(hz 2 _ rfl).1
       have fz2:w20.frozen? ⟨bx+1+1,2,none⟩=false:=(hz 2 _ rfl).2
       have z3:w20.cell? ⟨bx+1+1,3,none⟩=some (.slice none 0 0):=(hz 3 _ rfl).1
       have fz3:w20.frozen? ⟨bx+1+1,3,none⟩=false:=(hz 3 _ rfl).2
       have z4:w20.cell? ⟨bx+1+1,4,none⟩=some (.slice none 0 0):=(hz 4 _ rfl).1
       have fz4:w20.frozen? ⟨bx+1+1,4,none⟩=false:=(hz 4 _ rfl).2
       have HO20:=Lib.hid hO
       have HB20:=Lib.hid (show Below w.heap.size w w20 from HM.out.bel.trans (hk.below (fun b hb=>by have:=HM.out.own.ge;have:=HBX4.out;have:=HBX.out;simp at hb;omega) HM.out.bel.size))
       have HE:=Lib.hid e
       clear hO hk hz e nz
       go_wp2_with fail
       refine bodyPost_ret (v:=.agg #[.slice (some ⟨bg,0,none⟩) n dg,.int .u64 r.cr,.slice ga (m+1) gc,.slice (some ⟨ba,0,none⟩) n da,.slice (some ⟨bf,0,none⟩) n df]) (by simp [results,Tryz.results97,go_sem, *]) rfl ?_
       have hle:w.heap.size≤bx+1+1:=by have:=HBX.out;omega
       have hlow:bx+1+1<W0.heap.size:=by have:=HBX4.out;omega
       refine ⟨bg,ga,ba,bf,dg,gc,da,df,rfl,?_,((((HB20.out.setCell hle _).setCell hle _).setCell hle _).setCell hle _).setCell hle _⟩
       refine ROwn.toBase (base:=W0.heap.size) ?_ (by have:=HBX4.out;have:=HBX.out;omega)
       have hO:=HO20.out
       rw [HE.out,HT2.out] at hO
       exact ((((hO.low (a:=⟨bx+1+1,0,none⟩) hlow _).low (a:=⟨bx+1+1,1,none⟩) hlow _).low (a:=⟨bx+1+1,2,none⟩) hlow _).low (a:=⟨bx+1+1,3,none⟩) hlow _).low (a:=⟨bx+1+1,4,none⟩) hlow _
end Go.Proofs.YtfgmglghlapbcaaGreat
