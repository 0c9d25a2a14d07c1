/-
  Layer 25 (pick): Regroup.
  Layer 25 (pick): slices.Clone of groups, New: the state on the way.
  Layer 25 (pick): New.
-/
import Derived.Test.YtfgmglghlapbcaaGreatPkO
namespace Go.Proofs.YtfgmglghlapbcaaGreat
open Go.RowKit Go.Maps Go.IntWalk Go.Lib Go.Sort Go.Shelf
set_option linter.unusedVariables false
set_option linter.unusedSimpArgs false
theorem q_world {Q:Exit→Act→World→Prop} {e:Exit} {a:Act} {W:World} (h:∀ W',W'=W→Q e a W'):Q e a W:=h _ rfl
def setW (Gs:Grps) (g:Nat) (k:Int):Grps:=Gs.set g (Gs[g]!.1,k)
theorem setW_len (Gs:Grps) (g:Nat) (k:Int):(setW Gs g k).length=Gs.length:=by unfold setW;simp
theorem setW_same {Gs:Grps} {g:Nat} {k:Int} (h:g<Gs.length):(setW Gs g k)[g]! = (Gs[g]!.1,k):=by
 unfold setW
 rw [getElem!_pos _ _ (by simpa using h)]
 simp
theorem setW_other {Gs:Grps} {g j:Nat} {k:Int} (h:j≠g):(setW Gs g k)[j]! = Gs[j]!:=by
 unfold setW
 simp only [List.getElem!_eq_getElem?_getD]
 rw [List.getElem?_set_ne (Ne.symm h)]
theorem setW_par (Gs:Grps) (g:Nat) (k:Int):parG (setW Gs g k)=parG Gs:=by
 funext j
 unfold parG
 by_cases e:j=g
 ·subst e
  by_cases h:j<Gs.length
  ·rw [setW_same h]
  ·unfold setW
   rw [List.set_eq_of_length_le (by omega)]
 ·rw [setW_other e]
theorem RightG.setW {Gs:Grps} (h:RightG Gs) {g:Nat} {k:Int} (hg:g<Gs.length) (h0:0<g) (hk:1≤k∧k≤65536):RightG (setW Gs g k) where
 le:=by rw [setW_len];exact h.le
 pos:=by rw [setW_len];exact h.pos
 root:=by rw [setW_other (by omega)];exact h.root
 rest:=fun j h1 h2=>by
  rw [setW_len] at h2
  have e:=h.rest j h1 h2
  unfold gErr at e ⊢
  rw [setW_par]
  by_cases q:j=g
  ·subst q
   rw [setW_same h2]
   have i:=gErr_par (h.rest j h1 h2)
   simp only
   rw [if_neg (by omega),if_neg (by omega),if_neg (by omega)]
  ·rw [setW_other q];exact e
theorem TRaw.regroup {w:World} {t bg bq ba bm:Nat} {qp:Nat→Nat} {Fq:Nat→List Nat} {s:TSt} {g:Nat} {k:Int} (h:TRaw w t bg bq ba bm qp Fq s) (hg:g<s.n) (h0:0<g) (hk:1≤k∧k≤65536) :
  TRaw (w.setCell ⟨bg,g*2+1,none⟩ (.int .i64 k)) t bg bq ba bm qp Fq { s with Gs:=setW s.Gs g k }∧Kept [bg] w (w.setCell ⟨bg,g*2+1,none⟩ (.int .i64 k)):=by
 have hkp:Kept [bg] w (w.setCell ⟨bg,g*2+1,none⟩ (.int .i64 k)):=(Kept.refl _ _).setCell (Or.inl (by simp)) _
 have i:=h.lt
 have ne:=h.ne
 have e0:t∉[bg]:=by simp;omega
 have e2:bq∉[bg]:=by simp;omega
 have e3:ba∉[bg]:=by simp;omega
 have e4:bm∉[bg]:=by simp;omega
 have hn:TSt.n { s with Gs:=setW s.Gs g k }=s.n:=setW_len _ _ _
 refine ⟨?_,hkp⟩
 constructor
 case g0=>rw [hn];exact h.g0.imp fun c q=>hkp.cellAt q e0
 case g1=>rw [hn];exact h.g1.imp fun c q=>hkp.cellAt q e0
 case g2=>rw [hn];exact h.g2.imp fun c q=>hkp.cellAt q e0
 case g3=>exact hkp.cellAt h.g3 e0
 case g4=>exact hkp.cellAt h.g4 e0
 case gc =>
  intro j hj
  rw [hn] at hj
  obtain ⟨c0,c1⟩:=h.gc j hj
  by_cases q:j=g
  ·subst q
   simp only
   rw [setW_same hj]
   exact ⟨cell_set_ne c0 (Or.inr (by omega)),cell_set_eq c1⟩
  ·simp only
   rw [setW_other q]
   exact ⟨cell_set_ne c0 (Or.inr (by omega)),cell_set_ne c1 (Or.inr (by omega))⟩
 case gz=>exact fun j=>by rw [World.frozen?_setCell];exact h.gz j
 case qc=>rw [hn];exact fun j hl=>hkp.cellAt (h.qc j hl) e2
 case qz=>exact fun j=>hkp.frz (h.qz j) i.2.2.1 e2
 case ac=>rw [hn];exact fun j hl=>⟨hkp.cellAt (h.ac j hl).1 e3,hkp.cellAt (h.ac j hl).2.1 e3,hkp.cellAt (h.ac j hl).2.2 e3⟩
 case az=>exact fun j=>hkp.frz (h.az j) i.2.2.2.1 e3
 case map=>exact h.map.kept hkp e4
 case q=>rw [hn];exact fun j hl=>(h.q j hl).kept hkp fun b hb m=>by simp at m;subst m;exact h.off j hl _ hb (by simp)
 case nod=>exact h.nod
 case off=>rw [hn];exact h.off
 case dis=>rw [hn];exact h.dis
 case right=>exact h.right.setW hg h0 hk
 case cr0=>exact h.cr0
 case aok=>rw [hn];exact h.aok
 case tok=>rw [hn];exact h.tok
 case keys=>exact h.keys
 case tid=>exact h.tid
def pregC (s:TSt) (g k:Int):Int:=if hasV (s.n:Int) g=true∧g≠0 then (if Ch.Ok (s.A g.toNat).1 (s.A g.toNat).2.1 (s.A g.toNat).2.2∧wgOk k then 0 else 2) else 2
def pregS (s:TSt) (g k:Int):TSt:=if pregC s g k=0 then wgQ k { s with A:=upd s.A g.toNat (wghX k (s.A g.toNat)),Gs:=setW s.Gs g.toNat k } (parG s.Gs g.toNat) (65536+(g.toNat:Nat)) else s
set_option maxRecDepth 100000 in
set_option maxHeartbeats 4000000 in
theorem pRegroup_at {t:Nat} {F:List Nat} {s:TSt} (g k:Int) (w:World) (h:TreeIn w t F s) (hk:(Lit.int .i64 k).wf=true) :
  Calls Tryz.prog 38 #[.pointer (some ⟨t,0,none⟩),.int .i64 g,.int .i64 k] w (TDid w t F (.int .i64 (pregC s g k)) (pregS s g k)):=by
 have HT:=Lib.hid h
 obtain ⟨bg,bq,ba,bm,qp,Fq,hr,rfl⟩:=h
 have A1:=Lib.hid (psome_at hr)
 have A2:=Lib.hid (phas_at g hr)
 have HR:=Lib.hid hr
 clear hr
 cases hh:hasV (s.n:Int) g with
 | false =>
  have HC:=Lib.hid (show pregC s g k=2 by unfold pregC;rw [hh,if_neg (by simp)])
  have HS:=Lib.hid (show pregS s g k=s by unfold pregS;rw [HC.out];rfl)
  rw [HC.out,HS.out]
  rw [hh] at A2
  clear hh
  go_enter Tryz.func38,Tryz.ntmps38
  go_wp2_with fail
  refine A1.out.mono ?_;rintro e w5 ⟨rfl,rfl⟩
  go_wp2_with fail
  refine A2.out.mono ?_;rintro e w5 ⟨rfl,rfl⟩
  go_wp2_with fail
  go_ret
  exact ⟨rfl,TAfter.same HT.out (Below.refl _ _)⟩
 | true =>
  rw [hh] at A2
  have hgb:0≤g∧g<(s.n:Int):=by unfold hasV at hh;simpa using hh
  obtain ⟨gn,rfl⟩:∃ gn:Nat,g=gn:=⟨g.toNat,by omega⟩
  have hgn:gn<s.n:=by omega
  have hgi:=hgb.2
  by_cases hz:gn=0
  ·subst hz
   have HC:=Lib.hid (show pregC s ((0:Nat):Int) k=2 by unfold pregC;rw [if_neg (by simp)])
   have HS:=Lib.hid (show pregS s ((0:Nat):Int) k=s by unfold pregS;rw [HC.out];rfl)
   rw [HC.out,HS.out]
   clear hh hgb
   go_enter Tryz.func38,Tryz.ntmps38
   go_wp2_with fail
   refine A1.out.mono ?_;rintro e w5 ⟨rfl,rfl⟩
   go_wp2_with fail
   refine A2.out.mono ?_;rintro e w5 ⟨rfl,rfl⟩
   go_wp2_with fail
   go_ret
   exact ⟨rfl,TAfter.same HT.out (Below.refl _ _)⟩
  ·have y1:((gn:Int) == 0)=false:=beq_eq_false_iff_ne.2 (by omega)
   obtain ⟨c2,q2⟩:=HR.out.g2
   obtain ⟨a0,a1,a2⟩:=HR.out.ac gn hgn
   by_cases ho:Ch.Ok (s.A gn).1 (s.A gn).2.1 (s.A gn).2.2∧wgOk k
   ·have HC:=Lib.hid (show pregC s (gn:Int) k=0 by unfold pregC;rw [if_pos ⟨hh,by omega⟩,Int.toNat_natCast,if_pos ho])
    have HS:=Lib.hid (show pregS s (gn:Int) k=wgQ k { s with A:=upd s.A gn (wghX k (s.A gn)),Gs:=setW s.Gs gn k } (parG s.Gs gn) (65536+(gn:Nat)) by unfold pregS;rw [HC.out];rfl)
    have A3:=Lib.hid fun W=>Weigh_ok (s.A gn).1 (s.A gn).2.1 (s.A gn).2.2 k W ho.1 ho.2
    rw [HC.out,HS.out]
    have HGN:=Lib.hid hgn
    have HZ:=Lib.hid hz
    have HO:=Lib.hid ho
    clear hh hgb hz ho hgn
    go_enter Tryz.func38,Tryz.ntmps38
    go_wp2_with fail
    refine A1.out.mono ?_;rintro e w5 ⟨rfl,rfl⟩
    go_wp2_with fail
    refine A2.out.mono ?_;rintro e w5 ⟨rfl,rfl⟩
    go_wp2_with fail
    refine (A3.out _).mono ?_;rintro e w5 ⟨rfl,hb5⟩
    go_wp2_with fail
    refine wp_world (fun W6 hW6=>?_)
    have hb6:Below w.heap.size w W6:=by rw [hW6];exact Below.allocS hb5 _
    obtain ⟨b6,hb6n⟩:∃ b,b=w5.heap.size:=⟨_,rfl⟩
    rw [← hb6n]
    have x0:W6.cell? ⟨b6,0,none⟩=some (.int .u64 (s.A gn).1):=by rw [hW6];exact cell_nwE hb6n _ _ 0 _ rfl
    have x1:W6.cell? ⟨b6,1,none⟩=some (.int .u32 0):=by rw [hW6];exact cell_nwE hb6n _ _ 1 _ rfl
    have x2:W6.cell? ⟨b6,2,none⟩=some (.int .u32 k):=by rw [hW6];exact cell_nwE hb6n _ _ 2 _ rfl
    have hr6:=HR.out.below hb6
    have lts:=HR.out.lt
    have ne:=HR.out.ne
    have hs5:=hb5.size
    replace q2:=cell_later hb6 q2
    replace a0:=cell_later hb6 a0
    replace a1:=cell_later hb6 a1
    replace a2:=cell_later hb6 a2
    have fa0:=hr6.az (gn*3)
    have fa1:=hr6.az (gn*3+1)
    have fa2:=hr6.az (gn*3+2)
    have mx:b6∉[ba]:=by simp;omega
    have mt:t∉[ba]:=by simp;omega
    have HR6:=Lib.hid hr6
    have HB6:=Lib.hid hb6
    clear hW6 hb6 hb5 hs5 hb6n lts hr6 ne
    refine startA (S:=fun w'=>Kept [ba] W6 w'∧w'.cell? ⟨b6,0,none⟩=some (.int .u64 (s.A gn).1)∧w'.cell? ⟨b6,1,none⟩=some (.int .u32 0)∧w'.cell? ⟨b6,2,none⟩=some (.int .u32 k)∧w'.cell? ⟨t,2,none⟩=some (.slice (some ⟨ba,0,none⟩) s.n c2)) ⟨Kept.refl _ _,x0,x1,x2,q2⟩ (fun h=>heldK_4 (kept_dr _ _) h) (fun hS0 hHeld=>?_)
    refine takeA 0 ?_
    refine takeA 1 ?_
    refine takeA 2 ?_
    refine takeA 3 ?_
    refine takeA 4 ?_
    refine takeA 5 ?_
    refine takeA 6 ?_
    refine readyA [7] (consA (fun K hK=>?_) .nil)
    go_simp
    have hk7:=set3_kept W6.drew ba (gn*3) ((s.A gn).1,0,k)
    unfold set3 at hk7
    refine outA hK kpK_4 (fun hHeld7=>?_)
    clear hK K
    refine doneA ?_
    skip
    refine q_world (fun W7 hW7=>?_)
    have hx:Ch.Fits (s.A gn).1 0 k:=(okW (y:=s.A gn) HO.out.1 HO.out.2).fits
    have hr7:=(HR6.out.aside (x:=((s.A gn).1,0,k)) HGN.out hx).below (Below.refl _ _).drew
    have hk7':Kept [ba] W6 (set3 W6 ba (gn*3) ((s.A gn).1,0,k)).drew:=(set3_kept W6 ba (gn*3) ((s.A gn).1,0,k)).drew
    unfold set3 at hr7 hk7'
    rw [← hW7] at hr7 hk7'
    obtain ⟨c0,g0⟩:=hr7.g0
    have gw:=(hr7.gc gn HGN.out).2
    have gf:=hr7.gz (gn*2+1)
    have HR7:=Lib.hid hr7
    have HK7:=Lib.hid hk7'
    clear hS0 hHeld hr7 hk7' hW7 hx fa0 fa1 fa2 mx mt x0 x1 x2 a0 a1 a2 q2
    go_wp2_with fail
    refine wp_world (fun W8 hW8=>?_)
    obtain ⟨hr8,hk8⟩:=HR7.out.regroup (k:=k) HGN.out (by have:=HZ.out;omega) HO.out.2
    rw [← hW8] at hr8 hk8
    have hgl:gn<s.Gs.length:=HGN.out
    have hpar:=HR6.out.right.par hgl
    have hpn:parG s.Gs gn<s.n:=by have:s.n=s.Gs.length:=rfl;omega
    have hn8:TSt.n { s with A:=upd s.A gn (wghX k (s.A gn)),Gs:=setW s.Gs gn k }=s.n:=setW_len _ _ _
    have hr8':TRaw W8 t bg bq ba bm qp Fq { s with A:=upd s.A gn (wghX k (s.A gn)),Gs:=setW s.Gs gn k }:=hr8
    obtain ⟨c1,q1⟩:=hr8'.g1
    obtain ⟨c3,q0⟩:=hr8'.g0
    rw [hn8] at q0 q1
    have gp:=(hr8'.gc gn (by rw [hn8];exact HGN.out)).1
    simp only at gp
    rw [setW_same hgl] at gp
    simp only at gp
    rw [← hpar.1] at gp
    have q4:=hr8'.qc (parG s.Gs gn) (by rw [hn8];exact hpn)
    have hof:=hr8'.off (parG s.Gs gn) (by rw [hn8];exact hpn)
    have nt:t∉Fq (parG s.Gs gn):=fun m=>hof t m (by simp)
    have ng:bg∉Fq (parG s.Gs gn):=fun m=>hof bg m (by simp)
    have nq:bq∉Fq (parG s.Gs gn):=fun m=>hof bq m (by simp)
    have z3:IntKind.i64.wrap (65536+(gn:Int))=65536+(gn:Int):=IntWalk.i64_in _ (by have:=HR6.out.pos;omega)
    have HID:=Lib.hid (show (Lit.int .i64 (65536+(gn:Int))).wf=true from wfI (by omega) (by have:=HR6.out.pos;omega))
    have hpi:(parG s.Gs gn:Int)<(s.n:Int):=by omega
    have HQ:=Lib.hid (show QIn W8.drew (qp (parG s.Gs gn)) (Fq (parG s.Gs gn)) qN (s.M (parG s.Gs gn)) (s.fl (parG s.Gs gn)) from (hr8'.q _ (by rw [hn8];exact hpn)).below (Below.refl _ _).drew)
    have HR8:=Lib.hid hr8'
    have HS8:=Lib.hid (show Step (TF t bg bq ba bm Fq s.n) w (TF t bg bq ba bm Fq s.n) W8 from ((Step.of HB6.out).trans (Step.inn HK7.out (fun b hb=>by simp at hb;subst hb;exact tf_own (by simp)))).trans (Step.inn hk8 (fun b hb=>by simp at hb;subst hb;exact tf_own (by simp))))
    have HPN:=Lib.hid hpn
    have HN8:=Lib.hid hn8
    clear hr8 hr8' hk8 hW8 hof hpar hpn hn8 g0 gw gf
    generalize parG s.Gs gn=p at *
    refine startA (S:=fun w'=>Kept (Fq p) W8 w'∧w'.cell? ⟨t,1,none⟩=some (.slice (some ⟨bq,0,none⟩) s.n c1)∧w'.cell? ⟨t,0,none⟩=some (.slice (some ⟨bg,0,none⟩) s.n c3)∧w'.cell? ⟨bg,gn*2,none⟩=some (.int .i64 (p:Nat))∧w'.cell? ⟨bq,p,none⟩=some (.pointer (some ⟨qp p,0,none⟩))) ⟨Kept.refl _ _,q1,q0,gp,q4⟩ (fun h=>heldK_4 (kept_dr _ _) h) (fun hS0 hHeld=>?_)
    refine takeA 0 ?_
    refine takeA 1 ?_
    refine takeA 2 ?_
    refine takeA 3 ?_
    refine takeA 4 ?_
    refine takeA 5 ?_
    refine takeA 6 ?_
    refine takeA 7 ?_
    refine takeA 8 ?_
    refine takeA 9 ?_
    refine takeA 10 ?_
    refine takeA 11 ?_
    refine takeA 12 ?_
    refine takeA 13 ?_
    refine takeA 14 ?_
    refine takeA 15 ?_
    refine takeA 16 ?_
    refine readyA [17] (consA (fun K hK=>?_) .nil)
    go_simp
    refine (Weigh_at (65536+(gn:Int)) k _ HQ.out HID.out).mono ?_
    rintro e w9 ⟨rfl,hA9⟩
    obtain ⟨F9,h9,s9⟩:=hA9
    have hk9:Kept (Fq p) W8.drew w9:=s9.kept
    go_wp2_with fail
    refine outA hK kpK_4 (fun hHeld17=>?_)
    clear hK K
    refine doneA ?_
    skip
    obtain ⟨hr9,hs9⟩:=(HR8.out.below (Below.refl W8.heap.size W8).drew).queue (g:=p) (by rw [HN8.out];exact HPN.out) h9 s9
    rw [HN8.out] at hs9
    have HT9:=Lib.hid (show TAfter w t (TF t bg bq ba bm Fq s.n) (wgQ k { s with A:=upd s.A gn (wghX k (s.A gn)),Gs:=setW s.Gs gn k } p (65536+(gn:Nat))) w9 from
     ⟨TF t bg bq ba bm (upd Fq p F9) s.n,⟨bg,bq,ba,bm,qp,upd Fq p F9,hr9,by rw [show TSt.n (wgQ k { s with A:=upd s.A gn (wghX k (s.A gn)),Gs:=setW s.Gs gn k } p (65536+(gn:Nat)))=s.n from HN8.out]⟩,HS8.out.trans ((Step.of (Below.refl W8.heap.size W8).drew).trans hs9)⟩)
    clear hS0 hHeld hk9 h9 s9 hr9 hs9
    go_wp2_with fail
    go_ret
    exact ⟨rfl,HT9.out⟩
   ·have HC:=Lib.hid (show pregC s (gn:Int) k=2 by unfold pregC;rw [if_pos ⟨hh,by omega⟩,Int.toNat_natCast,if_neg ho])
    have HS:=Lib.hid (show pregS s (gn:Int) k=s by unfold pregS;rw [HC.out];rfl)
    have A3:=Lib.hid fun W=>Weigh_bad (s.A gn).1 (s.A gn).2.1 (s.A gn).2.2 k W (HR.out.aok gn hgn) ho
    rw [HC.out,HS.out]
    clear hh hgb hz ho hgn
    go_enter Tryz.func38,Tryz.ntmps38
    go_wp2_with fail
    refine A1.out.mono ?_;rintro e w5 ⟨rfl,rfl⟩
    go_wp2_with fail
    refine A2.out.mono ?_;rintro e w5 ⟨rfl,rfl⟩
    go_wp2_with fail
    refine (A3.out _).mono ?_;rintro e w5 ⟨rfl,hb5⟩
    go_wp2_with fail
    go_ret
    exact ⟨rfl,TAfter.same HT.out (Below.allocS hb5 _)⟩
theorem step_append_own2 {P:Program} {ops:Array Oper} {o:Oper} {a:Act} {w:World} {K:Act→World→Prop} {Q:Exit→Act→World→Prop} {E:Prop}
  (hg:o.guard=none) (s x:Operand) (t:TypeId) (hop:o.op=Op.call { callee:=Callee.builtin Builtin.append,args:=#[s,x],argTypes:=#[t,t] })
  (base:Nat) (e:TypeId) (i:TypeInfo) (z:Value) (size bytes:Nat) (h1:P.underlying t=some (.slice e)) (h2:P.info? e=some i) (h3:i.zero=some z) (h4:i.size=size) (h5:i.bytes=bytes) (h6:z.cells.size=size) (h7:0<size)
  (v:Value) (n:Nat) (xs:List Value) (hs:a.eval s=v) (hown:w.ownsRow base e size v n xs)
  (ad:Addr) (m c:Nat) (news:List Value) (hx:a.eval x=.slice (some ad) m c) (hn:news.length=m*size) (hc:∀ j u,news[j]?=some u→w.cell? (ad.add j)=some u) (h1c:∀ u∈news,u.oneCell'=true)
  (b1:n+m≤maxLen) (b2:(n+m)*bytes≤140737488355328) (hbase:base≤w.heap.size) (hm:0<m)
  (hK:∀ v' w',w'.ownsRow base e size v' (n+m) (xs++news)→w.grownBy w' v.ownBlock→(v'.ownBlock=v.ownBlock∨v'.ownBlock=some w.heap.size)→K (a.put o.dst v') w') :
  if Region.wanted o (yielded ops a.tmps)=true then Oper.wp P o a w K Q else E:=by
 have hw:Region.wanted o (yielded ops a.tmps)=true:=by simp [Region.wanted,hg]
 rw [if_pos hw]
 obtain ⟨v',w',hrun,r1,r2,_⟩:=run_append_own (P:=P) w base t o.type e i z size bytes h1 h2 h3 h4 h5 h6 h7 v n xs hown ad m c news hn hc h1c b1 b2 hbase
 have h8:=run_append_place (P:=P) (w:=w) base t o.type e i z size bytes h1 h2 h3 h4 h5 h6 h7 v n xs hown ad m c news hn hc h1c b1 b2 hm hrun
 unfold Oper.wp
 simp [execOp,hop,resolve,invoke,builtin,hs,hx,hrun,Result.andThen]
 exact hK v' w' r1 r2 h8
def GCloneP (Gs:Grps) (w:World) (e:Ending) (w':World):Prop:=
 ∃ g cap,e=.returned (.slice (some ⟨g,0,none⟩) Gs.length cap)∧w'.ownsRow w.heap.size 53 2 (.slice (some ⟨g,0,none⟩) Gs.length cap) Gs.length (flatR encG Gs)∧Below w.heap.size w w'
set_option maxRecDepth 100000 in
set_option maxHeartbeats 1000000 in
theorem GClone_at (v:Value) (Gs:Grps) (w:World) (h:RecsAt encG w v Gs) (h0:0<Gs.length) (h1:Gs.length≤256):Calls Tryz.prog 56 #[v] w (GCloneP Gs w):=by
 obtain ⟨i0,hi,hz0,hz1,hz2⟩:=info_parts infoGroup
 have hs:=@Lib.run_eql_slice_nil Tryz.prog
 obtain ⟨a,cap,rfl,hl1,hl2,hl3,hcells⟩:=h
 obtain ⟨b,off,rfl,hc⟩:∃ b off,a=some ⟨b,off,none⟩∧∀ j u,(flatR encG Gs)[j]?=some u→w.cell? ⟨b,off+j,none⟩=some u:=by
  rcases hcells with q | q
  ·rw [q] at h0;simp at h0
  ·exact q
 have HC:=Lib.hid hc
 clear hcells hc
 obtain ⟨n,hn⟩:∃ n,n=Gs.length:=⟨_,rfl⟩
 have HN:=Lib.hid hn
 unfold GCloneP
 rw [← hn] at h0 h1 hl1 ⊢
 clear hn
 go_enter Tryz.func56,Tryz.ntmps56
 go_wp2_with (at_builtin;refine wpList_append_own _ rfl _ _ 27 rfl w.heap.size 53 i0 (.agg #[.int .i64 0,.int .i64 0]) 2 16 Tryz.underlying27 hi hz0 hz1 hz2 rfl (by decide) _ 0 [] rfl (World.ownsRow_lit w #[] 0 (Nat.le_refl _) (by unfold maxLen;omega) rfl) ⟨b,off,none⟩ n cap (flatR encG Gs) rfl ?c1 ?c2 (flatR_one encG_ok Gs) ?c3 ?c4 ?c5 ?_)
 case c1=>rw [flatR_len encG_ok,HN.out]
 case c2=>exact fun j u hu=>by first | exact cell_al _ (HC.out j u hu) | (rw [addN];exact cell_al _ (HC.out j u hu))
 case c3=>unfold maxLen;omega
 case c4=>omega
 case c5=>simp
 intro v' w1 hown hgrow _
 have hbw:Below w.heap.size w w1:=(Below.allocS (Below.refl _ _) _).grown hgrow (by simp) (fun k hk=>by cases hk;exact Nat.le_refl _)
 obtain ⟨g',cap',rfl⟩:∃ g' cap',v'=.slice (some ⟨g',0,none⟩) n cap':=by
  rcases hown.2 with ⟨_,h⟩ | ⟨g',cap',_,rfl,_⟩
  ·omega
  ·exact ⟨g',cap',rfl⟩
 have HO:=Lib.hid hown
 clear hown hgrow
 go_wp2_with fail
 go_ret
 exact ⟨g',cap',rfl,HO.out,hbw⟩
theorem own_kept {w w':World} {base e size:Nat} {v:Value} {n:Nat} {xs:List Value} {S:List Nat} (h:w.ownsRow base e size v n xs) (hk:Kept S w w') (hn:∀ b,v.ownBlock=some b→b∉S):w'.ownsRow base e size v n xs:=by
 obtain ⟨h1,h2⟩:=h
 refine ⟨h1,?_⟩
 rcases h2 with h2 | ⟨g,cap,cur,rfl,h3,h4,h5⟩
 ·exact Or.inl h2
 ·exact Or.inr ⟨g,cap,cur,rfl,h3,(hk.block g (Array.getElem?_eq_some_iff.1 h4).1 (hn g rfl)).trans h4,h5⟩
def encX3 (x:Ent):List Value:=[.int .u64 x.1,.int .u32 x.2.1,.int .u32 x.2.2]
theorem encX3_ok:Enc encX3 3:=⟨fun _=>rfl,fun x u hu=>by simp [encX3] at hu;rcases hu with rfl | rfl | rfl <;> rfl,by decide⟩
theorem infoE:(Tryz.prog.info? 40).map (fun i=>(i.zero,i.size,i.bytes))=some (some (.agg #[.int .u64 0,.int .u32 0,.int .u32 0]),3,16):=by kernel_rfl
theorem infoQ:(Tryz.prog.info? 99).map (fun i=>(i.zero,i.size,i.bytes))=some (some (.pointer none),1,8):=by kernel_rfl
def newA (Gs:Grps) (k:Nat):Ent:=(0,0,Gs[k]!.2)
def ptrsN (qp:Nat→Nat) (k:Nat):List Value:=(List.range k).map fun j=>.pointer (some ⟨qp j,0,none⟩)
def asideN (Gs:Grps) (k:Nat):List Value:=flatR encX3 ((List.range k).map (newA Gs))
structure NRaw (base:Nat) (wr:World) (t bg bm gcap:Nat) (v1 v2:Value) (qp:Nat→Nat) (Fq:Nat→List Nat) (Gs:Grps) (cr:Int) (k m:Nat):Prop where
 g0:wr.cell? ⟨t,0,none⟩=some (.slice (some ⟨bg,0,none⟩) Gs.length gcap)
 g1:wr.cell? ⟨t,1,none⟩=some v1
 g2:wr.cell? ⟨t,2,none⟩=some v2
 g3:wr.cell? ⟨t,3,none⟩=some (.map (some bm))
 g4:wr.cell? ⟨t,4,none⟩=some (.int .u64 cr)
 fr:∀ j,wr.frozen? ⟨t,j,none⟩=false
 own0:wr.ownsRow base 53 2 (.slice (some ⟨bg,0,none⟩) Gs.length gcap) Gs.length (flatR encG Gs)
 own1:wr.ownsRow base 99 1 v1 k (ptrsN qp k)
 own2:wr.ownsRow base 40 3 v2 m (asideN Gs m)
 map:MapF wr bm (fun _=>none) 0
 q:∀ j,j<k→QIn wr (qp j) (Fq j) qN [] 0
 ge:base≤t∧base≤bm∧∀ j,j<k→∀ b∈Fq j,base≤b
 nd:t≠bg∧t≠bm∧bg≠bm
 n1:∀ b,v1.ownBlock=some b→b≠t∧b≠bg∧b≠bm
 n2:∀ b,v2.ownBlock=some b→b≠t∧b≠bg∧b≠bm∧v1.ownBlock≠some b
 off:∀ j,j<k→∀ b∈Fq j,b≠t∧b≠bg∧b≠bm∧v1.ownBlock≠some b∧v2.ownBlock≠some b
 dis:∀ i j,i<k→j<k→i≠j→∀ b∈Fq i,b∉Fq j
theorem ptrs_snoc (qp:Nat→Nat) (k q:Nat):ptrsN (upd qp k q) (k+1)=ptrsN qp k++[.pointer (some ⟨q,0,none⟩)]:=by
 unfold ptrsN
 rw [List.range_succ,List.map_append]
 congr 1
 ·refine List.map_congr_left fun j hj=>?_
  rw [upd_other _ _ (by have:=List.mem_range.1 hj;omega)]
 ·simp [upd_same]
theorem aside_snoc (Gs:Grps) (m:Nat):asideN Gs (m+1)=asideN Gs m++encX3 (newA Gs m):=by
 unfold asideN
 rw [List.range_succ,List.map_append,flatR_app]
 simp [flatR]
theorem grown_kept {w w':World} {o:Option Nat} (h:w.grownBy w' o):Kept o.toList w w':=(Kept.refl _ _).grown h fun k e=>Or.inl (by rw [e];simp)
section
variable {base:Nat} {wr w' w1:World} {t bg bm gcap:Nat} {v1 v2:Value} {qp:Nat→Nat} {Fq:Nat→List Nat} {Gs:Grps} {cr:Int} {k m:Nat}
theorem NRaw.lt (h:NRaw base wr t bg bm gcap v1 v2 qp Fq Gs cr k m):t<wr.heap.size∧bg<wr.heap.size∧bm<wr.heap.size:=⟨lt_of_cell h.g3,(h.own0.lt bg rfl).2,h.map.lt⟩
theorem NRaw.below (h:NRaw base wr t bg bm gcap v1 v2 qp Fq Gs cr k m) (hb:Below wr.heap.size wr w'):NRaw base w' t bg bm gcap v1 v2 qp Fq Gs cr k m:=
 {h with
  g0:=cell_later hb h.g0,g1:=cell_later hb h.g1,g2:=cell_later hb h.g2,g3:=cell_later hb h.g3,g4:=cell_later hb h.g4
  fr:=fun j=>frz_later hb (h.fr j) h.lt.1
  own0:=own_below h.own0 hb,own1:=own_below h.own1 hb,own2:=own_below h.own2 hb,map:=h.map.below hb,q:=fun j hj=>(h.q j hj).below hb }
theorem NRaw.queue {v1':Value} {q:Nat} {F:List Nat} (h:NRaw base wr t bg bm gcap v1 v2 qp Fq Gs cr k m) (hq:QIn wr q F qN [] 0) (hF:∀ b∈F,base≤b∧b≠t∧b≠bg∧b≠bm∧v1.ownBlock≠some b∧v2.ownBlock≠some b∧∀ j,j<k→b∉Fq j)
  (hg:wr.grownBy w1 v1.ownBlock) (ho:w1.ownsRow base 99 1 v1' (k+1) (ptrsN qp k++[.pointer (some ⟨q,0,none⟩)])) (hp:v1'.ownBlock=v1.ownBlock∨v1'.ownBlock=some wr.heap.size) :
  (w1.cell? ⟨t,1,none⟩=some v1∧w1.frozen? ⟨t,1,none⟩=false)∧NRaw base (w1.setCell ⟨t,1,none⟩ v1') t bg bm gcap v1' v2 (upd qp k q) (upd Fq k F) Gs cr (k+1) m:=by
 have hk:=grown_kept hg
 have hk2:Kept [t] w1 (w1.setCell ⟨t,1,none⟩ v1'):=(Kept.refl _ _).setCell (Or.inl (by simp)) _
 have lt:=h.lt
 have n1:=h.n1
 have n2:=h.n2
 have nd:=h.nd
 have mt:t∉v1.ownBlock.toList:=fun m=>(n1 t (by simpa using m)).1 rfl
 have mg:bg∉v1.ownBlock.toList:=fun m=>(n1 bg (by simpa using m)).2.1 rfl
 have mm:bm∉v1.ownBlock.toList:=fun m=>(n1 bm (by simpa using m)).2.2 rfl
 have c1:=hk.cellAt h.g1 mt
 have nw:∀ b,v1'.ownBlock=some b→v1.ownBlock=some b∨b=wr.heap.size:=fun b e=>by
  rcases hp with q | q
  ·exact Or.inl (q ▸ e)
  ·rw [q] at e;cases e;exact Or.inr rfl
 have nv:∀ b,v1'.ownBlock=some b→b≠t∧b≠bg∧b≠bm:=fun b e=>by
  rcases nw b e with q | q
  ·exact n1 b q
  ·omega
 have hlq:∀ j,j<k→∀ b∈Fq j,b<wr.heap.size:=fun j hj=>(h.q j hj).lt
 have hlF:=hq.lt
 have lv2:∀ b,v2.ownBlock=some b→b<wr.heap.size:=fun b e=>(h.own2.lt b e).2
 refine ⟨⟨c1,hk.frz (h.fr 1) lt.1 mt⟩,?_⟩
 exact
 {g0:=cell_set_ne (hk.cellAt h.g0 mt) (Or.inr (by decide)),g1:=cell_set_eq c1,g2:=cell_set_ne (hk.cellAt h.g2 mt) (Or.inr (by decide)),g3:=cell_set_ne (hk.cellAt h.g3 mt) (Or.inr (by decide)),g4:=cell_set_ne (hk.cellAt h.g4 mt) (Or.inr (by decide))
  fr:=fun j=>by rw [World.frozen?_setCell];exact hk.frz (h.fr j) lt.1 mt
  own0:=own_kept (own_kept h.own0 hk fun b e=>by cases e;exact mg) hk2 fun b e=>by cases e;simp;exact Ne.symm nd.1
  own1:=by rw [ptrs_snoc];exact own_kept ho hk2 fun b e=>by have:=(nv b e).1;simp;exact this
  own2:=own_kept (own_kept h.own2 hk fun b e m=>(n2 b e).2.2.2 (by simpa using m)) hk2 fun b e=>by have:=(n2 b e).1;simp;exact this
  map:=(h.map.kept hk mm).kept hk2 (by simp;exact Ne.symm nd.2.1)
  q:=fun j hj=>by
   by_cases e:j=k
   ·subst e
    rw [upd_same,upd_same]
    exact (hq.kept hk fun b hb m=>(hF b hb).2.2.2.2.1 (by simpa using m)).kept hk2 fun b hb m=>(hF b hb).2.1 (by simpa using m)
   ·rw [upd_other _ _ e,upd_other _ _ e]
    have hj':j<k:=by omega
    exact ((h.q j hj').kept hk fun b hb m=>(h.off j hj' b hb).2.2.2.1 (by simpa using m)).kept hk2 fun b hb m=>(h.off j hj' b hb).1 (by simpa using m)
  ge:=⟨h.ge.1,h.ge.2.1,fun j hj b hb=>by
   by_cases e:j=k
   ·subst e;rw [upd_same] at hb;exact (hF b hb).1
   ·rw [upd_other _ _ e] at hb;exact h.ge.2.2 j (by omega) b hb⟩
  nd:=nd
  n1:=nv
  n2:=fun b e=>⟨(n2 b e).1,(n2 b e).2.1,(n2 b e).2.2.1,fun e'=>by
   rcases nw b e' with q | q
   ·exact (n2 b e).2.2.2 q
   ·have:=lv2 b e;omega⟩
  off:=fun j hj b hb=>by
   by_cases e:j=k
   ·subst e
    rw [upd_same] at hb
    have i:=hF b hb
    exact ⟨i.2.1,i.2.2.1,i.2.2.2.1,fun e'=>by
     rcases nw b e' with q | q
     ·exact i.2.2.2.2.1 q
     ·have:=hlF b hb;omega,i.2.2.2.2.2.1⟩
   ·rw [upd_other _ _ e] at hb
    have i:=h.off j (by omega) b hb
    exact ⟨i.1,i.2.1,i.2.2.1,fun e'=>by
     rcases nw b e' with q | q
     ·exact i.2.2.2.1 q
     ·have:=hlq j (by omega) b hb;omega,i.2.2.2.2⟩
  dis:=fun i j hi hj hij b hb=>by
   by_cases e:i=k
   ·subst e
    rw [upd_same] at hb
    rw [upd_other _ _ (Ne.symm hij)]
    exact (hF b hb).2.2.2.2.2.2 j (by omega)
   ·rw [upd_other _ _ e] at hb
    by_cases e':j=k
    ·subst e'
     rw [upd_same]
     exact fun m=>(hF b m).2.2.2.2.2.2 i (by omega) hb
    ·rw [upd_other _ _ e']
     exact h.dis i j (by omega) (by omega) hij b hb }
theorem NRaw.spot {v2':Value} (h:NRaw base wr t bg bm gcap v1 v2 qp Fq Gs cr k m)
  (hg:wr.grownBy w1 v2.ownBlock) (ho:w1.ownsRow base 40 3 v2' (m+1) (asideN Gs m++encX3 (newA Gs m))) (hp:v2'.ownBlock=v2.ownBlock∨v2'.ownBlock=some wr.heap.size) :
  (w1.cell? ⟨t,2,none⟩=some v2∧w1.frozen? ⟨t,2,none⟩=false)∧NRaw base (w1.setCell ⟨t,2,none⟩ v2') t bg bm gcap v1 v2' qp Fq Gs cr k (m+1):=by
 have hk:=grown_kept hg
 have hk2:Kept [t] w1 (w1.setCell ⟨t,2,none⟩ v2'):=(Kept.refl _ _).setCell (Or.inl (by simp)) _
 have lt:=h.lt
 have n1:=h.n1
 have n2:=h.n2
 have nd:=h.nd
 have mt:t∉v2.ownBlock.toList:=fun m=>(n2 t (by simpa using m)).1 rfl
 have mg:bg∉v2.ownBlock.toList:=fun m=>(n2 bg (by simpa using m)).2.1 rfl
 have mm:bm∉v2.ownBlock.toList:=fun m=>(n2 bm (by simpa using m)).2.2.1 rfl
 have c1:=hk.cellAt h.g2 mt
 have nw:∀ b,v2'.ownBlock=some b→v2.ownBlock=some b∨b=wr.heap.size:=fun b e=>by
  rcases hp with q | q
  ·exact Or.inl (q ▸ e)
  ·rw [q] at e;cases e;exact Or.inr rfl
 have lv1:∀ b,v1.ownBlock=some b→b<wr.heap.size:=fun b e=>(h.own1.lt b e).2
 have nv:∀ b,v2'.ownBlock=some b→b≠t∧b≠bg∧b≠bm∧v1.ownBlock≠some b:=fun b e=>by
  rcases nw b e with q | q
  ·exact n2 b q
  ·exact ⟨by omega,by omega,by omega,fun e'=>by have:=lv1 b e';omega⟩
 have hlq:∀ j,j<k→∀ b∈Fq j,b<wr.heap.size:=fun j hj=>(h.q j hj).lt
 refine ⟨⟨c1,hk.frz (h.fr 2) lt.1 mt⟩,?_⟩
 exact
 {g0:=cell_set_ne (hk.cellAt h.g0 mt) (Or.inr (by decide)),g1:=cell_set_ne (hk.cellAt h.g1 mt) (Or.inr (by decide)),g2:=cell_set_eq c1,g3:=cell_set_ne (hk.cellAt h.g3 mt) (Or.inr (by decide)),g4:=cell_set_ne (hk.cellAt h.g4 mt) (Or.inr (by decide))
  fr:=fun j=>by rw [World.frozen?_setCell];exact hk.frz (h.fr j) lt.1 mt
  own0:=own_kept (own_kept h.own0 hk fun b e=>by cases e;exact mg) hk2 fun b e=>by cases e;simp;exact Ne.symm nd.1
  own1:=own_kept (own_kept h.own1 hk fun b e m=>(n2 b (by simpa using m)).2.2.2 e) hk2 fun b e=>by have:=(n1 b e).1;simp;exact this
  own2:=by rw [aside_snoc];exact own_kept ho hk2 fun b e=>by have:=(nv b e).1;simp;exact this
  map:=(h.map.kept hk mm).kept hk2 (by simp;exact Ne.symm nd.2.1)
  q:=fun j hj=>((h.q j hj).kept hk fun b hb m=>(h.off j hj b hb).2.2.2.2 (by simpa using m)).kept hk2 fun b hb m=>(h.off j hj b hb).1 (by simpa using m)
  ge:=h.ge
  nd:=nd
  n1:=n1
  n2:=nv
  off:=fun j hj b hb=>by
   have i:=h.off j hj b hb
   exact ⟨i.1,i.2.1,i.2.2.1,i.2.2.2.1,fun e'=>by
    rcases nw b e' with q | q
    ·exact i.2.2.2.2 q
    ·have:=hlq j hj b hb;omega⟩
  dis:=h.dis }
end
theorem pNew_bad (v:Value) (Gs:Grps) (cr:Int) (w:World) (h:RecsAt encG w v Gs) (hb:¬ RightG Gs):Calls Tryz.prog 24 #[v,.int .u64 cr] w fun e w'=>e=.returned (.tuple #[.pointer none,.int .i64 2])∧Below w.heap.size w w':=by
 have A1:=gRight_at v Gs w h
 rw [show decide ((checkG Gs).2=0)=false from decide_eq_false (fun q=>hb (checkG_right.1 q))] at A1
 have A2:=Lib.hid A1
 clear A1 h hb
 go_enter Tryz.func24,Tryz.ntmps24
 go_wp2_with fail
 refine A2.out.mono ?_;rintro e w5 ⟨rfl,hb5⟩
 go_wp2_with fail
 go_ret2
 exact ⟨rfl,hb5⟩
def newT (Gs:Grps) (cr:Int):TSt:={ Gs:=Gs,M:=fun _=>[],fl:=fun _=>0,A:=newA Gs,T:=fun _=>none,c:=0,cr:=cr }
def PNewP (Gs:Grps) (cr:Int) (w:World) (e:Ending) (w':World):Prop:=∃ t F,e=.returned (.tuple #[.pointer (some ⟨t,0,none⟩),.int .i64 0])∧TreeIn w' t F (newT Gs cr)∧(∀ b∈F,w.heap.size≤b)∧Below w.heap.size w w'
theorem NRaw.done {base:Nat} {wr:World} {t bg bm gcap:Nat} {v1 v2:Value} {qp:Nat→Nat} {Fq:Nat→List Nat} {Gs:Grps} {cr:Int} (h:NRaw base wr t bg bm gcap v1 v2 qp Fq Gs cr Gs.length Gs.length) (hr:RightG Gs) (hc:0≤cr∧cr≤18446744073709551615) :
  ∃ F,TreeIn wr t F (newT Gs cr)∧∀ b∈F,base≤b:=by
 have hp:=hr.pos
 obtain ⟨n,hn⟩:∃ n,Gs.length=n+1:=⟨Gs.length - 1,by omega⟩
 obtain ⟨bq,cq,rfl⟩:∃ g c,v1=.slice (some ⟨g,0,none⟩) Gs.length c:=by
  have o:=h.own1
  rw [hn] at o ⊢
  exact own_some o
 obtain ⟨ba,ca,rfl⟩:∃ g c,v2=.slice (some ⟨g,0,none⟩) Gs.length c:=by
  have o:=h.own2
  rw [hn] at o ⊢
  exact own_some o
 have nd:=h.nd
 have n1:=h.n1 bq rfl
 have n2:=h.n2 ba rfl
 have n12:bq≠ba:=fun e=>n2.2.2.2 (by rw [e];rfl)
 refine ⟨TF t bg bq ba bm Fq Gs.length,⟨bg,bq,ba,bm,qp,Fq,?_,rfl⟩,fun b hb=>?_⟩
 ·exact
  {g0:=⟨_,h.g0⟩,g1:=⟨_,h.g1⟩,g2:=⟨_,h.g2⟩,g3:=h.g3,g4:=h.g4
   gc:=fun k hk=>by
    have hk':k<Gs.length:=hk
    have hx:Gs[k]?=some Gs[k]!:=by rw [List.getElem?_eq_getElem hk',getElem!_pos Gs k hk']
    exact ⟨(h.own0.cellAt (k*2) (by omega)).trans (flatR_at encG_ok hx 0 (by decide)),(h.own0.cellAt (k*2+1) (by omega)).trans (flatR_at encG_ok hx 1 (by decide))⟩
   gz:=fun j=>h.own0.frozenAt j
   qc:=fun k hk=>by
    have hk':k<Gs.length:=hk
    rw [h.own1.cellAt k (by omega)]
    unfold ptrsN
    rw [List.getElem?_map,List.getElem?_range hk']
    rfl
   qz:=fun j=>h.own1.frozenAt j
   ac:=fun k hk=>by
    have hk':k<Gs.length:=hk
    have hx:((List.range Gs.length).map (newA Gs))[k]?=some (newA Gs k):=by rw [List.getElem?_map,List.getElem?_range hk'];rfl
    exact ⟨(h.own2.cellAt (k*3) (by omega)).trans (flatR_at encX3_ok hx 0 (by decide)),(h.own2.cellAt (k*3+1) (by omega)).trans (flatR_at encX3_ok hx 1 (by decide)),(h.own2.cellAt (k*3+2) (by omega)).trans (flatR_at encX3_ok hx 2 (by decide))⟩
   az:=fun j=>h.own2.frozenAt j
   map:=h.map
   q:=fun k hk=>h.q k hk
   nod:=by
    simp only [List.nodup_cons,List.mem_cons,List.not_mem_nil,or_false,not_or,not_false_eq_true,List.nodup_nil,and_true]
    omega
   off:=fun k hk b hb=>by
    have i:=h.off k hk b hb
    have i1:bq≠b:=fun e=>i.2.2.2.1 (by rw [← e];rfl)
    have i2:ba≠b:=fun e=>i.2.2.2.2 (by rw [← e];rfl)
    simp only [List.mem_cons,List.not_mem_nil,or_false,not_or]
    omega
   dis:=h.dis
   right:=hr
   cr0:=hc
   aok:=fun k hk=>by
    have hk':k<Gs.length:=hk
    show Ch.Fits 0 0 Gs[k]!.2
    have:1≤Gs[k]!.2∧Gs[k]!.2≤65536:=by
     by_cases hz:k=0
     ·subst hz;rw [hr.root];decide
     ·exact ⟨(gErr_par (hr.rest k (by omega) hk')).2.2.1,(gErr_par (hr.rest k (by omega) hk')).2.2.2.1⟩
    unfold Ch.Fits
    omega
   tok:=fun id g e=>by cases e
   keys:=⟨[],List.nodup_nil,rfl,fun id=>⟨fun m=>by simp at m,fun m=>absurd rfl m⟩⟩
   tid:=fun id e=>absurd rfl e }
 ·rcases tf_mem hb with hb | ⟨k,hk,hb⟩
  ·have g1:=(h.own0.lt bg rfl).1
   have g2:=(h.own1.lt bq rfl).1
   have g3:=(h.own2.lt ba rfl).1
   have g4:=h.ge
   simp only [List.mem_cons,List.not_mem_nil,or_false] at hb
   rcases hb with rfl | rfl | rfl | rfl | rfl
   ·exact g4.1
   ·exact g1
   ·exact g2
   ·exact g3
   ·exact g4.2.1
  ·exact h.ge.2.2 k hk b hb
set_option maxRecDepth 100000 in
set_option maxHeartbeats 4000000 in
theorem pNew_at (v:Value) (Gs:Grps) (cr:Int) (w:World) (h:RecsAt encG w v Gs) (hr:RightG Gs) (hc:0≤cr∧cr≤18446744073709551615):Calls Tryz.prog 24 #[v,.int .u64 cr] w (PNewP Gs cr w):=by
 have hmm:=@run_makeMap Tryz.prog
 obtain ⟨iq,hi,hz0,hz1,hz2⟩:=info_parts infoQ
 obtain ⟨ie,hj,hy0,hy1,hy2⟩:=info_parts infoE
 have A1':=gRight_at v Gs w h
 rw [show decide ((checkG Gs).2=0)=true from decide_eq_true (checkG_right.2 hr)] at A1'
 have A1:=Lib.hid A1'
 have hl:=hr.le
 have hp:=hr.pos
 have A2:=Lib.hid fun W (hb:Below w.heap.size w W)=>GClone_at v Gs W (h.later hb) hp hl
 have HRI:=Lib.hid hr
 have HH:=Lib.hid h
 obtain ⟨a,cap,rfl,hl1,hl2,hl3,hcells⟩:=h
 obtain ⟨b,off,rfl,hc'⟩:∃ b off,a=some ⟨b,off,none⟩∧∀ j u,(flatR encG Gs)[j]?=some u→w.cell? ⟨b,off+j,none⟩=some u:=by
  rcases hcells with q | q
  ·rw [q] at hp;simp at hp
  ·exact q
 have HC:=Lib.hid hc'
 clear hcells hc' A1' hr hl1 hl2 hl3
 go_enter Tryz.func24,Tryz.ntmps24
 go_wp2_with fail
 refine A1.out.mono ?_;rintro e w5 ⟨rfl,hb5⟩
 go_wp2_with fail
 refine (A2.out _ hb5).mono ?_;rintro e w6 ⟨bg,gcap,rfl,hown,hb6⟩
 have hb7:=Below.step hb5 hb6
 have hsz6:=hb7.size
 have hN0:NRaw w5.heap.size ((w6.alloc (.map #[] 0)).alloc (.cells #[.slice (some ⟨bg,0,none⟩) Gs.length gcap,.slice none 0 0,.slice none 0 0,.map (some w6.heap.size),.int .u64 cr] 90)) (w6.heap.size+1) bg w6.heap.size gcap (.slice none 0 0) (.slice none 0 0) (fun _=>0) (fun _=>[]) Gs cr 0 0:=by
  have l0:=hown.lt bg rfl
  have l5:=hb6.size
  exact
  {g0:=cell_nwE (by simp) _ _ 0 _ rfl,g1:=cell_nwE (by simp) _ _ 1 _ rfl,g2:=cell_nwE (by simp) _ _ 2 _ rfl,g3:=cell_nwE (by simp) _ _ 3 _ rfl,g4:=cell_nwE (by simp) _ _ 4 _ rfl
   fr:=fun j=>frz_nwE (by simp) _ _ j
   own0:=(hown.alloc _).alloc _
   own1:=World.ownsRow_nil _ _ _ _
   own2:=World.ownsRow_nil _ _ _ _
   map:=(MapF.made w6).below (below_a _ _)
   q:=fun j hj=>by omega
   ge:=⟨by omega,by omega,fun j hj=>by omega⟩
   nd:=⟨by omega,by omega,by omega⟩
   n1:=fun b e=>by cases e
   n2:=fun b e=>by cases e
   off:=fun j hj=>by omega
   dis:=fun i j hi=>by omega }
 have HN0:=Lib.hid hN0
 have HB7:=Lib.hid (Below.allocS (Below.allocS hb7 (.map #[] 0)) (.cells #[.slice (some ⟨bg,0,none⟩) Gs.length gcap,.slice none 0 0,.slice none 0 0,.map (some w6.heap.size),.int .u64 cr] 90))
 have hsz5:=hb5.size
 clear hN0 hown hb7 hb5
 go_wp2_with fail
 obtain ⟨n,hn⟩:∃ n,n=Gs.length:=⟨_,rfl⟩
 rw [← hn] at hl hp ⊢
 have HNN:=Lib.hid hn
 clear hn
 go_loopw [22] (fun i wr=>∃ (k:Nat) (v1 v2:Value) (qp:Nat→Nat) (Fq:Nat→List Nat),k≤n∧i=.int .i64 k∧NRaw w5.heap.size wr (w6.heap.size+1) bg w6.heap.size gcap v1 v2 qp Fq Gs cr k k∧Below w.heap.size w wr) (fun i _=>n - (intOf i).toNat)
 case atStart =>
  have h1:=HN0.out
  have h2:=HB7.out
  rw [← HNN.out] at h1 h2
  exact ⟨0,_,_,_,_,Nat.zero_le _,rfl,h1,h2⟩
 case round =>
  obtain ⟨k,v1,v2,qp,Fq,hk,rfl,hN,hB⟩:=hrel
  by_cases hlt:k<n
  ·have hki:(k:Int)<(n:Int):=by omega
   have z0:decide ((k:Int)<(n:Int))=true:=decide_eq_true hki
   have hkl:k<Gs.length:=by rw [← HNN.out];exact hlt
   have hx:Gs[k]?=some Gs[k]!:=by rw [List.getElem?_eq_getElem hkl,getElem!_pos Gs k hkl]
   have r0:=cell_later hB (HC.out (k*2) _ (flatR_at encG_ok hx 0 (by decide)))
   have r1:=cell_later hB (HC.out (k*2+1) _ (flatR_at encG_ok hx 1 (by decide)))
   have hw:1≤Gs[k]!.2∧Gs[k]!.2≤65536:=by
    by_cases hz:k=0
    ·subst hz;rw [HRI.out.root];decide
    ·exact ⟨(gErr_par (HRI.out.rest k (by omega) hkl)).2.2.1,(gErr_par (HRI.out.rest k (by omega) hkl)).2.2.2.1⟩
   have HA:=Lib.hid (show newA Gs k=(0,0,Gs[k]!.2) from rfl)
   obtain ⟨⟨p,wg⟩,hpw⟩:∃ x,x=Gs[k]!:=⟨_,rfl⟩
   rw [← hpw] at r0 r1 hw HA
   simp only [encG,List.getElem?_cons_zero,List.getElem?_cons_succ] at r0 r1
   rw [← Nat.add_assoc] at r1
   simp only at hw
   have z1:IntKind.u32.wrap wg=wg:=IntWalk.u32_in _ (by omega)
   have A3:=Lib.hid fun W=>New_at 65792 W (by decide) (by decide)
   have HN:=Lib.hid hN
   have HB:=Lib.hid hB
   clear hN hB hx hpw
   go_wp2_with fail
   refine (A3.out _).mono ?_
   rintro e w7 ⟨q,F,rfl,hq,hF,hb7⟩
   obtain ⟨W6,hW6⟩:∃ X,X=wr.alloc (.cells #[.int .i64 p,.int .i64 wg] 53):=⟨_,rfl⟩
   rw [← hW6] at hF hb7
   have hb6':Below wr.heap.size wr W6:=by rw [hW6];exact below_a _ _
   have hs6:W6.heap.size=wr.heap.size+1:=by rw [hW6];simp
   have t8:w7.cell? ⟨wr.heap.size,1,none⟩=some (.int .i64 wg):=cell_later hb7 (by rw [hW6];exact cell_nw wr _ _ 1 _ rfl)
   have hbr:Below wr.heap.size wr w7:=Below.step hb6' hb7
   have hN7:=HN.out.below hbr
   have g1:=hN7.g1
   have hNr:=HN.out
   have lt0:=hNr.lt
   have hqF:∀ b∈F,w5.heap.size≤b∧b≠w6.heap.size+1∧b≠bg∧b≠w6.heap.size∧v1.ownBlock≠some b∧v2.ownBlock≠some b∧∀ j,j<k→b∉Fq j:=fun b hb=>by
    have i:=hF b hb
    have i5:=HB.out.size
    have i6:=hNr.ge.1
    exact ⟨by omega,by omega,by omega,by omega,fun e=>by have:=(hNr.own1.lt b e).2;omega,fun e=>by have:=(hNr.own2.lt b e).2;omega,fun j hj m=>by have:=(hNr.q j hj).lt b m;omega⟩
   have HQF:=Lib.hid hqF
   have HQ:=Lib.hid hq
   have HN7:=Lib.hid hN7
   have n8:v1.ownBlock≠some wr.heap.size∧v2.ownBlock≠some wr.heap.size:=⟨fun e=>by have:=(hNr.own1.lt _ e).2;omega,fun e=>by have:=(hNr.own2.lt _ e).2;omega⟩
   have N8:=Lib.hid n8
   have hlr:=lt0.1
   have hs7:=hbr.size
   have HBR:=Lib.hid (Below.step HB.out hbr)
   have L8:=Lib.hid (show wr.heap.size<w7.heap.size from lt_of_cell t8)
   clear hqF hq hN7 hNr hW6 hF hb7 hb6' hbr n8 r0 r1
   go_wp2_with (at_builtin;refine wpList_append_own2 rfl (.tmp 37) (.tmp 39) 86 rfl w5.heap.size 99 iq (.pointer none) 1 8 Tryz.underlying86 hi hz0 hz1 hz2 rfl (by decide) v1 k (ptrsN qp k) rfl (HN7.out.own1.alloc _) ⟨w7.heap.size,0,none⟩ 1 1 [.pointer (some ⟨q,0,none⟩)] rfl rfl ?c1 ?c2 ?c3 ?c4 ?c5 (by decide) ?_)
   case c1 =>
    intro j u hj
    rw [addN]
    exact cellN (by simp) (by simpa using hj)
   case c2 =>
    intro u hu
    simp only [List.mem_cons,List.not_mem_nil,or_false] at hu
    subst hu;rfl
   case c3=>unfold maxLen;omega
   case c4=>omega
   case c5=>have:=HN7.out.own0.lt bg rfl;simp;omega
   intro v1' w8 hown8 hgrow8 hpl8
   obtain ⟨bq',cq',rfl⟩:=own_some hown8
   obtain ⟨⟨c1,f1⟩,hN9⟩:=(HN7.out.below (below_a w7 (.cells #[.pointer (some ⟨q,0,none⟩)] 99))).queue (HQ.out.below (below_a w7 _)) HQF.out hgrow8 hown8 (by simpa using hpl8)
   have hg78:Kept v1.ownBlock.toList w7 w8:=(Kept.of (below_a w7 (.cells #[.pointer (some ⟨q,0,none⟩)] 99))).trans (grown_kept hgrow8)
   have t9:=cell_set_ne (b':=w6.heap.size+1) (o':=1) (u:=.slice (some ⟨bq',0,none⟩) (k+1) cq') (hg78.cellAt t8 (fun m=>N8.out.1 (by simpa using m))) (Or.inl (by omega))
   have hb9:Below w.heap.size w (w8.setCell ⟨w6.heap.size+1,1,none⟩ (.slice (some ⟨bq',0,none⟩) (k+1) cq')):=by
    refine Below.setCell ((Below.allocS HBR.out _).grown hgrow8 (by have:=HBR.out.size;simp;omega) (fun j e=>by have:=(HN7.out.own1.lt j e).1;omega)) (by simp;omega) _
   have HN9:=Lib.hid hN9
   have HB9:=Lib.hid hb9
   have T9:=Lib.hid t9
   have hl9:w7.heap.size≤w8.heap.size:=hg78.size
   clear hN9 hb9 t9 hown8 hpl8 t8 g1 hgrow8 hg78
   go_wp2_with fail
   refine wp_world (fun W9 hW9=>?_)
   have hN9:=HN9.out
   have t9:=T9.out
   have hb9:=HB9.out
   rw [← hW9] at hN9 t9 hb9
   have hs9:W9.heap.size=w8.heap.size:=by rw [hW9];simp
   have HN9':=Lib.hid hN9
   have HB9':=Lib.hid hb9
   have g2:=hN9.g2
   have g2':=cell_al (.cells #[.int .u64 0,.int .u32 0,.int .u32 wg] 40) g2
   have L1:=Lib.hid (show ((W9.alloc (.cells #[.int .u64 0,.int .u32 0,.int .u32 wg] 40)).drew).ownsRow w5.heap.size 40 3 v2 k (asideN Gs k) from hN9.own2.alloc _)
   have L2:=Lib.hid (show ∀ j u,([.int .u64 0,.int .u32 0,.int .u32 wg]:List Value)[j]?=some u→((W9.alloc (.cells #[.int .u64 0,.int .u32 0,.int .u32 wg] 40)).drew).cell? ((⟨W9.heap.size,0,none⟩:Addr).add j)=some u from fun j u hj=>by
    rw [addN]
    exact cell_dr (cellN (by simp) (by simpa using hj)))
   have L3:w5.heap.size≤((W9.alloc (.cells #[.int .u64 0,.int .u32 0,.int .u32 wg] 40)).drew).heap.size:=by have:=hN9.own0.lt bg rfl;simp;omega
   have L5:k+1≤maxLen:=by unfold maxLen;omega
   have L6:(k+1)*16≤140737488355328:=by omega
   have L7:∀ u∈([.int .u64 0,.int .u32 0,.int .u32 wg]:List Value),u.oneCell'=true:=fun u hu=>by simp at hu;rcases hu with rfl | rfl | rfl <;> rfl
   have HNX:=Lib.hid (hN9.below (show Below W9.heap.size W9 ((W9.alloc (.cells #[.int .u64 0,.int .u32 0,.int .u32 wg] 40)).drew) from (below_a W9 _).drew))
   have HBX:=Lib.hid (show Below w.heap.size w ((W9.alloc (.cells #[.int .u64 0,.int .u32 0,.int .u32 wg] 40)).drew) from (Below.allocS hb9 _).drew)
   clear HN9 T9 HB9 hW9 hN9 hb9 hs9
   go_region_law (first | (refine step_append_own2 rfl (.tmp 47) (.tmp 52) 87 rfl w5.heap.size 40 ie (.agg #[.int .u64 0,.int .u32 0,.int .u32 0]) 3 16 Tryz.underlying87 hj hy0 hy1 hy2 rfl (by decide) v2 k (asideN Gs k) rfl L1.out ⟨W9.heap.size,0,none⟩ 1 1 [.int .u64 0,.int .u32 0,.int .u32 wg] rfl rfl L2.out L7 L5 L6 L3 (by decide) ?_;intro v2' w10 hown10 hgrow10 hpl10;obtain ⟨ba',ca',rfl⟩:=own_some hown10;have hA:=HNX.out.spot hgrow10 (by rw [HA.out];exact hown10) hpl10;have k0:=hA.1.1;have kf:=hA.1.2;have HA2:=Lib.hid hA.2;have HB10:=Lib.hid (show Below w.heap.size w w10 from HBX.out.grown hgrow10 (by have:=HBX.out.size;omega) (fun j e=>by have:=(HN9'.out.own2.lt j e).1;omega));clear hown10 hgrow10 hpl10 hA))
   all_goals
    clear k0 kf L1 L2 L3 L5 L6 L7 HNX HBX g2 g2'
    go_wp2_with fail
    go_roundw
    case rel=>exact ⟨k+1,_,_,_,_,by omega,by go_num,HA2.out,HB10.out.setCell (by simp;omega) _⟩
    case measure=>simp [intOf];omega
  ·obtain rfl:k=n:=by omega
   have z0:decide ((k:Int)<(k:Int))=false:=decide_eq_false (by omega)
   have HN:=Lib.hid hN
   have HB:=Lib.hid hB
   clear hN hB
   go_wp2_with fail
   go_ret2
   have hN:=HN.out
   rw [HNN.out] at hN
   obtain ⟨F,hT,hF⟩:=hN.done HRI.out hc
   exact ⟨_,F,rfl,hT,fun b hb=>Nat.le_trans hsz5 (hF b hb),HB.out⟩
end Go.Proofs.YtfgmglghlapbcaaGreat
