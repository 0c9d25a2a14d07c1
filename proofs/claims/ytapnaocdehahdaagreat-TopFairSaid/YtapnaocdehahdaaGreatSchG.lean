/-
  Layer 31 (sched): regroup.
-/
import Derived.Test.YtapnaocdehahdaaGreatSchR
namespace Go.Proofs.YtapnaocdehahdaaGreat
open Go.RowKit Go.Maps Go.IntWalk Go.Lib
set_option linter.unusedVariables false
set_option linter.unusedSimpArgs false
def rgC (s:SSt) (g k:Int):Int:=if 1≤g∧g<(s.n:Int) then (if wgOk k then 0 else 2) else 302
def rgAt (s:SSt) (g:Nat) (k:Int) (j:Nat):Nat→TSt:=fun i=>if i<j then rgQ g k (s.Q i) else s.Q i
def rgCnt (s:SSt) (g:Nat):Nat→Nat
 | 0=>0
 | j+1=>rgCnt s g j+(if ((s.Q j).M g).isEmpty then 0 else 1)
theorem rgCnt_le (s:SSt) (g:Nat):∀ j,rgCnt s g j≤j
 | 0=>Nat.le_refl _
 | j+1=>by
  have:=rgCnt_le s g j
  unfold rgCnt
  split <;> omega
def stG (s:SSt) (g:Nat) (k:Int) (j:Nat):SSt:={ s with Q:=rgAt s g k j,wk:=s.wk+(rgCnt s g j:Nat) }
def rgT (s:SSt) (g k:Int):SSt:=if rgC s g k=0 then { rgS s g.toNat k with wk:=s.wk+(rgCnt s g.toNat s.C:Nat) } else s
theorem SOk.rg {s:SSt} (h:SOk s) (g k:Int):SOk (rgT s g k):=by
 unfold rgT
 split
 ·rename_i hc
  unfold rgC at hc
  split at hc
  ·split at hc
   ·rename_i h1 h2
    exact (h.regroup (g:=g.toNat) (by omega) (by omega) h2).work _
   ·exact absurd hc (by decide)
  ·exact absurd hc (by decide)
 ·exact h
theorem rgQ_parts {q:TSt} {g:Nat} {k:Int} (h:TOk q) (hg:g<q.n) (h0:0<g) (hk:wgOk k):(rgQ g k q).A=upd q.A g (wghX k (q.A g))∧(rgQ g k q).M=upd q.M (parG q.Gs g) (chS (decide (wgOk k)) qN (q.M (parG q.Gs g)) (65536+(g:Int)) (wghX k))∧(rgQ g k q).fl=upd q.fl (parG q.Gs g) (chF (decide (wgOk k)) qN (q.M (parG q.Gs g)) (65536+(g:Int)) (wghX k) (q.fl (parG q.Gs g))):=by
 have hc:pregC q (g:Int) k=0:=by
  unfold pregC
  have h1:hasV (q.n:Int) (g:Int)=true:=by unfold hasV;simp;omega
  rw [if_pos ⟨h1,by omega⟩,if_pos ⟨by rw [Int.toNat_natCast];exact h.core.aok g hg,hk⟩]
 unfold rgQ pregS
 rw [if_pos hc,Int.toNat_natCast]
 exact ⟨rfl,rfl,rfl⟩
theorem rgQ_empty {q:TSt} {g:Nat} {k:Int} (h:TOk q) (hg:g<q.n) (h0:0<g) (hk:wgOk k) (he:(q.M g).isEmpty=true):(rgQ g k q).M=q.M∧(rgQ g k q).fl=q.fl:=by
 obtain ⟨_,h2,h3⟩:=rgQ_parts h hg h0 hk
 have hs:=h.seat g h0 hg
 unfold Seated at hs
 rw [he] at hs
 have hn:=inM_none hs
 have hc:chC (decide (wgOk k)) qN (q.M (parG q.Gs g)) (65536+(g:Int))≠0:=by
  unfold chC
  rw [hn]
  split
  ·split
   ·decide
   ·decide
  ·decide
 obtain ⟨e1,e2⟩:=ch_no rfl hc (wghX k) (q.fl (parG q.Gs g))
 rw [h2,h3,e1,e2,upd_id,upd_id]
 exact ⟨rfl,rfl⟩
theorem wf_spot {g:Nat} (h:(g:Int)<256):(Lit.int .i64 (65536+(g:Int))).wf=true:=wfI (by omega) (by omega)
theorem meas_lt {C j:Nat} (h:j<C):C - (intOf (.int .i64 ((j:Int)+1))).toNat<C - (intOf (.int .i64 (j:Int))).toNat:=by
 simp only [intOf]
 omega
theorem wk_ok {wk:Int} {a j C:Nat} (h:0≤wk∧wk≤1000000) (h1:a≤j) (h2:j<C) (h3:C≤64):IntKind.i64.wrap (wk+(a:Int)+1)=wk+(a:Int)+1∧wrap64 (wk+(a:Int)+1)=wk+(a:Int)+1:=⟨IntWalk.i64_in _ (by omega),IntWalk.wrap64_in _ (by omega)⟩
theorem rgAt_same (s:SSt) (g:Nat) (k:Int) (j:Nat):rgAt s g k j j=s.Q j:=if_neg (Nat.lt_irrefl j)
theorem rgAt_next (s:SSt) (g:Nat) (k:Int) (j i:Nat):rgAt s g k (j+1) i=if i=j then rgQ g k (s.Q j) else rgAt s g k j i:=by
 unfold rgAt
 by_cases e:i=j
 ·subst e;rw [if_pos (Nat.lt_succ_self i),if_pos rfl]
 ·rw [if_neg e]
  by_cases q:i<j
  ·rw [if_pos q,if_pos (by omega)]
  ·rw [if_neg q,if_neg (by omega)]
theorem aQ (s:SSt) (g:Nat) (k:Int) (j:Nat) (y:Ent):((aSet (stG s g k j) j g y).Q j).M=(s.Q j).M∧((aSet (stG s g k j) j g y).Q j).fl=(s.Q j).fl:=by
 unfold aSet stG
 simp only [upd_same,rgAt_same,and_self]
theorem rg_none {w:World} {x j g:Nat} {L:SLay} {s:SSt} {k:Int} (ho:SOk s) (hj:j<s.C) (hg:g<s.n) (h0:0<g) (hk:wgOk k) (he:((s.Q j).M g).isEmpty=true) (h:SRaw w x L (aSet (stG s g k j) j g (wghX k ((s.Q j).A g)))):SRaw w x L (stG s g k (j+1)):=by
 have ht:=ho.tree j hj
 have hn:=ho.qn hj
 obtain ⟨p1,_,_⟩:=rgQ_parts (k:=k) ht (by omega) h0 hk
 obtain ⟨p2,p3⟩:=rgQ_empty (k:=k) ht (by omega) h0 hk he
 have e:{ aSet (stG s g k j) j g (wghX k ((s.Q j).A g)) with Q:=rgAt s g k (j+1) }=stG s g k (j+1):=by
  unfold stG aSet
  have:rgCnt s g (j+1)=rgCnt s g j:=by
   show rgCnt s g j+(if ((s.Q j).M g).isEmpty then 0 else 1)=rgCnt s g j
   rw [if_pos he];rfl
  rw [this]
 rw [← e]
 have key:∀ i,(aSet (stG s g k j) j g (wghX k ((s.Q j).A g))).Q i=if i=j then { s.Q j with A:=upd (s.Q j).A g (wghX k ((s.Q j).A g)) } else rgAt s g k j i:=fun i=>by
  show upd (rgAt s g k j) j { rgAt s g k j j with A:=upd (rgAt s g k j j).A g _ } i=_
  rw [rgAt_same]
  rfl
 refine h.ghost (fun i=>?_) (fun i=>?_) fun i=>?_ <;> (rw [key,rgAt_next];split)
 ·exact p2
 ·rfl
 ·exact p3
 ·rfl
 ·exact p1
 ·rfl
theorem rg_some {w:World} {x j g:Nat} {L:SLay} {s:SSt} {k:Int} (ho:SOk s) (hj:j<s.C) (hg:g<s.n) (h0:0<g) (hk:wgOk k) (he:((s.Q j).M g).isEmpty=false)
  (h:SRaw w x L { qSet (aSet (stG s g k j) j g (wghX k ((s.Q j).A g))) j (parG s.Gs g) (chS (decide (wgOk k)) qN ((s.Q j).M (parG s.Gs g)) (65536+(g:Int)) (wghX k)) (chF (decide (wgOk k)) qN ((s.Q j).M (parG s.Gs g)) (65536+(g:Int)) (wghX k) ((s.Q j).fl (parG s.Gs g))) with wk:=s.wk+(rgCnt s g j:Nat)+1 }):SRaw w x L (stG s g k (j+1)):=by
 have ht:=ho.tree j hj
 have hn:=ho.qn hj
 obtain ⟨p1,p2,p3⟩:=rgQ_parts (k:=k) ht (by omega) h0 hk
 rw [ho.gs j hj] at p2 p3
 have e:{ ({ qSet (aSet (stG s g k j) j g (wghX k ((s.Q j).A g))) j (parG s.Gs g) (chS (decide (wgOk k)) qN ((s.Q j).M (parG s.Gs g)) (65536+(g:Int)) (wghX k)) (chF (decide (wgOk k)) qN ((s.Q j).M (parG s.Gs g)) (65536+(g:Int)) (wghX k) ((s.Q j).fl (parG s.Gs g))) with wk:=s.wk+(rgCnt s g j:Nat)+1 }:SSt) with Q:=rgAt s g k (j+1) }=stG s g k (j+1):=by
  unfold stG qSet aSet
  have:(rgCnt s g (j+1):Int)=rgCnt s g j+1:=by
   show ((rgCnt s g j+(if ((s.Q j).M g).isEmpty then 0 else 1):Nat):Int)=_
   rw [if_neg (by rw [he];simp)];omega
  rw [this]
  simp only [Int.add_assoc]
 rw [← e]
 have key:∀ i,(qSet (aSet (stG s g k j) j g (wghX k ((s.Q j).A g))) j (parG s.Gs g) (chS (decide (wgOk k)) qN ((s.Q j).M (parG s.Gs g)) (65536+(g:Int)) (wghX k)) (chF (decide (wgOk k)) qN ((s.Q j).M (parG s.Gs g)) (65536+(g:Int)) (wghX k) ((s.Q j).fl (parG s.Gs g)))).Q i=if i=j then { s.Q j with A:=upd (s.Q j).A g (wghX k ((s.Q j).A g)),M:=upd (s.Q j).M (parG s.Gs g) (chS (decide (wgOk k)) qN ((s.Q j).M (parG s.Gs g)) (65536+(g:Int)) (wghX k)),fl:=upd (s.Q j).fl (parG s.Gs g) (chF (decide (wgOk k)) qN ((s.Q j).M (parG s.Gs g)) (65536+(g:Int)) (wghX k) ((s.Q j).fl (parG s.Gs g))) } else rgAt s g k j i:=fun i=>by
  unfold qSet aSet stG
  simp only [upd_same,upd_upd,rgAt_same]
  by_cases q:i=j
  ·subst q;rw [upd_same,if_pos rfl]
  ·rw [upd_other _ _ q,if_neg q]
 refine h.ghost (fun i=>?_) (fun i=>?_) fun i=>?_ <;> (refine Eq.trans ?_ (congrArg _ (key i)).symm;rw [rgAt_next];split)
 ·exact p2
 ·rfl
 ·exact p3
 ·rfl
 ·exact p1
 ·rfl
theorem SRaw.group {w:World} {x:Nat} {L:SLay} {s:SSt} (h:SRaw w x L s) {g:Nat} (hg:g<s.n) (k:Int):SRaw (w.setCell ⟨L.bg,g*2+1,none⟩ (.int .i64 k)) x L { s with Gs:=setW s.Gs g k }∧SStep L w L (w.setCell ⟨L.bg,g*2+1,none⟩ (.int .i64 k)):=by
 have hk:Kept [L.bg] w (w.setCell ⟨L.bg,g*2+1,none⟩ (.int .i64 k)):=(Kept.refl _ _).setCell (Or.inl (by simp)) _
 have e:∀ b p,L.lab b=p→p≠(1,1,0)→b∉[L.bg]:=fun b p hp hn m=>by
  simp at m;subst m;exact hn (by rw [← hp];exact h.lg)
 have hn:SSt.n { s with Gs:=setW s.Gs g k }=s.n:=setW_len _ _ _
 refine ⟨?_,SStep.of_kept hk fun b hb=>by simp at hb;subst hb;rw [h.lg];simp⟩
 exact { h with
  head:=by rw [hn];exact h.head.kept hk (e _ _ h.lx (by simp))
  gr:=⟨fun j hj=>by
    replace hj:j<s.Gs.length:=by rw [← setW_len s.Gs g k];exact hj
    obtain ⟨c0,c1⟩:=h.gr.c j hj
    by_cases q:j=g
    ·subst q
     rw [setW_same hj]
     exact ⟨cell_set_ne c0 (Or.inr (by omega)),cell_set_eq c1⟩
    ·rw [setW_other q]
     exact ⟨cell_set_ne c0 (Or.inr (by omega)),cell_set_ne c1 (Or.inr (by omega))⟩,fun j=>by rw [World.frozen?_setCell];exact h.gr.z j,by simp;exact h.gr.lt⟩
  cl:=h.cl.kept hk (e _ _ h.ll (by simp))
  cu:=h.cu.kept hk (e _ _ h.lu (by simp))
  ld:=h.ld.kept hk (e _ _ h.lo (by simp))
  rq:=by rw [hn];exact h.rq.kept hk (e _ _ h.lq (by simp))
  ra:=by rw [hn];exact h.ra.kept hk (e _ _ h.la (by simp))
  qc:=by rw [hn];exact fun i hi=>(h.qc i hi).kept hk (e _ _ (h.lrq i hi) (by simp))
  ac:=by rw [hn];exact fun i hi=>(h.ac i hi).kept hk (e _ _ (h.lra i hi) (by simp))
  map:=h.map.kept hk (e _ _ h.lm (by simp))
  tk:=fun id t ht=>(h.tk id t ht).kept hk (e _ _ (h.ltk id t ht) (by simp))
  q:=by rw [hn];exact fun i c hi hc=>(h.q i c hi hc).kept hk fun b hb=>e _ _ (h.lF i c hi hc b hb) (by simp)
  lrq:=by rw [hn];exact h.lrq
  lra:=by rw [hn];exact h.lra
  lF:=by rw [hn];exact h.lF
  lt:=fun b hb=>Nat.lt_of_lt_of_le (h.lt b hb) hk.size }
set_option maxRecDepth 100000 in
set_option maxHeartbeats 4000000 in
theorem dRegroup_at {w:World} {x:Nat} {L:SLay} {s:SSt} {o:OpV} (h:SRaw w x L s) (ho:SOk s) (hwf:o.Wf) (hwk:0≤s.wk∧s.wk≤1000000) :
  Calls Tryz.prog 314 #[encO o,.pointer (some ⟨x,0,none⟩)] w (SDo w x L 0 (rgC s o.group o.weight) (rgT s o.group o.weight)):=by
 have HS:=Lib.hid h
 have HO:=Lib.hid ho
 obtain ⟨W0,hW0⟩:∃ W,W=w.alloc (.cells (cellsO o) 205):=⟨_,rfl⟩
 have hb0:Below w.heap.size w W0:=by rw [hW0];exact below_a _ _
 have B0:OpBox W0 w.heap.size o:=by rw [hW0];exact OpBox.new _ _ _
 have h0:=h.below hb0
 have HB0:=Lib.hid hb0
 unfold cellsO at hW0
 have HW0:=Lib.hid hW0
 clear hW0
 have b3:=B0.c3
 have b4:=B0.c4
 have B1:=Lib.hid B0
 obtain ⟨k,hkk⟩:∃ k,k=o.weight:=⟨_,rfl⟩
 rw [← hkk] at b4 ⊢
 have HKK:=Lib.hid hkk
 clear hkk
 have H0:=Lib.hid h0
 have A1:=Lib.hid fun W=>sweighs_at k W
 obtain ⟨c6,x6⟩:∃ c,W0.cell? ⟨x,6,none⟩=some (.slice (some ⟨L.bq,0,none⟩) s.n c):=h0.head.c6
 by_cases g1:1≤o.group∧o.group<(s.n:Int)
 ·have z1:decide (o.group<1)=false:=decide_eq_false (by omega)
  have z2:decide (o.group ≥ (s.n:Int))=false:=decide_eq_false (by omega)
  have z3:decide ((s.n:Int)≤o.group)=false:=z2
  by_cases hw:wgOk k
  ·have z4:decide (wgOk k)=true:=decide_eq_true hw
   rw [z4] at A1
   have EC:=Lib.hid (show rgC s o.group k=0 by unfold rgC;rw [if_pos g1,if_pos hw])
   obtain ⟨g,hg⟩:∃ g:Nat,(g:Int)=o.group:=⟨o.group.toNat,by omega⟩
   have ET:=Lib.hid (show rgT s o.group k={ rgS s g k with wk:=s.wk+(rgCnt s g s.C:Nat) } by unfold rgT;rw [if_pos EC.out,← hg,Int.toNat_natCast])
   rw [← hg] at b3 z1 z2 z3
   have HG:=Lib.hid hg
   have hgn:g<s.n:=by omega
   have h0g:0<g:=by omega
   have HW:=Lib.hid hw
   have HGN:=Lib.hid (And.intro hgn h0g)
   have hgm:(g:Int)<(s.n:Int):=by omega
   obtain ⟨W1,hW1⟩:∃ W,W=W0.drew:=⟨_,rfl⟩
   have hB1:Below W0.heap.size W0 W1:=by rw [hW1];exact (Below.refl _ _).drew
   have h1:=h0.below hB1
   obtain ⟨cr',r6⟩:∃ c,W1.cell? ⟨L.bq,g,none⟩=some (.slice (some ⟨L.rq g,0,none⟩) s.C c):=h1.rq.c g hgn
   have x6':=cell_later hB1 x6
   have b3':=cell_later hB1 b3
   have b4':=cell_later hB1 b4
   have H1:=Lib.hid h1
   have HB1:=Lib.hid hB1
   have HW1:=Lib.hid hW1
   have lx0:L.lab w.heap.size=(0,0,0):=h.none_at (Nat.le_refl _)
   have hbs:w.heap.size<W1.heap.size:=lt_of_cell b3'
   obtain ⟨bx,hbx⟩:∃ b,b=w.heap.size:=⟨_,rfl⟩
   rw [← hbx] at b3' b4' lx0 hbs
   have HBX:=Lib.hid hbx
   clear h ho h0 hb0 B0 g1 hw z4 hg hW1 hB1 h1 hgn h0g hbx
   unfold encO
   go_enter Tryz.func314,Tryz.ntmps314
   go_upto_region 1 with fail
   rw [← HW0.out]
   go_region
   rw [← HW1.out,← HBX.out]
   go_wp2_with fail
   refine (A1.out _).mono ?_;rintro e w5 ⟨rfl,rfl⟩
   go_wp2_with fail
   go_region
   obtain ⟨W2,hW2⟩:∃ W,W=W1.drew:=⟨_,rfl⟩
   rw [← hW2]
   have hB2:Below W1.heap.size W1 W2:=by rw [hW2];exact (Below.refl _ _).drew
   have HB2:=Lib.hid (Below.step HB1.out hB2)
   have bs2:bx<W2.heap.size:=Nat.lt_of_lt_of_le hbs hB2.size
   have h2:SRaw W2 x L (stG s g k 0):=by
    have:=H1.out.below hB2
    have e:stG s g k 0=s:=by
     unfold stG rgCnt
     have:rgAt s g k 0=s.Q:=funext fun i=>if_neg (Nat.not_lt_zero i)
     rw [this];simp
    rw [e];exact this
   have B2:=Lib.hid (show OpBox W2 bx o by rw [HBX.out];exact (B1.out.later HB1.out).later hB2)
   have HL0:=Lib.hid lx0
   clear x6 x6' b3 b4 b3' b4' r6 A1 z1 z2 z3 hW2 hB2 lx0 hbs
   go_wp2_with fail
   go_loopw [40] (fun iv wr=>∃ (j:Nat) (L':SLay),j≤s.C∧iv=.int .i64 j∧SRaw wr x L' (stG s g k j)∧SStep L W2 L' wr∧L'.tp=L.tp∧L'.rq=L.rq) (fun i _=>s.C - (intOf i).toNat)
   case atStart=>exact ⟨0,L,Nat.zero_le _,rfl,h2,SStep.refl _ _,rfl,rfl⟩
   case round =>
    obtain ⟨j,L',hj,rfl,hr,hs,htp,hrq⟩:=hrel
    by_cases hjC:j<s.C
    ·have z1:decide ((j:Int)<(s.C:Int))=true:=decide_eq_true (by omega)
     have z1':decide (j<s.C)=true:=decide_eq_true hjC
     have hgn:=HGN.out.1
     have HR:=Lib.hid hr
     have HSt:=Lib.hid hs
     have HTP:=Lib.hid htp
     have HRQ:=Lib.hid hrq
     have HJ:=Lib.hid hjC
     have B:=B2.out.step hs HL0.out
     have b3:=B.c3
     rw [← HG.out] at b3
     have b4:=B.c4
     rw [← HKK.out] at b4
     have lbx:L'.lab bx=(0,0,0):=hs.off bs2 HL0.out
     obtain ⟨c7,x7⟩:∃ c,wr.cell? ⟨x,7,none⟩=some (.slice (some ⟨L'.ba,0,none⟩) s.n c):=hr.head.c7
     obtain ⟨cr7,r7⟩:∃ c,wr.cell? ⟨L'.ba,g,none⟩=some (.slice (some ⟨L'.ra g,0,none⟩) s.C c):=hr.ra.c g hgn
     have p7:wr.cell? ⟨L.rq g,j,none⟩=some (.pointer (some ⟨L'.qp g j,0,none⟩)):=by rw [← hrq];exact (hr.qc g hgn).c j hjC
     have hEA:EntsAt wr (L'.ra g) s.C (fun i=>((stG s g k j).Q i).A g):=hr.ac g hgn
     obtain ⟨a0,a1,a2⟩:=hEA.c j hjC
     have eA:((stG s g k j).Q j).A g=(s.Q j).A g:=by show (rgAt s g k j j).A g=_;rw [rgAt_same]
     simp only [eA] at a0 a1 a2
     have HAZ:=Lib.hid hEA
     have hA:EntOk ((s.Q j).A g):=(HO.out.tree j hjC).core.aok g (by rw [HO.out.qn hjC];exact hgn)
     have lra:L'.lab (L'.ra g)=(3,(g:Int),0):=hr.lra g hgn
     have lra4:L'.ra g<wr.heap.size:=hEA.lt
     obtain ⟨ra,hra⟩:∃ r,r=L'.ra g:=⟨_,rfl⟩
     rw [← hra] at r7 a0 a1 a2 lra lra4
     have HRA:=Lib.hid hra
     have mx:x∉[ra]:=by simp;exact lab_ne hr.lx lra (by simp)
     have mb:bx∉[ra]:=by simp;exact lab_ne lbx lra (by simp)
     have ma:L'.ba∉[ra]:=by simp;exact lab_ne hr.la lra (by simp)
     obtain ⟨ye,hye⟩:∃ y:Ent,y=(s.Q j).A g:=⟨_,rfl⟩
     rw [← hye] at a0 a1 a2 hA
     have hyf:Ch.Fits (wghX k ye).1 (wghX k ye).2.1 (wghX k ye).2.2:=(okW hA HW.out).fits
     obtain ⟨y,hy⟩:∃ y:Ent,y=wghX k ye:=⟨_,rfl⟩
     rw [← hy] at hyf
     have A2:=Lib.hid fun W=>(show Calls Tryz.prog 160 #[.agg #[.int .u64 ye.1,.int .u32 ye.2.1,.int .u32 ye.2.2],.int .i64 k] W fun e w'=>e=.returned (.tuple #[.agg #[.int .u64 y.1,.int .u32 y.2.1,.int .u32 y.2.2],.int .i64 0])∧Below W.heap.size W w' from by rw [hy];exact Weigh_ok ye.1 ye.2.1 ye.2.2 k W hA HW.out)
     have HYE:=Lib.hid hye
     have HY:=Lib.hid hy
     have HYF:=Lib.hid hyf
     obtain ⟨wo,hwo⟩:∃ wo,wo=wr:=⟨_,rfl⟩
     subst hwo
     have hjm:(j:Int)<(s.C:Int):=by omega
     have hC64:=HO.out.cpus.2
     have hwj:IntKind.i64.wrap ((j:Int)+1)=(j:Int)+1:=IntWalk.i64_in _ (by omega)
     have hwj':wrap64 ((j:Int)+1)=(j:Int)+1:=IntWalk.wrap64_in _ (by omega)
     clear hC64
     have z5:=HAZ.out.z
     rw [← HRA.out] at z5
     have HZ5:=Lib.hid z5
     clear hr hs htp hrq B hEA eA hA hra hye hy hyf h2 hjC hj z5
     go_wp2_with fail
     refine startA (S:=fun w'=>Kept [ra] wo w'∧w'.cell? ⟨x,7,none⟩=some (.slice (some ⟨L'.ba,0,none⟩) s.n c7)∧w'.cell? ⟨bx,3,none⟩=some (.int .i64 g)∧w'.cell? ⟨L'.ba,g,none⟩=some (.slice (some ⟨ra,0,none⟩) s.C cr7)∧w'.cell? ⟨bx,4,none⟩=some (.int .i64 k)) ⟨Kept.refl _ _,x7,b3,r7,b4⟩ (fun h=>heldK_4 (kept_dr _ _) h) (fun hS0 hHeld=>?_)
     refine takeA 0 ?_
     refine takeA 1 ?_
     refine takeA 2 ?_
     refine takeA 3 ?_
     refine takeA 4 ?_
     refine takeA 5 ?_
     refine takeA 6 ?_
     refine takeA 7 ?_
     refine takeA 8 ?_
     refine takeA 9 ?_
     refine takeA 10 ?_
     refine takeA 11 ?_
     refine takeA 12 ?_
     refine takeA 13 ?_
     refine takeA 14 ?_
     refine takeA 15 ?_
     refine takeA 16 ?_
     refine takeA 17 ?_
     refine takeA 18 ?_
     refine takeA 19 ?_
     refine takeA 20 ?_
     refine takeA 22 ?_
     refine takeA 23 ?_
     refine takeA 24 ?_
     refine readyA [21] (consA (fun K hK=>?_) .nil)
     go_simp
     skip
     refine outA hK kpK_4 (fun hHeld21=>?_)
     clear hK K
     refine readyA [25] (consA (fun K hK=>?_) .nil)
     go_simp
     refine (A2.out _).mono ?_
     rintro e w6 ⟨rfl,hb6⟩
     have hk6:Kept [ra] wo.drew w6:=Kept.of hb6
     replace a0:=cell_later hb6 (cell_dr a0)
     replace a1:=cell_later hb6 (cell_dr a1)
     replace a2:=cell_later hb6 (cell_dr a2)
     have fz0:=frz_later hb6 (show wo.drew.frozen? ⟨ra,j*3,none⟩=false from HZ5.out _) lra4
     have fz1:=frz_later hb6 (show wo.drew.frozen? ⟨ra,j*3+1,none⟩=false from HZ5.out _) lra4
     have fz2:=frz_later hb6 (show wo.drew.frozen? ⟨ra,j*3+2,none⟩=false from HZ5.out _) lra4
     go_wp2_with fail
     refine outA hK kpK_4 (fun hHeld25=>?_)
     clear hK K
     refine takeA 26 ?_
     refine takeA 27 ?_
     refine takeA 28 ?_
     refine takeA 29 ?_
     refine readyA [30] (consA (fun K hK=>?_) .nil)
     go_simp
     have hk30:=set3_kept w6 ra (j*3) y
     unfold set3 at hk30
     refine outA hK kpK_4 (fun hHeld30=>?_)
     clear hK K
     refine doneA ?_
     skip
     obtain ⟨w7,hw7⟩:∃ W,W=set3 w6 ra (j*3) y:=⟨_,rfl⟩
     have hr7:=((HR.out.below (Below.refl _ _).drew).below hb6).aside (g:=g) (k:=j) hgn HJ.out HYF.out
     have hs7:SStep L W2 L' w7:=by
      rw [hw7]
      exact (HSt.out.trans ((SStep.of (Below.refl _ _).drew).trans (SStep.of hb6))).trans (SStep.of_kept (set3_kept _ _ _ _) fun c hc=>by simp at hc;subst hc;rw [lra];simp)
     rw [← HRA.out,← hw7] at hr7
     unfold set3 at hw7
     rw [← hw7]
     obtain ⟨q1,q2⟩:=aQ s g k j y
     have hq7:QIn w7 (L'.qp g j) (L'.Fq g j) qN ((s.Q j).M g) ((s.Q j).fl g):=by
      have:=hr7.q g j hgn HJ.out
      rw [q1,q2] at this
      exact this
     have A3:=Lib.hid (Len_at' w7 hq7)
     have B7:=B2.out.step hs7 HL0.out
     have b3':=B7.c3
     rw [← HG.out] at b3'
     have b4':=B7.c4
     rw [← HKK.out] at b4'
     have HR7:=Lib.hid hr7
     have HS7:=Lib.hid hs7
     have hjC:=HJ.out
     clear hr7 hs7 hq7 B7 hw7 hb6 x7 r7 a0 a1 a2 fz0 fz1 fz2 b3 b4 p7 hS0 hHeld hk6 hk30 mx mb ma A2 z1 z1'
     cases he:((s.Q j).M g).isEmpty with
     | true =>
      have z5:decide ((((s.Q j).M g).length:Int) > 0)=false:=by cases hm:(s.Q j).M g with
       | nil=>simp
       | cons a r=>rw [hm] at he;cases he
      have z6:decide ((0:Int)<(((s.Q j).M g).length:Int))=false:=z5
      have z7:decide (0<((s.Q j).M g).length)=false:=by simpa using z6
      have R7:=Lib.hid (rg_none HO.out hjC hgn HGN.out.2 HW.out he (by rw [← HYE.out,← HY.out];exact HR7.out))
      clear he b3' b4'
      go_wp2_with fail
      refine A3.out.mono ?_;rintro e w8 ⟨rfl,rfl⟩
      go_wp2_with fail
      go_roundw
      case rel=>exact ⟨j+1,L',hjC,rfl,R7.out,HS7.out,HTP.out,HRQ.out⟩
      case measure=>exact meas_lt hjC
     | false =>
      have z5:decide ((((s.Q j).M g).length:Int) > 0)=true:=by cases hm:(s.Q j).M g with
       | nil=>rw [hm] at he;cases he
       | cons a r=>simp
      have z6:decide ((0:Int)<(((s.Q j).M g).length:Int))=true:=z5
      have z7:decide (0<((s.Q j).M g).length)=true:=by simpa using z6
      have HE:=Lib.hid he
      obtain ⟨p,hp⟩:∃ p,p=parG s.Gs g:=⟨_,rfl⟩
      have hpn:p<s.n:=by have:=(HO.out.right.par hgn).2.1 HGN.out.2;omega
      have hpm:(p:Int)<(s.n:Int):=by omega
      have A4:=Lib.hid (show Calls Tryz.prog 112 #[.pointer (some ⟨x,0,none⟩),.int .i64 g] w7.drew fun e w'=>e=.returned (.int .i64 (p:Nat))∧w7.drew=w' from by rw [hp];exact xparent_at (HR7.out.below (Below.refl _ _).drew) HO.out.right (g:=g) hgn)
      obtain ⟨c6,x6⟩:∃ c,w7.cell? ⟨x,6,none⟩=some (.slice (some ⟨L'.bq,0,none⟩) s.n c):=HR7.out.head.c6
      obtain ⟨cr6,r6⟩:∃ c,w7.cell? ⟨L'.bq,p,none⟩=some (.slice (some ⟨L'.rq p,0,none⟩) s.C c):=HR7.out.rq.c p hpn
      have p6:w7.cell? ⟨L'.rq p,j,none⟩=some (.pointer (some ⟨L'.qp p j,0,none⟩)):=(HR7.out.qc p hpn).c j hjC
      have hqp:QIn w7 (L'.qp p j) (L'.Fq p j) qN ((s.Q j).M p) ((s.Q j).fl p):=by
       have:=HR7.out.q p j hpn hjC
       rw [q1,q2] at this
       exact this
      have hgn2:(g:Int)<256:=by have:=HO.out.right.le;unfold SSt.n at hgn;omega
      have hwm:IntKind.i64.wrap (65536+(g:Int))=65536+(g:Int):=IntWalk.i64_in _ (by omega)
      have hwm':wrap64 (65536+(g:Int))=65536+(g:Int):=IntWalk.wrap64_in _ (by omega)
      have A5:=Lib.hid (Weigh_at (65536+(g:Int)) k w7.drew (hqp.below (Below.refl _ _).drew) (wf_spot hgn2))
      have nF:∀ c q,L'.lab c=q→q≠(5,(p:Int),j)→c∉L'.Fq p j:=fun c q hc hn m=>hn (by rw [← hc];exact HR7.out.lF p j hpn hjC c m)
      obtain ⟨Fq,hFq⟩:∃ F,F=L'.Fq p j:=⟨_,rfl⟩
      rw [← hFq] at nF A5
      have HFQ:=Lib.hid hFq
      have mx:x∉Fq:=nF x _ HR7.out.lx (by simp)
      have mb:bx∉Fq:=nF _ _ lbx (by simp)
      have mq:L'.bq∉Fq:=nF _ _ HR7.out.lq (by simp)
      have mr:L'.rq p∉Fq:=nF _ _ (HR7.out.lrq p hpn) (by simp)
      have HP:=Lib.hid hp
      clear he hp hqp nF hFq
      go_wp2_with fail
      refine A3.out.mono ?_;rintro e w8 ⟨rfl,rfl⟩
      go_wp2_with fail
      refine startA (S:=fun w'=>Kept Fq w7 w'∧w'.cell? ⟨x,6,none⟩=some (.slice (some ⟨L'.bq,0,none⟩) s.n c6)∧w'.cell? ⟨bx,3,none⟩=some (.int .i64 g)∧w'.cell? ⟨L'.bq,p,none⟩=some (.slice (some ⟨L'.rq p,0,none⟩) s.C cr6)∧w'.cell? ⟨L'.rq p,j,none⟩=some (.pointer (some ⟨L'.qp p j,0,none⟩))∧w'.cell? ⟨bx,4,none⟩=some (.int .i64 k)) ⟨Kept.refl _ _,x6,b3',r6,p6,b4'⟩ (fun h=>heldK_5 (kept_dr _ _) h) (fun hS0 hHeld=>?_)
      refine takeA 0 ?_
      refine takeA 1 ?_
      refine takeA 2 ?_
      refine takeA 3 ?_
      refine takeA 4 ?_
      refine takeA 5 ?_
      refine takeA 6 ?_
      refine takeA 7 ?_
      refine takeA 11 ?_
      refine takeA 14 ?_
      refine takeA 15 ?_
      refine takeA 16 ?_
      refine takeA 17 ?_
      refine takeA 18 ?_
      refine takeA 19 ?_
      refine takeA 20 ?_
      refine readyA [8] (consA (fun K hK=>?_) .nil)
      go_simp
      refine A4.out.mono ?_
      rintro e w8 ⟨rfl,rfl⟩
      go_wp2_with fail
      refine outA hK kpK_5 (fun hHeld8=>?_)
      clear hK K
      refine takeA 9 ?_
      refine takeA 10 ?_
      refine takeA 12 ?_
      refine takeA 13 ?_
      refine readyA [21] (consA (fun K hK=>?_) .nil)
      go_simp
      refine A5.out.mono ?_
      rintro e w9 ⟨rfl,F9,h9,s9⟩
      have hk9:Kept Fq w7.drew w9:=s9.kept
      go_wp2_with fail
      refine outA hK kpK_5 (fun hHeld21=>?_)
      clear hK K
      refine doneA ?_
      skip
      have hr9:=(HR7.out.below (Below.refl _ _).drew).queue (g:=p) (k:=j) (F':=F9) hpn hjC h9 (by rw [← HFQ.out];exact s9)
      have hs9:=SStep.queue (g:=p) (k:=j) (HR7.out.below (Below.refl _ _).drew) hpn hjC (by rw [← HFQ.out];exact s9)
      obtain ⟨L9,hL9⟩:∃ L9,L9=L'.queue p j F9:=⟨_,rfl⟩
      rw [← hL9] at hr9 hs9
      have htp9:L9.tp=L.tp:=by rw [hL9];exact HTP.out
      have hrq9:L9.rq=L.rq:=by rw [hL9];exact HRQ.out
      have c9:w9.cell? ⟨x,9,none⟩=some (.int .i64 (s.wk+(rgCnt s g j:Nat))):=hr9.head.c9
      have f9:=hr9.head.z 9
      have hcn:=rgCnt_le s g j
      have hC:=HO.out.cpus
      have hwa:IntKind.i64.wrap (s.wk+(rgCnt s g j:Nat)+1)=s.wk+(rgCnt s g j:Nat)+1:=(wk_ok hwk hcn hjC hC.2).1
      have hwa':wrap64 (s.wk+(rgCnt s g j:Nat)+1)=s.wk+(rgCnt s g j:Nat)+1:=(wk_ok hwk hcn hjC hC.2).2
      have hr10:=hr9.work (s.wk+(rgCnt s g j:Nat)+1)
      have hs10:=(HS7.out.trans ((SStep.of (Below.refl _ _).drew).trans hs9)).trans (SStep.of_kept (L:=L9) ((Kept.refl [x] w9).setCell (p:=⟨x,9,none⟩) (Or.inl (by simp)) (.int .i64 (s.wk+(rgCnt s g j:Nat)+1))) (fun c hc=>by simp at hc;subst hc;rw [hr9.lx];simp))
      have R10:=Lib.hid (rg_some (k:=k) HO.out hjC hgn HGN.out.2 HW.out HE.out (by rw [← HP.out,← HYE.out,← HY.out];exact hr10))
      have S10:=Lib.hid hs10
      have P10:=Lib.hid (And.intro htp9 hrq9)
      clear hr9 hs9 hr10 hs10 h9 s9 hk9 htp9 hrq9 hL9 x6 r6 p6 b3' b4' A3 A4 A5 mx mb mq mr hS0 hHeld hcn hC
      go_wp2_with fail
      go_roundw
      case rel=>exact ⟨j+1,L9,hjC,rfl,R10.out,S10.out,P10.out.1,P10.out.2⟩
      case measure=>exact meas_lt hjC
    ·have z1:decide ((j:Int)<(s.C:Int))=false:=decide_eq_false (by omega)
     have z1':decide (j<s.C)=false:=decide_eq_false hjC
     obtain rfl:j=s.C:=by omega
     have HR:=Lib.hid hr
     have HSt:=Lib.hid hs
     have HTP:=Lib.hid htp
     clear hr hs htp hrq hjC hj h2
     have hgn:=HGN.out.1
     have B:=B2.out.step HSt.out HL0.out
     have b3:=B.c3
     rw [← HG.out] at b3
     have b4:=B.c4
     rw [← HKK.out] at b4
     obtain ⟨wo,hwo⟩:∃ wo,wo=wr:=⟨_,rfl⟩
     subst hwo
     obtain ⟨c2,x2⟩:∃ c,wo.cell? ⟨x,2,none⟩=some (.slice (some ⟨L'.bg,0,none⟩) s.n c):=HR.out.head.c2
     have gw:wo.cell? ⟨L'.bg,g*2+1,none⟩=some (.int .i64 s.Gs[g]!.2):=(HR.out.gr.c g hgn).2
     have gf:=HR.out.gr.z (g*2+1)
     obtain ⟨r13,s13⟩:=HR.out.group (g:=g) hgn k
     have R:=Lib.hid (show SLeft w x L (rgT s o.group k) (wo.setCell ⟨L'.bg,g*2+1,none⟩ (.int .i64 k)).drew from ⟨L',by rw [ET.out];exact r13.below (Below.refl _ _).drew,(SStep.of (Below.step HB0.out HB2.out)).trans (HSt.out.trans (s13.trans (SStep.of (Below.refl _ _).drew))),HTP.out⟩)
     clear r13 s13 B
     go_wp2_with fail
     go_region
     go_wp2_with fail
     refine bodyPost_ret (v:=.tuple #[.int .i64 0,.int .i64 0]) (by simp [results,Tryz.results314,go_sem]) rfl ⟨by rw [EC.out],R.out⟩
  ·have EC:=Lib.hid (show rgC s o.group k=2 by unfold rgC;rw [if_pos g1,if_neg hw])
   have z4:decide (wgOk k)=false:=decide_eq_false hw
   rw [z4] at A1
   clear h ho h0 hb0 B0 g1 hw z4
   unfold encO
   go_enter Tryz.func314,Tryz.ntmps314
   go_upto_region 1 with fail
   rw [← HW0.out]
   go_region
   go_wp2_with fail
   refine (A1.out _).mono ?_;rintro e w5 ⟨rfl,rfl⟩
   go_wp2_with fail
   refine bodyPost_ret (v:=.tuple #[.int .i64 0,.int .i64 2]) (by simp [results,Tryz.results314,go_sem]) rfl ⟨by rw [EC.out],?_⟩
   rw [show rgT s o.group k=s by unfold rgT;rw [EC.out];rfl]
   exact SLeft.same HS.out HB0.out.drew
 ·have EC:=Lib.hid (show rgC s o.group k=302 by unfold rgC;rw [if_neg g1])
  clear h ho h0 hb0 B0
  by_cases g2:o.group<1
  ·have z1:decide (o.group<1)=true:=decide_eq_true g2
   clear g1 g2
   unfold encO
   go_enter Tryz.func314,Tryz.ntmps314
   go_upto_region 1 with fail
   rw [← HW0.out]
   go_region
   go_wp2_with fail
   refine bodyPost_ret (v:=.tuple #[.int .i64 0,.int .i64 302]) (by simp [results,Tryz.results314,go_sem]) rfl ⟨by rw [EC.out],?_⟩
   rw [show rgT s o.group k=s by unfold rgT;rw [EC.out];rfl]
   exact SLeft.same HS.out HB0.out.drew
  ·have z1:decide (o.group<1)=false:=decide_eq_false g2
   have z2:decide (o.group ≥ (s.n:Int))=true:=decide_eq_true (by omega)
   have z3:decide ((s.n:Int)≤o.group)=true:=z2
   clear g1 g2
   unfold encO
   go_enter Tryz.func314,Tryz.ntmps314
   go_upto_region 1 with fail
   rw [← HW0.out]
   go_region
   go_wp2_with fail
   refine bodyPost_ret (v:=.tuple #[.int .i64 0,.int .i64 302]) (by simp [results,Tryz.results314,go_sem]) rfl ⟨by rw [EC.out],?_⟩
   rw [show rgT s o.group k=s by unfold rgT;rw [EC.out];rfl]
   exact SLeft.same HS.out HB0.out.drew
end Go.Proofs.YtapnaocdehahdaaGreat
