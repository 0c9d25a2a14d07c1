/-
  Layer 31 (sched): a scheduler in memory.
-/
import Derived.Test.YtapnaocdehahdaaGreatSchM
namespace Go.Proofs.YtapnaocdehahdaaGreat
open Go.RowKit Go.Maps Go.IntWalk Go.Lib
set_option linter.unusedVariables false
set_option linter.unusedSimpArgs false
def encP (p:Option Nat):Value:=.pointer (p.map fun b=>⟨b,0,none⟩)
def datP (p:Option Nat):DataW Unit:=match p with | none=>.agg [] | some b=>.lit (.int .i64 b)
def readP:Value→Option (DataW Unit×List MemPlace)
 | .pointer none=>some (datP none,[])
 | .pointer (some ⟨b,0,none⟩)=>some (datP (some b),[])
 | _=>none
theorem elemP:ElemG encP datP readP (fun _=>True):=by
 refine ⟨fun x _=>?_,fun v z h=>?_,fun x y h=>?_⟩
 ·cases x <;> rfl
 ·unfold readP at h
  split at h
  ·cases h;exact ⟨none,trivial,rfl,rfl⟩
  ·cases h;exact ⟨some _,trivial,rfl,rfl⟩
  ·cases h
 ·cases x <;> cases y <;> simp [datP] at h ⊢
  omega
abbrev MapP:=MapG encP datP readP (fun _=>True)
theorem undP:Tryz.prog.underlying 96=some (.map 3 116):=by kernel_rfl
theorem zeroP (w:World):(zeroValue 116).run Tryz.prog w=.ok (encP none) w:=by kernel_rfl
structure IntsAt (w:World) (b n:Nat) (f:Nat→Int):Prop where
 c:∀ k,k<n→w.cell? ⟨b,k,none⟩=some (.int .i64 (f k))
 z:∀ j,w.frozen? ⟨b,j,none⟩=false
 lt:b<w.heap.size
structure GrpsAt (w:World) (b:Nat) (Gs:Grps):Prop where
 c:∀ k,k<Gs.length→w.cell? ⟨b,k*2,none⟩=some (.int .i64 Gs[k]!.1)∧w.cell? ⟨b,k*2+1,none⟩=some (.int .i64 Gs[k]!.2)
 z:∀ j,w.frozen? ⟨b,j,none⟩=false
 lt:b<w.heap.size
structure RowsAt (w:World) (b n C:Nat) (f:Nat→Nat):Prop where
 c:∀ k,k<n→∃ c,w.cell? ⟨b,k,none⟩=some (.slice (some ⟨f k,0,none⟩) C c)
 lt:b<w.heap.size
structure PtrsAt (w:World) (b n:Nat) (f:Nat→Nat):Prop where
 c:∀ k,k<n→w.cell? ⟨b,k,none⟩=some (.pointer (some ⟨f k,0,none⟩))
 lt:b<w.heap.size
structure EntsAt (w:World) (b n:Nat) (f:Nat→Ent):Prop where
 c:∀ k,k<n→w.cell? ⟨b,k*3,none⟩=some (.int .u64 (f k).1)∧w.cell? ⟨b,k*3+1,none⟩=some (.int .u32 (f k).2.1)∧w.cell? ⟨b,k*3+2,none⟩=some (.int .u32 (f k).2.2)
 z:∀ j,w.frozen? ⟨b,j,none⟩=false
 lt:b<w.heap.size
 fit:∀ k,k<n→Ch.Fits (f k).1 (f k).2.1 (f k).2.2
structure TskAt (w:World) (b:Nat) (t:Tsk):Prop where
 c0:w.cell? ⟨b,0,none⟩=some (.int .i64 t.g)
 c1:w.cell? ⟨b,1,none⟩=some (.int .i64 t.w)
 c2:w.cell? ⟨b,2,none⟩=some (.int .i64 t.cpu)
 c3:w.cell? ⟨b,3,none⟩=some (.int .u64 t.mask)
 c4:w.cell? ⟨b,4,none⟩=some (.bool t.rdy)
 c5:w.cell? ⟨b,5,none⟩=some (.int .u64 t.run.1)
 c6:w.cell? ⟨b,6,none⟩=some (.int .u32 t.run.2.1)
 c7:w.cell? ⟨b,7,none⟩=some (.int .u32 t.run.2.2)
 z:∀ j,w.frozen? ⟨b,j,none⟩=false
section
variable {w w':World} {G:List Nat} {b n C:Nat}
theorem IntsAt.kept {f:Nat→Int} (h:IntsAt w b n f) (hk:Kept G w w') (hb:b∉G):IntsAt w' b n f:=⟨fun k q=>hk.cellAt (h.c k q) hb,fun j=>hk.frz (h.z j) h.lt hb,Nat.lt_of_lt_of_le h.lt hk.size⟩
theorem GrpsAt.kept {f:Grps} (h:GrpsAt w b f) (hk:Kept G w w') (hb:b∉G):GrpsAt w' b f:=⟨fun k q=>⟨hk.cellAt (h.c k q).1 hb,hk.cellAt (h.c k q).2 hb⟩,fun j=>hk.frz (h.z j) h.lt hb,Nat.lt_of_lt_of_le h.lt hk.size⟩
theorem RowsAt.kept {f:Nat→Nat} (h:RowsAt w b n C f) (hk:Kept G w w') (hb:b∉G):RowsAt w' b n C f:=⟨fun k q=>(h.c k q).imp fun c e=>hk.cellAt e hb,Nat.lt_of_lt_of_le h.lt hk.size⟩
theorem PtrsAt.kept {f:Nat→Nat} (h:PtrsAt w b n f) (hk:Kept G w w') (hb:b∉G):PtrsAt w' b n f:=⟨fun k q=>hk.cellAt (h.c k q) hb,Nat.lt_of_lt_of_le h.lt hk.size⟩
theorem EntsAt.kept {f:Nat→Ent} (h:EntsAt w b n f) (hk:Kept G w w') (hb:b∉G):EntsAt w' b n f:=⟨fun k q=>⟨hk.cellAt (h.c k q).1 hb,hk.cellAt (h.c k q).2.1 hb,hk.cellAt (h.c k q).2.2 hb⟩,fun j=>hk.frz (h.z j) h.lt hb,Nat.lt_of_lt_of_le h.lt hk.size,h.fit⟩
theorem TskAt.lt {t:Tsk} (h:TskAt w b t):b<w.heap.size:=lt_of_cell h.c0
theorem TskAt.kept {t:Tsk} (h:TskAt w b t) (hk:Kept G w w') (hb:b∉G):TskAt w' b t:=⟨hk.cellAt h.c0 hb,hk.cellAt h.c1 hb,hk.cellAt h.c2 hb,hk.cellAt h.c3 hb,hk.cellAt h.c4 hb,hk.cellAt h.c5 hb,hk.cellAt h.c6 hb,hk.cellAt h.c7 hb,fun j=>hk.frz (h.z j) h.lt hb⟩
theorem IntsAt.set {f:Nat→Int} (h:IntsAt w b n f) {k:Nat} (hk:k<n) (x:Int):IntsAt (w.setCell ⟨b,k,none⟩ (.int .i64 x)) b n (upd f k x):=⟨fun j q=>by
 by_cases e:j=k
 ·subst e;rw [upd_same];exact cell_set_eq (h.c j q)
 ·rw [upd_other _ _ e];exact cell_set_ne (h.c j q) (Or.inr e),fun j=>by rw [World.frozen?_setCell];exact h.z j,by simp;exact h.lt⟩
theorem EntsAt.set {f:Nat→Ent} (h:EntsAt w b n f) {k:Nat} (hk:k<n) {x:Ent} (hx:Ch.Fits x.1 x.2.1 x.2.2):EntsAt (set3 w b (k*3) x) b n (upd f k x):=⟨fun j q=>by
 obtain ⟨c0,c1,c2⟩:=h.c j q
 unfold set3
 by_cases e:j=k
 ·subst e
  simp only [upd_same]
  exact ⟨cell_set_ne (cell_set_ne (cell_set_eq c0) (Or.inr (by omega))) (Or.inr (by omega)),cell_set_ne (cell_set_eq (cell_set_ne c1 (Or.inr (by omega)))) (Or.inr (by omega)),cell_set_eq (cell_set_ne (cell_set_ne c2 (Or.inr (by omega))) (Or.inr (by omega)))⟩
 ·simp only [upd_other _ _ e]
  exact ⟨cell_set_ne (cell_set_ne (cell_set_ne c0 (Or.inr (by omega))) (Or.inr (by omega))) (Or.inr (by omega)),cell_set_ne (cell_set_ne (cell_set_ne c1 (Or.inr (by omega))) (Or.inr (by omega))) (Or.inr (by omega)),cell_set_ne (cell_set_ne (cell_set_ne c2 (Or.inr (by omega))) (Or.inr (by omega))) (Or.inr (by omega))⟩,
 fun j=>by unfold set3;rw [World.frozen?_setCell,World.frozen?_setCell,World.frozen?_setCell];exact h.z j,by unfold set3;simp;exact h.lt,
 fun j q=>by
  by_cases e:j=k
  ·subst e;simp only [upd_same];exact hx
  ·simp only [upd_other _ _ e];exact h.fit j q⟩
end
structure SLay where
 bg:Nat
 bl:Nat
 bu:Nat
 bm:Nat
 bq:Nat
 ba:Nat
 bo:Nat
 rq:Nat→Nat
 ra:Nat→Nat
 tp:Int→Nat
 qp:Nat→Nat→Nat
 Fq:Nat→Nat→List Nat
 lab:Nat→Nat×Int×Nat
structure HeadAt (w:World) (x:Nat) (L:SLay) (n C:Nat) (cr wk:Int):Prop where
 c0:w.cell? ⟨x,0,none⟩=some (.int .i64 C)
 c1:w.cell? ⟨x,1,none⟩=some (.int .u64 cr)
 c2:∃ c,w.cell? ⟨x,2,none⟩=some (.slice (some ⟨L.bg,0,none⟩) n c)
 c3:∃ c,w.cell? ⟨x,3,none⟩=some (.slice (some ⟨L.bl,0,none⟩) C c)
 c4:∃ c,w.cell? ⟨x,4,none⟩=some (.slice (some ⟨L.bu,0,none⟩) C c)
 c5:w.cell? ⟨x,5,none⟩=some (.map (some L.bm))
 c6:∃ c,w.cell? ⟨x,6,none⟩=some (.slice (some ⟨L.bq,0,none⟩) n c)
 c7:∃ c,w.cell? ⟨x,7,none⟩=some (.slice (some ⟨L.ba,0,none⟩) n c)
 c8:∃ c,w.cell? ⟨x,8,none⟩=some (.slice (some ⟨L.bo,0,none⟩) C c)
 c9:w.cell? ⟨x,9,none⟩=some (.int .i64 wk)
 z:∀ j,w.frozen? ⟨x,j,none⟩=false
structure SRaw (w:World) (x:Nat) (L:SLay) (s:SSt):Prop where
 head:HeadAt w x L s.n s.C s.cr s.wk
 gr:GrpsAt w L.bg s.Gs
 cl:IntsAt w L.bl s.C s.cl
 cu:IntsAt w L.bu s.C s.cu
 ld:IntsAt w L.bo s.C s.ld
 rq:RowsAt w L.bq s.n s.C L.rq
 ra:RowsAt w L.ba s.n s.C L.ra
 qc:∀ g,g<s.n→PtrsAt w (L.rq g) s.C (L.qp g)
 ac:∀ g,g<s.n→EntsAt w (L.ra g) s.C (fun k=>(s.Q k).A g)
 map:MapP w L.bm (fun id=>(s.T id).map fun _=>some (L.tp id)) s.c
 tk:∀ id t,s.T id=some t→TskAt w (L.tp id) t
 q:∀ g k,g<s.n→k<s.C→QIn w (L.qp g k) (L.Fq g k) qN ((s.Q k).M g) ((s.Q k).fl g)
 lx:L.lab x=(1,0,0)
 lg:L.lab L.bg=(1,1,0)
 ll:L.lab L.bl=(1,2,0)
 lu:L.lab L.bu=(1,3,0)
 lm:L.lab L.bm=(1,4,0)
 lq:L.lab L.bq=(1,5,0)
 la:L.lab L.ba=(1,6,0)
 lo:L.lab L.bo=(1,7,0)
 lrq:∀ g,g<s.n→L.lab (L.rq g)=(2,(g:Int),0)
 lra:∀ g,g<s.n→L.lab (L.ra g)=(3,(g:Int),0)
 ltk:∀ id t,s.T id=some t→L.lab (L.tp id)=(4,id,0)
 lF:∀ g k,g<s.n→k<s.C→∀ b∈L.Fq g k,L.lab b=(5,(g:Int),k)
 lt:∀ b,L.lab b≠(0,0,0)→b<w.heap.size
section
variable {w w':World} {G:List Nat} {x n C:Nat} {L:SLay} {s:SSt} {cr wk:Int}
theorem HeadAt.lt (h:HeadAt w x L n C cr wk):x<w.heap.size:=lt_of_cell h.c0
theorem HeadAt.kept (h:HeadAt w x L n C cr wk) (hk:Kept G w w') (hb:x∉G):HeadAt w' x L n C cr wk:=
 ⟨hk.cellAt h.c0 hb,hk.cellAt h.c1 hb,h.c2.imp fun c e=>hk.cellAt e hb,h.c3.imp fun c e=>hk.cellAt e hb,h.c4.imp fun c e=>hk.cellAt e hb,hk.cellAt h.c5 hb,h.c6.imp fun c e=>hk.cellAt e hb,h.c7.imp fun c e=>hk.cellAt e hb,h.c8.imp fun c e=>hk.cellAt e hb,hk.cellAt h.c9 hb,fun j=>hk.frz (h.z j) h.lt hb⟩
theorem HeadAt.set (h:HeadAt w x L n C cr wk) (v:Int):HeadAt (w.setCell ⟨x,9,none⟩ (.int .i64 v)) x L n C cr v:=
 ⟨cell_set_ne h.c0 (Or.inr (by decide)),cell_set_ne h.c1 (Or.inr (by decide)),h.c2.imp fun c e=>cell_set_ne e (Or.inr (by decide)),h.c3.imp fun c e=>cell_set_ne e (Or.inr (by decide)),h.c4.imp fun c e=>cell_set_ne e (Or.inr (by decide)),cell_set_ne h.c5 (Or.inr (by decide)),h.c6.imp fun c e=>cell_set_ne e (Or.inr (by decide)),h.c7.imp fun c e=>cell_set_ne e (Or.inr (by decide)),h.c8.imp fun c e=>cell_set_ne e (Or.inr (by decide)),cell_set_eq h.c9,fun j=>by rw [World.frozen?_setCell];exact h.z j⟩
theorem lab_ne {L:SLay} {a b:Nat} {p q:Nat×Int×Nat} (ha:L.lab a=p) (hb:L.lab b=q) (h:p≠q):a≠b:=fun e=>h (by rw [← ha,← hb,e])
theorem SRaw.kept (h:SRaw w x L s) (hk:Kept G w w') (hG:∀ b∈G,L.lab b=(0,0,0)):SRaw w' x L s:=by
 have e:∀ b p,L.lab b=p→p≠(0,0,0)→b∉G:=fun b p hp hn m=>hn (by rw [← hp];exact hG b m)
 exact { h with
  head:=h.head.kept hk (e _ _ h.lx (by simp))
  gr:=h.gr.kept hk (e _ _ h.lg (by simp))
  cl:=h.cl.kept hk (e _ _ h.ll (by simp))
  cu:=h.cu.kept hk (e _ _ h.lu (by simp))
  ld:=h.ld.kept hk (e _ _ h.lo (by simp))
  rq:=h.rq.kept hk (e _ _ h.lq (by simp))
  ra:=h.ra.kept hk (e _ _ h.la (by simp))
  qc:=fun g hg=>(h.qc g hg).kept hk (e _ _ (h.lrq g hg) (by simp))
  ac:=fun g hg=>(h.ac g hg).kept hk (e _ _ (h.lra g hg) (by simp))
  map:=h.map.kept hk (e _ _ h.lm (by simp))
  tk:=fun id t ht=>(h.tk id t ht).kept hk (e _ _ (h.ltk id t ht) (by simp))
  q:=fun g k hg hc=>(h.q g k hg hc).kept hk fun b hb=>e _ _ (h.lF g k hg hc b hb) (by simp)
  lt:=fun b hb=>Nat.lt_of_lt_of_le (h.lt b hb) hk.size }
theorem SRaw.below (h:SRaw w x L s) (hb:Below w.heap.size w w'):SRaw w' x L s:=h.kept (G:=[]) (Kept.of hb) (fun _ q=>by cases q)
def qSet (s:SSt) (k g:Nat) (M:Mems) (fl:Int):SSt:={ s with Q:=upd s.Q k { s.Q k with M:=upd (s.Q k).M g M,fl:=upd (s.Q k).fl g fl } }
def SLay.queue (L:SLay) (g k:Nat) (F':List Nat):SLay:={ L with Fq:=fun i j=>if i=g∧j=k then F' else L.Fq i j,lab:=fun b=>if b∈F' then (5,(g:Int),k) else L.lab b }
theorem SRaw.queue {g k:Nat} {F':List Nat} {M:Mems} {fl:Int} (h:SRaw w x L s) (hg:g<s.n) (hc:k<s.C) (hq:QIn w' (L.qp g k) F' qN M fl) (hs:Step (L.Fq g k) w F' w'):SRaw w' x (L.queue g k F') (qSet s k g M fl):=by
 have hk:=hs.kept
 have e:∀ b p,L.lab b=p→p≠(0,0,0)→p≠(5,(g:Int),k)→b∉L.Fq g k∧(L.queue g k F').lab b=p:=fun b p hp h0 h5=>by
  have n1:b∉L.Fq g k:=fun m=>h5 (by rw [← hp];exact h.lF g k hg hc b m)
  refine ⟨n1,?_⟩
  show (if b∈F' then _ else _)=p
  rw [if_neg]
  ·exact hp
  ·intro m
   rcases hs.new b m with q | q
   ·exact n1 q
   ·have:=h.lt b (by rw [hp];exact h0);omega
 have ex:=e _ _ h.lx (by simp) (by simp)
 have eg:=e _ _ h.lg (by simp) (by simp)
 have el:=e _ _ h.ll (by simp) (by simp)
 have eu:=e _ _ h.lu (by simp) (by simp)
 have em:=e _ _ h.lm (by simp) (by simp)
 have eq:=e _ _ h.lq (by simp) (by simp)
 have ea:=e _ _ h.la (by simp) (by simp)
 have eo:=e _ _ h.lo (by simp) (by simp)
 have erq:=fun i (hi:i<s.n)=>e _ _ (h.lrq i hi) (by simp) (by simp)
 have era:=fun i (hi:i<s.n)=>e _ _ (h.lra i hi) (by simp) (by simp)
 have etk:=fun id t (ht:s.T id=some t)=>e _ _ (h.ltk id t ht) (by simp) (by simp)
 exact {
  head:=h.head.kept hk ex.1 |> fun q=>⟨q.c0,q.c1,q.c2,q.c3,q.c4,q.c5,q.c6,q.c7,q.c8,q.c9,q.z⟩
  gr:=h.gr.kept hk eg.1
  cl:=h.cl.kept hk el.1
  cu:=h.cu.kept hk eu.1
  ld:=h.ld.kept hk eo.1
  rq:=h.rq.kept hk eq.1
  ra:=h.ra.kept hk ea.1
  qc:=fun i hi=>(h.qc i hi).kept hk (erq i hi).1
  ac:=fun i hi=>by
   have:=(h.ac i hi).kept hk (era i hi).1
   have e2:(fun j=>((qSet s k g M fl).Q j).A i)=fun j=>(s.Q j).A i:=funext fun j=>by
    show (upd s.Q k _ j).A i=_
    by_cases q:j=k
    ·subst q;rw [upd_same]
    ·rw [upd_other _ _ q]
   rw [e2];exact this
  map:=h.map.kept hk em.1
  tk:=fun id t ht=>(h.tk id t ht).kept hk (etk id t ht).1
  q:=fun i j hi hj=>by
   show QIn w' (L.qp i j) (if i=g∧j=k then F' else L.Fq i j) qN ((upd s.Q k _ j).M i) ((upd s.Q k _ j).fl i)
   by_cases q:i=g∧j=k
   ·obtain ⟨rfl,rfl⟩:=q
    rw [if_pos ⟨rfl,rfl⟩,upd_same]
    show QIn w' _ F' qN (upd _ i M i) (upd _ i fl i)
    rw [upd_same,upd_same]
    exact hq
   ·rw [if_neg q]
    have hkeep:=(h.q i j hi hj).kept hk fun b hb m=>q (by
     have a1:=h.lF i j hi hj b hb
     rw [h.lF g k hg hc b m] at a1
     simp only [Prod.mk.injEq] at a1
     omega)
    by_cases q2:j=k
    ·subst q2
     rw [upd_same]
     have q3:i≠g:=fun e=>q ⟨e,rfl⟩
     show QIn w' _ _ qN (upd _ g M i) (upd _ g fl i)
     rw [upd_other _ _ q3,upd_other _ _ q3]
     exact hkeep
    ·rw [upd_other _ _ q2];exact hkeep
  lx:=ex.2
  lg:=eg.2
  ll:=el.2
  lu:=eu.2
  lm:=em.2
  lq:=eq.2
  la:=ea.2
  lo:=eo.2
  lrq:=fun i hi=>(erq i hi).2
  lra:=fun i hi=>(era i hi).2
  ltk:=fun id t ht=>(etk id t ht).2
  lF:=fun i j hi hj b hb=>by
   show (if b∈F' then ((5:Nat),(g:Int),k) else L.lab b)=_
   replace hb:b∈(if i=g∧j=k then F' else L.Fq i j):=hb
   by_cases q:i=g∧j=k
   ·rw [if_pos q] at hb
    rw [if_pos hb,q.1,q.2]
   ·rw [if_neg q] at hb
    have a1:=h.lF i j hi hj b hb
    rw [if_neg]
    ·exact a1
    ·intro m
     rcases hs.new b m with r | r
     ·rw [h.lF g k hg hc b r] at a1
      simp only [Prod.mk.injEq] at a1
      exact q (by omega)
     ·have:=h.lt b (by rw [a1];simp);omega
  lt:=fun b hb=>by
   replace hb:(if b∈F' then ((5:Nat),(g:Int),k) else L.lab b)≠(0,0,0):=hb
   by_cases q:b∈F'
   ·exact hq.lt b q
   ·rw [if_neg q] at hb
    exact Nat.lt_of_lt_of_le (h.lt b hb) hk.size }
theorem SRaw.ghost {Q:Nat→TSt} (h:SRaw w x L s) (hM:∀ k,(Q k).M=(s.Q k).M) (hf:∀ k,(Q k).fl=(s.Q k).fl) (hA:∀ k,(Q k).A=(s.Q k).A):SRaw w x L { s with Q:=Q }:=
 {h with
  ac:=fun g hg=>by
   have e:(fun k=>(Q k).A g)=fun k=>(s.Q k).A g:=funext fun k=>by rw [hA]
   show EntsAt w (L.ra g) s.C (fun k=>(Q k).A g)
   rw [e];exact h.ac g hg
  q:=fun g k hg hk=>by
   show QIn w _ _ qN ((Q k).M g) ((Q k).fl g)
   rw [hM,hf];exact h.q g k hg hk }
theorem SRaw.work (h:SRaw w x L s) (v:Int):SRaw (w.setCell ⟨x,9,none⟩ (.int .i64 v)) x L { s with wk:=v }:=by
 have hk:Kept [x] w (w.setCell ⟨x,9,none⟩ (.int .i64 v)):=(Kept.refl _ _).setCell (Or.inl (by simp)) _
 have e:∀ b p,L.lab b=p→p≠(1,0,0)→b∉[x]:=fun b p hp hn m=>by
  simp at m;subst m;exact hn (by rw [← hp];exact h.lx)
 exact { h with
  head:=h.head.set v
  gr:=h.gr.kept hk (e _ _ h.lg (by simp))
  cl:=h.cl.kept hk (e _ _ h.ll (by simp))
  cu:=h.cu.kept hk (e _ _ h.lu (by simp))
  ld:=h.ld.kept hk (e _ _ h.lo (by simp))
  rq:=h.rq.kept hk (e _ _ h.lq (by simp))
  ra:=h.ra.kept hk (e _ _ h.la (by simp))
  qc:=fun g hg=>(h.qc g hg).kept hk (e _ _ (h.lrq g hg) (by simp))
  ac:=fun g hg=>(h.ac g hg).kept hk (e _ _ (h.lra g hg) (by simp))
  map:=h.map.kept hk (e _ _ h.lm (by simp))
  tk:=fun id t ht=>(h.tk id t ht).kept hk (e _ _ (h.ltk id t ht) (by simp))
  q:=fun g k hg hc=>(h.q g k hg hc).kept hk fun b hb=>e _ _ (h.lF g k hg hc b hb) (by simp)
  lt:=fun b hb=>Nat.lt_of_lt_of_le (h.lt b hb) hk.size }
theorem SRaw.load {k:Nat} (h:SRaw w x L s) (hk:k<s.C) (v:Int):SRaw (w.setCell ⟨L.bo,k,none⟩ (.int .i64 v)) x L { s with ld:=upd s.ld k v }:=by
 have hkp:Kept [L.bo] w (w.setCell ⟨L.bo,k,none⟩ (.int .i64 v)):=(Kept.refl _ _).setCell (Or.inl (by simp)) _
 have e:∀ b p,L.lab b=p→p≠(1,7,0)→b∉[L.bo]:=fun b p hp hn m=>by
  simp at m;subst m;exact hn (by rw [← hp];exact h.lo)
 exact { h with
  head:=h.head.kept hkp (e _ _ h.lx (by simp))
  gr:=h.gr.kept hkp (e _ _ h.lg (by simp))
  cl:=h.cl.kept hkp (e _ _ h.ll (by simp))
  cu:=h.cu.kept hkp (e _ _ h.lu (by simp))
  ld:=h.ld.set hk v
  rq:=h.rq.kept hkp (e _ _ h.lq (by simp))
  ra:=h.ra.kept hkp (e _ _ h.la (by simp))
  qc:=fun g hg=>(h.qc g hg).kept hkp (e _ _ (h.lrq g hg) (by simp))
  ac:=fun g hg=>(h.ac g hg).kept hkp (e _ _ (h.lra g hg) (by simp))
  map:=h.map.kept hkp (e _ _ h.lm (by simp))
  tk:=fun id t ht=>(h.tk id t ht).kept hkp (e _ _ (h.ltk id t ht) (by simp))
  q:=fun g k hg hc=>(h.q g k hg hc).kept hkp fun b hb=>e _ _ (h.lF g k hg hc b hb) (by simp)
  lt:=fun b hb=>Nat.lt_of_lt_of_le (h.lt b hb) hkp.size }
theorem SRaw.clock {k:Nat} (h:SRaw w x L s) (hk:k<s.C) (v:Int):SRaw (w.setCell ⟨L.bl,k,none⟩ (.int .i64 v)) x L { s with cl:=upd s.cl k v }:=by
 have hkp:Kept [L.bl] w (w.setCell ⟨L.bl,k,none⟩ (.int .i64 v)):=(Kept.refl _ _).setCell (Or.inl (by simp)) _
 have e:∀ b p,L.lab b=p→p≠(1,2,0)→b∉[L.bl]:=fun b p hp hn m=>by
  simp at m;subst m;exact hn (by rw [← hp];exact h.ll)
 exact { h with
  head:=h.head.kept hkp (e _ _ h.lx (by simp))
  gr:=h.gr.kept hkp (e _ _ h.lg (by simp))
  cl:=h.cl.set hk v
  cu:=h.cu.kept hkp (e _ _ h.lu (by simp))
  ld:=h.ld.kept hkp (e _ _ h.lo (by simp))
  rq:=h.rq.kept hkp (e _ _ h.lq (by simp))
  ra:=h.ra.kept hkp (e _ _ h.la (by simp))
  qc:=fun g hg=>(h.qc g hg).kept hkp (e _ _ (h.lrq g hg) (by simp))
  ac:=fun g hg=>(h.ac g hg).kept hkp (e _ _ (h.lra g hg) (by simp))
  map:=h.map.kept hkp (e _ _ h.lm (by simp))
  tk:=fun id t ht=>(h.tk id t ht).kept hkp (e _ _ (h.ltk id t ht) (by simp))
  q:=fun g k hg hc=>(h.q g k hg hc).kept hkp fun b hb=>e _ _ (h.lF g k hg hc b hb) (by simp)
  lt:=fun b hb=>Nat.lt_of_lt_of_le (h.lt b hb) hkp.size }
theorem SRaw.now {k:Nat} (h:SRaw w x L s) (hk:k<s.C) (v:Int):SRaw (w.setCell ⟨L.bu,k,none⟩ (.int .i64 v)) x L { s with cu:=upd s.cu k v }:=by
 have hkp:Kept [L.bu] w (w.setCell ⟨L.bu,k,none⟩ (.int .i64 v)):=(Kept.refl _ _).setCell (Or.inl (by simp)) _
 have e:∀ b p,L.lab b=p→p≠(1,3,0)→b∉[L.bu]:=fun b p hp hn m=>by
  simp at m;subst m;exact hn (by rw [← hp];exact h.lu)
 exact { h with
  head:=h.head.kept hkp (e _ _ h.lx (by simp))
  gr:=h.gr.kept hkp (e _ _ h.lg (by simp))
  cl:=h.cl.kept hkp (e _ _ h.ll (by simp))
  cu:=h.cu.set hk v
  ld:=h.ld.kept hkp (e _ _ h.lo (by simp))
  rq:=h.rq.kept hkp (e _ _ h.lq (by simp))
  ra:=h.ra.kept hkp (e _ _ h.la (by simp))
  qc:=fun g hg=>(h.qc g hg).kept hkp (e _ _ (h.lrq g hg) (by simp))
  ac:=fun g hg=>(h.ac g hg).kept hkp (e _ _ (h.lra g hg) (by simp))
  map:=h.map.kept hkp (e _ _ h.lm (by simp))
  tk:=fun id t ht=>(h.tk id t ht).kept hkp (e _ _ (h.ltk id t ht) (by simp))
  q:=fun g k hg hc=>(h.q g k hg hc).kept hkp fun b hb=>e _ _ (h.lF g k hg hc b hb) (by simp)
  lt:=fun b hb=>Nat.lt_of_lt_of_le (h.lt b hb) hkp.size }
def aSet (s:SSt) (k g:Nat) (y:Ent):SSt:={ s with Q:=upd s.Q k { s.Q k with A:=upd (s.Q k).A g y } }
theorem SRaw.aside {k g:Nat} {y:Ent} (h:SRaw w x L s) (hg:g<s.n) (hk:k<s.C) (hy:Ch.Fits y.1 y.2.1 y.2.2):SRaw (set3 w (L.ra g) (k*3) y) x L (aSet s k g y):=by
 have hkp:=set3_kept w (L.ra g) (k*3) y
 have e:∀ b p,L.lab b=p→p≠(3,(g:Int),0)→b∉[L.ra g]:=fun b p hp hn m=>by
  simp at m;subst m;exact hn (by rw [← hp];exact h.lra g hg)
 have ac:∀ i,i<s.n→EntsAt (set3 w (L.ra g) (k*3) y) (L.ra i) s.C (fun j=>((aSet s k g y).Q j).A i):=fun i hi=>by
  by_cases q:i=g
  ·subst q
   have e2:(fun j=>((aSet s k i y).Q j).A i)=upd (fun j=>(s.Q j).A i) k y:=funext fun j=>by
    show (upd s.Q k _ j).A i=_
    by_cases q:j=k
    ·subst q;rw [upd_same,upd_same];exact upd_same _ _ _
    ·rw [upd_other _ _ q,upd_other _ _ q]
   rw [e2]
   exact (h.ac i hi).set hk hy
  ·have e2:(fun j=>((aSet s k g y).Q j).A i)=fun j=>(s.Q j).A i:=funext fun j=>by
    show (upd s.Q k _ j).A i=_
    by_cases q2:j=k
    ·subst q2;rw [upd_same];exact upd_other _ _ q
    ·rw [upd_other _ _ q2]
   rw [e2]
   exact (h.ac i hi).kept hkp (e _ _ (h.lra i hi) (by simp;omega))
 have qq:∀ i j,i<s.n→j<s.C→QIn (set3 w (L.ra g) (k*3) y) (L.qp i j) (L.Fq i j) qN (((aSet s k g y).Q j).M i) (((aSet s k g y).Q j).fl i):=fun i j hi hj=>by
  have:=(h.q i j hi hj).kept hkp fun b hb=>e _ _ (h.lF i j hi hj b hb) (by simp)
  have e2:((aSet s k g y).Q j).M=(s.Q j).M∧((aSet s k g y).Q j).fl=(s.Q j).fl:=by
   show (upd s.Q k _ j).M=_∧(upd s.Q k _ j).fl=_
   by_cases q2:j=k
   ·subst q2;rw [upd_same];exact ⟨rfl,rfl⟩
   ·rw [upd_other _ _ q2];exact ⟨rfl,rfl⟩
  rw [e2.1,e2.2];exact this
 exact { h with
  head:=h.head.kept hkp (e _ _ h.lx (by simp))
  gr:=h.gr.kept hkp (e _ _ h.lg (by simp))
  cl:=h.cl.kept hkp (e _ _ h.ll (by simp))
  cu:=h.cu.kept hkp (e _ _ h.lu (by simp))
  ld:=h.ld.kept hkp (e _ _ h.lo (by simp))
  rq:=h.rq.kept hkp (e _ _ h.lq (by simp))
  ra:=h.ra.kept hkp (e _ _ h.la (by simp))
  qc:=fun g hg=>(h.qc g hg).kept hkp (e _ _ (h.lrq g hg) (by simp))
  ac:=ac
  map:=h.map.kept hkp (e _ _ h.lm (by simp))
  tk:=fun id t ht=>(h.tk id t ht).kept hkp (e _ _ (h.ltk id t ht) (by simp))
  q:=qq
  lt:=fun b hb=>Nat.lt_of_lt_of_le (h.lt b hb) hkp.size }
theorem SRaw.task {id:Int} {t t':Tsk} (h:SRaw w x L s) (hT:s.T id=some t) (hk:Kept [L.tp id] w w') (ht:TskAt w' (L.tp id) t'):SRaw w' x L (tskS s id t'):=by
 have e:∀ b p,L.lab b=p→p≠(4,id,0)→b∉[L.tp id]:=fun b p hp hn m=>by
  simp at m;subst m;exact hn (by rw [← hp];exact h.ltk id t hT)
 exact { h with
  head:=h.head.kept hk (e _ _ h.lx (by simp))
  gr:=h.gr.kept hk (e _ _ h.lg (by simp))
  cl:=h.cl.kept hk (e _ _ h.ll (by simp))
  cu:=h.cu.kept hk (e _ _ h.lu (by simp))
  ld:=h.ld.kept hk (e _ _ h.lo (by simp))
  rq:=h.rq.kept hk (e _ _ h.lq (by simp))
  ra:=h.ra.kept hk (e _ _ h.la (by simp))
  qc:=fun g hg=>(h.qc g hg).kept hk (e _ _ (h.lrq g hg) (by simp))
  ac:=fun g hg=>(h.ac g hg).kept hk (e _ _ (h.lra g hg) (by simp))
  map:=by
   have e2:(fun j=>(((tskS s id t').T j).map fun _=>some (L.tp j)))=fun j=>(s.T j).map fun _=>some (L.tp j):=funext fun j=>by
    show (setF s.T id (some t') j).map _=_
    by_cases q:j=id
    ·subst q;rw [setF_same,hT];rfl
    ·rw [setF_other _ _ q]
   rw [e2]
   exact h.map.kept hk (e _ _ h.lm (by simp))
  tk:=fun j t2 hj=>by
   replace hj:setF s.T id (some t') j=some t2:=hj
   by_cases q:j=id
   ·subst q;rw [setF_same] at hj;cases hj;exact ht
   ·rw [setF_other _ _ q] at hj
    exact (h.tk j t2 hj).kept hk (e _ _ (h.ltk j t2 hj) (by simp;exact q))
  q:=fun g k hg hc=>(h.q g k hg hc).kept hk fun b hb=>e _ _ (h.lF g k hg hc b hb) (by simp)
  ltk:=fun j t2 hj=>by
   replace hj:setF s.T id (some t') j=some t2:=hj
   by_cases q:j=id
   ·subst q;exact h.ltk j t hT
   ·rw [setF_other _ _ q] at hj;exact h.ltk j t2 hj
  lt:=fun b hb=>Nat.lt_of_lt_of_le (h.lt b hb) hk.size }
end
structure SStep (L:SLay) (w:World) (L':SLay) (w':World):Prop where
 os:w'.os=w.os
 tape:w'.tape=w.tape
 output:w'.output=w.output
 size:w.heap.size≤w'.heap.size
 same:∀ b,b<w.heap.size→L.lab b=(0,0,0)→w'.heap[b]?=w.heap[b]?
 new:∀ b,L'.lab b≠(0,0,0)→L.lab b≠(0,0,0)∨w.heap.size≤b
section
variable {w w' w'':World} {L L' L'':SLay} {x:Nat} {s:SSt}
theorem SStep.refl (L:SLay) (w:World):SStep L w L w:=⟨rfl,rfl,rfl,Nat.le_refl _,fun _ _ _=>rfl,fun b h=>Or.inl h⟩
theorem SStep.trans (h:SStep L w L' w') (k:SStep L' w' L'' w''):SStep L w L'' w'':=
 ⟨k.os.trans h.os,k.tape.trans h.tape,k.output.trans h.output,Nat.le_trans h.size k.size,fun b hb hl=>by
  refine (k.same b (Nat.lt_of_lt_of_le hb h.size) ?_).trans (h.same b hb hl)
  refine Decidable.byContradiction fun n=>?_
  rcases h.new b n with q | q
  ·exact q hl
  ·omega,fun b hb=>by
  rcases k.new b hb with q | q
  ·exact h.new b q
  ·exact Or.inr (Nat.le_trans h.size q)⟩
theorem SStep.of_kept {G:List Nat} (h:Kept G w w') (hG:∀ b∈G,L.lab b≠(0,0,0)):SStep L w L w':=
 ⟨h.os,h.tape,h.output,h.size,fun b hb hl=>h.block b hb fun m=>hG b m hl,fun b h=>Or.inl h⟩
theorem SStep.of (h:Below w.heap.size w w'):SStep L w L w':=SStep.of_kept (G:=[]) (Kept.of h) fun _ q=>by cases q
theorem SStep.cell (h:SStep L w L' w') {b o:Nat} {v:Value} (hl:L.lab b=(0,0,0)) (hc:w.cell? ⟨b,o,none⟩=some v):w'.cell? ⟨b,o,none⟩=some v:=
 (World.cell?_of_block (w:=w) (w':=w') (a:=⟨b,o,none⟩) (h.same b (lt_of_cell hc) hl)).trans hc
theorem SStep.frz (h:SStep L w L' w') {b o:Nat} (hl:L.lab b=(0,0,0)) (hb:b<w.heap.size) (hc:w.frozen? ⟨b,o,none⟩=false):w'.frozen? ⟨b,o,none⟩=false:=
 (World.frozen?_of_block (w:=w) (w':=w') (a:=⟨b,o,none⟩) (h.same b hb hl)).trans hc
theorem SStep.off (h:SStep L w L' w') {b:Nat} (hb:b<w.heap.size) (hl:L.lab b=(0,0,0)):L'.lab b=(0,0,0):=Decidable.byContradiction fun n=>by
 rcases h.new b n with q | q
 ·exact q hl
 ·omega
theorem SRaw.none_at (h:SRaw w x L s) {b:Nat} (hb:w.heap.size≤b):L.lab b=(0,0,0):=Decidable.byContradiction fun n=>by
 have:=h.lt b n;omega
theorem SStep.queue {g k:Nat} {F':List Nat} (h:SRaw w x L s) (hg:g<s.n) (hc:k<s.C) (hs:Step (L.Fq g k) w F' w'):SStep L w (L.queue g k F') w':=
 ⟨hs.kept.os,hs.kept.tape,hs.kept.output,hs.kept.size,fun b hb hl=>hs.kept.block b hb fun m=>by
  rw [h.lF g k hg hc b m] at hl;simp at hl,fun b hb=>by
  replace hb:(if b∈F' then ((5:Nat),(g:Int),k) else L.lab b)≠(0,0,0):=hb
  by_cases q:b∈F'
  ·rcases hs.new b q with r | r
   ·exact Or.inl (by rw [h.lF g k hg hc b r];simp)
   ·exact Or.inr r
  ·rw [if_neg q] at hb;exact Or.inl hb⟩
theorem SStep.own {G:List Nat} (h:SStep L w L' w') (hk:Kept G w' w'') (hG:∀ b∈G,w.heap.size≤b):SStep L w L' w'':=
 ⟨hk.os.trans h.os,hk.tape.trans h.tape,hk.output.trans h.output,Nat.le_trans h.size hk.size,fun b hb hl=>(hk.block b (Nat.lt_of_lt_of_le hb h.size) fun m=>by have:=hG b m;omega).trans (h.same b hb hl),h.new⟩
end
def SIn (w:World) (x:Nat) (F:List Nat) (s:SSt):Prop:=∃ L,SRaw w x L s∧∀ b,L.lab b≠(0,0,0)→b∈F
def SLeft (w:World) (x:Nat) (L:SLay) (s:SSt) (w':World):Prop:=∃ L',SRaw w' x L' s∧SStep L w L' w'∧L'.tp=L.tp
theorem SLeft.same {w w':World} {x:Nat} {L:SLay} {s:SSt} (h:SRaw w x L s) (hb:Below w.heap.size w w'):SLeft w x L s w':=⟨L,h.below hb,SStep.of hb,rfl⟩
def SAfter (w:World) (x:Nat) (F:List Nat) (s:SSt) (w':World):Prop:=∃ F',SIn w' x F' s∧Step F w F' w'
theorem SIn.of {w w':World} {x:Nat} {L L':SLay} {F:List Nat} {s:SSt} (h:SRaw w' x L' s) (hF:∀ b,L.lab b≠(0,0,0)→b∈F) (hs:SStep L w L' w'):SAfter w x F s w':=by
 refine ⟨F++(List.range w'.heap.size).filter fun b=>decide (w.heap.size≤b),⟨L',h,fun b hb=>?_⟩,⟨⟨hs.os,hs.tape,hs.output,hs.size,fun b hb hn=>hs.same b hb (Decidable.byContradiction fun n=>hn (hF b n))⟩,fun b hb=>?_⟩⟩
 ·rcases hs.new b hb with q | q
  ·exact List.mem_append_left _ (hF b q)
  ·exact List.mem_append_right _ (List.mem_filter.2 ⟨List.mem_range.2 (h.lt b hb),by simpa using q⟩)
 ·rcases List.mem_append.1 hb with q | q
  ·exact Or.inl q
  ·exact Or.inr (by simpa using (List.mem_filter.1 q).2)
end Go.Proofs.YtapnaocdehahdaaGreat
