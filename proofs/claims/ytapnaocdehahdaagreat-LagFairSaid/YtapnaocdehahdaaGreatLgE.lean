/-
  Layer 30 (model): a model in memory that changes.
-/
import Derived.Test.YtapnaocdehahdaaGreatSchMc
namespace Go.Proofs.YtapnaocdehahdaaGreat
open Go.RowKit Go.Maps Go.IntWalk Go.Lib
set_option linter.unusedVariables false
set_option linter.unusedSimpArgs false
theorem flatR_setc {α:Type} {enc:α→List Value} {K:Nat} (he:Enc enc K):∀ {L:List α} {i:Nat} {x y:α} (_:L[i]?=some x) {j:Nat} (_:j<K) {u:Value} (_:enc y=(enc x).set j u),(flatR enc L).set (i*K+j) u=flatR enc (L.set i y)
 | [],i,x,y,hx,j,hj,u,e=>by simp at hx
 | a::r,0,x,y,hx,j,hj,u,e=>by
  cases hx
  show (enc a++flatR enc r).set _ u=enc y++flatR enc r
  rw [Nat.zero_mul,Nat.zero_add,List.set_append_left _ _ (by rw [he.len];exact hj),e]
 | a::r,i+1,x,y,hx,j,hj,u,e=>by
  show (enc a++flatR enc r).set _ u=enc a++flatR enc (r.set i y)
  rw [List.set_append_right _ _ (by rw [he.len,Nat.add_mul];omega),he.len,show (i+1)*K+j - K=i*K+j by rw [Nat.add_mul];omega,flatR_setc he (by simpa using hx) hj e]
structure SpsAt (w:World) (b C:Nat) (f:Nat→Int×Int×Int):Prop where
 c:∀ k,k<C→w.cell? ⟨b,k*3,none⟩=some (.int .u64 (f k).1)∧w.cell? ⟨b,k*3+1,none⟩=some (.int .u32 (f k).2.1)∧w.cell? ⟨b,k*3+2,none⟩=some (.int .u64 (f k).2.2)
 z:∀ j,w.frozen? ⟨b,j,none⟩=false
 lt:b<w.heap.size
structure TsAt (w:World) (v:Value) (tb:Option Nat) (ts:List TVw):Prop where
 own:w.ownsRow 0 59 8 v ts.length (flatR encTl ts)
 blk:v.ownBlock=tb
def SlAt (w:World) (x j b n:Nat):Prop:=∃ c,n≤c∧c≤9223372036854775807∧w.cell? ⟨x,j,none⟩=some (.slice (some ⟨b,0,none⟩) n c)
structure RwsAt (w:World) (b n C:Nat) (f:Nat→Nat):Prop where
 c:∀ k,k<n→SlAt w b k (f k) C
 lt:b<w.heap.size
section
variable {w w':World} {G:List Nat} {b n C:Nat}
theorem SlAt.kept {x j:Nat} (h:SlAt w x j b n) (hk:Kept G w w') (hb:x∉G):SlAt w' x j b n:=h.imp fun c q=>⟨q.1,q.2.1,hk.cellAt q.2.2 hb⟩
theorem SlAt.ne {x j x' j':Nat} {u:Value} (h:SlAt w x j b n) (hn:x≠x'∨j≠j'):SlAt (w.setCell ⟨x',j',none⟩ u) x j b n:=h.imp fun c q=>⟨q.1,q.2.1,cell_set_ne q.2.2 hn⟩
theorem RwsAt.kept {f:Nat→Nat} (h:RwsAt w b n C f) (hk:Kept G w w') (hb:b∉G):RwsAt w' b n C f:=⟨fun k q=>(h.c k q).kept hk hb,Nat.lt_of_lt_of_le h.lt hk.size⟩
theorem SpsAt.kept {f:Nat→Int×Int×Int} (h:SpsAt w b C f) (hk:Kept G w w') (hb:b∉G):SpsAt w' b C f:=⟨fun k q=>⟨hk.cellAt (h.c k q).1 hb,hk.cellAt (h.c k q).2.1 hb,hk.cellAt (h.c k q).2.2 hb⟩,fun j=>hk.frz (h.z j) h.lt hb,Nat.lt_of_lt_of_le h.lt hk.size⟩
theorem SpsAt.congr {f g:Nat→Int×Int×Int} (h:SpsAt w b C f) (e:∀ k,k<C→f k=g k):SpsAt w b C g:=⟨fun k q=>by rw [← e k q];exact h.c k q,h.z,h.lt⟩
theorem SpsAt.setF {f:Nat→Int×Int×Int} (h:SpsAt w b C f) {k:Nat} (hk:k<C) (v:Int):SpsAt (w.setCell ⟨b,k*3+2,none⟩ (.int .u64 v)) b C (upd f k ((f k).1,(f k).2.1,v)):=⟨fun j q=>by
 obtain ⟨c0,c1,c2⟩:=h.c j q
 by_cases e:j=k
 ·subst e
  simp only [upd_same]
  exact ⟨cell_set_ne c0 (Or.inr (by omega)),cell_set_ne c1 (Or.inr (by omega)),cell_set_eq c2⟩
 ·simp only [upd_other _ _ e]
  exact ⟨cell_set_ne c0 (Or.inr (by omega)),cell_set_ne c1 (Or.inr (by omega)),cell_set_ne c2 (Or.inr (by omega))⟩,fun j=>by rw [World.frozen?_setCell];exact h.z j,by simp;exact h.lt⟩
variable {v:Value} {tb:Option Nat} {ts:List TVw}
theorem TsAt.kept (h:TsAt w v tb ts) (hk:Kept G w w') (hb:∀ b,tb=some b→b∉G):TsAt w' v tb ts:=⟨own_kept h.own hk fun b e=>hb b (by rw [← h.blk];exact e),h.blk⟩
theorem TsAt.lt (h:TsAt w v tb ts) {b:Nat} (e:tb=some b):b<w.heap.size:=(h.own.lt b (by rw [h.blk];exact e)).2
theorem TsAt.some (h:TsAt w v tb ts) {i:Nat} {y:TVw} (hy:ts[i]?=some y):∃ b c,tb=some b∧v=.slice (some ⟨b,0,none⟩) ts.length c:=by
 rcases h.own.2 with ⟨_,h0⟩ | ⟨g,cap,cur,e,_⟩
 ·rw [List.eq_nil_of_length_eq_zero h0] at hy;cases hy
 ·refine ⟨g,cap,?_,e⟩
  rw [← h.blk,e];rfl
theorem TsAt.shape (h:TsAt w v tb ts):∃ a c,v=.slice a ts.length c:=by
 rcases h.own.2 with ⟨e,h0⟩ | ⟨g,cap,cur,e,_⟩
 ·exact ⟨none,0,by rw [h0];exact e⟩
 ·exact ⟨_,cap,e⟩
theorem TsAt.held {F:List Nat} (h:TsAt w v tb ts) (hF:∀ b,tb=Option.some b→b∉F):HeldR encTl F w v ts:=by
 rcases h.own.2 with ⟨rfl,h0⟩ | ⟨g,cap,cur,rfl,_,_,h5,h6,_⟩
 ·have e:ts=[]:=List.eq_nil_of_length_eq_zero h0
  subst e
  exact ⟨none,0,rfl,Nat.le_refl _,by omega,fun _=>rfl,Or.inl rfl⟩
 ·have hl:=(h.own.lt g rfl).2
  refine ⟨Option.some ⟨g,0,none⟩,cap,rfl,h5,by unfold maxLen at h6;omega,(fun q=>by cases q),Or.inr ⟨g,0,rfl,⟨hF g (by rw [← h.blk];rfl),hl⟩,fun j u hu=>?_⟩⟩
  have hj:j<ts.length*8:=by rw [← flatR_len encTl_ok];exact (List.getElem?_eq_some_iff.1 hu).1
  rw [Nat.zero_add,h.own.cellAt j hj]
  exact hu
theorem TsAt.cell {b c:Nat} (h:TsAt w (.slice (Option.some ⟨b,0,none⟩) ts.length c) tb ts) {i:Nat} {y:TVw} (hy:ts[i]?=Option.some y) {j:Nat} (hj:j<8):w.cell? ⟨b,i*8+j,none⟩=(encTl y)[j]?∧w.frozen? ⟨b,i*8+j,none⟩=false:=by
 have hi:=(List.getElem?_eq_some_iff.1 hy).1
 exact ⟨by rw [h.own.cellAt _ (by omega)];exact flatR_at encTl_ok hy j hj,h.own.frozenAt _⟩
theorem TsAt.set {b c:Nat} (h:TsAt w (.slice (Option.some ⟨b,0,none⟩) ts.length c) tb ts) {i:Nat} {y y':TVw} (hy:ts[i]?=Option.some y) {j:Nat} (hj:j<8) {u:Value} (e:encTl y'=(encTl y).set j u):TsAt (w.setCell ⟨b,i*8+j,none⟩ u) (.slice (Option.some ⟨b,0,none⟩) ts.length c) tb (ts.set i y'):=by
 refine ⟨?_,h.blk⟩
 rw [List.length_set,← flatR_setc encTl_ok hy hj e]
 exact (h.own.stored _ u).1
end
structure MSt where
 C:Nat
 cr:Int
 Gs:Grps
 cl:Nat→Int
 cu:Nat→Int
 ts:List TVw
 sp:Nat→Nat→Int×Int×Int
def MSt.n (m:MSt):Nat:=m.Gs.length
def MSt.sta (m:MSt):Sta:=⟨m.C,m.cr,m.Gs,(List.range m.C).map m.cl,(List.range m.C).map m.cu,m.ts,(List.range m.n).map fun g=>(List.range m.C).map (m.sp g)⟩
structure MLay where
 g:Nat
 l:Nat
 u:Nat
 t:Option Nat
 s:Nat
 r:Nat→Nat
 lab:Nat→Nat×Nat
structure MIn (w:World) (x:Nat) (L:MLay) (m:MSt):Prop where
 c0:w.cell? ⟨x,0,none⟩=some (.int .i64 m.C)
 c1:w.cell? ⟨x,1,none⟩=some (.int .u64 m.cr)
 c2:SlAt w x 2 L.g m.n
 c3:SlAt w x 3 L.l m.C
 c4:SlAt w x 4 L.u m.C
 c5:∃ v,w.cell? ⟨x,5,none⟩=some v∧TsAt w v L.t m.ts
 c6:SlAt w x 6 L.s m.n
 c7:w.cell? ⟨x,7,none⟩=some (.bool true)
 z:∀ j,w.frozen? ⟨x,j,none⟩=false
 gr:GrpsAt w L.g m.Gs
 cl:IntsAt w L.l m.C m.cl
 cu:IntsAt w L.u m.C m.cu
 rows:RwsAt w L.s m.n m.C L.r
 sp:∀ g,g<m.n→SpsAt w (L.r g) m.C (m.sp g)
 lx:L.lab x=(1,0)
 lg:L.lab L.g=(1,1)
 ll:L.lab L.l=(1,2)
 lu:L.lab L.u=(1,3)
 lt:∀ b,L.t=some b→L.lab b=(1,4)
 ls:L.lab L.s=(1,5)
 lr:∀ g,g<m.n→L.lab (L.r g)=(2,g)
 lz:∀ b,L.lab b≠(0,0)→b<w.heap.size
section
variable {w w' w1:World} {G:List Nat} {x:Nat} {L:MLay} {m:MSt}
theorem mlab_ne {L:MLay} {a b:Nat} {p q:Nat×Nat} (ha:L.lab a=p) (hb:L.lab b=q) (h:p≠q):a≠b:=fun e=>h (by rw [← ha,← hb,e])
theorem MIn.kept (h:MIn w x L m) (hk:Kept G w w') (hG:∀ b∈G,L.lab b=(0,0)):MIn w' x L m:=by
 have e:∀ b p,L.lab b=p→p≠(0,0)→b∉G:=fun b p hp hn m=>hn (by rw [← hp];exact hG b m)
 have ex:=e _ _ h.lx (by simp)
 exact { h with
  c0:=hk.cellAt h.c0 ex
  c1:=hk.cellAt h.c1 ex
  c2:=h.c2.kept hk ex
  c3:=h.c3.kept hk ex
  c4:=h.c4.kept hk ex
  c5:=h.c5.imp fun v q=>⟨hk.cellAt q.1 ex,q.2.kept hk fun b hb=>e _ _ (h.lt b hb) (by simp)⟩
  c6:=h.c6.kept hk ex
  c7:=hk.cellAt h.c7 ex
  z:=fun j=>hk.frz (h.z j) (lt_of_cell h.c0) ex
  gr:=h.gr.kept hk (e _ _ h.lg (by simp))
  cl:=h.cl.kept hk (e _ _ h.ll (by simp))
  cu:=h.cu.kept hk (e _ _ h.lu (by simp))
  rows:=h.rows.kept hk (e _ _ h.ls (by simp))
  sp:=fun g hg=>(h.sp g hg).kept hk (e _ _ (h.lr g hg) (by simp))
  lz:=fun b hb=>Nat.lt_of_lt_of_le (h.lz b hb) hk.size }
theorem MIn.below (h:MIn w x L m) (hb:Below w.heap.size w w'):MIn w' x L m:=h.kept (G:=[]) (Kept.of hb) (fun _ q=>by cases q)
theorem MIn.clock {k:Nat} (h:MIn w x L m) (hkC:k<m.C) (v:Int):MIn (w.setCell ⟨L.l,k,none⟩ (.int .i64 v)) x L { m with cl:=upd m.cl k v }:=by
 have hk:Kept [L.l] w (w.setCell ⟨L.l,k,none⟩ (.int .i64 v)):=(Kept.refl _ _).setCell (Or.inl (by simp)) _
 have e:∀ b p,L.lab b=p→p≠(1,2)→b∉[L.l]:=fun b p hp hn q=>by
  simp at q;subst q;exact hn (by rw [← hp];exact h.ll)
 have ex:=e _ _ h.lx (by simp)
 exact { h with
  c0:=hk.cellAt h.c0 ex
  c1:=hk.cellAt h.c1 ex
  c2:=h.c2.kept hk ex
  c3:=h.c3.kept hk ex
  c4:=h.c4.kept hk ex
  c5:=h.c5.imp fun v q=>⟨hk.cellAt q.1 ex,q.2.kept hk fun b hb=>e _ _ (h.lt b hb) (by simp)⟩
  c6:=h.c6.kept hk ex
  c7:=hk.cellAt h.c7 ex
  z:=fun j=>hk.frz (h.z j) (lt_of_cell h.c0) ex
  gr:=h.gr.kept hk (e _ _ h.lg (by simp))
  cl:=h.cl.set hkC v
  cu:=h.cu.kept hk (e _ _ h.lu (by simp))
  rows:=h.rows.kept hk (e _ _ h.ls (by simp))
  sp:=fun i hi=>(h.sp i hi).kept hk (e _ _ (h.lr i hi) (by simp))
  lz:=fun b hb=>Nat.lt_of_lt_of_le (h.lz b hb) hk.size
  }
theorem MIn.now {k:Nat} (h:MIn w x L m) (hkC:k<m.C) (v:Int):MIn (w.setCell ⟨L.u,k,none⟩ (.int .i64 v)) x L { m with cu:=upd m.cu k v }:=by
 have hk:Kept [L.u] w (w.setCell ⟨L.u,k,none⟩ (.int .i64 v)):=(Kept.refl _ _).setCell (Or.inl (by simp)) _
 have e:∀ b p,L.lab b=p→p≠(1,3)→b∉[L.u]:=fun b p hp hn q=>by
  simp at q;subst q;exact hn (by rw [← hp];exact h.lu)
 have ex:=e _ _ h.lx (by simp)
 exact { h with
  c0:=hk.cellAt h.c0 ex
  c1:=hk.cellAt h.c1 ex
  c2:=h.c2.kept hk ex
  c3:=h.c3.kept hk ex
  c4:=h.c4.kept hk ex
  c5:=h.c5.imp fun v q=>⟨hk.cellAt q.1 ex,q.2.kept hk fun b hb=>e _ _ (h.lt b hb) (by simp)⟩
  c6:=h.c6.kept hk ex
  c7:=hk.cellAt h.c7 ex
  z:=fun j=>hk.frz (h.z j) (lt_of_cell h.c0) ex
  gr:=h.gr.kept hk (e _ _ h.lg (by simp))
  cl:=h.cl.kept hk (e _ _ h.ll (by simp))
  cu:=h.cu.set hkC v
  rows:=h.rows.kept hk (e _ _ h.ls (by simp))
  sp:=fun i hi=>(h.sp i hi).kept hk (e _ _ (h.lr i hi) (by simp))
  lz:=fun b hb=>Nat.lt_of_lt_of_le (h.lz b hb) hk.size
  }
theorem MIn.spF {g k:Nat} (h:MIn w x L m) (hg:g<m.n) (hkC:k<m.C) (v:Int):MIn (w.setCell ⟨L.r g,k*3+2,none⟩ (.int .u64 v)) x L { m with sp:=upd m.sp g (upd (m.sp g) k ((m.sp g k).1,(m.sp g k).2.1,v)) }:=by
 have hk:Kept [L.r g] w (w.setCell ⟨L.r g,k*3+2,none⟩ (.int .u64 v)):=(Kept.refl _ _).setCell (Or.inl (by simp)) _
 have e:∀ b p,L.lab b=p→p≠(2,g)→b∉[L.r g]:=fun b p hp hn q=>by
  simp at q;subst q;exact hn (by rw [← hp];exact h.lr g hg)
 have ex:=e _ _ h.lx (by simp)
 exact { h with
  c0:=hk.cellAt h.c0 ex
  c1:=hk.cellAt h.c1 ex
  c2:=h.c2.kept hk ex
  c3:=h.c3.kept hk ex
  c4:=h.c4.kept hk ex
  c5:=h.c5.imp fun v q=>⟨hk.cellAt q.1 ex,q.2.kept hk fun b hb=>e _ _ (h.lt b hb) (by simp)⟩
  c6:=h.c6.kept hk ex
  c7:=hk.cellAt h.c7 ex
  z:=fun j=>hk.frz (h.z j) (lt_of_cell h.c0) ex
  gr:=h.gr.kept hk (e _ _ h.lg (by simp))
  cl:=h.cl.kept hk (e _ _ h.ll (by simp))
  cu:=h.cu.kept hk (e _ _ h.lu (by simp))
  rows:=h.rows.kept hk (e _ _ h.ls (by simp))
  sp:=fun i hi=>by
   show SpsAt _ (L.r i) m.C (upd m.sp g _ i)
   by_cases q:i=g
   ·subst q;rw [upd_same];exact (h.sp i hi).setF hkC v
   ·rw [upd_other _ _ q];exact (h.sp i hi).kept hk (e _ _ (h.lr i hi) (by simp;exact q))
  lz:=fun b hb=>Nat.lt_of_lt_of_le (h.lz b hb) hk.size
  }
def MLay.tasks (L:MLay) (tb:Option Nat):MLay:={ L with t:=tb,lab:=fun b=>if tb=some b then (1,4) else if L.t=some b then (0,0) else L.lab b }
theorem MIn.tasks {v':Value} {tb':Option Nat} {ts':List TVw} (h:MIn w x L m) (hk:Kept L.t.toList w w1) (ht:TsAt w1 v' tb' ts') (hb:∀ b,tb'=some b→L.t=some b∨w.heap.size≤b):MIn (w1.setCell ⟨x,5,none⟩ v') x (L.tasks tb') { m with ts:=ts' }:=by
 have hk2:Kept (x::L.t.toList) w (w1.setCell ⟨x,5,none⟩ v'):=(hk.mono fun _ q=>List.mem_cons_of_mem _ q).setCell (Or.inl (by simp)) _
 have e:∀ b p,L.lab b=p→p≠(0,0)→p≠(1,4)→b∉L.t.toList∧(L.tasks tb').lab b=p:=fun b p hp h0 h4=>by
  have n1:¬ L.t=some b:=fun q=>h4 (by rw [← hp];exact h.lt b q)
  refine ⟨fun q=>n1 (by simpa using q),?_⟩
  show (if tb'=some b then _ else _)=p
  rw [if_neg,if_neg n1,hp]
  intro q
  rcases hb b q with r | r
  ·exact n1 r
  ·have:=h.lz b (by rw [hp];exact h0);omega
 have ex:=e _ _ h.lx (by simp) (by simp)
 have e2:∀ b p,L.lab b=p→p≠(0,0)→p≠(1,4)→p≠(1,0)→b∉x::L.t.toList:=fun b p hp h0 h4 h1 q=>by
  rcases List.mem_cons.1 q with q | q
  ·subst q;exact h1 (by rw [← hp];exact h.lx)
  ·exact (e b p hp h0 h4).1 q
 have hx:=lt_of_cell h.c0
 have hxt:∀ b,tb'=some b→x≠b:=fun b q r=>by
  subst r
  rcases hb x q with q | q
  ·have:=h.lt x q;rw [h.lx] at this;cases this
  ·omega
 exact {
  c0:=cell_set_ne (hk.cellAt h.c0 ex.1) (Or.inr (by decide))
  c1:=cell_set_ne (hk.cellAt h.c1 ex.1) (Or.inr (by decide))
  c2:=(h.c2.kept hk ex.1).ne (Or.inr (by decide))
  c3:=(h.c3.kept hk ex.1).ne (Or.inr (by decide))
  c4:=(h.c4.kept hk ex.1).ne (Or.inr (by decide))
  c5:=⟨v',by obtain ⟨v,q,_⟩:=h.c5;exact cell_set_eq (hk.cellAt q ex.1),ht.kept (G:=[x]) ((Kept.refl _ _).setCell (Or.inl (by simp)) _) fun b q r=>by simp at r;exact hxt b q r.symm⟩
  c6:=(h.c6.kept hk ex.1).ne (Or.inr (by decide))
  c7:=cell_set_ne (hk.cellAt h.c7 ex.1) (Or.inr (by decide))
  z:=fun j=>by rw [World.frozen?_setCell];exact hk.frz (h.z j) hx ex.1
  gr:=h.gr.kept hk2 (e2 _ _ h.lg (by simp) (by simp) (by simp))
  cl:=h.cl.kept hk2 (e2 _ _ h.ll (by simp) (by simp) (by simp))
  cu:=h.cu.kept hk2 (e2 _ _ h.lu (by simp) (by simp) (by simp))
  rows:=h.rows.kept hk2 (e2 _ _ h.ls (by simp) (by simp) (by simp))
  sp:=fun g hg=>(h.sp g hg).kept hk2 (e2 _ _ (h.lr g hg) (by simp) (by simp) (by simp))
  lx:=ex.2
  lg:=(e _ _ h.lg (by simp) (by simp)).2
  ll:=(e _ _ h.ll (by simp) (by simp)).2
  lu:=(e _ _ h.lu (by simp) (by simp)).2
  lt:=fun b q=>if_pos q
  ls:=(e _ _ h.ls (by simp) (by simp)).2
  lr:=fun g hg=>(e _ _ (h.lr g hg) (by simp) (by simp)).2
  lz:=fun b hb'=>by
   replace hb':(if tb'=some b then ((1:Nat),(4:Nat)) else if L.t=some b then (0,0) else L.lab b)≠(0,0):=hb'
   by_cases q:tb'=some b
   ·have:=ht.lt q;simpa using this
   ·rw [if_neg q] at hb'
    by_cases q2:L.t=some b
    ·rw [if_pos q2] at hb';exact absurd rfl hb'
    ·rw [if_neg q2] at hb'
     exact Nat.lt_of_lt_of_le (h.lz b hb') hk2.size }
theorem MIn.task {i j b:Nat} {y y':TVw} {u:Value} (h:MIn w x L m) (hb:L.t=some b) (hy:m.ts[i]?=some y) (hj:j<8) (he:encTl y'=(encTl y).set j u):MIn (w.setCell ⟨b,i*8+j,none⟩ u) x L { m with ts:=m.ts.set i y' }:=by
 have hk:Kept [b] w (w.setCell ⟨b,i*8+j,none⟩ u):=(Kept.refl _ _).setCell (Or.inl (by simp)) _
 have e:∀ a p,L.lab a=p→p≠(1,4)→a∉[b]:=fun a p hp hn q=>by
  simp at q;subst q;exact hn (by rw [← hp];exact h.lt _ hb)
 have ex:=e _ _ h.lx (by simp)
 obtain ⟨v,hv,ht⟩:=h.c5
 obtain ⟨b',c,e1,rfl⟩:=ht.some hy
 obtain rfl:b'=b:=by rw [hb] at e1;cases e1;rfl
 exact { h with
  c0:=hk.cellAt h.c0 ex
  c1:=hk.cellAt h.c1 ex
  c2:=h.c2.kept hk ex
  c3:=h.c3.kept hk ex
  c4:=h.c4.kept hk ex
  c5:=⟨_,hk.cellAt hv ex,ht.set hy hj he⟩
  c6:=h.c6.kept hk ex
  c7:=hk.cellAt h.c7 ex
  z:=fun j=>hk.frz (h.z j) (lt_of_cell h.c0) ex
  gr:=h.gr.kept hk (e _ _ h.lg (by simp))
  cl:=h.cl.kept hk (e _ _ h.ll (by simp))
  cu:=h.cu.kept hk (e _ _ h.lu (by simp))
  rows:=h.rows.kept hk (e _ _ h.ls (by simp))
  sp:=fun i hi=>(h.sp i hi).kept hk (e _ _ (h.lr i hi) (by simp))
  lz:=fun b hb=>Nat.lt_of_lt_of_le (h.lz b hb) hk.size }
theorem MIn.mh (h:MIn w x L m) (hn:0<m.n) (hC:0<m.C):MH [] w x m.sta:=by
 obtain ⟨cg,g1,g2,g3⟩:=h.c2
 obtain ⟨cl,l1,l2,l3⟩:=h.c3
 obtain ⟨cu,u1,u2,u3⟩:=h.c4
 obtain ⟨v,v1,v2⟩:=h.c5
 obtain ⟨cs,s1,s2,s3⟩:=h.c6
 have ne:∀ b p,L.lab b=p→p≠(1,0)→b∉[x]:=fun b p hp hn q=>by
  simp at q;subst q;exact hn (by rw [← hp];exact h.lx)
 have hlen:∀ f:Nat→Int,((List.range m.C).map f).length=m.C:=fun f=>by simp
 refine ⟨_,_,_,_,_,⟨h.c0,h.c1,g3,l3,u3,v1,s3,h.z⟩,h.c7,?_,?_,?_,v2.held fun b hb=>ne b _ (h.lt b hb) (by simp),?_⟩
 ·exact ⟨_,cg,rfl,g1,g2,(fun q=>by cases q),Or.inr ⟨L.g,0,rfl,⟨ne _ _ h.lg (by simp),h.gr.lt⟩,fun j u hu=>by rw [Nat.zero_add];exact grps_recs h.gr j u hu⟩⟩
 ·exact ⟨_,cl,by rw [show m.sta.cl.length=m.C from hlen m.cl],by rw [show m.sta.cl.length=m.C from hlen m.cl];exact l1,l2,(fun q=>by cases q),Or.inr ⟨L.l,0,rfl,⟨ne _ _ h.ll (by simp),h.cl.lt⟩,fun j u hu=>by rw [Nat.zero_add];exact ints_recs h.cl j u hu⟩⟩
 ·exact ⟨_,cu,by rw [show m.sta.cu.length=m.C from hlen m.cu],by rw [show m.sta.cu.length=m.C from hlen m.cu];exact u1,u2,(fun q=>by cases q),Or.inr ⟨L.u,0,rfl,⟨ne _ _ h.lu (by simp),h.cu.lt⟩,fun j u hu=>by rw [Nat.zero_add];exact ints_recs h.cu j u hu⟩⟩
 ·have hcap:∀ k,∃ c,k<m.n→m.C≤c∧c≤9223372036854775807∧w.cell? ⟨L.s,k,none⟩=some (.slice (some ⟨L.r k,0,none⟩) m.C c):=fun k=>by
   by_cases q:k<m.n
   ·obtain ⟨c,hc⟩:=h.rows.c k q;exact ⟨c,fun _=>hc⟩
   ·exact ⟨0,fun r=>absurd r q⟩
  obtain ⟨cap,hcap⟩:=Classical.axiomOfChoice hcap
  refine ⟨(List.range m.n).map fun k=>(some ⟨L.r k,0,none⟩,m.C,cap k),by simp [MSt.sta],?_,?_⟩
  ·refine ⟨_,cs,by simp,by simpa using s1,s2,(fun q=>by cases q),Or.inr ⟨L.s,0,rfl,⟨ne _ _ h.ls (by simp),h.rows.lt⟩,fun j u hu=>?_⟩⟩
   rw [Nat.zero_add]
   have hj:j<m.n:=by
    have:=(List.getElem?_eq_some_iff.1 hu).1
    rw [flatR_len encSl_ok] at this
    simpa using this
   have h1:=flatR_at encSl_ok (L:=(List.range m.n).map fun k=>((some ⟨L.r k,0,none⟩:Option Addr),m.C,cap k)) (i:=j) (x:=(some ⟨L.r j,0,none⟩,m.C,cap j)) (by rw [List.getElem?_map,List.getElem?_range hj];rfl) 0 (by decide)
   rw [Nat.mul_one,Nat.add_zero,hu] at h1
   cases h1
   exact (hcap j hj).2.2
  ·intro i a y ha hy
   have hi:i<m.n:=by
    have:=(List.getElem?_eq_some_iff.1 ha).1
    simpa using this
   rw [List.getElem?_map,List.getElem?_range hi] at ha
   cases ha
   have hy2:y=(List.range m.C).map (m.sp i):=by
    have hy':((List.range m.n).map fun g=>(List.range m.C).map (m.sp g))[i]?=some y:=hy
    rw [List.getElem?_map,List.getElem?_range hi] at hy'
    cases hy';rfl
   subst hy2
   refine ⟨_,cap i,by simp,by simpa using (hcap i hi).1,(hcap i hi).2.1,(fun q=>by cases q),Or.inr ⟨L.r i,0,rfl,⟨ne _ _ (h.lr i hi) (by simp),(h.sp i hi).lt⟩,fun j u hu=>?_⟩⟩
   rw [Nat.zero_add]
   have hj:j<m.C*3:=by
    have:=(List.getElem?_eq_some_iff.1 hu).1
    rw [flatR_len encSp_ok] at this
    simpa using this
   have hk:j / 3<m.C:=by omega
   have h1:=flatR_at encSp_ok (L:=(List.range m.C).map (m.sp i)) (i:=j / 3) (x:=m.sp i (j / 3)) (by rw [List.getElem?_map,List.getElem?_range hk];rfl) (j % 3) (by omega)
   rw [show j / 3*3+j % 3=j by omega,hu] at h1
   obtain ⟨q0,q1,q2⟩:=(h.sp i hi).c (j / 3) hk
   rcases (show j % 3=0∨j % 3=1∨j % 3=2 by omega) with q | q | q
   ·rw [q] at h1;cases h1;rw [show j / 3*3=j by omega] at q0;exact q0
   ·rw [q] at h1;cases h1;rw [show j / 3*3+1=j by omega] at q1;exact q1
   ·rw [q] at h1;cases h1;rw [show j / 3*3+2=j by omega] at q2;exact q2
end
theorem ltM_iff (f g:Mem):ltM f g=true↔f 0<g 0∨(f 0=g 0∧(f 1<g 1∨(f 1=g 1∧f 2<g 2))):=by
 unfold ltM cmpM cmp3
 rw [decide_eq_true_iff]
 by_cases h0:f 0=g 0
 ·rw [if_pos h0]
  by_cases h1:f 1=g 1
  ·rw [if_pos h1];split
   ·omega
   ·split <;> omega
  ·rw [if_neg h1];split
   ·omega
   ·split <;> omega
 ·rw [if_neg h0];split
  ·omega
  ·split <;> omega
theorem ltM_no (f g:Mem):ltM f g=false↔¬ (f 0<g 0∨(f 0=g 0∧(f 1<g 1∨(f 1=g 1∧f 2<g 2)))):=by
 rw [← ltM_iff,Bool.not_eq_true]
theorem ask_fold:∀ (L:List Mem) (p:Bool×Mem),(L.foldl askM p).1=(p.1 || !L.isEmpty)∧((L.foldl askM p).2=p.2∨(L.foldl askM p).2∈L)∧(∀ x∈L,ltM x (L.foldl askM p).2=false)∧ltM p.2 (L.foldl askM p).2=false
 | [],p=>⟨by simp,Or.inl rfl,(fun x h=>by cases h),(ltM_no _ _).2 (by show ¬ (_∨_);simp only [List.foldl_nil];omega)⟩
 | a::r,p=>by
  obtain ⟨h1,h2,h3,h4⟩:=ask_fold r (askM p a)
  have e:(a::r).foldl askM p=r.foldl askM (askM p a):=rfl
  rw [e]
  generalize r.foldl askM (askM p a)=q at *
  have ep:(askM p a).2=if ltM a p.2 then a else p.2:=rfl
  have e1:(askM p a).1=true:=rfl
  rw [ep] at h2 h4
  rw [e1] at h1
  cases ha:ltM a p.2 with
  | true =>
   rw [ha,if_pos rfl] at h2 h4
   refine ⟨by simp [h1],?_,fun x hx=>?_,?_⟩
   ·rcases h2 with h2 | h2
    ·right;rw [h2];simp
    ·right;exact List.mem_cons_of_mem _ h2
   ·rcases List.mem_cons.1 hx with rfl | hx
    ·exact h4
    ·exact h3 x hx
   ·rw [ltM_iff] at ha
    rw [ltM_no] at h4 ⊢
    omega
  | false =>
   rw [ha,if_neg (by decide)] at h2 h4
   refine ⟨by simp [h1],?_,fun x hx=>?_,h4⟩
   ·rcases h2 with h2 | h2
    ·exact Or.inl h2
    ·right;exact List.mem_cons_of_mem _ h2
   ·rcases List.mem_cons.1 hx with rfl | hx
    ·rw [ltM_no] at ha h4 ⊢
     omega
    ·exact h3 x hx
theorem fold_ask {α:Type} (P:α→Bool) (f:α→Mem):∀ (L:List α) (p:Bool×Mem),L.foldl (fun p y=>if P y=true then askM p (f y) else p) p=((L.filter P).map f).foldl askM p
 | [],p=>rfl
 | a::r,p=>by
  rw [List.foldl_cons,List.filter_cons]
  cases h:P a with
  | true=>rw [if_pos rfl,if_pos rfl,List.map_cons,List.foldl_cons];exact fold_ask P f r _
  | false=>rw [if_neg (by decide),if_neg (by decide)];exact fold_ask P f r _
def belowB (σ:Sta) (g c h:Nat):Bool:=decide (g<h∧parG σ.Gs h=g) && (leastM σ h c).1
def asked (σ:Sta) (g c:Nat):List Mem:=(σ.ts.filter (isIn g c)).map (fun y=>tri y.v 0 y.id)++((List.range σ.sp.length).filter (belowB σ g c)).map fun h=>tri (spotV σ h c) 1 (h:Int)
theorem least_fold (σ:Sta) {g:Nat} (c:Nat) (h:g<σ.sp.length):leastM σ g c=(asked σ g c).foldl askM (false,topM):=by
 rw [leastM_eq σ c h]
 unfold asked tskM
 rw [List.foldl_append,← fold_ask (isIn g c),← fold_ask (belowB σ g c)]
 refine foldl_congr _ _ fun a _ b=>?_
 unfold groupM belowB
 by_cases q:g<a∧parG σ.Gs a=g
 ·cases r:(leastM σ a c).1 with
  | true=>rw [if_pos ⟨q.1,q.2,rfl⟩,if_pos (by simp [q])]
  | false=>rw [if_neg (by simp),if_neg (by simp)]
 ·rw [if_neg fun s=>q ⟨s.1,s.2.1⟩,if_neg (by simp [decide_eq_false q])]
def VsOk (σ:Sta):Prop:=(∀ y∈σ.ts,0≤y.v∧y.v≤18446744073709551615)∧∀ h c,0≤spotV σ h c∧spotV σ h c≤18446744073709551615
theorem asked_top {σ:Sta} (hv:VsOk σ) {g c:Nat} {x:Mem} (hx:x∈asked σ g c):ltM x topM=true:=by
 rw [ltM_iff]
 show x 0<18446744073709551615∨(x 0=18446744073709551615∧(x 1<18446744073709551615∨_))
 rcases List.mem_append.1 hx with q | q
 ·obtain ⟨y,hy,rfl⟩:=List.mem_map.1 q
  have:=hv.1 y (List.mem_filter.1 hy).1
  show y.v<_∨(y.v=_∧((0:Int)<_∨_))
  omega
 ·obtain ⟨h,_,rfl⟩:=List.mem_map.1 q
  have:=hv.2 h c
  show spotV σ h c<_∨(spotV σ h c=_∧((1:Int)<_∨_))
  omega
theorem least_none {σ:Sta} {g c:Nat} (h:g<σ.sp.length) (he:asked σ g c=[]):leastM σ g c=(false,topM):=by rw [least_fold σ c h,he];rfl
theorem least_some {σ:Sta} (hv:VsOk σ) {g c:Nat} (h:g<σ.sp.length) (he:asked σ g c≠[]):(leastM σ g c).1=true∧(leastM σ g c).2∈asked σ g c∧∀ x∈asked σ g c,ltM x (leastM σ g c).2=false:=by
 rw [least_fold σ c h]
 obtain ⟨h1,h2,h3,h4⟩:=ask_fold (asked σ g c) (false,topM)
 refine ⟨?_,?_,h3⟩
 ·rw [h1];cases e:asked σ g c with
  | nil=>exact absurd e he
  | cons _ _=>rfl
 ·rcases h2 with h2 | h2
  ·obtain ⟨x,hx⟩:=List.exists_mem_of_ne_nil _ he
   have:=h3 x hx
   rw [h2,asked_top hv hx] at this
   cases this
  ·exact h2
theorem least_two {σ:Sta} (hv:VsOk σ) {g c:Nat} (h:g<σ.sp.length) (hs:(leastM σ g c).1=true):(∃ y∈σ.ts,isIn g c y=true∧(leastM σ g c).2=tri y.v 0 y.id)∨∃ k,g<k∧k<σ.sp.length∧parG σ.Gs k=g∧(leastM σ k c).1=true∧(leastM σ g c).2=tri (spotV σ k c) 1 (k:Int):=by
 have he:asked σ g c≠[]:=fun e=>by rw [least_none h e] at hs;cases hs
 obtain ⟨_,h2,_⟩:=least_some hv h he
 rcases List.mem_append.1 h2 with q | q
 ·obtain ⟨y,hy,e⟩:=List.mem_map.1 q
  exact Or.inl ⟨y,(List.mem_filter.1 hy).1,(List.mem_filter.1 hy).2,e.symm⟩
 ·obtain ⟨k,hk,e⟩:=List.mem_map.1 q
  obtain ⟨k1,k2⟩:=List.mem_filter.1 hk
  unfold belowB at k2
  simp only [Bool.and_eq_true,decide_eq_true_eq] at k2
  exact Or.inr ⟨k,k2.1.1,List.mem_range.1 k1,k2.1.2,k2.2,e.symm⟩
def firstF (σ:Sta) (c:Nat):Nat→Nat→Int
 | 0,_=>0
 | k+1,g=>if (leastM σ g c).1=true then (if (leastM σ g c).2 1=0 then (leastM σ g c).2 2 else firstF σ c k ((leastM σ g c).2 2).toNat) else 0
def firstM (σ:Sta) (c:Nat):Int:=firstF σ c σ.sp.length 0
theorem first_step {σ:Sta} (hv:VsOk σ) (c:Nat):∀ (k k' g:Nat),g<σ.sp.length→σ.sp.length - g≤k→σ.sp.length - g≤k'→firstF σ c k g=firstF σ c k' g
 | 0,_,_,h,h1,_=>by omega
 | _+1,0,_,h,_,h2=>by omega
 | k+1,k'+1,g,h,h1,h2=>by
  unfold firstF
  cases hs:(leastM σ g c).1 with
  | false=>rfl
  | true =>
   rw [if_pos rfl,if_pos rfl]
   rcases least_two hv h hs with ⟨y,_,_,e⟩ | ⟨a,ha,han,_,_,e⟩
   ·rw [e,if_pos (show tri y.v 0 y.id 1=0 from rfl),if_pos (show tri y.v 0 y.id 1=0 from rfl)]
   ·rw [e,if_neg (show ¬ tri (spotV σ a c) 1 (a:Int) 1=0 by show ¬ (1:Int)=0;omega),if_neg (show ¬ tri (spotV σ a c) 1 (a:Int) 1=0 by show ¬ (1:Int)=0;omega)]
    show firstF σ c k ((a:Int).toNat)=firstF σ c k' ((a:Int).toNat)
    rw [Int.toNat_natCast]
    exact first_step hv c k k' a han (by omega) (by omega)
def firstG (σ:Sta) (c g:Nat):Int:=firstF σ c (σ.sp.length - g) g
theorem firstG_none {σ:Sta} {c g:Nat} (h:g<σ.sp.length) (hs:(leastM σ g c).1=false):firstG σ c g=0:=by
 unfold firstG
 obtain ⟨k,hk⟩:∃ k,σ.sp.length - g=k+1:=⟨σ.sp.length - g - 1,by omega⟩
 rw [hk,firstF,hs,if_neg (by decide)]
theorem firstG_task {σ:Sta} {c g:Nat} (h:g<σ.sp.length) (hs:(leastM σ g c).1=true) (h0:(leastM σ g c).2 1=0):firstG σ c g=(leastM σ g c).2 2:=by
 unfold firstG
 obtain ⟨k,hk⟩:∃ k,σ.sp.length - g=k+1:=⟨σ.sp.length - g - 1,by omega⟩
 rw [hk,firstF,hs,if_pos rfl,if_pos h0]
theorem firstG_group {σ:Sta} (hv:VsOk σ) {c g k:Nat} (h:g<σ.sp.length) (hs:(leastM σ g c).1=true) (h1:(leastM σ g c).2=tri (spotV σ k c) 1 (k:Int)) (hgk:g<k) (hk:k<σ.sp.length):firstG σ c g=firstG σ c k:=by
 unfold firstG
 obtain ⟨j,hj⟩:∃ j,σ.sp.length - g=j+1:=⟨σ.sp.length - g - 1,by omega⟩
 rw [hj,firstF,hs,if_pos rfl,h1,if_neg (show ¬ tri (spotV σ k c) 1 (k:Int) 1=0 by show ¬ (1:Int)=0;omega)]
 show firstF σ c j ((k:Int).toNat)=_
 rw [Int.toNat_natCast]
 exact first_step hv c j _ k hk (by omega) (Nat.le_refl _)
theorem least_congr {σ σ':Sta} (c:Nat) (ht:σ'.ts=σ.ts) (hG:σ'.Gs=σ.Gs) (hn:σ'.sp.length=σ.sp.length) (hs:∀ h,spotV σ' h c=spotV σ h c) (g:Nat):leastM σ' g c=leastM σ g c:=by
 have H:∀ (k g:Nat),leastF σ' c k g=leastF σ c k g:=by
  intro k
  induction k with
  | zero=>intro g;rfl
  | succ k ih =>
   intro g
   unfold leastF
   rw [ht,hn]
   refine foldl_congr _ _ fun a _ b=>?_
   unfold groupM
   rw [hG,hs,ih]
 unfold leastM
 rw [hn]
 exact H _ g
theorem sta_len (m:MSt):m.sta.sp.length=m.n:=by simp [MSt.sta]
theorem spotV_m (m:MSt) (h c:Nat):spotV m.sta h c=if h<m.n∧c<m.C then (m.sp h c).1 else 0:=by
 unfold spotV MSt.sta
 simp only [List.getElem?_map]
 by_cases q:h<m.n
 ·rw [List.getElem?_range q]
  simp only [Option.map_some,Option.bind_some,List.getElem?_map]
  by_cases q2:c<m.C
  ·rw [List.getElem?_range q2,if_pos ⟨q,q2⟩];rfl
  ·rw [List.getElem?_eq_none (by simp;omega),if_neg fun r=>q2 r.2];rfl
 ·rw [List.getElem?_eq_none (by simp;omega),if_neg fun r=>q r.1];rfl
theorem least_m {m m':MSt} (c:Nat) (ht:m'.ts=m.ts) (hG:m'.Gs=m.Gs) (hC:m'.C=m.C) (hs:∀ h,h<m.n→c<m.C→(m'.sp h c).1=(m.sp h c).1) (g:Nat):leastM m'.sta g c=leastM m.sta g c:=by
 refine least_congr c ht hG ?_ (fun h=>?_) g
 ·rw [sta_len,sta_len];unfold MSt.n;rw [hG]
 ·have hn:m'.n=m.n:=by unfold MSt.n;rw [hG]
  rw [spotV_m,spotV_m,hn,hC]
  by_cases q:h<m.n∧c<m.C
  ·rw [if_pos q,if_pos q,hs h q.1 q.2]
  ·rw [if_neg q,if_neg q]
theorem MIn.congr {w:World} {x:Nat} {L:MLay} {m:MSt} {f:Nat→Nat→Int×Int×Int} (h:MIn w x L m) (e:∀ g k,g<m.n→k<m.C→m.sp g k=f g k):MIn w x L { m with sp:=f }:=
 { h with sp:=fun g hg=>(h.sp g hg).congr fun k hk=>e g k hg hk }
structure TvOk (n C:Nat) (y:TVw):Prop where
 id:1≤y.id∧y.id≤65535
 g:0≤y.g∧y.g<n
 w:1≤y.w∧y.w≤65536
 cpu:0≤y.cpu∧y.cpu<C
 mask:0≤y.mask∧y.mask≤18446744073709551615
 run:EntOk (y.v,y.r,y.w)
structure MOk2 (m:MSt):Prop where
 right:RightG m.Gs
 cpus:1≤m.C∧m.C≤64
 cr:0≤m.cr∧m.cr≤1099511627776
 ids:IdsUp m.ts
 task:∀ y∈m.ts,TvOk m.n m.C y
 spot:∀ g k,g<m.n→k<m.C→EntOk ((m.sp g k).1,(m.sp g k).2.1,m.Gs[g]!.2)∧FlOk (m.sp g k).2.2
 cl:∀ k,k<m.C→0≤m.cl k∧m.cl k≤281474976710656
 cu:∀ k,k<m.C→m.cu k=0∨∃ y∈m.ts,y.id=m.cu k∧y.rdy=true∧y.cpu=k
section
variable {m:MSt}
theorem MOk2.vs (h:MOk2 m):VsOk m.sta:=by
 refine ⟨fun y hy=>?_,fun k c=>?_⟩
 ·have:=(h.task y hy).run
  unfold EntOk Ch.Ok at this
  simp only at this
  omega
 ·rw [spotV_m]
  split
  ·rename_i q
   have:=(h.spot k c q.1 q.2).1
   unfold EntOk Ch.Ok at this
   simp only at this
   omega
  ·omega
theorem MOk2.pos (h:MOk2 m):0<m.n∧m.n≤256:=⟨h.right.pos,by have:=h.right.le;unfold MSt.n;omega⟩
theorem IdsUp.few {L:List TVw} (h:IdsUp L) (hi:∀ y∈L,1≤y.id∧y.id≤65535):L.length≤65535:=by
 have h2:=holes_le 65535 (L.map fun y=>y.id - 1) (by
  refine List.pairwise_map.2 (h.imp fun {a b} q e=>by omega)) (fun x hx=>by
  obtain ⟨y,hy,rfl⟩:=List.mem_map.1 hx
  have:=hi y hy
  omega)
 simpa using h2
theorem MOk2.few (h:MOk2 m):m.ts.length≤65535:=h.ids.few fun y hy=>(h.task y hy).id
end
def riseX (m:MSt) (g k:Nat):Int×Int×Int:=if (leastM m.sta g k).1=true then ((m.sp g k).1,(m.sp g k).2.1,max (m.sp g k).2.2 ((leastM m.sta g k).2 0)) else m.sp g k
def riseTo (m:MSt) (a b:Nat):MSt:={ m with sp:=fun g k=>if g<a∨(g=a∧k<b) then riseX m g k else m.sp g k }
def riseM (m:MSt):MSt:={ m with sp:=riseX m }
theorem riseX_v (m:MSt) (g k:Nat):(riseX m g k).1=(m.sp g k).1∧(riseX m g k).2.1=(m.sp g k).2.1:=by unfold riseX;split <;> exact ⟨rfl,rfl⟩
theorem riseTo_least (m:MSt) (a b g k:Nat):leastM (riseTo m a b).sta g k=leastM m.sta g k:=least_m (m:=m) (m':=riseTo m a b) k rfl rfl rfl (fun h _ _=>by
 show (if h<a∨(h=a∧k<b) then riseX m h k else m.sp h k).1=_
 split
 ·exact (riseX_v m h k).1
 ·rfl) g
theorem riseTo_at (m:MSt) (a b:Nat):(riseTo m a b).sp a b=m.sp a b:=by show (if _ then _ else _)=_;rw [if_neg (by omega)]
theorem riseTo_next (m:MSt) (a b g k:Nat):upd (riseTo m a b).sp a (upd ((riseTo m a b).sp a) b (riseX m a b)) g k=(riseTo m a (b+1)).sp g k:=by
 show _=if g<a∨(g=a∧k<b+1) then riseX m g k else m.sp g k
 by_cases q:g=a
 ·subst q
  rw [upd_same]
  by_cases q2:k=b
  ·subst q2;rw [upd_same,if_pos (by omega)]
  ·rw [upd_other _ _ q2]
   show (if g<g∨(g=g∧k<b) then _ else _)=_
   by_cases q3:k<b
   ·rw [if_pos (by omega),if_pos (by omega)]
   ·rw [if_neg (by omega),if_neg (by omega)]
 ·rw [upd_other _ _ q]
  show (if g<a∨(g=a∧k<b) then _ else _)=_
  by_cases q3:g<a
  ·rw [if_pos (by omega),if_pos (by omega)]
  ·rw [if_neg (by omega),if_neg (by omega)]
theorem riseTo_row (m:MSt) (a g k:Nat) (hk:k<m.C):(riseTo m a m.C).sp g k=(riseTo m (a+1) 0).sp g k:=by
 show (if g<a∨(g=a∧k<m.C) then _ else _)=if g<a+1∨(g=a+1∧k<0) then _ else _
 by_cases q:g<a+1
 ·rw [if_pos (by omega),if_pos (by omega)]
 ·rw [if_neg (by omega),if_neg (by omega)]
theorem riseTo_zero (m:MSt):riseTo m 0 0=m:=by
 unfold riseTo
 have:(fun g k=>if g<0∨(g=0∧k<0) then riseX m g k else m.sp g k)=m.sp:=by funext g k;rw [if_neg (by omega)]
 rw [this]
theorem riseTo_all (m:MSt) (g k:Nat) (hg:g<m.n):(riseTo m m.n 0).sp g k=(riseM m).sp g k:=by
 show (if g<m.n∨_ then _ else _)=_
 rw [if_pos (Or.inl hg)];rfl
end Go.Proofs.YtapnaocdehahdaaGreat
