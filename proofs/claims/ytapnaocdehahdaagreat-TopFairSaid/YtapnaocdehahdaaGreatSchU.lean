/-
  Layer 31 (sched): a right configuration; the state of New on the way.
-/
import Derived.Test.YtapnaocdehahdaaGreatSchE
import Derived.Test.YtapnaocdehahdaaGreatKitN
namespace Go.Proofs.YtapnaocdehahdaaGreat
open Go.RowKit Go.Maps Go.IntWalk Go.Lib
set_option linter.unusedVariables false
set_option linter.unusedSimpArgs false
theorem mRC_at {C cr:Int} {v:Value} {Gs:Grps} (w:World) (h:RecsAt encG w v Gs) (hC:1≤C∧C≤64) (hc:0≤cr∧cr≤1099511627776) (hr:RightG Gs) :
  Calls Tryz.prog 45 #[.agg #[.int .i64 C,.int .u64 cr,v]] w fun e w'=>e=.returned (.bool true)∧Below w.heap.size w w':=by
 have z1:decide (C ≥ 1)=true:=decide_eq_true hC.1
 have z1':decide (1≤C)=true:=z1
 have z2:decide (C≤64)=true:=decide_eq_true hC.2
 have z3:decide (cr≤1099511627776)=true:=decide_eq_true hc.2
 have A1:=Lib.hid fun W (hb:Below w.heap.size w W)=>(show Calls Tryz.prog 106 #[v] W fun e w'=>e=.returned (.bool true)∧Below W.heap.size W w' by
  have:=gRight_at v Gs W (h.later hb)
  rw [show decide ((checkG Gs).2=0)=true from decide_eq_true (checkG_right.2 hr)] at this
  exact this)
 clear h hC hc hr
 go_enter Tryz.func45,Tryz.ntmps45
 go_wp2_with fail
 refine (A1.out _ (below_a w _)).mono ?_;rintro e w5 ⟨rfl,hb5⟩
 go_wp2_with fail
 go_ret
 exact ⟨rfl,Below.step (below_a w _) hb5⟩
def firstS (Gs:Grps) (C:Nat) (cr:Int):SSt:={ Gs:=Gs,C:=C,cr:=cr,Q:=fun _=>newT Gs cr,cl:=fun _=>0,cu:=fun _=>0,ld:=fun _=>0,T:=fun _=>none,c:=0,wk:=0 }
theorem SOk.begun {Gs:Grps} {C:Nat} {cr:Int} (hr:RightG Gs) (hC:1≤C∧C≤64) (hc:0≤cr∧cr≤1099511627776):SOk (firstS Gs C cr) where
 right:=hr
 cpus:=hC
 cr:=hc
 tree:=fun k _=>new_ok hr hc.1
 gs:=fun k _=>rfl
 qcr:=fun k _=>rfl
 qt:=fun k _ id g=>⟨fun q=>(by cases q),fun ⟨t,q,_⟩=>(by cases q)⟩
 task:=fun id t q=>by cases q
 cu:=fun k _=>Or.inl rfl
 cl:=fun k _=>⟨Int.le_refl 0,(by decide:(0:Int)≤281474976710656)⟩
 keys:=⟨[],List.nodup_nil,rfl,fun id=>⟨fun m=>(by cases m),fun m=>absurd rfl m⟩,fun k _=>rfl⟩
def rowsN (f:Nat→Nat) (C m:Nat):List Value:=(List.range m).map fun g=>.slice (some ⟨f g,0,none⟩) C C
theorem rows_snoc (f:Nat→Nat) (C m:Nat):rowsN f C (m+1)=rowsN f C m++[.slice (some ⟨f m,0,none⟩) C C]:=by
 unfold rowsN
 rw [List.range_succ,List.map_append]
 rfl
theorem rows_at {f:Nat→Nat} {C m g:Nat} (h:g<m):(rowsN f C m)[g]?=some (.slice (some ⟨f g,0,none⟩) C C):=by
 unfold rowsN
 rw [List.getElem?_map,List.getElem?_range h]
 rfl
structure XRaw (base:Nat) (wr:World) (x:Nat) (L:SLay) (vq va:Value) (Gs:Grps) (C:Nat) (cr:Int) (m kq ka:Nat):Prop where
 c0:wr.cell? ⟨x,0,none⟩=some (.int .i64 C)
 c1:wr.cell? ⟨x,1,none⟩=some (.int .u64 cr)
 c2:∃ c,wr.cell? ⟨x,2,none⟩=some (.slice (some ⟨L.bg,0,none⟩) Gs.length c)
 c3:∃ c,wr.cell? ⟨x,3,none⟩=some (.slice (some ⟨L.bl,0,none⟩) C c)
 c4:∃ c,wr.cell? ⟨x,4,none⟩=some (.slice (some ⟨L.bu,0,none⟩) C c)
 c5:wr.cell? ⟨x,5,none⟩=some (.map (some L.bm))
 c8:∃ c,wr.cell? ⟨x,8,none⟩=some (.slice (some ⟨L.bo,0,none⟩) C c)
 c9:wr.cell? ⟨x,9,none⟩=some (.int .i64 0)
 z:∀ j,wr.frozen? ⟨x,j,none⟩=false
 gr:GrpsAt wr L.bg Gs
 cl:IntsAt wr L.bl C (fun _=>0)
 cu:IntsAt wr L.bu C (fun _=>0)
 ld:IntsAt wr L.bo C (fun _=>0)
 oq:wr.ownsRow base 101 1 vq kq (rowsN L.rq C kq)
 oa:wr.ownsRow base 102 1 va ka (rowsN L.ra C ka)
 qc:∀ g,g<m→PtrsAt wr (L.rq g) C (L.qp g)
 ac:∀ g,g<m→EntsAt wr (L.ra g) C (fun _=>newA Gs g)
 map:MapP wr L.bm (fun _=>none) 0
 q:∀ g k,g<m→k<C→QIn wr (L.qp g k) (L.Fq g k) qN [] 0
 lx:L.lab x=(1,0,0)
 lg:L.lab L.bg=(1,1,0)
 ll:L.lab L.bl=(1,2,0)
 lu:L.lab L.bu=(1,3,0)
 lm:L.lab L.bm=(1,4,0)
 lo:L.lab L.bo=(1,7,0)
 lq:∀ b,vq.ownBlock=some b→L.lab b=(1,5,0)
 la:∀ b,va.ownBlock=some b→L.lab b=(1,6,0)
 lrq:∀ g,g<m→L.lab (L.rq g)=(2,(g:Int),0)
 lra:∀ g,g<m→L.lab (L.ra g)=(3,(g:Int),0)
 lF:∀ g k,g<m→k<C→∀ b∈L.Fq g k,L.lab b=(5,(g:Int),k)
 lt:∀ b,L.lab b≠(0,0,0)→b<wr.heap.size
 ge:∀ b,L.lab b≠(0,0,0)→base≤b
section
variable {base:Nat} {wr w':World} {x:Nat} {L:SLay} {vq va:Value} {Gs:Grps} {C:Nat} {cr:Int} {m kq ka:Nat}
theorem XRaw.kept {S:List Nat} (h:XRaw base wr x L vq va Gs C cr m kq ka) (hk:Kept S wr w') (hS:∀ b∈S,L.lab b=(0,0,0)):XRaw base w' x L vq va Gs C cr m kq ka:=by
 have e:∀ b p,L.lab b=p→p≠(0,0,0)→b∉S:=fun b p hp hn m=>hn (by rw [← hp];exact hS b m)
 have ex:=e _ _ h.lx (by simp)
 exact { h with
  c0:=hk.cellAt h.c0 ex,c1:=hk.cellAt h.c1 ex,c2:=h.c2.imp fun c q=>hk.cellAt q ex,c3:=h.c3.imp fun c q=>hk.cellAt q ex,c4:=h.c4.imp fun c q=>hk.cellAt q ex,c5:=hk.cellAt h.c5 ex,c8:=h.c8.imp fun c q=>hk.cellAt q ex,c9:=hk.cellAt h.c9 ex
  z:=fun j=>hk.frz (h.z j) (lt_of_cell h.c0) ex
  gr:=h.gr.kept hk (e _ _ h.lg (by simp))
  cl:=h.cl.kept hk (e _ _ h.ll (by simp))
  cu:=h.cu.kept hk (e _ _ h.lu (by simp))
  ld:=h.ld.kept hk (e _ _ h.lo (by simp))
  oq:=own_kept h.oq hk fun b hb=>e _ _ (h.lq b hb) (by simp)
  oa:=own_kept h.oa hk fun b hb=>e _ _ (h.la b hb) (by simp)
  qc:=fun g hg=>(h.qc g hg).kept hk (e _ _ (h.lrq g hg) (by simp))
  ac:=fun g hg=>(h.ac g hg).kept hk (e _ _ (h.lra g hg) (by simp))
  map:=h.map.kept hk (e _ _ h.lm (by simp))
  q:=fun g k hg hc=>(h.q g k hg hc).kept hk fun b hb=>e _ _ (h.lF g k hg hc b hb) (by simp)
  lt:=fun b hb=>Nat.lt_of_lt_of_le (h.lt b hb) hk.size }
theorem XRaw.below (h:XRaw base wr x L vq va Gs C cr m kq ka) (hb:Below wr.heap.size wr w'):XRaw base w' x L vq va Gs C cr m kq ka:=h.kept (S:=[]) (Kept.of hb) (fun _ q=>by cases q)
theorem XRaw.appq {vq':Value} (h:XRaw base wr x L vq va Gs C cr m kq ka) (hb:base≤wr.heap.size) (hg:wr.grownBy w' vq.ownBlock) (ho:w'.ownsRow base 101 1 vq' (kq+1) (rowsN L.rq C (kq+1))) (hp:vq'.ownBlock=vq.ownBlock∨vq'.ownBlock=some wr.heap.size) :
  XRaw base w' x { L with lab:=fun b=>if vq'.ownBlock=some b then (1,5,0) else L.lab b } vq' va Gs C cr m (kq+1) ka:=by
 have hk:=grown_kept hg
 have n0:∀ b,vq'.ownBlock=some b→L.lab b=(1,5,0)∨L.lab b=(0,0,0):=fun b hb'=>by
  rcases hp with q | q
  ·exact Or.inl (h.lq b (q ▸ hb'))
  ·rw [q] at hb';cases hb'
   exact Or.inr (Decidable.byContradiction fun n=>by have:=h.lt _ n;omega)
 have e:∀ b p,L.lab b=p→p≠(0,0,0)→p≠(1,5,0)→b∉vq.ownBlock.toList∧(if vq'.ownBlock=some b then ((1:Nat),(5:Int),(0:Nat)) else L.lab b)=p:=fun b p hp' h0 h5=>by
  refine ⟨fun q=>?_,?_⟩
  ·have:=h.lq b (by simpa using q)
   rw [hp'] at this;exact h5 this
  ·rw [if_neg]
   ·exact hp'
   ·intro q
    rcases n0 b q with r | r
    ·rw [hp'] at r;exact h5 r
    ·rw [hp'] at r;exact h0 r
 have ex:=e _ _ h.lx (by simp) (by simp)
 have sz:=hk.size
 exact {
  c0:=hk.cellAt h.c0 ex.1,c1:=hk.cellAt h.c1 ex.1,c2:=h.c2.imp fun c q=>hk.cellAt q ex.1,c3:=h.c3.imp fun c q=>hk.cellAt q ex.1,c4:=h.c4.imp fun c q=>hk.cellAt q ex.1,c5:=hk.cellAt h.c5 ex.1,c8:=h.c8.imp fun c q=>hk.cellAt q ex.1,c9:=hk.cellAt h.c9 ex.1
  z:=fun j=>hk.frz (h.z j) (lt_of_cell h.c0) ex.1
  gr:=h.gr.kept hk (e _ _ h.lg (by simp) (by simp)).1
  cl:=h.cl.kept hk (e _ _ h.ll (by simp) (by simp)).1
  cu:=h.cu.kept hk (e _ _ h.lu (by simp) (by simp)).1
  ld:=h.ld.kept hk (e _ _ h.lo (by simp) (by simp)).1
  oq:=ho
  oa:=own_kept h.oa hk fun b hb=>(e _ _ (h.la b hb) (by simp) (by simp)).1
  qc:=fun g hg=>(h.qc g hg).kept hk (e _ _ (h.lrq g hg) (by simp) (by simp)).1
  ac:=fun g hg=>(h.ac g hg).kept hk (e _ _ (h.lra g hg) (by simp) (by simp)).1
  map:=h.map.kept hk (e _ _ h.lm (by simp) (by simp)).1
  q:=fun g k hg hc=>(h.q g k hg hc).kept hk fun b hb=>(e _ _ (h.lF g k hg hc b hb) (by simp) (by simp)).1
  lx:=ex.2
  lg:=(e _ _ h.lg (by simp) (by simp)).2
  ll:=(e _ _ h.ll (by simp) (by simp)).2
  lu:=(e _ _ h.lu (by simp) (by simp)).2
  lm:=(e _ _ h.lm (by simp) (by simp)).2
  lo:=(e _ _ h.lo (by simp) (by simp)).2
  lq:=fun b hb=>if_pos hb
  la:=fun b hb=>(e _ _ (h.la b hb) (by simp) (by simp)).2
  lrq:=fun g hg=>(e _ _ (h.lrq g hg) (by simp) (by simp)).2
  lra:=fun g hg=>(e _ _ (h.lra g hg) (by simp) (by simp)).2
  lF:=fun g k hg hc b hb=>(e _ _ (h.lF g k hg hc b hb) (by simp) (by simp)).2
  lt:=fun b hb=>by
   by_cases q:vq'.ownBlock=some b
   ·exact (ho.lt b q).2
   ·replace hb:(if vq'.ownBlock=some b then ((1:Nat),(5:Int),(0:Nat)) else L.lab b)≠(0,0,0):=hb
    rw [if_neg q] at hb
    exact Nat.lt_of_lt_of_le (h.lt b hb) sz
  ge:=fun b hb=>by
   by_cases q:vq'.ownBlock=some b
   ·exact (ho.lt b q).1
   ·replace hb:(if vq'.ownBlock=some b then ((1:Nat),(5:Int),(0:Nat)) else L.lab b)≠(0,0,0):=hb
    rw [if_neg q] at hb
    exact h.ge b hb }
theorem XRaw.appa {va':Value} (h:XRaw base wr x L vq va Gs C cr m kq ka) (hb:base≤wr.heap.size) (hg:wr.grownBy w' va.ownBlock) (ho:w'.ownsRow base 102 1 va' (ka+1) (rowsN L.ra C (ka+1))) (hp:va'.ownBlock=va.ownBlock∨va'.ownBlock=some wr.heap.size) :
  XRaw base w' x { L with lab:=fun b=>if va'.ownBlock=some b then (1,6,0) else L.lab b } vq va' Gs C cr m kq (ka+1):=by
 have hk:=grown_kept hg
 have n0:∀ b,va'.ownBlock=some b→L.lab b=(1,6,0)∨L.lab b=(0,0,0):=fun b hb'=>by
  rcases hp with q | q
  ·exact Or.inl (h.la b (q ▸ hb'))
  ·rw [q] at hb';cases hb'
   exact Or.inr (Decidable.byContradiction fun n=>by have:=h.lt _ n;omega)
 have e:∀ b p,L.lab b=p→p≠(0,0,0)→p≠(1,6,0)→b∉va.ownBlock.toList∧(if va'.ownBlock=some b then ((1:Nat),(6:Int),(0:Nat)) else L.lab b)=p:=fun b p hp' h0 h5=>by
  refine ⟨fun q=>?_,?_⟩
  ·have:=h.la b (by simpa using q)
   rw [hp'] at this;exact h5 this
  ·rw [if_neg]
   ·exact hp'
   ·intro q
    rcases n0 b q with r | r
    ·rw [hp'] at r;exact h5 r
    ·rw [hp'] at r;exact h0 r
 have ex:=e _ _ h.lx (by simp) (by simp)
 have sz:=hk.size
 exact {
  c0:=hk.cellAt h.c0 ex.1,c1:=hk.cellAt h.c1 ex.1,c2:=h.c2.imp fun c q=>hk.cellAt q ex.1,c3:=h.c3.imp fun c q=>hk.cellAt q ex.1,c4:=h.c4.imp fun c q=>hk.cellAt q ex.1,c5:=hk.cellAt h.c5 ex.1,c8:=h.c8.imp fun c q=>hk.cellAt q ex.1,c9:=hk.cellAt h.c9 ex.1
  z:=fun j=>hk.frz (h.z j) (lt_of_cell h.c0) ex.1
  gr:=h.gr.kept hk (e _ _ h.lg (by simp) (by simp)).1
  cl:=h.cl.kept hk (e _ _ h.ll (by simp) (by simp)).1
  cu:=h.cu.kept hk (e _ _ h.lu (by simp) (by simp)).1
  ld:=h.ld.kept hk (e _ _ h.lo (by simp) (by simp)).1
  oq:=own_kept h.oq hk fun b hb=>(e _ _ (h.lq b hb) (by simp) (by simp)).1
  oa:=ho
  qc:=fun g hg=>(h.qc g hg).kept hk (e _ _ (h.lrq g hg) (by simp) (by simp)).1
  ac:=fun g hg=>(h.ac g hg).kept hk (e _ _ (h.lra g hg) (by simp) (by simp)).1
  map:=h.map.kept hk (e _ _ h.lm (by simp) (by simp)).1
  q:=fun g k hg hc=>(h.q g k hg hc).kept hk fun b hb=>(e _ _ (h.lF g k hg hc b hb) (by simp) (by simp)).1
  lx:=ex.2
  lg:=(e _ _ h.lg (by simp) (by simp)).2
  ll:=(e _ _ h.ll (by simp) (by simp)).2
  lu:=(e _ _ h.lu (by simp) (by simp)).2
  lm:=(e _ _ h.lm (by simp) (by simp)).2
  lo:=(e _ _ h.lo (by simp) (by simp)).2
  lq:=fun b hb=>(e _ _ (h.lq b hb) (by simp) (by simp)).2
  la:=fun b hb=>if_pos hb
  lrq:=fun g hg=>(e _ _ (h.lrq g hg) (by simp) (by simp)).2
  lra:=fun g hg=>(e _ _ (h.lra g hg) (by simp) (by simp)).2
  lF:=fun g k hg hc b hb=>(e _ _ (h.lF g k hg hc b hb) (by simp) (by simp)).2
  lt:=fun b hb=>by
   by_cases q:va'.ownBlock=some b
   ·exact (ho.lt b q).2
   ·replace hb:(if va'.ownBlock=some b then ((1:Nat),(6:Int),(0:Nat)) else L.lab b)≠(0,0,0):=hb
    rw [if_neg q] at hb
    exact Nat.lt_of_lt_of_le (h.lt b hb) sz
  ge:=fun b hb=>by
   by_cases q:va'.ownBlock=some b
   ·exact (ho.lt b q).1
   ·replace hb:(if va'.ownBlock=some b then ((1:Nat),(6:Int),(0:Nat)) else L.lab b)≠(0,0,0):=hb
    rw [if_neg q] at hb
    exact h.ge b hb }
theorem XRaw.field (h:XRaw base wr x L vq va Gs C cr m kq ka) {o:Nat} (ho:o=6∨o=7) (v:Value):XRaw base (wr.setCell ⟨x,o,none⟩ v) x L vq va Gs C cr m kq ka:=by
 have hk:Kept [x] wr (wr.setCell ⟨x,o,none⟩ v):=(Kept.refl _ _).setCell (Or.inl (by simp)) _
 have e:∀ b p,L.lab b=p→p≠(1,0,0)→b∉[x]:=fun b p hp hn m=>by simp at m;subst m;exact hn (by rw [← hp];exact h.lx)
 exact { h with
  c0:=cell_set_ne h.c0 (Or.inr (by omega)),c1:=cell_set_ne h.c1 (Or.inr (by omega)),c2:=h.c2.imp fun c q=>cell_set_ne q (Or.inr (by omega)),c3:=h.c3.imp fun c q=>cell_set_ne q (Or.inr (by omega)),c4:=h.c4.imp fun c q=>cell_set_ne q (Or.inr (by omega)),c5:=cell_set_ne h.c5 (Or.inr (by omega)),c8:=h.c8.imp fun c q=>cell_set_ne q (Or.inr (by omega)),c9:=cell_set_ne h.c9 (Or.inr (by omega))
  z:=fun j=>by rw [World.frozen?_setCell];exact h.z j
  gr:=h.gr.kept hk (e _ _ h.lg (by simp))
  cl:=h.cl.kept hk (e _ _ h.ll (by simp))
  cu:=h.cu.kept hk (e _ _ h.lu (by simp))
  ld:=h.ld.kept hk (e _ _ h.lo (by simp))
  oq:=own_kept h.oq hk fun b hb=>e _ _ (h.lq b hb) (by simp)
  oa:=own_kept h.oa hk fun b hb=>e _ _ (h.la b hb) (by simp)
  qc:=fun g hg=>(h.qc g hg).kept hk (e _ _ (h.lrq g hg) (by simp))
  ac:=fun g hg=>(h.ac g hg).kept hk (e _ _ (h.lra g hg) (by simp))
  map:=h.map.kept hk (e _ _ h.lm (by simp))
  q:=fun g k hg hc=>(h.q g k hg hc).kept hk fun b hb=>e _ _ (h.lF g k hg hc b hb) (by simp)
  lt:=fun b hb=>Nat.lt_of_lt_of_le (h.lt b hb) hk.size }
structure XRow (base:Nat) (wr:World) (rq ra C j:Nat) (wg:Int) (qp:Nat→Nat) (F:Nat→List Nat):Prop where
 pc:∀ k,k<C→wr.cell? ⟨rq,k,none⟩=some (.pointer (if k<j then some ⟨qp k,0,none⟩ else none))
 pz:∀ i,wr.frozen? ⟨rq,i,none⟩=false
 ec:∀ k,k<C→wr.cell? ⟨ra,k*3,none⟩=some (.int .u64 0)∧wr.cell? ⟨ra,k*3+1,none⟩=some (.int .u32 0)∧wr.cell? ⟨ra,k*3+2,none⟩=some (.int .u32 (if k<j then wg else 0))
 ez:∀ i,wr.frozen? ⟨ra,i,none⟩=false
 lt:rq<wr.heap.size∧ra<wr.heap.size
 ge:base≤rq∧base≤ra
 ne:rq≠ra
 q:∀ k,k<j→QIn wr (qp k) (F k) qN [] 0
 off:∀ k,k<j→∀ b∈F k,base≤b∧b≠rq∧b≠ra
 dis:∀ i k,i<j→k<j→i≠k→∀ b∈F i,b∉F k
theorem XRow.next {base:Nat} {wr w1:World} {rq ra C j:Nat} {wg:Int} {qp:Nat→Nat} {F:Nat→List Nat} {q:Nat} {F1:List Nat} (h:XRow base wr rq ra C j wg qp F) (hj:j<C) (hq:QIn w1 q F1 qN [] 0) (hF:∀ b∈F1,wr.heap.size≤b) (hb:Below wr.heap.size wr w1) :
  XRow base ((w1.setCell ⟨rq,j,none⟩ (.pointer (some ⟨q,0,none⟩))).setCell ⟨ra,j*3+2,none⟩ (.int .u32 wg)) rq ra C (j+1) wg (upd qp j q) (upd F j F1):=by
 have hk:Kept [rq,ra] w1 ((w1.setCell ⟨rq,j,none⟩ (.pointer (some ⟨q,0,none⟩))).setCell ⟨ra,j*3+2,none⟩ (.int .u32 wg)):=((Kept.refl _ _).setCell (Or.inl (by simp)) _).setCell (Or.inl (by simp)) _
 have lt:=h.lt
 refine ⟨fun k hkC=>?_,fun i=>?_,fun k hkC=>?_,fun i=>?_,?_,h.ge,h.ne,fun k hkj=>?_,fun k hkj b hb'=>?_,fun i k hi hk' hik b hb'=>?_⟩
 ·have c:=cell_later hb (h.pc k hkC)
  by_cases e:k=j
  ·subst e
   rw [upd_same,if_pos (Nat.lt_succ_self k)]
   exact cell_set_ne (cell_set_eq c) (Or.inl h.ne)
  ·rw [upd_other _ _ e]
   have e2:(k<j+1)=(k<j):=propext ⟨fun q=>by omega,fun q=>by omega⟩
   simp only [e2]
   exact cell_set_ne (cell_set_ne c (Or.inr e)) (Or.inl h.ne)
 ·rw [World.frozen?_setCell,World.frozen?_setCell];exact frz_later hb (h.pz i) lt.1
 ·obtain ⟨c0,c1,c2⟩:=h.ec k hkC
  replace c0:=cell_later hb c0
  replace c1:=cell_later hb c1
  replace c2:=cell_later hb c2
  refine ⟨cell_set_ne (cell_set_ne c0 (Or.inl (Ne.symm h.ne))) (Or.inr (by omega)),cell_set_ne (cell_set_ne c1 (Or.inl (Ne.symm h.ne))) (Or.inr (by omega)),?_⟩
  by_cases e:k=j
  ·subst e
   rw [if_pos (Nat.lt_succ_self k)]
   exact cell_set_eq (cell_set_ne c2 (Or.inl (Ne.symm h.ne)))
  ·have e2:(k<j+1)=(k<j):=propext ⟨fun q=>by omega,fun q=>by omega⟩
   simp only [e2]
   exact cell_set_ne (cell_set_ne c2 (Or.inl (Ne.symm h.ne))) (Or.inr (by omega))
 ·rw [World.frozen?_setCell,World.frozen?_setCell];exact frz_later hb (h.ez i) lt.2
 ·have:=hb.size
  simp
  omega
 ·by_cases e:k=j
  ·subst e
   rw [upd_same,upd_same]
   exact hq.kept hk fun b hb' m=>by have:=hF b hb';simp at m;omega
  ·rw [upd_other _ _ e,upd_other _ _ e]
   exact ((h.q k (by omega)).below hb).kept hk fun b hb' m=>by have:=h.off k (by omega) b hb';simp at m;omega
 ·by_cases e:k=j
  ·subst e
   rw [upd_same] at hb'
   have:=hF b hb'
   have:=h.ge
   omega
  ·rw [upd_other _ _ e] at hb'
   exact h.off k (by omega) b hb'
 ·by_cases e:i=j
  ·subst e
   rw [upd_same] at hb'
   rw [upd_other _ _ (Ne.symm hik)]
   intro m
   have:=hF b hb'
   have:=(h.q k (by omega)).lt b m
   omega
  ·rw [upd_other _ _ e] at hb'
   by_cases e':k=j
   ·subst e'
    rw [upd_same]
    intro m
    have:=hF b m
    have:=(h.q i (by omega)).lt b hb'
    omega
   ·rw [upd_other _ _ e']
    exact h.dis i k (by omega) (by omega) hik b hb'
def SLay.row (L:SLay) (m rq ra C:Nat) (qp:Nat→Nat) (F:Nat→List Nat):SLay:={ L with rq:=upd L.rq m rq,ra:=upd L.ra m ra,qp:=upd L.qp m qp,Fq:=upd L.Fq m F,lab:=fun b=>if b=rq then (2,(m:Int),0) else if b=ra then (3,(m:Int),0) else match (List.range C).find? fun k=>decide (b∈F k) with
 | some k=>(5,(m:Int),k)
 | none=>L.lab b }
theorem rowsN_upd {f:Nat→Nat} {C k m y:Nat} (h:k≤m):rowsN (upd f m y) C k=rowsN f C k:=by
 unfold rowsN
 refine List.map_congr_left fun g hg=>?_
 rw [upd_other _ _ (by have:=List.mem_range.1 hg;omega)]
theorem XRaw.row {rq ra:Nat} {qp:Nat→Nat} {F:Nat→List Nat} (h:XRaw base wr x L vq va Gs C cr m kq ka) (hkq:kq≤m) (hka:ka≤m) (hB:base≤wr.heap.size) (hb:Below wr.heap.size wr w') (r:XRow wr.heap.size w' rq ra C C Gs[m]!.2 qp F) (hw:1≤Gs[m]!.2∧Gs[m]!.2≤65536) :
  XRaw base w' x (L.row m rq ra C qp F) vq va Gs C cr (m+1) kq ka:=by
 have h':=h.below hb
 have hge:=r.ge
 have e:∀ b p,L.lab b=p→p≠(0,0,0)→(L.row m rq ra C qp F).lab b=p:=fun b p hp hn=>by
  have hlt:=h.lt b (by rw [hp];exact hn)
  show (if b=rq then _ else if b=ra then _ else _)=p
  rw [if_neg (by omega),if_neg (by omega)]
  have hnone:(List.range C).find? (fun k=>decide (b∈F k))=none:=List.find?_eq_none.2 fun k hk q=>by
   have:=r.off k (List.mem_range.1 hk) b (by simpa using q)
   omega
  rw [hnone]
  exact hp
 have ef:∀ k,k<C→∀ b∈F k,(L.row m rq ra C qp F).lab b=(5,(m:Int),k):=fun k hk b hb'=>by
  have o:=r.off k hk b hb'
  show (if b=rq then _ else if b=ra then _ else _)=_
  rw [if_neg o.2.1,if_neg o.2.2]
  cases hf:(List.range C).find? (fun k=>decide (b∈F k)) with
  | none=>exact absurd hb' (by simpa using List.find?_eq_none.1 hf k (List.mem_range.2 hk))
  | some k' =>
   have m1:b∈F k':=by simpa using List.find?_some hf
   have m2:k'<C:=List.mem_range.1 (List.mem_of_find?_eq_some hf)
   by_cases q:k'=k
   ·rw [q]
   ·exact absurd m1 (r.dis k k' hk m2 (Ne.symm q) b hb')
 have eq:(L.row m rq ra C qp F).lab rq=(2,(m:Int),0):=if_pos rfl
 have ea:(L.row m rq ra C qp F).lab ra=(3,(m:Int),0):=by
  show (if ra=rq then _ else if ra=ra then _ else _)=_
  rw [if_neg (Ne.symm r.ne),if_pos rfl]
 have new:∀ b,(L.row m rq ra C qp F).lab b≠(0,0,0)→L.lab b≠(0,0,0)∨(wr.heap.size≤b∧b<w'.heap.size):=fun b hb'=>by
  by_cases q1:b=rq
  ·subst q1;exact Or.inr ⟨hge.1,r.lt.1⟩
  by_cases q2:b=ra
  ·subst q2;exact Or.inr ⟨hge.2,r.lt.2⟩
  have hb2:(match (List.range C).find? fun k=>decide (b∈F k) with
   | some k=>((5:Nat),(m:Int),k)
   | none=>L.lab b)≠(0,0,0):=by
   have q:(if b=rq then ((2:Nat),(m:Int),(0:Nat)) else if b=ra then (3,(m:Int),0) else match (List.range C).find? fun k=>decide (b∈F k) with
    | some k=>(5,(m:Int),k)
    | none=>L.lab b)≠(0,0,0):=hb'
   rw [if_neg q1,if_neg q2] at q
   exact q
  cases hf:(List.range C).find? (fun k=>decide (b∈F k)) with
  | none=>rw [hf] at hb2;exact Or.inl hb2
  | some k =>
   have m1:b∈F k:=by simpa using List.find?_some hf
   have m2:k<C:=List.mem_range.1 (List.mem_of_find?_eq_some hf)
   exact Or.inr ⟨(r.off k m2 b m1).1,(r.q k m2).lt b m1⟩
 have up:∀ {α:Type} (f:Nat→α) (y:α) (g:Nat),g<m→upd f m y g=f g:=fun f y g hg=>upd_other _ _ (by omega)
 exact { h' with
  oq:=by
   show w'.ownsRow base 101 1 vq kq (rowsN (upd L.rq m rq) C kq)
   rw [rowsN_upd hkq];exact h'.oq
  oa:=by
   show w'.ownsRow base 102 1 va ka (rowsN (upd L.ra m ra) C ka)
   rw [rowsN_upd hka];exact h'.oa
  qc:=fun g hg=>by
   show PtrsAt w' (upd L.rq m rq g) C (upd L.qp m qp g)
   by_cases q:g=m
   ·subst q
    rw [upd_same,upd_same]
    exact ⟨fun k hk=>by have:=r.pc k hk;rw [if_pos hk] at this;exact this,r.lt.1⟩
   ·rw [upd_other _ _ q,upd_other _ _ q];exact h'.qc g (by omega)
  ac:=fun g hg=>by
   show EntsAt w' (upd L.ra m ra g) C (fun _=>newA Gs g)
   by_cases q:g=m
   ·subst q
    rw [upd_same]
    refine ⟨fun k hk=>?_,r.ez,r.lt.2,fun k hk=>?_⟩
    ·have:=r.ec k hk
     rw [if_pos hk] at this
     exact this
    ·show Ch.Fits 0 0 Gs[g]!.2
     unfold Ch.Fits
     omega
   ·rw [upd_other _ _ q];exact h'.ac g (by omega)
  q:=fun g k hg hk=>by
   show QIn w' (upd L.qp m qp g k) (upd L.Fq m F g k) qN [] 0
   by_cases q:g=m
   ·subst q
    rw [upd_same,upd_same]
    exact r.q k hk
   ·rw [upd_other _ _ q,upd_other _ _ q];exact h'.q g k (by omega) hk
  lx:=e _ _ h.lx (by simp)
  lg:=e _ _ h.lg (by simp)
  ll:=e _ _ h.ll (by simp)
  lu:=e _ _ h.lu (by simp)
  lm:=e _ _ h.lm (by simp)
  lo:=e _ _ h.lo (by simp)
  lq:=fun b hb'=>e _ _ (h.lq b hb') (by simp)
  la:=fun b hb'=>e _ _ (h.la b hb') (by simp)
  lrq:=fun g hg=>by
   show (L.row m rq ra C qp F).lab (upd L.rq m rq g)=_
   by_cases q:g=m
   ·subst q;rw [upd_same];exact eq
   ·rw [upd_other _ _ q];exact e _ _ (h.lrq g (by omega)) (by simp)
  lra:=fun g hg=>by
   show (L.row m rq ra C qp F).lab (upd L.ra m ra g)=_
   by_cases q:g=m
   ·subst q;rw [upd_same];exact ea
   ·rw [upd_other _ _ q];exact e _ _ (h.lra g (by omega)) (by simp)
  lF:=fun g k hg hk b hb'=>by
   replace hb':b∈upd L.Fq m F g k:=hb'
   by_cases q:g=m
   ·subst q
    rw [upd_same] at hb'
    exact ef k hk b hb'
   ·rw [upd_other _ _ q] at hb'
    exact e _ _ (h.lF g k (by omega) hk b hb') (by simp)
  lt:=fun b hb'=>by
   rcases new b hb' with q | q
   ·exact h'.lt b q
   ·exact q.2
  ge:=fun b hb'=>by
   rcases new b hb' with q | q
   ·exact h.ge b q
   ·omega }
theorem XRaw.done {n:Nat} (h:XRaw base wr x L vq va Gs C cr n n n) (hn:n=Gs.length) (hp:0<n) (x6:wr.cell? ⟨x,6,none⟩=some vq) (x7:wr.cell? ⟨x,7,none⟩=some va):∃ L',SRaw wr x L' (firstS Gs C cr)∧∀ b,L'.lab b≠(0,0,0)→base≤b:=by
 obtain ⟨n',rfl⟩:∃ n',n=n'+1:=⟨n - 1,by omega⟩
 obtain ⟨bq,cq,rfl⟩:=own_some h.oq
 obtain ⟨ba,ca,rfl⟩:=own_some h.oa
 have hnn:(firstS Gs C cr).n=n'+1:=hn.symm
 refine ⟨{ L with bq:=bq,ba:=ba },?_,h.ge⟩
 exact {
  head:=⟨h.c0,h.c1,by rw [hnn,hn];exact h.c2,h.c3,h.c4,h.c5,by rw [hnn];exact ⟨cq,x6⟩,by rw [hnn];exact ⟨ca,x7⟩,h.c8,h.c9,h.z⟩
  gr:=h.gr
  cl:=h.cl
  cu:=h.cu
  ld:=h.ld
  rq:=⟨fun k hk=>⟨C,(h.oq.cellAt k (by rw [hnn] at hk;omega)).trans (rows_at (by rw [hnn] at hk;exact hk))⟩,(h.oq.lt bq rfl).2⟩
  ra:=⟨fun k hk=>⟨C,(h.oa.cellAt k (by rw [hnn] at hk;omega)).trans (rows_at (by rw [hnn] at hk;exact hk))⟩,(h.oa.lt ba rfl).2⟩
  qc:=fun g hg=>h.qc g (by rw [hnn] at hg;exact hg)
  ac:=fun g hg=>h.ac g (by rw [hnn] at hg;exact hg)
  map:=h.map
  tk:=fun id t q=>by cases q
  q:=fun g k hg hk=>h.q g k (by rw [hnn] at hg;exact hg) hk
  lx:=h.lx
  lg:=h.lg
  ll:=h.ll
  lu:=h.lu
  lm:=h.lm
  lq:=h.lq bq rfl
  la:=h.la ba rfl
  lo:=h.lo
  lrq:=fun g hg=>h.lrq g (by rw [hnn] at hg;exact hg)
  lra:=fun g hg=>h.lra g (by rw [hnn] at hg;exact hg)
  ltk:=fun id t q=>by cases q
  lF:=fun g k hg hk=>h.lF g k (by rw [hnn] at hg;exact hg) hk
  lt:=h.lt }
end
end Go.Proofs.YtapnaocdehahdaaGreat
