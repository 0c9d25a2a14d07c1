/-
  Layer 30 (model): New.
-/
import Derived.Test.YtapnaocdehahdaaGreatMdK
namespace Go.Proofs.YtapnaocdehahdaaGreat
open Go.RowKit Go.Maps Go.IntWalk Go.Lib
set_option linter.unusedVariables false
set_option linter.unusedSimpArgs false
def freshM (Gs:Grps) (C:Nat) (cr:Int):MSt:=⟨C,cr,Gs,fun _=>0,fun _=>0,[],fun _ _=>(0,0,0)⟩
theorem MIn.of {w:World} {x g l u s cg cl cu cs:Nat} {tb:Option Nat} {rr:Nat→Nat} {m:MSt} {vt:Value} (hx:w.heap.size≤x)
  (W:World) (hW:W=w.alloc (.cells #[.int .i64 m.C,.int .u64 m.cr,.slice (some ⟨g,0,none⟩) m.n cg,.slice (some ⟨l,0,none⟩) m.C cl,.slice (some ⟨u,0,none⟩) m.C cu,vt,.slice (some ⟨s,0,none⟩) m.n cs,.bool true] 157)) (hxe:x=w.heap.size)
  (h1:m.n≤cg∧cg≤9223372036854775807) (h2:m.C≤cl∧cl≤9223372036854775807) (h3:m.C≤cu∧cu≤9223372036854775807) (h4:m.n≤cs∧cs≤9223372036854775807)
  (hg:GrpsAt w g m.Gs) (hl:IntsAt w l m.C m.cl) (hu:IntsAt w u m.C m.cu) (ht:TsAt w vt tb m.ts) (hs:RwsAt w s m.n m.C rr) (hsp:∀ i,i<m.n→SpsAt w (rr i) m.C (m.sp i)) (hc:ChainB g l u tb s m.n rr) :
  MIn W x ⟨g,l,u,tb,s,rr,fun b=>if b=x then (1,0) else labOf g l u tb s m.n rr b⟩ m:=by
 subst hxe
 have hb:Below w.heap.size w W:=by rw [hW];exact below_a _ _
 have hk:Kept ([]:List Nat) w W:=Kept.of hb
 have hsz:W.heap.size=w.heap.size+1:=by rw [hW];simp
 have gn:=hg.lt
 have ln:=hl.lt
 have un:=hu.lt
 have sn:=hs.lt
 have ne:∀ b,b<w.heap.size→(if b=w.heap.size then ((1:Nat),(0:Nat)) else labOf g l u tb s m.n rr b)=labOf g l u tb s m.n rr b:=fun b q=>if_neg (by omega)
 exact {
  c0:=by rw [hW];exact cell_nw w _ _ 0 _ rfl
  c1:=by rw [hW];exact cell_nw w _ _ 1 _ rfl
  c2:=⟨cg,h1.1,h1.2,by rw [hW];exact cell_nw w _ _ 2 _ rfl⟩
  c3:=⟨cl,h2.1,h2.2,by rw [hW];exact cell_nw w _ _ 3 _ rfl⟩
  c4:=⟨cu,h3.1,h3.2,by rw [hW];exact cell_nw w _ _ 4 _ rfl⟩
  c5:=⟨vt,by rw [hW];exact cell_nw w _ _ 5 _ rfl,ht.kept hk (by simp)⟩
  c6:=⟨cs,h4.1,h4.2,by rw [hW];exact cell_nw w _ _ 6 _ rfl⟩
  c7:=by rw [hW];exact cell_nw w _ _ 7 _ rfl
  z:=fun j=>by rw [hW];exact frz_nw w _ _ j
  gr:=hg.kept hk (by simp)
  cl:=hl.kept hk (by simp)
  cu:=hu.kept hk (by simp)
  rows:=hs.kept hk (by simp)
  sp:=fun i hi=>(hsp i hi).kept hk (by simp)
  lx:=if_pos rfl
  lg:=(ne _ gn).trans hc.lg
  ll:=(ne _ ln).trans hc.ll
  lu:=(ne _ un).trans hc.lu'
  lt:=fun b q=>(ne _ (ht.lt q)).trans (hc.lt b q)
  ls:=(ne _ sn).trans hc.ls
  lr:=fun i hi=>(ne _ (hsp i hi).lt).trans (hc.lr i hi)
  lz:=fun b q=>by
   by_cases e:b=w.heap.size
   ·omega
   ·replace q:(if b=w.heap.size then ((1:Nat),(0:Nat)) else labOf g l u tb s m.n rr b)≠(0,0):=q
    rw [if_neg e] at q
    have:=labOf_lt (B:=w.heap.size) q gn ln un (fun b r=>ht.lt r) sn fun i hi=>(hsp i hi).lt
    omega }
theorem own_apartM {w:World} {b1 b2 e1 e2 k1 k2 m1 m2:Nat} {v1 v2:Value} {x1 x2:List Value} (h1:w.ownsRow b1 e1 k1 v1 m1 x1) (h2:w.ownsRow b2 e2 k2 v2 m2 x2) (he:e1≠e2) {b:Nat} (q1:v1.ownBlock=some b):v2.ownBlock≠some b:=fun q2=>by
 rcases h1.2 with ⟨rfl,_⟩ | ⟨g1,c1,u1,rfl,_,a1,_⟩
 ·cases q1
 ·rcases h2.2 with ⟨rfl,_⟩ | ⟨g2,c2,u2,rfl,_,a2,_⟩
  ·cases q2
  ·cases q1
   cases q2
   rw [a2] at a1
   simp only [Option.some.injEq,Obj.cells.injEq] at a1
   exact he a1.2.1.symm
theorem made_flat (C:Nat):(madeCells #[.int .u64 0,.int .u32 0,.int .u64 0] (C*3)).toList=flatR encSp ((List.range C).map fun _=>((0:Int),(0:Int),(0:Int))):=by
 apply List.ext_getElem?
 intro j
 by_cases h:j<C*3
 ·have hk:j / 3<C:=by omega
  have h1:=flatR_at encSp_ok (L:=(List.range C).map fun _=>((0:Int),(0:Int),(0:Int))) (i:=j / 3) (x:=(0,0,0)) (by rw [List.getElem?_map,List.getElem?_range hk];rfl) (j % 3) (by omega)
  have h2:=made3_at (C:=C) (k:=j / 3) (i:=j % 3) (.int .u64 0) (.int .u32 0) (.int .u64 0) hk (by omega)
  rw [show j / 3*3+j % 3=j by omega] at h1 h2
  rw [h1,Array.getElem?_toList,h2]
  rcases (show j % 3=0∨j % 3=1∨j % 3=2 by omega) with q | q | q <;> rw [q] <;> rfl
 ·rw [Array.getElem?_toList,Array.getElem?_eq_none (by simp [madeCells];omega),List.getElem?_eq_none (by rw [flatR_len encSp_ok];simp;omega)]
theorem IntsAt.later {w w':World} {b n:Nat} {f:Nat→Int} (h:IntsAt w b n f) (hb:Below w.heap.size w w'):IntsAt w' b n f:=h.kept (G:=[]) (Kept.of hb) (by simp)
def rowsM (f:Nat→Nat) (C m:Nat):List Value:=(List.range m).map fun g=>.slice (some ⟨f g,0,none⟩) C C
theorem rowsM_snoc (f:Nat→Nat) (C m q:Nat):rowsM (upd f m q) C (m+1)=rowsM f C m++[.slice (some ⟨q,0,none⟩) C C]:=by
 unfold rowsM
 rw [List.range_succ,List.map_append]
 simp only [List.map_cons,List.map_nil,upd_same]
 congr 1
 refine List.map_congr_left fun i hi=>?_
 rw [upd_other _ _ (by have:=List.mem_range.1 hi;omega)]
theorem rowsM_at {f:Nat→Nat} {C m g:Nat} (h:g<m):(rowsM f C m)[g]?=some (.slice (some ⟨f g,0,none⟩) C C):=by
 unfold rowsM
 rw [List.getElem?_map,List.getElem?_range h]
 rfl
def zSp:Nat→Int×Int×Int:=fun _=>(0,0,0)
structure MNewI (W3 wr:World) (bs C k:Nat) (cr:Int) (vg vl vu vs:Value) (rr:Nat→Nat):Prop where
 kp:Kept [bs] W3 wr
 st:StB wr bs C cr vg vl vu (.slice none 0 0) vs
 own:wr.ownsRow W3.heap.size 69 1 vs k (rowsM rr C k)
 row:∀ i,i<k→wr.ownsRow W3.heap.size 121 3 (.slice (some ⟨rr i,0,none⟩) C C) C (flatR encSp ((List.range C).map zSp))
theorem MNewI.step {W3 wr wb w2:World} {bs C k q:Nat} {cr:Int} {vg vl vu vs v':Value} {rr:Nat→Nat} (h:MNewI W3 wr bs C k cr vg vl vu vs rr) (hs:bs<W3.heap.size) (hb:Below wr.heap.size wr wb) (hq:wb.ownsRow W3.heap.size 121 3 (.slice (some ⟨q,0,none⟩) C C) C (flatR encSp ((List.range C).map zSp)))
  (ho:w2.ownsRow W3.heap.size 69 1 v' (k+1) (rowsM rr C k++[.slice (some ⟨q,0,none⟩) C C])) (hg:wb.grownBy w2 vs.ownBlock):MNewI W3 (w2.setCell ⟨bs,6,none⟩ v') bs C (k+1) cr vg vl vu v' (upd rr k q):=by
 have k1:Kept vs.ownBlock.toList wb w2:=grown_kept hg
 have hown:=own_below h.own hb
 have nb:∀ b,vs.ownBlock=some b→b≠bs:=fun b e=>by have:=(hown.lt b e).1;omega
 have k2:Kept [bs] w2 (w2.setCell ⟨bs,6,none⟩ v'):=(Kept.refl _ _).setCell (Or.inl (by simp)) _
 have hsz:=h.kp.size
 refine ⟨?_,?_,?_,fun i hi=>?_⟩
 ·have k0:Kept [bs] W3 wb:=h.kp.step hb
  have k01:Kept [bs] W3 w2:=⟨k1.os.trans k0.os,k1.tape.trans k0.tape,k1.output.trans k0.output,Nat.le_trans k0.size k1.size,fun b hbl hn=>(k1.block b (Nat.lt_of_lt_of_le hbl k0.size) fun m=>by have:=(hown.lt b (by simpa using m)).1;omega).trans (k0.block b hbl hn)⟩
  exact k01.setCell (Or.inl (by simp)) _
 ·exact (((h.st.later hb).kept k1 fun m=>nb bs (by simpa using m) rfl)).spots v'
 ·rw [rowsM_snoc]
  exact own_kept ho k2 fun b e m=>by have:=(ho.lt b e).1;simp at m;omega
 ·have hrow:wb.ownsRow W3.heap.size 121 3 (.slice (some ⟨upd rr k q i,0,none⟩) C C) C (flatR encSp ((List.range C).map zSp)):=by
   by_cases e:i=k
   ·subst e;rw [upd_same];exact hq
   ·rw [upd_other _ _ e];exact own_below (h.row i (by omega)) hb
  have hap:=fun b (e:(Value.slice (some ⟨upd rr k q i,0,none⟩) C C).ownBlock=some b)=>own_apartM hrow hown (by decide) e
  exact own_kept (own_kept hrow k1 fun b e m=>hap b e (by simpa using m)) k2 fun b e m=>by have:=(hrow.lt b e).1;simp at m;omega
end Go.Proofs.YtapnaocdehahdaaGreat
