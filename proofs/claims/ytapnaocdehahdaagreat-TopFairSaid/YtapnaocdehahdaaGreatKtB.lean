/-
  Slices of records: lists in memory; append of such.
-/
import Derived.Test.YtapnaocdehahdaaGreatKtA
import Derived.Laws.OwnMore
import Derived.RangeFuncNested
import Derived.RangeFuncBound
import Derived.RangeFuncBox
import Derived.OrdersIn
import Derived.RangeFuncCalls
namespace Go.Proofs.YtapnaocdehahdaaGreat
open Go.RowKit
set_option linter.unusedVariables false
theorem own_below {w w':World} {base e size:Nat} {v:Value} {n:Nat} {xs:List Value} (h:w.ownsRow base e size v n xs) (hb:Below w.heap.size w w'):w'.ownsRow base e size v n xs:=by
 refine ⟨h.1,?_⟩
 rcases h.2 with h2 | ⟨g,cap,cur,h1,h2,h3,h4⟩
 ·exact Or.inl h2
 ·have hg:g<w.heap.size:=by
   rcases Nat.lt_or_ge g w.heap.size with q | q
   ·exact q
   ·rw [Array.getElem?_eq_none q] at h3;cases h3
  exact Or.inr ⟨g,cap,cur,h1,h2,by rw [hb.block g hg];exact h3,h4⟩
section
variable {α:Type}
def flatR (enc:α→List Value) (L:List α):List Value:=L.flatMap enc
structure Enc (enc:α→List Value) (k:Nat):Prop where
 len:∀ x,(enc x).length=k
 one:∀ x,∀ u∈enc x,u.oneCell'=true
 pos:0<k
variable {enc:α→List Value} {k:Nat}
theorem flatR_app (L M:List α):flatR enc (L++M)=flatR enc L++flatR enc M:=by simp [flatR]
theorem flatR_len (h:Enc enc k) (L:List α):(flatR enc L).length=L.length*k:=by
 induction L with
 | nil=>simp [flatR]
 | cons x r ih =>
  have e:flatR enc (x::r)=enc x++flatR enc r:=rfl
  rw [e,List.length_append,h.len,ih,List.length_cons,Nat.add_mul];omega
theorem flatR_one (h:Enc enc k) (L:List α):∀ u∈flatR enc L,u.oneCell'=true:=by
 intro u hu
 simp only [flatR,List.mem_flatMap] at hu
 obtain ⟨x,_,hx⟩:=hu
 exact h.one x u hx
theorem flatR_at (h:Enc enc k):∀ {L:List α} {i:Nat} {x:α},L[i]?=some x→∀ j,j<k→(flatR enc L)[i*k+j]?=(enc x)[j]?
 | [],i,x,hx,j,hj=>by simp at hx
 | y::r,0,x,hx,j,hj=>by
  simp only [List.getElem?_cons_zero,Option.some.injEq] at hx
  subst hx
  have e:flatR enc (y::r)=enc y++flatR enc r:=rfl
  rw [e,Nat.zero_mul,Nat.zero_add,List.getElem?_append_left (by rw [h.len];exact hj)]
 | y::r,i+1,x,hx,j,hj=>by
  have e:flatR enc (y::r)=enc y++flatR enc r:=rfl
  rw [e,List.getElem?_append_right (by rw [h.len,Nat.add_mul];omega),h.len,show (i+1)*k+j - k=i*k+j by rw [Nat.add_mul];omega]
  exact flatR_at h (by simpa using hx) j hj
theorem flatR_take (h:Enc enc k) (L:List α) (m:Nat):flatR enc (L.take m)=(flatR enc L).take (m*k):=by
 by_cases hm:m≤L.length
 ·have e:flatR enc L=flatR enc (L.take m)++flatR enc (L.drop m):=by rw [← flatR_app,List.take_append_drop]
  have hl:(flatR enc (L.take m)).length=m*k:=by rw [flatR_len h,List.length_take,Nat.min_eq_left hm]
  rw [e,List.take_append_of_le_length (Nat.le_of_eq hl.symm),List.take_of_length_le (Nat.le_of_eq hl)]
 ·rw [List.take_of_length_le (by omega),List.take_of_length_le (by rw [flatR_len h];exact Nat.mul_le_mul_right _ (by omega))]
def RecsAt (enc:α→List Value) (w:World) (v:Value) (L:List α):Prop:=∃ a cap,v=.slice a L.length cap∧L.length≤cap∧cap≤9223372036854775807∧(a=none→cap=0)∧(L=[]∨∃ b off,a=some ⟨b,off,none⟩∧∀ j u,(flatR enc L)[j]?=some u→w.cell? ⟨b,off+j,none⟩=some u)
theorem RecsAt.later {w w':World} {v:Value} {L:List α} (h:RecsAt enc w v L) (hb:Below w.heap.size w w'):RecsAt enc w' v L:=by
 obtain ⟨a,cap,e,h1,h2,h3,h⟩:=h
 exact ⟨a,cap,e,h1,h2,h3,h.imp id fun ⟨b,off,e,hc⟩=>⟨b,off,e,fun j u hu=>cell_later hb (hc j u hu)⟩⟩
theorem RecsAt.nil (w:World):RecsAt enc w (.slice none 0 0) []:=⟨none,0,rfl,Nat.le_refl _,by omega,fun _=>rfl,Or.inl rfl⟩
theorem RecsAt.at (he:Enc enc k) {w:World} {a:Option Addr} {n cap:Nat} {L:List α} (h:RecsAt enc w (.slice a n cap) L) {i:Nat} {x:α} (hx:L[i]?=some x):n=L.length∧∃ b off,a=some ⟨b,off,none⟩∧∀ j u,(enc x)[j]?=some u→w.cell? ⟨b,off+i*k+j,none⟩=some u:=by
 obtain ⟨a',cap',e,_,_,_,h⟩:=h
 cases e
 refine ⟨rfl,?_⟩
 have hi:=(List.getElem?_eq_some_iff.1 hx).1
 rcases h with h | ⟨b,off,rfl,hc⟩
 ·subst h;simp at hi
 ·refine ⟨b,off,rfl,fun j u hu=>?_⟩
  have hj:j<k:=by rw [← he.len x];exact (List.getElem?_eq_some_iff.1 hu).1
  rw [Nat.add_assoc]
  exact hc _ u ((flatR_at he hx j hj).trans hu)
theorem own_recs (he:Enc enc k) {w:World} {base e:Nat} {v:Value} {L:List α} (h:w.ownsRow base e k v L.length (flatR enc L)):RecsAt enc w v L:=by
 have hk:=he.pos
 rcases h.2 with ⟨rfl,h0⟩ | ⟨g,cap,cur,rfl,_,_,h5,h6,_⟩
 ·have:L=[]:=List.eq_nil_of_length_eq_zero h0;subst this;exact RecsAt.nil w
 ·refine ⟨some ⟨g,0,none⟩,cap,rfl,h5,by unfold maxLen at h6;omega,(fun q=>by cases q),Or.inr ⟨g,0,rfl,fun j u hu=>?_⟩⟩
  have hj:j<L.length*k:=by rw [← flatR_len he];exact (List.getElem?_eq_some_iff.1 hu).1
  rw [Nat.zero_add,h.cellAt j hj]
  exact hu
theorem RecsAt.take (he:Enc enc k) {w:World} {a:Option Addr} {n cap m:Nat} {L:List α} (h:RecsAt enc w (.slice a n cap) L) (hm:m≤n):RecsAt enc w (.slice a m cap) (L.take m):=by
 obtain ⟨a',cap',e,h1,h2,h3,h⟩:=h
 cases e
 have hl:(L.take m).length=m:=by rw [List.length_take,Nat.min_eq_left hm]
 refine ⟨a,cap,by rw [hl],by rw [hl];omega,h2,h3,?_⟩
 rcases h with h | ⟨b,off,rfl,hc⟩
 ·subst h;exact Or.inl (by simp)
 ·refine Or.inr ⟨b,off,rfl,fun j u hu=>hc j u ?_⟩
  rw [flatR_take he,List.getElem?_take] at hu
  split at hu
  ·exact hu
  ·cases hu
theorem RecsAt.drop (he:Enc enc k) {w:World} {b off n cap m:Nat} {L:List α} (h:RecsAt enc w (.slice (some ⟨b,off,none⟩) n cap) L) (hm:m≤n) (hc:cap≠m):RecsAt enc w (.slice (some ⟨b,off+m*k,none⟩) (n - m) (cap - m)) (L.drop m):=by
 obtain ⟨a',cap',e,h1,h2,h3,h⟩:=h
 cases e
 have hl:(L.drop m).length=L.length - m:=by simp
 refine ⟨_,_,by rw [hl],by rw [hl];omega,by omega,(fun q=>by cases q),?_⟩
 rcases h with h | ⟨b',off',e',hc'⟩
 ·subst h;exact Or.inl (by simp)
 ·cases e'
  refine Or.inr ⟨b,off+m*k,rfl,fun j u hu=>?_⟩
  rw [Nat.add_assoc]
  refine hc' _ u ?_
  have e2:flatR enc L=flatR enc (L.take m)++flatR enc (L.drop m):=by rw [← flatR_app,List.take_append_drop]
  rw [e2,List.getElem?_append_right (by rw [flatR_len he,List.length_take,Nat.min_eq_left hm];omega),flatR_len he,List.length_take,Nat.min_eq_left hm,Nat.add_sub_cancel_left]
  exact hu
theorem RecsAt.end_ {w:World} {a:Option Addr} {n cap:Nat} {L:List α} (h:RecsAt enc w (.slice a n cap) L):RecsAt enc w (.slice a 0 0) []:=by
 obtain ⟨a',cap',e,h1,h2,h3,h⟩:=h
 cases e
 exact ⟨a,0,rfl,Nat.le_refl _,by omega,fun _=>rfl,Or.inl rfl⟩
theorem lit_recs (he:Enc enc k) (w:World) (L:List α) (t:TypeId) (h:L.length≤9223372036854775807):RecsAt enc (w.alloc (.cells (flatR enc L).toArray t)) (.slice (some ⟨w.heap.size,0,none⟩) L.length L.length) L:=
 ⟨_,_,rfl,Nat.le_refl _,h,(fun q=>by cases q),Or.inr ⟨w.heap.size,0,rfl,fun j u hu=>by rw [Nat.zero_add];exact cell_nw _ _ _ _ _ (by simpa using hu)⟩⟩
end
section
variable {α:Type} {enc:α→List Value} {P:Program} {w:World} (base:Nat) (t ty e:TypeId) (i:TypeInfo) (z:Value) (size bytes:Nat)
theorem run_append_recs (he:Enc enc size) (ht:P.underlying t=some (.slice e)) (hi:P.info? e=some i) (hz:i.zero=some z) (hsize:i.size=size) (hby:i.bytes=bytes) (hzs:z.cells.size=size)
  (v:Value) (n:Nat) (xs:List Value) (hown:w.ownsRow base e size v n xs) (s:Value) (L:List α) (hs:RecsAt enc w s L)
  (h63:n+L.length≤maxLen) (hbytes:(n+L.length)*bytes≤140737488355328) (hbase:base≤w.heap.size) :
  ∃ v' w',(Builtin.append_ #[t,t] ty #[v,s]).run P w=.ok v' w'∧w'.ownsRow base e size v' (n+L.length) (xs++flatR enc L)∧w.grownBy w' v.ownBlock∧(L≠[]→v'.ownBlock=v.ownBlock∨v'.ownBlock=some w.heap.size)∧(L=[]→v'=v):=by
 obtain ⟨a,cap,rfl,h1,h2,h3,h⟩:=hs
 cases a with
 | none =>
  have hc:cap=0:=h3 rfl
  subst hc
  have hl:L.length=0:=by omega
  have hL:L=[]:=List.eq_nil_of_length_eq_zero hl
  subst hL
  refine ⟨v,w,run_append_owned_none (P:=P) (w:=w) base t ty e i size ht hi v n xs hown,by simpa [flatR] using hown,⟨rfl,rfl,rfl,Nat.le_refl _,fun _ _ _=>rfl⟩,fun q=>absurd rfl q,fun _=>rfl⟩
 | some ad =>
  have hnews:∀ j u,(flatR enc L)[j]?=some u→w.cell? (ad.add j)=some u:=by
   rcases h with h | ⟨b,off,e',hc⟩
   ·subst h;intro j u hu;simp [flatR] at hu
   ·cases e';exact fun j u hu=>by rw [addr_add];exact hc j u hu
  obtain ⟨v',w',hr,q1,q2,q3⟩:=run_append_own (P:=P) w base t ty e i z size bytes ht hi hz hsize hby hzs he.pos v n xs hown ad L.length cap (flatR enc L) (flatR_len he L) hnews (flatR_one he L) h63 hbytes hbase
  refine ⟨v',w',hr,q1,q2,fun hne=>?_,fun hL=>?_⟩
  ·exact run_append_place (P:=P) (w:=w) base t ty e i z size bytes ht hi hz hsize hby hzs he.pos v n xs hown ad L.length cap (flatR enc L) (flatR_len he L) hnews (flatR_one he L) h63 hbytes (by cases L with | nil=>exact absurd rfl hne | cons _ _=>simp) hr
  ·subst hL
   have hs:=he.pos
   subst hsize
   rcases hown.2 with ⟨rfl,rfl⟩ | ⟨g,cap',cur,rfl,_,hg,h5,h6,h7,h8⟩
   ·exact (q3.2 ⟨rfl,rfl⟩)
   ·rw [List.length_nil] at hr
    rw [run_append_room (P:=P) w t ty e i ht hi g n cap' cur hg ad 0 cap [] (by simp) (fun j u hu=>by simp at hu) (fun u hu=>by cases hu) (by omega) (by rw [h7,List.length_nil,Nat.add_zero];exact Nat.mul_le_mul_right _ h5)] at hr
    cases hr
    rfl
theorem run_append_fresh (he:Enc enc size) (ht:P.underlying t=some (.slice e)) (hi:P.info? e=some i) (hz:i.zero=some z) (hsize:i.size=size) (hby:i.bytes=bytes) (hzs:z.cells.size=size)
  (g:Nat) (hown:w.ownsRow base e size (.slice (some ⟨g,0,none⟩) 0 0) 0 []) (s:Value) (L:List α) (hs:RecsAt enc w s L)
  (h63:L.length≤maxLen) (hbytes:L.length*bytes≤140737488355328) (hbase:base≤w.heap.size) :
  ∃ v' w',(Builtin.append_ #[t,t] ty #[.slice (some ⟨g,0,none⟩) 0 0,s]).run P w=.ok v' w'∧w'.ownsRow base e size v' L.length (flatR enc L)∧Below w.heap.size w w'∧((L=[]∧v'=.slice (some ⟨g,0,none⟩) 0 0)∨v'.ownBlock=some w.heap.size):=by
 obtain ⟨v',w',hr,q1,q2,q3,q4⟩:=run_append_recs (P:=P) (w:=w) base t ty e i z size bytes he ht hi hz hsize hby hzs _ 0 [] hown s L hs (by omega) (by rw [Nat.zero_add];exact hbytes) hbase
 have q1':=q1
 rw [Nat.zero_add,List.nil_append] at q1'
 have hg:g<w.heap.size:=(hown.lt g rfl).2
 have hbelow:Below w.heap.size w w'∧((L=[]∧v'=.slice (some ⟨g,0,none⟩) 0 0)∨v'.ownBlock=some w.heap.size):=by
  obtain ⟨a,cap,rfl,h1,h2,h3,h⟩:=hs
  cases a with
  | none =>
   have hc:cap=0:=h3 rfl
   subst hc
   have hl:L.length=0:=by omega
   have hL:L=[]:=List.eq_nil_of_length_eq_zero hl
   subst hL
   have:=run_append_owned_none (P:=P) (w:=w) base t ty e i size ht hi _ 0 [] hown
   rw [List.length_nil,this] at hr
   cases hr
   exact ⟨Below.refl _ _,Or.inl ⟨rfl,rfl⟩⟩
  | some ad =>
   have hnews:∀ j u,(flatR enc L)[j]?=some u→w.cell? (ad.add j)=some u:=by
    rcases h with h | ⟨b,off,e',hc⟩
    ·subst h;intro j u hu;simp [flatR] at hu
    ·cases e';exact fun j u hu=>by rw [addr_add];exact hc j u hu
   by_cases hL:L=[]
   ·subst hL
    subst hsize
    rcases hown.2 with ⟨q,_⟩ | ⟨g',cap',cur,eg,_,hgc,h5,h6,h7,h8⟩
    ·cases q
    ·cases eg
     have hcur:cur=#[]:=by
      rw [Nat.zero_mul] at h7
      exact Array.eq_empty_of_size_eq_zero h7
     rw [List.length_nil,run_append_room (P:=P) w t ty e i ht hi g 0 0 cur hgc ad 0 cap [] (by simp) (fun j u hu=>by simp at hu) (fun u hu=>by cases hu) (by omega) (by simp)] at hr
     cases hr
     refine ⟨⟨rfl,rfl,rfl,by simp [World.setRow],fun j hj=>?_⟩,Or.inl ⟨rfl,rfl⟩⟩
     subst hcur
     by_cases hjg:g=j
     ·subst hjg;rw [setRow_heap _ _ _ _ _ _ hgc,hgc];simp
     ·show (w.heap.modify g _)[j]?=_
      rw [Array.getElem?_modify,if_neg hjg]
   ·have hpos:0<L.length:=by cases L with | nil=>exact absurd rfl hL | cons _ _=>simp
    subst hsize
    subst hby
    rw [run_append_grow (P:=P) w t ty e i z ht hi hz ⟨g,0,none⟩ 0 0 [] (by simp) (fun j u hu=>by simp at hu) ad L.length cap (flatR enc L) (flatR_len he L) hnews (by omega) (by unfold maxLen at h63;omega) (growslice_fits (by omega) (by rw [Nat.zero_add];exact hbytes))] at hr
    cases hr
    exact ⟨Below.allocS (Below.refl _ _).drew _,Or.inr rfl⟩
 exact ⟨v',w',hr,q1',hbelow.1,hbelow.2⟩
end
section
variable {α:Type} {enc:α→List Value} {P:Program} {ops:Array Oper} {o:Oper} {a:Act} {w:World} {K:Act→World→Prop} {Q:Exit→Act→World→Prop} {E:Prop} {rest:List Oper}
theorem stepR (hg:o.guard=none) (s x:Operand) (t:TypeId) (hop:o.op=Op.call { callee:=Callee.builtin Builtin.append,args:=#[s,x],argTypes:=#[t,t] })
  (base:Nat) (e:TypeId) (i:TypeInfo) (z:Value) (size bytes:Nat) (he:Enc enc size) (ht:P.underlying t=some (.slice e)) (hi:P.info? e=some i) (hz:i.zero=some z) (hsize:i.size=size) (hby:i.bytes=bytes) (hzs:z.cells.size=size)
  (v:Value) (n:Nat) (xs:List Value) (hs:a.eval s=v) (hown:w.ownsRow base e size v n xs) (s':Value) (L:List α) (hx:a.eval x=s') (hr:RecsAt enc w s' L)
  (h63:n+L.length≤maxLen) (hbytes:(n+L.length)*bytes≤140737488355328) (hbase:base≤w.heap.size)
  (hK:∀ v' w',w'.ownsRow base e size v' (n+L.length) (xs++flatR enc L)→w.grownBy w' v.ownBlock→(L≠[]→v'.ownBlock=v.ownBlock∨v'.ownBlock=some w.heap.size)→(L=[]→v'=v)→K (a.put o.dst v') w') :
  if Region.wanted o (yielded ops a.tmps)=true then Oper.wp P o a w K Q else E:=by
 have hw:Region.wanted o (yielded ops a.tmps)=true:=by simp [Region.wanted,hg]
 rw [if_pos hw]
 obtain ⟨v',w',hrun,r1,r2,r3,r4⟩:=run_append_recs (P:=P) (w:=w) base t o.type e i z size bytes he ht hi hz hsize hby hzs v n xs hown s' L hr h63 hbytes hbase
 unfold Oper.wp
 simp [execOp,hop,resolve,invoke,builtin,hs,hx,hrun,Result.andThen]
 exact hK v' w' r1 r2 r3 r4
theorem stepF (hg:o.guard=none) (s x:Operand) (t:TypeId) (hop:o.op=Op.call { callee:=Callee.builtin Builtin.append,args:=#[s,x],argTypes:=#[t,t] })
  (base:Nat) (e:TypeId) (i:TypeInfo) (z:Value) (size bytes:Nat) (he:Enc enc size) (ht:P.underlying t=some (.slice e)) (hi:P.info? e=some i) (hz:i.zero=some z) (hsize:i.size=size) (hby:i.bytes=bytes) (hzs:z.cells.size=size)
  (g:Nat) (hs:a.eval s=.slice (some ⟨g,0,none⟩) 0 0) (hown:w.ownsRow base e size (.slice (some ⟨g,0,none⟩) 0 0) 0 []) (s':Value) (L:List α) (hx:a.eval x=s') (hr:RecsAt enc w s' L)
  (h63:L.length≤maxLen) (hbytes:L.length*bytes≤140737488355328) (hbase:base≤w.heap.size)
  (hK:∀ v' w',w'.ownsRow base e size v' L.length (flatR enc L)→Below w.heap.size w w'→((L=[]∧v'=.slice (some ⟨g,0,none⟩) 0 0)∨v'.ownBlock=some w.heap.size)→K (a.put o.dst v') w') :
  if Region.wanted o (yielded ops a.tmps)=true then Oper.wp P o a w K Q else E:=by
 have hw:Region.wanted o (yielded ops a.tmps)=true:=by simp [Region.wanted,hg]
 rw [if_pos hw]
 obtain ⟨v',w',hrun,r1,r2,r3⟩:=run_append_fresh (P:=P) (w:=w) base t o.type e i z size bytes he ht hi hz hsize hby hzs g hown s' L hr h63 hbytes hbase
 unfold Oper.wp
 simp [execOp,hop,resolve,invoke,builtin,hs,hx,hrun,Result.andThen]
 exact hK v' w' r1 r2 r3
theorem listR (hg:o.guard=none) (s x:Operand) (t:TypeId) (hop:o.op=Op.call { callee:=Callee.builtin Builtin.append,args:=#[s,x],argTypes:=#[t,t] })
  (base:Nat) (e:TypeId) (i:TypeInfo) (z:Value) (size bytes:Nat) (he:Enc enc size) (ht:P.underlying t=some (.slice e)) (hi:P.info? e=some i) (hz:i.zero=some z) (hsize:i.size=size) (hby:i.bytes=bytes) (hzs:z.cells.size=size)
  (v:Value) (n:Nat) (xs:List Value) (hs:a.eval s=v) (hown:w.ownsRow base e size v n xs) (s':Value) (L:List α) (hx:a.eval x=s') (hr:RecsAt enc w s' L)
  (h63:n+L.length≤maxLen) (hbytes:(n+L.length)*bytes≤140737488355328) (hbase:base≤w.heap.size)
  (hK:∀ v' w',w'.ownsRow base e size v' (n+L.length) (xs++flatR enc L)→w.grownBy w' v.ownBlock→(L≠[]→v'.ownBlock=v.ownBlock∨v'.ownBlock=some w.heap.size)→(L=[]→v'=v)→wpList P ops Q rest (a.put o.dst v') w') :
  wpList P ops Q (o::rest) a w:=
 wpList_plain hg fun _ hK'=>by
  obtain ⟨v',w',hrun,r1,r2,r3,r4⟩:=run_append_recs (P:=P) (w:=w) base t o.type e i z size bytes he ht hi hz hsize hby hzs v n xs hown s' L hr h63 hbytes hbase
  unfold Oper.wp execOp
  simp only [hop,resolve,invoke,builtin,Sem.run_bind,Sem.run_pure,Result.andThen_ok,List.map_toArray,List.map_cons,List.map_nil,hs,hx,hrun]
  exact hK' _ _ (hK v' w' r1 r2 r3 r4)
theorem RecsAt.len {w:World} {a:Option Addr} {n cap:Nat} {L:List α} (h:RecsAt enc w (.slice a n cap) L):n=L.length∧n≤cap∧cap≤9223372036854775807:=by
 obtain ⟨a',cap',e,h1,h2,_⟩:=h
 cases e
 exact ⟨rfl,h1,h2⟩
end
section
variable {α:Type} {enc:α→List Value} {k:Nat}
def HeldR (enc:α→List Value) (F:List Nat) (w:World) (v:Value) (L:List α):Prop:=∃ a cap,v=.slice a L.length cap∧L.length≤cap∧cap≤9223372036854775807∧(a=none→cap=0)∧(L=[]∨∃ b off,a=some ⟨b,off,none⟩∧(b∉F∧b<w.heap.size)∧∀ j u,(flatR enc L)[j]?=some u→w.cell? ⟨b,off+j,none⟩=some u)
theorem HeldR.recs {F:List Nat} {w:World} {v:Value} {L:List α} (h:HeldR enc F w v L):RecsAt enc w v L:=by
 obtain ⟨a,cap,e,h1,h2,h3,h⟩:=h
 exact ⟨a,cap,e,h1,h2,h3,h.imp id fun ⟨b,off,e,_,hc⟩=>⟨b,off,e,hc⟩⟩
theorem HeldR.step {F F':List Nat} {w w':World} {v:Value} {L:List α} (h:HeldR enc F w v L) (hk:Kept F w w') (hn:∀ b∈F',b∈F∨w.heap.size≤b):HeldR enc F' w' v L:=by
 obtain ⟨a,cap,e,h1,h2,h3,h⟩:=h
 refine ⟨a,cap,e,h1,h2,h3,h.imp id fun ⟨b,off,e,⟨q1,q2⟩,hc⟩=>⟨b,off,e,⟨fun m=>?_,Nat.lt_of_lt_of_le q2 hk.size⟩,fun j u hu=>hk.cellAt (hc j u hu) q1⟩⟩
 rcases hn b m with q | q
 ·exact q1 q
 ·omega
theorem HeldR.kept {F:List Nat} {w w':World} {v:Value} {L:List α} (h:HeldR enc F w v L) (hk:Kept F w w'):HeldR enc F w' v L:=h.step hk fun b hb=>Or.inl hb
theorem HeldR.later {F:List Nat} {w w':World} {v:Value} {L:List α} (h:HeldR enc F w v L) (hb:Below w.heap.size w w'):HeldR enc F w' v L:=h.kept (Kept.of hb)
theorem own_heldR (he:Enc enc k) {w:World} {base n e:Nat} {v:Value} {L:List α} {xs:List Value} (h:w.ownsRow base e k v n xs) (hn:n=L.length) (hx:xs=flatR enc L) {F:List Nat} (hF:∀ b∈F,b<base):HeldR enc F w v L:=by
 subst hn;subst hx
 rcases h.2 with ⟨rfl,h0⟩ | ⟨g,cap,cur,rfl,hb,_,h5,h6,_⟩
 ·have:L=[]:=List.eq_nil_of_length_eq_zero h0
  subst this
  exact ⟨none,0,rfl,Nat.le_refl _,by omega,fun _=>rfl,Or.inl rfl⟩
 ·have hl:=(h.lt g rfl).2
  refine ⟨some ⟨g,0,none⟩,cap,rfl,h5,by unfold maxLen at h6;omega,(fun q=>by cases q),Or.inr ⟨g,0,rfl,⟨fun m=>by have:=hF g m;omega,hl⟩,fun j u hu=>?_⟩⟩
  have hj:j<L.length*k:=by rw [← flatR_len he];exact (List.getElem?_eq_some_iff.1 hu).1
  rw [Nat.zero_add,h.cellAt j hj]
  exact hu
theorem RecsAt.heldR {F:List Nat} (he:Enc enc k) {w:World} {v:Value} {L:List α} (h:RecsAt enc w v L) (hF:∀ b∈F,w.heap.size≤b):HeldR enc F w v L:=by
 obtain ⟨a,cap,e,h1,h2,h3,h⟩:=h
 refine ⟨a,cap,e,h1,h2,h3,?_⟩
 by_cases h0:L=[]
 ·exact Or.inl h0
 ·rcases h with h | ⟨b,off,e',hc⟩
  ·exact Or.inl h
  ·have hp:0<(flatR enc L).length:=by rw [flatR_len he];exact Nat.mul_pos (by cases L with | nil=>exact absurd rfl h0 | cons _ _=>simp) he.pos
   have hl:=lt_of_cell (hc 0 _ (List.getElem?_eq_getElem hp))
   exact Or.inr ⟨b,off,e',⟨fun m=>by have:=hF b m;omega,hl⟩,hc⟩
end
theorem Kept.frz {S:List Nat} {w w':World} (h:Kept S w w') {b o:Nat} (hf:w.frozen? ⟨b,o,none⟩=false) (hl:b<w.heap.size) (hn:b∉S):w'.frozen? ⟨b,o,none⟩=false:=(World.frozen?_of_block (w:=w) (w':=w') (a:=⟨b,o,none⟩) (h.block b hl hn)).trans hf
theorem Kept.dr (S:List Nat) (w:World):Kept S w w.drew:=(Kept.refl S w).drew
theorem Kept.bel {S:List Nat} {w w':World} (h:Kept S w w') (hS:∀ b∈S,w.heap.size≤b):Below w.heap.size w w':=h.below hS (Nat.le_refl _)
theorem cell_nwE {w:World} {b:Nat} (hb:b=w.heap.size) (c:Array Value) (t:TypeId) (i:Nat) (v:Value) (h:c[i]?=some v):(w.alloc (.cells c t)).cell? ⟨b,i,none⟩=some v:=by subst hb;exact cell_nw w c t i v h
theorem frz_nwE {w:World} {b:Nat} (hb:b=w.heap.size) (c:Array Value) (t:TypeId) (i:Nat):(w.alloc (.cells c t)).frozen? ⟨b,i,none⟩=false:=by subst hb;exact frz_nw w c t i
theorem heldK_1 {S:List Nat} {W a b:World} {b0 o0:Nat} {x0:Value} (hb:Kept S a b) (h:Kept S W a∧a.cell? ⟨b0,o0,none⟩=some x0) (h0:b0∉S:=by assumption):Kept S W b∧b.cell? ⟨b0,o0,none⟩=some x0:=
 ⟨h.1.trans hb,hb.cellAt h.2 h0⟩
theorem kpK_1 {X:Prop} (h:X:=by first | with_reducible assumption | (refine heldK_1 (by (repeat (with_reducible refine Kept.setCell ?_ (Or.inl (by simp)) _));exact Kept.refl _ _) ?_;with_reducible assumption) | (refine heldK_1 (by assumption) ?_;assumption) | (refine heldK_1 (Kept.of (below_ad _ _)) ?_;assumption) | (refine heldK_1 (Kept.of (below_a _ _)) ?_;assumption)):X:=h
theorem heldK_2 {S:List Nat} {W a b:World} {b0 o0 b1 o1:Nat} {x0 x1:Value} (hb:Kept S a b) (h:Kept S W a∧a.cell? ⟨b0,o0,none⟩=some x0∧a.cell? ⟨b1,o1,none⟩=some x1) (h0:b0∉S:=by assumption) (h1:b1∉S:=by assumption):Kept S W b∧b.cell? ⟨b0,o0,none⟩=some x0∧b.cell? ⟨b1,o1,none⟩=some x1:=
 ⟨h.1.trans hb,hb.cellAt h.2.1 h0,hb.cellAt h.2.2 h1⟩
theorem kpK_2 {X:Prop} (h:X:=by first | with_reducible assumption | (refine heldK_2 (by (repeat (with_reducible refine Kept.setCell ?_ (Or.inl (by simp)) _));exact Kept.refl _ _) ?_;with_reducible assumption) | (refine heldK_2 (by assumption) ?_;assumption) | (refine heldK_2 (Kept.of (below_ad _ _)) ?_;assumption) | (refine heldK_2 (Kept.of (below_a _ _)) ?_;assumption)):X:=h
theorem heldK_3 {S:List Nat} {W a b:World} {b0 o0 b1 o1 b2 o2:Nat} {x0 x1 x2:Value} (hb:Kept S a b) (h:Kept S W a∧a.cell? ⟨b0,o0,none⟩=some x0∧a.cell? ⟨b1,o1,none⟩=some x1∧a.cell? ⟨b2,o2,none⟩=some x2) (h0:b0∉S:=by assumption) (h1:b1∉S:=by assumption) (h2:b2∉S:=by assumption):Kept S W b∧b.cell? ⟨b0,o0,none⟩=some x0∧b.cell? ⟨b1,o1,none⟩=some x1∧b.cell? ⟨b2,o2,none⟩=some x2:=
 ⟨h.1.trans hb,hb.cellAt h.2.1 h0,hb.cellAt h.2.2.1 h1,hb.cellAt h.2.2.2 h2⟩
theorem kpK_3 {X:Prop} (h:X:=by first | with_reducible assumption | (refine heldK_3 (by (repeat (with_reducible refine Kept.setCell ?_ (Or.inl (by simp)) _));exact Kept.refl _ _) ?_;with_reducible assumption) | (refine heldK_3 (by assumption) ?_;assumption) | (refine heldK_3 (Kept.of (below_ad _ _)) ?_;assumption) | (refine heldK_3 (Kept.of (below_a _ _)) ?_;assumption)):X:=h
theorem heldK_4 {S:List Nat} {W a b:World} {b0 o0 b1 o1 b2 o2 b3 o3:Nat} {x0 x1 x2 x3:Value} (hb:Kept S a b) (h:Kept S W a∧a.cell? ⟨b0,o0,none⟩=some x0∧a.cell? ⟨b1,o1,none⟩=some x1∧a.cell? ⟨b2,o2,none⟩=some x2∧a.cell? ⟨b3,o3,none⟩=some x3) (h0:b0∉S:=by assumption) (h1:b1∉S:=by assumption) (h2:b2∉S:=by assumption) (h3:b3∉S:=by assumption):Kept S W b∧b.cell? ⟨b0,o0,none⟩=some x0∧b.cell? ⟨b1,o1,none⟩=some x1∧b.cell? ⟨b2,o2,none⟩=some x2∧b.cell? ⟨b3,o3,none⟩=some x3:=
 ⟨h.1.trans hb,hb.cellAt h.2.1 h0,hb.cellAt h.2.2.1 h1,hb.cellAt h.2.2.2.1 h2,hb.cellAt h.2.2.2.2 h3⟩
theorem kpK_4 {X:Prop} (h:X:=by first | with_reducible assumption | (refine heldK_4 (by (repeat (with_reducible refine Kept.setCell ?_ (Or.inl (by simp)) _));exact Kept.refl _ _) ?_;with_reducible assumption) | (refine heldK_4 (by assumption) ?_;assumption) | (refine heldK_4 (Kept.of (below_ad _ _)) ?_;assumption) | (refine heldK_4 (Kept.of (below_a _ _)) ?_;assumption)):X:=h
theorem heldK_5 {S:List Nat} {W a b:World} {b0 o0 b1 o1 b2 o2 b3 o3 b4 o4:Nat} {x0 x1 x2 x3 x4:Value} (hb:Kept S a b) (h:Kept S W a∧a.cell? ⟨b0,o0,none⟩=some x0∧a.cell? ⟨b1,o1,none⟩=some x1∧a.cell? ⟨b2,o2,none⟩=some x2∧a.cell? ⟨b3,o3,none⟩=some x3∧a.cell? ⟨b4,o4,none⟩=some x4) (h0:b0∉S:=by assumption) (h1:b1∉S:=by assumption) (h2:b2∉S:=by assumption) (h3:b3∉S:=by assumption) (h4:b4∉S:=by assumption):Kept S W b∧b.cell? ⟨b0,o0,none⟩=some x0∧b.cell? ⟨b1,o1,none⟩=some x1∧b.cell? ⟨b2,o2,none⟩=some x2∧b.cell? ⟨b3,o3,none⟩=some x3∧b.cell? ⟨b4,o4,none⟩=some x4:=
 ⟨h.1.trans hb,hb.cellAt h.2.1 h0,hb.cellAt h.2.2.1 h1,hb.cellAt h.2.2.2.1 h2,hb.cellAt h.2.2.2.2.1 h3,hb.cellAt h.2.2.2.2.2 h4⟩
theorem kpK_5 {X:Prop} (h:X:=by first | with_reducible assumption | (refine heldK_5 (by (repeat (with_reducible refine Kept.setCell ?_ (Or.inl (by simp)) _));exact Kept.refl _ _) ?_;with_reducible assumption) | (refine heldK_5 (by assumption) ?_;assumption) | (refine heldK_5 (Kept.of (below_ad _ _)) ?_;assumption) | (refine heldK_5 (Kept.of (below_a _ _)) ?_;assumption)):X:=h
theorem heldK_6 {S:List Nat} {W a b:World} {b0 o0 b1 o1 b2 o2 b3 o3 b4 o4 b5 o5:Nat} {x0 x1 x2 x3 x4 x5:Value} (hb:Kept S a b) (h:Kept S W a∧a.cell? ⟨b0,o0,none⟩=some x0∧a.cell? ⟨b1,o1,none⟩=some x1∧a.cell? ⟨b2,o2,none⟩=some x2∧a.cell? ⟨b3,o3,none⟩=some x3∧a.cell? ⟨b4,o4,none⟩=some x4∧a.cell? ⟨b5,o5,none⟩=some x5) (h0:b0∉S:=by assumption) (h1:b1∉S:=by assumption) (h2:b2∉S:=by assumption) (h3:b3∉S:=by assumption) (h4:b4∉S:=by assumption) (h5:b5∉S:=by assumption):Kept S W b∧b.cell? ⟨b0,o0,none⟩=some x0∧b.cell? ⟨b1,o1,none⟩=some x1∧b.cell? ⟨b2,o2,none⟩=some x2∧b.cell? ⟨b3,o3,none⟩=some x3∧b.cell? ⟨b4,o4,none⟩=some x4∧b.cell? ⟨b5,o5,none⟩=some x5:=
 ⟨h.1.trans hb,hb.cellAt h.2.1 h0,hb.cellAt h.2.2.1 h1,hb.cellAt h.2.2.2.1 h2,hb.cellAt h.2.2.2.2.1 h3,hb.cellAt h.2.2.2.2.2.1 h4,hb.cellAt h.2.2.2.2.2.2 h5⟩
theorem kpK_6 {X:Prop} (h:X:=by first | with_reducible assumption | (refine heldK_6 (by (repeat (with_reducible refine Kept.setCell ?_ (Or.inl (by simp)) _));exact Kept.refl _ _) ?_;with_reducible assumption) | (refine heldK_6 (by assumption) ?_;assumption) | (refine heldK_6 (Kept.of (below_ad _ _)) ?_;assumption) | (refine heldK_6 (Kept.of (below_a _ _)) ?_;assumption)):X:=h
theorem heldK_7 {S:List Nat} {W a b:World} {b0 o0 b1 o1 b2 o2 b3 o3 b4 o4 b5 o5 b6 o6:Nat} {x0 x1 x2 x3 x4 x5 x6:Value} (hb:Kept S a b) (h:Kept S W a∧a.cell? ⟨b0,o0,none⟩=some x0∧a.cell? ⟨b1,o1,none⟩=some x1∧a.cell? ⟨b2,o2,none⟩=some x2∧a.cell? ⟨b3,o3,none⟩=some x3∧a.cell? ⟨b4,o4,none⟩=some x4∧a.cell? ⟨b5,o5,none⟩=some x5∧a.cell? ⟨b6,o6,none⟩=some x6) (h0:b0∉S:=by assumption) (h1:b1∉S:=by assumption) (h2:b2∉S:=by assumption) (h3:b3∉S:=by assumption) (h4:b4∉S:=by assumption) (h5:b5∉S:=by assumption) (h6:b6∉S:=by assumption):Kept S W b∧b.cell? ⟨b0,o0,none⟩=some x0∧b.cell? ⟨b1,o1,none⟩=some x1∧b.cell? ⟨b2,o2,none⟩=some x2∧b.cell? ⟨b3,o3,none⟩=some x3∧b.cell? ⟨b4,o4,none⟩=some x4∧b.cell? ⟨b5,o5,none⟩=some x5∧b.cell? ⟨b6,o6,none⟩=some x6:=
 ⟨h.1.trans hb,hb.cellAt h.2.1 h0,hb.cellAt h.2.2.1 h1,hb.cellAt h.2.2.2.1 h2,hb.cellAt h.2.2.2.2.1 h3,hb.cellAt h.2.2.2.2.2.1 h4,hb.cellAt h.2.2.2.2.2.2.1 h5,hb.cellAt h.2.2.2.2.2.2.2 h6⟩
theorem kpK_7 {X:Prop} (h:X:=by first | with_reducible assumption | (refine heldK_7 (by (repeat (with_reducible refine Kept.setCell ?_ (Or.inl (by simp)) _));exact Kept.refl _ _) ?_;with_reducible assumption) | (refine heldK_7 (by assumption) ?_;assumption) | (refine heldK_7 (Kept.of (below_ad _ _)) ?_;assumption) | (refine heldK_7 (Kept.of (below_a _ _)) ?_;assumption)):X:=h
theorem heldK_8 {S:List Nat} {W a b:World} {b0 o0 b1 o1 b2 o2 b3 o3 b4 o4 b5 o5 b6 o6 b7 o7:Nat} {x0 x1 x2 x3 x4 x5 x6 x7:Value} (hb:Kept S a b) (h:Kept S W a∧a.cell? ⟨b0,o0,none⟩=some x0∧a.cell? ⟨b1,o1,none⟩=some x1∧a.cell? ⟨b2,o2,none⟩=some x2∧a.cell? ⟨b3,o3,none⟩=some x3∧a.cell? ⟨b4,o4,none⟩=some x4∧a.cell? ⟨b5,o5,none⟩=some x5∧a.cell? ⟨b6,o6,none⟩=some x6∧a.cell? ⟨b7,o7,none⟩=some x7) (h0:b0∉S:=by assumption) (h1:b1∉S:=by assumption) (h2:b2∉S:=by assumption) (h3:b3∉S:=by assumption) (h4:b4∉S:=by assumption) (h5:b5∉S:=by assumption) (h6:b6∉S:=by assumption) (h7:b7∉S:=by assumption):Kept S W b∧b.cell? ⟨b0,o0,none⟩=some x0∧b.cell? ⟨b1,o1,none⟩=some x1∧b.cell? ⟨b2,o2,none⟩=some x2∧b.cell? ⟨b3,o3,none⟩=some x3∧b.cell? ⟨b4,o4,none⟩=some x4∧b.cell? ⟨b5,o5,none⟩=some x5∧b.cell? ⟨b6,o6,none⟩=some x6∧b.cell? ⟨b7,o7,none⟩=some x7:=
 ⟨h.1.trans hb,hb.cellAt h.2.1 h0,hb.cellAt h.2.2.1 h1,hb.cellAt h.2.2.2.1 h2,hb.cellAt h.2.2.2.2.1 h3,hb.cellAt h.2.2.2.2.2.1 h4,hb.cellAt h.2.2.2.2.2.2.1 h5,hb.cellAt h.2.2.2.2.2.2.2.1 h6,hb.cellAt h.2.2.2.2.2.2.2.2 h7⟩
theorem kpK_8 {X:Prop} (h:X:=by first | with_reducible assumption | (refine heldK_8 (by (repeat (with_reducible refine Kept.setCell ?_ (Or.inl (by simp)) _));exact Kept.refl _ _) ?_;with_reducible assumption) | (refine heldK_8 (by assumption) ?_;assumption) | (refine heldK_8 (Kept.of (below_ad _ _)) ?_;assumption) | (refine heldK_8 (Kept.of (below_a _ _)) ?_;assumption)):X:=h
theorem heldK_9 {S:List Nat} {W a b:World} {b0 o0 b1 o1 b2 o2 b3 o3 b4 o4 b5 o5 b6 o6 b7 o7 b8 o8:Nat} {x0 x1 x2 x3 x4 x5 x6 x7 x8:Value} (hb:Kept S a b) (h:Kept S W a∧a.cell? ⟨b0,o0,none⟩=some x0∧a.cell? ⟨b1,o1,none⟩=some x1∧a.cell? ⟨b2,o2,none⟩=some x2∧a.cell? ⟨b3,o3,none⟩=some x3∧a.cell? ⟨b4,o4,none⟩=some x4∧a.cell? ⟨b5,o5,none⟩=some x5∧a.cell? ⟨b6,o6,none⟩=some x6∧a.cell? ⟨b7,o7,none⟩=some x7∧a.cell? ⟨b8,o8,none⟩=some x8) (h0:b0∉S:=by assumption) (h1:b1∉S:=by assumption) (h2:b2∉S:=by assumption) (h3:b3∉S:=by assumption) (h4:b4∉S:=by assumption) (h5:b5∉S:=by assumption) (h6:b6∉S:=by assumption) (h7:b7∉S:=by assumption) (h8:b8∉S:=by assumption):Kept S W b∧b.cell? ⟨b0,o0,none⟩=some x0∧b.cell? ⟨b1,o1,none⟩=some x1∧b.cell? ⟨b2,o2,none⟩=some x2∧b.cell? ⟨b3,o3,none⟩=some x3∧b.cell? ⟨b4,o4,none⟩=some x4∧b.cell? ⟨b5,o5,none⟩=some x5∧b.cell? ⟨b6,o6,none⟩=some x6∧b.cell? ⟨b7,o7,none⟩=some x7∧b.cell? ⟨b8,o8,none⟩=some x8:=
 ⟨h.1.trans hb,hb.cellAt h.2.1 h0,hb.cellAt h.2.2.1 h1,hb.cellAt h.2.2.2.1 h2,hb.cellAt h.2.2.2.2.1 h3,hb.cellAt h.2.2.2.2.2.1 h4,hb.cellAt h.2.2.2.2.2.2.1 h5,hb.cellAt h.2.2.2.2.2.2.2.1 h6,hb.cellAt h.2.2.2.2.2.2.2.2.1 h7,hb.cellAt h.2.2.2.2.2.2.2.2.2 h8⟩
theorem kpK_9 {X:Prop} (h:X:=by first | with_reducible assumption | (refine heldK_9 (by (repeat (with_reducible refine Kept.setCell ?_ (Or.inl (by simp)) _));exact Kept.refl _ _) ?_;with_reducible assumption) | (refine heldK_9 (by assumption) ?_;assumption) | (refine heldK_9 (Kept.of (below_ad _ _)) ?_;assumption) | (refine heldK_9 (Kept.of (below_a _ _)) ?_;assumption)):X:=h
theorem heldK_10 {S:List Nat} {W a b:World} {b0 o0 b1 o1 b2 o2 b3 o3 b4 o4 b5 o5 b6 o6 b7 o7 b8 o8 b9 o9:Nat} {x0 x1 x2 x3 x4 x5 x6 x7 x8 x9:Value} (hb:Kept S a b) (h:Kept S W a∧a.cell? ⟨b0,o0,none⟩=some x0∧a.cell? ⟨b1,o1,none⟩=some x1∧a.cell? ⟨b2,o2,none⟩=some x2∧a.cell? ⟨b3,o3,none⟩=some x3∧a.cell? ⟨b4,o4,none⟩=some x4∧a.cell? ⟨b5,o5,none⟩=some x5∧a.cell? ⟨b6,o6,none⟩=some x6∧a.cell? ⟨b7,o7,none⟩=some x7∧a.cell? ⟨b8,o8,none⟩=some x8∧a.cell? ⟨b9,o9,none⟩=some x9) (h0:b0∉S:=by assumption) (h1:b1∉S:=by assumption) (h2:b2∉S:=by assumption) (h3:b3∉S:=by assumption) (h4:b4∉S:=by assumption) (h5:b5∉S:=by assumption) (h6:b6∉S:=by assumption) (h7:b7∉S:=by assumption) (h8:b8∉S:=by assumption) (h9:b9∉S:=by assumption):Kept S W b∧b.cell? ⟨b0,o0,none⟩=some x0∧b.cell? ⟨b1,o1,none⟩=some x1∧b.cell? ⟨b2,o2,none⟩=some x2∧b.cell? ⟨b3,o3,none⟩=some x3∧b.cell? ⟨b4,o4,none⟩=some x4∧b.cell? ⟨b5,o5,none⟩=some x5∧b.cell? ⟨b6,o6,none⟩=some x6∧b.cell? ⟨b7,o7,none⟩=some x7∧b.cell? ⟨b8,o8,none⟩=some x8∧b.cell? ⟨b9,o9,none⟩=some x9:=
 ⟨h.1.trans hb,hb.cellAt h.2.1 h0,hb.cellAt h.2.2.1 h1,hb.cellAt h.2.2.2.1 h2,hb.cellAt h.2.2.2.2.1 h3,hb.cellAt h.2.2.2.2.2.1 h4,hb.cellAt h.2.2.2.2.2.2.1 h5,hb.cellAt h.2.2.2.2.2.2.2.1 h6,hb.cellAt h.2.2.2.2.2.2.2.2.1 h7,hb.cellAt h.2.2.2.2.2.2.2.2.2.1 h8,hb.cellAt h.2.2.2.2.2.2.2.2.2.2 h9⟩
theorem kpK_10 {X:Prop} (h:X:=by first | with_reducible assumption | (refine heldK_10 (by (repeat (with_reducible refine Kept.setCell ?_ (Or.inl (by simp)) _));exact Kept.refl _ _) ?_;with_reducible assumption) | (refine heldK_10 (by assumption) ?_;assumption) | (refine heldK_10 (Kept.of (below_ad _ _)) ?_;assumption) | (refine heldK_10 (Kept.of (below_a _ _)) ?_;assumption)):X:=h
theorem heldK_11 {S:List Nat} {W a b:World} {b0 o0 b1 o1 b2 o2 b3 o3 b4 o4 b5 o5 b6 o6 b7 o7 b8 o8 b9 o9 b10 o10:Nat} {x0 x1 x2 x3 x4 x5 x6 x7 x8 x9 x10:Value} (hb:Kept S a b) (h:Kept S W a∧a.cell? ⟨b0,o0,none⟩=some x0∧a.cell? ⟨b1,o1,none⟩=some x1∧a.cell? ⟨b2,o2,none⟩=some x2∧a.cell? ⟨b3,o3,none⟩=some x3∧a.cell? ⟨b4,o4,none⟩=some x4∧a.cell? ⟨b5,o5,none⟩=some x5∧a.cell? ⟨b6,o6,none⟩=some x6∧a.cell? ⟨b7,o7,none⟩=some x7∧a.cell? ⟨b8,o8,none⟩=some x8∧a.cell? ⟨b9,o9,none⟩=some x9∧a.cell? ⟨b10,o10,none⟩=some x10) (h0:b0∉S:=by assumption) (h1:b1∉S:=by assumption) (h2:b2∉S:=by assumption) (h3:b3∉S:=by assumption) (h4:b4∉S:=by assumption) (h5:b5∉S:=by assumption) (h6:b6∉S:=by assumption) (h7:b7∉S:=by assumption) (h8:b8∉S:=by assumption) (h9:b9∉S:=by assumption) (h10:b10∉S:=by assumption):Kept S W b∧b.cell? ⟨b0,o0,none⟩=some x0∧b.cell? ⟨b1,o1,none⟩=some x1∧b.cell? ⟨b2,o2,none⟩=some x2∧b.cell? ⟨b3,o3,none⟩=some x3∧b.cell? ⟨b4,o4,none⟩=some x4∧b.cell? ⟨b5,o5,none⟩=some x5∧b.cell? ⟨b6,o6,none⟩=some x6∧b.cell? ⟨b7,o7,none⟩=some x7∧b.cell? ⟨b8,o8,none⟩=some x8∧b.cell? ⟨b9,o9,none⟩=some x9∧b.cell? ⟨b10,o10,none⟩=some x10:=
 ⟨h.1.trans hb,hb.cellAt h.2.1 h0,hb.cellAt h.2.2.1 h1,hb.cellAt h.2.2.2.1 h2,hb.cellAt h.2.2.2.2.1 h3,hb.cellAt h.2.2.2.2.2.1 h4,hb.cellAt h.2.2.2.2.2.2.1 h5,hb.cellAt h.2.2.2.2.2.2.2.1 h6,hb.cellAt h.2.2.2.2.2.2.2.2.1 h7,hb.cellAt h.2.2.2.2.2.2.2.2.2.1 h8,hb.cellAt h.2.2.2.2.2.2.2.2.2.2.1 h9,hb.cellAt h.2.2.2.2.2.2.2.2.2.2.2 h10⟩
theorem kpK_11 {X:Prop} (h:X:=by first | with_reducible assumption | (refine heldK_11 (by (repeat (with_reducible refine Kept.setCell ?_ (Or.inl (by simp)) _));exact Kept.refl _ _) ?_;with_reducible assumption) | (refine heldK_11 (by assumption) ?_;assumption) | (refine heldK_11 (Kept.of (below_ad _ _)) ?_;assumption) | (refine heldK_11 (Kept.of (below_a _ _)) ?_;assumption)):X:=h
theorem heldK_12 {S:List Nat} {W a b:World} {b0 o0 b1 o1 b2 o2 b3 o3 b4 o4 b5 o5 b6 o6 b7 o7 b8 o8 b9 o9 b10 o10 b11 o11:Nat} {x0 x1 x2 x3 x4 x5 x6 x7 x8 x9 x10 x11:Value} (hb:Kept S a b) (h:Kept S W a∧a.cell? ⟨b0,o0,none⟩=some x0∧a.cell? ⟨b1,o1,none⟩=some x1∧a.cell? ⟨b2,o2,none⟩=some x2∧a.cell? ⟨b3,o3,none⟩=some x3∧a.cell? ⟨b4,o4,none⟩=some x4∧a.cell? ⟨b5,o5,none⟩=some x5∧a.cell? ⟨b6,o6,none⟩=some x6∧a.cell? ⟨b7,o7,none⟩=some x7∧a.cell? ⟨b8,o8,none⟩=some x8∧a.cell? ⟨b9,o9,none⟩=some x9∧a.cell? ⟨b10,o10,none⟩=some x10∧a.cell? ⟨b11,o11,none⟩=some x11) (h0:b0∉S:=by assumption) (h1:b1∉S:=by assumption) (h2:b2∉S:=by assumption) (h3:b3∉S:=by assumption) (h4:b4∉S:=by assumption) (h5:b5∉S:=by assumption) (h6:b6∉S:=by assumption) (h7:b7∉S:=by assumption) (h8:b8∉S:=by assumption) (h9:b9∉S:=by assumption) (h10:b10∉S:=by assumption) (h11:b11∉S:=by assumption):Kept S W b∧b.cell? ⟨b0,o0,none⟩=some x0∧b.cell? ⟨b1,o1,none⟩=some x1∧b.cell? ⟨b2,o2,none⟩=some x2∧b.cell? ⟨b3,o3,none⟩=some x3∧b.cell? ⟨b4,o4,none⟩=some x4∧b.cell? ⟨b5,o5,none⟩=some x5∧b.cell? ⟨b6,o6,none⟩=some x6∧b.cell? ⟨b7,o7,none⟩=some x7∧b.cell? ⟨b8,o8,none⟩=some x8∧b.cell? ⟨b9,o9,none⟩=some x9∧b.cell? ⟨b10,o10,none⟩=some x10∧b.cell? ⟨b11,o11,none⟩=some x11:=
 ⟨h.1.trans hb,hb.cellAt h.2.1 h0,hb.cellAt h.2.2.1 h1,hb.cellAt h.2.2.2.1 h2,hb.cellAt h.2.2.2.2.1 h3,hb.cellAt h.2.2.2.2.2.1 h4,hb.cellAt h.2.2.2.2.2.2.1 h5,hb.cellAt h.2.2.2.2.2.2.2.1 h6,hb.cellAt h.2.2.2.2.2.2.2.2.1 h7,hb.cellAt h.2.2.2.2.2.2.2.2.2.1 h8,hb.cellAt h.2.2.2.2.2.2.2.2.2.2.1 h9,hb.cellAt h.2.2.2.2.2.2.2.2.2.2.2.1 h10,hb.cellAt h.2.2.2.2.2.2.2.2.2.2.2.2 h11⟩
theorem kpK_12 {X:Prop} (h:X:=by first | with_reducible assumption | (refine heldK_12 (by (repeat (with_reducible refine Kept.setCell ?_ (Or.inl (by simp)) _));exact Kept.refl _ _) ?_;with_reducible assumption) | (refine heldK_12 (by assumption) ?_;assumption) | (refine heldK_12 (Kept.of (below_ad _ _)) ?_;assumption) | (refine heldK_12 (Kept.of (below_a _ _)) ?_;assumption)):X:=h
end Go.Proofs.YtapnaocdehahdaaGreat
namespace Go.Proofs.YtapnaocdehahdaaGreat
open Go Go.RowKit Go.Lib
set_option linter.unusedVariables false
variable {F:Fence} {n:Nat} {P:Program} {w:World}
def BoxFree {β:Type} (Bg:Nat) (J:β→World→Prop):Prop:=∀ s A v,J s A→J s (A.setCell ⟨Bg,0,none⟩ v)
structure OwnLoop {β:Type} (B:Nat) (I:β→World→Prop):Prop where
 alloc:∀ {s:β} {W:World} (o:Obj),I s W→I s (W.alloc o)
 drew:∀ {s:β} {W:World},I s W→I s W.drew
 putObj:∀ {s:β} {W:World} {l:Nat} {o:Obj} (o':Obj),I s W→B≤l→W.heap[l]?=some o→o.isCells=false→o.isWalk=false→I s (W.putObj l o')
theorem OwnFrom.loop {β:Type} {B:Nat} {I:β→World→Prop} (h:OwnFrom B I):OwnLoop B I:=⟨fun o hs=>h.alloc o hs,fun {s W} hs=>h s W W.drew none hs ⟨rfl,rfl,rfl,Nat.le_refl _,fun _ _ _=>rfl⟩ (fun r e=>by cases e),fun o' hs hB hl ho _=>h.putObj o' hs hB hl ho⟩
theorem ownLoop_pure {β:Type} {B:Nat} (p:β→Prop):OwnLoop B (fun s (_:World)=>p s):=⟨fun _ hs=>hs,fun hs=>hs,fun _ hs _ _ _ _=>hs⟩
def SeqBox {α:Type} (F:Fence) (n:Nat) (P:Program) (g:Nat) (lb:Array Value) (encs:α→Array Value) (Kp:World→World→Prop) (Bg:Nat) (S Sp:List α→Prop) (w:World):Prop:=
 ∀ (l:Nat) (J Jx:List α→World→Prop) (W:World),Below w.heap.size w W→BoxFree Bg J→BoxFree Bg Jx→(∀ s A,J s A→J s A.drew) →
  (∀ pre x W1,J pre W1→Sp (pre++[x])→YieldAt F (n - 1) P l (encs x) W1 fun e W' =>
   (e=.returned (.bool true)∧J (pre++[x]) W'∧Kp W1 W')∨(e=.returned (.bool false)∧Jx (pre++[x]) W')) →
  J [] W →
  CallsIn F n P g (#[.func (.yield l) #[] #[]]++lb) W fun e W'=>(∃ v,e=.returned v)∧((∃ xs,S xs∧J xs W')∨(∃ pre,Sp pre∧Jx pre W'))
structure KeepsLoop (B:Nat) (W W':World):Prop where
 size:W.heap.size≤W'.heap.size
 same:∀ (k:Nat) (o:Obj),B≤k→W.heap[k]?=some o→o.isCells=false→o.isWalk=false→W'.heap[k]?=some o
theorem keeps_loop {B:Nat} {W W':World} (h:KeepsFrom B W W'):KeepsLoop B W W':=⟨h.size,fun k o hB hk ho _=>h.same k o hB hk ho⟩
theorem KeepsLoop.refl (B:Nat) (W:World):KeepsLoop B W W:=keeps_loop (KeepsFrom.refl B W)
def ownPostL {α:Type} (B:Nat) (Kp:World→World→Prop) (I:List α→World→Prop) (Ix:Code→List α→World→Prop) (xs:List α) (W:World):Exit→Act→World→Prop
 | .normal,_,W'=>KeepsLoop B W W'∧Kp W W'∧I xs W'
 | .ret,_,W'=>KeepsLoop B W W'∧Ix .ret xs W'
 | .exit id,_,W'=>KeepsLoop B W W'∧Ix (.exit id) xs W'
 | .goto t,_,W'=>KeepsLoop B W W'∧Ix (.goto t) xs W'
 | .panic _,_,_=>False
 | .outgrown,_,_=>False
def Rec2 (D:Nat) (r:Loop) (W:World):Prop:=W.heap[D+1]?=some (.loop r)∧W.heap[D]?=some (.deferred (some []))
theorem Rec2.lt {D:Nat} {r:Loop} {W:World} (h:Rec2 D r W):D+1<W.heap.size:=(Array.getElem?_eq_some_iff.1 h.1).1
theorem Rec2.set {D Bg:Nat} {r:Loop} {A:World} (h:Rec2 D r A) (hB:Bg<D) (v:Value):Rec2 D r (A.setCell ⟨Bg,0,none⟩ v):=
 ⟨(heap_set_ne (by omega)).trans h.1,(heap_set_ne (by omega)).trans h.2⟩
theorem Rec2.kept {D:Nat} {r:Loop} {A B:World} (h:Rec2 D r A) (hk:KeepsLoop D A B):Rec2 D r B:=⟨hk.same _ _ (by omega) h.1 rfl rfl,hk.same _ _ (Nat.le_refl _) h.2 rfl rfl⟩
theorem Rec2.put {D:Nat} {r r':Loop} {A:World} (h:Rec2 D r A):Rec2 D r' (A.putObj (D+1) (.loop r')):=⟨World.putObj_heap_same h.lt,(World.putObj_heap_other (by omega)).trans h.2⟩
theorem range_box {α:Type} {g:Operand} {ps:Array Tmp} {assign body:Code} {Q:Exit→Act→World→Prop} {a:Act}
  (hro:F.round=none) (h1:1≤n) {gf:Nat} {lb:Array Value} (hg:a.eval g=.func (.func gf) #[] lb) (hFg:F.fn gf) (eg:∀ args w,(callFunc gf args).run P w=.ok (.enter gf args) w)
  {encs:α→Array Value} {Kp:World→World→Prop} {Bg:Nat} {S Sp:List α→Prop} {w0:World} (hBg:Bg<w.heap.size) (hseq:SeqBox F (n - 1) P gf lb encs Kp Bg S Sp w0)
  (hKt:∀ {A B C:World},Kp A B→Kp B C→Kp A C) (hKb:∀ (W:World) (l:Nat) (o o':Obj),w.heap.size≤l→W.heap[l]?=some o→o.isCells=false→o.isWalk=false→Kp W (W.putObj l o')) (hb0:Below w0.heap.size w0 w) (hps:∀ x,(encs x).size=ps.size)
  (I:List α→World→Prop) (Ix:Code→List α→World→Prop) (hI:OwnLoop w.heap.size I) (hIx:∀ c,OwnLoop w.heap.size (Ix c)) (hIb:BoxFree Bg I) (hIxb:∀ c,BoxFree Bg (Ix c)) (h0:I [] w) (Ax:α→Act→World→Prop) (hAx:∀ x a',OwnLoop w.heap.size (fun (_:Unit) W=>Ax x a' W))
  (hassign:∀ (l:Nat) (pre:List α) (x:α) (W:World) (K:Act→World→Prop),I pre W→(∀ a' W',KeepsLoop w.heap.size W W'→Kp W W'→I pre W'→Ax x a' W'→K a' W') →
   assign.wpIn (F.inRound l) (n - 1 - 1) P (Exit.then K (fun _ _ _=>False)) { tmps:=(ps.zip (encs x)).foldl (fun t (p,v)=>t.setIfInBounds p v) a.tmps,defers:=[] } W)
  (hbody:∀ (l:Nat) (pre:List α) (x:α) (a':Act) (W:World),w.heap.size≤l→(∃ r,W.heap[l]?=some (.loop r))→I pre W→Ax x a' W→Sp (pre++[x])→body.wpIn (F.inRound l) (n - 1 - 1) P (ownPostL w.heap.size Kp I Ix (pre++[x]) W) a' W)
  (hdone:∀ (D:Nat) (xs:List α) (W:World),w.heap.size≤D→S xs→I xs W→W.heap[D]?=some (.deferred (some []))→Q .normal { a with defers:={ target:=.collected D,args:=#[] }::a.defers } W)
  (hstop:∀ (D:Nat) (c:Code) (pre:List α) (W:World),w.heap.size≤D→Sp pre→Ix c pre W→W.heap[D]?=some (.deferred (some []))→c.wpIn F n P Q { a with defers:={ target:=.collected D,args:=#[] }::a.defers } W) :
  (Code.rangeFunc g ps assign body).wpIn F n P Q a w:=by
 refine wpIn_rangeFunc fun fn hfn=>?_
 rw [hro]
 -- the record,by its state and what is pending
 have mk:∃ R:LoopState→Option Code→Loop,(∀ s p,(R s p).state=s)∧(∀ s p,(R s p).pending=p)∧(∀ s p s' p',({ R s p with state:=s',pending:=p' }:Loop)=R s' p')∧(∀ s p s',({ R s p with state:=s' }:Loop)=R s' p)∧(∀ s p,(R s p).params=ps)∧(∀ s p,(R s p).fn=fn)∧(∀ s p,(R s p).tmps=a.tmps)∧(∀ s p,(R s p).assign=assign)∧(∀ s p,(R s p).body=body)∧R .ready none={ state:=.ready,pending:=none,fn:=fn,tmps:=a.tmps,params:=ps,assign:=assign,body:=body,defers:=w.heap.size }:=
  ⟨fun s p=>{ state:=s,pending:=p,fn:=fn,tmps:=a.tmps,params:=ps,assign:=assign,body:=body,defers:=w.heap.size },fun _ _=>rfl,fun _ _=>rfl,fun _ _ _ _=>rfl,fun _ _ _=>rfl,fun _ _=>rfl,fun _ _=>rfl,fun _ _=>rfl,fun _ _=>rfl,fun _ _=>rfl,rfl⟩
 obtain ⟨R,rs,rp,rr,rq,rps,rfn,rt,ra,rb,r0⟩:=mk
 obtain ⟨W1,e1⟩:∃ X,X=(w.alloc (.deferred (some []))).alloc (.loop (R .ready none)):=⟨_,rfl⟩
 have hT:Rec2 w.heap.size (R .ready none) W1:=by
  rw [e1]
  refine ⟨?_,(Below.heap_alloc _ _ _ (by simp)).trans (World.alloc_heap_new w _)⟩
  have:=World.alloc_heap_new (w.alloc (.deferred (some []))) (.loop (R .ready none))
  rwa [World.size_alloc] at this
 have hsz:W1.heap.size=w.heap.size+2:=by rw [e1];simp
 have hb1:Below w0.heap.size w0 W1:=hb0.trans (by rw [e1];exact (((Below.refl _ w).alloc (Nat.le_refl _) _).alloc (by simp) _).mono hb0.size)
 have hI1:I [] W1:=by rw [e1];exact hI.alloc _ (hI.alloc _ h0)
 have call:∀ args w,(callFunc gf args).run P w=.ok (.enter gf args) w:=eg
 refine ⟨w.heap.size+1,[{ target:=.collected w.heap.size,args:=#[] }],W1,{ target:=.fn (.func gf) lb,args:=#[.func (.yield (w.heap.size+1)) #[] #[]] },W1,gf,#[.func (.yield (w.heap.size+1)) #[] #[]]++lb,W1,?_,?_,?_,?_,fun _=>h1,?_⟩
 ·rw [e1,r0];exact run_enterLoop_outer _ _ _ _ _
 ·simp only [resolve,hg]
  simp [go_sem]
 ·intro f' hf'
  simp [Target.leads] at hf'
  subst hf'
  exact hFg
 ·simp [invoke,go_sem,call]
 have keyJ:CallsIn F (n - 1) P gf (#[.func (.yield (w.heap.size+1)) #[] #[]]++lb) W1 fun e W'=>(∃ v,e=.returned v)∧((∃ xs,S xs∧(I xs W'∧Rec2 w.heap.size (R .ready none) W'))∨(∃ pre,Sp pre∧∃ c,Ix c pre W'∧Rec2 w.heap.size (R .done (some c)) W')):=by
  refine hseq (w.heap.size+1) (fun pre W=>I pre W∧Rec2 w.heap.size (R .ready none) W) (fun pre W=>∃ c,Ix c pre W∧Rec2 w.heap.size (R .done (some c)) W) W1 hb1 ?_ ?_ (fun s A h=>⟨hI.drew h.1,h.2⟩) ?_ ⟨hI1,hT⟩
  ·rintro s A v ⟨q1,q2⟩
   exact ⟨hIb s A v q1,q2.set hBg v⟩
  ·rintro s A v ⟨c,q1,q2⟩
   exact ⟨c,hIxb c s A v q1,q2.set hBg v⟩
  rintro pre x W ⟨hi,ht⟩ hlen
  have hy:=run_yield (P:=P) (args:=encs x) ht.1 (by rw [rps];exact hps x)
  rw [rps,rfn,rt,ra,rb] at hy
  refine ⟨fn,_,assign,body,hy,roundIn_of_wpIn hfn (hassign _ pre x W _ hi ?_)⟩
  intro a' Wa hka hpa hia hax
  have hta:=ht.kept hka
  refine ⟨_,run_beginRound hta.1 (rs _ _),?_⟩
  rw [rq]
  have htb:Rec2 w.heap.size (R .busy none) (Wa.putObj (w.heap.size+1) (.loop (R .busy none))):=hta.put
  have hpb:Kp Wa (Wa.putObj (w.heap.size+1) (.loop (R .busy none))):=hKb _ _ _ _ (by omega) hta.1 rfl rfl
  refine wpIn_mono (hbody _ pre x a' _ (by omega) ⟨_,htb.1⟩ (hI.putObj _ hia (by omega) hta.1 rfl rfl) ((hAx x a').putObj (s:=()) _ hax (by omega) hta.1 rfl rfl) hlen) ?_
  have fin:∀ (j:Option Code) (W3:World),KeepsLoop w.heap.size (Wa.putObj (w.heap.size+1) (.loop (R .busy none))) W3 →
    Rec2 w.heap.size (R .busy none) W3∧(Instr.endRound (w.heap.size+1) j).run P W3=.ok (.bool j.isNone) (W3.putObj (w.heap.size+1) (.loop (R (if j.isNone then .ready else .done) j))):=fun j W3 hk3=>by
   have h3:=htb.kept hk3
   have h4:=run_endRound (P:=P) j h3.1
   rw [rr] at h4
   exact ⟨h3,h4⟩
  have out:∀ (c:Code) (W3:World),KeepsLoop w.heap.size (Wa.putObj (w.heap.size+1) (.loop (R .busy none))) W3→Ix c (pre++[x]) W3 →
    ∃ v w',(Instr.endRound (w.heap.size+1) (some c)).run P W3=.ok v w'∧(((.returned v:Ending)=.returned (.bool true)∧(I (pre++[x]) w'∧Rec2 w.heap.size (R .ready none) w')∧Kp W w')∨((.returned v:Ending)=.returned (.bool false)∧∃ c,Ix c (pre++[x]) w'∧Rec2 w.heap.size (R .done (some c)) w')):=fun c W3 hk3 hi3=>by
   obtain ⟨h3,h4⟩:=fin (some c) W3 hk3
   exact ⟨_,_,h4,Or.inr ⟨rfl,c,(hIx c).putObj _ hi3 (by omega) h3.1 rfl rfl,h3.put⟩⟩
  rintro e a3 W3 hp
  cases e with
  | normal =>
   obtain ⟨hk3,hp3,hi3⟩:=hp
   obtain ⟨h3,h4⟩:=fin none W3 hk3
   exact ⟨_,_,h4,Or.inl ⟨rfl,⟨hI.putObj _ hi3 (by omega) h3.1 rfl rfl,h3.put⟩,hKt hpa (hKt hpb (hKt hp3 (hKb _ _ _ _ (by omega) h3.1 rfl rfl)))⟩⟩
  | ret=>exact out _ W3 hp.1 hp.2
  | exit id=>exact out _ W3 hp.1 hp.2
  | goto t=>exact out _ W3 hp.1 hp.2
  | panic ch=>exact hp.elim
  | outgrown=>exact hp.elim
 refine keyJ.mono ?_
 rintro e W2 ⟨⟨v,rfl⟩,(⟨xs,hS,hi,ht⟩ | ⟨pre,hSp,c,hi,ht⟩)⟩
 ·refine ⟨none,_,by have:=run_endLoop (P:=P) ht.1 (by rw [rs];decide);rwa [rp] at this,?_⟩
  exact hdone _ xs _ (Nat.le_refl _) hS (hI.putObj _ hi (by omega) ht.1 rfl rfl) ((World.putObj_heap_other (by omega)).trans ht.2)
 ·refine ⟨some c,_,by have:=run_endLoop (P:=P) ht.1 (by rw [rs];decide);rwa [rp] at this,?_⟩
  exact hstop _ c pre _ (Nat.le_refl _) hSp ((hIx c).putObj _ hi (by omega) ht.1 rfl rfl) ((World.putObj_heap_other (by omega)).trans ht.2)
section
variable {P:Program} {n l:Nat} {ops:Array Oper}
end
section
variable {P:Program} {n l:Nat} {ops:Array Oper} {Q:Exit→Act→World→Prop} {S:World→Prop}
end
section
variable {P:Program} {ops:Array Oper} {Q:Exit→Act→World→Prop} {S:World→Prop}
end
section
variable {F:Fence} {n:Nat} {P:Program} {ops:Array Oper} {Q:Exit→Act→World→Prop} {md:Region.Mode} {S:World→Prop} {U:List Nat}
end
end Go.Proofs.YtapnaocdehahdaaGreat
