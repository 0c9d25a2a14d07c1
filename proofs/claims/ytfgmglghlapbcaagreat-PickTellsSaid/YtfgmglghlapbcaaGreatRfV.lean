/-
  Layer 25 (pick), plain: Regroup, Lay, New and Load of both trees.
-/
import Derived.Test.YtfgmglghlapbcaaGreatRfQ
import Derived.Test.YtfgmglghlapbcaaGreatRfT
namespace Go.Proofs.YtfgmglghlapbcaaGreat
open Go.RowKit Go.Maps Go.IntWalk Go.Lib Go.Sort Go.Shelf
set_option linter.unusedVariables false
set_option linter.unusedSimpArgs false
section
variable {s:TSt} {r:RSt}
theorem reg_code (h:Twin s r) (hok:TOk s) (g wt:Int):regRC s.n g wt=pregC s g wt:=by
 unfold regRC pregC
 by_cases q:hasV (s.n:Int) g=true∧g≠0
 ·have h2:0≤g∧g<(s.n:Int):=of_decide_eq_true q.1
  have hA:Ch.Ok (s.A g.toNat).1 (s.A g.toNat).2.1 (s.A g.toNat).2.2:=hok.core.aok g.toNat (by omega)
  have:=q.2
  rw [if_pos q]
  by_cases hw:wgOk wt
  ·rw [if_pos (show Ch.Ok (s.A g.toNat).1 (s.A g.toNat).2.1 (s.A g.toNat).2.2∧wgOk wt from ⟨hA,hw⟩),if_pos (show 1≤g∧g<(s.n:Int)∧1≤wt∧wt≤65536 from ⟨by omega,h2.2,hw⟩)]
  ·rw [if_neg (show ¬ (Ch.Ok (s.A g.toNat).1 (s.A g.toNat).2.1 (s.A g.toNat).2.2∧wgOk wt) from fun z=>hw z.2),if_neg (show ¬ (1≤g∧g<(s.n:Int)∧1≤wt∧wt≤65536) from fun z=>hw z.2.2)]
 ·rw [if_neg q,if_neg]
  rintro ⟨q1,q2,_⟩
  exact q ⟨decide_eq_true (by omega),by omega⟩
theorem regroup_twin (h:Twin s r) (hok:TOk s) (ho:OrdT s) (hf:FlI s) (g wt:Int) (ho':OrdT (pregS s g wt)):Twin (pregS s g wt) (regRS r s.n g wt):=by
 have hcd:=reg_code h hok g wt
 have hokA:=regroup_ok (g:=g) (k:=wt) hok
 unfold regRS
 rw [hcd]
 by_cases hC:pregC s g wt=0
 ·rw [if_pos hC]
  have hS:pregS s g wt=wgQ wt { s with A:=upd s.A g.toNat (wghX wt (s.A g.toNat)),Gs:=setW s.Gs g.toNat wt } (parG s.Gs g.toNat) (65536+(g.toNat:Nat)):=by unfold pregS;rw [if_pos hC]
  rw [← hcd] at hC
  unfold regRC at hC
  have hg:1≤g∧g<(s.n:Int)∧wgOk wt:=by
   by_cases q:1≤g∧g<(s.n:Int)∧1≤wt∧wt≤65536
   ·exact q
   ·rw [if_neg q] at hC;exact absurd hC (by decide)
  obtain ⟨j,rfl⟩:=Int.eq_ofNat_of_zero_le (show 0≤g by omega)
  rw [Int.toNat_natCast] at hS ⊢
  have hj:j<s.n:=by omega
  have h0:0<j:=by omega
  have hw:wgOk wt:=hg.2.2
  have hlt:=parG_lt hok.core.right h0 hj
  have hl:=hok.core.right.le
  have hj256:j<256:=by unfold TSt.n at hj;omega
  rw [hS] at ho' hokA ⊢
  obtain ⟨s2,hs2⟩:∃ s2:TSt,s2={ s with A:=upd s.A j (wghX wt (s.A j)),Gs:=setW s.Gs j wt }:=⟨_,rfl⟩
  rw [← hs2] at ho' hokA ⊢
  have e1:s2.M=s.M:=by rw [hs2]
  have e2:s2.fl=s.fl:=by rw [hs2]
  have e3:s2.T=s.T:=by rw [hs2]
  have e4:s2.A=upd s.A j (wghX wt (s.A j)):=by rw [hs2]
  have e5:s2.Gs=setW s.Gs j wt:=by rw [hs2]
  have e6:s2.cr=s.cr:=by rw [hs2]
  have e7:parG s2.Gs=parG s.Gs:=by rw [e5];exact setW_par s.Gs j wt
  clear hs2
  obtain ⟨p,hp⟩:∃ p,p=parG s.Gs j:=⟨_,rfl⟩
  rw [← hp] at hlt hokA ho' ⊢
  have hn:(wgQ wt s2 p (65536+j)).n=s.n:=by
   show s2.Gs.length=s.n
   rw [e5,setW_len]
   rfl
  have hpn:p<s.n:=by omega
  have hMp:(wgQ wt s2 p (65536+j)).M=upd s.M p (chS (decide (wgOk wt)) qN (s.M p) (65536+j) (wghX wt)):=by
   show upd s2.M p (chS _ qN (s2.M p) _ _)=_
   rw [e1]
  refine ⟨⟨?_,?_,?_,fun i hi=>?_,h.srt,fun i g' y=>?_⟩,by rw [hn];exact h.len,fun i hi=>?_⟩
  ·show setW r.Gs j wt=s2.Gs
   rw [h.gs,e5]
  ·show r.cr=s2.cr
   rw [e6,h.cr]
  ·rw [hn]
   show (r.A.set j _).length=s.n
   rw [List.length_set];exact h.al
  ·rw [hn] at hi
   show (r.A.set j ((r.A[j]!).1,0,wt))[i]! = _
   rw [setE_at (by rw [h.al];exact hi),h.a j hj]
   by_cases e:i=j
   ·subst e
    rw [if_pos rfl]
    cases hx:entM (s.M p) (65536+(i:Int)) with
    | some y =>
     rw [spot_here (b:=s) h0 (by rw [← hp];exact hx)]
     refine (spot_here (b:=wgQ wt s2 p (65536+i)) h0 ?_).symm
     show entM ((wgQ wt s2 p (65536+i)).M (parG s2.Gs i)) _=_
     rw [e7,← hp,hMp,upd_same,ch_is (by omega) (hok.core.mok p),if_pos ⟨decide_eq_true hw,rfl⟩,hx]
     rfl
    | none =>
     rw [spot_aside (b:=s) (by rw [← hp];exact hx)]
     rw [spot_aside (b:=wgQ wt s2 p (65536+i)) ?_]
     ·show _=s2.A i
      rw [e4,upd_same]
      rfl
     ·show entM ((wgQ wt s2 p (65536+i)).M (parG s2.Gs i)) _=_
      rw [e7,← hp,hMp,upd_same,ch_is (by omega) (hok.core.mok p),if_pos ⟨decide_eq_true hw,rfl⟩,hx]
      rfl
   ·rw [if_neg e,h.a i hi]
    refine (spot_other (a:=s) (b:=wgQ wt s2 p (65536+j)) (p:=p) (id:=65536+(j:Int)) e7 hMp (fun i hi=>chS_ne _ hi) ?_ (by omega)).symm
    show s2.A i=s.A i
    rw [e4,upd_other _ _ e]
  ·show (i,g',y)∈r.T↔s2.T i=some g'∧_
   rw [h.t,e3]
   by_cases hl':i<65536
   ·have:entM ((wgQ wt s2 p (65536+j)).M g'.toNat) i=entM (s.M g'.toNat) i:=by
     rw [hMp]
     by_cases q:g'.toNat=p
     ·rw [q,upd_same];exact chS_ne _ (by omega)
     ·rw [upd_other _ _ q]
    rw [this]
   ·rw [T_low hok (by omega)]
    exact ⟨fun e=>(by cases e.1),fun e=>(by cases e.1)⟩
  ·rw [hn] at hi
   rw [show r.fl[i]! = _ from h.f i hi]
   exact (wg_floor hok ho hf e1 e2 hpn (by omega) hokA.core.mok (ho' p (by rw [hn];exact hpn)) i).symm
 ·rw [if_neg hC]
  have:pregS s g wt=s:=by unfold pregS;rw [if_neg hC]
  rw [this]
  exact h
def KeysT (s:TSt):Prop:=∃ L:List Int,L.Nodup∧L.length=s.c∧∀ id,id∈L↔s.T id≠none
theorem len_twin (h:TwinC s r) (hok:TOk s) (hk:KeysT s):r.T.length=s.c:=by
 obtain ⟨L,h1,h2,h3⟩:=hk
 have hn:(r.T.map Prod.fst).Nodup:=by
  have:=h.srt
  unfold List.Nodup
  rw [List.pairwise_map]
  exact this.imp fun {a b} q e=>by omega
 have hp:(r.T.map Prod.fst).Perm L:=(List.perm_ext_iff_of_nodup hn h1).2 fun id=>by
  rw [h3]
  constructor
  ·intro m
   obtain ⟨t,ht,rfl⟩:=List.mem_map.1 m
   obtain ⟨_,k,_,_,q,_⟩:=h.task hok ht
   rw [q];simp
  ·intro m
   rcases twin_find h hok id with ⟨q,_⟩ | ⟨k,g,x,hk,_,q,_⟩
   ·exact absurd q m
   ·refine List.mem_map.2 ⟨r.T[k]!,by rw [getElem!_pos r.T k hk];exact List.getElem_mem hk,by rw [q]⟩
 have:=hp.length_eq
 rw [List.length_map] at this
 omega
theorem lay_code (h:Twin s r) (hok:TOk s) (hk:KeysT s) (L:Spots):layRC r s.n r.T.length L=playC s L:=by
 unfold layRC playC
 rw [len_twin h.toTwinC hok hk]
 have:∀ k,okL r L k↔okS s L k:=fun k=>by unfold okL okS;rw [h.gs]
 have e:(∀ k,k<s.n→okL r L k)↔(∀ k,k<s.n→okS s L k):=⟨fun q k hk=>(this k).1 (q k hk),fun q k hk=>(this k).2 (q k hk)⟩
 by_cases q:∀ k,k<s.n→okS s L k
 ·rw [if_pos q,if_pos (e.2 q)]
 ·rw [if_neg q,if_neg fun z=>q (e.1 z)]
theorem lay_ok (hok:TOk s) (hk:KeysT s) {L:Spots} (hL:FitS L):TOk (playS s L):=by
 unfold playS
 by_cases hC:playC s L=0
 ·rw [if_pos hC]
  unfold playC at hC
  by_cases q1:L.length=s.n∧(L[0]!).1=0∧(L[0]!).2.1=0
  ·rw [if_pos q1] at hC
   by_cases q2:∀ k,k<s.n→okS s L k
   ·rw [if_pos q2] at hC
    have q3:s.c=0:=by
     by_cases q3:s.c=0
     ·exact q3
     ·rw [if_neg q3] at hC;exact absurd hC (by decide)
    obtain ⟨K,k1,k2,k3⟩:=hk
    have hK:K=[]:=List.length_eq_zero_iff.1 (by omega)
    have hT:∀ id,s.T id=none:=fun id=>by
     cases e:s.T id with
     | none=>rfl
     | some g=>have:=(k3 id).2 (by rw [e];simp);rw [hK] at this;cases this
    have hM:∀ k,(layTo s L s.n).M k=if k<s.n then [] else s.M k:=fun k=>rfl
    have hc:=hok.core
    have hno:∀ k id,k<s.n→inM ((layTo s L s.n).M k) id=false:=fun k id hk=>by rw [hM,if_pos hk];rfl
    refine ⟨⟨hc.right,hc.cr,fun k=>?_,fun k hk=>?_,fun k=>?_,hc.tid,fun id g e=>?_,fun k id e=>?_⟩,fun c c0 cn=>?_⟩
    ·rw [hM]
     split
     ·exact MOk.none
     ·exact hc.mok k
    ·show EntOk (if k<s.n then ((L[k]!).1,(L[k]!).2.1,(s.Gs[k]!).2) else s.A k)
     have hk':k<s.n:=hk
     rw [if_pos hk']
     exact q2 k hk'
    ·show FlOk (if k<s.n then (L[k]!).2.2 else s.fl k)
     split
     ·rename_i hk
      exact (hL (L[k]!) (by rw [getElem!_pos L k (by omega)];exact List.getElem_mem _)).2.2
     ·exact hc.fok k
    ·have:=hT id
     rw [show (layTo s L s.n).T id=s.T id from rfl] at e
     rw [e] at this;cases this
    ·rw [hM] at e
     by_cases hkn:k<s.n
     ·rw [if_pos hkn] at e;cases e
     ·rw [if_neg hkn] at e
      rcases hc.ids k id e with ⟨q,_⟩ | ⟨c,c0,cn,_,hp⟩
      ·rw [hT] at q;cases q
      ·have cn':c<s.n:=cn
       have:=parG_lt hc.right c0 cn'
       omega
    ·unfold Seated
     have cn':c<s.n:=cn
     have hl:=parG_lt hc.right c0 cn'
     show inM ((layTo s L s.n).M (parG s.Gs c)) _=_
     rw [hno _ _ (by omega),hM,if_pos (show c<s.n from cn)]
     rfl
   ·rw [if_neg q2] at hC;exact absurd hC (by decide)
  ·rw [if_neg q1] at hC;exact absurd hC (by decide)
 ·rw [if_neg hC];exact hok
theorem lay_twin (h:Twin s r) (hok:TOk s) (hk:KeysT s) (hf:FlI s) (L:Spots):Twin (playS s L) (layRS r s.n r.T.length L)∧FlI (playS s L):=by
 unfold layRS playS
 rw [lay_code h hok hk]
 by_cases hC:playC s L=0
 ·rw [if_pos hC,if_pos hC]
  have hc0:s.c=0:=by
   unfold playC at hC
   split at hC
   ·split at hC
    ·split at hC
     ·assumption
     ·exact absurd hC (by decide)
    ·exact absurd hC (by decide)
   ·exact absurd hC (by decide)
  have hlen:=len_twin h.toTwinC hok hk
  have hT0:r.T=[]:=List.length_eq_zero_iff.1 (by omega)
  have hT:∀ id,s.T id=none:=fun id=>by
   rcases twin_find h.toTwinC hok id with ⟨q,_⟩ | ⟨k,g,x,hk,_⟩
   ·exact q
   ·rw [hT0] at hk;simp at hk
  have hM:∀ k,(layTo s L s.n).M k=if k<s.n then [] else s.M k:=fun k=>rfl
  refine ⟨⟨⟨h.gs,h.cr,rif_len _ _ _ _,fun k hk=>?_,h.srt,fun id g x=>?_⟩,rif_len _ _ _ _,fun k hk=>?_⟩,fun k he=>?_⟩
  ·have hkn:k<s.n:=hk
   show (rif s.n s.n (spX r L) _)[k]! = _
   rw [rif_at hkn,if_pos hkn,spot_aside]
   ·show _=if k<s.n then _ else _
    rw [if_pos hkn]
    unfold spX
    rw [h.gs]
   ·show entM ((layTo s L s.n).M (parG s.Gs k)) _=none
    have hpk:parG s.Gs k≤k:=(hok.core.right.par (k:=k) hkn).2.2
    rw [hM,if_pos (by omega)]
    rfl
  ·show (id,g,x)∈r.T↔s.T id=some g∧_
   rw [hT0,hT]
   exact ⟨fun e=>(by cases e),fun e=>(by cases e.1)⟩
  ·have hkn:k<s.n:=hk
   show (rif s.n s.n (fun j=>(L[j]!).2.2) _)[k]! = if k<s.n then _ else _
   rw [rif_at hkn,if_pos hkn,if_pos hkn]
  ·rw [hM] at he ⊢
   show firstV _≤if k<s.n then (L[k]!).2.2 else s.fl k
   by_cases q:k<s.n
   ·rw [if_pos q] at he;simp at he
   ·rw [if_neg q] at he ⊢
    rw [if_neg q]
    exact hf k he
 ·rw [if_neg hC,if_neg hC]
  exact ⟨h,hf⟩
theorem new_twin {Gs:Grps} {cr:Int}:Twin (newT Gs cr) (newR Gs cr):=by
 have hn:(newT Gs cr).n=Gs.length:=rfl
 refine ⟨⟨rfl,rfl,newSp_len _ _,fun k hk=>?_,List.Pairwise.nil,fun id g x=>⟨fun e=>(by cases e),fun e=>(by cases e.1)⟩⟩,newFl_len _,fun k hk=>?_⟩
 ·have hk':k<Gs.length:=hk
  rw [spot_empty (fun _=>rfl)]
  show (newSp Gs Gs.length)[k]! = newA Gs k
  unfold newSp
  rw [getElem!_pos _ k (by simpa using hk')]
  simp
 ·have hk':k<Gs.length:=hk
  show (newFl Gs.length)[k]! = 0
  unfold newFl
  rw [getElem!_pos _ k (by simpa using hk')]
  simp
end
theorem tot_sub {f g:Nat→Int}:∀ n,tot (fun j=>f j - g j) n=tot f n - tot g n
 | 0=>rfl
 | n+1=>by
  show tot _ n+(f n - g n)=tot f n+f n - (tot g n+g n)
  rw [tot_sub n];omega
theorem tot_zero:∀ n,tot (fun _=>0) n=0
 | 0=>rfl
 | n+1=>by show tot _ n+0=0;rw [tot_zero n];rfl
theorem tot_swap (F:Nat→Nat→Int) (m:Nat):∀ n,tot (fun k=>tot (fun c=>F c k) m) n=tot (fun c=>tot (fun k=>F c k) n) m
 | 0=>(tot_zero m).symm
 | n+1=>by
  show tot _ n+tot (fun c=>F c n) m=tot (fun c=>tot (fun k=>F c k) n+F c n) m
  rw [tot_swap F m n,tot_add]
theorem sum_filter_range (p:Nat→Bool) (f:Nat→Int):∀ n,(((List.range n).filter p).map f).sum=tot (fun c=>if p c=true then f c else 0) n
 | 0=>rfl
 | n+1=>by
  show _=tot _ n+_
  rw [List.range_succ,List.filter_append,List.map_append,List.sum_append,sum_filter_range p f n]
  congr 1
  show _=if p n=true then f n else 0
  by_cases h:p n=true
  ·rw [List.filter_cons_of_pos h,if_pos h];simp
  ·rw [List.filter_cons_of_neg h,if_neg h];rfl
def tkOf (T:Tks) (k:Nat):Mems:=(T.filter fun t=>decide (t.2.1=(k:Int))).map fun t=>(t.1,t.2.2)
def spB (s:TSt) (k c:Nat):Bool:=decide (0<c) && (decide (parG s.Gs c=k) && nonE s c)
def spOf (s:TSt) (k:Nat):Mems:=((List.range s.n).filter (spB s k)).map fun c:Nat=>(65536+(c:Int),spotX s c)
theorem spB_iff {s:TSt} {k c:Nat}:spB s k c=true↔0<c∧parG s.Gs c=k∧nonE s c=true:=by unfold spB;simp
theorem nodup_fst {M:Mems} (h:(M.map Prod.fst).Nodup):M.Nodup:=(List.pairwise_map.1 h).imp fun q e=>q (by rw [e])
section
variable {s:TSt} {r:RSt}
theorem members_perm (h:TwinC s r) (hok:TOk s) {k:Nat} (hk:k<s.n):(s.M k).Perm (tkOf r.T k++spOf s k):=by
 have hnT:((tkOf r.T k).map Prod.fst).Nodup:=by
  unfold tkOf
  rw [List.map_map]
  have:=h.srt.filter (fun t=>decide (t.2.1=(k:Int)))
  unfold List.Nodup
  rw [List.pairwise_map]
  exact this.imp fun {a b} q e=>by
   have e':a.1=b.1:=e
   omega
 have hnS:((spOf s k).map Prod.fst).Nodup:=by
  unfold spOf
  rw [List.map_map]
  have:=(List.nodup_range (n:=s.n)).filter (spB s k)
  unfold List.Nodup at this ⊢
  rw [List.pairwise_map]
  exact this.imp fun {a b} q e=>by
   have e':(65536:Int)+(a:Int)=65536+(b:Int):=e
   omega
 have hT:∀ m∈tkOf r.T k,m.1≤65535:=fun m hm=>by
  unfold tkOf at hm
  obtain ⟨t,ht,rfl⟩:=List.mem_map.1 hm
  exact (h.task hok (List.mem_filter.1 ht).1).1.2
 have hS:∀ m∈spOf s k,65536≤m.1:=fun m hm=>by
  unfold spOf at hm
  obtain ⟨c,hc,rfl⟩:=List.mem_map.1 hm
  show (65536:Int)≤65536+(c:Int)
  omega
 have hN:(tkOf r.T k++spOf s k).Nodup:=List.nodup_append.2 ⟨nodup_fst hnT,nodup_fst hnS,fun a ha b hb e=>by
  have h1:=hT a ha
  have h2:=hS b hb
  rw [e] at h1
  omega⟩
 refine (List.perm_ext_iff_of_nodup (nodup_fst (hok.core.mok k).nod) hN).2 fun m=>?_
 rw [List.mem_append]
 have hm:m∈s.M k↔entM (s.M k) m.1=some m.2:=(ent_some (hok.core.mok k).nod).symm
 rw [hm]
 constructor
 ·intro e
  rcases hok.core.ids k m.1 (by unfold inM;rw [e];rfl) with ⟨q1,_⟩ | ⟨c,c0,cn,ec,hp⟩
  ·left
   unfold tkOf
   refine List.mem_map.2 ⟨(m.1,(k:Int),m.2),List.mem_filter.2 ⟨(h.t _ _ _).2 ⟨q1,by rw [Int.toNat_natCast];exact e⟩,by simp⟩,rfl⟩
  ·right
   have hne:(s.M c).isEmpty=false:=by
    have hs:=hok.seat c c0 cn
    unfold Seated inM at hs
    rw [hp,← ec,e] at hs
    cases q:(s.M c).isEmpty with
    | true=>rw [q] at hs;cases hs
    | false=>rfl
   obtain ⟨y,y1,y2⟩:=seat_some hok c0 cn hne
   rw [hp,← ec,e] at y1
   cases y1
   unfold spOf
   refine List.mem_map.2 ⟨c,List.mem_filter.2 ⟨List.mem_range.2 cn,spB_iff.2 ⟨c0,hp,by unfold nonE;rw [hne];rfl⟩⟩,?_⟩
   rw [y2,← ec]
 ·rintro (hm | hm)
  ·unfold tkOf at hm
   obtain ⟨t,ht,rfl⟩:=List.mem_map.1 hm
   obtain ⟨h1,h2⟩:=List.mem_filter.1 ht
   obtain ⟨_,j,e1,_,_,h5⟩:=h.task hok h1
   have:j=k:=by have:=of_decide_eq_true h2;omega
   subst this
   exact h5
  ·unfold spOf at hm
   obtain ⟨c,hc,rfl⟩:=List.mem_map.1 hm
   obtain ⟨h1,h2⟩:=List.mem_filter.1 hc
   obtain ⟨c0,hp,hne⟩:=spB_iff.1 h2
   have hne':(s.M c).isEmpty=false:=by
    unfold nonE at hne
    simpa using hne
   obtain ⟨y,y1,y2⟩:=seat_some hok c0 (List.mem_range.1 h1) hne'
   rw [hp] at y1
   show entM (s.M k) (65536+(c:Int))=some (spotX s c)
   rw [y1,y2]
theorem loadM_perm {M N:Mems} (h:M.Perm N):loadM M=loadM N:=sum_perm (h.map _)
theorem loadM_app (M N:Mems):loadM (M++N)=loadM M+loadM N:=by unfold loadM;rw [List.map_append,List.sum_append]
theorem load_tasks:∀ (T:Tks) (n:Nat),(∀ t∈T,∃ k:Nat,t.2.1=(k:Int)∧k<n)→tot (fun k=>loadM (tkOf T k)) n=loadTk T
 | [],n,_=>tot_zero n
 | t::T,n,hT=>by
  have ih:=load_tasks T n fun u hu=>hT u (List.mem_cons_of_mem _ hu)
  obtain ⟨g,hg,hgn⟩:=hT t List.mem_cons_self
  have e:∀ k,loadM (tkOf (t::T) k)=loadM (tkOf T k)+if k=g then t.2.2.2.2 else 0:=fun k=>by
   unfold tkOf
   by_cases q:k=g
   ·subst q
    rw [List.filter_cons_of_pos (by simpa using hg),if_pos rfl]
    show (t.2.2.2.2+_:Int)=_
    rw [Int.add_comm]
    rfl
   ·rw [List.filter_cons_of_neg (by simp;omega),if_neg q]
    omega
  rw [tot_congr n fun k _=>e k,tot_add,ih,tot_one,if_pos hgn]
  show _=(t.2.2.2.2+loadTk T:Int)
  omega
theorem load_twin (h:TwinC s r) (hok:TOk s):loadTk r.T=loadTo s s.n:=by
 have e1:tot (fun k=>loadM (s.M k)) s.n=loadTk r.T+tot (subL s) s.n:=by
  rw [tot_congr s.n fun k hk=>(loadM_perm (members_perm h hok hk)).trans (loadM_app _ _),tot_add,load_tasks r.T s.n fun t ht=>by
   obtain ⟨_,k,e,hk,_⟩:=h.task hok ht
   exact ⟨k,e,hk⟩]
  congr 1
  have e2:∀ k,loadM (spOf s k)=tot (fun c=>if spB s k c=true then (spotX s c).2.2 else 0) s.n:=fun k=>by
   unfold loadM spOf
   rw [List.map_map]
   exact sum_filter_range (spB s k) (fun c=>(spotX s c).2.2) s.n
  rw [tot_congr s.n fun k _=>e2 k,tot_swap (fun c k=>if spB s k c=true then (spotX s c).2.2 else 0) s.n s.n]
  refine tot_congr s.n fun c hc=>?_
  unfold subL
  by_cases q:0<c∧(s.M c).isEmpty=false
  ·rw [if_pos q]
   have hlt:=parG_lt hok.core.right q.1 hc
   have e3:∀ k,(if spB s k c=true then (spotX s c).2.2 else 0)=if k=parG s.Gs c then (spotX s c).2.2 else 0:=fun k=>by
    by_cases e:k=parG s.Gs c
    ·rw [if_pos e,if_pos (spB_iff.2 ⟨q.1,e.symm,by unfold nonE;rw [q.2];rfl⟩)]
    ·rw [if_neg e,if_neg fun z=>e (spB_iff.1 z).2.1.symm]
   rw [tot_congr s.n fun k _=>e3 k,tot_one,if_pos (by omega)]
   obtain ⟨y,y1,y2⟩:=seat_some hok q.1 hc q.2
   rw [y2,getE_yes y1]
  ·rw [if_neg q]
   have e3:∀ k,(if spB s k c=true then (spotX s c).2.2 else 0)=0:=fun k=>if_neg fun z=>by
    obtain ⟨z1,_,z3⟩:=spB_iff.1 z
    refine q ⟨z1,?_⟩
    unfold nonE at z3
    simpa using z3
   rw [tot_congr s.n fun k _=>e3 k]
   exact tot_zero _
 rw [load_tot,tot_sub,e1]
 omega
end
end Go.Proofs.YtfgmglghlapbcaaGreat
