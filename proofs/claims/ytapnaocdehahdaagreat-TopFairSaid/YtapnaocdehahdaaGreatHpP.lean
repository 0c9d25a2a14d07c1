/-
  Layer 18 (heap): Put.
-/
import Derived.Test.YtapnaocdehahdaaGreatHeapT
import Derived.Test.YtapnaocdehahdaaGreatHpA
import Derived.Test.YtapnaocdehahdaaGreatKtA
import Derived.Deep.DeepCutAuto
namespace Go.Proofs.YtapnaocdehahdaaGreat
open Go.RowKit Go.Maps Go.IntWalk Go.Lib Go.Sort
set_option linter.unusedVariables false
theorem infoItem:(Tryz.prog.info? 277).map (fun i=>(i.zero,i.size,i.bytes))=some (some (.agg #[.int .i64 0,.int .u64 0]),2,16):=by kernel_rfl
def HeapIn (w:World) (p:Nat) (F:List Nat) (n:Int) (S:Items):Prop:=∃ a cap bm V f,Good w p a cap bm n V f∧F=blocks p a bm∧S.Perm V∧InOrder S
def After (w:World) (p:Nat) (F:List Nat) (n:Int) (S:Items) (w':World):Prop:=∃ F',HeapIn w' p F' n S∧Kept F w w'∧∀ b∈F',b∈F∨w.heap.size≤b
theorem HeapIn.kept {w w':World} {p:Nat} {F G:List Nat} {n:Int} {S:Items} (h:HeapIn w p F n S) (hk:Kept G w w') (hd:∀ b∈F,b∉G):HeapIn w' p F n S:=by
 obtain ⟨a,cap,bm,V,f,hg,rfl,hp,ho⟩:=h
 exact ⟨a,cap,bm,V,f,{ hg with raw:=hg.raw.kept hk hd },rfl,hp,ho⟩
theorem HeapIn.below {w w':World} {p:Nat} {F:List Nat} {n:Int} {S:Items} (h:HeapIn w p F n S) (hk:Below w.heap.size w w'):HeapIn w' p F n S:=h.kept (G:=[]) (Kept.of hk) (fun _ _=>by simp)
theorem HeapIn.lt {w:World} {p:Nat} {F:List Nat} {n:Int} {S:Items} (h:HeapIn w p F n S):∀ b∈F,b<w.heap.size:=by
 obtain ⟨a,cap,bm,V,f,hg,rfl,hp,ho⟩:=h
 intro b hb
 simp only [blocks,List.mem_cons,Option.mem_toList] at hb
 rcases hb with rfl | rfl | hb
 ·exact hg.raw.plt
 ·exact hg.raw.map.lt
 ·exact hg.raw.glt hb
theorem After.same {w w':World} {p:Nat} {F:List Nat} {n:Int} {S:Items} (h:HeapIn w p F n S) (hb:Below w.heap.size w w'):After w p F n S w':=⟨F,h.below hb,Kept.of hb,fun b hb=>Or.inl hb⟩
theorem Good.find {w:World} {p:Nat} {a:Option Nat} {cap bm:Nat} {n:Int} {V S:Items} {f:Int→Option Int} (h:Good w p a cap bm n V f) (hp:S.Perm V) (id:Int) :
  (f id).isSome=(keyL S id).isSome∧∀ k,f id=some k→∃ j:Nat,k=j∧j<V.length∧V[j]!.1=id∧keyL S id=some V[j]!.2:=by
 have hnd:(S.map Prod.fst).Nodup:=ids_nodup_perm hp.symm (apart_nodup h.apart)
 have key:∀ k,f id=some k→∃ j:Nat,k=j∧j<V.length∧V[j]!.1=id∧keyL S id=some V[j]!.2:=by
  intro k hk
  obtain ⟨j,jl,hj,rfl⟩:=(h.placed id k).1 hk
  refine ⟨j,rfl,jl,hj,(keyL_some hnd).2 ?_⟩
  rw [hp.mem_iff,← hj]
  exact at_mem jl
 refine ⟨?_,key⟩
 cases e:f id with
 | some k =>
  obtain ⟨j,_,_,_,q⟩:=key k e
  rw [q];rfl
 | none =>
  cases q:keyL S id with
  | none=>rfl
  | some x =>
   have:=(keyL_some hnd).1 q
   obtain ⟨j,jl,hj⟩:=mem_at ((hp.mem_iff).1 this)
   have:=(h.placed id j).2 ⟨j,jl,by rw [hj],rfl⟩
   rw [e] at this;cases this
theorem Raw.app {w W w1:World} {p:Nat} {a:Option Nat} {cap bm:Nat} {n:Int} {L:Items} {f:Int→Option Int} {c:Nat} (h:Raw w p a cap bm n L f c) (hW:Below w.heap.size w W) {x:Int×Int} {g' cap':Nat}
  (hx:(0≤x.1∧x.1<n)∧0≤x.2∧x.2≤18446744073709551615)
  (ho:w1.ownsRow (max p bm+1) 277 2 (.slice (some ⟨g',0,none⟩) (L.length+1) cap') (L.length+1) (flatI L++[.int .i64 x.1,.int .u64 x.2])) (hg:W.grownBy w1 (rowV a L.length cap).ownBlock) (hpl:(Value.slice (some ⟨g',0,none⟩) (L.length+1) cap').ownBlock=(rowV a L.length cap).ownBlock∨(Value.slice (some ⟨g',0,none⟩) (L.length+1) cap').ownBlock=some W.heap.size) :
  Raw (w1.setCell ⟨p,0,none⟩ (.slice (some ⟨g',0,none⟩) (L.length+1) cap')) p (some g') cap' bm n (L++[x]) f c∧Kept (blocks p a bm) w (w1.setCell ⟨p,0,none⟩ (.slice (some ⟨g',0,none⟩) (L.length+1) cap'))∧(a=some g'∨w.heap.size≤g'):=by
 have r:=h.below hW
 have np:some p≠(rowV a L.length cap).ownBlock:=own_block h.own (Or.inl (by omega))
 have nm:some bm≠(rowV a L.length cap).ownBlock:=own_block h.own (Or.inl (by omega))
 have c:∀ (o:Nat) (u:Value),W.cell? ⟨p,o,none⟩=some u→w1.cell? ⟨p,o,none⟩=some u:=fun o u h=>hg.cell h np
 have hgl:=ho.lt g' rfl
 have eg:g'≠p∧g'≠bm:=by omega
 have hl:(L++[x]).length=L.length+1:=by simp
 refine ⟨⟨?_,cell_set_ne (c 1 _ r.c1) (Or.inr (by omega)),cell_set_ne (c 2 _ r.c2) (Or.inr (by omega)),fun j=>?_,?_,fun g e=>by cases e;exact eg,h.pb,?_,fun y hy=>?_,h.small,h.pos⟩,?_,?_⟩
 ·rw [hl];exact cell_set_eq (c 0 _ r.c0)
 ·rw [World.frozen?_setCell]
  exact (World.frozen?_of_block (w:=W) (w':=w1) (a:=⟨p,j,none⟩) (hg.block _ r.plt np)).trans (r.fp j)
 ·rw [hl,flatI_app]
  exact ho.kept (gset _ _ _ _) (Or.inr (by simp [Value.ownBlock];omega))
 ·exact (r.map.of_heap (hg.block _ r.map.lt nm)).setCell (Ne.symm h.pb) _
 ·rcases List.mem_append.1 hy with q | q
  ·exact h.fits y q
  ·simp only [List.mem_singleton] at q;subst q;exact hx
 ·refine Kept.setCell ((Kept.of hW).grown hg (fun k hk=>?_)) (Or.inl (by simp [blocks])) _
  cases a with
  | none=>simp [rowV,Value.ownBlock] at hk
  | some g=>simp [rowV,Value.ownBlock] at hk;subst hk;exact Or.inl (by simp [blocks])
 ·rcases hpl with q | q
  ·refine Or.inl ?_
   cases a with
   | none=>simp [rowV,Value.ownBlock] at q
   | some g=>simp [rowV,Value.ownBlock] at q;rw [q]
  ·simp only [Value.ownBlock,Option.some.injEq] at q
   have:=hW.size
   exact Or.inr (by omega)
theorem Good.appended {w w2:World} {p g':Nat} {a:Option Nat} {cap cap' bm:Nat} {n:Int} {V:Items} {f:Int→Option Int} (h:Good w p a cap bm n V f) {x:Int×Int} (hx:(0≤x.1∧x.1<n)∧0≤x.2∧x.2≤18446744073709551615)
  (hf:f x.1=none) (r:Raw w2 p (some g') cap' bm n (V++[x]) f V.length):Mid w2 p g' cap' bm n (V++[x]) f V.length (V++[x]) (V++[x])[V.length]! V.length:=by
 have hl:(V++[x]).length=V.length+1:=by simp
 have e0:(V++[x])[V.length]! = x:=app_last
 have e1:(V++[x]).set V.length x=V++[x]:=by simp
 have hno:∀ j,j<V.length→V[j]!.1≠x.1:=fun j hj q=>by
  have:=(h.placed x.1 j).2 ⟨j,hj,q,rfl⟩
  rw [hf] at this;cases this
 rw [e0]
 refine ⟨r,by omega,by rw [e1];exact hole_app x h.heaped,?_,by rw [e1],?_,by rw [hf,hl];rfl,hx⟩
 ·rw [e1]
  intro i j hi hj e
  rw [hl] at hi hj
  by_cases hi':i<V.length
  ·by_cases hj':j<V.length
   ·rw [app_at hi',app_at hj'] at e;exact h.apart i j hi' hj' e
   ·have:j=V.length:=by omega
    subst this
    rw [app_at hi',app_last] at e;exact absurd e (hno i hi')
  ·have:i=V.length:=by omega
   subst this
   by_cases hj':j<V.length
   ·rw [app_at hj',app_last] at e;exact absurd e.symm (hno j hj')
   ·omega
 ·rw [e1]
  intro id hid q
  rw [h.placed id q]
  constructor
  ·rintro ⟨j,jl,hj,rfl⟩
   exact ⟨j,by omega,by rw [app_at jl];exact hj,rfl⟩
  ·rintro ⟨j,jl,hj,rfl⟩
   rw [hl] at jl
   by_cases hj':j<V.length
   ·exact ⟨j,hj',by rw [app_at hj'] at hj;exact hj,rfl⟩
   ·have:j=V.length:=by omega
    subst this
    rw [app_last] at hj;exact absurd hj.symm hid
def putRes (n:Int) (S:Items) (id:Int):Int:=if hasV n id then (if (keyL S id).isSome then 180 else 0) else 2
def putS (n:Int) (S:Items) (id key:Int):Items:=if putRes n S id=0 then putL S (id,key) else S
def Did (w:World) (p:Nat) (F:List Nat) (n:Int) (r:Value) (S:Items) (e:Ending) (w':World):Prop:=e=.returned r∧After w p F n S w'
theorem hasV_iff {n id:Int}:hasV n id=true↔0≤id∧id<n:=by unfold hasV;simp
set_option maxRecDepth 100000 in
set_option maxHeartbeats 1000000 in
theorem Put_at {p:Nat} {F:List Nat} {n:Int} {S:Items} (id key:Int) (w:World) (h:HeapIn w p F n S) (hid:(Lit.int .i64 id).wf=true) (hk:0≤key∧key≤18446744073709551615) :
  Calls Tryz.prog 210 #[.pointer (some ⟨p,0,none⟩),.int .i64 id,.int .u64 key] w (Did w p F n (.int .i64 (putRes n S id)) (putS n S id key)):=by
 have HS:=Lib.hid h
 obtain ⟨a,cap,bm,V,f,hg,rfl,hp,ho⟩:=h
 have A1:=Lib.hid (find_at id w hg.raw hid)
 have hfd:=hg.find hp id
 unfold findV at A1
 unfold putS putRes
 cases hv:hasV n id with
 | false =>
  rw [hv] at A1
  clear hfd hg hp ho
  go_enter Tryz.func210,Tryz.ntmps210
  go_wp2_with fail
  refine A1.out.mono ?_;rintro e w5 ⟨rfl,rfl⟩
  go_wp2_with fail
  go_ret
  exact ⟨rfl,After.same HS.out (Below.refl _ _)⟩
 | true =>
  rw [hv] at A1
  cases hf:f id with
  | some k =>
   rw [hf] at A1 hfd
   rw [← hfd.1]
   clear hfd hg hp ho
   go_enter Tryz.func210,Tryz.ntmps210
   go_wp2_with fail
   refine A1.out.mono ?_;rintro e w5 ⟨rfl,rfl⟩
   go_wp2_with fail
   go_ret
   exact ⟨rfl,After.same HS.out (Below.refl _ _)⟩
  | none =>
   rw [hf] at A1 hfd
   rw [← hfd.1]
   obtain ⟨i0,hi,hz0,hz1,hz2⟩:=info_parts infoItem
   have hxx:((0:Int)≤(id,key).1∧(id,key).1<n)∧0≤(id,key).2∧(id,key).2≤18446744073709551615:=⟨hasV_iff.1 hv,hk⟩
   have hlen:=hg.raw.nlen hg.apart
   have hsm:=hg.raw.small
   have hL:V.length≤131072:=by omega
   have HG:=Lib.hid hg
   have HX:=Lib.hid hxx
   have HF:=Lib.hid hf
   have HP:=Lib.hid hp
   have HO:=Lib.hid ho
   have c0:=hg.raw.c0
   have f0:=hg.raw.fp 0
   have hown:=Lib.hid hg.raw.own
   have hplt:=hg.raw.plt
   have hblt:=hg.raw.map.lt
   clear hfd hg hp ho hxx hlen hsm hf
   generalize hrow:rowV a V.length cap=v at *
   have HR:=Lib.hid hrow
   clear hrow
   go_enter Tryz.func210,Tryz.ntmps210
   go_wp2_with fail
   refine A1.out.mono ?_;rintro e w5 ⟨rfl,rfl⟩
   go_wp2_with (at_builtin;refine wpList_append_own2 rfl (.tmp 25) (.tmp 29) 259 rfl (max p bm+1) 277 i0 (.agg #[.int .i64 0,.int .u64 0]) 2 16 Tryz.underlying259 hi hz0 hz1 hz2 rfl (by decide) v V.length (flatI V) rfl (hown.out.alloc _) ⟨w.heap.size,0,none⟩ 1 1 [.int .i64 id,.int .u64 key] rfl rfl ?c1 ?c2 ?c3 ?c4 ?c5 (by decide) ?_)
   case c1 =>
    intro j u hj
    match j,hj with
    | 0,hj=>simp at hj;subst hj;go_simp
    | 1,hj=>simp at hj;subst hj;go_simp
    | j+2,hj=>simp at hj
   case c2=>intro u hu;simp at hu;rcases hu with rfl | rfl <;> rfl
   case c3=>unfold maxLen;omega
   case c4=>omega
   case c5=>simp;omega
   intro v' w1 hown1 hgrow1 hpl
   obtain ⟨g',cap',rfl⟩:=own_some hown1
   rw [← HR.out] at hgrow1 hpl
   obtain ⟨hra,hka,hga⟩:=HG.out.raw.app (below_a w _) (x:=(id,key)) HX.out hown1 hgrow1 (by simpa using hpl)
   have k0:=hgrow1.cell (cell_al _ c0) (own_block (by rw [HR.out];exact hown.out) (Or.inl (by show p<max p bm+1;omega)))
   have kf:w1.frozen? ⟨p,0,none⟩=false:=by
    have:=hra.fp 0
    rwa [World.frozen?_setCell] at this
   have HRA:=Lib.hid hra
   have HKA:=Lib.hid hka
   have HGA:=Lib.hid hga
   clear hra hka hga hown1 hgrow1 hpl c0 f0 hown
   have hl:(V++[(id,key)]).length=V.length+1:=by simp
   go_wp2_with fail
   refine (settle_at (V++[(id,key)]) V.length _ (HG.out.appended (x:=(id,key)) HX.out HF.out HRA.out)).mono ?_
   rintro e w7 ⟨rfl,hS⟩
   have HSS:=Lib.hid hS
   clear hS k0 kf
   go_wp2_with fail
   go_ret
   obtain ⟨V',f',hg',hp',hk'⟩:=HSS.out
   have hkk:=HKA.out
   have hga:=HGA.out
   have hno:(id,key)∉S:=fun q=>by
    obtain ⟨j,jl,hj⟩:=mem_at (HP.out.mem_iff.1 q)
    have:=(HG.out.placed id j).2 ⟨j,jl,by rw [hj],rfl⟩
    rw [HF.out] at this;cases this
   have hpp:(putL S (id,key)).Perm V':=(putL_perm _ _).trans (((HP.out.cons _).trans (List.perm_append_singleton _ _).symm).trans hp'.symm)
   refine ⟨rfl,blocks p (some g') bm,⟨some g',cap',bm,V',f',hg',rfl,hpp,putL_order HO.out hno⟩,?_,fun b hb=>?_⟩
   ·refine ⟨hk'.os.trans hkk.os,hk'.tape.trans hkk.tape,hk'.output.trans hkk.output,Nat.le_trans hkk.size hk'.size,fun i hi hn=>?_⟩
    rw [hk'.block i (Nat.lt_of_lt_of_le hi hkk.size) (fun m=>?_)]
    ·exact hkk.block i hi hn
    ·simp only [blocks,List.mem_cons,Option.mem_toList,List.not_mem_nil,or_false,not_or] at m hn
     rcases m with m | m | m
     ·exact hn.1 m
     ·exact hn.2.1 m
     ·rcases hga with q | q
      ·exact hn.2.2 (by rw [q,m])
      ·omega
   ·simp only [blocks,List.mem_cons,Option.mem_toList] at hb ⊢
    rcases hb with q | q | q
    ·exact Or.inl (Or.inl q)
    ·exact Or.inl (Or.inr (Or.inl q))
    ·cases q
     rcases hga with q | q
     ·exact Or.inl (Or.inr (Or.inr q))
     ·exact Or.inr q
theorem flatI_key {L:Items} {k:Nat} {key:Int} (hk:k<L.length):flatI (L.set k (L[k]!.1,key))=(flatI L).set (k*2+1) (.int .u64 key):=by
 rw [flatI_set hk]
 have h:=(flatI_at (at_get hk)).1
 have:(flatI L).set (k*2) (.int .i64 L[k]!.1)=flatI L:=by
  apply List.ext_getElem?
  intro i
  rw [List.getElem?_set]
  split
  ·rename_i e
   subst e
   split
   ·exact h.symm
   ·rename_i q;rw [List.getElem?_eq_none (by omega)]
  ·rfl
 simp only [this]
theorem Raw.rekey {w:World} {p g cap bm:Nat} {n:Int} {L:Items} {f:Int→Option Int} {c:Nat} (h:Raw w p (some g) cap bm n L f c) {k:Nat} (hk:k<L.length) {key:Int} (hx:0≤key∧key≤18446744073709551615) :
  Raw (w.setCell ⟨g,k*2+1,none⟩ (.int .u64 key)) p (some g) cap bm n (L.set k (L[k]!.1,key)) f c:=by
 obtain ⟨n1,n2⟩:=h.na g rfl
 have o:=h.own
 change w.ownsRow (max p bm+1) 277 2 (.slice (some ⟨g,0,none⟩) L.length cap) L.length (flatI L) at o
 obtain ⟨o1,_⟩:=o.stored (k*2+1) (.int .u64 key)
 have hl:(L.set k (L[k]!.1,key)).length=L.length:=by simp
 refine ⟨?_,cell_set_ne h.c1 (Or.inl (Ne.symm n1)),cell_set_ne h.c2 (Or.inl (Ne.symm n1)),fun j=>by rw [World.frozen?_setCell];exact h.fp j,?_,h.na,h.pb,h.map.setCell (Ne.symm n2) _,fun y hy=>?_,h.small,h.pos⟩
 ·rw [hl];exact cell_set_ne h.c0 (Or.inl (Ne.symm n1))
 ·rw [hl,flatI_key hk];exact o1
 ·rcases List.mem_or_eq_of_mem_set hy with q | rfl
  ·exact h.fits y q
  ·exact ⟨(h.fits _ (at_mem hk)).1,hx⟩
theorem set_ids {V:Items} {k:Nat} (hk:k<V.length) (key:Int) (i:Nat):(V.set k (V[k]!.1,key))[i]!.1=V[i]!.1:=by
 rw [set_at hk]
 split
 ·rename_i e;rw [e]
 ·rfl
theorem Good.rekeyed {w w2:World} {p g:Nat} {cap bm:Nat} {n:Int} {V:Items} {f:Int→Option Int} (h:Good w p (some g) cap bm n V f) {k:Nat} (hk:k<V.length) {key:Int} (hx:0≤key∧key≤18446744073709551615)
  (r:Raw w2 p (some g) cap bm n (V.set k (V[k]!.1,key)) f V.length):Mid w2 p g cap bm n (V.set k (V[k]!.1,key)) f V.length (V.set k (V[k]!.1,key)) (V.set k (V[k]!.1,key))[k]! k:=by
 have hl:(V.set k (V[k]!.1,key)).length=V.length:=by simp
 have e0:(V.set k (V[k]!.1,key))[k]! = (V[k]!.1,key):=by rw [set_at hk,if_pos rfl]
 have e1:(V.set k (V[k]!.1,key)).set k (V[k]!.1,key)=V.set k (V[k]!.1,key):=by simp
 have fk:f V[k]!.1=some (k:Int):=(h.placed _ _).2 ⟨k,hk,rfl,rfl⟩
 rw [e0]
 refine ⟨r,by omega,by rw [e1];exact hole_set _ hk h.heaped,?_,by rw [e1],?_,by rw [fk,hl];rfl,(h.raw.fits _ (at_mem hk)).1,hx⟩
 ·rw [e1]
  intro i j hi hj e
  rw [hl] at hi hj
  rw [set_ids hk,set_ids hk] at e
  exact h.apart i j hi hj e
 ·rw [e1]
  intro id hid q
  rw [h.placed id q]
  constructor
  ·rintro ⟨j,jl,hj,rfl⟩
   exact ⟨j,by omega,by rw [set_ids hk];exact hj,rfl⟩
  ·rintro ⟨j,jl,hj,rfl⟩
   rw [set_ids hk] at hj
   exact ⟨j,by omega,hj,rfl⟩
theorem rekey_perm {S V:Items} {k:Nat} {key:Int} (hp:S.Perm V) (hn:(V.map Prod.fst).Nodup) (hk:k<V.length):(putL (outL S V[k]!.1) (V[k]!.1,key)).Perm (V.set k (V[k]!.1,key)):=by
 refine (putL_perm _ _).trans ?_
 refine ((outL_perm hp _).cons _).trans ?_
 rw [← erase_outL hk hn]
 have hk':k<(V.set k (V[k]!.1,key)).length:=by simpa using hk
 have q:=erase_perm hk'
 rw [set_at hk,if_pos rfl,List.eraseIdx_set_eq] at q
 exact q.symm
def setRes (n:Int) (S:Items) (id:Int):Int:=if hasV n id then (if (keyL S id).isSome then 0 else 6) else 2
def setS (n:Int) (S:Items) (id key:Int):Items:=if setRes n S id=0 then putL (outL S id) (id,key) else S
theorem not_out {S:Items} {id key:Int}:(id,key)∉outL S id:=by unfold outL;simp
theorem After.of_kept {w w':World} {p g cap bm:Nat} {n:Int} {S V:Items} {f:Int→Option Int} (hk:Kept (blocks p (some g) bm) w w') (hg:Good w' p (some g) cap bm n V f) (hp:S.Perm V) (ho:InOrder S):After w p (blocks p (some g) bm) n S w':=
 ⟨blocks p (some g) bm,⟨some g,cap,bm,V,f,hg,rfl,hp,ho⟩,hk,fun b hb=>Or.inl hb⟩
set_option maxRecDepth 100000 in
set_option maxHeartbeats 1000000 in
theorem Set_at {p:Nat} {F:List Nat} {n:Int} {S:Items} (id key:Int) (w:World) (h:HeapIn w p F n S) (hid:(Lit.int .i64 id).wf=true) (hk:0≤key∧key≤18446744073709551615) :
  Calls Tryz.prog 310 #[.pointer (some ⟨p,0,none⟩),.int .i64 id,.int .u64 key] w (Did w p F n (.int .i64 (setRes n S id)) (setS n S id key)):=by
 have HS:=Lib.hid h
 obtain ⟨a,cap,bm,V,f,hg,rfl,hp,ho⟩:=h
 have A1:=Lib.hid (find_at id w hg.raw hid)
 have hfd:=hg.find hp id
 unfold findV at A1
 unfold setS setRes
 cases hv:hasV n id with
 | false =>
  rw [hv] at A1
  clear hfd hg hp ho
  go_enter Tryz.func310,Tryz.ntmps310
  go_wp2_with fail
  refine A1.out.mono ?_;rintro e w5 ⟨rfl,rfl⟩
  go_wp2_with fail
  go_ret
  exact ⟨rfl,After.same HS.out (Below.refl _ _)⟩
 | true =>
  rw [hv] at A1
  cases hf:f id with
  | none =>
   rw [hf] at A1 hfd
   rw [← hfd.1]
   clear hfd hg hp ho
   go_enter Tryz.func310,Tryz.ntmps310
   go_wp2_with fail
   refine A1.out.mono ?_;rintro e w5 ⟨rfl,rfl⟩
   go_wp2_with fail
   go_ret
   exact ⟨rfl,After.same HS.out (Below.refl _ _)⟩
  | some q =>
   rw [hf] at A1 hfd
   rw [← hfd.1]
   obtain ⟨k,rfl,kl,hki,hkk⟩:=hfd.2 q rfl
   obtain ⟨g,rfl⟩:=hg.raw.row (by omega)
   have HG:=Lib.hid hg
   have HP:=Lib.hid hp
   have HO:=Lib.hid ho
   have HKL:=Lib.hid kl
   have HKI:=Lib.hid hki
   have hlen:=hg.raw.nlen hg.apart
   have hsm:=hg.raw.small
   have c0:=hg.raw.c0
   unfold rowV at c0
   simp only [Option.map_some] at c0
   obtain ⟨i0,i1⟩:=hg.raw.item kl
   have fg1:=hg.raw.fg (k*2+1)
   have l1:(k:Int)<(V.length:Int):=by omega
   have l3:(0:Int)≤(k:Int):=by omega
   have hr:=hg.raw.rekey kl hk
   have HR:=Lib.hid hr
   have HKY:=Lib.hid hk
   clear hfd hkk hg hp ho hlen hsm hki hr
   go_enter Tryz.func310,Tryz.ntmps310
   go_wp2_with fail
   refine A1.out.mono ?_;rintro e w5 ⟨rfl,rfl⟩
   go_wp2_with fail
   refine (settle_at _ k _ (HG.out.rekeyed HKL.out HKY.out HR.out)).mono ?_
   rintro e w7 ⟨rfl,hS⟩
   have HSS:=Lib.hid hS
   clear hS i0 i1 c0 fg1
   go_wp2_with fail
   go_ret
   obtain ⟨V',f',hg',hp',hk'⟩:=HSS.out
   have hk0:Kept [p,bm,g] w (w.setCell ⟨g,k*2+1,none⟩ (.int .u64 key)):=(Kept.refl _ w).setCell (Or.inl (by simp)) _
   have hpp:=rekey_perm (key:=key) HP.out (apart_nodup HG.out.apart) HKL.out
   rw [HKI.out] at hpp hp'
   exact ⟨rfl,After.of_kept (hk0.trans hk') hg' (hpp.trans hp'.symm) (putL_order (outL_order HO.out id) not_out)⟩
theorem take_at {L:Items} {m i:Nat} (hi:i<m):(L.take m)[i]! = L[i]!:=by
 rw [List.getElem!_eq_getElem?_getD,List.getElem!_eq_getElem?_getD,List.getElem?_take_of_lt hi]
theorem flatI_take (L:Items) (m:Nat):flatI (L.take m)=(flatI L).take (m*2):=by
 induction L generalizing m with
 | nil=>simp [flatI]
 | cons x r ih =>
  cases m with
  | zero=>simp [flatI]
  | succ m =>
   rw [show (m+1)*2=m*2+1+1 by omega]
   simp only [List.take_succ_cons,flatI,ih]
theorem Raw.cut {w:World} {p g cap bm:Nat} {n:Int} {L:Items} {f:Int→Option Int} {c:Nat} (h:Raw w p (some g) cap bm n L f c) {m:Nat} (hm:m≤L.length) :
  Raw (w.setCell ⟨p,0,none⟩ (.slice (some ⟨g,0,none⟩) m cap)) p (some g) cap bm n (L.take m) f c:=by
 obtain ⟨n1,n2⟩:=h.na g rfl
 have o:=h.own
 change w.ownsRow (max p bm+1) 277 2 (.slice (some ⟨g,0,none⟩) L.length cap) L.length (flatI L) at o
 have hl:(L.take m).length=m:=by rw [List.length_take];omega
 refine ⟨?_,cell_set_ne h.c1 (Or.inr (by omega)),cell_set_ne h.c2 (Or.inr (by omega)),fun j=>by rw [World.frozen?_setCell];exact h.fp j,?_,h.na,h.pb,h.map.setCell (Ne.symm h.pb) _,fun y hy=>h.fits y (List.mem_of_mem_take hy),h.small,h.pos⟩
 ·rw [hl];exact cell_set_eq h.c0
 ·rw [hl,flatI_take]
  exact (own_take o hm).kept (gset _ _ _ _) (Or.inr (by simp [Value.ownBlock];omega))
theorem Good.lastOut {w w2:World} {p g:Nat} {cap bm:Nat} {n:Int} {V:Items} {f:Int→Option Int} (h:Good w p (some g) cap bm n V f) (h0:0<V.length)
  (r:Raw w2 p (some g) cap bm n (V.take (V.length - 1)) (setF f V[V.length - 1]!.1 none) (V.length - 1)):Good w2 p (some g) cap bm n (V.take (V.length - 1)) (setF f V[V.length - 1]!.1 none):=by
 have hl:(V.take (V.length - 1)).length=V.length - 1:=by rw [List.length_take];omega
 refine ⟨by rw [hl];exact r,heaped_take h.heaped,?_,fun id q=>?_⟩
 ·intro i j hi hj e
  rw [hl] at hi hj
  rw [take_at hi,take_at hj] at e
  exact h.apart i j (by omega) (by omega) e
 ·by_cases e:id=V[V.length - 1]!.1
  ·subst e
   rw [setF_same]
   constructor
   ·intro q;cases q
   ·rintro ⟨j,jl,hj,rfl⟩
    rw [hl] at jl
    rw [take_at jl] at hj
    have:=h.apart j (V.length - 1) (by omega) (by omega) hj
    omega
  ·rw [setF_other _ _ e,h.placed id q]
   constructor
   ·rintro ⟨j,jl,hj,rfl⟩
    have:j≠V.length - 1:=fun q=>e (by rw [← q];exact hj.symm)
    exact ⟨j,by omega,by rw [take_at (by omega)];exact hj,rfl⟩
   ·rintro ⟨j,jl,hj,rfl⟩
    rw [hl] at jl
    rw [take_at jl] at hj
    exact ⟨j,by omega,hj,rfl⟩
theorem Good.moved {w w2:World} {p g:Nat} {cap bm:Nat} {n:Int} {V:Items} {f:Int→Option Int} (h:Good w p (some g) cap bm n V f) {k:Nat} (hk:k<V.length) (hl:k≠V.length - 1)
  (r:Raw w2 p (some g) cap bm n ((V.take (V.length - 1)).set k V[V.length - 1]!) (setF f V[k]!.1 none) (V.length - 1)) :
  Mid w2 p g cap bm n ((V.take (V.length - 1)).set k V[V.length - 1]!) (setF f V[k]!.1 none) (V.length - 1) ((V.take (V.length - 1)).set k V[V.length - 1]!) ((V.take (V.length - 1)).set k V[V.length - 1]!)[k]! k:=by
 have hT:(V.take (V.length - 1)).length=V.length - 1:=by rw [List.length_take];omega
 obtain ⟨T,eT⟩:∃ T,T=V.take (V.length - 1):=⟨_,rfl⟩
 obtain ⟨x,hx⟩:∃ x,x=V[V.length - 1]!:=⟨_,rfl⟩
 have tat:∀ i,i<V.length - 1→T[i]! = V[i]!:=fun i hi=>by rw [eT];exact take_at hi
 have hh:Heaped T:=by rw [eT];exact heaped_take h.heaped
 rw [← eT,← hx] at r ⊢
 rw [← eT] at hT
 have hkT:k<T.length:=by omega
 have e0:(T.set k x)[k]! = x:=by rw [set_at hkT,if_pos rfl]
 have e1:(T.set k x).set k x=T.set k x:=by simp
 have hll:(T.set k x).length=V.length - 1:=by simp [hT]
 have fx:f x.1=some ((V.length - 1:Nat):Int):=(h.placed _ _).2 ⟨V.length - 1,by omega,by rw [hx],rfl⟩
 have hne:x.1≠V[k]!.1:=fun e=>hl (h.apart (V.length - 1) k (by omega) hk (by rw [← hx];exact e)).symm
 rw [e0]
 have at':∀ i,i<V.length - 1→(T.set k x)[i]! = if k=i then x else V[i]!:=fun i hi=>by
  rw [set_at hkT]
  split
  ·rfl
  ·exact tat i hi
 refine ⟨r,by omega,by rw [e1];exact hole_set x hkT hh,?_,by rw [e1],?_,?_,?_⟩
 ·rw [e1]
  intro i j hi hj e
  rw [hll] at hi hj
  rw [at' i hi,at' j hj] at e
  by_cases q1:k=i
  ·by_cases q2:k=j
   ·omega
   ·rw [if_pos q1,if_neg q2,hx] at e
    have:=h.apart (V.length - 1) j (by omega) (by omega) e;omega
  ·by_cases q2:k=j
   ·rw [if_neg q1,if_pos q2,hx] at e
    have:=h.apart i (V.length - 1) (by omega) (by omega) e;omega
   ·rw [if_neg q1,if_neg q2] at e
    exact h.apart i j (by omega) (by omega) e
 ·rw [e1]
  intro id hid q
  by_cases e:id=V[k]!.1
  ·subst e
   rw [setF_same]
   constructor
   ·intro q;cases q
   ·rintro ⟨j,jl,hj,rfl⟩
    rw [hll] at jl
    rw [at' j jl] at hj
    split at hj
    ·exact absurd hj hne
    ·rename_i q2
     exact absurd (h.apart j k (by omega) hk hj) (Ne.symm q2)
  ·rw [setF_other _ _ e,h.placed id q]
   constructor
   ·rintro ⟨j,jl,hj,rfl⟩
    have j1:j≠V.length - 1:=fun q=>hid (by rw [hx,← q];exact hj.symm)
    have j2:k≠j:=fun q=>e (by rw [q];exact hj.symm)
    exact ⟨j,by omega,by rw [at' j (by omega),if_neg j2];exact hj,rfl⟩
   ·rintro ⟨j,jl,hj,rfl⟩
    rw [hll] at jl
    rw [at' j jl] at hj
    split at hj
    ·exact absurd hj.symm hid
    ·exact ⟨j,by omega,hj,rfl⟩
 ·rw [setF_other _ _ hne,fx,hll];rfl
 ·rw [hx];exact h.raw.fits _ (at_mem (by omega))
def outRes (n:Int) (S:Items) (id:Int):Int:=if hasV n id then (if (keyL S id).isSome then 0 else 6) else 2
def outKey (n:Int) (S:Items) (id:Int):Int:=if outRes n S id=0 then (keyL S id).getD 0 else 0
def outS (n:Int) (S:Items) (id:Int):Items:=if outRes n S id=0 then outL S id else S
structure Two (w:World) (bx b2:Nat) (x y:Int×Int) (wx:World):Prop where
 lt:w.heap.size≤bx∧w.heap.size≤b2
 grows:Grows w wx
 x0:wx.cell? ⟨bx,0,none⟩=some (.int .i64 x.1)
 x1:wx.cell? ⟨bx,1,none⟩=some (.int .u64 x.2)
 y0:wx.cell? ⟨b2,0,none⟩=some (.int .i64 y.1)
 y1:wx.cell? ⟨b2,1,none⟩=some (.int .u64 y.2)
theorem Two.one (w:World) (x y:Int×Int):Two w w.heap.size (w.heap.size+1) x y ((w.alloc (.cells #[.int .i64 x.1,.int .u64 x.2] 277)).alloc (.cells #[.int .i64 y.1,.int .u64 y.2] 277)).drew:=by
 have e:(w.alloc (.cells #[.int .i64 x.1,.int .u64 x.2] 277)).heap.size=w.heap.size+1:=by simp
 refine ⟨⟨Nat.le_refl _,Nat.le_succ _⟩,((Grows.refl w).alloc _ |>.alloc _ |>.drew),?_,?_,?_,?_⟩
 ·exact cell_dr (cell_al _ (cell_nw w #[.int .i64 x.1,.int .u64 x.2] 277 0 _ rfl))
 ·exact cell_dr (cell_al _ (cell_nw w #[.int .i64 x.1,.int .u64 x.2] 277 1 _ rfl))
 ·rw [← e];exact cell_dr (cell_nw _ _ _ 0 _ rfl)
 ·rw [← e];exact cell_dr (cell_nw _ _ _ 1 _ rfl)
theorem Two.swap {w wx:World} {bx b2:Nat} {x y:Int×Int} (h:Two w bx b2 x y wx):Two w b2 bx y x wx:=⟨h.lt.symm,h.grows,h.y0,h.y1,h.x0,h.x1⟩
set_option maxRecDepth 100000 in
set_option maxHeartbeats 2000000 in
theorem Out_at {p:Nat} {F:List Nat} {n:Int} {S:Items} (id:Int) (w:World) (h:HeapIn w p F n S) (hid:(Lit.int .i64 id).wf=true) :
  Calls Tryz.prog 305 #[.pointer (some ⟨p,0,none⟩),.int .i64 id] w (Did w p F n (.tuple #[.int .u64 (outKey n S id),.int .i64 (outRes n S id)]) (outS n S id)):=by
 have HS:=Lib.hid h
 obtain ⟨a,cap,bm,V,f,hg,rfl,hp,ho⟩:=h
 have A1:=Lib.hid (find_at id w hg.raw hid)
 have hfd:=hg.find hp id
 unfold findV at A1
 unfold outS outKey outRes
 cases hv:hasV n id with
 | false =>
  rw [hv] at A1
  clear hfd hg hp ho
  simp only [Bool.false_eq_true,if_false,show ¬ ((2:Int)=0) by decide]
  go_enter Tryz.func305,Tryz.ntmps305
  go_wp2_with fail
  refine A1.out.mono ?_;rintro e w5 ⟨rfl,rfl⟩
  go_wp2_with fail
  go_ret2
  exact ⟨rfl,After.same HS.out (Below.refl _ _)⟩
 | true =>
  rw [hv] at A1
  cases hf:f id with
  | none =>
   rw [hf] at A1 hfd
   rw [← hfd.1]
   clear hfd hg hp ho
   simp only [if_true,Option.isSome_none,Bool.false_eq_true,if_false,show ¬ ((6:Int)=0) by decide]
   go_enter Tryz.func305,Tryz.ntmps305
   go_wp2_with fail
   refine A1.out.mono ?_;rintro e w5 ⟨rfl,rfl⟩
   go_wp2_with fail
   go_ret2
   exact ⟨rfl,After.same HS.out (Below.refl _ _)⟩
  | some q =>
   rw [hf] at A1 hfd
   rw [← hfd.1]
   obtain ⟨k,rfl,kl,hki,hkk⟩:=hfd.2 q rfl
   obtain ⟨g,rfl⟩:=hg.raw.row (by omega)
   rw [hkk]
   have HG:=Lib.hid hg
   have HP:=Lib.hid hp
   have HO:=Lib.hid ho
   have HKL:=Lib.hid kl
   have HKI:=Lib.hid hki
   have fq:=Lib.hid hf
   have hlen:=hg.raw.nlen hg.apart
   have hsm:=hg.raw.small
   have c0:=hg.raw.c0
   unfold rowV at c0
   simp only [Option.map_some] at c0
   obtain ⟨i0,i1⟩:=hg.raw.item kl
   obtain ⟨j0,j1⟩:=hg.raw.item (k:=V.length - 1) (by omega)
   have fg1:=hg.raw.fg (k*2+1)
   have l1:(k:Int)<(V.length:Int):=by omega
   have l2:k<V.length:=kl
   have l3:(0:Int)≤(k:Int):=by omega
   have e1:(V.length:Int) - 1=((V.length - 1:Nat):Int):=by omega
   obtain ⟨m,hm⟩:∃ m,m=V.length - 1:=⟨_,rfl⟩
   rw [← hm] at e1 j0 j1
   have l4:m<V.length:=by omega
   have l5:m≤V.length:=by omega
   have l6:(m:Int)<(V.length:Int):=by omega
   have l7:(0:Int)≤(m:Int):=by omega
   have l8:(m:Int)≤131072:=by omega
   have HM:=Lib.hid hm
   obtain ⟨x,hx⟩:∃ x,x=V[k]!:=⟨_,rfl⟩
   obtain ⟨y,hy⟩:∃ y,y=V[m]!:=⟨_,rfl⟩
   rw [← hx] at i0 i1
   rw [← hy] at j0 j1
   rw [← hx]
   have HX:=Lib.hid hx
   have HY:=Lib.hid hy
   have hmm:=hg.raw.map
   have l9:(m:Int)≤(cap:Int):=by have:=hg.raw.own.2;rcases this with ⟨q,_⟩ | ⟨g',cap',cur,ev,_,_,h5,_⟩;(cases q);(cases ev;omega)
   have l10:m≤cap:=by omega
   have w1':IntKind.i64.wrap (m:Int)=(m:Int):=IntWalk.i64_in _ (by omega)
   clear hfd hkk hg hp ho hsm hki hx hy hm kl hmm
   simp only [if_true,Option.isSome_some,Option.getD_some]
   go_enter Tryz.func305,Tryz.ntmps305
   go_wp2_with fail
   refine A1.out.mono ?_;rintro e w5 ⟨rfl,rfl⟩
   go_wp2_with fail
   go_upto_region 4 with fail
   go_cut [8,9] (fun s8 s9 wx=>∃ bx b2:Nat,s8=.pointer (some ⟨bx,0,none⟩)∧s9=.pointer (some ⟨b2,0,none⟩)∧Two w bx b2 x y wx)
   case first =>
    have c0_1:=fun o1=>cell_al o1 (c0)
    have c0_2:=fun o1 o2=>cell_al o2 (cell_al o1 (c0))
    have i0_1:=fun o1=>cell_al o1 (i0)
    have i0_2:=fun o1 o2=>cell_al o2 (cell_al o1 (i0))
    have i1_1:=fun o1=>cell_al o1 (i1)
    have i1_2:=fun o1 o2=>cell_al o2 (cell_al o1 (i1))
    have j0_1:=fun o1=>cell_al o1 (j0)
    have j0_2:=fun o1 o2=>cell_al o2 (cell_al o1 (j0))
    have j1_1:=fun o1=>cell_al o1 (j1)
    have j1_2:=fun o1 o2=>cell_al o2 (cell_al o1 (j1))
    have T1:=Lib.hid (Two.one w x y)
    have T2:=Lib.hid (Two.one w y x).swap
    go_region
    all_goals
     go_wp2_with fail
     go_meet
     case rel=>first | exact ⟨_,_,rfl,rfl,T1.out⟩ | exact ⟨_,_,rfl,rfl,T2.out⟩
   case rest =>
    obtain ⟨bx,b2,rfl,rfl,hT⟩:=hcut
    obtain ⟨⟨g1,g2⟩,hgr,x0,x1,y0,y1⟩:=hT
    have r:=HG.out.raw.below hgr.below
    clear c0 i0 i1 j0 j1 fg1
    have c0:=r.c0
    unfold rowV at c0
    simp only [Option.map_some] at c0
    have fp0:=r.fp 0
    have HBel:=Lib.hid hgr.below
    have hneb:(bx≠p∧bx≠bm∧bx≠g)∧b2≠p∧b2≠bm:=by have:=HG.out.raw.plt;have:=HG.out.raw.map.lt;have:=HG.out.raw.glt rfl;omega
    have HNB:=Lib.hid hneb
    have hc:=r.cut l5
    have HC:=Lib.hid (show Raw (wc.setCell ⟨p,0,none⟩ (.slice (some ⟨g,0,none⟩) m cap)).drew p (some g) cap bm n (V.take m) f V.length from hc.of_heap rfl rfl fun _ _=>rfl)
    have hkB:=(Kept.refl [p,bm,g] wc).setCell (p:=⟨p,0,none⟩) (Or.inl (by simp)) (.slice (some ⟨g,0,none⟩) m cap)
    have HKB:=Lib.hid hkB.drew
    replace x0:=cell_dr (cell_set_ne (b':=p) (o':=0) (u:=.slice (some ⟨g,0,none⟩) m cap) x0 (Or.inl hneb.1.1))
    replace x1:=cell_dr (cell_set_ne (b':=p) (o':=0) (u:=.slice (some ⟨g,0,none⟩) m cap) x1 (Or.inl hneb.1.1))
    replace y0:=cell_dr (cell_set_ne (b':=p) (o':=0) (u:=.slice (some ⟨g,0,none⟩) m cap) y0 (Or.inl hneb.2.1))
    replace y1:=cell_dr (cell_set_ne (b':=p) (o':=0) (u:=.slice (some ⟨g,0,none⟩) m cap) y1 (Or.inl hneb.2.1))
    clear r hc hkB hgr hneb g1 g2
    go_wp2_with fail
    go_region
    clear c0 fp0
    generalize (wc.setCell ⟨p,0,none⟩ (.slice (some ⟨g,0,none⟩) m cap)).drew=wC at *
    obtain ⟨wD,hrun,hM,hg⟩:=HC.out.map.del hid 0
    have c1:=HC.out.c1
    have HR:=Lib.hid hrun
    replace x0:=hg.cell x0 (by have:=HNB.out;simp;omega)
    replace x1:=hg.cell x1 (by have:=HNB.out;simp;omega)
    replace y0:=hg.cell y0 (by have:=HNB.out;simp;omega)
    replace y1:=hg.cell y1 (by have:=HNB.out;simp;omega)
    have HD:=Lib.hid (HC.out.mapped hg hM)
    have HKW:=Lib.hid (show Kept [p,bm,g] w wD from (Kept.of HBel.out).trans (HKB.out.grown hg (fun q e=>by cases e;exact Or.inl (by simp))))
    clear hM hg
    by_cases hkm:k=m
    ·have hxy:y=x:=by rw [HX.out,HY.out,hkm]
     have HKM:=Lib.hid hkm
     subst hxy
     clear hkm
     go_wp2_with fail
     go_ret2
     have hd:=HD.out
     have em:k=V.length - 1:=by rw [HKM.out,HM.out]
     rw [fq.out,← HKI.out,← HKM.out,em] at hd
     have hgood:=HG.out.lastOut (by omega) hd
     refine ⟨rfl,After.of_kept HKW.out hgood ?_ (outL_order HO.out id)⟩
     have hpp:=outL_perm HP.out id
     rw [← HKI.out,← erase_outL HKL.out (apart_nodup HG.out.apart),em,List.eraseIdx_eq_take_drop_succ,show V.length - 1+1=V.length by omega,List.drop_length,List.append_nil] at hpp
     rw [← HKI.out,em]
     exact hpp
    ·have hne:x.1≠y.1:=fun e=>hkm (HG.out.apart k m l2 l4 (by rw [← HX.out,← HY.out];exact e))
     have hne2:(x.1 == y.1)=false:=by simpa using hne
     have HKM:=Lib.hid hkm
     have l11:k<m:=by have:=HM.out;omega
     have l12:(k:Int)<(m:Int):=by omega
     clear hkm
     have hT:(V.take m).length=m:=by rw [List.length_take];omega
     have hd:=HD.out
     have c0:=hd.c0
     unfold rowV at c0
     simp only [Option.map_some,hT] at c0
     have i0:=(hd.item (k:=k) (by omega)).1
     have i1:=(hd.item (k:=k) (by omega)).2
     rw [take_at l11] at i0 i1
     have fg0:=hd.fg (k*2)
     have fg1:=hd.fg (k*2+1)
     have hS:=hd.stored (k:=k) (by omega) (x:=y) (by rw [HY.out];exact HG.out.raw.fits _ (at_mem l4))
     have HST:=Lib.hid (show Raw ((wD.setCell ⟨g,k*2,none⟩ (.int .i64 y.1)).setCell ⟨g,k*2+1,none⟩ (.int .u64 y.2)).drew p (some g) cap bm n ((V.take m).set k y) (setF f id none) (delC (f id) V.length) from hS.of_heap rfl rfl fun _ _=>rfl)
     have i1':=cell_set_ne (b':=g) (o':=k*2) (u:=.int .i64 y.1) i1 (Or.inr (by omega))
     have fg1':(wD.setCell ⟨g,k*2,none⟩ (.int .i64 y.1)).frozen? ⟨g,k*2+1,none⟩=false:=by rw [World.frozen?_setCell];exact fg1
     have hK8:=(((Kept.refl [p,bm,g] wD).setCell (p:=⟨g,k*2,none⟩) (Or.inl (by simp)) (.int .i64 y.1)).setCell (p:=⟨g,k*2+1,none⟩) (Or.inl (by simp)) (.int .u64 y.2)).drew
     have HK8:=Lib.hid hK8
     clear hd hS hK8 HR
     go_wp2_with fail
     go_region
     go_wp2_with fail
     have hmid:=HG.out.moved (w2:=((wD.setCell ⟨g,k*2,none⟩ (.int .i64 y.1)).setCell ⟨g,k*2+1,none⟩ (.int .u64 y.2)).drew) l2 (by rw [← HM.out];exact HKM.out) (by
      have q:=HST.out
      have e:delC (some (k:Int)) V.length=m:=HM.out.symm
      rw [fq.out,e] at q
      rw [← HM.out,← HY.out,HKI.out]
      exact q)
     rw [← HM.out,← HY.out,HKI.out] at hmid
     refine (settle_at _ k _ hmid).mono ?_
     rintro e w7 ⟨rfl,V',f',hg',hp',hk'⟩
     have hk1:=HK8.out.trans hk'
     have x1':=hk1.cellAt x1 (by have:=HNB.out;simp;omega)
     have HG7:=Lib.hid hg'
     have HP7:=Lib.hid hp'
     have HK7:=Lib.hid (HKW.out.trans hk1)
     clear hmid hg' hp' hk' hk1 x0 x1 y0 y1 c0 i0 i1 i1' fg0 fg1 fg1' hne hne2
     go_wp2_with fail
     go_ret2
     refine ⟨rfl,After.of_kept HK7.out HG7.out ?_ (outL_order HO.out id)⟩
     have hpp:=outL_perm HP.out id
     have hmv:=last_moved l2 (by rw [← HM.out];exact HKM.out)
     rw [← HM.out,← HY.out,erase_outL HKL.out (apart_nodup HG.out.apart),HKI.out] at hmv
     exact hpp.trans (hmv.symm.trans HP7.out.symm)
theorem first_least {V S:Items} (h:Heaped V) (hp:S.Perm V) (ho:InOrder S) (h0:0<V.length):∃ r,S=V[0]!::r:=by
 cases S with
 | nil=>have:=hp.length_eq;simp at this;omega
 | cons x r =>
  refine ⟨r,?_⟩
  obtain ⟨h1,h2⟩:=List.pairwise_cons.1 ho
  obtain ⟨j,jl,hj⟩:=mem_at ((hp.mem_iff (a:=x)).1 (by simp))
  rcases Nat.eq_zero_or_pos j with e | e
  ·rw [← hj,e]
  ·have q:=heaped_first h j e jl
   rw [hj] at q
   rcases List.mem_cons.1 ((hp.mem_iff (a:=V[0]!)).2 (at_mem h0)) with m | m
   ·rw [m]
   ·exact absurd (ltI_trans q (h1 _ m)) (ltI_irrefl _)
def leastI (S:Items):Int×Int:=S.headD (0,0)
def leastV (S:Items):Value:=.tuple #[.agg #[.int .i64 (leastI S).1,.int .u64 (leastI S).2],.bool (!S.isEmpty)]
set_option maxRecDepth 100000 in
set_option maxHeartbeats 1000000 in
theorem Least_at {p:Nat} {F:List Nat} {n:Int} {S:Items} (w:World) (h:HeapIn w p F n S) :
  Calls Tryz.prog 199 #[.pointer (some ⟨p,0,none⟩)] w fun e w'=>e=.returned (leastV S)∧Grows w w':=by
 obtain ⟨a,cap,bm,V,f,hg,rfl,hp,ho⟩:=h
 have c0:=hg.raw.c0
 by_cases h0:V.length=0
 ·have hS:S=[]:=List.eq_nil_of_length_eq_zero (by rw [hp.length_eq];exact h0)
  have HC:=Lib.hid (show leastV S=.tuple #[.agg #[.int .i64 0,.int .u64 0],.bool false] by rw [hS];rfl)
  unfold rowV at c0
  rw [h0] at c0
  have c0':=cell_al (.cells #[.int .i64 0,.int .u64 0] 277) c0
  clear hg hp ho hS h0
  go_enter Tryz.func199,Tryz.ntmps199
  go_wp2_with fail
  rw [HC.out]
  refine bodyPost_ret (v:=.tuple #[.agg #[.int .i64 0,.int .u64 0],.bool false]) (by simp [results,Tryz.results199,go_sem]) rfl ⟨rfl,?_⟩
  exact grows_a _ _
 ·obtain ⟨g,rfl⟩:=hg.raw.row (by omega)
  obtain ⟨r,hS⟩:=first_least hg.heaped hp ho (by omega)
  obtain ⟨i0,i1⟩:=hg.raw.item (k:=0) (by omega)
  obtain ⟨x,hx⟩:∃ x,x=V[0]!:=⟨_,rfl⟩
  rw [← hx] at i0 i1 hS
  have HC:=Lib.hid (show leastV S=.tuple #[.agg #[.int .i64 x.1,.int .u64 x.2],.bool true] by rw [hS];rfl)
  unfold rowV at c0
  simp only [Option.map_some] at c0
  simp only [Nat.zero_mul,Nat.zero_add] at i0 i1
  have z:((V.length:Int) == 0)=false:=by simp;intro e;rw [e] at h0;exact h0 rfl
  have z1:(0:Int)<(V.length:Int):=by omega
  have z2:0<V.length:=by omega
  have c0':=cell_al (.cells #[.int .i64 0,.int .u64 0] 277) c0
  have i0':=cell_al (.cells #[.int .i64 0,.int .u64 0] 277) i0
  have i1':=cell_al (.cells #[.int .i64 0,.int .u64 0] 277) i1
  clear hg hp ho hS hx h0
  go_enter Tryz.func199,Tryz.ntmps199
  go_wp2_with fail
  rw [HC.out]
  refine bodyPost_ret (v:=.tuple #[.agg #[.int .i64 x.1,.int .u64 x.2],.bool true]) (by simp [results,Tryz.results199,go_sem]) rfl ⟨rfl,?_⟩
  exact grows_a _ _
theorem HeapIn.ids {w:World} {p:Nat} {F:List Nat} {n:Int} {S:Items} (h:HeapIn w p F n S):(S.map Prod.fst).Nodup∧InOrder S∧(∀ x∈S,(0≤x.1∧x.1<n)∧0≤x.2∧x.2≤18446744073709551615)∧1≤n∧n≤131072∧(S.length:Int)≤n:=by
 obtain ⟨a,cap,bm,V,f,hg,rfl,hp,ho⟩:=h
 exact ⟨ids_nodup_perm hp.symm (apart_nodup hg.apart),ho,fun x hx=>hg.raw.fits x (hp.mem_iff.1 hx),hg.raw.pos,hg.raw.small,by rw [hp.length_eq];exact hg.raw.nlen hg.apart⟩
end Go.Proofs.YtapnaocdehahdaaGreat
