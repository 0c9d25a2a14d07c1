/-
  Layer 18 (heap): plain facts on heaps in lists; no program.
-/
import Derived.Test.YtapnaocdehahdaaGreatKtA
namespace Go.Proofs.YtapnaocdehahdaaGreat
set_option linter.unusedVariables false
def ltI (a b:Int×Int):Prop:=a.2<b.2∨a.2=b.2∧a.1<b.1
instance (a b:Int×Int):Decidable (ltI a b):=by unfold ltI;infer_instance
theorem ltI_trans {a b c:Int×Int} (h:ltI a b) (k:ltI b c):ltI a c:=by unfold ltI at *;omega
theorem ltI_irrefl (a:Int×Int):¬ ltI a a:=by unfold ltI;omega
theorem ltI_total' {a b:Int×Int} (h:a≠b) (k:¬ ltI a b):ltI b a:=by
 unfold ltI at *
 by_cases h1:a.2=b.2
 ·by_cases h2:a.1=b.1
  ·exact absurd (Prod.ext h2 h1) h
  ·omega
 ·omega
abbrev Items:=List (Int×Int)
theorem set_at {L:Items} {i j:Nat} {x:Int×Int} (hi:i<L.length):(L.set i x)[j]! = if i=j then x else L[j]!:=by
 rw [List.getElem!_eq_getElem?_getD,List.getElem!_eq_getElem?_getD,List.getElem?_set]
 by_cases h:i=j
 ·subst h;simp [hi]
 ·simp [h]
theorem at_get {L:Items} {i:Nat} (hi:i<L.length):L[i]?=some L[i]!:=by
 rw [List.getElem?_eq_getElem hi,getElem!_pos L i hi]
theorem at_mem {L:Items} {i:Nat} (hi:i<L.length):L[i]!∈L:=List.mem_of_getElem? (at_get hi)
theorem mem_at {L:Items} {x:Int×Int} (h:x∈L):∃ i,i<L.length∧L[i]! = x:=by
 obtain ⟨i,hi,e⟩:=List.getElem_of_mem h
 exact ⟨i,hi,by rw [getElem!_pos L i hi];exact e⟩
def Apart (L:Items):Prop:=∀ i j,i<L.length→j<L.length→L[i]!.1=L[j]!.1→i=j
def par (i:Nat):Nat:=(i - 1) / 2
structure Hole (L:Items) (a:Nat):Prop where
 rest:∀ i,0<i→i<L.length→i≠a→par i≠a→ltI L[par i]! L[i]!
 kids:∀ i,0<a→0<i→i<L.length→par i=a→ltI L[par a]! L[i]!
def Heaped (L:Items):Prop:=∀ i,0<i→i<L.length→ltI L[par i]! L[i]!
def swapL (L:Items) (i j:Nat):Items:=(L.set i L[j]!).set j L[i]!
theorem swap_len (L:Items) (i j:Nat):(swapL L i j).length=L.length:=by simp [swapL]
theorem swap_at {L:Items} {i j k:Nat} (hi:i<L.length) (hj:j<L.length):(swapL L i j)[k]! = if j=k then L[i]! else if i=k then L[j]! else L[k]!:=by
 unfold swapL
 rw [set_at (by simpa using hj),set_at hi]
theorem swap_perm {L:Items} {i j:Nat} (hi:i<L.length) (hj:j<L.length):(swapL L i j).Perm L:=by
 unfold swapL
 rw [getElem!_pos L i hi,getElem!_pos L j hj]
 have:=@List.set_set_perm _ L i j hi hj
 simpa using this
theorem hole_up {L:Items} {a:Nat} (ha:a<L.length) (h0:0<a) (h:Hole L a):Hole (swapL L a (par a)) (par a):=by
 have hp:par a<a:=by unfold par;omega
 have hpl:par a<L.length:=by omega
 refine ⟨fun i i0 il i1 i2=>?_,fun i p0 i0 il hi=>?_⟩
 ·rw [swap_len] at il
  rw [swap_at ha hpl,swap_at ha hpl,if_neg (Ne.symm i2),if_neg (Ne.symm i1)]
  by_cases e:a=i
  ·subst e;exact absurd rfl i2
  ·rw [if_neg e]
   by_cases e2:a=par i
   ·rw [if_pos e2]
    exact h.kids i h0 i0 il e2.symm
   ·rw [if_neg e2]
    exact h.rest i i0 il (Ne.symm e) (Ne.symm e2)
 ·rw [swap_len] at il
  have hpp:par (par a)<par a:=by unfold par at *;omega
  have hii:par i<i:=by unfold par;omega
  have g:=h.rest (par a) p0 hpl (by omega) (by omega)
  rw [swap_at ha hpl,swap_at ha hpl,if_neg (by omega),if_neg (by omega),if_neg (by omega)]
  by_cases e:a=i
  ·rw [if_pos e];exact g
  ·rw [if_neg e]
   have k:=h.rest i i0 il (Ne.symm e) (by omega)
   rw [hi] at k
   exact ltI_trans g k
theorem hole_down {L:Items} {a c:Nat} (hc:c<L.length) (c0:0<c) (hpc:par c=a) (h:Hole L a) (hs:∀ i,0<i→i<L.length→par i=a→i≠c→ltI L[c]! L[i]!):Hole (swapL L a c) c:=by
 have hac:a<c:=by rw [← hpc];unfold par;omega
 have ha:a<L.length:=by omega
 refine ⟨fun i i0 il i1 i2=>?_,fun i _ i0 il hi=>?_⟩
 ·rw [swap_len] at il
  rw [swap_at ha hc,swap_at ha hc,if_neg (Ne.symm i2),if_neg (Ne.symm i1)]
  by_cases e:a=i
  ·subst e
   have hpa:par a<a:=by unfold par;omega
   rw [if_neg (by omega),if_pos rfl]
   exact h.kids c i0 c0 hc hpc
  ·rw [if_neg e]
   by_cases e2:a=par i
   ·rw [if_pos e2]
    exact hs i i0 il e2.symm i1
   ·rw [if_neg e2]
    exact h.rest i i0 il (Ne.symm e) (Ne.symm e2)
 ·rw [swap_len] at il
  have hii:par i<i:=by unfold par;omega
  rw [swap_at ha hc,swap_at ha hc,hpc,if_neg (by omega),if_pos rfl,if_neg (by omega),if_neg (by omega)]
  have k:=h.rest i i0 il (by omega) (by omega)
  rw [hi] at k
  exact k
theorem hole_done {L:Items} {a:Nat} (h:Hole L a) (hp:0<a→a<L.length→ltI L[par a]! L[a]!) (hk:∀ i,0<i→i<L.length→par i=a→ltI L[a]! L[i]!):Heaped L:=by
 intro i i0 il
 by_cases e:i=a
 ·subst e;exact hp i0 il
 ·by_cases e2:par i=a
  ·rw [e2];exact hk i i0 il e2
  ·exact h.rest i i0 il e e2
theorem hole_set {L:Items} {a:Nat} (x:Int×Int) (ha:a<L.length) (h:Heaped L):Hole (L.set a x) a:=by
 refine ⟨fun i i0 il i1 i2=>?_,fun i a0 i0 il hi=>?_⟩
 ·rw [set_at ha,set_at ha,if_neg (Ne.symm i2),if_neg (Ne.symm i1)]
  exact h i i0 (by simpa using il)
 ·have hii:par i<i:=by unfold par;omega
  have hpa:par a<a:=by unfold par;omega
  rw [set_at ha,set_at ha,if_neg (by omega),if_neg (by omega)]
  have g:=h a a0 ha
  have k:=h i i0 (by simpa using il)
  rw [hi] at k
  exact ltI_trans g k
theorem app_at {L M:Items} {i:Nat} (h:i<L.length):(L++M)[i]! = L[i]!:=by
 rw [List.getElem!_eq_getElem?_getD,List.getElem!_eq_getElem?_getD,List.getElem?_append_left h]
theorem app_last {L:Items} {x:Int×Int}:(L++[x])[L.length]! = x:=by
 rw [getElem!_pos (L++[x]) L.length (by simp)];simp
theorem hole_app {L:Items} (x:Int×Int) (h:Heaped L):Hole (L++[x]) L.length:=by
 refine ⟨fun i i0 il i1 i2=>?_,fun i a0 i0 il hi=>?_⟩
 ·simp only [List.length_append,List.length_singleton] at il
  have hii:par i<i:=by unfold par;omega
  rw [app_at (by omega),app_at (by omega)]
  exact h i i0 (by omega)
 ·have hii:par i<i:=by unfold par;omega
  simp only [List.length_append,List.length_singleton] at il
  omega
theorem heaped_take {L:Items} {n:Nat} (h:Heaped L):Heaped (L.take n):=by
 intro i i0 il
 have hii:par i<i:=by unfold par;omega
 simp only [List.length_take] at il
 have e:∀ j,j<n→(L.take n)[j]! = L[j]!:=fun j hj=>by
  rw [List.getElem!_eq_getElem?_getD,List.getElem!_eq_getElem?_getD,List.getElem?_take_of_lt hj]
 rw [e _ (by omega),e _ (by omega)]
 exact h i i0 (by omega)
theorem heaped_first {L:Items} (h:Heaped L):∀ i,0<i→i<L.length→ltI L[0]! L[i]!:=by
 intro i
 induction i using Nat.strongRecOn with
 | ind i ih =>
  intro i0 il
  have hii:par i<i:=by unfold par;omega
  have g:=h i i0 il
  rcases Nat.eq_zero_or_pos (par i) with e | e
  ·rw [e] at g;exact g
  ·exact ltI_trans (ih _ hii e (by omega)) g
theorem apart_nodup {L:Items} (h:Apart L):(L.map Prod.fst).Nodup:=by
 rw [List.nodup_iff_pairwise_ne,List.pairwise_iff_getElem]
 intro i j hi hj hij e
 simp only [List.length_map] at hi hj
 simp only [List.getElem_map] at e
 have:=h i j hi hj (by rw [getElem!_pos L i hi,getElem!_pos L j hj];exact e)
 omega
theorem nodup_apart {L:Items} (h:(L.map Prod.fst).Nodup):Apart L:=by
 rw [List.nodup_iff_pairwise_ne,List.pairwise_iff_getElem] at h
 intro i j hi hj e
 rw [getElem!_pos L i hi,getElem!_pos L j hj] at e
 rcases Nat.lt_trichotomy i j with q | q | q
 ·exact absurd (by rw [List.getElem_map,List.getElem_map];exact e) (h i j (by simpa using hi) (by simpa using hj) q)
 ·exact q
 ·exact absurd (by rw [List.getElem_map,List.getElem_map];exact e.symm) (h j i (by simpa using hj) (by simpa using hi) q)
theorem apart_perm {L M:Items} (p:L.Perm M) (h:Apart L):Apart M:=nodup_apart ((p.map Prod.fst).nodup_iff.1 (apart_nodup h))
theorem swap_apart {L:Items} {i j:Nat} (hi:i<L.length) (hj:j<L.length) (h:Apart L):Apart (swapL L i j):=apart_perm (swap_perm hi hj).symm h
theorem holes_le:∀ (n:Nat) (l:List Int),l.Nodup→(∀ x∈l,0≤x∧x<n)→l.length≤n:=by
 intro n
 induction n with
 | zero=>intro l _ h;cases l with
  | nil=>simp
  | cons a r=>have:=h a (by simp);omega
 | succ n ih =>
  intro l hn h
  have e:=ih (l.erase (n:Int)) (hn.erase _) (fun x hx=>by
   have h1:=h x (List.mem_of_mem_erase hx)
   have h2:=(hn.mem_erase_iff.1 hx).1
   omega)
  have:=List.le_length_erase (l:=l) (a:=(n:Int))
  omega
def InOrder (S:Items):Prop:=S.Pairwise ltI
def putL (S:Items) (x:Int×Int):Items:=match S with
 | []=>[x]
 | y::r=>if ltI y x then y::putL r x else x::y::r
def outL (S:Items) (id:Int):Items:=S.filter fun y=>y.1 != id
def keyL (S:Items) (id:Int):Option Int:=(S.find? fun y=>y.1 == id).map (·.2)
theorem putL_perm (S:Items) (x:Int×Int):(putL S x).Perm (x::S):=by
 induction S with
 | nil=>exact List.Perm.refl _
 | cons y r ih =>
  unfold putL
  split
  ·exact (ih.cons y).trans (List.Perm.swap x y r)
  ·exact List.Perm.refl _
theorem putL_mem {S:Items} {x y:Int×Int}:y∈putL S x↔y=x∨y∈S:=by rw [(putL_perm S x).mem_iff];simp
theorem putL_order {S:Items} {x:Int×Int} (h:InOrder S) (hx:x∉S):InOrder (putL S x):=by
 induction S with
 | nil=>exact List.pairwise_singleton _ _
 | cons y r ih =>
  unfold putL
  obtain ⟨h1,h2⟩:=List.pairwise_cons.1 h
  split
  ·rename_i hl
   refine List.pairwise_cons.2 ⟨fun z hz=>?_,ih h2 (fun q=>hx (by simp [q]))⟩
   rcases putL_mem.1 hz with rfl | q
   ·exact hl
   ·exact h1 z q
  ·rename_i hl
   have hxy:ltI x y:=ltI_total' (fun e=>hx (by simp [e])) hl
   refine List.pairwise_cons.2 ⟨fun z hz=>?_,h⟩
   rcases List.mem_cons.1 hz with rfl | q
   ·exact hxy
   ·exact ltI_trans hxy (h1 z q)
theorem outL_order {S:Items} (h:InOrder S) (id:Int):InOrder (outL S id):=h.filter _
theorem ids_nodup_perm {A B:Items} (p:A.Perm B) (h:(A.map Prod.fst).Nodup):(B.map Prod.fst).Nodup:=(p.map Prod.fst).nodup_iff.1 h
theorem keyL_some {S:Items} {id k:Int} (hn:(S.map Prod.fst).Nodup):keyL S id=some k↔(id,k)∈S:=by
 induction S with
 | nil=>simp [keyL]
 | cons y r ih =>
  simp only [List.map_cons,List.nodup_cons] at hn
  by_cases e:y.1=id
  ·subst e
   have h1:keyL (y::r) y.1=some y.2:=by simp [keyL]
   rw [h1]
   constructor
   ·intro q;cases q;simp
   ·intro q
    rcases List.mem_cons.1 q with q | q
    ·rw [← q]
    ·exact absurd (List.mem_map.2 ⟨_,q,rfl⟩) hn.1
  ·have h1:keyL (y::r) id=keyL r id:=by simp [keyL,e]
   rw [h1,ih hn.2]
   constructor
   ·intro q;simp [q]
   ·intro q
    rcases List.mem_cons.1 q with q | q
    ·exact absurd (by rw [← q]) e
    ·exact q
theorem outL_perm {A B:Items} (p:A.Perm B) (id:Int):(outL A id).Perm (outL B id):=p.filter _
theorem outL_none {S:Items} {id:Int} (h:∀ y∈S,y.1≠id):outL S id=S:=by
 unfold outL
 rw [List.filter_eq_self]
 intro y hy
 simpa using h y hy
theorem outL_erase {V:Items} {k:Nat} (hk:k<V.length) (hn:(V.map Prod.fst).Nodup):V.Perm (V[k]!::outL V V[k]!.1):=by
 have e:V=V.take k++V[k]!::V.drop (k+1):=by
  rw [getElem!_pos V k hk]
  rw [← List.drop_eq_getElem_cons hk,List.take_append_drop]
 obtain ⟨x,hx⟩:∃ x,x=V[k]!:=⟨_,rfl⟩
 rw [← hx] at e ⊢
 have hA:∀ y∈V.take k++V.drop (k+1),y.1≠x.1:=by
  rw [e] at hn
  simp only [List.map_append,List.map_cons,List.nodup_append,List.nodup_cons] at hn
  intro y hy q
  rcases List.mem_append.1 hy with hy | hy
  ·exact hn.2.2 _ (List.mem_map.2 ⟨y,hy,rfl⟩) x.1 (by simp) q
  ·exact hn.2.1.1 (List.mem_map.2 ⟨y,hy,q⟩)
 have ho:outL V x.1=V.take k++V.drop (k+1):=by
  rw [e]
  unfold outL
  rw [List.filter_append,List.filter_cons]
  simp only [bne_self_eq_false,Bool.false_eq_true,if_false]
  have:=outL_none hA
  unfold outL at this
  rw [List.filter_append] at this
  rw [← e]
  exact this
 rw [ho]
 have p:=List.perm_middle (a:=x) (l₁:=V.take k) (l₂:=V.drop (k+1))
 rw [← e] at p
 exact p
theorem last_moved {V:Items} {k:Nat} (hk:k<V.length) (hl:k≠V.length - 1):((V.take (V.length - 1)).set k V[V.length - 1]!).Perm (V.eraseIdx k):=by
 have hn:V.length - 1<V.length:=by omega
 have e:V=V.take (V.length - 1)++[V[V.length - 1]!]:=by
  rw [getElem!_pos V _ hn]
  have:=List.take_append_drop (V.length - 1) V
  rw [List.drop_eq_getElem_cons hn,show V.length - 1+1=V.length by omega,List.drop_length] at this
  exact this.symm
 obtain ⟨x,hx⟩:∃ x,x=V[V.length - 1]!:=⟨_,rfl⟩
 obtain ⟨T,hT⟩:∃ T,T=V.take (V.length - 1):=⟨_,rfl⟩
 rw [← hx,← hT] at e ⊢
 have hkT:k<T.length:=by rw [hT,List.length_take];omega
 rw [e,List.eraseIdx_append_of_lt_length hkT]
 have p1:=List.set_eq_take_append_cons_drop (l:=T) (i:=k) (a:=x)
 rw [if_pos hkT] at p1
 rw [p1,List.eraseIdx_eq_take_drop_succ]
 have:=List.perm_middle (a:=x) (l₁:=T.take k) (l₂:=T.drop (k+1))
 exact this.trans (List.perm_append_singleton x _).symm
theorem erase_outL {V:Items} {k:Nat} (hk:k<V.length) (hn:(V.map Prod.fst).Nodup):V.eraseIdx k=outL V V[k]!.1:=by
 have e:V=V.take k++V[k]!::V.drop (k+1):=by
  rw [getElem!_pos V k hk]
  rw [← List.drop_eq_getElem_cons hk,List.take_append_drop]
 obtain ⟨x,hx⟩:∃ x,x=V[k]!:=⟨_,rfl⟩
 rw [← hx] at e ⊢
 have hA:∀ y∈V.take k++V.drop (k+1),y.1≠x.1:=by
  rw [e] at hn
  simp only [List.map_append,List.map_cons,List.nodup_append,List.nodup_cons] at hn
  intro y hy q
  rcases List.mem_append.1 hy with hy | hy
  ·exact hn.2.2 _ (List.mem_map.2 ⟨y,hy,rfl⟩) x.1 (by simp) q
  ·exact hn.2.1.1 (List.mem_map.2 ⟨y,hy,q⟩)
 have ho:outL V x.1=V.take k++V.drop (k+1):=by
  rw [e]
  unfold outL
  rw [List.filter_append,List.filter_cons]
  simp only [bne_self_eq_false,Bool.false_eq_true,if_false]
  have:=outL_none hA
  unfold outL at this
  rw [List.filter_append] at this
  rw [← e]
  exact this
 rw [ho,List.eraseIdx_eq_take_drop_succ]
theorem erase_perm {L:Items} {k:Nat} (hk:k<L.length):L.Perm (L[k]!::L.eraseIdx k):=by
 have e:L=L.take k++L[k]!::L.drop (k+1):=by
  rw [getElem!_pos L k hk]
  rw [← List.drop_eq_getElem_cons hk,List.take_append_drop]
 rw [List.eraseIdx_eq_take_drop_succ]
 have p:=List.perm_middle (a:=L[k]!) (l₁:=L.take k) (l₂:=L.drop (k+1))
 rw [← e] at p
 exact p
end Go.Proofs.YtapnaocdehahdaaGreat
