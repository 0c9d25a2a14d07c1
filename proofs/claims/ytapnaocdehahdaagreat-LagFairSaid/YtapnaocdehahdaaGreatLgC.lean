/-
  Layer 39 (lag): plain laws on what New takes.
-/
import Derived.Test.YtapnaocdehahdaaGreatLgA
import Derived.Test.YtapnaocdehahdaaGreatLagQ
import Derived.Test.YtapnaocdehahdaaGreatKtA
import Derived.BigRegion
namespace Go.Proofs.YtapnaocdehahdaaGreat
set_option linter.unusedVariables false
def okOne (last:Int) (x:Int×Int):Bool:=decide (last<x.1) && decide (x.1≤65535) && decide (1≤x.2) && decide (x.2≤65536)
def okFrom:Int→List (Int×Int)→Bool
 | _,[]=>true
 | last,x::r=>okOne last x && okFrom x.1 r
def lastOf:Int→List (Int×Int)→Int
 | last,[]=>last
 | _,x::r=>lastOf x.1 r
theorem lastOf_snoc (last:Int) (a:List (Int×Int)) (x:Int×Int):lastOf last (a++[x])=x.1:=by
 induction a generalizing last with
 | nil=>rfl
 | cons y r ih=>exact ih y.1
theorem okFrom_append (last:Int) (a b:List (Int×Int)):okFrom last (a++b)=(okFrom last a && okFrom (lastOf last a) b):=by
 induction a generalizing last with
 | nil=>simp [okFrom,lastOf]
 | cons x r ih=>rw [List.cons_append,okFrom,okFrom,ih,lastOf,Bool.and_assoc]
theorem take_snocL {α:Type} {l:List α} {k:Nat} {x:α} (h:l[k]?=some x):l.take (k+1)=l.take k++[x]:=by
 rw [List.take_add_one,h,Option.toList_some]
theorem okFrom_take {l:List (Int×Int)} {k:Nat} {x:Int×Int} (h:l[k]?=some x):okFrom 0 (l.take (k+1))=(okFrom 0 (l.take k) && okOne (lastOf 0 (l.take k)) x):=by
 rw [take_snocL h,okFrom_append];simp [okFrom]
theorem lastOf_take {l:List (Int×Int)} {k:Nat} {x:Int×Int} (h:l[k]?=some x):lastOf 0 (l.take (k+1))=x.1:=by
 rw [take_snocL h,lastOf_snoc]
theorem okFrom_false {l:List (Int×Int)} {k:Nat} (h:okFrom 0 (l.take k)=false):okFrom 0 l=false:=by
 rw [← List.take_append_drop k l,okFrom_append,h,Bool.false_and]
theorem okFrom_mem {last:Int} {l:List (Int×Int)} (h:okFrom last l=true):∀ x∈l,last<x.1∧x.1≤65535∧1≤x.2∧x.2≤65536:=by
 induction l generalizing last with
 | nil=>intro x hx;cases hx
 | cons y r ih =>
  simp only [okFrom,okOne,Bool.and_eq_true,decide_eq_true_eq] at h
  intro x hx
  rcases List.mem_cons.1 hx with rfl | hx
  ·omega
  ·have:=ih h.2 x hx;omega
theorem okFrom_pair {last:Int} {l:List (Int×Int)} (h:okFrom last l=true):l.Pairwise fun x y=>x.1<y.1:=by
 induction l generalizing last with
 | nil=>exact List.Pairwise.nil
 | cons y r ih =>
  simp only [okFrom,Bool.and_eq_true] at h
  exact List.Pairwise.cons (fun x hx=>(okFrom_mem h.2 x hx).1) (ih h.2)
def ran0 (l:List (Int×Int)):List (Int×Int×Int):=l.map fun x=>(x.1,x.2,0)
theorem ran0_len (l:List (Int×Int)):(ran0 l).length=l.length:=by simp [ran0]
theorem ran0_R (l:List (Int×Int)):sumR (ran0 l)=0:=by
 induction l with
 | nil=>rfl
 | cons x r ih=>simp only [ran0,List.map_cons,sumR] at ih ⊢;rw [ih];rfl
theorem sumW_append (a b:List (Int×Int×Int)):sumW (a++b)=sumW a+sumW b:=by
 induction a with
 | nil=>simp [sumW]
 | cons x r ih=>simp only [List.cons_append,sumW];omega
theorem ran0_take {l:List (Int×Int)} {k:Nat} {x:Int×Int} (h:l[k]?=some x):ran0 (l.take (k+1))=ran0 (l.take k)++[(x.1,x.2,0)]:=by
 rw [take_snocL h];simp [ran0]
theorem okFrom_good {l:List (Int×Int)} (h:okFrom 0 l=true) (h0:l≠[]) (h1:l.length≤1024):GoodL (ran0 l):=by
 refine ⟨?_,?_,by rw [ran0_len];exact h1,by rw [ran0_len];exact List.length_pos_iff.2 h0,by rw [ran0_R];decide⟩
 ·intro x hx
  simp only [ran0,List.mem_map] at hx
  obtain ⟨y,hy,rfl⟩:=hx
  have:=okFrom_mem h y hy
  simp only
  omega
 ·unfold ran0
  rw [List.pairwise_map]
  exact okFrom_pair h
def newCL (l:List (Int×Int)):Int:=if l=[] then 2 else if okFrom 0 l=false then 2 else if 1024<l.length then 5 else 0
theorem sumW_take_le {l:List (Int×Int)} (h:okFrom 0 l=true):0≤sumW (ran0 l)∧sumW (ran0 l)≤65536*l.length:=by
 have e:Each (ran0 l):=fun x hx=>by
  simp only [ran0,List.mem_map] at hx
  obtain ⟨y,hy,rfl⟩:=hx
  have:=okFrom_mem h y hy
  simp only
  omega
 have:=sumW_nn e
 rw [ran0_len] at this
 omega
end Go.Proofs.YtapnaocdehahdaaGreat
namespace Go.Proofs.YtapnaocdehahdaaGreat
open Go.RowKit Go.Maps Go.IntWalk Go.Lib Go.Sort
set_option linter.unusedVariables false
theorem flatR_atL (l:List (Int×Int×Int)) (j:Nat) (h:j<l.length*3):(flatRL l)[j]?=some ((encR l.toArray[j / 3]!)[j % 3]!):=by
 have e:=get_flatK encR 3 l.toArray j (by simpa using h)
 unfold flatRL
 rw [Array.getElem?_toList,Array.getElem?_eq_getElem (by simpa using h),← e,getElem!_pos (flatK encR 3 l.toArray) j (by simpa using h)]
theorem flatR_snoc (l:List (Int×Int×Int)) (x:Int×Int×Int):flatRL (l++[x])=flatRL l++encR x:=by
 apply List.ext_getElem?
 intro j
 have hl:(flatRL l).length=l.length*3:=flatR_lenL l
 by_cases h1:j<l.length*3
 ·rw [List.getElem?_append_left (by omega),flatR_atL _ _ h1,flatR_atL _ _ (by simp;omega)]
  have:j / 3<l.length:=by omega
  congr 3
  rw [getElem!_pos (l++[x]).toArray (j / 3) (by simp;omega),getElem!_pos l.toArray (j / 3) (by simpa using this)]
  simp [List.getElem_append_left this]
 ·rw [List.getElem?_append_right (by omega),hl]
  by_cases h2:j<l.length*3+3
  ·rw [flatR_atL _ _ (by simp;omega)]
   have hd:j / 3=l.length:=by omega
   rw [hd,getElem!_pos (l++[x]).toArray l.length (by simp)]
   have hm:j % 3=j - l.length*3:=by omega
   rw [hm]
   have hx:(l++[x]).toArray[l.length]'(by simp)=x:=by simp
   rw [hx]
   generalize hr:j - l.length*3=r
   have h3:r=0∨r=1∨r=2:=by omega
   rcases h3 with rfl | rfl | rfl <;> rfl
  ·rw [List.getElem?_eq_none (by rw [flatR_lenL];simp;omega),List.getElem?_eq_none (by simp [encR];omega)]
theorem enc_cells (W:World) (x y z:Value) (t:TypeId) (B:Nat) (hB:W.heap.size=B):∀ j u,[x,y,z][j]?=some u→((W.alloc (.cells #[x,y,z] t)).drew).cell? ((⟨B,0,none⟩:Addr).add j)=some u:=by
 subst hB
 intro j u hj
 have e:((⟨W.heap.size,0,none⟩:Addr).add j)=⟨W.heap.size,j,none⟩:=by unfold Addr.add;by_cases h:j=0 <;> simp [h]
 rw [e]
 refine cell_dr (cell_nw W _ t j u ?_)
 simpa using hj
theorem three_one {a b c:Int}:∀ u∈[Value.int .i64 a,.int .i64 b,.int .i64 c],u.oneCell'=true:=by
 intro u hu;simp at hu;rcases hu with rfl | rfl | rfl <;> rfl
theorem okFrom_last {last:Int} {l:List (Int×Int)} (h:okFrom last l=true):∀ x∈l,x.1≤lastOf last l:=by
 induction l generalizing last with
 | nil=>intro x hx;cases hx
 | cons y r ih =>
  simp only [okFrom,Bool.and_eq_true] at h
  intro x hx
  rcases List.mem_cons.1 hx with rfl | hx
  ·show x.1≤lastOf x.1 r
   cases r with
   | nil=>exact Int.le_refl _
   | cons z r=>have h1:=(okFrom_mem h.2 z (by simp)).1;have h2:=ih h.2 z (by simp);omega
  ·exact ih h.2 x hx
theorem lastOf_nn {last:Int} {l:List (Int×Int)} (h:okFrom last l=true) (h0:0≤last):0≤lastOf last l:=by
 induction l generalizing last with
 | nil=>exact h0
 | cons y r ih =>
  have h1:=(okFrom_mem h y (by simp)).1
  simp only [okFrom,Bool.and_eq_true] at h
  exact ih h.2 (by omega)
def PairsAt (w:World) (b off:Nat) (l:List (Int×Int)):Prop:=∀ (k:Nat) (x:Int×Int),l[k]?=some x→w.cell? ⟨b,off+k*2,none⟩=some (.int .i64 x.1)∧w.cell? ⟨b,off+k*2+1,none⟩=some (.int .i64 x.2)
theorem PairsAt.later {w w':World} {b off:Nat} {l:List (Int×Int)} (h:PairsAt w b off l) (hb:Below w.heap.size w w'):PairsAt w' b off l:=fun k x hx=>by
 obtain ⟨a,c⟩:=h k x hx
 exact ⟨cell_later hb a,cell_later hb c⟩
theorem newC_bad {l:List (Int×Int)} {k:Nat} (h:okFrom 0 (l.take k)=false):newCL l=2:=by
 unfold newCL;split
 ·rfl
 ·rw [if_pos (okFrom_false h)]
def NewP (l:List (Int×Int)) (w:World) (e:Ending) (w':World):Prop:=
 Below w.heap.size w w'∧((newCL l≠0∧e=.returned (.tuple #[.pointer none,.int .i64 (newCL l)])) ∨
  (newCL l=0∧∃ p g bm cap,e=.returned (.tuple #[.pointer (some ⟨p,0,none⟩),.int .i64 0])∧MeterAt w' p g bm cap (ran0 l) l.length∧w.heap.size≤p∧w.heap.size≤g∧w.heap.size≤bm))
theorem newP_err {l:List (Int×Int)} {w w':World} {c:Int} (h:newCL l=c) (h0:c≠0) (hb:Below w.heap.size w w'):NewP l w (.returned (.tuple #[.pointer none,.int .i64 c])) w':=
 ⟨hb,Or.inl ⟨by rw [h];exact h0,by rw [h]⟩⟩
set_option maxRecDepth 100000 in
set_option maxHeartbeats 400000 in
theorem New_nil (a:Option Addr) (cap:Nat) (w:World):Calls Tryz.prog 96 #[.slice a 0 cap] w (NewP [] w):=by
 go_enter Tryz.func96,Tryz.ntmps96
 go_wp2_with fail
 go_ret2
 exact newP_err rfl (by decide) (Below.refl _ _)
structure NewI (l:List (Int×Int)) (w:World) (k:Nat) (wr:World):Prop where
 ok:okFrom 0 (l.take k)=true
 runs:∃ v,wr.cell? ⟨w.heap.size+1,0,none⟩=some v∧wr.ownsRow (w.heap.size+2) 174 3 v k (flatRL (ran0 (l.take k)))
 c1:wr.cell? ⟨w.heap.size+1,1,none⟩=some (.map (some w.heap.size))
 c2:wr.cell? ⟨w.heap.size+1,2,none⟩=some (.int .i64 0)
 c3:wr.cell? ⟨w.heap.size+1,3,none⟩=some (.int .i64 (sumW (ran0 (l.take k))))
 fp:∀ j,wr.frozen? ⟨w.heap.size+1,j,none⟩=false
 map:∃ D:DataW Unit,wr.ownsMap Tryz.prog 3 (plainElem Tryz.prog 3) w.heap.size k D∧PlacesOf D (ran0 (l.take k))
 bel:Below w.heap.size w wr
theorem NewI.drew {l:List (Int×Int)} {w wr:World} {k:Nat} (h:NewI l w k wr):NewI l w k wr.drew:=⟨h.ok,h.runs,h.c1,h.c2,h.c3,h.fp,h.map,h.bel.drew⟩
theorem own_blockL {w:World} {base e size:Nat} {v:Value} {n:Nat} {xs:List Value} (h:w.ownsRow base e size v n xs) {p:Nat} (hp:p<base∨w.heap.size≤p):some p≠v.ownBlock:=by
 intro hv
 have:=h.lt p hv.symm
 omega
theorem own_someL {w:World} {base e size:Nat} {v:Value} {n:Nat} {xs:List Value} (h:w.ownsRow base e size v (n+1) xs):∃ g cap,v=.slice (some ⟨g,0,none⟩) (n+1) cap:=by
 rcases h.2 with ⟨_,h⟩ | ⟨g',cap',_,rfl,_⟩
 ·omega
 ·exact ⟨g',cap',rfl⟩
structure NewA (l:List (Int×Int)) (w:World) (k B:Nat) (a q:Int) (v:Value) (w1:World):Prop where
 c0:w1.cell? ⟨w.heap.size+1,0,none⟩=some v
 c1:w1.cell? ⟨w.heap.size+1,1,none⟩=some (.map (some w.heap.size))
 c2:w1.cell? ⟨w.heap.size+1,2,none⟩=some (.int .i64 0)
 c3:w1.cell? ⟨w.heap.size+1,3,none⟩=some (.int .i64 (sumW (ran0 (l.take k))))
 fp:∀ j,w1.frozen? ⟨w.heap.size+1,j,none⟩=false
 map:∃ D:DataW Unit,w1.ownsMap Tryz.prog 3 (plainElem Tryz.prog 3) w.heap.size k D∧PlacesOf D (ran0 (l.take k))
 z0:w1.cell? ⟨B,0,none⟩=some (.int .i64 a)
 z1:w1.cell? ⟨B,1,none⟩=some (.int .i64 q)
 bel:Below w.heap.size w w1
 lt:w.heap.size+1<B∧B<w1.heap.size
theorem NewI.app {l:List (Int×Int)} {w wr W w1:World} {k:Nat} {a q:Int} {v:Value} (hI:NewI l w k wr) (hW:Below wr.heap.size wr W) (c0:wr.cell? ⟨w.heap.size+1,0,none⟩=some v) (hO:wr.ownsRow (w.heap.size+2) 174 3 v k (flatRL (ran0 (l.take k))))
  (z0:W.cell? ⟨wr.heap.size,0,none⟩=some (.int .i64 a)) (z1:W.cell? ⟨wr.heap.size,1,none⟩=some (.int .i64 q)) (hg:W.grownBy w1 v.ownBlock):NewA l w k wr.heap.size a q v w1:=by
 have hp:=lt_of_cell c0
 have np:some (w.heap.size+1)≠v.ownBlock:=own_blockL hO (Or.inl (by omega))
 have nm:some w.heap.size≠v.ownBlock:=own_blockL hO (Or.inl (by omega))
 have nb:some wr.heap.size≠v.ownBlock:=own_blockL hO (Or.inr (Nat.le_refl _))
 have c:∀ (o:Nat) (u:Value),wr.cell? ⟨w.heap.size+1,o,none⟩=some u→w1.cell? ⟨w.heap.size+1,o,none⟩=some u:=fun o u h=>hg.cell (cell_later hW h) np
 refine ⟨c _ _ c0,c _ _ hI.c1,c _ _ hI.c2,c _ _ hI.c3,fun j=>?_,?_,hg.cell z0 nb,hg.cell z1 nb,(Below.step hI.bel hW).grown hg (Nat.le_trans hI.bel.size hW.size) (fun i hi=>?_),by omega,?_⟩
 ·have h1:=hI.fp j
  have h2:=hW.frozen (p:=⟨w.heap.size+1,j,none⟩) hp
  have h3:=World.frozen?_of_block (w:=W) (w':=w1) (a:=⟨w.heap.size+1,j,none⟩) (hg.block _ (Nat.lt_of_lt_of_le hp hW.size) np)
  rw [h3,h2,h1]
 ·obtain ⟨D,hD,hP⟩:=hI.map
  obtain ⟨es,clock,hb,rest⟩:=hD
  refine ⟨D,⟨es,clock,?_,rest⟩,hP⟩
  rw [hg.block _ (Nat.lt_of_lt_of_le (by omega) hW.size) nm,hW.block _ (by omega)]
  exact hb
 ·have:=(hO.lt i hi).1;omega
 ·exact Nat.lt_of_lt_of_le (lt_of_cell z0) hg.size
theorem NewA.store {l:List (Int×Int)} {w w1:World} {k B:Nat} {a q:Int} {v v':Value} {xs:List Value} (hA:NewA l w k B a q v w1) (hO:w1.ownsRow (w.heap.size+2) 174 3 v' (k+1) xs) :
  NewA l w k B a q v' (w1.setCell ⟨w.heap.size+1,0,none⟩ v')∧(w1.setCell ⟨w.heap.size+1,0,none⟩ v').ownsRow (w.heap.size+2) 174 3 v' (k+1) xs:=by
 obtain ⟨hb,hlt⟩:=hA.lt
 refine ⟨⟨cell_set_eq hA.c0,cell_set_ne hA.c1 (Or.inr (by omega)),cell_set_ne hA.c2 (Or.inr (by omega)),cell_set_ne hA.c3 (Or.inr (by omega)),fun j=>by rw [World.frozen?_setCell];exact hA.fp j,?_,cell_set_ne hA.z0 (Or.inl (by omega)),cell_set_ne hA.z1 (Or.inl (by omega)),hA.bel.setCell (by simp) _,hb,by simpa [World.setCell] using hlt⟩,?_⟩
 ·obtain ⟨D,hD,hP⟩:=hA.map
  exact ⟨D,hD.kept (gset _ _ _ _) (by simp),hP⟩
 ·exact hO.kept (gset _ _ _ _) (Or.inr (Ne.symm (own_blockL hO (Or.inl (by omega)))))
structure NewU (l:List (Int×Int)) (w:World) (k B:Nat) (q:Int) (v:Value) (w1:World):Prop where
 c0:w1.cell? ⟨w.heap.size+1,0,none⟩=some v
 c1:w1.cell? ⟨w.heap.size+1,1,none⟩=some (.map (some w.heap.size))
 c2:w1.cell? ⟨w.heap.size+1,2,none⟩=some (.int .i64 0)
 c3:w1.cell? ⟨w.heap.size+1,3,none⟩=some (.int .i64 (sumW (ran0 (l.take k))))
 fp:∀ j,w1.frozen? ⟨w.heap.size+1,j,none⟩=false
 z1:w1.cell? ⟨B,1,none⟩=some (.int .i64 q)
 bel:Below w.heap.size w w1
theorem NewA.upd {l:List (Int×Int)} {w w2 w3:World} {k B:Nat} {a q:Int} {v:Value} {xs:List Value} (hA:NewA l w k B a q v w2) (hO:w2.ownsRow (w.heap.size+2) 174 3 v (k+1) xs) (hg:w2.grownBy w3 (some w.heap.size)) :
  NewU l w k B q v w3∧w3.ownsRow (w.heap.size+2) 174 3 v (k+1) xs:=by
 obtain ⟨hb,hlt⟩:=hA.lt
 have np:some (w.heap.size+1)≠some w.heap.size:=by simp
 refine ⟨⟨hg.cell hA.c0 np,hg.cell hA.c1 np,hg.cell hA.c2 np,hg.cell hA.c3 np,fun j=>?_,hg.cell hA.z1 (by simp;omega),hA.bel.grown hg hA.bel.size (fun i hi=>by cases hi;exact Nat.le_refl _)⟩,?_⟩
 ·exact (World.frozen?_of_block (w:=w2) (w':=w3) (a:=⟨w.heap.size+1,j,none⟩) (hg.block _ (by show w.heap.size+1<_;omega) np)).trans (hA.fp j)
 ·exact hO.kept hg (Or.inr (Ne.symm (own_blockL hO (Or.inl (by omega)))))
theorem NewU.done {l:List (Int×Int)} {w w3:World} {k B:Nat} {a q:Int} {v:Value} (hU:NewU l w k B q v w3) (hy:l[k]?=some (a,q)) (hok:okFrom 0 (l.take (k+1))=true)
  (hO:w3.ownsRow (w.heap.size+2) 174 3 v (k+1) (flatRL (ran0 (l.take k))++[.int .i64 a,.int .i64 q,.int .i64 0]))
  (D:DataW Unit) (hM:w3.ownsMap Tryz.prog 3 (plainElem Tryz.prog 3) w.heap.size (k+1) D) (hP:PlacesOf D (ran0 (l.take (k+1)))) :
  NewI l w (k+1) (w3.setCell ⟨w.heap.size+1,3,none⟩ (.int .i64 (sumW (ran0 (l.take k))+q))):=by
 have hr:=ran0_take hy
 refine ⟨hok,⟨v,cell_set_ne hU.c0 (Or.inr (by omega)),?_⟩,cell_set_ne hU.c1 (Or.inr (by omega)),cell_set_ne hU.c2 (Or.inr (by omega)),?_,fun j=>by rw [World.frozen?_setCell];exact hU.fp j,⟨D,hM.kept (gset _ _ _ _) (by simp),hP⟩,hU.bel.setCell (by simp) _⟩
 ·rw [hr,flatR_snoc]
  exact hO.kept (gset _ _ _ _) (Or.inr (Ne.symm (own_blockL hO (Or.inl (by omega)))))
 ·rw [hr,sumW_append,cell_set_eq hU.c3]
  simp [sumW]
theorem places_put {l:List (Int×Int×Int)} {D:DataW Unit} (hD:PlacesOf D l) (hm:IsMap D) (x:Int×Int×Int) (k:Nat) (hk:k=l.length) (hne:∀ y∈l,y.1≠x.1) :
  PlacesOf (D.put (.int .i64 x.1) (.lit (.int .i64 k))) (l++[x]):=by
 subst hk
 refine ⟨fun j y hy=>?_,fun id hid=>?_⟩
 ·by_cases hj:j<l.length
  ·rw [List.getElem?_append_left hj] at hy
   have:=hD.1 j y hy
   have hn:(Lit.int .i64 y.1)≠.int .i64 x.1:=fun e=>hne y (List.mem_of_getElem? hy) (Lit.int.inj e).2
   rw [has_put_other hn,atKey_put_other hn];exact this
  ·rw [List.getElem?_append_right (by omega)] at hy
   have hz:j - l.length=0:=by
    rcases Nat.eq_zero_or_pos (j - l.length) with h | h
    ·exact h
    ·rw [List.getElem?_eq_none (by simp;omega)] at hy;cases hy
   rw [hz] at hy
   simp only [List.getElem?_cons_zero,Option.some.injEq] at hy
   subst hy
   rw [has_put_same hm (by trivial),atKey_put_same hm (by trivial)]
   exact ⟨rfl,by rw [show j=l.length by omega]⟩
 ·have hn:(Lit.int .i64 id)≠.int .i64 x.1:=fun e=>hid x (by simp) (Lit.int.inj e).2.symm
  rw [has_put_other hn]
  exact hD.2 id fun y hy=>hid y (by simp [hy])
set_option maxRecDepth 100000 in
set_option maxHeartbeats 2000000 in
theorem New_some (b off cap n:Nat) (l:List (Int×Int)) (w:World) (h:PairsAt w b off l) (hn:l.length=n) (h0:0<n) (h1:n≤2000) :
  Calls Tryz.prog 96 #[.slice (some ⟨b,off,none⟩) n cap] w (NewP l w):=by
 obtain ⟨i0,hi,hz0,hz1,hz2⟩:=info_parts infoRun
 have hmm:=@run_makeMap Tryz.prog
 have hz:((n:Int) == 0)=false:=by simp;omega
 have H:=Lib.hid h
 have HN:=Lib.hid hn
 clear h hn
 go_enter Tryz.func96,Tryz.ntmps96
 go_wp2_with fail
 have hI0:NewI l w 0 ((w.alloc (.map #[] 0)).alloc (.cells #[.slice none 0 0,.map (some w.heap.size),.int .i64 0,.int .i64 0] 172)):=by
  have e:(w.alloc (.map #[] 0)).heap.size=w.heap.size+1:=by simp
  refine ⟨rfl,⟨.slice none 0 0,?_,by rw [show flatRL (ran0 (l.take 0))=[] from List.eq_nil_of_length_eq_zero (by rw [flatR_lenL];rfl)];exact World.ownsRow_nil _ _ _ _⟩,?_,?_,?_,fun j=>?_,⟨.map [],?_,?_⟩,Below.allocS (Below.allocS (Below.refl _ _) _) _⟩
  ·rw [← e];exact cell_nw _ _ _ 0 _ rfl
  ·rw [← e];exact cell_nw _ _ _ 1 _ rfl
  ·rw [← e];exact cell_nw _ _ _ 2 _ rfl
  ·rw [← e];exact cell_nw _ _ _ 3 _ rfl
  ·rw [← e,World.frozen?_alloc_new]
  ·exact (World.ownsMap_made w _ _ _).alloc _
  ·exact ⟨fun k x hx=>by simp [ran0] at hx,fun id _=>rfl⟩
 generalize (w.alloc (.map #[] 0)).alloc (.cells #[.slice none 0 0,.map (some w.heap.size),.int .i64 0,.int .i64 0] 172)=wo at *
 go_loopw [5,16] (fun a i wr=>∃ k:Nat,k≤n∧i=.int .i64 k∧a=.int .i64 (lastOf 0 (l.take k))∧NewI l w k wr) (fun _ i _=>n - (RowKit.intOf i).toNat)
 case atStart=>exact ⟨0,Nat.zero_le _,rfl,rfl,hI0⟩
 case round =>
  obtain ⟨k,hk,rfl,rfl,hI⟩:=hrel
  clear hI0
  by_cases hlt:k<n
  ·obtain ⟨⟨a,q⟩,hy⟩:∃ x,l[k]?=some x:=⟨_,List.getElem?_eq_getElem (by rw [HN.out];exact hlt)⟩
   obtain ⟨q0,q1⟩:=H.out k _ hy
   simp only at q0 q1
   replace q0:=cell_later hI.bel q0
   replace q1:=cell_later hI.bel q1
   have hk0:(0:Int)≤(k:Int):=by omega
   have hkn:(k:Int)<(n:Int):=by omega
   have HI:=Lib.hid hI
   have HOK:=Lib.hid (okFrom_take hy)
   have HY:=Lib.hid hy
   clear hI hy
   generalize hla:lastOf 0 (l.take k)=la at *
   have HLA:=Lib.hid hla
   clear hla
   by_cases a1:a≤la
   ·have HB:=Lib.hid (newC_bad (l:=l) (k:=k+1) (by rw [HOK.out];simp [okOne];omega))
    clear HOK
    go_wp2_with fail
    go_ret2
    exact newP_err HB.out (by decide) (Below.allocS HI.out.bel _)
   by_cases a2:65535<a
   ·have HB:=Lib.hid (newC_bad (l:=l) (k:=k+1) (by rw [HOK.out];simp [okOne];omega))
    clear HOK
    go_wp2_with fail
    go_ret2
    exact newP_err HB.out (by decide) (Below.allocS HI.out.bel _)
   by_cases a3:q<1
   ·have HB:=Lib.hid (newC_bad (l:=l) (k:=k+1) (by rw [HOK.out];simp [okOne];omega))
    clear HOK
    go_wp2_with fail
    go_ret2
    exact newP_err HB.out (by decide) (Below.allocS HI.out.bel _)
   by_cases a4:65536<q
   ·have HB:=Lib.hid (newC_bad (l:=l) (k:=k+1) (by rw [HOK.out];simp [okOne];omega))
    clear HOK
    go_wp2_with fail
    go_ret2
    exact newP_err HB.out (by decide) (Below.allocS HI.out.bel _)
   obtain ⟨v,c0,hO⟩:=HI.out.runs
   have c0':=cell_al (.cells #[.int .i64 a,.int .i64 q] 90) c0
   have z0:=cell_nw wr #[.int .i64 a,.int .i64 q] 90 0 _ rfl
   have z1:=cell_nw wr #[.int .i64 a,.int .i64 q] 90 1 _ rfl
   have HO:=Lib.hid hO
   have hbase:=HI.out.bel.size
   have hplt:=lt_of_cell c0
   clear hO
   go_wp2_with fail
   have L1:=Lib.hid (show (((wr.alloc (.cells #[.int .i64 a,.int .i64 q] 90)).alloc (.cells #[.int .i64 a,.int .i64 q,.int .i64 0] 174)).drew).ownsRow (w.heap.size+2) 174 3 v k (flatRL (ran0 (l.take k))) from (HO.out.alloc _).alloc _)
   have L2:=Lib.hid (enc_cells (wr.alloc (.cells #[.int .i64 a,.int .i64 q] 90)) (.int .i64 a) (.int .i64 q) (.int .i64 0) 174 (wr.heap.size+1) (by simp))
   have L3:w.heap.size+2≤(((wr.alloc (.cells #[.int .i64 a,.int .i64 q] 90)).alloc (.cells #[.int .i64 a,.int .i64 q,.int .i64 0] 174)).drew).heap.size:=by simp;omega
   have L4:=Lib.hid (show Below wr.heap.size wr (((wr.alloc (.cells #[.int .i64 a,.int .i64 q] 90)).alloc (.cells #[.int .i64 a,.int .i64 q,.int .i64 0] 174)).drew) from Below.drew (Below.allocS (Below.allocS (Below.refl _ _) _) _))
   have c0'':=cell_al (.cells #[.int .i64 a,.int .i64 q,.int .i64 0] 174) c0'
   have L5:(k+1)≤maxLen:=by unfold maxLen;omega
   have L6:(k+1)*24≤140737488355328:=by omega
   have L7:=Lib.hid (cell_dr (cell_al (.cells #[.int .i64 a,.int .i64 q,.int .i64 0] 174) z0))
   have L8:=Lib.hid (cell_dr (cell_al (.cells #[.int .i64 a,.int .i64 q,.int .i64 0] 174) z1))
   go_region_law (first | (refine step_append_own rfl (.tmp 46) (.tmp 49) 169 rfl (w.heap.size+2) 174 i0 (.agg #[.int .i64 0,.int .i64 0,.int .i64 0]) 3 24 Tryz.underlying169 hi hz0 hz1 hz2 rfl (by decide) v k (flatRL (ran0 (l.take k))) rfl L1.out ⟨wr.heap.size+1,0,none⟩ 1 1 [.int .i64 a,.int .i64 q,.int .i64 0] rfl rfl L2.out three_one L5 L6 L3 ?_;intro v' w1 hown1 hgrow1;obtain ⟨g',cap',rfl⟩:=own_someL hown1;have hA:=Lib.hid (HI.out.app L4.out c0 HO.out L7.out L8.out hgrow1);have k0:=hA.out.c0;have kf:=hA.out.fp 0))
   all_goals
    have hlen:k=(ran0 (l.take k)).length:=by rw [ran0_len,List.length_take,HN.out];omega
    have hle:=sumW_take_le HI.out.ok
    have hlk:(l.take k).length≤k:=List.length_take_le _ _
    have hne:∀ y∈ran0 (l.take k),y.1≠a:=fun y hy=>by
     simp only [ran0,List.mem_map] at hy
     obtain ⟨z,hz,rfl⟩:=hy
     have:=okFrom_last HI.out.ok z hz
     have:=HLA.out
     simp only
     omega
    have HOK2:=Lib.hid (show okFrom 0 (l.take (k+1))=true by rw [HOK.out,HI.out.ok];simp [okOne];omega)
    obtain ⟨hA2,hO2⟩:=hA.out.store hown1
    clear hA k0 kf hown1 hgrow1 L1 L2 L3 L4 L5 L6 L7 L8 c0 c0' c0'' z0 z1 q0 q1 HO hplt
    generalize w1.setCell ⟨w.heap.size+1,0,none⟩ (.slice (some ⟨g',0,none⟩) (k+1) cap')=w2 at *
    have hla0:0≤la:=by rw [← HLA.out];exact lastOf_nn HI.out.ok (by decide)
    obtain ⟨D,hD,hP⟩:=hA2.map
    obtain ⟨w3,hrun,hM,hg⟩:=World.ownsMap.update (t:=170) (key:=.int .i64 a) (val:=.int .i64 k) hD.drew lawIL Tryz.underlying170 (by unfold maxLen;omega) (keyOf_int_mk Tryz.underlying3 (WalkArith.wf_i64 (by omega))) (plainElem_int Tryz.underlying3 (WalkArith.wf_i64 (by omega)))
    obtain ⟨hU,hO3⟩:=hA2.upd hO2 ⟨hg.os,hg.tape,hg.output,hg.size,hg.block⟩
    have hIM:IsMap D:=by obtain ⟨_,_,_,_,_,rfl⟩:=hD;exact ⟨_,rfl⟩
    have HP:=Lib.hid (places_put hP hIM (a,q,0) k hlen hne)
    have d1:=hA2.c1
    have d2:=hA2.z0
    have HA2:=Lib.hid hA2
    clear hD hP hA2 hg hne hlen hIM
    go_wp2_with fail
    go_region
    clear d1 d2 hrun
    have d3:=hU.c3
    have d4:=hU.z1
    have d5:=hU.fp 3
    have hs:wrap64 (sumW (ran0 (l.take k))+q)=sumW (ran0 (l.take k))+q:=wrap64_in _ (by omega)
    have HU:=Lib.hid hU
    have HO3:=Lib.hid hO3
    have HM:=Lib.hid hM
    clear hU hO3 hM
    go_wp2_with fail
    go_region
    clear d3 d4 d5
    go_wp2_with fail
    go_roundw
    case rel=>exact ⟨k+1,by omega,by go_num,by rw [lastOf_take HY.out],(HU.out.done HY.out HOK2.out HO3.out _ HM.out (by rw [ran0_take HY.out];exact HP.out)).drew⟩
    case measure=>simp [RowKit.intOf];omega
  ·obtain rfl:k=n:=by omega
   have htk:l.take k=l:=by rw [← HN.out];exact List.take_length
   have hne:l≠[]:=fun e=>by rw [e] at HN;have:=HN.out;simp at this;omega
   have hI2:=hI
   obtain ⟨hok,⟨v,c0,hO⟩,c1,c2,c3,fp,⟨D,hD,hP⟩,hbel⟩:=hI2
   rw [htk] at hok hO c3 hP
   by_cases hm:1024<k
   ·have HC:=Lib.hid (show newCL l=5 by rw [newCL,if_neg hne,if_neg (by rw [hok];decide),if_pos (by rw [HN.out];exact hm)])
    clear hI hok c0 hO c1 c2 c3 fp hD hP hne htk
    go_wp2_with fail
    go_ret2
    exact newP_err HC.out (by decide) hbel
   ·have HC:=Lib.hid (show newCL l=0 by rw [newCL,if_neg hne,if_neg (by rw [hok];decide),if_neg (by rw [HN.out];exact hm)])
    have hk1:k=(k - 1)+1:=by omega
    obtain ⟨g,cap',rfl⟩:∃ g cap,v=.slice (some ⟨g,0,none⟩) k cap:=by rw [hk1] at hO ⊢;exact own_someL hO
    have hg:=hO.lt g rfl
    have hcap:k≤cap':=by
     rcases hO.2 with ⟨h,_⟩ | ⟨_,_,_,h,_,_,hc,_⟩
     ·cases h
     ·simp only [Value.slice.injEq] at h;obtain ⟨_,_,rfl⟩:=h;exact hc
    have hM:MeterAt wr (w.heap.size+1) g w.heap.size cap' (ran0 l) l.length:=by
     refine ⟨okFrom_good hok hne (by rw [HN.out];omega),ran0_len l,by rw [HN.out];exact hcap,by rw [HN.out];exact c0,c1,by rw [ran0_R];exact c2,c3,fp,fun j=>hO.frozenAt j,fun j x hx=>?_,⟨_,_,hD,hP⟩,by omega,by omega,by omega⟩
     have hj:j<k:=by have:=(List.getElem?_eq_some_iff.1 hx).1;rw [ran0_len,HN.out] at this;exact this
     have key:∀ r,r<3→wr.cell? ⟨g,j*3+r,none⟩=some ((encR x)[r]!):=by
      intro r hr
      rw [hO.cellAt (j*3+r) (by omega),flatR_atL _ _ (by rw [ran0_len,HN.out];omega),show (j*3+r) / 3=j by omega,show (j*3+r) % 3=r by omega]
      have hj2:j<(ran0 l).length:=(List.getElem?_eq_some_iff.1 hx).1
      rw [getElem!_pos (ran0 l).toArray j (by simpa using hj2)]
      have:(ran0 l).toArray[j]'(by simpa using hj2)=x:=by simpa using (List.getElem?_eq_some_iff.1 hx).2
      rw [this]
     exact ⟨key 0 (by omega),key 1 (by omega),key 2 (by omega)⟩
    have HM:=Lib.hid hM
    clear hI hok c0 hO c1 c2 c3 fp hD hP hne htk hM hk1
    go_wp2_with fail
    go_ret2
    exact ⟨hbel,Or.inr ⟨HC.out,_,g,_,cap',rfl,HM.out,by omega,by omega,Nat.le_refl _⟩⟩
def IdsOrder (f:Int→Int) (ids out:List Int):Prop:=out.Perm ids∧out.Pairwise fun i j=>f j<f i∨f i=f j∧i<j
theorem ids_unique {f:Int→Int} {ids out out':List Int} (h:IdsOrder f ids out) (h':IdsOrder f ids out'):out=out':=
 List.Perm.eq_of_pairwise (le:=fun i j=>f j<f i∨f i=f j∧i<j) (fun a b _ _ h1 h2=>by omega) h.2 h'.2 (h.1.trans h'.1.symm)
def idsL (l:List (Int×Int×Int)):List Int:=l.map (·.1)
theorem lagW_eq {l:List (Int×Int×Int)} (h:GoodL l) {x:Int×Int×Int} (hx:x∈l):lagW (sumR l) (sumW l) x=lagR l x.1:=by
 obtain ⟨k,hk⟩:=List.getElem?_of_mem hx
 obtain ⟨_,_,_,_,_,_,_,a1,a2,b1,b2,_⟩:=h.bounds hk
 rw [lagR,tsk_at h hk]
 unfold lagW
 show _=lagV l x
 unfold lagV
 rw [wrap64_in (sumR l*x.2.1) (by omega),wrap64_in (x.2.2*sumW l) (by omega),wrap64_in _ (by omega)]
theorem isOrder_ids {l d:List (Int×Int×Int)} (hg:GoodL l) (h:IsOrder l d):IdsOrder (lagR l) (idsL l) (idsL d):=by
 refine ⟨h.1.map _,?_⟩
 unfold idsL
 rw [List.pairwise_map]
 have hn:(d.map (·.1)).Pairwise (·≠·):=by
  have h1:(l.map (·.1)).Pairwise (·≠·):=by
   rw [List.pairwise_map]
   exact hg.ids.imp fun h=>by omega
  exact (List.Perm.pairwise_iff (fun h=>Ne.symm h) (h.1.map _)).2 h1
 rw [List.pairwise_map] at hn
 refine (List.pairwise_and_iff.2 ⟨h.2,hn⟩).imp_of_mem fun {a b} ha hb hab=>?_
 have h1:=hab.1
 rw [orderC_lt] at h1
 have h2:=of_decide_eq_false h1
 rw [lagW_eq hg (h.1.mem_iff.1 ha),lagW_eq hg (h.1.mem_iff.1 hb)] at h2
 have h3:=hab.2
 omega
theorem idsV_eq (d:List (Int×Int×Int)):idsV d=intsV (idsL d):=by simp [idsV,intsV,idsL]
def OrderQ (l:List (Int×Int×Int)) (n:Nat) (w:World) (e:Ending) (w':World):Prop:=
 ∃ b out,e=.returned (.slice (some ⟨b,0,none⟩) n n)∧w'.ownsRow w.heap.size 3 1 (.slice (some ⟨b,0,none⟩) n n) n (intsV out)∧IdsOrder (lagR l) (idsL l) out∧Below w.heap.size w w'
theorem Order_fn (p g bm cap:Nat) (l:List (Int×Int×Int)) (n:Nat) (w:World) (h:MeterAt w p g bm cap l n):Calls Tryz.prog 102 #[.pointer (some ⟨p,0,none⟩)] w (OrderQ l n w):=by
 refine (Order_any p g bm cap l n w h).mono ?_
 rintro e w' ⟨b,d,rfl,ho,hd,hb⟩
 exact ⟨b,idsL d,rfl,by rw [← idsV_eq];exact ho,isOrder_ids h.good hd,hb⟩
def PairsIn (w:World) (v:Value) (l:List (Int×Int)):Prop:=∃ a cap,v=.slice a l.length cap∧(l=[]∨∃ b off,a=some ⟨b,off,none⟩∧PairsAt w b off l)
theorem New_any (v:Value) (l:List (Int×Int)) (w:World) (h:PairsIn w v l) (h1:l.length≤2000):Calls Tryz.prog 96 #[v] w (NewP l w):=by
 obtain ⟨a,cap,rfl,h⟩:=h
 by_cases h0:l=[]
 ·subst h0;exact New_nil a cap w
 ·rcases h with h | ⟨b,off,rfl,h⟩
  ·exact absurd h h0
  ·exact New_some b off cap l.length l w h rfl (List.length_pos_iff.2 h0) h1
end Go.Proofs.YtapnaocdehahdaaGreat
