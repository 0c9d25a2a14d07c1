/-
  Layer 31 (sched), in plain words: the state of a scheduler, what operations make of it, and what stays true.
-/
import Derived.Test.YtapnaocdehahdaaGreatTreeM
namespace Go.Proofs.YtapnaocdehahdaaGreat
open Go.RowKit Go.Maps Go.IntWalk Go.Lib
set_option linter.unusedVariables false
set_option linter.unusedSimpArgs false
structure Tsk where
 g:Nat
 w:Int
 cpu:Nat
 mask:Int
 rdy:Bool
 run:Ent
structure SSt where
 Gs:Grps
 C:Nat
 cr:Int
 Q:Nat→TSt
 cl:Nat→Int
 cu:Nat→Int
 ld:Nat→Int
 T:Int→Option Tsk
 c:Nat
 wk:Int
def SSt.n (s:SSt):Nat:=s.Gs.length
def enK (P:Nat→Nat):TSt→Bool→List Nat→Nat
 | _,_,[]=>0
 | s,e,o::r=>if e then 1+enK P (enStep P (s,e) o).1 (enStep P (s,e) o).2 r else 0
def lvK (P:Nat→Nat):TSt→List Nat→Nat
 | _,[]=>0
 | s,o::r=>if (s.M o).isEmpty then 1+lvK P (lvA s o (P o)) r else 0
theorem enK_le (P:Nat→Nat):∀ (l:List Nat) (s:TSt) (e:Bool),enK P s e l≤l.length
 | [],_,_=>Nat.le_refl _
 | o::r,s,e=>by
  unfold enK
  split
  ·have:=enK_le P r (enStep P (s,e) o).1 (enStep P (s,e) o).2
   simp only [List.length_cons];omega
  ·exact Nat.zero_le _
theorem lvK_le (P:Nat→Nat):∀ (l:List Nat) (s:TSt),lvK P s l≤l.length
 | [],_=>Nat.le_refl _
 | o::r,s=>by
  unfold lvK
  split
  ·have:=lvK_le P r (lvA s o (P o))
   simp only [List.length_cons];omega
  ·exact Nat.zero_le _
def enTo (s:TSt) (g:Nat) (id:Int) (x:Ent):TSt:=(enUp (parG s.Gs) (enT (enQ s g id x) g id) (s.M g).isEmpty (pathT (parG s.Gs) g)).1
def enW (s:TSt) (g:Nat) (id:Int) (x:Ent):Nat:=1+enK (parG s.Gs) (enT (enQ s g id x) g id) (s.M g).isEmpty (pathT (parG s.Gs) g)
def lvTo (s:TSt) (g:Nat) (id:Int):TSt:=(lvUp (parG s.Gs) (lvT (lvQ s g id) id) (pathT (parG s.Gs) g)).1
def lvW (s:TSt) (g:Nat) (id:Int):Nat:=1+lvK (parG s.Gs) (lvT (lvQ s g id) id) (pathT (parG s.Gs) g)
def chTo (tk:Int) (s:TSt) (g:Nat) (id:Int):TSt:=chgUp tk (parG s.Gs) (chgQ tk s g id) (pathT (parG s.Gs) g)
theorem nameV_iff {id:Int}:nameV id=true↔1≤id∧id≤65535:=by unfold nameV;exact decide_eq_true_iff
theorem enTo_is {s:TSt} {g:Nat} {id:Int} {x:Ent} (hi:1≤id∧id≤65535) (hg:g<s.n) (hT:s.T id=none):enTo s g id x=enS s id g 0 x:=by
 have h:enC s id g 0=0:=by
  unfold enC
  rw [if_pos,if_pos rfl,hT]
  ·rfl
  ·rw [nameV_iff.2 hi]
   unfold hasV
   simp;omega
 unfold enS
 rw [if_pos h,Int.toNat_natCast]
 rfl
theorem lvTo_is {s:TSt} {g:Nat} {id:Int} (hi:1≤id∧id≤65535) (hT:s.T id=some (g:Int)):lvTo s g id=plvS s id:=by
 have h:findC s id=0:=by unfold findC;rw [if_pos (nameV_iff.2 hi),hT];rfl
 have h2:findG s id=(g:Int):=by unfold findG;rw [if_pos (nameV_iff.2 hi),hT];rfl
 unfold plvS
 rw [if_pos h,h2,Int.toNat_natCast]
 rfl
theorem chTo_is {tk:Int} {s:TSt} {g:Nat} {id:Int} (hk:tkOk tk) (hi:1≤id∧id≤65535) (hT:s.T id=some (g:Int)):chTo tk s g id=pchgS s id tk:=by
 have h:findC s id=0:=by unfold findC;rw [if_pos (nameV_iff.2 hi),hT];rfl
 have h2:findG s id=(g:Int):=by unfold findG;rw [if_pos (nameV_iff.2 hi),hT];rfl
 have h3:pchgC s id tk=0:=by unfold pchgC;rw [if_pos hk,h]
 unfold pchgS
 rw [if_pos h3,h2,Int.toNat_natCast]
 rfl
theorem wgTo_is {k:Int} {s:TSt} {g:Nat} {id:Int} (hk:wgOk k) (hi:1≤id∧id≤65535) (hT:s.T id=some (g:Int)):wgQ k s g id=pweiS s id k:=by
 have h:findC s id=0:=by unfold findC;rw [if_pos (nameV_iff.2 hi),hT];rfl
 have h2:findG s id=(g:Int):=by unfold findG;rw [if_pos (nameV_iff.2 hi),hT];rfl
 unfold pweiS
 rw [if_pos hk,if_pos h,h2,Int.toNat_natCast]
theorem enTo_fr (s:TSt) (g:Nat) (id:Int) (x:Ent):(enTo s g id x).Gs=s.Gs∧(enTo s g id x).cr=s.cr∧(enTo s g id x).T=setF s.T id (some (g:Int)):=by
 obtain ⟨h1,h2,h3,_⟩:=enUp_fr (parG s.Gs) (pathT (parG s.Gs) g) (enT (enQ s g id x) g id,(s.M g).isEmpty)
 exact ⟨h1,h2,h3⟩
theorem lvTo_fr (s:TSt) (g:Nat) (id:Int):(lvTo s g id).Gs=s.Gs∧(lvTo s g id).cr=s.cr∧(lvTo s g id).T=setF s.T id none:=by
 obtain ⟨h1,h2,h3,_⟩:=lvUp_fr (parG s.Gs) (pathT (parG s.Gs) g) (lvT (lvQ s g id) id,false)
 exact ⟨h1,h2,h3⟩
theorem chTo_fr (tk:Int) (s:TSt) (g:Nat) (id:Int):(chTo tk s g id).Gs=s.Gs∧(chTo tk s g id).cr=s.cr∧(chTo tk s g id).T=s.T:=by
 obtain ⟨h1,h2,h3,_⟩:=chgUp_fr tk (parG s.Gs) (pathT (parG s.Gs) g) (chgQ tk s g id)
 exact ⟨h1,h2,h3⟩
def wtOf (T:Int→Option Tsk) (k:Nat) (id:Int):Int:=match T id with
 | some t=>if t.rdy=true∧t.cpu=k then t.w else 0
 | none=>0
def bitM (m:Int) (c:Nat):Bool:=decide (m / 2 ^ c % 2=1)
structure TkOk (n C:Nat) (t:Tsk):Prop where
 g:t.g<n
 w:1≤t.w∧t.w≤65536
 cpu:t.cpu<C
 mask:0≤t.mask∧t.mask≤18446744073709551615
 run:EntOk t.run
structure SOk (s:SSt):Prop where
 right:RightG s.Gs
 cpus:1≤s.C∧s.C≤64
 cr:0≤s.cr∧s.cr≤1099511627776
 tree:∀ k,k<s.C→TOk (s.Q k)
 gs:∀ k,k<s.C→(s.Q k).Gs=s.Gs
 qcr:∀ k,k<s.C→(s.Q k).cr=s.cr
 qt:∀ k,k<s.C→∀ id g,(s.Q k).T id=some g↔∃ t,s.T id=some t∧t.rdy=true∧t.cpu=k∧g=(t.g:Int)
 task:∀ id t,s.T id=some t→(1≤id∧id≤65535)∧TkOk s.n s.C t
 cu:∀ k,k<s.C→s.cu k=0∨∃ t,s.T (s.cu k)=some t∧t.rdy=true∧t.cpu=k
 cl:∀ k,k<s.C→0≤s.cl k∧s.cl k≤281474976710656
 keys:∃ L:List Int,L.Nodup∧L.length=s.c∧(∀ id,id∈L↔s.T id≠none)∧∀ k,k<s.C→s.ld k=(L.map (wtOf s.T k)).sum
theorem sum_same {α:Type} {f g:α→Int}:∀ {L:List α},(∀ x∈L,f x=g x)→(L.map f).sum=(L.map g).sum
 | [],_=>rfl
 | x::r,h=>by
  rw [List.map_cons,List.map_cons,List.sum_cons,List.sum_cons,h x (by simp),sum_same fun y hy=>h y (by simp [hy])]
theorem sum_but {f g:Int→Int} {id:Int}:∀ {L:List Int},L.Nodup→id∈L→(∀ x∈L,x≠id→f x=g x)→(L.map f).sum=(L.map g).sum+(f id - g id)
 | [],_,h,_=>by cases h
 | x::r,hn,hm,h=>by
  rw [List.map_cons,List.map_cons,List.sum_cons,List.sum_cons]
  have hn':=List.nodup_cons.1 hn
  by_cases e:x=id
  ·subst e
   rw [sum_same (f:=f) (g:=g) fun y hy=>h y (by simp [hy]) fun q=>hn'.1 (q ▸ hy)]
   omega
  ·have:id∈r:=by
    rcases List.mem_cons.1 hm with q | q
    ·exact absurd q.symm e
    ·exact q
   rw [sum_but hn'.2 this fun y hy=>h y (by simp [hy]),h x (by simp) e]
   omega
theorem wtOf_set (T:Int→Option Tsk) (k:Nat) (id:Int) (t:Option Tsk) (j:Int):wtOf (setF T id t) k j=if j=id then (match t with | some t=>if t.rdy=true∧t.cpu=k then t.w else 0 | none=>0) else wtOf T k j:=by
 unfold wtOf
 by_cases e:j=id
 ·subst e;rw [setF_same,if_pos rfl]
 ·rw [setF_other _ _ e,if_neg e]
theorem SOk.few {s:SSt} (h:SOk s):s.c≤65535:=by
 obtain ⟨L,hn,hl,hm,_⟩:=h.keys
 have:=tasks_le hn fun x hx=>by
  have:=(hm x).1 hx
  cases e:s.T x with
  | none=>exact absurd e this
  | some t=>exact (h.task x t e).1
 have h2:L.length≤65535:=by
  have:=holes_le 65535 (L.map fun x=>x - 1) (by
   refine List.pairwise_map.2 (hn.imp fun {a b} hne e=>hne (by omega))) (fun x hx=>by
   obtain ⟨y,hy,rfl⟩:=List.mem_map.1 hx
   have:=(hm y).1 hy
   cases e:s.T y with
   | none=>exact absurd e this
   | some t=>have:=(h.task y t e).1;omega)
  simpa using this
 omega
theorem sum_le {f:Int→Int} {B:Int}:∀ {L:List Int},(∀ x∈L,0≤f x∧f x≤B)→0≤(L.map f).sum∧(L.map f).sum≤B*L.length
 | [],_=>by simp
 | x::r,h=>by
  have i:=sum_le fun y hy=>h y (List.mem_cons_of_mem _ hy)
  have j:=h x (by simp)
  rw [List.map_cons,List.sum_cons,List.length_cons]
  constructor
  ·omega
  ·rw [Int.natCast_add,Int.mul_add];omega
theorem SOk.load {s:SSt} (h:SOk s) {k:Nat} (hk:k<s.C):0≤s.ld k∧s.ld k≤4294967296:=by
 have hf:=h.few
 obtain ⟨L,hn,hl,hm,hs⟩:=h.keys
 rw [hs k hk]
 have:=sum_le (f:=wtOf s.T k) (B:=65536) (L:=L) fun x hx=>by
  unfold wtOf
  split
  ·rename_i t e
   have:=(h.task x t e).2.w
   split <;> omega
  ·omega
 omega
def newS (s:SSt) (id:Int) (t:Tsk):SSt:={ s with T:=setF s.T id (some t),c:=s.c+1 }
def goneS (s:SSt) (id:Int):SSt:={ s with T:=setF s.T id none,c:=s.c - 1 }
def tskS (s:SSt) (id:Int) (t:Tsk):SSt:={ s with T:=setF s.T id (some t) }
def entS (s:SSt) (id:Int) (t:Tsk):SSt:=
 { s with T:=setF s.T id (some { t with rdy:=true }),Q:=upd s.Q t.cpu (enTo (s.Q t.cpu) t.g id t.run),ld:=upd s.ld t.cpu (s.ld t.cpu+t.w),wk:=s.wk+enW (s.Q t.cpu) t.g id t.run }
def lvS (s:SSt) (id:Int) (t:Tsk):SSt:=
 { s with T:=setF s.T id (some { t with rdy:=false,run:=leaveE qN ((s.Q t.cpu).M t.g) id }),Q:=upd s.Q t.cpu (lvTo (s.Q t.cpu) t.g id),ld:=upd s.ld t.cpu (s.ld t.cpu - t.w),wk:=s.wk+lvW (s.Q t.cpu) t.g id }
theorem SOk.put {s:SSt} {id:Int} {t:Tsk} (h:SOk s) (hi:1≤id∧id≤65535) (hT:s.T id=none) (hr:t.rdy=false) (ht:TkOk s.n s.C t):SOk (newS s id t) where
 right:=h.right
 cpus:=h.cpus
 cr:=h.cr
 tree:=h.tree
 gs:=h.gs
 qcr:=h.qcr
 qt:=fun k hk j g=>by
  refine (h.qt k hk j g).trans ?_
  show _↔∃ t',setF s.T id (some t) j=some t'∧_
  by_cases e:j=id
  ·subst e
   rw [setF_same,hT]
   constructor
   ·rintro ⟨_,q,_⟩;cases q
   ·rintro ⟨_,q,q2,_⟩;cases q;rw [hr] at q2;cases q2
  ·rw [setF_other _ _ e]
 task:=fun j t' hj=>by
  replace hj:setF s.T id (some t) j=some t':=hj
  by_cases e:j=id
  ·subst e;rw [setF_same] at hj;cases hj;exact ⟨hi,ht⟩
  ·rw [setF_other _ _ e] at hj;exact h.task j t' hj
 cu:=fun k hk=>(h.cu k hk).imp_right fun ⟨t',q,q2⟩=>by
  refine ⟨t',?_,q2⟩
  show setF s.T id (some t) (s.cu k)=some t'
  rw [setF_other];exact q
  intro e;rw [e,hT] at q;cases q
 cl:=h.cl
 keys:=by
  obtain ⟨L,hn,hl,hm,hs⟩:=h.keys
  have hni:id∉L:=fun q=>(hm id).1 q hT
  refine ⟨id::L,List.nodup_cons.2 ⟨hni,hn⟩,by simp [hl,newS],fun j=>?_,fun k hk=>?_⟩
  ·show _↔setF s.T id (some t) j≠none
   by_cases e:j=id
   ·subst e;rw [setF_same];simp
   ·rw [setF_other _ _ e,List.mem_cons,← hm j];simp [e]
  ·show s.ld k=_
   rw [hs k hk,List.map_cons,List.sum_cons]
   show _=wtOf (setF s.T id (some t)) k id+_
   rw [wtOf_set,if_pos rfl]
   simp only [hr,Bool.false_eq_true,false_and,if_false,Int.zero_add]
   exact sum_same fun x hx=>by
    show _=wtOf (setF s.T id (some t)) k x
    rw [wtOf_set,if_neg];intro e;exact hni (e ▸ hx)
theorem SOk.del {s:SSt} {id:Int} {t:Tsk} (h:SOk s) (hT:s.T id=some t) (hr:t.rdy=false):SOk (goneS s id) where
 right:=h.right
 cpus:=h.cpus
 cr:=h.cr
 tree:=h.tree
 gs:=h.gs
 qcr:=h.qcr
 qt:=fun k hk j g=>by
  refine (h.qt k hk j g).trans ?_
  show _↔∃ t',setF s.T id none j=some t'∧_
  by_cases e:j=id
  ·subst e
   rw [setF_same,hT]
   constructor
   ·rintro ⟨_,q,q2,_⟩;cases q;rw [hr] at q2;cases q2
   ·rintro ⟨_,q,_⟩;cases q
  ·rw [setF_other _ _ e]
 task:=fun j t' hj=>by
  replace hj:setF s.T id none j=some t':=hj
  by_cases e:j=id
  ·subst e;rw [setF_same] at hj;cases hj
  ·rw [setF_other _ _ e] at hj;exact h.task j t' hj
 cu:=fun k hk=>(h.cu k hk).imp_right fun ⟨t',q,q2,q3⟩=>by
  refine ⟨t',?_,q2,q3⟩
  show setF s.T id none (s.cu k)=some t'
  rw [setF_other];exact q
  intro e;rw [e,hT] at q;cases q;rw [hr] at q2;cases q2
 cl:=h.cl
 keys:=by
  obtain ⟨L,hn,hl,hm,hs⟩:=h.keys
  have hi:id∈L:=(hm id).2 (by rw [hT];simp)
  refine ⟨L.erase id,hn.erase id,?_,fun j=>?_,fun k hk=>?_⟩
  ·show _=s.c - 1
   rw [List.length_erase_of_mem hi,hl]
  ·show _↔setF s.T id none j≠none
   rw [hn.mem_erase_iff,hm j]
   by_cases e:j=id
   ·subst e;rw [setF_same];simp
   ·rw [setF_other _ _ e];simp [e]
  ·show s.ld k=_
   have p:=List.perm_cons_erase hi
   rw [hs k hk,sum_perm (p.map (wtOf s.T k)),List.map_cons,List.sum_cons]
   have e0:wtOf s.T k id=0:=by unfold wtOf;rw [hT];simp [hr]
   rw [e0,Int.zero_add]
   exact sum_same fun x hx=>by
    show _=wtOf (setF s.T id none) k x
    rw [wtOf_set,if_neg];intro e;exact (hn.mem_erase_iff.1 hx).1 e
theorem SOk.tsk {s:SSt} {id:Int} {t t':Tsk} (h:SOk s) (hT:s.T id=some t) (hr:t.rdy=false) (hr':t'.rdy=false) (ht:TkOk s.n s.C t'):SOk (tskS s id t') where
 right:=h.right
 cpus:=h.cpus
 cr:=h.cr
 tree:=h.tree
 gs:=h.gs
 qcr:=h.qcr
 qt:=fun k hk j g=>by
  refine (h.qt k hk j g).trans ?_
  show _↔∃ t2,setF s.T id (some t') j=some t2∧_
  by_cases e:j=id
  ·subst e
   rw [setF_same,hT]
   constructor
   ·rintro ⟨_,q,q2,_⟩;cases q;rw [hr] at q2;cases q2
   ·rintro ⟨_,q,q2,_⟩;cases q;rw [hr'] at q2;cases q2
  ·rw [setF_other _ _ e]
 task:=fun j t2 hj=>by
  replace hj:setF s.T id (some t') j=some t2:=hj
  by_cases e:j=id
  ·subst e;rw [setF_same] at hj;cases hj;exact ⟨(h.task j t hT).1,ht⟩
  ·rw [setF_other _ _ e] at hj;exact h.task j t2 hj
 cu:=fun k hk=>(h.cu k hk).imp_right fun ⟨t2,q,q2,q3⟩=>by
  refine ⟨t2,?_,q2,q3⟩
  show setF s.T id (some t') (s.cu k)=some t2
  rw [setF_other];exact q
  intro e;rw [e,hT] at q;cases q;rw [hr] at q2;cases q2
 cl:=h.cl
 keys:=by
  obtain ⟨L,hn,hl,hm,hs⟩:=h.keys
  refine ⟨L,hn,hl,fun j=>?_,fun k hk=>?_⟩
  ·show _↔setF s.T id (some t') j≠none
   rw [hm j]
   by_cases e:j=id
   ·subst e;rw [setF_same,hT];simp
   ·rw [setF_other _ _ e]
  ·show s.ld k=_
   rw [hs k hk]
   exact sum_same fun x hx=>by
    show _=wtOf (setF s.T id (some t')) k x
    rw [wtOf_set]
    split
    ·rename_i e;subst e;unfold wtOf;rw [hT];simp [hr,hr']
    ·rfl
theorem SOk.qnone {s:SSt} {id:Int} {t:Tsk} (h:SOk s) (hT:s.T id=some t) (hr:t.rdy=false) {k:Nat} (hk:k<s.C):(s.Q k).T id=none:=by
 cases e:(s.Q k).T id with
 | none=>rfl
 | some g =>
  obtain ⟨t',q,q2,_⟩:=(h.qt k hk id g).1 e
  rw [hT] at q;cases q;rw [hr] at q2;cases q2
theorem SOk.qsome {s:SSt} {id:Int} {t:Tsk} (h:SOk s) (hT:s.T id=some t) (hr:t.rdy=true):(s.Q t.cpu).T id=some (t.g:Int):=
 (h.qt t.cpu (h.task id t hT).2.cpu id t.g).2 ⟨t,hT,hr,rfl,rfl⟩
theorem SOk.qn {s:SSt} (h:SOk s) {k:Nat} (hk:k<s.C):(s.Q k).n=s.n:=by unfold TSt.n SSt.n;rw [h.gs k hk]
theorem SOk.enter {s:SSt} {id:Int} {t:Tsk} (h:SOk s) (hT:s.T id=some t) (hr:t.rdy=false):SOk (entS s id t):=by
 obtain ⟨hi,ht⟩:=h.task id t hT
 obtain ⟨f1,f2,f3⟩:=enTo_fr (s.Q t.cpu) t.g id t.run
 have f0:=enTo_is (x:=t.run) hi (by rw [h.qn ht.cpu];exact ht.g) (h.qnone hT hr ht.cpu)
 refine { h with
  tree:=fun k hk=>?_,gs:=fun k hk=>?_,qcr:=fun k hk=>?_,qt:=fun k hk j g=>?_,task:=fun j t2 hj=>?_,cu:=fun k hk=>?_,keys:=?_ }
 ·show TOk (upd s.Q t.cpu _ k)
  by_cases e:k=t.cpu
  ·subst e;rw [upd_same,f0];exact enS_ok (h.tree _ hk) fun _=>ht.run
  ·rw [upd_other _ _ e];exact h.tree k hk
 ·show (upd s.Q t.cpu _ k).Gs=s.Gs
  by_cases e:k=t.cpu
  ·subst e;rw [upd_same,f1];exact h.gs _ hk
  ·rw [upd_other _ _ e];exact h.gs k hk
 ·show (upd s.Q t.cpu _ k).cr=s.cr
  by_cases e:k=t.cpu
  ·subst e;rw [upd_same,f2];exact h.qcr _ hk
  ·rw [upd_other _ _ e];exact h.qcr k hk
 ·show (upd s.Q t.cpu _ k).T j=some g↔∃ t2,setF s.T id (some { t with rdy:=true }) j=some t2∧_
  by_cases ej:j=id
  ·subst ej
   rw [setF_same]
   by_cases e:k=t.cpu
   ·subst e
    rw [upd_same,f3,setF_same]
    constructor
    ·intro q;cases q;exact ⟨_,rfl,rfl,rfl,rfl⟩
    ·rintro ⟨_,q,_,_,rfl⟩;cases q;rfl
   ·rw [upd_other _ _ e,h.qnone hT hr hk]
    constructor
    ·intro q;cases q
    ·rintro ⟨_,q,_,q3,_⟩;cases q;exact absurd q3.symm e
  ·rw [setF_other _ _ ej]
   by_cases e:k=t.cpu
   ·subst e;rw [upd_same,f3,setF_other _ _ ej];exact h.qt _ hk j g
   ·rw [upd_other _ _ e];exact h.qt k hk j g
 ·replace hj:setF s.T id (some { t with rdy:=true }) j=some t2:=hj
  by_cases e:j=id
  ·subst e;rw [setF_same] at hj;cases hj;exact ⟨hi,⟨ht.g,ht.w,ht.cpu,ht.mask,ht.run⟩⟩
  ·rw [setF_other _ _ e] at hj;exact h.task j t2 hj
 ·refine (h.cu k hk).imp_right fun ⟨t2,q,q2,q3⟩=>⟨t2,?_,q2,q3⟩
  show setF s.T id _ (s.cu k)=some t2
  rw [setF_other];exact q
  intro e;rw [e,hT] at q;cases q;rw [hr] at q2;cases q2
 ·obtain ⟨L,hn,hl,hm,hs⟩:=h.keys
  have hiL:id∈L:=(hm id).2 (by rw [hT];simp)
  refine ⟨L,hn,hl,fun j=>?_,fun k hk=>?_⟩
  ·show _↔setF s.T id _ j≠none
   rw [hm j]
   by_cases e:j=id
   ·subst e;rw [setF_same,hT];simp
   ·rw [setF_other _ _ e]
  ·show upd s.ld t.cpu _ k=_
   rw [sum_but (f:=wtOf (entS s id t).T k) (g:=wtOf s.T k) hn hiL fun x _ hx=>by
    show wtOf (setF s.T id _) k x=_
    rw [wtOf_set,if_neg hx]]
   have e1:wtOf s.T k id=0:=by unfold wtOf;rw [hT];simp [hr]
   have e2:wtOf (entS s id t).T k id=if t.cpu=k then t.w else 0:=by
    show wtOf (setF s.T id _) k id=_
    rw [wtOf_set,if_pos rfl];simp
   rw [e1,e2,← hs k hk]
   by_cases e:k=t.cpu
   ·subst e;rw [upd_same,if_pos rfl];omega
   ·rw [upd_other _ _ e,if_neg (Ne.symm e)];omega
theorem leave_entOk {s:TSt} (h:TOk s) {id:Int} {g:Nat} (hT:s.T id=some (g:Int)):EntOk (leaveE qN (s.M g) id):=by
 obtain ⟨k,e,hk,hi⟩:=h.core.task id g hT
 have:g=k:=by omega
 subst this
 obtain ⟨x,hx⟩:=inM_some hi
 have b:=h.core.tid id (by rw [hT];simp)
 rw [leave_x (by omega) hx]
 exact (h.core.mok g).ent hx
theorem SOk.leave {s:SSt} {id:Int} {t:Tsk} (h:SOk s) (hT:s.T id=some t) (hr:t.rdy=true) (hc:s.cu t.cpu≠id):SOk (lvS s id t):=by
 obtain ⟨hi,ht⟩:=h.task id t hT
 obtain ⟨f1,f2,f3⟩:=lvTo_fr (s.Q t.cpu) t.g id
 have hq:=h.qsome hT hr
 have f0:=lvTo_is hi hq
 refine { h with
  tree:=fun k hk=>?_,gs:=fun k hk=>?_,qcr:=fun k hk=>?_,qt:=fun k hk j g=>?_,task:=fun j t2 hj=>?_,cu:=fun k hk=>?_,keys:=?_ }
 ·show TOk (upd s.Q t.cpu _ k)
  by_cases e:k=t.cpu
  ·subst e;rw [upd_same,f0];exact leave_ok (h.tree _ hk)
  ·rw [upd_other _ _ e];exact h.tree k hk
 ·show (upd s.Q t.cpu _ k).Gs=s.Gs
  by_cases e:k=t.cpu
  ·subst e;rw [upd_same,f1];exact h.gs _ hk
  ·rw [upd_other _ _ e];exact h.gs k hk
 ·show (upd s.Q t.cpu _ k).cr=s.cr
  by_cases e:k=t.cpu
  ·subst e;rw [upd_same,f2];exact h.qcr _ hk
  ·rw [upd_other _ _ e];exact h.qcr k hk
 ·show (upd s.Q t.cpu _ k).T j=some g↔∃ t2,setF s.T id (some { t with rdy:=false,run:=leaveE qN ((s.Q t.cpu).M t.g) id }) j=some t2∧_
  by_cases ej:j=id
  ·subst ej
   rw [setF_same]
   by_cases e:k=t.cpu
   ·subst e
    rw [upd_same,f3,setF_same]
    constructor
    ·intro q;cases q
    ·rintro ⟨_,q,q2,_⟩;cases q;cases q2
   ·rw [upd_other _ _ e]
    constructor
    ·intro q
     obtain ⟨t2,q1,_,q3,_⟩:=(h.qt k hk j g).1 q
     rw [hT] at q1;cases q1;exact absurd q3.symm e
    ·rintro ⟨_,q,q2,_⟩;cases q;cases q2
  ·rw [setF_other _ _ ej]
   by_cases e:k=t.cpu
   ·subst e;rw [upd_same,f3,setF_other _ _ ej];exact h.qt _ hk j g
   ·rw [upd_other _ _ e];exact h.qt k hk j g
 ·replace hj:setF s.T id (some { t with rdy:=false,run:=leaveE qN ((s.Q t.cpu).M t.g) id }) j=some t2:=hj
  by_cases e:j=id
  ·subst e;rw [setF_same] at hj;cases hj;exact ⟨hi,⟨ht.g,ht.w,ht.cpu,ht.mask,leave_entOk (h.tree _ ht.cpu) hq⟩⟩
  ·rw [setF_other _ _ e] at hj;exact h.task j t2 hj
 ·refine (h.cu k hk).imp_right fun ⟨t2,q,q2,q3⟩=>⟨t2,?_,q2,q3⟩
  show setF s.T id _ (s.cu k)=some t2
  rw [setF_other];exact q
  intro e;rw [e,hT] at q;cases q;rw [← q3] at e;exact hc e
 ·obtain ⟨L,hn,hl,hm,hs⟩:=h.keys
  have hiL:id∈L:=(hm id).2 (by rw [hT];simp)
  refine ⟨L,hn,hl,fun j=>?_,fun k hk=>?_⟩
  ·show _↔setF s.T id _ j≠none
   rw [hm j]
   by_cases e:j=id
   ·subst e;rw [setF_same,hT];simp
   ·rw [setF_other _ _ e]
  ·show upd s.ld t.cpu _ k=_
   rw [sum_but (f:=wtOf (lvS s id t).T k) (g:=wtOf s.T k) hn hiL fun x _ hx=>by
    show wtOf (setF s.T id _) k x=_
    rw [wtOf_set,if_neg hx]]
   have e1:wtOf s.T k id=if t.cpu=k then t.w else 0:=by unfold wtOf;rw [hT];simp [hr]
   have e2:wtOf (lvS s id t).T k id=0:=by
    show wtOf (setF s.T id _) k id=_
    rw [wtOf_set,if_pos rfl];simp
   rw [e1,e2,← hs k hk]
   by_cases e:k=t.cpu
   ·subst e;rw [upd_same,if_pos rfl];omega
   ·rw [upd_other _ _ e,if_neg (Ne.symm e)];omega
theorem SOk.trees {s:SSt} (h:SOk s) {Q:Nat→TSt} (ht:∀ k,k<s.C→TOk (Q k)) (hg:∀ k,k<s.C→(Q k).Gs=s.Gs) (hc:∀ k,k<s.C→(Q k).cr=s.cr) (hT:∀ k,k<s.C→(Q k).T=(s.Q k).T):SOk { s with Q:=Q }:=
 { h with tree:=ht,gs:=hg,qcr:=hc,qt:=fun k hk id g=>by show (Q k).T id=_↔_;rw [hT k hk];exact h.qt k hk id g }
theorem SOk.work {s:SSt} (h:SOk s) (x:Int):SOk { s with wk:=x }:={ h with }
theorem SOk.clock {s:SSt} (h:SOk s) {k:Nat} {x:Int} (hx:0≤x∧x≤281474976710656):SOk { s with cl:=upd s.cl k x }:=
 {h with
  cl:=fun j hj=>by
   refine (?_:0≤upd s.cl k x j∧upd s.cl k x j≤_)
   by_cases e:j=k
   ·subst e;rw [upd_same];exact hx
   ·rw [upd_other _ _ e];exact h.cl j hj }
theorem SOk.now {s:SSt} (h:SOk s) {k:Nat} {x:Int} (hx:x=0∨∃ t,s.T x=some t∧t.rdy=true∧t.cpu=k):SOk { s with cu:=upd s.cu k x }:=
 {h with
  cu:=fun j hj=>by
   refine (?_:upd s.cu k x j=0∨∃ t,s.T (upd s.cu k x j)=some t∧_)
   by_cases e:j=k
   ·subst e;rw [upd_same];exact hx
   ·rw [upd_other _ _ e];exact h.cu j hj }
def tkS (s:SSt) (k:Nat) (tk:Int) (id:Int) (g:Nat):SSt:={ s with Q:=upd s.Q k (chTo tk (s.Q k) g id),wk:=s.wk+(1+(pathT (parG s.Gs) g).length:Nat) }
theorem SOk.tick {s:SSt} (h:SOk s) {id:Int} {t:Tsk} {tk:Int} (hT:s.T id=some t) (hr:t.rdy=true) (hk:tkOk tk):SOk (tkS s t.cpu tk id t.g):=by
 obtain ⟨hi,ht⟩:=h.task id t hT
 obtain ⟨f1,f2,f3⟩:=chTo_fr tk (s.Q t.cpu) t.g id
 have f0:=chTo_is hk hi (h.qsome hT hr)
 refine SOk.work (s:={ s with Q:=upd s.Q t.cpu (chTo tk (s.Q t.cpu) t.g id) }) (h.trees (fun k hk=>?_) (fun k hk=>?_) (fun k hk=>?_) fun k hk=>?_) _ <;> (by_cases e:k=t.cpu)
 ·subst e;rw [upd_same,f0];exact charge_ok (h.tree _ hk)
 ·rw [upd_other _ _ e];exact h.tree k hk
 ·subst e;rw [upd_same,f1];exact h.gs _ hk
 ·rw [upd_other _ _ e];exact h.gs k hk
 ·subst e;rw [upd_same,f2];exact h.qcr _ hk
 ·rw [upd_other _ _ e];exact h.qcr k hk
 ·subst e;rw [upd_same,f3]
 ·rw [upd_other _ _ e]
def rwS (s:SSt) (id:Int) (t:Tsk) (k:Int):SSt:=
 { s with T:=setF s.T id (some { t with w:=k }),Q:=upd s.Q t.cpu (wgQ k (s.Q t.cpu) t.g id),ld:=upd s.ld t.cpu (s.ld t.cpu+(k - t.w)),wk:=s.wk+1 }
theorem SOk.reweight {s:SSt} {id k:Int} {t:Tsk} (h:SOk s) (hT:s.T id=some t) (hr:t.rdy=true) (hk:wgOk k):SOk (rwS s id t k):=by
 obtain ⟨hi,ht⟩:=h.task id t hT
 have f0:=wgTo_is hk hi (h.qsome hT hr)
 refine { h with
  tree:=fun j hj=>?_,gs:=fun j hj=>?_,qcr:=fun j hj=>?_,qt:=fun i hj j g=>?_,task:=fun j t2 hj=>?_,cu:=fun j hj=>?_,keys:=?_ }
 ·show TOk (upd s.Q t.cpu _ j)
  by_cases e:j=t.cpu
  ·subst e;rw [upd_same,f0];exact weigh_ok (h.tree _ hj)
  ·rw [upd_other _ _ e];exact h.tree j hj
 ·show (upd s.Q t.cpu _ j).Gs=s.Gs
  by_cases e:j=t.cpu
  ·subst e;rw [upd_same];exact h.gs _ hj
  ·rw [upd_other _ _ e];exact h.gs j hj
 ·show (upd s.Q t.cpu _ j).cr=s.cr
  by_cases e:j=t.cpu
  ·subst e;rw [upd_same];exact h.qcr _ hj
  ·rw [upd_other _ _ e];exact h.qcr j hj
 ·show (upd s.Q t.cpu _ i).T j=some g↔∃ t2,setF s.T id (some { t with w:=k }) j=some t2∧_
  have e1:(upd s.Q t.cpu (wgQ k (s.Q t.cpu) t.g id) i).T=(s.Q i).T:=by
   by_cases e:i=t.cpu
   ·subst e;rw [upd_same];rfl
   ·rw [upd_other _ _ e]
  rw [e1]
  refine (h.qt i hj j g).trans ?_
  by_cases e:j=id
  ·subst e
   rw [setF_same,hT]
   constructor
   ·rintro ⟨_,q,q2,q3,q4⟩;cases q;exact ⟨_,rfl,q2,q3,q4⟩
   ·rintro ⟨_,q,q2,q3,q4⟩;cases q;exact ⟨_,rfl,q2,q3,q4⟩
  ·rw [setF_other _ _ e]
 ·replace hj:setF s.T id (some { t with w:=k }) j=some t2:=hj
  by_cases e:j=id
  ·subst e;rw [setF_same] at hj;cases hj;exact ⟨hi,⟨ht.g,hk,ht.cpu,ht.mask,ht.run⟩⟩
  ·rw [setF_other _ _ e] at hj;exact h.task j t2 hj
 ·rcases h.cu j hj with q | ⟨t2,q,q2,q3⟩
  ·exact Or.inl q
  ·refine Or.inr ?_
   show ∃ t2,setF s.T id (some { t with w:=k }) (s.cu j)=some t2∧_
   by_cases e:s.cu j=id
   ·rw [e,setF_same]
    rw [e,hT] at q;cases q
    exact ⟨_,rfl,q2,q3⟩
   ·rw [setF_other _ _ e];exact ⟨t2,q,q2,q3⟩
 ·obtain ⟨L,hn,hl,hm,hs⟩:=h.keys
  have hiL:id∈L:=(hm id).2 (by rw [hT];simp)
  refine ⟨L,hn,hl,fun j=>?_,fun j hj=>?_⟩
  ·show _↔setF s.T id _ j≠none
   rw [hm j]
   by_cases e:j=id
   ·subst e;rw [setF_same,hT];simp
   ·rw [setF_other _ _ e]
  ·show upd s.ld t.cpu _ j=_
   rw [sum_but (f:=wtOf (rwS s id t k).T j) (g:=wtOf s.T j) hn hiL fun x _ hx=>by
    show wtOf (setF s.T id _) j x=_
    rw [wtOf_set,if_neg hx]]
   have e1:wtOf s.T j id=if t.cpu=j then t.w else 0:=by unfold wtOf;rw [hT];simp [hr]
   have e2:wtOf (rwS s id t k).T j id=if t.cpu=j then k else 0:=by
    show wtOf (setF s.T id _) j id=_
    rw [wtOf_set,if_pos rfl];simp [hr]
   rw [e1,e2,← hs j hj]
   by_cases e:j=t.cpu
   ·subst e;rw [upd_same,if_pos rfl,if_pos rfl]
   ·rw [upd_other _ _ e,if_neg (Ne.symm e),if_neg (Ne.symm e)];omega
def rgQ (g:Nat) (k:Int) (q:TSt):TSt:=pregS q (g:Int) k
def rgS (s:SSt) (g:Nat) (k:Int):SSt:={ s with Gs:=setW s.Gs g k,Q:=fun j=>if j<s.C then rgQ g k (s.Q j) else s.Q j }
theorem preg_fr {q:TSt} {g:Nat} {k:Int} (h:TOk q) (hg:g<q.n) (h0:0<g) (hk:wgOk k):(rgQ g k q).Gs=setW q.Gs g k∧(rgQ g k q).cr=q.cr∧(rgQ g k q).T=q.T:=by
 have hc:pregC q (g:Int) k=0:=by
  unfold pregC
  have h1:hasV (q.n:Int) (g:Int)=true:=by unfold hasV;simp;omega
  rw [if_pos ⟨h1,by omega⟩,if_pos ⟨by rw [Int.toNat_natCast];exact h.core.aok g hg,hk⟩]
 unfold rgQ pregS
 rw [if_pos hc,Int.toNat_natCast]
 exact ⟨rfl,rfl,rfl⟩
theorem SOk.regroup {s:SSt} (h:SOk s) {g:Nat} {k:Int} (hg:g<s.n) (h0:0<g) (hk:wgOk k):SOk (rgS s g k):=by
 have e:∀ j,j<s.C→(rgS s g k).Q j=rgQ g k (s.Q j):=fun j hj=>if_pos hj
 have f:∀ j,j<s.C→_:=fun j hj=>preg_fr (h.tree j hj) (by rw [h.qn hj];exact hg) h0 hk
 refine { h with
  right:=h.right.setW hg h0 hk,tree:=fun j hj=>?_,gs:=fun j hj=>?_,qcr:=fun j hj=>?_,qt:=fun j hj id x=>?_,task:=fun j t2 hj=>?_ }
 ·rw [e j hj];exact regroup_ok (h.tree j hj)
 ·rw [e j hj,(f j hj).1,h.gs j hj];rfl
 ·rw [e j hj,(f j hj).2.1];exact h.qcr j hj
 ·rw [e j hj,(f j hj).2.2];exact h.qt j hj id x
 ·obtain ⟨a,b⟩:=h.task j t2 hj
  refine ⟨a,⟨?_,b.w,b.cpu,b.mask,b.run⟩⟩
  show t2.g<(setW s.Gs g k).length
  rw [setW_len];exact b.g
end Go.Proofs.YtapnaocdehahdaaGreat
