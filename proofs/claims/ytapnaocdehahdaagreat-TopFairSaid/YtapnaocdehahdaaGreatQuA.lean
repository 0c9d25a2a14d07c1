/-
  Layer 24 (queue): plain facts on members in lists; no program.
-/
import Derived.Test.YtapnaocdehahdaaGreatHpA
import Derived.Test.YtapnaocdehahdaaGreatChA
import Derived.Test.YtapnaocdehahdaaGreatKtA
import Derived.Test.YtapnaocdehahdaaGreatHeapSt
import Derived.Test.YtapnaocdehahdaaGreatChargeR
namespace Go.Proofs.YtapnaocdehahdaaGreat
set_option linter.unusedVariables false
abbrev Ent:=Int×Int×Int
abbrev Mems:=List (Int×Ent)
def kM (m:Int×Ent):Int×Int:=(m.1,m.2.1)
def putM (M:Mems) (m:Int×Ent):Mems:=match M with
 | []=>[m]
 | y::r=>if ltI (kM y) (kM m) then y::putM r m else m::y::r
def outM (M:Mems) (id:Int):Mems:=M.filter fun y=>y.1 != id
def entM (M:Mems) (id:Int):Option Ent:=(M.find? fun y=>y.1 == id).map (·.2)
def loadM (M:Mems):Int:=(M.map fun m=>m.2.2.2).sum
def itemsM (M:Mems):Items:=M.map kM
theorem items_len (M:Mems):(itemsM M).length=M.length:=by simp [itemsM]
theorem items_put (M:Mems) (m:Int×Ent):itemsM (putM M m)=putL (itemsM M) (kM m):=by
 induction M with
 | nil=>rfl
 | cons y r ih =>
  unfold putM itemsM putL
  by_cases h:ltI (kM y) (kM m)
  ·rw [if_pos h]
   simp only [List.map_cons]
   rw [if_pos h]
   exact congrArg (kM y::·) ih
  ·rw [if_neg h]
   simp only [List.map_cons]
   rw [if_neg h]
theorem items_out (M:Mems) (id:Int):itemsM (outM M id)=outL (itemsM M) id:=by
 unfold itemsM outM outL
 rw [List.filter_map]
 rfl
theorem key_ent (M:Mems) (id:Int):keyL (itemsM M) id=(entM M id).map (·.1):=by
 unfold keyL itemsM entM
 rw [List.find?_map]
 cases h:M.find? ((fun y=>y.1 == id) ∘ kM) with
 | none =>
  have:M.find? (fun y=>y.1 == id)=none:=h
  rw [this];rfl
 | some x =>
  have:M.find? (fun y=>y.1 == id)=some x:=h
  rw [this];rfl
theorem ent_none {M:Mems} {id:Int}:entM M id=none↔∀ y∈M,y.1≠id:=by
 unfold entM
 simp
theorem ent_some {M:Mems} (hn:(M.map Prod.fst).Nodup) {id:Int} {x:Ent}:entM M id=some x↔(id,x)∈M:=by
 unfold entM
 induction M with
 | nil=>simp
 | cons y r ih =>
  simp only [List.map_cons,List.nodup_cons] at hn
  rw [List.find?_cons]
  by_cases h:y.1=id
  ·have e:(y.1 == id)=true:=by simpa using h
   rw [e]
   simp only [Option.map_some,Option.some.injEq,List.mem_cons]
   constructor
   ·intro q;left;rw [← q,← h]
   ·rintro (q | q)
    ·rw [← q]
    ·exact absurd (List.mem_map.2 ⟨_,q,rfl⟩) (by rw [← h];exact hn.1)
  ·have e:(y.1 == id)=false:=by simpa using h
   rw [e]
   simp only [List.mem_cons]
   rw [ih hn.2]
   constructor
   ·exact Or.inr
   ·rintro (q | q)
    ·exact absurd (by rw [← q]) h
    ·exact q
theorem put_mem {M:Mems} {m x:Int×Ent}:x∈putM M m↔x=m∨x∈M:=by
 induction M with
 | nil=>simp [putM]
 | cons y r ih =>
  unfold putM
  split
  ·simp only [List.mem_cons,ih]
   constructor
   ·rintro (q | q | q)
    ·exact Or.inr (Or.inl q)
    ·exact Or.inl q
    ·exact Or.inr (Or.inr q)
   ·rintro (q | q | q)
    ·exact Or.inr (Or.inl q)
    ·exact Or.inl q
    ·exact Or.inr (Or.inr q)
  ·simp
theorem put_perm (M:Mems) (m:Int×Ent):(putM M m).Perm (m::M):=by
 induction M with
 | nil=>exact List.Perm.refl _
 | cons y r ih =>
  unfold putM
  split
  ·exact ((ih.cons y).trans (List.Perm.swap m y r))
  ·exact List.Perm.refl _
theorem put_len (M:Mems) (m:Int×Ent):(putM M m).length=M.length+1:=by rw [(put_perm M m).length_eq];rfl
theorem put_nodup {M:Mems} {m:Int×Ent} (hn:(M.map Prod.fst).Nodup) (h:entM M m.1=none):((putM M m).map Prod.fst).Nodup:=by
 refine ((put_perm M m).map Prod.fst).nodup_iff.2 ?_
 simp only [List.map_cons,List.nodup_cons]
 refine ⟨fun q=>?_,hn⟩
 obtain ⟨y,hy,e⟩:=List.mem_map.1 q
 exact (ent_none.1 h y hy) e
theorem out_nodup {M:Mems} (hn:(M.map Prod.fst).Nodup) (id:Int):((outM M id).map Prod.fst).Nodup:=hn.sublist (List.Sublist.map _ List.filter_sublist)
theorem ent_put {M:Mems} {m:Int×Ent} (hn:(M.map Prod.fst).Nodup) (h:entM M m.1=none) (id:Int):entM (putM M m) id=if id=m.1 then some m.2 else entM M id:=by
 by_cases e:id=m.1
 ·rw [if_pos e,e]
  exact (ent_some (put_nodup hn h)).2 (put_mem.2 (Or.inl rfl))
 ·rw [if_neg e]
  cases q:entM M id with
  | none =>
   refine ent_none.2 fun y hy=>?_
   rcases put_mem.1 hy with rfl | hy
   ·exact fun z=>e z.symm
   ·exact ent_none.1 q y hy
  | some x=>exact (ent_some (put_nodup hn h)).2 (put_mem.2 (Or.inr ((ent_some hn).1 q)))
theorem out_mem {M:Mems} {id:Int} {x:Int×Ent}:x∈outM M id↔x∈M∧x.1≠id:=by unfold outM;simp
theorem ent_out {M:Mems} (hn:(M.map Prod.fst).Nodup) (id j:Int):entM (outM M id) j=if j=id then none else entM M j:=by
 by_cases e:j=id
 ·rw [if_pos e]
  exact ent_none.2 fun y hy=>by rw [e];exact (out_mem.1 hy).2
 ·rw [if_neg e]
  cases q:entM M j with
  | none=>exact ent_none.2 fun y hy=>ent_none.1 q y (out_mem.1 hy).1
  | some x=>exact (ent_some (out_nodup hn id)).2 (out_mem.2 ⟨(ent_some hn).1 q,e⟩)
theorem sum_perm {a b:List Int} (h:a.Perm b):a.sum=b.sum:=by
 induction h with
 | nil=>rfl
 | cons x _ ih=>simp only [List.sum_cons,ih]
 | swap x y l=>simp only [List.sum_cons];omega
 | trans _ _ h1 h2=>exact h1.trans h2
theorem load_put (M:Mems) (m:Int×Ent):loadM (putM M m)=loadM M+m.2.2.2:=by
 unfold loadM
 rw [sum_perm ((put_perm M m).map fun m:Int×Ent=>m.2.2.2)]
 simp only [List.map_cons,List.sum_cons]
 omega
theorem outM_none {M:Mems} {id:Int} (h:entM M id=none):outM M id=M:=by
 unfold outM
 rw [List.filter_eq_self]
 intro y hy
 simpa using ent_none.1 h y hy
theorem out_perm {M:Mems} (hn:(M.map Prod.fst).Nodup) {id:Int} {x:Ent} (h:entM M id=some x):M.Perm ((id,x)::outM M id):=by
 induction M with
 | nil=>cases h
 | cons y r ih =>
  simp only [List.map_cons,List.nodup_cons] at hn
  unfold entM at h
  rw [List.find?_cons] at h
  by_cases e:y.1=id
  ·have e':(y.1 == id)=true:=by simpa using e
   rw [e'] at h
   simp only [Option.map_some,Option.some.injEq] at h
   have hr:outM r id=r:=outM_none (ent_none.2 fun z hz q=>hn.1 (by rw [e,← q];exact List.mem_map.2 ⟨z,hz,rfl⟩))
   have hy:y=(id,x):=by rw [← e,← h]
   have ho:outM (y::r) id=outM r id:=by unfold outM;rw [List.filter_cons_of_neg];simp [e]
   rw [ho,hr,hy]
  ·have e':(y.1 == id)=false:=by simpa using e
   rw [e'] at h
   have ho:outM (y::r) id=y::outM r id:=by unfold outM;rw [List.filter_cons_of_pos];simpa using e
   rw [ho]
   exact ((ih hn.2 h).cons y).trans (List.Perm.swap (id,x) y (outM r id))
theorem load_out {M:Mems} (hn:(M.map Prod.fst).Nodup) {id:Int} {x:Ent} (h:entM M id=some x):loadM (outM M id)=loadM M - x.2.2:=by
 have:=sum_perm ((out_perm hn h).map fun m:Int×Ent=>m.2.2.2)
 unfold loadM
 rw [this]
 simp only [List.map_cons,List.sum_cons]
 omega
theorem out_len {M:Mems} (hn:(M.map Prod.fst).Nodup) {id:Int} {x:Ent} (h:entM M id=some x):(outM M id).length+1=M.length:=by rw [(out_perm hn h).length_eq];rfl
structure MemsOk (M:Mems):Prop where
 nod:(M.map Prod.fst).Nodup
 ord:InOrder (itemsM M)
 ok:∀ m∈M,Ch.Ok m.2.1 m.2.2.1 m.2.2.2
theorem load_le {M:Mems} (h:∀ m∈M,Ch.Ok m.2.1 m.2.2.1 m.2.2.2):0≤loadM M∧loadM M≤65536*M.length:=by
 induction M with
 | nil=>exact ⟨Int.le_refl _,Int.le_refl _⟩
 | cons y r ih =>
  have i:=ih fun m hm=>h m (by simp [hm])
  have hy:=h y (by simp)
  unfold Ch.Ok at hy
  unfold loadM at i ⊢
  simp only [List.map_cons,List.sum_cons,List.length_cons]
  omega
end Go.Proofs.YtapnaocdehahdaaGreat
namespace Go.Proofs.YtapnaocdehahdaaGreat
open Go.RowKit Go.Maps Go.IntWalk Go.Lib
set_option linter.unusedVariables false
set_option linter.unusedSimpArgs false
def encE (x:Ent):Value:=.agg #[.int .u64 x.1,.int .u32 x.2.1,.int .u32 x.2.2]
def datE (x:Ent):DataW Unit:=.agg [.lit (.int .u64 x.1),.lit (.int .u32 x.2.1),.lit (.int .u32 x.2.2)]
def readE:Value→Option (DataW Unit×List MemPlace)
 | .agg ⟨[.int .u64 a,.int .u32 b,.int .u32 c]⟩=>some (datE (a,b,c),[])
 | _=>none
theorem elemE:ElemG encE datE readE (fun _=>True):=by
 refine ⟨fun x _=>rfl,fun v z h=>?_,fun x y h=>?_⟩
 ·unfold readE at h
  split at h
  ·cases h;exact ⟨(_,_,_),trivial,rfl,rfl⟩
  ·cases h
 ·unfold datE at h
  simp only [DataW.agg.injEq,List.cons.injEq,DataW.lit.injEq,Lit.int.injEq,true_and,and_true] at h
  exact Prod.ext h.1 (Prod.ext h.2.1 h.2.2)
abbrev MapE:=MapG encE datE readE (fun _=>True)
theorem undE:Tryz.prog.underlying 185=some (.map 3 107):=by kernel_rfl
theorem zeroE (w:World):(zeroValue 107).run Tryz.prog w=.ok (encE (0,0,0)) w:=by kernel_rfl
structure QRaw (w:World) (q p bm:Nat) (Fh:List Nat) (n:Int) (S:Items) (f:Int→Option Ent) (c:Nat) (fl ld:Int):Prop where
 c0:w.cell? ⟨q,0,none⟩=some (.pointer (some ⟨p,0,none⟩))
 c1:w.cell? ⟨q,1,none⟩=some (.int .i64 n)
 c2:w.cell? ⟨q,2,none⟩=some (.map (some bm))
 c3:w.cell? ⟨q,3,none⟩=some (.int .u64 fl)
 c4:w.cell? ⟨q,4,none⟩=some (.int .i64 ld)
 fr:∀ j,w.frozen? ⟨q,j,none⟩=false
 heap:HeapIn w p Fh n S
 map:MapE w bm f c
 nq:q∉Fh
 nb:bm∉Fh
 qb:q≠bm
theorem QRaw.plt {w:World} {q p bm:Nat} {Fh:List Nat} {n:Int} {S:Items} {f:Int→Option Ent} {c:Nat} {fl ld:Int} (h:QRaw w q p bm Fh n S f c fl ld):q<w.heap.size:=lt_of_cell h.c0
theorem QRaw.kept {w w':World} {q p bm:Nat} {Fh:List Nat} {n:Int} {S:Items} {f:Int→Option Ent} {c:Nat} {fl ld:Int} {G:List Nat} (h:QRaw w q p bm Fh n S f c fl ld) (hk:Kept G w w') (hG:∀ b∈q::bm::Fh,b∉G):QRaw w' q p bm Fh n S f c fl ld:=
 have hq:=hG q (by simp)
 ⟨hk.cellAt h.c0 hq,hk.cellAt h.c1 hq,hk.cellAt h.c2 hq,hk.cellAt h.c3 hq,hk.cellAt h.c4 hq,fun j=>hk.frz (h.fr j) h.plt hq,h.heap.kept hk (fun b hb=>hG b (by simp [hb])),h.map.kept hk (hG bm (by simp)),h.nq,h.nb,h.qb⟩
theorem QRaw.below {w w':World} {q p bm:Nat} {Fh:List Nat} {n:Int} {S:Items} {f:Int→Option Ent} {c:Nat} {fl ld:Int} (h:QRaw w q p bm Fh n S f c fl ld) (hb:Below w.heap.size w w'):QRaw w' q p bm Fh n S f c fl ld:=h.kept (G:=[]) (Kept.of hb) (fun _ _=>by simp)
theorem QRaw.heaped {w w':World} {q p bm:Nat} {Fh Fh':List Nat} {n:Int} {S S':Items} {f:Int→Option Ent} {c:Nat} {fl ld:Int} (h:QRaw w q p bm Fh n S f c fl ld) (hs:Step Fh w Fh' w') (hH:HeapIn w' p Fh' n S'):QRaw w' q p bm Fh' n S' f c fl ld:=
 ⟨hs.cell h.nq h.c0,hs.cell h.nq h.c1,hs.cell h.nq h.c2,hs.cell h.nq h.c3,hs.cell h.nq h.c4,fun j=>hs.kept.frz (h.fr j) h.plt h.nq,hH,h.map.kept hs.kept h.nb,hs.off h.nq h.plt,hs.off h.nb h.map.lt,h.qb⟩
theorem QRaw.mapped {w w':World} {q p bm:Nat} {Fh:List Nat} {n:Int} {S:Items} {f f':Int→Option Ent} {c c':Nat} {fl ld:Int} (h:QRaw w q p bm Fh n S f c fl ld) (hg:w.grownBy w' (some bm)) (hm:MapE w' bm f' c'):QRaw w' q p bm Fh n S f' c' fl ld∧Kept [bm] w w':=by
 have hk:Kept [bm] w w':=⟨hg.os,hg.tape,hg.output,hg.size,fun k hk hn=>hg.block k hk (fun e=>by cases e;exact hn (by simp))⟩
 have hq:q∉[bm]:=by simpa using h.qb
 exact ⟨⟨hk.cellAt h.c0 hq,hk.cellAt h.c1 hq,hk.cellAt h.c2 hq,hk.cellAt h.c3 hq,hk.cellAt h.c4 hq,fun j=>hk.frz (h.fr j) h.plt hq,h.heap.kept hk (fun b hb m=>by simp at m;subst m;exact h.nb hb),hm,h.nq,h.nb,h.qb⟩,hk⟩
theorem QRaw.floored {w:World} {q p bm:Nat} {Fh:List Nat} {n:Int} {S:Items} {f:Int→Option Ent} {c:Nat} {fl ld:Int} (h:QRaw w q p bm Fh n S f c fl ld) (x:Int):QRaw (w.setCell ⟨q,3,none⟩ (.int .u64 x)) q p bm Fh n S f c x ld∧Kept [q] w (w.setCell ⟨q,3,none⟩ (.int .u64 x)):=by
 have hk:Kept [q] w (w.setCell ⟨q,3,none⟩ (.int .u64 x)):=(Kept.refl _ _).setCell (Or.inl (by simp)) _
 exact ⟨⟨cell_set_ne h.c0 (by simp),cell_set_ne h.c1 (by simp),cell_set_ne h.c2 (by simp),cell_set_eq h.c3,cell_set_ne h.c4 (by simp),fun j=>by rw [World.frozen?_setCell];exact h.fr j,h.heap.kept hk (fun b hb m=>by simp at m;subst m;exact h.nq hb),h.map.kept hk (by simpa using (Ne.symm h.qb)),h.nq,h.nb,h.qb⟩,hk⟩
theorem QRaw.loaded {w:World} {q p bm:Nat} {Fh:List Nat} {n:Int} {S:Items} {f:Int→Option Ent} {c:Nat} {fl ld:Int} (h:QRaw w q p bm Fh n S f c fl ld) (x:Int):QRaw (w.setCell ⟨q,4,none⟩ (.int .i64 x)) q p bm Fh n S f c fl x∧Kept [q] w (w.setCell ⟨q,4,none⟩ (.int .i64 x)):=by
 have hk:Kept [q] w (w.setCell ⟨q,4,none⟩ (.int .i64 x)):=(Kept.refl _ _).setCell (Or.inl (by simp)) _
 exact ⟨⟨cell_set_ne h.c0 (by simp),cell_set_ne h.c1 (by simp),cell_set_ne h.c2 (by simp),cell_set_ne h.c3 (by simp),cell_set_eq h.c4,fun j=>by rw [World.frozen?_setCell];exact h.fr j,h.heap.kept hk (fun b hb m=>by simp at m;subst m;exact h.nq hb),h.map.kept hk (by simpa using (Ne.symm h.qb)),h.nq,h.nb,h.qb⟩,hk⟩
def QIn (w:World) (q:Nat) (F:List Nat) (n:Int) (M:Mems) (fl:Int):Prop:=
 ∃ p bm Fh f,QRaw w q p bm Fh n (itemsM M) f M.length fl (loadM M)∧F=q::bm::Fh∧(∀ id,f id=entM M id)∧MemsOk M∧0≤fl∧fl≤18446744073709551615
theorem QIn.kept {w w':World} {q:Nat} {F G:List Nat} {n:Int} {M:Mems} {fl:Int} (h:QIn w q F n M fl) (hk:Kept G w w') (hd:∀ b∈F,b∉G):QIn w' q F n M fl:=by
 obtain ⟨p,bm,Fh,f,hr,rfl,k⟩:=h
 exact ⟨p,bm,Fh,f,hr.kept hk hd,rfl,k⟩
theorem QIn.below {w w':World} {q:Nat} {F:List Nat} {n:Int} {M:Mems} {fl:Int} (h:QIn w q F n M fl) (hb:Below w.heap.size w w'):QIn w' q F n M fl:=h.kept (G:=[]) (Kept.of hb) (fun _ _=>by simp)
theorem QIn.lt {w:World} {q:Nat} {F:List Nat} {n:Int} {M:Mems} {fl:Int} (h:QIn w q F n M fl):∀ b∈F,b<w.heap.size:=by
 obtain ⟨p,bm,Fh,f,hr,rfl,k⟩:=h
 intro b hb
 simp only [List.mem_cons] at hb
 rcases hb with rfl | rfl | hb
 ·exact hr.plt
 ·exact hr.map.lt
 ·exact hr.heap.lt b hb
theorem QIn.ids {w:World} {q:Nat} {F:List Nat} {n:Int} {M:Mems} {fl:Int} (h:QIn w q F n M fl):MemsOk M∧(∀ m∈M,0≤m.1∧m.1<n)∧1≤n∧n≤131072∧(M.length:Int)≤n∧0≤fl∧fl≤18446744073709551615:=by
 obtain ⟨p,bm,Fh,f,hr,rfl,_,ho,h0,h1⟩:=h
 have i:=hr.heap.ids
 refine ⟨ho,fun m hm=>?_,i.2.2.2.1,i.2.2.2.2.1,by rw [← items_len];exact i.2.2.2.2.2,h0,h1⟩
 exact (i.2.2.1 (kM m) (List.mem_map.2 ⟨m,hm,rfl⟩)).1
def QAfter (w:World) (q:Nat) (F:List Nat) (n:Int) (M:Mems) (fl:Int) (w':World):Prop:=∃ F',QIn w' q F' n M fl∧Step F w F' w'
def QDid (w:World) (q:Nat) (F:List Nat) (n:Int) (r:Value) (M:Mems) (fl:Int) (e:Ending) (w':World):Prop:=e=.returned r∧QAfter w q F n M fl w'
theorem QAfter.same {w w':World} {q:Nat} {F:List Nat} {n:Int} {M:Mems} {fl:Int} (h:QIn w q F n M fl) (hb:Below w.heap.size w w'):QAfter w q F n M fl w':=⟨F,h.below hb,Step.of hb⟩
theorem qsome_at (q:Nat) (n:Int) (w:World) (c1:w.cell? ⟨q,1,none⟩=some (.int .i64 n)) (hn:1≤n) :
  Calls Tryz.prog 114 #[.pointer (some ⟨q,0,none⟩)] w fun e w'=>e=.returned (.bool true)∧w=w':=by
 have z:(0:Int)<n:=by omega
 clear hn
 go_enter Tryz.func114,Tryz.ntmps114
 go_wp2
 go_ret
 exact ⟨rfl,rfl⟩
theorem QRaw.pos {w:World} {q p bm:Nat} {Fh:List Nat} {n:Int} {S:Items} {f:Int→Option Ent} {c:Nat} {fl ld:Int} (h:QRaw w q p bm Fh n S f c fl ld):1≤n:=h.heap.ids.2.2.2.1
def qfindV (n:Int) (f:Int→Option Ent) (id:Int):Ent×Int:=if hasV n id then (match f id with | some x=>(x,0) | none=>((0,0,0),6)) else ((0,0,0),2)
set_option maxRecDepth 100000 in
set_option maxHeartbeats 1000000 in
theorem qfind_at {q p bm:Nat} {Fh:List Nat} {n:Int} {S:Items} {f:Int→Option Ent} {c:Nat} {fl ld:Int} (id:Int) (w:World) (h:QRaw w q p bm Fh n S f c fl ld) (hid:(Lit.int .i64 id).wf=true) :
  Calls Tryz.prog 189 #[.pointer (some ⟨q,0,none⟩),.int .i64 id] w fun e w'=>e=.returned (.tuple #[.agg #[.int .u64 (qfindV n f id).1.1,.int .u32 (qfindV n f id).1.2.1,.int .u32 (qfindV n f id).1.2.2],.int .i64 (qfindV n f id).2])∧Below w.heap.size w w':=by
 have hW:=below_a w (.cells #[.int .u64 0,.int .u32 0,.int .u32 0] 107)
 have h':=h.below hW
 have c1:=h'.c1
 have c2:=h'.c2
 have A1:=Lib.hid (qsome_at q n _ c1 h.pos)
 have hlk:=(h'.map.look elemE undE trivial zeroE hid).1
 clear h h' hW
 unfold qfindV
 by_cases hh:0≤id∧id<n
 ·rw [show hasV n id=true from decide_eq_true hh]
  obtain ⟨h0,h1⟩:=hh
  have z1:decide (id<0)=false:=decide_eq_false (by omega)
  have z1':(id<0)=False:=eq_false (by omega)
  have z2:decide (id ≥ n)=false:=decide_eq_false (by omega)
  have z2':decide (n≤id)=false:=decide_eq_false (by omega)
  have z2q:(n≤id)=False:=eq_false (by omega)
  cases hf:f id with
  | none =>
   rw [hf] at hlk
   simp only [Option.getD_none,Option.isSome_none,encE] at hlk
   go_enter Tryz.func189,Tryz.ntmps189
   go_wp2_with fail
   refine A1.out.mono ?_;rintro e w5 ⟨rfl,rfl⟩
   go_wp2_with fail
   refine bodyPost_ret (v:=.tuple #[.agg #[.int .u64 0,.int .u32 0,.int .u32 0],.int .i64 6]) (by simp [results,Tryz.results189,go_sem]) rfl ⟨rfl,?_⟩
   repeat (first | exact Below.refl _ _ | refine Below.step ?_ (by assumption) | refine Below.setCell ?_ (by first | (simp;done) | (simp;omega) | omega) _ | refine Below.allocS ?_ _ | refine Below.drew ?_ | refine below_drewN ?_ _)
  | some x =>
   rw [hf] at hlk
   simp only [Option.getD_some,Option.isSome_some,encE] at hlk
   go_enter Tryz.func189,Tryz.ntmps189
   go_wp2_with fail
   refine A1.out.mono ?_;rintro e w5 ⟨rfl,rfl⟩
   go_wp2_with fail
   refine bodyPost_ret (v:=.tuple #[.agg #[.int .u64 x.1,.int .u32 x.2.1,.int .u32 x.2.2],.int .i64 0]) (by simp [results,Tryz.results189,go_sem]) rfl ⟨rfl,?_⟩
   repeat (first | exact Below.refl _ _ | refine Below.step ?_ (by assumption) | refine Below.setCell ?_ (by first | (simp;done) | (simp;omega) | omega) _ | refine Below.allocS ?_ _ | refine Below.drew ?_ | refine below_drewN ?_ _)
 ·rw [show hasV n id=false from decide_eq_false hh]
  clear hlk
  by_cases h0:id<0
  ·have z1:decide (id<0)=true:=decide_eq_true h0
   clear hh
   go_enter Tryz.func189,Tryz.ntmps189
   go_wp2_with fail
   refine A1.out.mono ?_;rintro e w5 ⟨rfl,rfl⟩
   go_wp2_with fail
   refine bodyPost_ret (v:=.tuple #[.agg #[.int .u64 0,.int .u32 0,.int .u32 0],.int .i64 2]) (by simp [results,Tryz.results189,go_sem]) rfl ⟨rfl,?_⟩
   repeat (first | exact Below.refl _ _ | refine Below.step ?_ (by assumption) | refine Below.setCell ?_ (by first | (simp;done) | (simp;omega) | omega) _ | refine Below.allocS ?_ _ | refine Below.drew ?_ | refine below_drewN ?_ _)
  ·have z1:decide (id<0)=false:=decide_eq_false h0
   have z2:decide (n≤id)=true:=decide_eq_true (by omega)
   have z2':decide (id ≥ n)=true:=decide_eq_true (by omega)
   clear hh h0
   go_enter Tryz.func189,Tryz.ntmps189
   go_wp2_with fail
   refine A1.out.mono ?_;rintro e w5 ⟨rfl,rfl⟩
   go_wp2_with fail
   refine bodyPost_ret (v:=.tuple #[.agg #[.int .u64 0,.int .u32 0,.int .u32 0],.int .i64 2]) (by simp [results,Tryz.results189,go_sem]) rfl ⟨rfl,?_⟩
   repeat (first | exact Below.refl _ _ | refine Below.step ?_ (by assumption) | refine Below.setCell ?_ (by first | (simp;done) | (simp;omega) | omega) _ | refine Below.allocS ?_ _ | refine Below.drew ?_ | refine below_drewN ?_ _)
def riseF (S:Items) (fl:Int):Int:=match S with | []=>fl | x::_=>max fl x.2
set_option maxRecDepth 100000 in
set_option maxHeartbeats 1000000 in
theorem rise_at {q p bm:Nat} {Fh:List Nat} {n:Int} {S:Items} {f:Int→Option Ent} {c:Nat} {fl ld:Int} (w:World) (h:QRaw w q p bm Fh n S f c fl ld) :
  Calls Tryz.prog 211 #[.pointer (some ⟨q,0,none⟩)] w fun e w'=>e=.returned (.tuple #[])∧QRaw w' q p bm Fh n S f c (riseF S fl) ld∧Kept [q] w w':=by
 have HQ:=Lib.hid h
 have c0:=h.c0
 have A1:=Lib.hid (Least_at w h.heap)
 clear h
 cases S with
 | nil =>
  go_enter Tryz.func211,Tryz.ntmps211
  go_wp2_with fail
  refine A1.out.mono ?_;rintro e w5 ⟨rfl,hg5⟩
  rw [show leastV ([]:Items)=.tuple #[.agg #[.int .i64 0,.int .u64 0],.bool false] from rfl]
  have HB:=Lib.hid hg5.below
  clear hg5
  go_wp2_with fail
  go_end0
  have hb:=Below.step HB.out (below_a w5 (.cells #[.int .i64 0,.int .u64 0] 277))
  exact ⟨rfl,HQ.out.below hb,Kept.of hb⟩
 | cons x r =>
  go_enter Tryz.func211,Tryz.ntmps211
  go_wp2_with fail
  refine A1.out.mono ?_;rintro e w5 ⟨rfl,hg5⟩
  rw [show leastV (x::r:Items)=.tuple #[.agg #[.int .i64 x.1,.int .u64 x.2],.bool true] from rfl]
  have hb:=Below.step hg5.below (below_a w5 (.cells #[.int .i64 x.1,.int .u64 x.2] 277))
  have HQ5:=Lib.hid (HQ.out.below hb)
  have HB:=Lib.hid hb
  have c3:=HQ5.out.c3
  have f3:=HQ5.out.fr 3
  have y1:=cell_nw w5 #[.int .i64 x.1,.int .u64 x.2] 277 1 _ rfl
  clear hg5 c0 hb
  go_wp2_with fail
  generalize w5.heap.size=b5 at *
  generalize w5.alloc (.cells #[.int .i64 x.1,.int .u64 x.2] 277)=w6 at *
  go_region
  go_wp2_with fail
  obtain ⟨h1,h2⟩:=(HQ5.out.below (Below.refl w6.heap.size w6).drew).floored (max fl x.2)
  go_end0
  exact ⟨rfl,h1,((Kept.of HB.out).drew).trans h2⟩
theorem Step.lift {Fh Fh':List Nat} {w w':World} (h:Step Fh w Fh' w') (q bm:Nat):Step (q::bm::Fh) w (q::bm::Fh') w':=
 ⟨h.kept.mono (fun b hb=>by simp [hb]),fun b hb=>by
  simp only [List.mem_cons] at hb ⊢
  rcases hb with hb | hb | hb
  ·exact Or.inl (Or.inl hb)
  ·exact Or.inl (Or.inr (Or.inl hb))
  ·rcases h.new b hb with k | k
   ·exact Or.inl (Or.inr (Or.inr k))
   ·exact Or.inr k⟩
theorem Step.inn {F G:List Nat} {w w':World} (h:Kept G w w') (hs:∀ b∈G,b∈F):Step F w F w':=⟨h.mono hs,fun b hb=>Or.inl hb⟩
def enterC (n:Int) (M:Mems) (id:Int) (x:Ent):Int:=if hasV n id then (if Ch.Ok x.1 x.2.1 x.2.2 then (if (entM M id).isSome then 240 else 0) else 2) else 2
def enterM (n:Int) (M:Mems) (id:Int) (x:Ent):Mems:=if enterC n M id x=0 then putM M (id,x) else M
def enterF (n:Int) (M:Mems) (id:Int) (x:Ent) (fl:Int):Int:=if enterC n M id x=0 then riseF (itemsM (putM M (id,x))) fl else fl
set_option maxRecDepth 100000 in
set_option maxHeartbeats 4000000 in
theorem Enter_at {q:Nat} {F:List Nat} {n:Int} {M:Mems} {fl:Int} (id:Int) (x:Ent) (w:World) (h:QIn w q F n M fl) (hid:(Lit.int .i64 id).wf=true) (hx:Ch.Fits x.1 x.2.1 x.2.2) :
  Calls Tryz.prog 143 #[.pointer (some ⟨q,0,none⟩),.int .i64 id,.agg #[.int .u64 x.1,.int .u32 x.2.1,.int .u32 x.2.2]] w (QDid w q F n (.int .i64 (enterC n M id x)) (enterM n M id x) (enterF n M id x fl)):=by
 have HQ:=Lib.hid h
 obtain ⟨p,bm,Fh,f,hr,rfl,hfe,hok,hf0,hf1⟩:=h
 have HR:=Lib.hid hr
 obtain ⟨W0,hW0⟩:∃ W0,W0=w.alloc (.cells #[.int .u64 x.1,.int .u32 x.2.1,.int .u32 x.2.2] 107):=⟨_,rfl⟩
 have HB0:=Lib.hid (show Below w.heap.size w W0 by rw [hW0];exact below_a _ _)
 have x0:W0.cell? ⟨w.heap.size,0,none⟩=some (.int .u64 x.1):=by rw [hW0];exact cell_nw _ _ _ 0 _ rfl
 have x1:W0.cell? ⟨w.heap.size,1,none⟩=some (.int .u32 x.2.1):=by rw [hW0];exact cell_nw _ _ _ 1 _ rfl
 have x2:W0.cell? ⟨w.heap.size,2,none⟩=some (.int .u32 x.2.2):=by rw [hW0];exact cell_nw _ _ _ 2 _ rfl
 have HW0:=Lib.hid hW0
 have A1:=Lib.hid (qfind_at id W0 (hr.below HB0.out) hid)
 have A2:=Lib.hid fun W=>right_any x.1 x.2.1 x.2.2 W hx
 have HID:=Lib.hid hid
 have HX:=Lib.hid hx
 have HOK:=Lib.hid hok
 have HFE:=Lib.hid hfe
 have HFL:=Lib.hid (And.intro hf0 hf1)
 clear hr hW0 hid hx hok hf0 hf1
 unfold qfindV at A1
 cases hv:hasV n id with
 | false =>
  rw [hv] at A1
  have E:=Lib.hid (show enterC n M id x=2 by unfold enterC;rw [hv];rfl)
  have EM:=Lib.hid (show enterM n M id x=M by unfold enterM;rw [E.out];rfl)
  have EF:=Lib.hid (show enterF n M id x fl=fl by unfold enterF;rw [E.out];rfl)
  clear hfe
  go_enter Tryz.func143,Tryz.ntmps143
  go_wp2_with fail
  rw [← HW0.out]
  refine A1.out.mono ?_;rintro e w5 ⟨rfl,hb5⟩
  have HB5:=Lib.hid (Below.step HB0.out hb5)
  clear hb5
  go_wp2_with fail
  go_ret
  rw [E.out,EM.out,EF.out]
  exact ⟨rfl,QAfter.same HQ.out (Below.step HB5.out (below_a _ _))⟩
 | true =>
  rw [hv] at A1
  cases hm:entM M id with
  | some y =>
   rw [hfe,hm] at A1
   by_cases hOk:Ch.Ok x.1 x.2.1 x.2.2
   ·have E:=Lib.hid (show enterC n M id x=240 by unfold enterC;rw [hv,hm,if_pos rfl,if_pos hOk];rfl)
    have hz:Ch.okB x.1 x.2.1 x.2.2=true:=decide_eq_true hOk
    have EM:=Lib.hid (show enterM n M id x=M by unfold enterM;rw [E.out];rfl)
    have EF:=Lib.hid (show enterF n M id x fl=fl by unfold enterF;rw [E.out];rfl)
    clear hfe hOk hm hv
    go_enter Tryz.func143,Tryz.ntmps143
    go_wp2_with fail
    rw [← HW0.out]
    refine A1.out.mono ?_;rintro e w5 ⟨rfl,hb5⟩
    have x0:=fun o=>cell_al o (cell_later hb5 x0)
    have x1:=fun o=>cell_al o (cell_later hb5 x1)
    have x2:=fun o=>cell_al o (cell_later hb5 x2)
    have HB5:=Lib.hid (Below.step HB0.out hb5)
    clear hb5
    go_wp2_with fail
    refine (A2.out _).mono ?_;rintro e w7 ⟨rfl,hb7⟩
    rw [hz]
    have HB7:=Lib.hid (Below.step (Below.step HB5.out (below_a _ _)) hb7)
    clear hb7
    go_wp2_with fail
    go_ret
    rw [E.out,EM.out,EF.out]
    exact ⟨rfl,QAfter.same HQ.out HB7.out⟩
   ·have E:=Lib.hid (show enterC n M id x=2 by unfold enterC;rw [hv,if_pos rfl,if_neg hOk])
    have hz:Ch.okB x.1 x.2.1 x.2.2=false:=decide_eq_false hOk
    have EM:=Lib.hid (show enterM n M id x=M by unfold enterM;rw [E.out];rfl)
    have EF:=Lib.hid (show enterF n M id x fl=fl by unfold enterF;rw [E.out];rfl)
    clear hfe hOk hm hv
    go_enter Tryz.func143,Tryz.ntmps143
    go_wp2_with fail
    rw [← HW0.out]
    refine A1.out.mono ?_;rintro e w5 ⟨rfl,hb5⟩
    have x0:=fun o=>cell_al o (cell_later hb5 x0)
    have x1:=fun o=>cell_al o (cell_later hb5 x1)
    have x2:=fun o=>cell_al o (cell_later hb5 x2)
    have HB5:=Lib.hid (Below.step HB0.out hb5)
    clear hb5
    go_wp2_with fail
    refine (A2.out _).mono ?_;rintro e w7 ⟨rfl,hb7⟩
    rw [hz]
    have HB7:=Lib.hid (Below.step (Below.step HB5.out (below_a _ _)) hb7)
    clear hb7
    go_wp2_with fail
    go_ret
    rw [E.out,EM.out,EF.out]
    exact ⟨rfl,QAfter.same HQ.out HB7.out⟩
  | none =>
   rw [hfe,hm] at A1
   by_cases hOk:Ch.Ok x.1 x.2.1 x.2.2
   ·have E:=Lib.hid (show enterC n M id x=0 by unfold enterC;rw [hv,hm,if_pos rfl,if_pos hOk];rfl)
    have EM:=Lib.hid (show enterM n M id x=putM M (id,x) by unfold enterM;rw [E.out];rfl)
    have EF:=Lib.hid (show enterF n M id x fl=riseF (itemsM (putM M (id,x))) fl by unfold enterF;rw [E.out];rfl)
    have hz:Ch.okB x.1 x.2.1 x.2.2=true:=decide_eq_true hOk
    have HOk:=Lib.hid hOk
    have HM:=Lib.hid hm
    have HV:=Lib.hid hv
    clear hfe hOk hm hv
    go_enter Tryz.func143,Tryz.ntmps143
    go_wp2_with fail
    rw [← HW0.out]
    refine A1.out.mono ?_;rintro e w5 ⟨rfl,hb5⟩
    have x0:=cell_al (.cells #[.int .u64 0,.int .u32 0,.int .u32 0] 107) (cell_later hb5 x0)
    have x1:=cell_al (.cells #[.int .u64 0,.int .u32 0,.int .u32 0] 107) (cell_later hb5 x1)
    have x2:=cell_al (.cells #[.int .u64 0,.int .u32 0,.int .u32 0] 107) (cell_later hb5 x2)
    have HB5:=Lib.hid (Below.step (Below.step HB0.out hb5) (below_a w5 (.cells #[.int .u64 0,.int .u32 0,.int .u32 0] 107)))
    clear hb5
    go_wp2_with fail
    generalize w5.alloc (.cells #[.int .u64 0,.int .u32 0,.int .u32 0] 107)=w6 at *
    refine (A2.out w6).mono ?_;rintro e w7 ⟨rfl,hb7⟩
    rw [hz]
    replace x0:=cell_later hb7 x0
    replace x1:=cell_later hb7 x1
    replace x2:=cell_later hb7 x2
    have HB7:=Lib.hid (Below.step HB5.out hb7)
    have HR7:=Lib.hid (HR.out.below HB7.out)
    have c0:=HR7.out.c0
    clear hb7
    go_wp2_with fail
    obtain ⟨bx,hbx⟩:∃ b,b=w.heap.size:=⟨_,rfl⟩
    rw [← hbx] at x0 x1 x2 ⊢
    have HBX:=Lib.hid hbx
    have nq:q∉Fh:=HR7.out.nq
    have nx:bx∉Fh:=fun m=>by have:=HQ.out.lt bx (by simp [m]);omega
    have HH:=Lib.hid (show HeapIn w7.drew p Fh n (itemsM M) from HR7.out.heap.below (Below.refl _ _).drew)
    have HKY:=Lib.hid (show 0≤x.1∧x.1≤18446744073709551615 by have:=HOk.out;unfold Ch.Ok at this;omega)
    clear hbx
    refine startA (S:=fun w'=>Kept Fh w7 w'∧w'.cell? ⟨q,0,none⟩=some (.pointer (some ⟨p,0,none⟩))∧w'.cell? ⟨bx,0,none⟩=some (.int .u64 x.1)) ⟨Kept.refl _ _,c0,x0⟩ (fun h=>heldK_2 (kept_dr _ _) h) (fun hS0 hHeld=>?_)
    refine takeA 0 ?_
    refine takeA 1 ?_
    refine takeA 2 ?_
    refine takeA 3 ?_
    refine takeA 4 ?_
    refine takeA 5 ?_
    refine takeA 6 ?_
    refine takeA 7 ?_
    refine readyA [8] (consA (fun K hK=>?_) .nil)
    go_simp
    refine (Put_at id x.1 _ HH.out HID.out HKY.out).mono ?_
    rintro e w9 ⟨rfl,hA9⟩
    obtain ⟨Fh9,h9,s9⟩:=hA9.split
    have hk9:Kept Fh w7.drew w9:=s9.kept
    go_wp2_with fail
    refine outA hK kpK_2 (fun hHeld8=>?_)
    clear hK K
    refine doneA ?_
    skip
    have hps:putS n (itemsM M) id x.1=itemsM (putM M (id,x)):=by
     rw [items_put]
     have hr0:putRes n (itemsM M) id=0:=by unfold putRes;rw [HV.out,key_ent,HM.out];rfl
     unfold putS
     rw [if_pos hr0];rfl
    rw [hps] at h9
    have hQ9:=(HR7.out.below (Below.refl w7.heap.size w7).drew).heaped s9 h9
    have HQ9:=Lib.hid hQ9
    have HS9:=Lib.hid ((Step.of (F:=q::bm::Fh) (HB7.out.drew)).trans (s9.lift q bm))
    have hnb:=HR7.out.nb
    replace x0:=s9.cell nx x0
    replace x1:=s9.cell nx x1
    replace x2:=s9.cell nx x2
    have c2:=hQ9.c2
    have hlen:M.length<maxLen:=by have:=HQ.out.ids;unfold maxLen;omega
    have hbm:bx≠bm:=fun e=>by have:=HQ.out.lt bm (by simp);have:=HBX.out;omega
    obtain ⟨w10,hrun,hm10,hg10⟩:=(hQ9.map.below (Below.refl w9.heap.size w9).drew).put elemE undE hlen HID.out (p:=x) trivial
    rw [HFE.out,HM.out] at hm10
    simp only [encE] at hrun
    have HM10:=Lib.hid hm10
    have HG10:=Lib.hid hg10
    have HBM:=Lib.hid hbm
    clear hps hHeld8 hHeld hS0 hk9 hA9 h9 s9 hQ9 hnb hlen hm10 hg10 hbm c0
    go_wp2_with fail
    go_region
    obtain ⟨hQ10,hk10⟩:=(HQ9.out.below (Below.refl w9.heap.size w9).drew).mapped HG10.out HM10.out
    have HQ10:=Lib.hid hQ10
    have HS10:=Lib.hid (HS9.out.trans ((Step.of (Below.refl w9.heap.size w9).drew).trans (Step.inn (F:=q::bm::Fh9) hk10 (fun b hb=>by simp at hb;simp [hb]))))
    replace x2:=hk10.cellAt (cell_dr x2) (by simpa using HBM.out)
    have c4:=hQ10.c4
    have f4:=hQ10.fr 4
    have hld:=load_le HOK.out.ok
    have hxw:=HOk.out
    unfold Ch.Ok at hxw
    have hlen:=HQ.out.ids
    have hw1:IntKind.i64.wrap x.2.2=x.2.2:=IntWalk.i64_in _ (by omega)
    have hw2:IntKind.i64.wrap (loadM M+x.2.2)=loadM M+x.2.2:=IntWalk.i64_in _ (by omega)
    have hw1':wrap64 x.2.2=x.2.2:=IntWalk.wrap64_in _ (by omega)
    have hw2':wrap64 (loadM M+x.2.2)=loadM M+x.2.2:=IntWalk.wrap64_in _ (by omega)
    clear hrun hQ10 hk10 hld hxw hlen x0 x1 c2
    go_wp2_with fail
    go_region
    obtain ⟨hQ11,hk11⟩:=(HQ10.out.below (Below.refl w10.heap.size w10).drew).loaded (loadM M+x.2.2)
    have HQ11:=Lib.hid hQ11
    have HS11:=Lib.hid (HS10.out.trans ((Step.of (Below.refl w10.heap.size w10).drew).trans (Step.inn (F:=q::bm::Fh9) hk11 (fun b hb=>by simp at hb;simp [hb]))))
    clear hQ11 hk11 x2 c4 f4
    go_wp2_with fail
    refine (rise_at _ HQ11.out).mono ?_
    rintro e w12 ⟨rfl,hQ12,hk12⟩
    have HQ12:=Lib.hid hQ12
    have HS12:=Lib.hid (HS11.out.trans (Step.inn (F:=q::bm::Fh9) hk12 (fun b hb=>by simp at hb;simp [hb])))
    clear hQ12 hk12
    go_wp2_with fail
    go_ret
    rw [E.out,EM.out,EF.out]
    refine ⟨rfl,q::bm::Fh9,⟨p,bm,Fh9,setF f id (some x),?_,rfl,fun j=>?_,?_,?_⟩,HS12.out⟩
    ·have hq:=HQ12.out
     rw [← load_put M (id,x)] at hq
     have hc:putC ((none:Option Ent).map fun _=>(0:Int)) M.length=(putM M (id,x)).length:=by rw [put_len];rfl
     rw [hc] at hq
     exact hq
    ·rw [ent_put HOK.out.nod HM.out]
     unfold setF
     rw [HFE.out]
    ·refine ⟨put_nodup HOK.out.nod HM.out,HQ12.out.heap.ids.2.1,fun m hm=>?_⟩
     rcases put_mem.1 hm with rfl | hm
     ·exact HOk.out
     ·exact HOK.out.ok m hm
    ·have h1:=HFL.out
     have h2:=HQ12.out.heap.ids.2.2.1
     unfold riseF
     split
     ·exact h1
     ·rename_i y r e
      have:=h2 y (by rw [e];simp)
      omega
   ·have E:=Lib.hid (show enterC n M id x=2 by unfold enterC;rw [hv,if_pos rfl,if_neg hOk])
    have hz:Ch.okB x.1 x.2.1 x.2.2=false:=decide_eq_false hOk
    have EM:=Lib.hid (show enterM n M id x=M by unfold enterM;rw [E.out];rfl)
    have EF:=Lib.hid (show enterF n M id x fl=fl by unfold enterF;rw [E.out];rfl)
    clear hfe hOk hm hv
    go_enter Tryz.func143,Tryz.ntmps143
    go_wp2_with fail
    rw [← HW0.out]
    refine A1.out.mono ?_;rintro e w5 ⟨rfl,hb5⟩
    have x0:=fun o=>cell_al o (cell_later hb5 x0)
    have x1:=fun o=>cell_al o (cell_later hb5 x1)
    have x2:=fun o=>cell_al o (cell_later hb5 x2)
    have HB5:=Lib.hid (Below.step HB0.out hb5)
    clear hb5
    go_wp2_with fail
    refine (A2.out _).mono ?_;rintro e w7 ⟨rfl,hb7⟩
    rw [hz]
    have HB7:=Lib.hid (Below.step (Below.step HB5.out (below_a _ _)) hb7)
    clear hb7
    go_wp2_with fail
    go_ret
    rw [E.out,EM.out,EF.out]
    exact ⟨rfl,QAfter.same HQ.out HB7.out⟩
theorem Step.set {F F' G:List Nat} {w w1 w2:World} (h:Step F w F' w1) (hk:Kept G w1 w2) (hG:∀ b∈G,w.heap.size≤b):Step F w F' w2:=
 ⟨⟨hk.os.trans h.kept.os,hk.tape.trans h.kept.tape,hk.output.trans h.kept.output,Nat.le_trans h.kept.size hk.size,fun k hl hn=>(hk.block k (Nat.lt_of_lt_of_le hl h.kept.size) (fun m=>by have:=hG k m;omega)).trans (h.kept.block k hl hn)⟩,h.new⟩
def leaveC (n:Int) (M:Mems) (id:Int):Int:=if hasV n id then (if (entM M id).isSome then 0 else 6) else 2
def leaveM (n:Int) (M:Mems) (id:Int):Mems:=if leaveC n M id=0 then outM M id else M
def leaveF (n:Int) (M:Mems) (id:Int) (fl:Int):Int:=if leaveC n M id=0 then riseF (itemsM (outM M id)) fl else fl
def leaveE (n:Int) (M:Mems) (id:Int):Ent:=if leaveC n M id=0 then (entM M id).getD (0,0,0) else (0,0,0)
set_option maxRecDepth 100000 in
set_option maxHeartbeats 4000000 in
theorem Leave_at {q:Nat} {F:List Nat} {n:Int} {M:Mems} {fl:Int} (id:Int) (w:World) (h:QIn w q F n M fl) (hid:(Lit.int .i64 id).wf=true) :
  Calls Tryz.prog 304 #[.pointer (some ⟨q,0,none⟩),.int .i64 id] w (QDid w q F n (.tuple #[.agg #[.int .u64 (leaveE n M id).1,.int .u32 (leaveE n M id).2.1,.int .u32 (leaveE n M id).2.2],.int .i64 (leaveC n M id)]) (leaveM n M id) (leaveF n M id fl)):=by
 have HQ:=Lib.hid h
 obtain ⟨p,bm,Fh,f,hr,rfl,hfe,hok,hf0,hf1⟩:=h
 have HR:=Lib.hid hr
 obtain ⟨W0,hW0⟩:∃ W0,W0=w.alloc (.cells #[.int .u64 0,.int .u32 0,.int .u32 0] 107):=⟨_,rfl⟩
 have HB0:=Lib.hid (show Below w.heap.size w W0 by rw [hW0];exact below_a _ _)
 have z0:W0.cell? ⟨w.heap.size,0,none⟩=some (.int .u64 0):=by rw [hW0];exact cell_nw _ _ _ 0 _ rfl
 have z1:W0.cell? ⟨w.heap.size,1,none⟩=some (.int .u32 0):=by rw [hW0];exact cell_nw _ _ _ 1 _ rfl
 have z2:W0.cell? ⟨w.heap.size,2,none⟩=some (.int .u32 0):=by rw [hW0];exact cell_nw _ _ _ 2 _ rfl
 have g0:W0.frozen? ⟨w.heap.size,0,none⟩=false:=by rw [hW0];exact frz_nw _ _ _ 0
 have g1:W0.frozen? ⟨w.heap.size,1,none⟩=false:=by rw [hW0];exact frz_nw _ _ _ 1
 have g2:W0.frozen? ⟨w.heap.size,2,none⟩=false:=by rw [hW0];exact frz_nw _ _ _ 2
 have HLT0:=Lib.hid (show w.heap.size<W0.heap.size by rw [hW0];simp)
 have HW0:=Lib.hid hW0
 have A1:=Lib.hid (qfind_at id W0 (hr.below HB0.out) hid)
 have HID:=Lib.hid hid
 have HOK:=Lib.hid hok
 have HFE:=Lib.hid hfe
 have HFL:=Lib.hid (And.intro hf0 hf1)
 clear hr hW0 hid hok hf0 hf1
 unfold qfindV at A1
 have bad:∀ c:Int,c≠0→leaveC n M id=c→leaveE n M id=(0,0,0)∧leaveM n M id=M∧leaveF n M id fl=fl:=fun c hc e=>by
  unfold leaveE leaveM leaveF
  rw [e,if_neg hc,if_neg hc,if_neg hc]
  exact ⟨rfl,rfl,rfl⟩
 cases hv:hasV n id with
 | false =>
  rw [hv] at A1
  have E:=Lib.hid (show leaveC n M id=2 by unfold leaveC;rw [hv];rfl)
  have EB:=Lib.hid (bad 2 (by decide) E.out)
  clear hfe bad
  go_enter Tryz.func304,Tryz.ntmps304
  go_wp2_with fail
  rw [← HW0.out]
  refine A1.out.mono ?_;rintro e w5 ⟨rfl,hb5⟩
  replace g0:=frz_later (Below.step hb5 (below_a w5 (.cells #[.int .u64 0,.int .u32 0,.int .u32 0] 107))) g0 (lt_of_cell z0)
  replace z0:=cell_al (.cells #[.int .u64 0,.int .u32 0,.int .u32 0] 107) (cell_later hb5 z0)
  replace g1:=frz_later (Below.step hb5 (below_a w5 (.cells #[.int .u64 0,.int .u32 0,.int .u32 0] 107))) g1 (lt_of_cell z1)
  replace z1:=cell_al (.cells #[.int .u64 0,.int .u32 0,.int .u32 0] 107) (cell_later hb5 z1)
  replace g2:=frz_later (Below.step hb5 (below_a w5 (.cells #[.int .u64 0,.int .u32 0,.int .u32 0] 107))) g2 (lt_of_cell z2)
  replace z2:=cell_al (.cells #[.int .u64 0,.int .u32 0,.int .u32 0] 107) (cell_later hb5 z2)
  have HB5:=Lib.hid (Below.step (Below.step HB0.out hb5) (below_a w5 (.cells #[.int .u64 0,.int .u32 0,.int .u32 0] 107)))
  clear hb5
  go_wp2_with fail
  refine bodyPost_ret (v:=.tuple #[.agg #[.int .u64 0,.int .u32 0,.int .u32 0],.int .i64 2]) (by simp [results,Tryz.results304,go_sem, *]) rfl ?_
  rw [EB.out.1,EB.out.2.1,EB.out.2.2,E.out]
  refine ⟨rfl,QAfter.same HQ.out ?_⟩
  exact (((HB5.out.setCell (Nat.le_refl _) _).setCell (Nat.le_refl _) _).setCell (Nat.le_refl _) _)
 | true =>
  rw [hv] at A1
  cases hm:entM M id with
  | none =>
   rw [hfe,hm] at A1
   have E:=Lib.hid (show leaveC n M id=6 by unfold leaveC;rw [hv,hm];rfl)
   have EB:=Lib.hid (bad 6 (by decide) E.out)
   clear hfe bad
   go_enter Tryz.func304,Tryz.ntmps304
   go_wp2_with fail
   rw [← HW0.out]
   refine A1.out.mono ?_;rintro e w5 ⟨rfl,hb5⟩
   replace g0:=frz_later (Below.step hb5 (below_a w5 (.cells #[.int .u64 0,.int .u32 0,.int .u32 0] 107))) g0 (lt_of_cell z0)
   replace z0:=cell_al (.cells #[.int .u64 0,.int .u32 0,.int .u32 0] 107) (cell_later hb5 z0)
   replace g1:=frz_later (Below.step hb5 (below_a w5 (.cells #[.int .u64 0,.int .u32 0,.int .u32 0] 107))) g1 (lt_of_cell z1)
   replace z1:=cell_al (.cells #[.int .u64 0,.int .u32 0,.int .u32 0] 107) (cell_later hb5 z1)
   replace g2:=frz_later (Below.step hb5 (below_a w5 (.cells #[.int .u64 0,.int .u32 0,.int .u32 0] 107))) g2 (lt_of_cell z2)
   replace z2:=cell_al (.cells #[.int .u64 0,.int .u32 0,.int .u32 0] 107) (cell_later hb5 z2)
   have HB5:=Lib.hid (Below.step (Below.step HB0.out hb5) (below_a w5 (.cells #[.int .u64 0,.int .u32 0,.int .u32 0] 107)))
   clear hb5
   go_wp2_with fail
   refine bodyPost_ret (v:=.tuple #[.agg #[.int .u64 0,.int .u32 0,.int .u32 0],.int .i64 6]) (by simp [results,Tryz.results304,go_sem, *]) rfl ?_
   rw [EB.out.1,EB.out.2.1,EB.out.2.2,E.out]
   refine ⟨rfl,QAfter.same HQ.out ?_⟩
   exact (((HB5.out.setCell (Nat.le_refl _) _).setCell (Nat.le_refl _) _).setCell (Nat.le_refl _) _)
  | some x =>
   rw [hfe,hm] at A1
   have E:=Lib.hid (show leaveC n M id=0 by unfold leaveC;rw [hv,hm];rfl)
   have EM:=Lib.hid (show leaveM n M id=outM M id by unfold leaveM;rw [E.out];rfl)
   have EF:=Lib.hid (show leaveF n M id fl=riseF (itemsM (outM M id)) fl by unfold leaveF;rw [E.out];rfl)
   have EE:=Lib.hid (show leaveE n M id=x by unfold leaveE;rw [E.out,hm];rfl)
   have HM:=Lib.hid hm
   have HV:=Lib.hid hv
   clear hfe hm hv bad
   go_enter Tryz.func304,Tryz.ntmps304
   go_wp2_with fail
   rw [← HW0.out]
   refine A1.out.mono ?_;rintro e w5 ⟨rfl,hb5⟩
   replace g0:=frz_later (Below.step hb5 (below_a w5 (.cells #[.int .u64 x.1,.int .u32 x.2.1,.int .u32 x.2.2] 107))) g0 (lt_of_cell z0)
   replace z0:=cell_al (.cells #[.int .u64 x.1,.int .u32 x.2.1,.int .u32 x.2.2] 107) (cell_later hb5 z0)
   replace g1:=frz_later (Below.step hb5 (below_a w5 (.cells #[.int .u64 x.1,.int .u32 x.2.1,.int .u32 x.2.2] 107))) g1 (lt_of_cell z1)
   replace z1:=cell_al (.cells #[.int .u64 x.1,.int .u32 x.2.1,.int .u32 x.2.2] 107) (cell_later hb5 z1)
   replace g2:=frz_later (Below.step hb5 (below_a w5 (.cells #[.int .u64 x.1,.int .u32 x.2.1,.int .u32 x.2.2] 107))) g2 (lt_of_cell z2)
   replace z2:=cell_al (.cells #[.int .u64 x.1,.int .u32 x.2.1,.int .u32 x.2.2] 107) (cell_later hb5 z2)
   have y0:(w5.alloc (.cells #[.int .u64 x.1,.int .u32 x.2.1,.int .u32 x.2.2] 107)).cell? ⟨w5.heap.size,0,none⟩=some (.int .u64 x.1):=cell_nw w5 _ _ 0 _ rfl
   have y1:(w5.alloc (.cells #[.int .u64 x.1,.int .u32 x.2.1,.int .u32 x.2.2] 107)).cell? ⟨w5.heap.size,1,none⟩=some (.int .u32 x.2.1):=cell_nw w5 _ _ 1 _ rfl
   have y2:(w5.alloc (.cells #[.int .u64 x.1,.int .u32 x.2.1,.int .u32 x.2.2] 107)).cell? ⟨w5.heap.size,2,none⟩=some (.int .u32 x.2.2):=cell_nw w5 _ _ 2 _ rfl
   have HB6:=Lib.hid (Below.step (Below.step HB0.out hb5) (below_a w5 (.cells #[.int .u64 x.1,.int .u32 x.2.1,.int .u32 x.2.2] 107)))
   have HR6:=Lib.hid (HR.out.below HB6.out)
   have c0:=HR6.out.c0
   obtain ⟨bz,hbz⟩:∃ b,b=w.heap.size:=⟨_,rfl⟩
   obtain ⟨b6,hb6⟩:∃ b,b=w5.heap.size:=⟨_,rfl⟩
   have HZ6:=Lib.hid (show w.heap.size≤bz∧w.heap.size≤b6∧bz≠b6 from ⟨by omega,by have:=(Below.step HB0.out hb5).size;omega,by have h2:=hb5.size;have h3:=HLT0.out;omega⟩)
   clear hb5
   go_wp2_with fail
   rw [← hbz] at z0 z1 z2 g0 g1 g2 ⊢
   rw [← hb6] at y0 y1 y2 ⊢
   clear hbz hb6
   generalize w5.alloc (.cells #[.int .u64 x.1,.int .u32 x.2.1,.int .u32 x.2.2] 107)=w6 at *
   have nq:q∉Fh:=HR6.out.nq
   have nz:bz∉Fh:=fun m=>by have:=HQ.out.lt bz (by simp [m]);have:=HZ6.out;omega
   have n6:b6∉Fh:=fun m=>by have:=HQ.out.lt b6 (by simp [m]);have:=HZ6.out;omega
   refine (Out_at id _ HR6.out.heap HID.out).mono ?_
   rintro e w9 ⟨rfl,hA9⟩
   obtain ⟨Fh9,h9,s9⟩:=hA9.split
   have hps:outS n (itemsM M) id=itemsM (outM M id):=by
    rw [items_out]
    have hr0:outRes n (itemsM M) id=0:=by unfold outRes;rw [HV.out,key_ent,HM.out];rfl
    unfold outS
    rw [if_pos hr0]
   rw [hps] at h9
   have hQ9:=HR6.out.heaped s9 h9
   have HQ9:=Lib.hid hQ9
   have HS9:=Lib.hid ((Step.of (F:=q::bm::Fh) HB6.out).trans (s9.lift q bm))
   have NZ9:=Lib.hid (s9.off nz (lt_of_cell z0))
   replace g0:=s9.kept.frz g0 (lt_of_cell z0) nz
   replace z0:=s9.cell nz z0
   replace y0:=s9.cell n6 y0
   replace g1:=s9.kept.frz g1 (lt_of_cell z1) nz
   replace z1:=s9.cell nz z1
   replace y1:=s9.cell n6 y1
   replace g2:=s9.kept.frz g2 (lt_of_cell z2) nz
   replace z2:=s9.cell nz z2
   replace y2:=s9.cell n6 y2
   have c2:=hQ9.c2
   obtain ⟨w10,hrun,hm10,hg10⟩:=hQ9.map.del undE HID.out 0
   rw [HFE.out,HM.out] at hm10
   have HM10:=Lib.hid hm10
   have HG10:=Lib.hid hg10
   have hn6:b6≠bm:=fun e=>by have:=HQ.out.lt bm (by simp);have:=HZ6.out;omega
   have hnz:bz≠bm:=fun e=>by have:=HQ.out.lt bm (by simp);have:=HZ6.out;omega
   have hnq:bz≠q:=fun e=>by have:=HQ.out.lt q (by simp);have:=HZ6.out;omega
   have hn6q:b6≠q:=fun e=>by have:=HQ.out.lt q (by simp);have:=HZ6.out;omega
   have HNE:=Lib.hid (And.intro hn6 (And.intro hnz (And.intro hnq hn6q)))
   clear hps hA9 h9 s9 hQ9 hm10 hg10 c0 hn6 hnz hnq hn6q
   go_wp2_with fail
   obtain ⟨hQ10,hk10⟩:=HQ9.out.mapped HG10.out HM10.out
   have HQ10:=Lib.hid hQ10
   have HS10:=Lib.hid (HS9.out.trans (Step.inn (F:=q::bm::Fh9) hk10 (fun b hb=>by simp at hb;simp [hb])))
   replace g0:=hk10.frz g0 (lt_of_cell z0) (by simpa using HNE.out.2.1)
   replace z0:=hk10.cellAt z0 (by simpa using HNE.out.2.1)
   replace y0:=hk10.cellAt y0 (by simpa using HNE.out.1)
   replace g1:=hk10.frz g1 (lt_of_cell z1) (by simpa using HNE.out.2.1)
   replace z1:=hk10.cellAt z1 (by simpa using HNE.out.2.1)
   replace y1:=hk10.cellAt y1 (by simpa using HNE.out.1)
   replace g2:=hk10.frz g2 (lt_of_cell z2) (by simpa using HNE.out.2.1)
   replace z2:=hk10.cellAt z2 (by simpa using HNE.out.2.1)
   replace y2:=hk10.cellAt y2 (by simpa using HNE.out.1)
   have c4:=hQ10.c4
   have f4:=hQ10.fr 4
   have hld:=load_le HOK.out.ok
   have hxw:Ch.Ok x.1 x.2.1 x.2.2:=HOK.out.ok _ ((ent_some HOK.out.nod).1 HM.out)
   unfold Ch.Ok at hxw
   have hlen:=HQ.out.ids
   have hw1:IntKind.i64.wrap x.2.2=x.2.2:=IntWalk.i64_in _ (by omega)
   have hw2:IntKind.i64.wrap (loadM M - x.2.2)=loadM M - x.2.2:=IntWalk.i64_in _ (by omega)
   have hw1':wrap64 x.2.2=x.2.2:=IntWalk.wrap64_in _ (by omega)
   have hw2':wrap64 (loadM M - x.2.2)=loadM M - x.2.2:=IntWalk.wrap64_in _ (by omega)
   clear hrun hQ10 hk10 hld hxw hlen c2
   go_wp2_with fail
   go_region
   obtain ⟨hQ11,hk11⟩:=(HQ10.out.below (Below.refl w10.heap.size w10).drew).loaded (loadM M - x.2.2)
   have HQ11:=Lib.hid hQ11
   have HS11:=Lib.hid (HS10.out.trans ((Step.of (Below.refl w10.heap.size w10).drew).trans (Step.inn (F:=q::bm::Fh9) hk11 (fun b hb=>by simp at hb;simp [hb]))))
   replace g0:=hk11.frz (show w10.drew.frozen? _=false from g0) (lt_of_cell (cell_dr z0)) (by simpa using HNE.out.2.2.1)
   replace z0:=hk11.cellAt (cell_dr z0) (by simpa using HNE.out.2.2.1)
   replace y0:=hk11.cellAt (cell_dr y0) (by simpa using HNE.out.2.2.2)
   replace g1:=hk11.frz (show w10.drew.frozen? _=false from g1) (lt_of_cell (cell_dr z1)) (by simpa using HNE.out.2.2.1)
   replace z1:=hk11.cellAt (cell_dr z1) (by simpa using HNE.out.2.2.1)
   replace y1:=hk11.cellAt (cell_dr y1) (by simpa using HNE.out.2.2.2)
   replace g2:=hk11.frz (show w10.drew.frozen? _=false from g2) (lt_of_cell (cell_dr z2)) (by simpa using HNE.out.2.2.1)
   replace z2:=hk11.cellAt (cell_dr z2) (by simpa using HNE.out.2.2.1)
   replace y2:=hk11.cellAt (cell_dr y2) (by simpa using HNE.out.2.2.2)
   clear hQ11 hk11 c4 f4
   go_wp2_with fail
   refine (rise_at _ HQ11.out).mono ?_
   rintro e w12 ⟨rfl,hQ12,hk12⟩
   have HQ12:=Lib.hid hQ12
   have HS12:=Lib.hid (HS11.out.trans (Step.inn (F:=q::bm::Fh9) hk12 (fun b hb=>by simp at hb;simp [hb])))
   replace g0:=hk12.frz g0 (lt_of_cell z0) (by simpa using HNE.out.2.2.1)
   replace z0:=hk12.cellAt z0 (by simpa using HNE.out.2.2.1)
   replace y0:=hk12.cellAt y0 (by simpa using HNE.out.2.2.2)
   replace g1:=hk12.frz g1 (lt_of_cell z1) (by simpa using HNE.out.2.2.1)
   replace z1:=hk12.cellAt z1 (by simpa using HNE.out.2.2.1)
   replace y1:=hk12.cellAt y1 (by simpa using HNE.out.2.2.2)
   replace g2:=hk12.frz g2 (lt_of_cell z2) (by simpa using HNE.out.2.2.1)
   replace z2:=hk12.cellAt z2 (by simpa using HNE.out.2.2.1)
   replace y2:=hk12.cellAt y2 (by simpa using HNE.out.2.2.2)
   clear hQ12 hk12
   go_wp2_with fail
   refine bodyPost_ret (v:=.tuple #[.agg #[.int .u64 x.1,.int .u32 x.2.1,.int .u32 x.2.2],.int .i64 0]) (by simp [results,Tryz.results304,go_sem, *]) rfl ?_
   rw [E.out,EM.out,EF.out,EE.out]
   have KZ:Kept [bz] w12 (((w12.setCell ⟨bz,0,none⟩ (.int .u64 x.1)).setCell ⟨bz,1,none⟩ (.int .u32 x.2.1)).setCell ⟨bz,2,none⟩ (.int .u32 x.2.2)):=(((Kept.refl _ _).setCell (Or.inl (by simp)) _).setCell (Or.inl (by simp)) _).setCell (Or.inl (by simp)) _
   have hz9:bz∉q::bm::Fh9:=fun m=>by
    simp only [List.mem_cons] at m
    rcases m with m | m | m
    ·exact HNE.out.2.2.1 m
    ·exact HNE.out.2.1 m
    ·exact NZ9.out m
   refine ⟨rfl,q::bm::Fh9,⟨p,bm,Fh9,setF f id none,?_,rfl,fun j=>?_,?_,?_⟩,?_⟩
   ·have hq:=(HQ12.out.kept KZ (fun b hb m=>by simp at m;subst m;exact hz9 hb))
    rw [← load_out HOK.out.nod HM.out] at hq
    have hc:delC ((some x:Option Ent).map fun _=>(0:Int)) M.length=(outM M id).length:=by have:=out_len HOK.out.nod HM.out;unfold delC;simp;omega
    rw [hc] at hq
    exact hq
   ·rw [ent_out HOK.out.nod]
    unfold setF
    rw [HFE.out]
   ·exact ⟨out_nodup HOK.out.nod id,HQ12.out.heap.ids.2.1,fun m hm=>HOK.out.ok m (out_mem.1 hm).1⟩
   ·have h1:=HFL.out
    have h2:=HQ12.out.heap.ids.2.2.1
    unfold riseF
    split
    ·exact h1
    ·rename_i y r e
     have:=h2 y (by rw [e];simp)
     omega
   ·exact HS12.out.set KZ (fun b hb=>by simp at hb;subst hb;exact HZ6.out.1)
end Go.Proofs.YtapnaocdehahdaaGreat
