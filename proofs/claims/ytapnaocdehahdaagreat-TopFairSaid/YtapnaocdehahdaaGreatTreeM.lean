/-
  Trees of queues as values: what calls make of them, and what stays true (the plain part of layer 25; no tree in memory).
-/
import Derived.Test.YtapnaocdehahdaaGreatPkA
import Derived.Test.YtapnaocdehahdaaGreatKtB
import Derived.Test.YtapnaocdehahdaaGreatQuB
import Derived.Test.YtapnaocdehahdaaGreatQuA
import Derived.Test.YtapnaocdehahdaaGreatKtA
namespace Go.Proofs.YtapnaocdehahdaaGreat
open Go.RowKit Go.Maps Go.IntWalk Go.Lib
set_option linter.unusedVariables false
set_option linter.unusedSimpArgs false
attribute [local go_sem] Oper.semAt_some
def upd {α:Type} (f:Nat→α) (g:Nat) (x:α):Nat→α:=fun k=>if k=g then x else f k
theorem upd_same {α:Type} (f:Nat→α) (g:Nat) (x:α):upd f g x g=x:=if_pos rfl
theorem upd_other {α:Type} (f:Nat→α) {g k:Nat} (x:α) (h:k≠g):upd f g x k=f k:=if_neg h
theorem upd_id {α:Type} (f:Nat→α) (g:Nat):upd f g (f g)=f:=funext fun k=>by unfold upd;split <;> simp [*]
abbrev qN:Int:=65792
structure TSt where
 Gs:Grps
 M:Nat→Mems
 fl:Nat→Int
 A:Nat→Ent
 T:Int→Option Int
 c:Nat
 cr:Int
def TSt.n (s:TSt):Nat:=s.Gs.length
def nameV (id:Int):Bool:=decide (1≤id∧id≤65535)
def findC (s:TSt) (id:Int):Int:=if nameV id then (if (s.T id).isSome then 0 else 6) else 2
def findG (s:TSt) (id:Int):Int:=if nameV id then (s.T id).getD 0 else 0
def newX (fl k:Int):Ent:=if 1≤k∧k≤65536 then (fl,0,k) else (0,0,0)
def newC (k:Int):Int:=if 1≤k∧k≤65536 then 0 else 2
def PlP (w:World) (x:Ent) (c:Int) (e:Ending) (w':World):Prop:=e=.returned (.tuple #[.agg #[.int .u64 x.1,.int .u32 x.2.1,.int .u32 x.2.2],.int .i64 c])∧Below w.heap.size w w'
def wokenX (x:Ent) (fl cr:Int):Ent:=if Ch.Ok x.1 x.2.1 x.2.2 then (if x.1<fl - min fl cr then (fl - min fl cr,0,x.2.2) else x) else (0,0,0)
def wokenC (x:Ent):Int:=if Ch.Ok x.1 x.2.1 x.2.2 then 0 else 2
def pathT (P:Nat→Nat) (g:Nat):List Nat:=if h:0<g∧P g<g then g::pathT P (P g) else []
termination_by g
decreasing_by exact h.2
theorem pathT_zero (P:Nat→Nat):pathT P 0=[]:=by rw [pathT];simp
theorem pathT_pos {P:Nat→Nat} {g:Nat} (h:0<g) (hp:P g<g):pathT P g=g::pathT P (P g):=by rw [pathT,dif_pos ⟨h,hp⟩]
theorem pathT_len {P:Nat→Nat}:∀ g,(pathT P g).length≤g:=by
 intro g
 induction g using Nat.strongRecOn with
 | ind g ih =>
  rw [pathT]
  split
  ·rename_i h
   have:=ih _ h.2
   rw [List.length_cons]
   omega
  ·simp
theorem pathT_mem {P:Nat→Nat}:∀ (g:Nat) {x:Nat},x∈pathT P g→0<x∧x≤g∧P x<x:=by
 intro g
 induction g using Nat.strongRecOn with
 | ind g ih =>
  intro x hx
  rw [pathT] at hx
  split at hx
  ·rename_i h
   rcases List.mem_cons.1 hx with rfl | hx
   ·exact ⟨h.1,Nat.le_refl _,h.2⟩
   ·have:=ih _ h.2 hx
    omega
  ·cases hx
theorem wp_world {c:Code} {P:Program} {Q:Exit→Act→World→Prop} {a:Act} {W:World} (h:∀ W',W'=W→c.wp P Q a W'):c.wp P Q a W:=h _ rfl
theorem wfI {x:Int} (h0:-9223372036854775808≤x) (h1:x≤9223372036854775807):(Lit.int .i64 x).wf=true:=by
 simp only [Lit.wf,Bool.and_eq_true,decide_eq_true_eq,IntKind.min,IntKind.max,IntKind.bits,IntKind.signed]
 simp
 omega
theorem RightG.par {Gs:Grps} (h:RightG Gs) {k:Nat} (hk:k<Gs.length):((parG Gs k:Nat):Int)=Gs[k]!.1∧(0<k→parG Gs k<k)∧parG Gs k≤k:=by
 by_cases hz:k=0
 ·subst hz
  unfold parG
  rw [h.root]
  simp
 ·have:=gErr_par (h.rest k (by omega) hk)
  unfold parG
  omega
def chgQ (tk:Int) (s:TSt) (g:Nat) (id:Int):TSt:={ s with M:=upd s.M g (chS (decide (tkOk tk)) qN (s.M g) id (chgX tk)),fl:=upd s.fl g (chF (decide (tkOk tk)) qN (s.M g) id (chgX tk) (s.fl g)) }
def chgUp (tk:Int) (P:Nat→Nat) (s:TSt) (l:List Nat):TSt:=l.foldl (fun s own=>chgQ tk s (P own) (65536+own)) s
def pchgC (s:TSt) (id tk:Int):Int:=if tkOk tk then findC s id else 2
def pchgS (s:TSt) (id tk:Int):TSt:=if pchgC s id tk=0 then chgUp tk (parG s.Gs) (chgQ tk s (findG s id).toNat id) (pathT (parG s.Gs) (findG s id).toNat) else s
theorem findC_zero {s:TSt} {id:Int} (h:findC s id=0):∃ g,s.T id=some g∧findG s id=g:=by
 unfold findC at h
 unfold findG
 by_cases hn:nameV id=true
 ·rw [if_pos hn] at h ⊢
  cases ht:s.T id with
  | none=>rw [ht] at h;simp at h
  | some g=>exact ⟨g,rfl,rfl⟩
 ·rw [if_neg hn] at h
  cases h
def set3 (w:World) (b o:Nat) (x:Ent):World:=((w.setCell ⟨b,o,none⟩ (.int .u64 x.1)).setCell ⟨b,o+1,none⟩ (.int .u32 x.2.1)).setCell ⟨b,o+2,none⟩ (.int .u32 x.2.2)
theorem set3_kept (w:World) (b o:Nat) (x:Ent):Kept [b] w (set3 w b o x):=(((Kept.refl _ _).setCell (Or.inl (by simp)) _).setCell (Or.inl (by simp)) _).setCell (Or.inl (by simp)) _
def lvQ (s:TSt) (g:Nat) (id:Int):TSt:={ s with M:=upd s.M g (leaveM qN (s.M g) id),fl:=upd s.fl g (leaveF qN (s.M g) id (s.fl g)) }
def lvA (s:TSt) (own p:Nat):TSt:={ lvQ s p (65536+own) with A:=upd s.A own (leaveE qN (s.M p) (65536+own)) }
def lvStep (P:Nat→Nat) (q:TSt×Bool) (own:Nat):TSt×Bool:=if q.2 then q else if (q.1.M own).isEmpty then (lvA q.1 own (P own),false) else (q.1,true)
def lvUp (P:Nat→Nat) (s:TSt) (l:List Nat):TSt×Bool:=l.foldl (lvStep P) (s,false)
theorem lv_stop (P:Nat→Nat) (s:TSt) (l:List Nat):l.foldl (lvStep P) (s,true)=(s,true):=by
 induction l with
 | nil=>rfl
 | cons a l ih=>exact ih
def lvT (s:TSt) (id:Int):TSt:={ s with T:=setF s.T id none,c:=delC (s.T id) s.c }
def plvS (s:TSt) (id:Int):TSt:=if findC s id=0 then (lvUp (parG s.Gs) (lvT (lvQ s (findG s id).toNat id) id) (pathT (parG s.Gs) (findG s id).toNat)).1 else s
theorem leaveE_fits {w:World} {q:Nat} {F:List Nat} {n:Int} {M:Mems} {fl:Int} (h:QIn w q F n M fl) (id:Int):Ch.Fits (leaveE n M id).1 (leaveE n M id).2.1 (leaveE n M id).2.2:=by
 unfold leaveE
 split
 ·cases hm:entM M id with
  | none=>unfold Ch.Fits;simp
  | some x =>
   have:=h.ids.1.ok _ ((ent_some h.ids.1.nod).1 hm)
   exact Ch.Ok.fits this
 ·unfold Ch.Fits;simp
def enQ (s:TSt) (g:Nat) (id:Int) (x:Ent):TSt:={ s with M:=upd s.M g (enterM qN (s.M g) id x),fl:=upd s.fl g (enterF qN (s.M g) id x (s.fl g)) }
def enT (s:TSt) (g:Nat) (id:Int):TSt:={ s with T:=setF s.T id (some (g:Int)),c:=putC (s.T id) s.c }
def enStep (P:Nat→Nat) (q:TSt×Bool) (own:Nat):TSt×Bool:=if q.2 then (enQ q.1 (P own) (65536+own) (wokenX (q.1.A own) (q.1.fl (P own)) q.1.cr),(q.1.M (P own)).isEmpty) else q
def enUp (P:Nat→Nat) (s:TSt) (e:Bool) (l:List Nat):TSt×Bool:=l.foldl (enStep P) (s,e)
theorem en_stop (P:Nat→Nat) (s:TSt) (l:List Nat):l.foldl (enStep P) (s,false)=(s,false):=by
 induction l with
 | nil=>rfl
 | cons a l ih=>exact ih
def enC (s:TSt) (id g ac:Int):Int:=if nameV id && hasV (s.n:Int) g then (if ac=0 then (if (s.T id).isSome then 250 else 0) else 2) else 2
def enS (s:TSt) (id g ac:Int) (x:Ent):TSt:=if enC s id g ac=0 then (enUp (parG s.Gs) (enT (enQ s g.toNat id x) g.toNat id) (s.M g.toNat).isEmpty (pathT (parG s.Gs) g.toNat)).1 else s
theorem len_zero {α:Type} (l:List α):(((l.length:Nat):Int) == 0)=l.isEmpty:=by
 cases l with
 | nil=>rfl
 | cons a l =>
  simp only [List.length_cons,List.isEmpty_cons]
  exact beq_eq_false_iff_ne.2 (by omega)
theorem tasks_le {L:List Int} (h:L.Nodup) (hb:∀ x∈L,1≤x∧x≤65535):L.length≤65536:=holes_le 65536 L h (fun x hx=>by have:=hb x hx;omega)
theorem wokenX_fits {x:Ent} {fl cr:Int} (hx:Ch.Fits x.1 x.2.1 x.2.2) (hf:0≤fl∧fl≤18446744073709551615) (hc:0≤cr):Ch.Fits (wokenX x fl cr).1 (wokenX x fl cr).2.1 (wokenX x fl cr).2.2:=by
 unfold wokenX Ch.Fits at *
 split
 ·split
  ·simp only;omega
  ·exact hx
 ·simp
theorem infoI:(Tryz.prog.info? 3).map (fun i=>(i.zero,i.size,i.bytes))=some (some (.int .i64 0),1,8):=by kernel_rfl
theorem addN (b off n:Nat):(⟨b,off,none⟩:Addr).add n=⟨b,off+n,none⟩:=by
 simp [Addr.add]
theorem cellN {w:World} {c:Array Value} {t:TypeId} {n i:Nat} {v:Value} (hn:n=w.heap.size) (h:c[i]?=some v):(w.alloc (.cells c t)).cell? ⟨n,i,none⟩=some v:=by
 subst hn
 exact cell_nw w c t i v h
def leadF (s:TSt):Nat→Nat→List Int→Int×List Int
 | 0,_,_=>(0,[])
 | k+1,g,ch=>if (s.M g).isEmpty then (0,[]) else if firstI (s.M g)<65536 then (firstI (s.M g),ch++[(g:Int)]) else leadF s k (firstI (s.M g) - 65536).toNat (ch++[(g:Int)])
def leadT (s:TSt):Int×List Int:=leadF s s.n 0 []
def DownT (s:TSt):Prop:=∀ g,g<s.n→(s.M g).isEmpty=false→65536≤firstI (s.M g)→∃ k:Nat,firstI (s.M g)=65536+(k:Int)∧g<k∧k<s.n
theorem firstI_in {w:World} {q:Nat} {F:List Nat} {n:Int} {M:Mems} {fl:Int} (h:QIn w q F n M fl):0≤firstI M∧firstI M≤n:=by
 unfold firstI
 have:=h.ids
 cases M with
 | nil=>simp only;omega
 | cons m M=>have:=this.2.1 m (by simp);simp only;omega
theorem ints_snoc (xs:List Int) (x:Int):intsV (xs++[x])=intsV xs++[.int .i64 x]:=by unfold intsV;simp
def wgQ (k:Int) (s:TSt) (g:Nat) (id:Int):TSt:={ s with M:=upd s.M g (chS (decide (wgOk k)) qN (s.M g) id (wghX k)),fl:=upd s.fl g (chF (decide (wgOk k)) qN (s.M g) id (wghX k) (s.fl g)) }
def pweiS (s:TSt) (id k:Int):TSt:=if wgOk k then (if findC s id=0 then wgQ k s (findG s id).toNat id else s) else s
theorem q_world {Q:Exit→Act→World→Prop} {e:Exit} {a:Act} {W:World} (h:∀ W',W'=W→Q e a W'):Q e a W:=h _ rfl
def setW (Gs:Grps) (g:Nat) (k:Int):Grps:=Gs.set g (Gs[g]!.1,k)
theorem setW_len (Gs:Grps) (g:Nat) (k:Int):(setW Gs g k).length=Gs.length:=by unfold setW;simp
theorem setW_same {Gs:Grps} {g:Nat} {k:Int} (h:g<Gs.length):(setW Gs g k)[g]! = (Gs[g]!.1,k):=by
 unfold setW
 rw [getElem!_pos _ _ (by simpa using h)]
 simp
theorem setW_other {Gs:Grps} {g j:Nat} {k:Int} (h:j≠g):(setW Gs g k)[j]! = Gs[j]!:=by
 unfold setW
 simp only [List.getElem!_eq_getElem?_getD]
 rw [List.getElem?_set_ne (Ne.symm h)]
theorem setW_par (Gs:Grps) (g:Nat) (k:Int):parG (setW Gs g k)=parG Gs:=by
 funext j
 unfold parG
 by_cases e:j=g
 ·subst e
  by_cases h:j<Gs.length
  ·rw [setW_same h]
  ·unfold setW
   rw [List.set_eq_of_length_le (by omega)]
 ·rw [setW_other e]
theorem RightG.setW {Gs:Grps} (h:RightG Gs) {g:Nat} {k:Int} (hg:g<Gs.length) (h0:0<g) (hk:1≤k∧k≤65536):RightG (setW Gs g k) where
 le:=by rw [setW_len];exact h.le
 pos:=by rw [setW_len];exact h.pos
 root:=by rw [setW_other (by omega)];exact h.root
 rest:=fun j h1 h2=>by
  rw [setW_len] at h2
  have e:=h.rest j h1 h2
  unfold gErr at e ⊢
  rw [setW_par]
  by_cases q:j=g
  ·subst q
   rw [setW_same h2]
   have i:=gErr_par (h.rest j h1 h2)
   simp only
   rw [if_neg (by omega),if_neg (by omega),if_neg (by omega)]
  ·rw [setW_other q];exact e
def pregC (s:TSt) (g k:Int):Int:=if hasV (s.n:Int) g=true∧g≠0 then (if Ch.Ok (s.A g.toNat).1 (s.A g.toNat).2.1 (s.A g.toNat).2.2∧wgOk k then 0 else 2) else 2
def pregS (s:TSt) (g k:Int):TSt:=if pregC s g k=0 then wgQ k { s with A:=upd s.A g.toNat (wghX k (s.A g.toNat)),Gs:=setW s.Gs g.toNat k } (parG s.Gs g.toNat) (65536+(g.toNat:Nat)) else s
theorem step_append_own2 {P:Program} {ops:Array Oper} {o:Oper} {a:Act} {w:World} {K:Act→World→Prop} {Q:Exit→Act→World→Prop} {E:Prop}
  (hg:o.guard=none) (s x:Operand) (t:TypeId) (hop:o.op=Op.call { callee:=Callee.builtin Builtin.append,args:=#[s,x],argTypes:=#[t,t] })
  (base:Nat) (e:TypeId) (i:TypeInfo) (z:Value) (size bytes:Nat) (h1:P.underlying t=some (.slice e)) (h2:P.info? e=some i) (h3:i.zero=some z) (h4:i.size=size) (h5:i.bytes=bytes) (h6:z.cells.size=size) (h7:0<size)
  (v:Value) (n:Nat) (xs:List Value) (hs:a.eval s=v) (hown:w.ownsRow base e size v n xs)
  (ad:Addr) (m c:Nat) (news:List Value) (hx:a.eval x=.slice (some ad) m c) (hn:news.length=m*size) (hc:∀ j u,news[j]?=some u→w.cell? (ad.add j)=some u) (h1c:∀ u∈news,u.oneCell'=true)
  (b1:n+m≤maxLen) (b2:(n+m)*bytes≤140737488355328) (hbase:base≤w.heap.size) (hm:0<m)
  (hK:∀ v' w',w'.ownsRow base e size v' (n+m) (xs++news)→w.grownBy w' v.ownBlock→(v'.ownBlock=v.ownBlock∨v'.ownBlock=some w.heap.size)→K (a.put o.dst v') w') :
  if Region.wanted o (yielded ops a.tmps)=true then Oper.wp P o a w K Q else E:=by
 have hw:Region.wanted o (yielded ops a.tmps)=true:=by simp [Region.wanted,hg]
 rw [if_pos hw]
 obtain ⟨v',w',hrun,r1,r2,_⟩:=run_append_own (P:=P) w base t o.type e i z size bytes h1 h2 h3 h4 h5 h6 h7 v n xs hown ad m c news hn hc h1c b1 b2 hbase
 have h8:=run_append_place (P:=P) (w:=w) base t o.type e i z size bytes h1 h2 h3 h4 h5 h6 h7 v n xs hown ad m c news hn hc h1c b1 b2 hm hrun
 unfold Oper.wp
 simp [execOp,hop,resolve,invoke,builtin,hs,hx,hrun,Result.andThen]
 exact hK v' w' r1 r2 h8
def GCloneP (Gs:Grps) (w:World) (e:Ending) (w':World):Prop:=
 ∃ g cap,e=.returned (.slice (some ⟨g,0,none⟩) Gs.length cap)∧w'.ownsRow w.heap.size 72 2 (.slice (some ⟨g,0,none⟩) Gs.length cap) Gs.length (flatR encG Gs)∧Below w.heap.size w w'
theorem own_kept {w w':World} {base e size:Nat} {v:Value} {n:Nat} {xs:List Value} {S:List Nat} (h:w.ownsRow base e size v n xs) (hk:Kept S w w') (hn:∀ b,v.ownBlock=some b→b∉S):w'.ownsRow base e size v n xs:=by
 obtain ⟨h1,h2⟩:=h
 refine ⟨h1,?_⟩
 rcases h2 with h2 | ⟨g,cap,cur,rfl,h3,h4,h5⟩
 ·exact Or.inl h2
 ·exact Or.inr ⟨g,cap,cur,rfl,h3,(hk.block g (Array.getElem?_eq_some_iff.1 h4).1 (hn g rfl)).trans h4,h5⟩
def encX3 (x:Ent):List Value:=[.int .u64 x.1,.int .u32 x.2.1,.int .u32 x.2.2]
theorem encX3_ok:Enc encX3 3:=⟨fun _=>rfl,fun x u hu=>by simp [encX3] at hu;rcases hu with rfl | rfl | rfl <;> rfl,by decide⟩
theorem infoE:(Tryz.prog.info? 107).map (fun i=>(i.zero,i.size,i.bytes))=some (some (.agg #[.int .u64 0,.int .u32 0,.int .u32 0]),3,16):=by kernel_rfl
def newA (Gs:Grps) (k:Nat):Ent:=(0,0,Gs[k]!.2)
theorem grown_kept {w w':World} {o:Option Nat} (h:w.grownBy w' o):Kept o.toList w w':=(Kept.refl _ _).grown h fun k e=>Or.inl (by rw [e];simp)
def newT (Gs:Grps) (cr:Int):TSt:={ Gs:=Gs,M:=fun _=>[],fl:=fun _=>0,A:=newA Gs,T:=fun _=>none,c:=0,cr:=cr }
theorem rise_ge (S:Items) (fl:Int):fl≤riseF S fl:=by unfold riseF;split <;> omega
theorem pathT_below {P:Nat→Nat}:∀ (g:Nat) {a b:Nat},a∈pathT P g→b∈pathT P g→b<a→b≤P a:=by
 intro g
 induction g using Nat.strongRecOn with
 | ind g ih =>
  intro a b ha hb hlt
  by_cases h:0<g∧P g<g
  ·rw [pathT_pos h.1 h.2] at ha hb
   rcases List.mem_cons.1 ha with rfl | ha'
   ·rcases List.mem_cons.1 hb with rfl | hb'
    ·omega
    ·exact (pathT_mem _ hb').2.1
   ·rcases List.mem_cons.1 hb with rfl | hb'
    ·have:=(pathT_mem _ ha').2.1;omega
    ·exact ih _ h.2 ha' hb' hlt
  ·rw [pathT,dif_neg h] at ha
   cases ha
theorem pathT_inj {P:Nat→Nat} {g a b:Nat} (ha:a∈pathT P g) (hb:b∈pathT P g) (h:P a=P b):a=b:=by
 have h1:=pathT_mem g ha
 have h2:=pathT_mem g hb
 rcases Nat.lt_trichotomy a b with q | q | q
 ·have:=pathT_below g hb ha q;omega
 ·exact q
 ·have:=pathT_below g ha hb q;omega
abbrev EntOk (x:Ent):Prop:=Ch.Ok x.1 x.2.1 x.2.2
abbrev FlOk (f:Int):Prop:=0≤f∧f≤18446744073709551615
def inM (M:Mems) (id:Int):Bool:=(entM M id).isSome
theorem inM_none {M:Mems} {id:Int} (h:inM M id=false):entM M id=none:=by
 unfold inM at h
 cases e:entM M id with
 | none=>rfl
 | some x=>rw [e] at h;cases h
theorem inM_some {M:Mems} {id:Int} (h:inM M id=true):∃ x,entM M id=some x:=by
 unfold inM at h
 cases e:entM M id with
 | none=>rw [e] at h;cases h
 | some x=>exact ⟨x,rfl⟩
theorem inM_ne {M:Mems} {id:Int} (h:inM M id=true):M.isEmpty=false:=by
 cases M with
 | nil=>cases h
 | cons a r=>rfl
theorem inM_ex {M:Mems} (h:M.isEmpty=false):∃ id,inM M id=true:=by
 cases M with
 | nil=>cases h
 | cons a r=>exact ⟨a.1,by unfold inM entM;rw [List.find?_cons_of_pos (by simp)];rfl⟩
theorem empty_of {M:Mems} (h:∀ id,inM M id=false):M.isEmpty=true:=by
 cases e:M.isEmpty with
 | true=>rfl
 | false=>obtain ⟨id,hi⟩:=inM_ex e;rw [h id] at hi;cases hi
theorem empty_same {M N:Mems} (h:∀ id,inM M id=inM N id):M.isEmpty=N.isEmpty:=by
 cases e:N.isEmpty with
 | true=>exact empty_of fun id=>by rw [h,List.isEmpty_iff.1 e];rfl
 | false=>obtain ⟨id,hi⟩:=inM_ex e;exact inM_ne (by rw [h];exact hi)
structure MOk (M:Mems):Prop where
 nod:(M.map Prod.fst).Nodup
 ok:∀ m∈M,EntOk m.2
theorem MOk.none:MOk []:=⟨List.nodup_nil,fun m h=>by cases h⟩
theorem MOk.ent {M:Mems} (h:MOk M) {id:Int} {x:Ent} (hx:entM M id=some x):EntOk x:=h.ok (id,x) ((ent_some h.nod).1 hx)
theorem MOk.put {M:Mems} (h:MOk M) {id:Int} {x:Ent} (hn:entM M id=Option.none) (hx:EntOk x):MOk (putM M (id,x)):=
 ⟨put_nodup h.nod hn,fun m hm=>by rcases put_mem.1 hm with rfl | hm;exact hx;exact h.ok m hm⟩
theorem MOk.out {M:Mems} (h:MOk M) (id:Int):MOk (outM M id):=⟨out_nodup h.nod id,fun m hm=>h.ok m (out_mem.1 hm).1⟩
theorem MOk.ch {M:Mems} (h:MOk M) (id:Int) {x:Ent} (hx:EntOk x):MOk (chM M id x):=(h.out id).put (ch_none h.nod id) hx
theorem rise_ok {M:Mems} {f:Int} (h:∀ m∈M,EntOk m.2) (hf:FlOk f):FlOk (riseF (itemsM M) f):=by
 cases M with
 | nil=>exact hf
 | cons a r =>
  have:=h a List.mem_cons_self
  unfold EntOk Ch.Ok at this
  show FlOk (max f a.2.1)
  unfold FlOk at hf ⊢
  omega
theorem enter_yes {M:Mems} {id:Int} {x:Ent} (hi:0≤id∧id<65792) (hx:EntOk x) (hn:entM M id=none):enterM qN M id x=putM M (id,x):=by
 have hv:hasV qN id=true:=decide_eq_true hi
 have hc:enterC qN M id x=0:=by unfold enterC;rw [hv,if_pos rfl,if_pos hx,hn];rfl
 unfold enterM
 rw [hc,if_pos rfl]
theorem enter_in {M:Mems} {id:Int} {x:Ent} (h:MOk M) (hi:0≤id∧id<65792) (hx:EntOk x) (hn:entM M id=none):MOk (enterM qN M id x)∧(∀ j,entM (enterM qN M id x) j=if j=id then some x else entM M j):=by
 rw [enter_yes hi hx hn]
 exact ⟨h.put hn hx,fun j=>ent_put h.nod hn j⟩
theorem enterF_ok {M:Mems} {id:Int} {x:Ent} {f:Int} (h:MOk M) (hx:EntOk x) (hf:FlOk f):FlOk (enterF qN M id x f):=by
 unfold enterF
 split
 ·exact rise_ok (fun m hm=>by rcases put_mem.1 hm with rfl | hm;exact hx;exact h.ok m hm) hf
 ·exact hf
theorem leave_out {M:Mems} {id:Int} (h:MOk M):MOk (leaveM qN M id):=by
 unfold leaveM
 split
 ·exact h.out id
 ·exact h
theorem leave_ent {M:Mems} {id:Int} (h:MOk M) (hi:0≤id∧id<65792) (j:Int):entM (leaveM qN M id) j=if j=id then none else entM M j:=by
 have hv:hasV qN id=true:=decide_eq_true hi
 unfold leaveM leaveC
 rw [hv,if_pos rfl]
 cases e:entM M id with
 | none =>
  rw [if_neg (by decide)]
  by_cases q:j=id
  ·rw [if_pos q,q];exact e
  ·rw [if_neg q]
 | some x =>
  rw [if_pos (by rfl)]
  exact ent_out h.nod id j
theorem leave_x {M:Mems} {id:Int} {x:Ent} (hi:0≤id∧id<65792) (hx:entM M id=some x):leaveE qN M id=x:=by
 have hv:hasV qN id=true:=decide_eq_true hi
 unfold leaveE leaveC
 rw [hv,if_pos rfl,hx]
 rfl
theorem leaveF_ok {M:Mems} {id:Int} {f:Int} (h:MOk M) (hf:FlOk f):FlOk (leaveF qN M id f):=by
 unfold leaveF
 split
 ·exact rise_ok (h.out id).ok hf
 ·exact hf
theorem ch_is {b:Bool} {M:Mems} {id:Int} {X:Ent→Ent} (hi:0≤id∧id<65792) (h:MOk M) (j:Int):entM (chS b qN M id X) j=if b=true∧j=id then (entM M j).map X else entM M j:=by
 have hv:hasV qN id=true:=decide_eq_true hi
 unfold chS chC
 rw [hv,if_pos rfl]
 cases b with
 | false =>
  rw [if_neg (by simp)]
  rw [if_neg (by simp)]
 | true =>
  rw [if_pos rfl]
  cases e:entM M id with
  | none =>
   rw [if_neg (by decide)]
   by_cases q:j=id
   ·rw [if_pos ⟨rfl,q⟩,q,e];rfl
   ·rw [if_neg (fun z=>q z.2)]
  | some x =>
   rw [if_pos (by rfl),ch_ent h.nod]
   by_cases q:j=id
   ·rw [if_pos q,if_pos ⟨rfl,q⟩,q,e];rfl
   ·rw [if_neg q,if_neg (fun z=>q z.2)]
theorem ch_mok {b:Bool} {M:Mems} {id:Int} {X:Ent→Ent} (h:MOk M) (hX:b=true→∀ y,EntOk y→EntOk (X y)):MOk (chS b qN M id X):=by
 unfold chS chC
 cases b with
 | false=>split <;> (first | exact h | (exfalso;rename_i q;revert q;split <;> simp))
 | true =>
  by_cases hv:hasV qN id=true
  ·rw [hv,if_pos rfl,if_pos rfl]
   cases e:entM M id with
   | none=>exact h
   | some x=>exact h.ch id (hX rfl x (h.ent e))
  ·rw [if_neg hv];exact h
theorem chF_ok {b:Bool} {M:Mems} {id:Int} {X:Ent→Ent} {f:Int} (h:MOk M) (hX:b=true→∀ y,EntOk y→EntOk (X y)) (hf:FlOk f):FlOk (chF b qN M id X f):=by
 have hm:=ch_mok (id:=id) h hX
 unfold chS at hm
 unfold chF
 by_cases q:chC b qN M id=0
 ·rw [if_pos q] at hm ⊢;exact rise_ok hm.ok hf
 ·rw [if_neg q];exact hf
structure TCore (s:TSt):Prop where
 right:RightG s.Gs
 cr:0≤s.cr
 mok:∀ k,MOk (s.M k)
 aok:∀ k,k<s.n→EntOk (s.A k)
 fok:∀ k,FlOk (s.fl k)
 tid:∀ id,s.T id≠none→1≤id∧id≤65535
 task:∀ id g,s.T id=some g→∃ k:Nat,g=(k:Int)∧k<s.n∧inM (s.M k) id=true
 ids:∀ k id,inM (s.M k) id=true→(s.T id=some (k:Int)∧1≤id∧id≤65535)∨∃ c:Nat,0<c∧c<s.n∧id=65536+(c:Int)∧parG s.Gs c=k
def Seated (s:TSt) (c:Nat):Prop:=inM (s.M (parG s.Gs c)) (65536+(c:Int))=!(s.M c).isEmpty
structure TOk (s:TSt):Prop where
 core:TCore s
 seat:∀ c,0<c→c<s.n→Seated s c
structure TWay (s:TSt) (g:Nat):Prop where
 core:TCore s
 seat:∀ c,0<c→c<s.n→c≠g→Seated s c
theorem TWay.ok {s:TSt} {g:Nat} (h:TWay s g) (hg:0<g→g<s.n→Seated s g):TOk s:=⟨h.core,fun c h0 hc=>by
 by_cases e:c=g
 ·subst e;exact hg h0 hc
 ·exact h.seat c h0 hc e⟩
theorem RightG.wt {Gs:Grps} (h:RightG Gs) {k:Nat} (hk:k<Gs.length):1≤Gs[k]!.2∧Gs[k]!.2≤65536:=by
 by_cases hz:k=0
 ·subst hz;rw [h.root];decide
 ·exact ⟨(gErr_par (h.rest k (by omega) hk)).2.2.1,(gErr_par (h.rest k (by omega) hk)).2.2.2.1⟩
theorem new_ok {Gs:Grps} {cr:Int} (hr:RightG Gs) (hc:0≤cr):TOk (newT Gs cr):=by
 refine ⟨⟨hr,hc,fun k=>MOk.none,fun k hk=>?_,fun k=>⟨Int.le_refl _,show (0:Int)≤18446744073709551615 by decide⟩,fun id h=>absurd rfl h,fun id g h=>(by cases h),fun k id h=>(by cases h)⟩,fun c h0 hc=>rfl⟩
 have hw:=hr.wt hk
 show EntOk (newA Gs k)
 unfold newA EntOk Ch.Ok
 simp only
 omega
theorem parG_lt {s:TSt} (h:RightG s.Gs) {c:Nat} (h0:0<c) (hc:c<s.n):parG s.Gs c<c:=(h.par hc).2.1 h0
theorem wokenX_ok {x:Ent} {f cr:Int} (hx:EntOk x) (hf:FlOk f) (hc:0≤cr):EntOk (wokenX x f cr):=by
 unfold wokenX
 rw [if_pos hx]
 unfold EntOk Ch.Ok at hx
 unfold FlOk at hf
 split
 ·unfold EntOk Ch.Ok;simp only [or_true,and_true];omega
 ·exact hx
theorem en_step {s:TSt} {g:Nat} (h:TWay s g) (h0:0<g) (hg:g<s.n) (hn:entM (s.M (parG s.Gs g)) (65536+(g:Int))=none) (hm:(s.M g).isEmpty=false) {y:Ent} (hy:EntOk y) :
  TWay (enQ s (parG s.Gs g) (65536+(g:Int)) y) (parG s.Gs g):=by
 have hc:=h.core
 have hlt:=parG_lt hc.right h0 hg
 have hl:=hc.right.le
 have hgl:g<256:=by unfold TSt.n at hg;omega
 obtain ⟨e1,e2⟩:=enter_in (id:=65536+(g:Int)) (hc.mok (parG s.Gs g)) (by omega) hy hn
 have hM:∀ k j,entM ((enQ s (parG s.Gs g) (65536+(g:Int)) y).M k) j=if k=parG s.Gs g∧j=65536+(g:Int) then some y else entM (s.M k) j:=fun k j=>by
  show entM (upd s.M (parG s.Gs g) _ k) j=_
  by_cases q:k=parG s.Gs g
  ·rw [q,upd_same,e2]
   by_cases q':j=65536+(g:Int)
   ·rw [if_pos q',if_pos ⟨rfl,q'⟩]
   ·rw [if_neg q',if_neg fun z=>q' z.2]
  ·rw [upd_other _ _ q,if_neg fun z=>q z.1]
 have hI:∀ k j,¬ (k=parG s.Gs g∧j=65536+(g:Int))→inM ((enQ s (parG s.Gs g) (65536+(g:Int)) y).M k) j=inM (s.M k) j:=fun k j q=>by unfold inM;rw [hM,if_neg q]
 refine ⟨⟨hc.right,hc.cr,fun k=>?_,hc.aok,fun k=>?_,hc.tid,fun id c hT=>?_,fun k id hi=>?_⟩,fun c c0 hcn hne=>?_⟩
 ·show MOk (upd s.M (parG s.Gs g) _ k)
  by_cases q:k=parG s.Gs g
  ·rw [q,upd_same];exact e1
  ·rw [upd_other _ _ q];exact hc.mok k
 ·show FlOk (upd s.fl (parG s.Gs g) _ k)
  by_cases q:k=parG s.Gs g
  ·rw [q,upd_same];exact enterF_ok (hc.mok _) hy (hc.fok _)
  ·rw [upd_other _ _ q];exact hc.fok k
 ·obtain ⟨k,t1,t2,t3⟩:=hc.task id c hT
  have t4:=hc.tid id (by rw [show s.T id=some c from hT];simp)
  exact ⟨k,t1,t2,by rw [hI k id (by omega)];exact t3⟩
 ·by_cases q:k=parG s.Gs g∧id=65536+(g:Int)
  ·exact Or.inr ⟨g,h0,hg,q.2,q.1.symm⟩
  ·rw [hI k id q] at hi
   exact hc.ids k id hi
 ·have hE:∀ k,k≠parG s.Gs g→(enQ s (parG s.Gs g) (65536+(g:Int)) y).M k=s.M k:=fun k q=>upd_other _ _ q
  unfold Seated
  rw [hE c hne]
  show inM ((enQ s (parG s.Gs g) (65536+(g:Int)) y).M (parG s.Gs c)) (65536+(c:Int))=_
  by_cases q:c=g
  ·subst q
   unfold inM
   rw [hM,if_pos ⟨rfl,rfl⟩,hm];rfl
  ·rw [hI _ _ (by omega)]
   exact h.seat c c0 hcn q
theorem en_way:∀ (g:Nat) (s:TSt),TWay s g→g<s.n→(0<g→entM (s.M (parG s.Gs g)) (65536+(g:Int))=none∧(s.M g).isEmpty=false)→TOk (enUp (parG s.Gs) s true (pathT (parG s.Gs) g)).1:=by
 intro g
 induction g using Nat.strongRecOn with
 | ind g ih =>
  intro s h hg hn
  have hc:=h.core
  by_cases h0:0<g
  ·have hlt:=parG_lt hc.right h0 hg
   obtain ⟨n1,n2⟩:=hn h0
   have hy:=wokenX_ok (hc.aok g hg) (hc.fok (parG s.Gs g)) hc.cr
   have hs:=en_step h h0 hg n1 n2 hy
   rw [pathT_pos h0 hlt]
   have hl:=hc.right.le
   have hgl:g<256:=by unfold TSt.n at hg;omega
   have e:enUp (parG s.Gs) s true (g::pathT (parG s.Gs) (parG s.Gs g))=enUp (parG s.Gs) (enQ s (parG s.Gs g) (65536+(g:Int)) (wokenX (s.A g) (s.fl (parG s.Gs g)) s.cr)) (s.M (parG s.Gs g)).isEmpty (pathT (parG s.Gs) (parG s.Gs g)):=by
    show (pathT (parG s.Gs) (parG s.Gs g)).foldl (enStep (parG s.Gs)) (enStep (parG s.Gs) (s,true) g)=_
    unfold enStep
    rw [if_pos rfl]
    rfl
   rw [e]
   obtain ⟨e1,e2⟩:=enter_in (id:=65536+(g:Int)) (hc.mok (parG s.Gs g)) (by omega) hy n1
   have hne:(enterM qN (s.M (parG s.Gs g)) (65536+(g:Int)) (wokenX (s.A g) (s.fl (parG s.Gs g)) s.cr)).isEmpty=false:=inM_ne (id:=65536+(g:Int)) (by unfold inM;rw [e2,if_pos rfl];rfl)
   have hMp:(enQ s (parG s.Gs g) (65536+(g:Int)) (wokenX (s.A g) (s.fl (parG s.Gs g)) s.cr)).M (parG s.Gs g)=enterM qN (s.M (parG s.Gs g)) (65536+(g:Int)) (wokenX (s.A g) (s.fl (parG s.Gs g)) s.cr):=upd_same _ _ _
   have hEo:∀ k,k≠parG s.Gs g→(enQ s (parG s.Gs g) (65536+(g:Int)) (wokenX (s.A g) (s.fl (parG s.Gs g)) s.cr)).M k=s.M k:=fun k q=>upd_other _ _ q
   cases hq:(s.M (parG s.Gs g)).isEmpty with
   | true =>
    refine ih (parG s.Gs g) hlt _ hs (Nat.lt_trans hlt hg) fun p0=>?_
    have pl:=parG_lt hc.right p0 (Nat.lt_trans hlt hg)
    refine ⟨?_,by rw [hMp];exact hne⟩
    show entM ((enQ s (parG s.Gs g) (65536+(g:Int)) (wokenX (s.A g) (s.fl (parG s.Gs g)) s.cr)).M (parG s.Gs (parG s.Gs g))) _=none
    rw [hEo _ (by omega)]
    have:=h.seat (parG s.Gs g) p0 (by omega) (by omega)
    unfold Seated at this
    rw [hq] at this
    exact inM_none this
   | false =>
    have:enUp (parG s.Gs) (enQ s (parG s.Gs g) (65536+(g:Int)) (wokenX (s.A g) (s.fl (parG s.Gs g)) s.cr)) false (pathT (parG s.Gs) (parG s.Gs g))=_:=en_stop _ _ _
    rw [this]
    refine hs.ok fun p0 pn=>?_
    have pl:=parG_lt hc.right p0 pn
    unfold Seated
    rw [hMp,hne]
    show inM ((enQ s (parG s.Gs g) (65536+(g:Int)) (wokenX (s.A g) (s.fl (parG s.Gs g)) s.cr)).M (parG s.Gs (parG s.Gs g))) (65536+((parG s.Gs g:Nat):Int))=_
    rw [hEo _ (by omega)]
    have:=h.seat (parG s.Gs g) p0 (by omega) (by omega)
    unfold Seated at this
    rw [hq] at this
    exact this
  ·obtain rfl:g=0:=by omega
   rw [pathT_zero]
   exact h.ok fun q=>absurd q (by decide)
theorem enS_ok {s:TSt} {id g ac:Int} {x:Ent} (h:TOk s) (hx:ac=0→EntOk x):TOk (enS s id g ac x):=by
 unfold enS
 by_cases hC:enC s id g ac=0
 ·rw [if_pos hC]
  have hC':=hC
  unfold enC at hC'
  by_cases hv:(nameV id && hasV (s.n:Int) g)=true
  ·rw [if_pos hv] at hC'
   simp only [Bool.and_eq_true] at hv
   have h1:1≤id∧id≤65535:=of_decide_eq_true hv.1
   have h2:0≤g∧g<(s.n:Int):=of_decide_eq_true hv.2
   obtain ⟨k,rfl⟩:=Int.eq_ofNat_of_zero_le h2.1
   have hk:k<s.n:=by omega
   by_cases ha:ac=0
   ·rw [if_pos ha] at hC'
    have hT:s.T id=none:=by
     cases e:s.T id with
     | none=>rfl
     | some g'=>rw [e] at hC';simp at hC'
    have hx':=hx ha
    rw [Int.toNat_natCast]
    have hc:=h.core
    have hnone:∀ j,entM (s.M j) id=none:=fun j=>by
     cases e:entM (s.M j) id with
     | none=>rfl
     | some y =>
      rcases hc.ids j id (by unfold inM;rw [e];rfl) with ⟨q,_⟩ | ⟨c,_,_,q,_⟩
      ·rw [hT] at q;cases q
      ·omega
    obtain ⟨e1,e2⟩:=enter_in (id:=id) (hc.mok k) (by omega) hx' (hnone k)
    have hne:(enterM qN (s.M k) id x).isEmpty=false:=inM_ne (id:=id) (by unfold inM;rw [e2,if_pos rfl];rfl)
    obtain ⟨s1,hs1⟩:∃ s1,s1=enT (enQ s k id x) k id:=⟨_,rfl⟩
    have hG1:s1.Gs=s.Gs:=by rw [hs1];rfl
    have hn1:s1.n=s.n:=by unfold TSt.n;rw [hG1]
    have hM1:∀ j,s1.M j=if j=k then enterM qN (s.M k) id x else s.M j:=fun j=>by
     rw [hs1]
     show upd s.M k _ j=_
     by_cases q:j=k
     ·rw [q,upd_same,if_pos rfl]
     ·rw [upd_other _ _ q,if_neg q]
    have hI1:∀ j i,inM (s1.M j) i=if j=k∧i=id then true else inM (s.M j) i:=fun j i=>by
     rw [hM1]
     by_cases q:j=k
     ·rw [if_pos q]
      unfold inM
      rw [e2]
      by_cases q':i=id
      ·rw [if_pos q',if_pos ⟨q,q'⟩];rfl
      ·rw [if_neg q',if_neg fun z=>q' z.2,q]
     ·rw [if_neg q,if_neg fun z=>q z.1]
    have hT1:∀ i,s1.T i=if i=id then some (k:Int) else s.T i:=fun i=>by
     rw [hs1]
     show setF s.T id (some (k:Int)) i=_
     by_cases q:i=id
     ·rw [q,if_pos rfl];exact setF_same _ _ _
     ·rw [if_neg q];exact setF_other _ _ q
    have hcore:TCore s1:=by
     refine ⟨by rw [hG1];exact hc.right,by rw [hs1];exact hc.cr,fun j=>?_,fun j hj=>by rw [hs1];exact hc.aok j (by omega),fun j=>?_,fun i hi=>?_,fun i g' hi=>?_,fun j i hi=>?_⟩
     ·rw [hM1]
      by_cases q:j=k
      ·rw [if_pos q];exact e1
      ·rw [if_neg q];exact hc.mok j
     ·rw [hs1]
      show FlOk (upd s.fl k _ j)
      by_cases q:j=k
      ·rw [q,upd_same];exact enterF_ok (hc.mok _) hx' (hc.fok _)
      ·rw [upd_other _ _ q];exact hc.fok j
     ·rw [hT1] at hi
      by_cases q:i=id
      ·rw [q];exact h1
      ·rw [if_neg q] at hi;exact hc.tid i hi
     ·rw [hT1] at hi
      by_cases q:i=id
      ·rw [if_pos q] at hi
       cases hi
       exact ⟨k,rfl,by rw [hn1];exact hk,by rw [hI1,if_pos ⟨rfl,q⟩]⟩
      ·rw [if_neg q] at hi
       obtain ⟨j,t1,t2,t3⟩:=hc.task i g' hi
       exact ⟨j,t1,by rw [hn1];exact t2,by rw [hI1,if_neg fun z=>q z.2];exact t3⟩
     ·rw [hI1] at hi
      rw [hT1,hG1,hn1]
      by_cases q:j=k∧i=id
      ·exact Or.inl ⟨by rw [if_pos q.2,q.1],by rw [q.2];exact h1⟩
      ·rw [if_neg q] at hi
       rcases hc.ids j i hi with ⟨a,b⟩ | b
       ·refine Or.inl ⟨?_,b⟩
        by_cases q':i=id
        ·rw [q',hT] at a;cases a
        ·rw [if_neg q'];exact a
       ·exact Or.inr b
    have hseat:∀ c,0<c→c<s1.n→c≠k→Seated s1 c:=fun c c0 hcn q=>by
     unfold Seated
     rw [hG1,hM1 c,if_neg q,hI1,if_neg (by omega)]
     exact h.seat c c0 (by omega)
    have hway:TWay s1 k:=⟨hcore,hseat⟩
    show TOk (enUp (parG s.Gs) (enT (enQ s k id x) k id) (s.M k).isEmpty (pathT (parG s.Gs) k)).1
    rw [← hs1,← hG1]
    cases hq:(s.M k).isEmpty with
    | true =>
     refine en_way k s1 hway (by rw [hn1];exact hk) fun k0=>⟨?_,by rw [hM1,if_pos rfl];exact hne⟩
     have pl:=parG_lt hc.right k0 hk
     rw [hG1,hM1,if_neg (by omega)]
     have:=h.seat k k0 hk
     unfold Seated at this
     rw [hq] at this
     exact inM_none this
    | false =>
     have e:enUp (parG s1.Gs) s1 false (pathT (parG s1.Gs) k)=_:=en_stop _ _ _
     rw [e]
     refine hway.ok fun k0 kn=>?_
     have pl:=parG_lt hc.right k0 hk
     unfold Seated
     rw [hG1,hM1 k,if_pos rfl,hne,hM1,if_neg (by omega)]
     have:=h.seat k k0 hk
     unfold Seated at this
     rw [hq] at this
     exact this
   ·rw [if_neg ha] at hC';exact absurd hC' (by decide)
  ·rw [if_neg hv] at hC';exact absurd hC' (by decide)
 ·rw [if_neg hC];exact h
theorem lv_step {s:TSt} {g:Nat} (h:TWay s g) (h0:0<g) (hg:g<s.n) (hn:inM (s.M (parG s.Gs g)) (65536+(g:Int))=true) (hm:(s.M g).isEmpty=true) :
  TWay (lvA s g (parG s.Gs g)) (parG s.Gs g):=by
 have hc:=h.core
 have hlt:=parG_lt hc.right h0 hg
 have hl:=hc.right.le
 have hgl:g<256:=by unfold TSt.n at hg;omega
 obtain ⟨y,hy⟩:=inM_some hn
 have e2:=leave_ent (id:=65536+(g:Int)) (hc.mok (parG s.Gs g)) (by omega)
 have e3:=leave_x (id:=65536+(g:Int)) (by omega) hy
 have hI:∀ k j,inM ((lvA s g (parG s.Gs g)).M k) j=if k=parG s.Gs g∧j=65536+(g:Int) then false else inM (s.M k) j:=fun k j=>by
  show inM (upd s.M (parG s.Gs g) _ k) j=_
  by_cases q:k=parG s.Gs g
  ·rw [q,upd_same]
   unfold inM
   rw [e2]
   by_cases q':j=65536+(g:Int)
   ·rw [if_pos q',if_pos ⟨rfl,q'⟩];rfl
   ·rw [if_neg q',if_neg fun z=>q' z.2]
  ·rw [upd_other _ _ q,if_neg fun z=>q z.1]
 refine ⟨⟨hc.right,hc.cr,fun k=>?_,fun k hk=>?_,fun k=>?_,hc.tid,fun id c hT=>?_,fun k id hi=>?_⟩,fun c c0 hcn hne=>?_⟩
 ·show MOk (upd s.M (parG s.Gs g) _ k)
  by_cases q:k=parG s.Gs g
  ·rw [q,upd_same];exact leave_out (hc.mok _)
  ·rw [upd_other _ _ q];exact hc.mok k
 ·show EntOk (upd s.A g (leaveE qN (s.M (parG s.Gs g)) (65536+(g:Int))) k)
  by_cases q:k=g
  ·rw [q,upd_same,e3];exact (hc.mok _).ent hy
  ·rw [upd_other _ _ q];exact hc.aok k hk
 ·show FlOk (upd s.fl (parG s.Gs g) _ k)
  by_cases q:k=parG s.Gs g
  ·rw [q,upd_same];exact leaveF_ok (hc.mok _) (hc.fok _)
  ·rw [upd_other _ _ q];exact hc.fok k
 ·obtain ⟨k,t1,t2,t3⟩:=hc.task id c hT
  have t4:=hc.tid id (by rw [show s.T id=some c from hT];simp)
  exact ⟨k,t1,t2,by rw [hI k id,if_neg (by omega)];exact t3⟩
 ·rw [hI k id] at hi
  by_cases q:k=parG s.Gs g∧id=65536+(g:Int)
  ·rw [if_pos q] at hi;cases hi
  ·rw [if_neg q] at hi
   exact hc.ids k id hi
 ·have hE:∀ k,k≠parG s.Gs g→(lvA s g (parG s.Gs g)).M k=s.M k:=fun k q=>upd_other _ _ q
  unfold Seated
  rw [hE c hne]
  show inM ((lvA s g (parG s.Gs g)).M (parG s.Gs c)) (65536+(c:Int))=_
  by_cases q:c=g
  ·subst q
   rw [hI,if_pos ⟨rfl,rfl⟩,hm];rfl
  ·rw [hI,if_neg (by omega)]
   exact h.seat c c0 hcn q
theorem lv_way:∀ (g:Nat) (s:TSt),TWay s g→g<s.n→(0<g→inM (s.M (parG s.Gs g)) (65536+(g:Int))=true)→TOk (lvUp (parG s.Gs) s (pathT (parG s.Gs) g)).1:=by
 intro g
 induction g using Nat.strongRecOn with
 | ind g ih =>
  intro s h hg hn
  have hc:=h.core
  by_cases h0:0<g
  ·have hlt:=parG_lt hc.right h0 hg
   have n1:=hn h0
   rw [pathT_pos h0 hlt]
   have hl:=hc.right.le
   cases hq:(s.M g).isEmpty with
   | true =>
    have hs:=lv_step h h0 hg n1 hq
    have e:lvUp (parG s.Gs) s (g::pathT (parG s.Gs) (parG s.Gs g))=lvUp (parG s.Gs) (lvA s g (parG s.Gs g)) (pathT (parG s.Gs) (parG s.Gs g)):=by
     show (pathT (parG s.Gs) (parG s.Gs g)).foldl (lvStep (parG s.Gs)) (lvStep (parG s.Gs) (s,false) g)=_
     unfold lvStep
     simp only [hq]
     rfl
    rw [e]
    refine ih (parG s.Gs g) hlt _ hs (Nat.lt_trans hlt hg) fun p0=>?_
    have pl:=parG_lt hc.right p0 (Nat.lt_trans hlt hg)
    show inM ((lvA s g (parG s.Gs g)).M (parG s.Gs (parG s.Gs g))) (65536+((parG s.Gs g:Nat):Int))=true
    have hE:∀ k,k≠parG s.Gs g→(lvA s g (parG s.Gs g)).M k=s.M k:=fun k q=>upd_other _ _ q
    rw [hE _ (by omega)]
    have:=h.seat (parG s.Gs g) p0 (by omega) (by omega)
    unfold Seated at this
    rw [this,inM_ne n1];rfl
   | false =>
    have e:lvUp (parG s.Gs) s (g::pathT (parG s.Gs) (parG s.Gs g))=(s,true):=by
     show (pathT (parG s.Gs) (parG s.Gs g)).foldl (lvStep (parG s.Gs)) (lvStep (parG s.Gs) (s,false) g)=_
     have e:lvStep (parG s.Gs) (s,false) g=(s,true):=by
      unfold lvStep
      simp only [hq]
      rfl
     rw [e]
     exact lv_stop _ _ _
    rw [e]
    refine h.ok fun _ _=>?_
    unfold Seated
    rw [n1,hq];rfl
  ·obtain rfl:g=0:=by omega
   rw [pathT_zero]
   exact h.ok fun q=>absurd q (by decide)
theorem leave_ok {s:TSt} {id:Int} (h:TOk s):TOk (plvS s id):=by
 unfold plvS
 by_cases hC:findC s id=0
 ·rw [if_pos hC]
  obtain ⟨g,hT,hG⟩:=findC_zero hC
  have hc:=h.core
  obtain ⟨k,rfl,hk,hi⟩:=hc.task id g hT
  have h1:=hc.tid id (by rw [hT];simp)
  rw [hG,Int.toNat_natCast]
  have e2:=leave_ent (id:=id) (hc.mok k) (by omega)
  obtain ⟨s1,hs1⟩:∃ s1,s1=lvT (lvQ s k id) id:=⟨_,rfl⟩
  have hG1:s1.Gs=s.Gs:=by rw [hs1];rfl
  have hn1:s1.n=s.n:=by unfold TSt.n;rw [hG1]
  have hM1:∀ j,s1.M j=if j=k then leaveM qN (s.M k) id else s.M j:=fun j=>by
   rw [hs1]
   show upd s.M k _ j=_
   by_cases q:j=k
   ·rw [q,upd_same,if_pos rfl]
   ·rw [upd_other _ _ q,if_neg q]
  have hI1:∀ j i,inM (s1.M j) i=if j=k∧i=id then false else inM (s.M j) i:=fun j i=>by
   rw [hM1]
   by_cases q:j=k
   ·rw [if_pos q]
    unfold inM
    rw [e2]
    by_cases q':i=id
    ·rw [if_pos q',if_pos ⟨q,q'⟩];rfl
    ·rw [if_neg q',if_neg fun z=>q' z.2,q]
   ·rw [if_neg q,if_neg fun z=>q z.1]
  have hT1:∀ i,s1.T i=if i=id then none else s.T i:=fun i=>by
   rw [hs1]
   show setF s.T id none i=_
   by_cases q:i=id
   ·rw [q,if_pos rfl];exact setF_same _ _ _
   ·rw [if_neg q];exact setF_other _ _ q
  have hcore:TCore s1:=by
   refine ⟨by rw [hG1];exact hc.right,by rw [hs1];exact hc.cr,fun j=>?_,fun j hj=>by rw [hs1];exact hc.aok j (by omega),fun j=>?_,fun i hi=>?_,fun i g' hi=>?_,fun j i hi=>?_⟩
   ·rw [hM1]
    by_cases q:j=k
    ·rw [if_pos q];exact leave_out (hc.mok k)
    ·rw [if_neg q];exact hc.mok j
   ·rw [hs1]
    show FlOk (upd s.fl k _ j)
    by_cases q:j=k
    ·rw [q,upd_same];exact leaveF_ok (hc.mok _) (hc.fok _)
    ·rw [upd_other _ _ q];exact hc.fok j
   ·rw [hT1] at hi
    by_cases q:i=id
    ·rw [if_pos q] at hi;exact absurd rfl hi
    ·rw [if_neg q] at hi;exact hc.tid i hi
   ·rw [hT1] at hi
    by_cases q:i=id
    ·rw [if_pos q] at hi;cases hi
    ·rw [if_neg q] at hi
     obtain ⟨j,t1,t2,t3⟩:=hc.task i g' hi
     exact ⟨j,t1,by rw [hn1];exact t2,by rw [hI1,if_neg fun z=>q z.2];exact t3⟩
   ·rw [hI1] at hi
    rw [hT1,hG1,hn1]
    by_cases q:j=k∧i=id
    ·rw [if_pos q] at hi;cases hi
    ·rw [if_neg q] at hi
     rcases hc.ids j i hi with ⟨a,b⟩ | b
     ·refine Or.inl ⟨?_,b⟩
      by_cases q':i=id
      ·rw [q',hT] at a
       simp only [Option.some.injEq,Int.natCast_inj] at a
       exact absurd ⟨a.symm,q'⟩ q
      ·rw [if_neg q'];exact a
     ·exact Or.inr b
  have hway:TWay s1 k:=⟨hcore,fun c c0 hcn q=>by
   unfold Seated
   rw [hG1,hM1 c,if_neg q,hI1,if_neg (by omega)]
   exact h.seat c c0 (by omega)⟩
  rw [← hs1,← hG1]
  refine lv_way k s1 hway (by rw [hn1];exact hk) fun k0=>?_
  have pl:=parG_lt hc.right k0 hk
  rw [hG1,hI1,if_neg (by omega)]
  have:=h.seat k k0 hk
  unfold Seated at this
  rw [this,inM_ne hi];rfl
 ·rw [if_neg hC];exact h
structure Alike (s s':TSt):Prop where
 n:s'.n=s.n
 par:parG s'.Gs=parG s.Gs
 T:s'.T=s.T
 cr:s'.cr=s.cr
 mem:∀ k id,inM (s'.M k) id=inM (s.M k) id
theorem Alike.ok {s s':TSt} (a:Alike s s') (h:TOk s) (hr:RightG s'.Gs) (hm:∀ k,MOk (s'.M k)) (hA:∀ k,k<s.n→EntOk (s'.A k)) (hf:∀ k,FlOk (s'.fl k)):TOk s':=by
 have hc:=h.core
 refine ⟨⟨hr,by rw [a.cr];exact hc.cr,hm,fun k hk=>hA k (by rw [← a.n];exact hk),hf,by rw [a.T];exact hc.tid,fun id g hT=>?_,fun k id hi=>?_⟩,fun c c0 hcn=>?_⟩
 ·rw [a.T] at hT
  obtain ⟨k,t1,t2,t3⟩:=hc.task id g hT
  exact ⟨k,t1,by rw [a.n];exact t2,by rw [a.mem];exact t3⟩
 ·rw [a.mem] at hi
  rw [a.T,a.n,a.par]
  exact hc.ids k id hi
 ·unfold Seated
  rw [a.par,a.mem,empty_same fun id=>a.mem c id]
  exact h.seat c c0 (by rw [← a.n];exact hcn)
theorem ch_mem' {b:Bool} {M:Mems} {id:Int} {X:Ent→Ent} (hi:0≤id∧id<65792) (h:MOk M) (j:Int):inM (chS b qN M id X) j=inM M j:=by
 unfold inM
 rw [ch_is hi h]
 split
 ·cases entM M j <;> rfl
 ·rfl
theorem chgQ_ok {s:TSt} {tk:Int} {g:Nat} {id:Int} (h:TOk s) (hi:0≤id∧id<65792):TOk (chgQ tk s g id):=by
 have hX:decide (tkOk tk)=true→∀ y,EntOk y→EntOk (chgX tk y):=fun ht y hy=>okC hy (of_decide_eq_true ht)
 refine Alike.ok (s:=s) ⟨rfl,rfl,rfl,rfl,fun k j=>?_⟩ h h.core.right (fun k=>?_) h.core.aok (fun k=>?_)
 ·show inM (upd s.M g _ k) j=_
  by_cases q:k=g
  ·rw [q,upd_same];exact ch_mem' hi (h.core.mok g) j
  ·rw [upd_other _ _ q]
 ·show MOk (upd s.M g _ k)
  by_cases q:k=g
  ·rw [q,upd_same];exact ch_mok (h.core.mok g) hX
  ·rw [upd_other _ _ q];exact h.core.mok k
 ·show FlOk (upd s.fl g _ k)
  by_cases q:k=g
  ·rw [q,upd_same];exact chF_ok (h.core.mok g) hX (h.core.fok g)
  ·rw [upd_other _ _ q];exact h.core.fok k
theorem chgUp_ok {tk:Int} {P:Nat→Nat}:∀ (l:List Nat) (s:TSt),TOk s→(∀ o∈l,o<256)→TOk (chgUp tk P s l):=by
 intro l
 induction l with
 | nil=>intro s h _;exact h
 | cons o r ih =>
  intro s h ho
  have h1:=ho o List.mem_cons_self
  exact ih _ (chgQ_ok h (by omega)) fun x hx=>ho x (List.mem_cons_of_mem _ hx)
theorem charge_ok {s:TSt} {id tk:Int} (h:TOk s):TOk (pchgS s id tk):=by
 unfold pchgS
 by_cases hC:pchgC s id tk=0
 ·rw [if_pos hC]
  have hC':findC s id=0:=by
   unfold pchgC at hC
   by_cases q:tkOk tk
   ·rw [if_pos q] at hC;exact hC
   ·rw [if_neg q] at hC;exact absurd hC (by decide)
  obtain ⟨g,hT,hG⟩:=findC_zero hC'
  obtain ⟨k,rfl,hk,hi⟩:=h.core.task id g hT
  have h1:=h.core.tid id (by rw [hT];simp)
  rw [hG,Int.toNat_natCast]
  refine chgUp_ok _ _ (chgQ_ok h (by omega)) fun o ho=>?_
  have:=pathT_mem k ho
  have:=h.core.right.le
  unfold TSt.n at hk
  omega
 ·rw [if_neg hC];exact h
theorem wgQ_ok {s:TSt} {w:Int} {g:Nat} {id:Int} (h:TOk s) (hi:0≤id∧id<65792):TOk (wgQ w s g id):=by
 have hX:decide (wgOk w)=true→∀ y,EntOk y→EntOk (wghX w y):=fun ht y hy=>okW hy (of_decide_eq_true ht)
 refine Alike.ok (s:=s) ⟨rfl,rfl,rfl,rfl,fun k j=>?_⟩ h h.core.right (fun k=>?_) h.core.aok (fun k=>?_)
 ·show inM (upd s.M g _ k) j=_
  by_cases q:k=g
  ·rw [q,upd_same];exact ch_mem' hi (h.core.mok g) j
  ·rw [upd_other _ _ q]
 ·show MOk (upd s.M g _ k)
  by_cases q:k=g
  ·rw [q,upd_same];exact ch_mok (h.core.mok g) hX
  ·rw [upd_other _ _ q];exact h.core.mok k
 ·show FlOk (upd s.fl g _ k)
  by_cases q:k=g
  ·rw [q,upd_same];exact chF_ok (h.core.mok g) hX (h.core.fok g)
  ·rw [upd_other _ _ q];exact h.core.fok k
theorem weigh_ok {s:TSt} {id k:Int} (h:TOk s):TOk (pweiS s id k):=by
 unfold pweiS
 by_cases hk:wgOk k
 ·rw [if_pos hk]
  by_cases hC:findC s id=0
  ·rw [if_pos hC]
   obtain ⟨g,hT,hG⟩:=findC_zero hC
   have h1:=h.core.tid id (by rw [hT];simp)
   exact wgQ_ok h (by omega)
  ·rw [if_neg hC];exact h
 ·rw [if_neg hk];exact h
theorem regroup_ok {s:TSt} {g k:Int} (h:TOk s):TOk (pregS s g k):=by
 unfold pregS
 by_cases hC:pregC s g k=0
 ·rw [if_pos hC]
  unfold pregC at hC
  by_cases q:hasV (s.n:Int) g=true∧g≠0
  ·rw [if_pos q] at hC
   have h2:0≤g∧g<(s.n:Int):=of_decide_eq_true q.1
   obtain ⟨j,rfl⟩:=Int.eq_ofNat_of_zero_le h2.1
   have hj:j<s.n:=by omega
   have h0:0<j:=by have:=q.2;omega
   by_cases q2:Ch.Ok (s.A ((j:Int)).toNat).1 (s.A ((j:Int)).toNat).2.1 (s.A ((j:Int)).toNat).2.2∧wgOk k
   ·rw [Int.toNat_natCast] at q2 ⊢
    have hl:=h.core.right.le
    unfold TSt.n at hj
    refine wgQ_ok ?_ (by omega)
    refine Alike.ok (s:=s) ⟨?_,?_,rfl,rfl,fun _ _=>rfl⟩ h ?_ h.core.mok (fun i hi=>?_) h.core.fok
    ·exact setW_len s.Gs j k
    ·exact setW_par s.Gs j k
    ·exact h.core.right.setW hj h0 q2.2
    ·show EntOk (upd s.A j _ i)
     by_cases e:i=j
     ·rw [e,upd_same];exact okW q2.1 q2.2
     ·rw [upd_other _ _ e];exact h.core.aok i hi
   ·rw [if_neg q2] at hC;exact absurd hC (by decide)
  ·rw [if_neg q] at hC;exact absurd hC (by decide)
 ·rw [if_neg hC];exact h
theorem enUp_fr (P:Nat→Nat):∀ (l:List Nat) (q:TSt×Bool),(l.foldl (enStep P) q).1.Gs=q.1.Gs∧(l.foldl (enStep P) q).1.cr=q.1.cr∧(l.foldl (enStep P) q).1.T=q.1.T∧(l.foldl (enStep P) q).1.c=q.1.c∧(l.foldl (enStep P) q).1.A=q.1.A:=by
 intro l
 induction l with
 | nil=>intro q;exact ⟨rfl,rfl,rfl,rfl,rfl⟩
 | cons o r ih =>
  intro q
  have i:=ih (enStep P q o)
  have e:(enStep P q o).1.Gs=q.1.Gs∧(enStep P q o).1.cr=q.1.cr∧(enStep P q o).1.T=q.1.T∧(enStep P q o).1.c=q.1.c∧(enStep P q o).1.A=q.1.A:=by
   unfold enStep
   split
   ·exact ⟨rfl,rfl,rfl,rfl,rfl⟩
   ·exact ⟨rfl,rfl,rfl,rfl,rfl⟩
  exact ⟨i.1.trans e.1,i.2.1.trans e.2.1,i.2.2.1.trans e.2.2.1,i.2.2.2.1.trans e.2.2.2.1,i.2.2.2.2.trans e.2.2.2.2⟩
theorem lvUp_fr (P:Nat→Nat):∀ (l:List Nat) (q:TSt×Bool),(l.foldl (lvStep P) q).1.Gs=q.1.Gs∧(l.foldl (lvStep P) q).1.cr=q.1.cr∧(l.foldl (lvStep P) q).1.T=q.1.T∧(l.foldl (lvStep P) q).1.c=q.1.c:=by
 intro l
 induction l with
 | nil=>intro q;exact ⟨rfl,rfl,rfl,rfl⟩
 | cons o r ih =>
  intro q
  have i:=ih (lvStep P q o)
  have e:(lvStep P q o).1.Gs=q.1.Gs∧(lvStep P q o).1.cr=q.1.cr∧(lvStep P q o).1.T=q.1.T∧(lvStep P q o).1.c=q.1.c:=by
   unfold lvStep
   split
   ·exact ⟨rfl,rfl,rfl,rfl⟩
   ·split
    ·exact ⟨rfl,rfl,rfl,rfl⟩
    ·exact ⟨rfl,rfl,rfl,rfl⟩
  exact ⟨i.1.trans e.1,i.2.1.trans e.2.1,i.2.2.1.trans e.2.2.1,i.2.2.2.trans e.2.2.2⟩
theorem chgUp_fr (tk:Int) (P:Nat→Nat):∀ (l:List Nat) (s:TSt),(chgUp tk P s l).Gs=s.Gs∧(chgUp tk P s l).cr=s.cr∧(chgUp tk P s l).T=s.T∧(chgUp tk P s l).c=s.c:=by
 intro l
 induction l with
 | nil=>intro s;exact ⟨rfl,rfl,rfl,rfl⟩
 | cons o r ih=>intro s;exact ih (chgQ tk s (P o) (65536+(o:Int)))
theorem TOk.down {s:TSt} (h:TOk s):DownT s:=fun g hg he hf=>by
 have hm:inM (s.M g) (firstI (s.M g))=true:=by
  cases e:s.M g with
  | nil=>rw [e] at he;cases he
  | cons a r=>unfold inM entM firstI;rw [List.find?_cons_of_pos (by simp)];rfl
 rcases h.core.ids g _ hm with ⟨_,q⟩ | ⟨c,c0,hc,q,hp⟩
 ·omega
 ·exact ⟨c,q,by have:=parG_lt h.core.right c0 hc;omega,hc⟩
theorem own_shapeT {w:World} {base n size:Nat} {e:TypeId} {v:Value} {xs:List Value} (h:w.ownsRow base e size v n xs):∃ a cap,v=.slice a n cap:=by
 rcases h.2 with ⟨rfl,h0⟩ | ⟨g,cap,cur,rfl,_⟩
 ·exact ⟨none,0,by rw [h0]⟩
 ·exact ⟨_,cap,rfl⟩
theorem own_base {w:World} {base base' n size:Nat} {e:TypeId} {v:Value} {xs:List Value} (h:w.ownsRow base e size v n xs) (hb:base'≤base):w.ownsRow base' e size v n xs:=
 ⟨h.1,h.2.imp id fun ⟨g,c,cur,h1,h2,h3⟩=>⟨g,c,cur,h1,Nat.le_trans hb h2,h3⟩⟩
theorem take_snoc {M:Mems} {j:Nat} {m:Int×Ent} (h:M[j]?=some m):M.take (j+1)=M.take j++[m]:=by rw [List.take_add_one,h];rfl
def firstV (M:Mems):Int:=match M with | []=>0 | x::_=>x.2.1
theorem head_le {M:Mems} (h:InOrder (itemsM M)) {id:Int} {y:Ent} (hm:(id,y)∈M):firstV M<y.1∨firstV M=y.1∧firstI M≤id:=by
 cases M with
 | nil=>cases hm
 | cons a r =>
  rcases List.mem_cons.1 hm with e | hr
  ·right
   rw [← e]
   exact ⟨rfl,Int.le_refl _⟩
  ·have h2:InOrder (kM a::itemsM r):=h
   have:=(List.pairwise_cons.1 h2).1 (kM (id,y)) (List.mem_map.2 ⟨_,hr,rfl⟩)
   unfold ltI kM at this
   unfold firstV firstI
   simp only at this ⊢
   omega
theorem first_ent {M:Mems} (hn:(M.map Prod.fst).Nodup) (hne:M.isEmpty=false):∃ y,entM M (firstI M)=some y∧y.1=firstV M:=by
 cases M with
 | nil=>simp at hne
 | cons a r=>exact ⟨a.2,(ent_some hn).2 (by unfold firstI;exact List.mem_cons_self),rfl⟩
structure LeadOk (s:TSt) (g:Nat) (L:List Nat) (id:Int):Prop where
 pos:0<L.length
 head:L[0]! = g
 grp:∀ i,i<L.length→L[i]!<s.n∧(s.M L[i]!).isEmpty=false
 next:∀ i,i+1<L.length→firstI (s.M L[i]!)=65536+((L[i+1]!:Nat):Int)∧0<L[i+1]!∧parG s.Gs L[i+1]! = L[i]!
 last:∀ i,i+1=L.length→firstI (s.M L[i]!)=id∧1≤id∧id≤65535∧s.T id=some ((L[i]!:Nat):Int)
theorem first_in {M:Mems} (hne:M.isEmpty=false):inM M (firstI M)=true:=by
 cases M with
 | nil=>simp at hne
 | cons a r=>unfold inM entM firstI;rw [List.find?_cons_of_pos (by simp)];rfl
theorem lead_from {s:TSt} (h:TOk s):∀ (f g:Nat) (ch:List Int),g<s.n→s.n - g≤f→(s.M g).isEmpty=false→∃ L id,leadF s f g ch=(id,ch++L.map fun k:Nat=>(k:Int))∧LeadOk s g L id:=by
 intro f
 induction f with
 | zero=>intro g ch hg hf;omega
 | succ f ih =>
  intro g ch hg hf hne
  have hin:=first_in hne
  have hne':¬ (s.M g).isEmpty=true:=by rw [hne];simp
  rcases h.core.ids g _ hin with ⟨q,q1,q2⟩ | ⟨c,c0,cn,ce,cp⟩
  ·refine ⟨[g],firstI (s.M g),?_,⟨by simp,rfl,fun i hi=>?_,fun i hi=>?_,fun i hi=>?_⟩⟩
   ·unfold leadF
    rw [if_neg hne',if_pos (by omega)]
    rfl
   ·obtain rfl:i=0:=by simp at hi;omega
    exact ⟨hg,hne⟩
   ·simp at hi
   ·obtain rfl:i=0:=by simp at hi;omega
    exact ⟨rfl,q1,q2,q⟩
  ·have pl:=parG_lt h.core.right c0 cn
   have hs:=h.seat c c0 cn
   unfold Seated at hs
   rw [cp,← ce,hin] at hs
   have hcne:(s.M c).isEmpty=false:=by simpa using hs.symm
   obtain ⟨L,id,e,hL⟩:=ih c (ch++[(g:Int)]) cn (by omega) hcne
   refine ⟨g::L,id,?_,⟨by simp,rfl,fun i hi=>?_,fun i hi=>?_,fun i hi=>?_⟩⟩
   ·unfold leadF
    rw [if_neg hne',if_neg (by omega),show (firstI (s.M g) - 65536).toNat=c by omega,e]
    simp
   ·cases i with
    | zero=>exact ⟨hg,hne⟩
    | succ i=>exact hL.grp i (by simp at hi;omega)
   ·cases i with
    | zero =>
     show firstI (s.M g)=65536+((L[0]!:Nat):Int)∧0<L[0]!∧parG s.Gs L[0]! = g
     rw [hL.head]
     exact ⟨ce,c0,cp⟩
    | succ i=>exact hL.next i (by simp at hi;omega)
   ·cases i with
    | zero=>have:=hL.pos;simp at hi;rw [hi] at this;simp at this
    | succ i=>exact hL.last i (by simp at hi;omega)
theorem lead_ok {s:TSt} (h:TOk s) (h0:(s.M 0).isEmpty=false):∃ L id,leadT s=(id,L.map fun k:Nat=>(k:Int))∧LeadOk s 0 L id:=by
 obtain ⟨L,id,e,hL⟩:=lead_from h s.n 0 [] h.core.right.pos (by omega) h0
 exact ⟨L,id,e.trans (by simp),hL⟩
theorem lead_empty {s:TSt} (h0:(s.M 0).isEmpty=true) (hn:0<s.n):leadT s=(0,[]):=by
 unfold leadT
 obtain ⟨k,e⟩:∃ k,s.n=k+1:=⟨s.n - 1,by omega⟩
 rw [e]
 unfold leadF
 rw [if_pos h0]
theorem root_full {s:TSt} (h:TOk s):∀ g,g<s.n→(s.M g).isEmpty=false→(s.M 0).isEmpty=false:=by
 intro g
 induction g using Nat.strongRecOn with
 | ind g ih =>
  intro hg hne
  by_cases g0:0<g
  ·have pl:=parG_lt h.core.right g0 hg
   have hs:=h.seat g g0 hg
   unfold Seated at hs
   rw [hne] at hs
   exact ih (parG s.Gs g) pl (by omega) (inM_ne hs)
  ·have:g=0:=by omega
   rw [this] at hne
   exact hne
end Go.Proofs.YtapnaocdehahdaaGreat
