/-
  Trees of queues as values: what calls make of them, and what stays true (the plain part of layer 25; no tree in memory).
-/
import Derived.Test.YtapnaocdehahdaaGreatPkA
import Derived.Test.YtapnaocdehahdaaGreatKtB
import Derived.Test.YtapnaocdehahdaaGreatQuB
import Derived.Test.YtapnaocdehahdaaGreatQuA
import Derived.Test.YtapnaocdehahdaaGreatKtA
namespace Go.Proofs.YtapnaocdehahdaaGreat
open Go.RowKit Go.Maps Go.IntWalk Go.Lib
set_option linter.unusedVariables false
set_option linter.unusedSimpArgs false
attribute [local go_sem] Oper.semAt_some
def upd {α:Type} (f:Nat→α) (g:Nat) (x:α):Nat→α:=fun k=>if k=g then x else f k
theorem upd_same {α:Type} (f:Nat→α) (g:Nat) (x:α):upd f g x g=x:=if_pos rfl
theorem upd_other {α:Type} (f:Nat→α) {g k:Nat} (x:α) (h:k≠g):upd f g x k=f k:=if_neg h
structure TSt where
 Gs:Grps
 M:Nat→Mems
 fl:Nat→Int
 A:Nat→Ent
 T:Int→Option Int
 c:Nat
 cr:Int
def nameV (id:Int):Bool:=decide (1≤id∧id≤65535)
def newX (fl k:Int):Ent:=if 1≤k∧k≤65536 then (fl,0,k) else (0,0,0)
def newC (k:Int):Int:=if 1≤k∧k≤65536 then 0 else 2
def PlP (w:World) (x:Ent) (c:Int) (e:Ending) (w':World):Prop:=e=.returned (.tuple #[.agg #[.int .u64 x.1,.int .u32 x.2.1,.int .u32 x.2.2],.int .i64 c])∧Below w.heap.size w w'
theorem RightG.par {Gs:Grps} (h:RightG Gs) {k:Nat} (hk:k<Gs.length):((parG Gs k:Nat):Int)=Gs[k]!.1∧(0<k→parG Gs k<k)∧parG Gs k≤k:=by
 by_cases hz:k=0
 ·subst hz
  unfold parG
  rw [h.root]
  simp
 ·have:=gErr_par (h.rest k (by omega) hk)
  unfold parG
  omega
def set3 (w:World) (b o:Nat) (x:Ent):World:=((w.setCell ⟨b,o,none⟩ (.int .u64 x.1)).setCell ⟨b,o+1,none⟩ (.int .u32 x.2.1)).setCell ⟨b,o+2,none⟩ (.int .u32 x.2.2)
theorem infoI:(Tryz.prog.info? 3).map (fun i=>(i.zero,i.size,i.bytes))=some (some (.int .i64 0),1,8):=by kernel_rfl
theorem addN (b off n:Nat):(⟨b,off,none⟩:Addr).add n=⟨b,off+n,none⟩:=by
 simp [Addr.add]
theorem cellN {w:World} {c:Array Value} {t:TypeId} {n i:Nat} {v:Value} (hn:n=w.heap.size) (h:c[i]?=some v):(w.alloc (.cells c t)).cell? ⟨n,i,none⟩=some v:=by
 subst hn
 exact cell_nw w c t i v h
theorem step_append_own2 {P:Program} {ops:Array Oper} {o:Oper} {a:Act} {w:World} {K:Act→World→Prop} {Q:Exit→Act→World→Prop} {E:Prop}
  (hg:o.guard=none) (s x:Operand) (t:TypeId) (hop:o.op=Op.call { callee:=Callee.builtin Builtin.append,args:=#[s,x],argTypes:=#[t,t] })
  (base:Nat) (e:TypeId) (i:TypeInfo) (z:Value) (size bytes:Nat) (h1:P.underlying t=some (.slice e)) (h2:P.info? e=some i) (h3:i.zero=some z) (h4:i.size=size) (h5:i.bytes=bytes) (h6:z.cells.size=size) (h7:0<size)
  (v:Value) (n:Nat) (xs:List Value) (hs:a.eval s=v) (hown:w.ownsRow base e size v n xs)
  (ad:Addr) (m c:Nat) (news:List Value) (hx:a.eval x=.slice (some ad) m c) (hn:news.length=m*size) (hc:∀ j u,news[j]?=some u→w.cell? (ad.add j)=some u) (h1c:∀ u∈news,u.oneCell'=true)
  (b1:n+m≤maxLen) (b2:(n+m)*bytes≤140737488355328) (hbase:base≤w.heap.size) (hm:0<m)
  (hK:∀ v' w',w'.ownsRow base e size v' (n+m) (xs++news)→w.grownBy w' v.ownBlock→(v'.ownBlock=v.ownBlock∨v'.ownBlock=some w.heap.size)→K (a.put o.dst v') w') :
  if Region.wanted o (yielded ops a.tmps)=true then Oper.wp P o a w K Q else E:=by
 have hw:Region.wanted o (yielded ops a.tmps)=true:=by simp [Region.wanted,hg]
 rw [if_pos hw]
 obtain ⟨v',w',hrun,r1,r2,_⟩:=run_append_own (P:=P) w base t o.type e i z size bytes h1 h2 h3 h4 h5 h6 h7 v n xs hown ad m c news hn hc h1c b1 b2 hbase
 have h8:=run_append_place (P:=P) (w:=w) base t o.type e i z size bytes h1 h2 h3 h4 h5 h6 h7 v n xs hown ad m c news hn hc h1c b1 b2 hm hrun
 unfold Oper.wp
 simp [execOp,hop,resolve,invoke,builtin,hs,hx,hrun,Result.andThen]
 exact hK v' w' r1 r2 h8
theorem own_kept {w w':World} {base e size:Nat} {v:Value} {n:Nat} {xs:List Value} {S:List Nat} (h:w.ownsRow base e size v n xs) (hk:Kept S w w') (hn:∀ b,v.ownBlock=some b→b∉S):w'.ownsRow base e size v n xs:=by
 obtain ⟨h1,h2⟩:=h
 refine ⟨h1,?_⟩
 rcases h2 with h2 | ⟨g,cap,cur,rfl,h3,h4,h5⟩
 ·exact Or.inl h2
 ·exact Or.inr ⟨g,cap,cur,rfl,h3,(hk.block g (Array.getElem?_eq_some_iff.1 h4).1 (hn g rfl)).trans h4,h5⟩
theorem grown_kept {w w':World} {o:Option Nat} (h:w.grownBy w' o):Kept o.toList w w':=(Kept.refl _ _).grown h fun k e=>Or.inl (by rw [e];simp)
abbrev EntOk (x:Ent):Prop:=Ch.Ok x.1 x.2.1 x.2.2
abbrev FlOk (f:Int):Prop:=0≤f∧f≤18446744073709551615
theorem own_base {w:World} {base base' n size:Nat} {e:TypeId} {v:Value} {xs:List Value} (h:w.ownsRow base e size v n xs) (hb:base'≤base):w.ownsRow base' e size v n xs:=
 ⟨h.1,h.2.imp id fun ⟨g,c,cur,h1,h2,h3⟩=>⟨g,c,cur,h1,Nat.le_trans hb h2,h3⟩⟩
def tot (f:Nat→Int):Nat→Int
 | 0=>0
 | k+1=>tot f k+f k
end Go.Proofs.YtapnaocdehahdaaGreat
