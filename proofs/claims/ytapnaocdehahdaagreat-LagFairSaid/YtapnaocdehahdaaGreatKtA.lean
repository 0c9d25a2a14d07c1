/-
  Small lemmas for all walks of this seat: cells that stay known behind a contract that only makes memory.
-/
import Derived.WalkKit
import Derived.WalkSpells
import Derived.WalkLawsBesides
import Derived.Deep.QuietTactic
import Derived.BigQuiet
import Derived.Deep.LoopGhost
import Derived.Lib.Hide
import Derived.Sort.Grow
import Derived.Deep.Draws
import Derived.Deep.RegionLaw
import Derived.Test.YtapnaocdehahdaaGreatRows
import Derived.ProofKit
import Derived.OpenShut
import Derived.Deep.Slices
import Derived.Maps.OwnOps
import Derived.Maps.OwnSet
import Derived.IntWalk
import Derived.Laws.OwnMore
import Derived.Test.YtapnaocdehahdaaGreatProg
import Derived.Deep.RegionHeld3
namespace Go.Proofs.YtapnaocdehahdaaGreat
open Go.RowKit
set_option linter.unusedVariables false
theorem bcell {W w1:World} (hb:Below W.heap.size W w1):(∀ b o,b<W.heap.size→w1.cell? ⟨b,o,none⟩=W.cell? ⟨b,o,none⟩)∧(∀ b o,b<W.heap.size→w1.frozen? ⟨b,o,none⟩=W.frozen? ⟨b,o,none⟩):=
 ⟨fun b o h=>hb.cell (p:=⟨b,o,none⟩) h,fun b o h=>hb.frozen (p:=⟨b,o,none⟩) h⟩
theorem Below.step {a w w':World} (h:Below a.heap.size a w) (hb:Below w.heap.size w w'):Below a.heap.size a w':=h.trans (hb.mono h.size)
theorem Below.allocS {a w:World} (h:Below a.heap.size a w) (o:Obj):Below a.heap.size a (w.alloc o):=h.alloc h.size o
theorem below_nat {W w':World} {B:Nat} (h:Below B W w') {b o:Nat} {x:Value} (hb:b<B) (hc:W.cell? ⟨b,o,none⟩=some x):w'.cell? ⟨b,o,none⟩=some x:=(h.cell (p:=⟨b,o,none⟩) hb).trans hc
theorem cell_al {w:World} {a:Addr} {v:Value} (o:Obj) (h:w.cell? a=some v):(w.alloc o).cell? a=some v:=
 (World.cell?_alloc_lt w o a (World.block_lt_of_cell? _ _ h)).trans h
theorem cell_dr {w:World} {a:Addr} {v:Value} (h:w.cell? a=some v):w.drew.cell? a=some v:=h
theorem cell_nw (w:World) (c:Array Value) (t:TypeId) (i:Nat) (v:Value) (h:c[i]?=some v):(w.alloc (.cells c t)).cell? ⟨w.heap.size,i,none⟩=some v:=by
 rw [World.cell?_alloc_new];exact h
theorem lt_of_cell {w:World} {b o:Nat} {v:Value} (h:w.cell? ⟨b,o,none⟩=some v):b<w.heap.size:=World.block_lt_of_cell? _ _ h
theorem ret_bool {a b:Bool} (h:a=b):Ending.returned (.bool a)=.returned (.bool b):=by rw [h]
theorem ret_of {a b:Value} (h:a=b):Ending.returned a=.returned b:=by rw [h]
theorem below_ad (w:World) (o:Obj):Below w.drew.heap.size w.drew (w.alloc o).drew:=Below.allocS (Below.refl w.drew.heap.size w.drew) o
theorem below_a (w:World) (o:Obj):Below w.heap.size w (w.alloc o):=Below.allocS (Below.refl _ _) o
theorem held_1 {W a b:World} {p0:Addr} {x0:Value} (hb:Below a.heap.size a b) (h:Below W.heap.size W a∧a.cell? p0=some x0):Below W.heap.size W b∧b.cell? p0=some x0:=
 ⟨Below.step h.1 hb,cell_later hb h.2⟩
theorem kp_1 {X:Prop} (h:X:=by first | assumption | (refine held_1 (by assumption) ?_;assumption) | (refine held_1 (below_ad _ _) ?_;assumption) | (refine held_1 (below_a _ _) ?_;assumption)):X:=h
theorem held_2 {W a b:World} {p0 p1:Addr} {x0 x1:Value} (hb:Below a.heap.size a b) (h:Below W.heap.size W a∧a.cell? p0=some x0∧a.cell? p1=some x1):Below W.heap.size W b∧b.cell? p0=some x0∧b.cell? p1=some x1:=
 ⟨Below.step h.1 hb,cell_later hb h.2.1,cell_later hb h.2.2⟩
theorem held_3 {W a b:World} {p0 p1 p2:Addr} {x0 x1 x2:Value} (hb:Below a.heap.size a b) (h:Below W.heap.size W a∧a.cell? p0=some x0∧a.cell? p1=some x1∧a.cell? p2=some x2):Below W.heap.size W b∧b.cell? p0=some x0∧b.cell? p1=some x1∧b.cell? p2=some x2:=
 ⟨Below.step h.1 hb,cell_later hb h.2.1,cell_later hb h.2.2.1,cell_later hb h.2.2.2⟩
theorem kp_3 {X:Prop} (h:X:=by first | assumption | (refine held_3 (by assumption) ?_;assumption) | (refine held_3 (below_ad _ _) ?_;assumption) | (refine held_3 (below_a _ _) ?_;assumption)):X:=h
theorem held_4 {W a b:World} {p0 p1 p2 p3:Addr} {x0 x1 x2 x3:Value} (hb:Below a.heap.size a b) (h:Below W.heap.size W a∧a.cell? p0=some x0∧a.cell? p1=some x1∧a.cell? p2=some x2∧a.cell? p3=some x3):Below W.heap.size W b∧b.cell? p0=some x0∧b.cell? p1=some x1∧b.cell? p2=some x2∧b.cell? p3=some x3:=
 ⟨Below.step h.1 hb,cell_later hb h.2.1,cell_later hb h.2.2.1,cell_later hb h.2.2.2.1,cell_later hb h.2.2.2.2⟩
theorem held_5 {W a b:World} {p0 p1 p2 p3 p4:Addr} {x0 x1 x2 x3 x4:Value} (hb:Below a.heap.size a b) (h:Below W.heap.size W a∧a.cell? p0=some x0∧a.cell? p1=some x1∧a.cell? p2=some x2∧a.cell? p3=some x3∧a.cell? p4=some x4):Below W.heap.size W b∧b.cell? p0=some x0∧b.cell? p1=some x1∧b.cell? p2=some x2∧b.cell? p3=some x3∧b.cell? p4=some x4:=
 ⟨Below.step h.1 hb,cell_later hb h.2.1,cell_later hb h.2.2.1,cell_later hb h.2.2.2.1,cell_later hb h.2.2.2.2.1,cell_later hb h.2.2.2.2.2⟩
theorem held_6 {W a b:World} {p0 p1 p2 p3 p4 p5:Addr} {x0 x1 x2 x3 x4 x5:Value} (hb:Below a.heap.size a b) (h:Below W.heap.size W a∧a.cell? p0=some x0∧a.cell? p1=some x1∧a.cell? p2=some x2∧a.cell? p3=some x3∧a.cell? p4=some x4∧a.cell? p5=some x5):Below W.heap.size W b∧b.cell? p0=some x0∧b.cell? p1=some x1∧b.cell? p2=some x2∧b.cell? p3=some x3∧b.cell? p4=some x4∧b.cell? p5=some x5:=
 ⟨Below.step h.1 hb,cell_later hb h.2.1,cell_later hb h.2.2.1,cell_later hb h.2.2.2.1,cell_later hb h.2.2.2.2.1,cell_later hb h.2.2.2.2.2.1,cell_later hb h.2.2.2.2.2.2⟩
structure Kept (S:List Nat) (w w':World):Prop where
 os:w'.os=w.os
 tape:w'.tape=w.tape
 output:w'.output=w.output
 size:w.heap.size≤w'.heap.size
 block:∀ k,k<w.heap.size→k∉S→w'.heap[k]?=w.heap[k]?
theorem Kept.refl (S:List Nat) (w:World):Kept S w w:=⟨rfl,rfl,rfl,Nat.le_refl _,fun _ _ _=>rfl⟩
theorem Kept.trans {S:List Nat} {a b c:World} (h:Kept S a b) (k:Kept S b c):Kept S a c:=
 ⟨k.os.trans h.os,k.tape.trans h.tape,k.output.trans h.output,Nat.le_trans h.size k.size,fun i hi hn=>(k.block i (Nat.lt_of_lt_of_le hi h.size) hn).trans (h.block i hi hn)⟩
theorem Kept.mono {S T:List Nat} {a b:World} (h:Kept S a b) (hs:∀ k∈S,k∈T):Kept T a b:=⟨h.os,h.tape,h.output,h.size,fun i hi hn=>h.block i hi (fun m=>hn (hs i m))⟩
theorem Kept.of {S:List Nat} {w w':World} (h:Below w.heap.size w w'):Kept S w w':=⟨h.os,h.tape,h.output,h.size,fun k hk _=>h.block k hk⟩
theorem Kept.step {S:List Nat} {a w w':World} (h:Kept S a w) (hb:Below w.heap.size w w'):Kept S a w':=h.trans (Kept.of hb)
theorem Kept.setCell {S:List Nat} {a w:World} (h:Kept S a w) {p:Addr} (hp:p.block∈S∨a.heap.size≤p.block) (u:Value):Kept S a (w.setCell p u):=
 ⟨h.os,h.tape,h.output,by have:=h.size;simp [World.setCell];omega,fun k hk hn=>by
  rw [Below.heap_setCell _ _ _ _ (by rcases hp with hp | hp;exact fun e=>hn (e ▸ hp);omega)];exact h.block k hk hn⟩
theorem Kept.alloc {S:List Nat} {a w:World} (h:Kept S a w) (o:Obj):Kept S a (w.alloc o):=h.trans (Kept.of (Below.allocS (Below.refl _ _) o))
theorem Kept.drew {S:List Nat} {a w:World} (h:Kept S a w):Kept S a w.drew:=⟨h.os,h.tape,h.output,h.size,h.block⟩
theorem Kept.grown {S:List Nat} {a w w':World} {row:Option Nat} (h:Kept S a w) (hg:w.grownBy w' row) (hr:∀ k,row=some k→k∈S∨a.heap.size≤k):Kept S a w':=
 ⟨hg.os.trans h.os,hg.tape.trans h.tape,hg.output.trans h.output,Nat.le_trans h.size hg.size,fun k hk hn=>(hg.block k (Nat.lt_of_lt_of_le hk h.size) (fun e=>by rcases hr k e.symm with q | q;exact hn q;omega)).trans (h.block k hk hn)⟩
theorem Kept.below {S:List Nat} {B:Nat} {w w':World} (h:Kept S w w') (hS:∀ k∈S,B≤k) (hB:B≤w.heap.size):Below B w w':=
 ⟨h.os,h.tape,h.output,h.size,fun k hk=>h.block k (by omega) (fun m=>by have:=hS k m;omega)⟩
theorem Kept.cell {S:List Nat} {w w':World} (h:Kept S w w') {b o:Nat} (hb:b<w.heap.size) (hn:b∉S):w'.cell? ⟨b,o,none⟩=w.cell? ⟨b,o,none⟩:=World.cell?_of_block (w:=w) (a:=⟨b,o,none⟩) (h.block b hb hn)
theorem Kept.cellAt {S:List Nat} {w w':World} (h:Kept S w w') {b o:Nat} {v:Value} (hc:w.cell? ⟨b,o,none⟩=some v) (hn:b∉S):w'.cell? ⟨b,o,none⟩=some v:=(h.cell (lt_of_cell hc) hn).trans hc
theorem Kept.stepB {S:List Nat} {B:Nat} {a w w':World} (hB:Below B a w) (hBs:B≤a.heap.size) (h:Kept S w w') (hS:∀ k∈S,B≤k):Below B a w':=hB.trans (h.below hS (Nat.le_trans hBs hB.size))
theorem cell_set_ne {w:World} {b o b' o':Nat} {v u:Value} (h:w.cell? ⟨b,o,none⟩=some v) (hn:b≠b'∨o≠o'):(w.setCell ⟨b',o',none⟩ u).cell? ⟨b,o,none⟩=some v:=by
 rw [World.cell?_setCell_other];exact h
 intro e;cases e;rcases hn with q | q <;> exact q rfl
theorem cell_set_eq {w:World} {b o:Nat} {v u:Value} (h:w.cell? ⟨b,o,none⟩=some v):(w.setCell ⟨b,o,none⟩ u).cell? ⟨b,o,none⟩=some u:=World.cell?_setCell_same' _ _ _ (by rw [h];rfl)
theorem heap_set_ne {w:World} {b b' o':Nat} {u:Value} (hn:b≠b'):(w.setCell ⟨b',o',none⟩ u).heap[b]?=w.heap[b]?:=Below.heap_setCell _ _ _ _ hn
end Go.Proofs.YtapnaocdehahdaaGreat
namespace Go.Proofs.YtapnaocdehahdaaGreat
open Go.RowKit Go.Lib Go.Sort
set_option linter.unusedVariables false
def Grows (w w':World):Prop:=∃ q os,w'=grow (w.drewN q) os
theorem Grows.refl (w:World):Grows w w:=⟨0,#[],by rw [grow_empty];rfl⟩
theorem Grows.trans {a b c:World} (h:Grows a b) (k:Grows b c):Grows a c:=by
 obtain ⟨q,os,rfl⟩:=h
 obtain ⟨r,os',rfl⟩:=k
 refine ⟨q+r,os++os',?_⟩
 rw [← grow_grow,← World.drewN_drewN]
 rfl
theorem Grows.alloc {a w:World} (h:Grows a w) (o:Obj):Grows a (w.alloc o):=h.trans ⟨0,#[o],by rw [World.drewN_zero];exact alloc_eq_grow _ _⟩
theorem Grows.drew {a w:World} (h:Grows a w):Grows a w.drew:=h.trans ⟨1,#[],by rw [grow_empty];rfl⟩
theorem Grows.drewN {a w:World} (h:Grows a w) (n:Nat):Grows a (w.drewN n):=h.trans ⟨n,#[],by rw [grow_empty]⟩
theorem Grows.below {w w':World} (h:Grows w w'):Below w.heap.size w w':=by
 obtain ⟨q,os,rfl⟩:=h
 refine ⟨rfl,rfl,rfl,by simp [grow],fun k hk=>?_⟩
 show ((w.drewN q).heap++os)[k]?=_
 rw [Array.getElem?_append_left (by simpa using hk)]
 rfl
theorem grows_ad (w:World) (o:Obj):Grows w.drew (w.alloc o).drew:=(Grows.refl w.drew).alloc o
theorem grows_a (w:World) (o:Obj):Grows w (w.alloc o):=(Grows.refl w).alloc o
theorem grows_cell {w w':World} {a:Addr} {v:Value} (h:Grows w w') (hc:w.cell? a=some v):w'.cell? a=some v:=cell_later h.below hc
theorem heldG_6 {W a b:World} {p0 p1 p2 p3 p4 p5:Addr} {x0 x1 x2 x3 x4 x5:Value} (hb:Grows a b) (h:Grows W a∧a.cell? p0=some x0∧a.cell? p1=some x1∧a.cell? p2=some x2∧a.cell? p3=some x3∧a.cell? p4=some x4∧a.cell? p5=some x5):Grows W b∧b.cell? p0=some x0∧b.cell? p1=some x1∧b.cell? p2=some x2∧b.cell? p3=some x3∧b.cell? p4=some x4∧b.cell? p5=some x5:=
 ⟨h.1.trans hb,grows_cell hb h.2.1,grows_cell hb h.2.2.1,grows_cell hb h.2.2.2.1,grows_cell hb h.2.2.2.2.1,grows_cell hb h.2.2.2.2.2.1,grows_cell hb h.2.2.2.2.2.2⟩
theorem heldG_9 {W a b:World} {p0 p1 p2 p3 p4 p5 p6 p7 p8:Addr} {x0 x1 x2 x3 x4 x5 x6 x7 x8:Value} (hb:Grows a b) (h:Grows W a∧a.cell? p0=some x0∧a.cell? p1=some x1∧a.cell? p2=some x2∧a.cell? p3=some x3∧a.cell? p4=some x4∧a.cell? p5=some x5∧a.cell? p6=some x6∧a.cell? p7=some x7∧a.cell? p8=some x8):Grows W b∧b.cell? p0=some x0∧b.cell? p1=some x1∧b.cell? p2=some x2∧b.cell? p3=some x3∧b.cell? p4=some x4∧b.cell? p5=some x5∧b.cell? p6=some x6∧b.cell? p7=some x7∧b.cell? p8=some x8:=
 ⟨h.1.trans hb,grows_cell hb h.2.1,grows_cell hb h.2.2.1,grows_cell hb h.2.2.2.1,grows_cell hb h.2.2.2.2.1,grows_cell hb h.2.2.2.2.2.1,grows_cell hb h.2.2.2.2.2.2.1,grows_cell hb h.2.2.2.2.2.2.2.1,grows_cell hb h.2.2.2.2.2.2.2.2.1,grows_cell hb h.2.2.2.2.2.2.2.2.2⟩
end Go.Proofs.YtapnaocdehahdaaGreat
namespace Go.Proofs.YtapnaocdehahdaaGreat
open Go.RowKit
set_option linter.unusedVariables false
theorem step_append_own {P:Program} {ops:Array Oper} {o:Oper} {a:Act} {w:World} {K:Act→World→Prop} {Q:Exit→Act→World→Prop} {E:Prop}
  (hg:o.guard=none) (s x:Operand) (t:TypeId) (hop:o.op=Op.call { callee:=Callee.builtin Builtin.append,args:=#[s,x],argTypes:=#[t,t] })
  (base:Nat) (e:TypeId) (i:TypeInfo) (z:Value) (size bytes:Nat) (h1:P.underlying t=some (.slice e)) (h2:P.info? e=some i) (h3:i.zero=some z) (h4:i.size=size) (h5:i.bytes=bytes) (h6:z.cells.size=size) (h7:0<size)
  (v:Value) (n:Nat) (xs:List Value) (hs:a.eval s=v) (hown:w.ownsRow base e size v n xs)
  (ad:Addr) (m c:Nat) (news:List Value) (hx:a.eval x=.slice (some ad) m c) (hn:news.length=m*size) (hc:∀ j u,news[j]?=some u→w.cell? (ad.add j)=some u) (h1c:∀ u∈news,u.oneCell'=true)
  (b1:n+m≤maxLen) (b2:(n+m)*bytes≤140737488355328) (hbase:base≤w.heap.size)
  (hK:∀ v' w',w'.ownsRow base e size v' (n+m) (xs++news)→w.grownBy w' v.ownBlock→K (a.put o.dst v') w') :
  if Region.wanted o (yielded ops a.tmps)=true then Oper.wp P o a w K Q else E:=by
 have hw:Region.wanted o (yielded ops a.tmps)=true:=by simp [Region.wanted,hg]
 rw [if_pos hw]
 obtain ⟨v',w',hrun,r1,r2,_⟩:=run_append_own (P:=P) w base t o.type e i z size bytes h1 h2 h3 h4 h5 h6 h7 v n xs hown ad m c news hn hc h1c b1 b2 hbase
 unfold Oper.wp
 simp [execOp,hop,resolve,invoke,builtin,hs,hx,hrun,Result.andThen]
 exact hK v' w' r1 r2
theorem gset (w:World) (b o:Nat) (v:Value):w.grownBy (w.setCell ⟨b,o,none⟩ v) (some b):=
 ⟨rfl,rfl,rfl,by simp [World.setCell],fun k _ hk=>Below.heap_setCell _ _ _ _ (fun e=>hk (by rw [e]))⟩
theorem own_some {w:World} {base e size:Nat} {v:Value} {n:Nat} {xs:List Value} (h:w.ownsRow base e size v (n+1) xs):∃ g cap,v=.slice (some ⟨g,0,none⟩) (n+1) cap:=by
 rcases h.2 with ⟨_,h⟩ | ⟨g',cap',_,rfl,_⟩
 ·omega
 ·exact ⟨g',cap',rfl⟩
theorem run_append_place {P:Program} {w:World} (base:Nat) (t ty e:TypeId) (i:TypeInfo) (z:Value) (size bytes:Nat) (ht:P.underlying t=some (.slice e)) (hi:P.info? e=some i) (hz:i.zero=some z)
  (hsize:i.size=size) (hby:i.bytes=bytes) (hzs:z.cells.size=size) (hsz:0<size)
  (v:Value) (n:Nat) (xs:List Value) (hown:w.ownsRow base e size v n xs)
  (a:Addr) (m c:Nat) (news:List Value) (hl:news.length=m*size) (hnews:∀ j u,news[j]?=some u→w.cell? (a.add j)=some u) (h1:∀ u∈news,u.oneCell'=true)
  (h63:n+m≤maxLen) (hbytes:(n+m)*bytes≤140737488355328) (hm:0<m) {v':Value} {w':World}
  (hr:(Builtin.append_ #[t,t] ty #[v,.slice (some a) m c]).run P w=.ok v' w'):v'.ownBlock=v.ownBlock∨v'.ownBlock=some w.heap.size:=by
 subst hsize
 subst hby
 have hsmall:n+m≤9223372036854775807:=by simp only [maxLen] at h63;omega
 rcases hown.2 with ⟨rfl,rfl⟩ | ⟨g,cap,cur,rfl,hbg,hg,hnc,hcm,hcs,htake⟩
 ·have hb:=hbytes
  simp only [Nat.zero_add] at hb
  rw [run_append_nil (P:=P) w t ty e i z ht hi hz a m c news hl hnews hm (by omega) (by omega)] at hr
  cases hr
  exact Or.inr rfl
 ·by_cases hroom:n+m≤cap
  ·have hfit:n*i.size+news.length≤cur.size:=by rw [hl,hcs,← Nat.add_mul];exact Nat.mul_le_mul_right _ hroom
   rw [run_append_room (P:=P) w t ty e i ht hi g n cap cur hg a m c news hl hnews h1 hroom hfit] at hr
   cases hr
   exact Or.inl rfl
  ·have holds:∀ j u,xs[j]?=some u→w.cell? ((⟨g,0,none⟩:Addr).add j)=some u:=hown.cells (g:=g) rfl
   rw [run_append_grow (P:=P) w t ty e i z ht hi hz ⟨g,0,none⟩ n cap xs hown.1 holds a m c news hl hnews (by omega) (by omega) (growslice_fits (by omega) hbytes)] at hr
   cases hr
   exact Or.inr rfl
theorem wpList_append_own2 {P:Program} {w:World} {ops:Array Oper} {rest:List Oper} {o:Oper} {a:Act} {Q:Exit→Act→World→Prop} (hgd:o.guard=none) (s x:Operand) (t:TypeId)
  (ho:o.op=.call { callee:=.builtin .append,args:=#[s,x],argTypes:=#[t,t] })
  (base:Nat) (e:TypeId) (i:TypeInfo) (z:Value) (size bytes:Nat) (ht:P.underlying t=some (.slice e)) (hi:P.info? e=some i) (hz:i.zero=some z)
  (hsize:i.size=size) (hby:i.bytes=bytes) (hzs:z.cells.size=size) (hsz:0<size)
  (v:Value) (n:Nat) (xs:List Value) (hs:a.eval s=v) (hown:w.ownsRow base e size v n xs)
  (ad:Addr) (m c:Nat) (news:List Value) (hx:a.eval x=.slice (some ad) m c) (hl:news.length=m*size) (hnews:∀ j u,news[j]?=some u→w.cell? (ad.add j)=some u) (h1:∀ u∈news,u.oneCell'=true)
  (h63:n+m≤maxLen) (hbytes:(n+m)*bytes≤140737488355328) (hbase:base≤w.heap.size) (hm:0<m)
  (h:∀ v' w',w'.ownsRow base e size v' (n+m) (xs++news)→w.grownBy w' v.ownBlock→(v'.ownBlock=v.ownBlock∨v'.ownBlock=some w.heap.size)→wpList P ops Q rest (a.put o.dst v') w'):wpList P ops Q (o::rest) a w:=
 wpList_plain hgd fun _ hK=>by
  obtain ⟨v',w',hr,h2,h3,_⟩:=run_append_own (P:=P) w base t o.type e i z size bytes ht hi hz hsize hby hzs hsz v n xs hown ad m c news hl hnews h1 h63 hbytes hbase
  have h4:=run_append_place (P:=P) (w:=w) base t o.type e i z size bytes ht hi hz hsize hby hzs hsz v n xs hown ad m c news hl hnews h1 h63 hbytes hm hr
  unfold Oper.wp execOp
  simp only [ho,resolve,invoke,builtin,Sem.run_bind,Sem.run_pure,Result.andThen_ok,List.map_toArray,List.map_cons,List.map_nil,hs,hx,hr]
  exact hK _ _ (h v' w' h2 h3 h4)
end Go.Proofs.YtapnaocdehahdaaGreat
namespace Go.Proofs.YtapnaocdehahdaaGreat
open Go.RowKit Go.WideShapes
set_option linter.unusedVariables false
set_option linter.unusedSimpArgs false
def CellFit:Option IntKind→Value→Prop
 | some k,v=>∃ a:Int,v=.int k a∧(Lit.int k a).wf=true
 | none,v=>∃ b:Bool,v=.bool b
def joinPieces (K:TypeId→Option (List (Option IntKind))) (size:TypeId→Nat):List (Nat×TypeId)→Nat→Option (List (Option IntKind))
 | [],_=>some []
 | p::r,o=>if p.1=o then
   match K p.2 with
   | some k=>if size p.2=k.length then (joinPieces K size r (o+k.length)).map (k++·) else none
   | none=>none
  else none
def plainKinds (P:Program):Nat→TypeId→Option (List (Option IntKind))
 | 0,_=>none
 | n+1,t =>
  match P.underlying t with
  | some (.int k)=>some [some k]
  | some .bool=>some [none]
  | some (.struct fs)=>joinPieces (plainKinds P n) P.cellsOf (fs.toList.map fun f=>(f.offset,f.type)) 0
  | some (.array m e)=>joinPieces (plainKinds P n) P.cellsOf ((List.range m).map fun i=>(i*P.cellsOf e,e)) 0
  | _=>none
def FitsAt (ks:List (Option IntKind)) (cs:List Value):Prop:=∀ (j:Nat) (k:Option IntKind),ks[j]?=some k→∃ v,cs[j]?=some v∧CellFit k v
theorem join_fits {K:TypeId→Option (List (Option IntKind))} {size:TypeId→Nat} {cs:List Value}:∀ (ps:List (Nat×TypeId)) (o:Nat) (ks:List (Option IntKind)),
  joinPieces K size ps o=some ks→(∀ p∈ps,∀ k,K p.2=some k→FitsAt k ((cs.drop p.1).take (size p.2)))→FitsAt ks (cs.drop o):=by
 intro ps
 induction ps with
 | nil =>
  intro o ks h _ j k hj
  simp only [joinPieces,Option.some.injEq] at h
  subst h
  simp at hj
 | cons p r ih =>
  intro o ks h hp
  unfold joinPieces at h
  by_cases ho:p.1=o
  ·rw [if_pos ho] at h
   cases hk:K p.2 with
   | none=>rw [hk] at h;cases h
   | some k =>
    rw [hk] at h
    by_cases hs:size p.2=k.length
    ·simp only [hs,if_true,Option.map_eq_some_iff] at h
     obtain ⟨rest,hr,rfl⟩:=h
     intro j kj hj
     by_cases hlt:j<k.length
     ·rw [List.getElem?_append_left hlt] at hj
      obtain ⟨v,hv,hf⟩:=hp p (by simp) k hk j kj hj
      refine ⟨v,?_,hf⟩
      rw [List.getElem?_take,if_pos (by omega),ho] at hv
      exact hv
     ·rw [List.getElem?_append_right (by omega)] at hj
      obtain ⟨v,hv,hf⟩:=ih (o+k.length) rest hr (fun q hq=>hp q (by simp [hq])) (j - k.length) kj hj
      refine ⟨v,?_,hf⟩
      rw [List.getElem?_drop] at hv ⊢
      rw [show o+j=o+k.length+(j - k.length) by omega]
      exact hv
    ·simp only [hs,if_false] at h;cases h
  ·rw [if_neg ho] at h;cases h
section
variable {H:Type} {enc:TypeId×Value→H} {P:Program} {w:World} {base:Nat} {spare:Nat→Bool} {held:Bool}
theorem plain_fits:∀ (n:Nat) (t:TypeId) (ks:List (Option IntKind)) (fuel:Nat) (cs:List Value) (x:DataW H×List MemPlace),
  plainKinds P n t=some ks→DataW.trod enc P w base spare held fuel t cs=some x→FitsAt ks cs:=by
 intro n
 induction n with
 | zero=>intro t ks fuel cs x h;cases h
 | succ n ih =>
  intro t ks fuel cs x h hd
  unfold plainKinds at h
  cases hu:P.underlying t with
  | none=>rw [hu] at h;cases h
  | some d =>
   rw [hu] at h
   cases d with
   | int k =>
    simp only [Option.some.injEq] at h
    subst h
    obtain ⟨a,rfl,_,wa⟩:=DataW.trod_int hu hd
    intro j kj hj
    cases j with
    | zero=>simp at hj;subst hj;exact ⟨_,rfl,a,rfl,wa⟩
    | succ j=>simp at hj
   | bool =>
    simp only [Option.some.injEq] at h
    subst h
    obtain ⟨b,rfl,_⟩:=DataW.trod_bool hu hd
    intro j kj hj
    cases j with
    | zero=>simp at hj;subst hj;exact ⟨_,rfl,b,rfl⟩
    | succ j=>simp at hj
   | struct fs =>
    obtain ⟨xs,m,_,_,_,hl,hx⟩:=DataW.trod_struct hu hd
    have:=join_fits (cs:=cs) _ 0 ks h (by
     intro p hp k hk
     simp only [List.mem_map] at hp
     obtain ⟨f,hf,rfl⟩:=hp
     obtain ⟨i,hi,hfi⟩:=List.getElem_of_mem hf
     have hi':i<fs.size:=by simpa using hi
     have h1:=hx i f (by rw [← hfi];simp [hi'])
     rw [List.getElem?_eq_getElem (by omega)] at h1
     exact ih f.type k m _ _ hk h1)
    simpa using this
   | array m e =>
    obtain ⟨xs,q,_,_,_,hl,hx⟩:=DataW.trod_array hu hd
    have:=join_fits (cs:=cs) _ 0 ks h (by
     intro p hp k hk
     simp only [List.mem_map,List.mem_range] at hp
     obtain ⟨i,hi,rfl⟩:=hp
     have h1:=hx i hi
     rw [List.getElem?_eq_getElem (by omega)] at h1
     exact ih e k q _ _ hk h1)
    simpa using this
   | _=>cases h
theorem addr_add (b off n:Nat):(⟨b,off,none⟩:Addr).add n=⟨b,off+n,none⟩:=by
 unfold Addr.add
 by_cases h:n=0
 ·subst h;simp
 ·simp [h]
def PlainRow (ks:List (Option IntKind)) (w:World) (a:Option Addr) (len cap:Nat) (F:Nat→Nat→Value):Prop:=
 (a=none∧len=0∧cap=0)∨(len=0∧cap≤maxLen∧∃ x,a=some x)∨(0<len∧len≤cap∧cap≤maxLen∧∃ b off,a=some ⟨b,off,none⟩ ∧
  ∀ i,i<len→∀ (j:Nat) (k:Option IntKind),ks[j]?=some k→w.cell? ⟨b,off+i*ks.length+j,none⟩=some (F i j)∧CellFit k (F i j))
theorem open_rows {t e:TypeId} {ks:List (Option IntKind)} {a:Option Addr} {len cap:Nat} {d:DataW H} {p:List MemPlace} (n:Nat) (ht:P.underlying t=some (.slice e)) (hk:plainKinds P n e=some ks) (hl:P.cellsOf e=ks.length) (hpos:0<ks.length)
  (h:DataW.Trod enc P w base spare held t (.slice a len cap) d p):∃ F,PlainRow ks w a len cap F:=by
 obtain ⟨fuel,hf⟩:=h
 rcases Deep.open_slice ht hf with ⟨hcs,_⟩ | ⟨x,l,c,m,q,D,Pl,hcs,_,hlc,hm,hmm,_,hel⟩
 ·simp [Value.cells] at hcs
  obtain ⟨rfl,rfl,rfl⟩:=hcs
  exact ⟨fun _ _=>.nilIface,Or.inl ⟨rfl,rfl,rfl⟩⟩
 ·simp [Value.cells] at hcs
  obtain ⟨rfl,rfl,rfl⟩:=hcs
  have hlm:len≤m:=by rw [hmm];split <;> omega
  have key:∀ i,i<len→∃ cs',(∀ j,j<ks.length→w.cell? ((x.add (i*ks.length)).add j)=cs'[j]?)∧FitsAt ks cs':=by
   intro i hi
   obtain ⟨cs',h1,h2⟩:=hel i (by omega)
   rw [hl] at h1
   obtain ⟨_,h3,h4⟩:=World.cells?_some h1
   exact ⟨cs',h4,plain_fits n e ks q cs' _ hk h2⟩
  obtain ⟨b,off,spot⟩:=x
  by_cases h0:len=0
  ·subst h0;exact ⟨fun _ _=>.nilIface,Or.inr (Or.inl ⟨rfl,hm,_,rfl⟩)⟩
  ·have hs:spot=none:=by
    obtain ⟨cs',h4,h5⟩:=key 0 (by omega)
    obtain ⟨k,hk0⟩:∃ k,ks[0]?=some k:=⟨_,List.getElem?_eq_getElem hpos⟩
    obtain ⟨v,hv,_⟩:=h5 0 k hk0
    have:=h4 0 hpos
    rw [hv] at this
    simpa [Addr.add] using World.cell?_spot this
   subst hs
   refine ⟨fun i j=>(w.cell? ⟨b,off+i*ks.length+j,none⟩).getD .nilIface,Or.inr (Or.inr ⟨by omega,hlc,hm,b,off,rfl,?_⟩)⟩
   intro i hi j k hj
   obtain ⟨cs',h4,h5⟩:=key i hi
   obtain ⟨v,hv,hf⟩:=h5 j k hj
   have hjl:j<ks.length:=by
    rcases Nat.lt_or_ge j ks.length with h | h
    ·exact h
    ·rw [List.getElem?_eq_none h] at hj;cases hj
   have h6:=h4 j hjl
   rw [hv] at h6
   have h7:w.cell? ⟨b,off+i*ks.length+j,none⟩=some v:=by rw [addr_add,addr_add] at h6;exact h6
   simp only [h7,Option.getD_some,true_and]
   exact hf
end
end Go.Proofs.YtapnaocdehahdaaGreat
namespace Go.Proofs.YtapnaocdehahdaaGreat
open Go.RowKit Go.Maps
set_option linter.unusedVariables false
def setF {α:Type} (f:Int→Option α) (id:Int) (p:Option α):Int→Option α:=fun j=>if j=id then p else f j
section
variable {α:Type}
variable {enc:α→Value} {dat:α→DataW Unit} {R:Value→Option (DataW Unit×List MemPlace)} {ok:α→Prop}
end
end Go.Proofs.YtapnaocdehahdaaGreat
namespace Go.Proofs.YtapnaocdehahdaaGreat
open Go.RowKit Go.IntWalk
set_option linter.unusedVariables false
def intsV (xs:List Int):List Value:=xs.map (.int .i64)
def RowAt (K:IntKind) (w:World) (a:Option Addr) (n:Nat) (xs:List Int):Prop:=
 xs.length=n∧(0<n→∃ b off,a=some ⟨b,off,none⟩∧∀ i x,xs[i]?=some x→w.cell? ⟨b,off+i,none⟩=some (.int K x))
theorem RowAt.later {K:IntKind} {w w':World} {a:Option Addr} {n:Nat} {xs:List Int} (h:RowAt K w a n xs) (hb:Below w.heap.size w w'):RowAt K w' a n xs:=by
 refine ⟨h.1,fun h0=>?_⟩
 obtain ⟨b,off,e,hc⟩:=h.2 h0
 exact ⟨b,off,e,fun i x hx=>cell_later hb (hc i x hx)⟩
theorem own_row {w:World} {base g n cap:Nat} {e:TypeId} {xs:List Int} (h:w.ownsRow base e 1 (.slice (some ⟨g,0,none⟩) n cap) n (intsV xs)):RowAt .i64 w (some ⟨g,0,none⟩) n xs:=by
 have hl:xs.length=n:=by have:=h.1;simpa [intsV] using this
 refine ⟨hl,fun _=>⟨g,0,rfl,fun i x hx=>?_⟩⟩
 have hi:i<n:=by rw [← hl];exact (List.getElem?_eq_some_iff.1 hx).1
 rw [Nat.zero_add,h.cellAt i (by omega)]
 simp [intsV,hx]
set_option maxRecDepth 100000 in
set_option maxHeartbeats 1000000 in
theorem SameInts_any (a a':Option Addr) (n n' c c':Nat) (xs ys:List Int) (w:World) (hx:RowAt .i64 w a n xs) (hy:RowAt .i64 w a' n' ys) (hn:n≤1000000) (hn':n'≤1000000) :
  Calls Tryz.prog 57 #[.slice a n c,.slice a' n' c'] w fun e w'=>e=.returned (.bool (decide (xs=ys)))∧Grows w w':=by
 by_cases hl:n=n'
 ·subst hl
  by_cases h0:n=0
  ·subst h0
   have e1:xs=[]:=List.eq_nil_of_length_eq_zero hx.1
   have e2:ys=[]:=List.eq_nil_of_length_eq_zero hy.1
   rw [e1,e2]
   clear hx hy e1 e2
   go_enter Tryz.func57,Tryz.ntmps57
   go_wp2_with fail
   refine wp_loop_rounds 1 ?_
   rw [rounds_succ]
   go_wp2_with fail
   go_ret
   exact ⟨rfl,Grows.refl _⟩
  ·obtain ⟨b,off,rfl,hcx⟩:=hx.2 (by omega)
   obtain ⟨b',off',rfl,hcy⟩:=hy.2 (by omega)
   have HX:=Lib.hid hx
   have HY:=Lib.hid hy
   have CX:=Lib.hid hcx
   have CY:=Lib.hid hcy
   have hz:((n:Int) != (n:Int))=false:=by simp
   clear hx hy hcx hcy h0
   go_enter Tryz.func57,Tryz.ntmps57
   go_wp2_with fail
   go_loopw [5] (fun i wr=>∃ k q:Nat,k≤n∧i=.int .i64 k∧xs.take k=ys.take k∧wr=w.drewN q) (fun i _=>n - (intOf i).toNat)
   case atStart=>exact ⟨0,0,Nat.zero_le _,rfl,rfl,rfl⟩
   case round =>
    obtain ⟨k,q,hk,rfl,heq,rfl⟩:=hrel
    have HE:=Lib.hid heq
    clear heq
    by_cases hlt:k<n
    ·obtain ⟨x,hx⟩:∃ x,xs[k]?=some x:=⟨_,List.getElem?_eq_getElem (by rw [HX.out.1];exact hlt)⟩
     obtain ⟨y,hy⟩:∃ x,ys[k]?=some x:=⟨_,List.getElem?_eq_getElem (by rw [HY.out.1];exact hlt)⟩
     have q0:=CX.out k x hx
     have q1:=CY.out k y hy
     have hk0:(0:Int)≤(k:Int):=by omega
     have hkn:(k:Int)<(n:Int):=by omega
     have GX:=Lib.hid hx
     have GY:=Lib.hid hy
     clear hx hy
     by_cases hxy:x=y
     ·subst hxy
      have hb:(x != x)=false:=by simp
      have HT:=Lib.hid (show xs.take (k+1)=ys.take (k+1) by rw [List.take_add_one,List.take_add_one,GX.out,GY.out,HE.out])
      go_wp2_with fail
      go_quiet (fail)
      go_wp2_with fail
      go_roundw
      case rel=>exact ⟨k+1,_,by omega,by go_num,HT.out,rfl⟩
      case measure=>simp [intOf];omega
     ·have hb:(x != y)=true:=by simpa using hxy
      have HT:=Lib.hid (show decide (xs=ys)=false from decide_eq_false fun e=>hxy (by have:=GX.out;rw [e,GY.out] at this;exact (Option.some.inj this).symm))
      go_wp2_with fail
      go_quiet (fail)
      go_wp2_with fail
      go_ret
      exact ⟨by rw [HT.out];rfl,((Grows.refl _).drewN _).drewN _⟩
    ·obtain rfl:k=n:=by omega
     have HT:=Lib.hid (show decide (xs=ys)=true from decide_eq_true (by have:=HE.out;rwa [List.take_of_length_le (by rw [HX.out.1];exact Nat.le_refl _),List.take_of_length_le (by rw [HY.out.1];exact Nat.le_refl _)] at this))
     go_wp2_with fail
     go_ret
     exact ⟨by rw [HT.out];rfl,(Grows.refl _).drewN _⟩
 ·have hz:((n:Int) != (n':Int))=true:=by rw [bne_iff_ne];omega
  have HT:=Lib.hid (show decide (xs=ys)=false from decide_eq_false fun e=>hl (by rw [← hx.1,← hy.1,e]))
  clear hx hy
  go_enter Tryz.func57,Tryz.ntmps57
  go_wp2_with fail
  go_ret
  exact ⟨by rw [HT.out];rfl,Grows.refl _⟩
end Go.Proofs.YtapnaocdehahdaaGreat
namespace Go.Proofs.YtapnaocdehahdaaGreat
open Go.RowKit Go.IntWalk
set_option linter.unusedVariables false
set_option linter.unusedSimpArgs false
theorem wf_i64 {x:Int} (h:(Lit.int .i64 x).wf=true):-9223372036854775808≤x∧x≤9223372036854775807:=by
 simp only [Lit.wf,Bool.and_eq_true,decide_eq_true_eq,IntKind.min,IntKind.max,IntKind.bits,IntKind.signed] at h
 simp at h
 omega
end Go.Proofs.YtapnaocdehahdaaGreat
namespace Go.Proofs.YtapnaocdehahdaaGreat
open Go.RowKit
set_option linter.unusedVariables false
section
variable {P:Program} {ops:Array Oper} {Q:Exit→Act→World→Prop} {md:Region.Mode} {S S':World→Prop}
theorem at_drop {i:Nat} {oi:Oper} {r:List Oper} (h:ops.toList.drop i=oi::r):ops[i]?=some oi:=by
 have e:(ops.toList.drop i)[0]?=some oi:=by rw [h];rfl
 simpa using e
def takeOk (md:Region.Mode) (ops:Array Oper) (listed:Array Bool) (i:Nat):Bool:=Region.noSelect ops && (Region.free md ops listed i && (Region.ready md ops listed).contains i)
theorem takeH {i:Nat} {oi:Oper} {r:List Oper} {v:Value} {fuel:Nat} {listed:Array Bool} {a:Act} {w:World} (hi:ops.toList.drop i=oi::r) (hk:takeOk md ops listed i=true)
  (hQ:∀ c a w,Q (.panic c) (a.put oi.dst v) w→Q (.panic c) a w) (hw:Region.wanted oi (yielded ops a.tmps)=true) (hy:∀ w,S w→(execOp a.eval oi).run P w=.ok (.value v) w) (hS:S w)
  (h:wpAnyH P md ops Q S fuel (listed.setIfInBounds i true) (a.put oi.dst v) w):wpAnyH P md ops Q S (fuel+1) listed a w:=by
 unfold takeOk at hk
 simp only [Bool.and_eq_true] at hk
 exact wpAnyH_take (at_drop hi) hk.1 hk.2.1 hk.2.2 hQ (Or.inl ⟨hw,hy⟩) hS h
theorem consH {fuel:Nat} {listed:Array Bool} {a:Act} {w:World} {i:Nat} {o:Oper} {r:List Oper} {rs:List Nat} (ho:ops.toList.drop i=o::r)
  (h:∀ K':Act→World→Prop,Shut (∀ a w,S w→(S w→wpAnyH P md ops Q S fuel (listed.setIfInBounds i true) a w)→K' a w)→if Region.wanted o (yielded ops a.tmps)=true then Oper.wp P o a w K' Q else K' (a.put o.dst undef) w)
  (hs:AllReadyH P md ops Q S fuel listed a w rs):AllReadyH P md ops Q S fuel listed a w (i::rs):=AllReadyH.cons (at_drop ho) h hs
theorem takeA (i:Nat) {oi:Oper} {r:List Oper} {v:Value} {fuel:Nat} {listed:Array Bool} {a a':Act} {w:World} (h:wpAnyH P md ops Q S fuel (listed.setIfInBounds i true) a' w) (hi:ops.toList.drop i=oi::r:=by rfl) (hk:takeOk md ops listed i=true:=by kernel_rfl)
  (hQ:∀ c a w,Q (.panic c) (a.put oi.dst v) w→Q (.panic c) a w:=by exact fun _ _ _ h=>h) (hw:Region.wanted oi (yielded ops a.tmps)=true:=by rfl) (hy:∀ w,S w→(execOp a.eval oi).run P w=.ok (.value v) w:=by (intro w hSw;(try dsimp only at hSw);go_simp;try with_reducible rfl)) (hS:S w:=by assumption)
  (ha:a.put oi.dst v=a':=by ((try simp only [Act.put,List.setIfInBounds_toArray,List.set_cons_zero,List.set_cons_succ]);rfl)):wpAnyH P md ops Q S (fuel+1) listed a w:=by
 subst ha
 exact takeH hi hk hQ hw hy hS h
theorem below_dr (w:World):Below w.heap.size w w.drew:=(Below.refl _ _).drew
theorem kept_dr (B:List Nat) (w:World):Kept B w w.drew:=(Kept.refl _ _).drew
theorem startA {id:Nat} {a:Act} {w:World} (hS:S w) (hd:S w→S w.drew) (h:S w.drew→S w.drew→wpAnyH P .any ops Q S ops.size (Array.replicate ops.size false) a w.drew)
  (hm:P.follows .mixedOrders=true:=by kernel_rfl):(Code.region id ops true).wp P Q a w:=wp_region_held_drew hm (hd hS) (h (hd hS))
theorem startB {id:Nat} {a:Act} {w:World} (hS:S w) (hd:S w→S w.drew) (h:S w→S w.drew→S w.drew→wpAnyH P .any ops Q S ops.size (Array.replicate ops.size false) a w.drew)
  (hm:P.follows .mixedOrders=true:=by kernel_rfl):(Code.region id ops true).wp P Q a w:=wp_region_held_drew hm (hd hS) (h hS (hd hS))
theorem readyA (rs:List Nat) {fuel:Nat} {listed:Array Bool} {a:Act} {w:World} (h:AllReadyH P md ops Q S fuel listed a w rs) (hr:Region.ready md ops listed=rs:=by kernel_rfl) (hne:rs≠[]:=by simp):wpAnyH P md ops Q S (fuel+1) listed a w:=wpAnyH_ready hr hne h
theorem consA {fuel:Nat} {listed:Array Bool} {a:Act} {w:World} {i:Nat} {o:Oper} {r:List Oper} {rs:List Nat}
  (h:∀ K':Act→World→Prop,Shut (∀ a w,S w→(S w→wpAnyH P md ops Q S fuel (listed.setIfInBounds i true) a w)→K' a w)→if Region.wanted o (yielded ops a.tmps)=true then Oper.wp P o a w K' Q else K' (a.put o.dst undef) w)
  (hs:AllReadyH P md ops Q S fuel listed a w rs) (ho:ops.toList.drop i=o::r:=by rfl):AllReadyH P md ops Q S fuel listed a w (i::rs):=consH ho h hs
theorem doneA {fuel:Nat} {listed:Array Bool} {a:Act} {w:World} (h:Q .normal a w) (hr:Region.ready md ops listed=[]:=by kernel_rfl):wpAnyH P md ops Q S fuel listed a w:=wpAnyH_done hr h fuel
theorem outA {V:Act→World→Prop} {K':Act→World→Prop} (hK:Shut (∀ a w,S w→(S w→V a w)→K' a w)) {a a':Act} {w:World} (hS:S w) (h:S w→V a' w)
  (ha:a=a':=by ((try simp only [Act.put,List.setIfInBounds_toArray,List.set_cons_zero,List.set_cons_succ]);rfl)):K' a w:=by
 subst ha
 exact hK.out _ _ hS h
end
section
variable {P:Program} {ops:Array Oper} {Q:Exit→Act→World→Prop} {md:Region.Mode} {S:World→Prop} {U:List Nat}
def wpAnyU (P:Program) (md:Region.Mode) (ops:Array Oper) (Q:Exit→Act→World→Prop) (S:World→Prop) (U:List Nat):Nat→Array Bool→Act→World→Prop
 | 0,listed,a,w=>Region.ready md ops listed=[]∧Q .normal a w
 | fuel+1,listed,a,w =>
  (Region.ready md ops listed=[]→Q .normal a w) ∧
  ∀ i∈Region.ready md ops listed,wpOp P ops Q i (fun a' w'=>(i∈U∨S w')∧wpAnyU P md ops Q S U fuel (listed.setIfInBounds i true) a' w') a w
theorem wpAny_of_U:∀ (fuel:Nat) (listed:Array Bool) (a:Act) (w:World),wpAnyU P md ops Q S U fuel listed a w→wpAny P md ops Q fuel listed a w
 | 0,_,_,_,h=>h
 | fuel+1,_,_,_,h=>⟨h.1,fun i hi=>wpOp_mono (fun a' w' h'=>wpAny_of_U fuel _ a' w' h'.2) (h.2 i hi)⟩
theorem wpAnyU_first {i:Nat} {oi:Oper} {v:Value} (hi:ops[i]?=some oi) (hsel:∀ (j:Nat) (o:Oper) cs b,ops[j]?=some o→o.op≠.select cs b)
  (hQ:∀ c a w,Q (.panic c) (a.put oi.dst v) w→Q (.panic c) a w) (hU:∀ j oj,ops[j]?=some oj→j∈U→j≠i→∃ e∈oj.after,Region.binds md e=true∧e.on=i) :
  ∀ (fuel:Nat) (listed:Array Bool) (a:Act) (w:World),
   (∀ j oj,ops[j]?=some oj→j≠i→listed.getD j true=false→(∀ e∈oj.after,Region.binds md e=true→e.on≠i)→oi.apart ops oj=true) →
   i∈Region.ready md ops listed→YieldsIf P ops S oi v a→S w →
   wpAnyU P md ops Q S U fuel (listed.setIfInBounds i true) (a.put oi.dst v) w→wpAnyU P md ops Q S U (fuel+1) listed a w:=by
 intro fuel
 induction fuel with
 | zero =>
  intro listed a w _ hr hy hS H
  refine ⟨fun h=>(by rw [h] at hr;cases hr),fun j hj=>?_⟩
  by_cases hji:j=i
  ·subst hji;exact hy.wpOp hi hS ⟨Or.inr hS,H⟩
  ·have:=ready_mono hj hji
   rw [H.1] at this
   cases this
 | succ fuel ih =>
  intro listed a w hfree hr hy hS H
  refine ⟨fun h=>(by rw [h] at hr;cases hr),fun j hj=>?_⟩
  by_cases hji:j=i
  ·subst hji;exact hy.wpOp hi hS ⟨Or.inr hS,H⟩
  ·have h1:=H.2 j (ready_mono hj hji)
   obtain ⟨hjun,oj,hoj,hall⟩:=mem_ready.1 hj
   have hnot:∀ e∈oj.after,Region.binds md e=true→e.on≠i:=fun e he hb heq=>by
    have h1:=hall e he hb
    have h0:=(mem_ready.1 hr).1
    rw [heq] at h1
    rcases Nat.lt_or_ge i listed.size with h' | h'
    ·simp [h'] at h0 h1;rw [h0] at h1;cases h1
    ·simp [Array.getElem?_eq_none h'] at h1
   have hjU:j∉U:=fun q=>by
    obtain ⟨e,he,hb,heq⟩:=hU j oj hoj q hji
    exact hnot e he hb heq
   have h2:=wpOp_putIf hoj (hfree j oj hoj hji hjun hnot) (fun cs b=>hsel i oi cs b hi) (fun cs b=>hsel j oj cs b hoj) hQ hy h1
   have hfree':∀ k ok,ops[k]?=some ok→k≠i→(listed.setIfInBounds j true).getD k true=false →
     (∀ e∈ok.after,Region.binds md e=true→e.on≠i)→oi.apart ops ok=true:=fun k ok hk hki hun hno=>by
    refine hfree k ok hk hki ?_ hno
    by_cases hjk:j=k
    ·subst hjk;exact hjun
    ·rw [getD_set_ne true hjk] at hun;exact hun
   refine wpOp_mono (fun a' w' h3=>?_) h2
   have hS':S w':=h3.2.1.resolve_left hjU
   refine ⟨Or.inr hS',ih (listed.setIfInBounds j true) a' w' hfree' (ready_mono hr (Ne.symm hji)) h3.1 hS' ?_⟩
   rw [Array.setIfInBounds_comm _ _ hji]
   exact h3.2.2
def takeOkU (md:Region.Mode) (ops:Array Oper) (U:List Nat) (listed:Array Bool) (i:Nat):Bool:=
 takeOk md ops listed i && U.all fun j=>j == i || ((ops[j]?).map fun o=>o.after.toList.any fun e=>Region.binds md e && e.on == i).getD true
theorem takeU {i:Nat} {oi:Oper} {r:List Oper} {v:Value} {fuel:Nat} {listed:Array Bool} {a:Act} {w:World} (hi:ops.toList.drop i=oi::r) (hk:takeOkU md ops U listed i=true)
  (hQ:∀ c a w,Q (.panic c) (a.put oi.dst v) w→Q (.panic c) a w) (hy:YieldsIf P ops S oi v a) (hS:S w)
  (h:wpAnyU P md ops Q S U fuel (listed.setIfInBounds i true) (a.put oi.dst v) w):wpAnyU P md ops Q S U (fuel+1) listed a w:=by
 unfold takeOkU takeOk at hk
 simp only [Bool.and_eq_true] at hk
 obtain ⟨⟨h1,h2,h3⟩,h4⟩:=hk
 refine wpAnyU_first (at_drop hi) (Region.noSelect_spec h1) hQ (fun j oj hj hu hji=>?_) fuel listed a w (Region.free_spec (at_drop hi) h2) (by simpa using h3) hy hS h
 have:=List.all_eq_true.1 h4 j hu
 rw [hj] at this
 simp only [Option.map_some,Option.getD_some,Bool.or_eq_true,beq_iff_eq,List.any_eq_true,Bool.and_eq_true] at this
 rcases this with q | ⟨e,he,hb,hon⟩
 ·exact absurd q hji
 ·exact ⟨e,by simpa using he,hb,hon⟩
theorem takeUw {i:Nat} {oi:Oper} {r:List Oper} {v:Value} {fuel:Nat} {listed:Array Bool} {a:Act} {w:World} (hi:ops.toList.drop i=oi::r) (hk:takeOkU md ops U listed i=true)
  (hQ:∀ c a w,Q (.panic c) (a.put oi.dst v) w→Q (.panic c) a w) (hw:Region.wanted oi (yielded ops a.tmps)=true) (hy:∀ w,S w→(execOp a.eval oi).run P w=.ok (.value v) w) (hS:S w)
  (h:wpAnyU P md ops Q S U fuel (listed.setIfInBounds i true) (a.put oi.dst v) w):wpAnyU P md ops Q S U (fuel+1) listed a w:=takeU hi hk hQ (Or.inl ⟨hw,hy⟩) hS h
theorem startU {id:Nat} {a:Act} {w:World} (U:List Nat) (S:World→Prop) (hm:P.follows .mixedOrders=true) (hS:S w.drew)
  (h:S w.drew→wpAnyU P .any ops Q S U ops.size (Array.replicate ops.size false) a w.drew):(Code.region id ops true).wp P Q a w:=wp_region_any hm (wpAny_of_U _ _ _ _ (h hS))
theorem doneU {listed:Array Bool} {a:Act} {w:World} (hr:Region.ready md ops listed=[]) (h:Q .normal a w):∀ fuel,wpAnyU P md ops Q S U fuel listed a w
 | 0=>⟨hr,h⟩
 | _+1=>⟨fun _=>h,by rw [hr];simp⟩
def AllU (P:Program) (md:Region.Mode) (ops:Array Oper) (Q:Exit→Act→World→Prop) (S:World→Prop) (U:List Nat) (fuel:Nat) (listed:Array Bool) (a:Act) (w:World) (rs:List Nat):Prop:=
 ∀ i∈rs,wpOp P ops Q i (fun a' w'=>(i∈U∨S w')∧wpAnyU P md ops Q S U fuel (listed.setIfInBounds i true) a' w') a w
theorem nilU {fuel:Nat} {listed:Array Bool} {a:Act} {w:World}:AllU P md ops Q S U fuel listed a w []:=fun _ h=>by cases h
theorem readyU {rs:List Nat} {fuel:Nat} {listed:Array Bool} {a:Act} {w:World} (hr:Region.ready md ops listed=rs) (hne:rs≠[]) (h:AllU P md ops Q S U fuel listed a w rs):wpAnyU P md ops Q S U (fuel+1) listed a w:=
 ⟨fun h0=>absurd (hr ▸ h0) hne,hr ▸ h⟩
theorem consU {fuel:Nat} {listed:Array Bool} {a:Act} {w:World} {i:Nat} {o:Oper} {r:List Oper} {rs:List Nat} (ho:ops.toList.drop i=o::r)
  (h:∀ K':Act→World→Prop,Shut (∀ a w,S w→(S w→wpAnyU P md ops Q S U fuel (listed.setIfInBounds i true) a w)→K' a w)→if Region.wanted o (yielded ops a.tmps)=true then Oper.wp P o a w K' Q else K' (a.put o.dst undef) w)
  (hs:AllU P md ops Q S U fuel listed a w rs):AllU P md ops Q S U fuel listed a w (i::rs):=fun j hj=>by
 rcases List.mem_cons.1 hj with rfl | hj
 ·exact wpOp_step (at_drop ho) (fun K' hK=>h K' (fun a w hS hW=>hK a w ⟨Or.inr hS,hW hS⟩))
 ·exact hs j hj
theorem consV {fuel:Nat} {listed:Array Bool} {a:Act} {w:World} {i:Nat} {o:Oper} {r:List Oper} {rs:List Nat} (ho:ops.toList.drop i=o::r) (hu:U.contains i=true)
  (h:∀ K':Act→World→Prop,Shut (∀ a w,wpAnyU P md ops Q S U fuel (listed.setIfInBounds i true) a w→K' a w)→if Region.wanted o (yielded ops a.tmps)=true then Oper.wp P o a w K' Q else K' (a.put o.dst undef) w)
  (hs:AllU P md ops Q S U fuel listed a w rs):AllU P md ops Q S U fuel listed a w (i::rs):=fun j hj=>by
 rcases List.mem_cons.1 hj with rfl | hj
 ·exact wpOp_step (at_drop ho) (fun K' hK=>h K' (fun a w hW=>hK a w ⟨Or.inl (by simpa using hu),hW⟩))
 ·exact hs j hj
end
theorem frz_nw (w:World) (c:Array Value) (t:TypeId) (i:Nat):(w.alloc (.cells c t)).frozen? ⟨w.heap.size,i,none⟩=false:=World.frozen?_alloc_new w c t i
theorem frz_later {w w':World} {b o:Nat} (hb:Below w.heap.size w w') (h:w.frozen? ⟨b,o,none⟩=false) (hl:b<w.heap.size):w'.frozen? ⟨b,o,none⟩=false:=(hb.frozen (p:=⟨b,o,none⟩) hl).trans h
end Go.Proofs.YtapnaocdehahdaaGreat
