/-
  Layer 31 (sched), in plain words: tasks of one weight and one group on one CPU, that are picked in turn.
-/
import Derived.Test.YtapnaocdehahdaaSchWm
namespace Go.Proofs.Ytapnaocdehahdaa
open Go.RowKit Go.Maps Go.IntWalk Go.Lib
set_option linter.unusedVariables false
set_option linter.unusedSimpArgs false
theorem MemsOk.mok {M:Mems} (h:MemsOk M):MOk M:=⟨h.nod,h.ok⟩
theorem MemsOk.nil:MemsOk []:=⟨List.nodup_nil,List.Pairwise.nil,fun m h=>by cases h⟩
theorem items_out_of {M:Mems} {m:Int×Ent} (h:entM M m.1=none):kM m∉itemsM M:=fun q=>by
 obtain ⟨y,hy,e⟩:=List.mem_map.1 q
 have:=(ent_none.1 h) y hy
 unfold kM at e
 simp only [Prod.mk.injEq] at e
 exact this e.1
theorem MemsOk.put {M:Mems} {m:Int×Ent} (h:MemsOk M) (hn:entM M m.1=none) (hx:EntOk m.2):MemsOk (putM M m) where
 nod:=put_nodup h.nod hn
 ord:=by rw [items_put];exact putL_order h.ord (items_out_of hn)
 ok:=fun x hx'=>by
  rcases put_mem.1 hx' with e | e
  ·rw [e];exact hx
  ·exact h.ok x e
theorem MemsOk.out {M:Mems} (h:MemsOk M) (id:Int):MemsOk (outM M id) where
 nod:=out_nodup h.nod id
 ord:=by rw [items_out];exact outL_order h.ord id
 ok:=fun x hx=>h.ok x (out_mem.1 hx).1
theorem first_is {M:Mems} (h:MemsOk M) {id:Int} {y:Ent} (hE:entM M id=some y) (hl:∀ j z,entM M j=some z→y.1<z.1∨y.1=z.1∧id≤j):firstI M=id∧firstV M=y.1∧M.isEmpty=false:=by
 have hm:=(ent_some h.nod).1 hE
 have hne:M.isEmpty=false:=by cases M with
  | nil=>cases hm
  | cons a r=>rfl
 obtain ⟨z,hz,ez⟩:=first_ent h.nod hne
 have h1:=head_le h.ord hm
 have h2:=hl _ _ hz
 refine ⟨?_,?_,hne⟩ <;> omega
theorem rise_first {M:Mems} (fl:Int) (h:M.isEmpty=false):riseF (itemsM M) fl=max fl (firstV M):=by
 cases M with
 | nil=>cases h
 | cons a r=>rfl
def runN (d:Int) (x:Ent):Nat→Ent
 | 0=>x
 | n+1=>chgX d (runN d x n)
theorem chg_grow {d:Int} (hd:1≤d∧d≤1048576) {x:Ent} (hx:EntOk x) (hv:x.1≤1152921504606846976):x.1<(chgX d x).1∧(chgX d x).1≤x.1+1099511627776+1:=by
 obtain ⟨v,r,c⟩:=x
 replace hx:Ch.Ok v r c:=hx
 have hx0:=hx
 replace hv:v≤1152921504606846976:=hv
 unfold Ch.Ok at hx0
 obtain ⟨q1,q2,q3,q4,q5,q6,q7⟩:=hx0
 have hne:¬ Ch.atEnd v r c d:=by
  rw [Ch.atEnd_iff q5]
  have e1:v*c≤1152921504606846976*c:=Int.mul_le_mul_of_nonneg_right hv (by omega)
  omega
 show v<Ch.addV v r c d∧Ch.addV v r c d≤v+1099511627776+1
 unfold Ch.addV
 rw [if_neg hne]
 have d1:1≤(d*1048576+r) / c:=(Int.le_ediv_iff_mul_le (by omega)).2 (by omega)
 have d2:(d*1048576+r) / c≤1099511627776+1:=by
  have:(d*1048576+r) / c<1099511627776+1+1:=(Int.ediv_lt_iff_lt_mul (by omega)).2 (by
   have:(1099511627776+1+1)*1≤(1099511627776+1+1:Int)*c:=Int.mul_le_mul_of_nonneg_left (by omega) (by decide)
   have e:(1099511627776:Int)*1≤1099511627776*c:=Int.mul_le_mul_of_nonneg_left q5 (by decide)
   omega)
  omega
 omega
theorem chg_ok {d:Int} (hd:1≤d) {x:Ent} (hx:EntOk x):EntOk (chgX d x):=Ch.add_ok hx (by omega)
theorem runN_ok {d:Int} (hd:1≤d∧d≤1048576) {x:Ent} (hx:EntOk x) (h0:x.1≤1099511627776*2):∀ n,n≤1000→EntOk (runN d x n)∧(runN d x n).1≤1099511627776*2*(n+1)
 | 0,_=>⟨hx,by show x.1≤_;omega⟩
 | n+1,hn=>by
  obtain ⟨h1,h2⟩:=runN_ok hd hx h0 n (by omega)
  refine ⟨chg_ok hd.1 h1,?_⟩
  have:=(chg_grow hd h1 (by omega)).2
  show (chgX d (runN d x n)).1≤_
  push_cast
  omega
theorem runN_lt {d:Int} (hd:1≤d∧d≤1048576) {x:Ent} (hx:EntOk x) (h0:x.1≤1099511627776*2) {n:Nat} (hn:n≤999):(runN d x n).1<(runN d x (n+1)).1:=by
 obtain ⟨h1,h2⟩:=runN_ok hd hx h0 n (by omega)
 exact (chg_grow hd h1 (by omega)).1
theorem runN_w (d:Int) (x:Ent):∀ n,(runN d x n).2.2=x.2.2
 | 0=>rfl
 | n+1=>runN_w d x n
structure Rd (s:SSt) (g:Nat) (wt:Int) (E:Int→Option Ent) (m:Nat):Prop where
 ok:SOk s
 C:s.C=1
 n:s.n=2
 cr:s.cr=0
 par:parG s.Gs 1=0
 gl:g<2
 T:∀ id t,s.T id=some t→t.g=g∧t.w=wt
 M:∀ id,entM ((s.Q 0).M g) id=E id
 ord:MemsOk ((s.Q 0).M g)
 lo:∀ id,E id≠none→1≤id∧id≤65535
 cl:s.cl 0≤(m:Int)*1048576
 fl:((s.Q 0).M g).isEmpty=false→(s.Q 0).fl g=firstV ((s.Q 0).M g)
theorem Rd.ready {s:SSt} {g:Nat} {wt:Int} {E:Int→Option Ent} {m:Nat} (h:Rd s g wt E m) (id:Int):E id≠none↔∃ t,s.T id=some t∧t.rdy=true:=by
 have hk:(0:Nat)<s.C:=by rw [h.C];decide
 have hg:g<(s.Q 0).n:=by rw [h.ok.qn hk,h.n];exact h.gl
 constructor
 ·intro q
  have hin:inM ((s.Q 0).M g) id=true:=by
   unfold inM;rw [h.M]
   cases e:E id with
   | none=>exact absurd e q
   | some y=>rfl
  rcases (h.ok.tree 0 hk).core.ids g id hin with ⟨r,_⟩ | ⟨c,c0,cn,ce,_⟩
  ·obtain ⟨t,t1,t2,_⟩:=(h.ok.qt 0 hk id _).1 r
   exact ⟨t,t1,t2⟩
  ·have:=h.lo id q;omega
 ·rintro ⟨t,t1,t2⟩
  have ht:=(h.ok.task id t t1).2
  have hc:t.cpu=0:=by have:=ht.cpu;rw [h.C] at this;omega
  have hq:=(h.ok.qt 0 hk id t.g).2 ⟨t,t1,t2,hc,rfl⟩
  obtain ⟨k,e,_,hin⟩:=(h.ok.tree 0 hk).core.task id _ hq
  have:k=t.g:=by omega
  subst this
  rw [(h.T id t t1).1] at hin
  unfold inM at hin
  rw [h.M] at hin
  intro q;rw [q] at hin;cases hin
theorem Rd.first {s:SSt} {g:Nat} {wt:Int} {E:Int→Option Ent} {m:Nat} (h:Rd s g wt E m) {id:Int} {y:Ent} (hE:E id=some y) (hl:∀ j z,E j=some z→y.1<z.1∨y.1=z.1∧id≤j):(frT (s.Q 0)).1=id∧firstV ((s.Q 0).M g)=y.1:=by
 have hk:(0:Nat)<s.C:=by rw [h.C];decide
 have hg:g<(s.Q 0).n:=by rw [h.ok.qn hk,h.n];exact h.gl
 obtain ⟨f1,f2,f3⟩:=first_is h.ord ((h.M id).trans hE) (fun j z hz=>hl j z ((h.M j).symm.trans hz))
 refine ⟨?_,f2⟩
 have htk:=h.ok.tree 0 hk
 have h0:=root_full htk g hg f3
 rw [frT_lead]
 obtain ⟨L,i,e1,hL⟩:=lead_ok htk h0
 rw [e1]
 obtain ⟨l1,l2,l3,l4⟩:=hL.last (L.length - 1) (by have:=hL.pos;omega)
 obtain ⟨t,t1,_,_,t4⟩:=(h.ok.qt 0 hk i _).1 l4
 have hgg:=(h.T i t t1).1
 have e:L[L.length - 1]! = g:=by omega
 rw [e] at l1
 show i=id
 rw [← l1,f1]
theorem Rd.k0 {s:SSt} {g:Nat} {wt:Int} {E:Int→Option Ent} {m:Nat} (h:Rd s g wt E m):(0:Nat)<s.C:=by rw [h.C];decide
theorem path_two {P:Nat→Nat} (hp:P 1=0) {g:Nat} (hg:g<2):∀ o∈pathT P g,P o≠g∧o=1:=fun o ho=>by
 have:=pathT_mem g ho
 have:o=1:=by omega
 subst this
 rw [hp]
 omega
theorem enUp_M {P:Nat→Nat} {g:Nat}:∀ (l:List Nat) (q:TSt×Bool),(∀ o∈l,P o≠g)→(l.foldl (enStep P) q).1.M g=q.1.M g∧(l.foldl (enStep P) q).1.fl g=q.1.fl g
 | [],q,_=>⟨rfl,rfl⟩
 | o::r,q,h=>by
  rw [List.foldl_cons]
  obtain ⟨h1,h2⟩:=enUp_M r (enStep P q o) fun x hx=>h x (by simp [hx])
  rw [h1,h2]
  unfold enStep
  split
  ·have:=h o (by simp)
   exact ⟨upd_other _ _ (fun e=>this e.symm),upd_other _ _ (fun e=>this e.symm)⟩
  ·exact ⟨rfl,rfl⟩
theorem lvUp_M {P:Nat→Nat} {g:Nat}:∀ (l:List Nat) (q:TSt×Bool),(∀ o∈l,P o≠g)→(l.foldl (lvStep P) q).1.M g=q.1.M g∧(l.foldl (lvStep P) q).1.fl g=q.1.fl g
 | [],q,_=>⟨rfl,rfl⟩
 | o::r,q,h=>by
  rw [List.foldl_cons]
  obtain ⟨h1,h2⟩:=lvUp_M r (lvStep P q o) fun x hx=>h x (by simp [hx])
  rw [h1,h2]
  unfold lvStep
  split
  ·exact ⟨rfl,rfl⟩
  ·split
   ·have:=h o (by simp)
    exact ⟨upd_other _ _ (fun e=>this e.symm),upd_other _ _ (fun e=>this e.symm)⟩
   ·exact ⟨rfl,rfl⟩
theorem chgUp_M {tk:Int} {P:Nat→Nat} {g:Nat}:∀ (l:List Nat) (s:TSt),(∀ o∈l,P o≠g)→(chgUp tk P s l).M g=s.M g∧(chgUp tk P s l).fl g=s.fl g
 | [],q,_=>⟨rfl,rfl⟩
 | o::r,q,h=>by
  unfold chgUp
  rw [List.foldl_cons]
  obtain ⟨h1,h2⟩:=chgUp_M (tk:=tk) (P:=P) (g:=g) r (chgQ tk q (P o) (65536+o)) fun x hx=>h x (by simp [hx])
  unfold chgUp at h1 h2
  rw [h1,h2]
  have:=h o (by simp)
  exact ⟨upd_other _ _ (fun e=>this e.symm),upd_other _ _ (fun e=>this e.symm)⟩
end Go.Proofs.Ytapnaocdehahdaa
