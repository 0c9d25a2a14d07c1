/-
Layer 31 (sched), in plain words: tasks of one weight and one group on one CPU, that are picked in turn.
The whole (TopFair), in plain words: one turn, and how far the members of a queue are apart.
The whole (TopFair), in plain words: which groups have members, and the least weight in each queue, gone through from the last group to the first.
The whole (TopFair), in plain words: what the law counts is what the queues' members say; one turn.
The whole (TopFair): spread.
The whole (TopFair), in plain words: from turn to turn.
-/
import Derived.Test.YtapnaocdehahdaaGreatSchWm
import Derived.Test.YtapnaocdehahdaaGreatSchVm
import Derived.Test.YtapnaocdehahdaaGreatTfA
namespace Go.Proofs.YtapnaocdehahdaaGreat
open Go.RowKit Go.Maps Go.IntWalk Go.Lib
set_option linter.unusedVariables false
set_option linter.unusedSimpArgs false
/-! ### members,in order -/
theorem MemsOk.mok {M:Mems} (h:MemsOk M):MOk M:=⟨h.nod,h.ok⟩
theorem MemsOk.nil:MemsOk []:=⟨List.nodup_nil,List.Pairwise.nil,fun m h=>by cases h⟩
theorem items_out_of {M:Mems} {m:Int×Ent} (h:entM M m.1=none):kM m∉itemsM M:=fun q=>by
 obtain ⟨y,hy,e⟩:=List.mem_map.1 q
 have:=(ent_none.1 h) y hy
 unfold kM at e
 simp only [Prod.mk.injEq] at e
 exact this e.1
theorem MemsOk.put {M:Mems} {m:Int×Ent} (h:MemsOk M) (hn:entM M m.1=none) (hx:EntOk m.2):MemsOk (putM M m) where
 nod:=put_nodup h.nod hn
 ord:=by rw [items_put];exact putL_order h.ord (items_out_of hn)
 ok:=fun x hx'=>by
  rcases put_mem.1 hx' with e | e
  ·rw [e];exact hx
  ·exact h.ok x e
theorem MemsOk.out {M:Mems} (h:MemsOk M) (id:Int):MemsOk (outM M id) where
 nod:=out_nodup h.nod id
 ord:=by rw [items_out];exact outL_order h.ord id
 ok:=fun x hx=>h.ok x (out_mem.1 hx).1
theorem first_is {M:Mems} (h:MemsOk M) {id:Int} {y:Ent} (hE:entM M id=some y) (hl:∀ j z,entM M j=some z→y.1<z.1∨y.1=z.1∧id≤j):firstI M=id∧firstV M=y.1∧M.isEmpty=false:=by
 have hm:=(ent_some h.nod).1 hE
 have hne:M.isEmpty=false:=by cases M with
  | nil=>cases hm
  | cons a r=>rfl
 obtain ⟨z,hz,ez⟩:=first_ent h.nod hne
 have h1:=head_le h.ord hm
 have h2:=hl _ _ hz
 refine ⟨?_,?_,hne⟩ <;> omega
theorem rise_first {M:Mems} (fl:Int) (h:M.isEmpty=false):riseF (itemsM M) fl=max fl (firstV M):=by
 cases M with
 | nil=>cases h
 | cons a r=>rfl
/-! ### what one has run -/
def runN (d:Int) (x:Ent):Nat→Ent
 | 0=>x
 | n+1=>chgX d (runN d x n)
theorem chg_grow {d:Int} (hd:1≤d∧d≤1048576) {x:Ent} (hx:EntOk x) (hv:x.1≤1152921504606846976):x.1<(chgX d x).1∧(chgX d x).1≤x.1+1099511627776+1:=by
 obtain ⟨v,r,c⟩:=x
 replace hx:Ch.Ok v r c:=hx
 have hx0:=hx
 replace hv:v≤1152921504606846976:=hv
 unfold Ch.Ok at hx0
 obtain ⟨q1,q2,q3,q4,q5,q6,q7⟩:=hx0
 have hne:¬ Ch.atEnd v r c d:=by
  rw [Ch.atEnd_iff q5]
  have e1:v*c≤1152921504606846976*c:=Int.mul_le_mul_of_nonneg_right hv (by omega)
  omega
 show v<Ch.addV v r c d∧Ch.addV v r c d≤v+1099511627776+1
 unfold Ch.addV
 rw [if_neg hne]
 have d1:1≤(d*1048576+r) / c:=(Int.le_ediv_iff_mul_le (by omega)).2 (by omega)
 have d2:(d*1048576+r) / c≤1099511627776+1:=by
  have:(d*1048576+r) / c<1099511627776+1+1:=(Int.ediv_lt_iff_lt_mul (by omega)).2 (by
   have:(1099511627776+1+1)*1≤(1099511627776+1+1:Int)*c:=Int.mul_le_mul_of_nonneg_left (by omega) (by decide)
   have e:(1099511627776:Int)*1≤1099511627776*c:=Int.mul_le_mul_of_nonneg_left q5 (by decide)
   omega)
  omega
 omega
theorem chg_ok {d:Int} (hd:1≤d) {x:Ent} (hx:EntOk x):EntOk (chgX d x):=Ch.add_ok hx (by omega)
theorem runN_ok {d:Int} (hd:1≤d∧d≤1048576) {x:Ent} (hx:EntOk x) (h0:x.1≤1099511627776*2):∀ n,n≤1000→EntOk (runN d x n)∧(runN d x n).1≤1099511627776*2*(n+1)
 | 0,_=>⟨hx,by show x.1≤_;omega⟩
 | n+1,hn=>by
  obtain ⟨h1,h2⟩:=runN_ok hd hx h0 n (by omega)
  refine ⟨chg_ok hd.1 h1,?_⟩
  have:=(chg_grow hd h1 (by omega)).2
  show (chgX d (runN d x n)).1≤_
  push_cast
  omega
theorem runN_lt {d:Int} (hd:1≤d∧d≤1048576) {x:Ent} (hx:EntOk x) (h0:x.1≤1099511627776*2) {n:Nat} (hn:n≤999):(runN d x n).1<(runN d x (n+1)).1:=by
 obtain ⟨h1,h2⟩:=runN_ok hd hx h0 n (by omega)
 exact (chg_grow hd h1 (by omega)).1
theorem runN_w (d:Int) (x:Ent):∀ n,(runN d x n).2.2=x.2.2
 | 0=>rfl
 | n+1=>runN_w d x n
/-! ### the scheduler -/
/-- on one CPU: all tasks are in the group g,and of the weight wt;who is ready has run what E says;the clock is at most m ticks of 2^20 -/
structure Rd (s:SSt) (g:Nat) (wt:Int) (E:Int→Option Ent) (m:Nat):Prop where
 ok:SOk s
 C:s.C=1
 n:s.n=2
 cr:s.cr=0
 par:parG s.Gs 1=0
 gl:g<2
 T:∀ id t,s.T id=some t→t.g=g∧t.w=wt
 M:∀ id,entM ((s.Q 0).M g) id=E id
 ord:MemsOk ((s.Q 0).M g)
 lo:∀ id,E id≠none→1≤id∧id≤65535
 cl:s.cl 0≤(m:Int)*1048576
 fl:((s.Q 0).M g).isEmpty=false→(s.Q 0).fl g=firstV ((s.Q 0).M g)
theorem Rd.ready {s:SSt} {g:Nat} {wt:Int} {E:Int→Option Ent} {m:Nat} (h:Rd s g wt E m) (id:Int):E id≠none↔∃ t,s.T id=some t∧t.rdy=true:=by
 have hk:(0:Nat)<s.C:=by rw [h.C];decide
 have hg:g<(s.Q 0).n:=by rw [h.ok.qn hk,h.n];exact h.gl
 constructor
 ·intro q
  have hin:inM ((s.Q 0).M g) id=true:=by
   unfold inM;rw [h.M]
   cases e:E id with
   | none=>exact absurd e q
   | some y=>rfl
  rcases (h.ok.tree 0 hk).core.ids g id hin with ⟨r,_⟩ | ⟨c,c0,cn,ce,_⟩
  ·obtain ⟨t,t1,t2,_⟩:=(h.ok.qt 0 hk id _).1 r
   exact ⟨t,t1,t2⟩
  ·have:=h.lo id q;omega
 ·rintro ⟨t,t1,t2⟩
  have ht:=(h.ok.task id t t1).2
  have hc:t.cpu=0:=by have:=ht.cpu;rw [h.C] at this;omega
  have hq:=(h.ok.qt 0 hk id t.g).2 ⟨t,t1,t2,hc,rfl⟩
  obtain ⟨k,e,_,hin⟩:=(h.ok.tree 0 hk).core.task id _ hq
  have:k=t.g:=by omega
  subst this
  rw [(h.T id t t1).1] at hin
  unfold inM at hin
  rw [h.M] at hin
  intro q;rw [q] at hin;cases hin
theorem Rd.first {s:SSt} {g:Nat} {wt:Int} {E:Int→Option Ent} {m:Nat} (h:Rd s g wt E m) {id:Int} {y:Ent} (hE:E id=some y) (hl:∀ j z,E j=some z→y.1<z.1∨y.1=z.1∧id≤j):(frT (s.Q 0)).1=id∧firstV ((s.Q 0).M g)=y.1:=by
 have hk:(0:Nat)<s.C:=by rw [h.C];decide
 have hg:g<(s.Q 0).n:=by rw [h.ok.qn hk,h.n];exact h.gl
 obtain ⟨f1,f2,f3⟩:=first_is h.ord ((h.M id).trans hE) (fun j z hz=>hl j z ((h.M j).symm.trans hz))
 refine ⟨?_,f2⟩
 have htk:=h.ok.tree 0 hk
 have h0:=root_full htk g hg f3
 rw [frT_lead]
 obtain ⟨L,i,e1,hL⟩:=lead_ok htk h0
 rw [e1]
 obtain ⟨l1,l2,l3,l4⟩:=hL.last (L.length - 1) (by have:=hL.pos;omega)
 obtain ⟨t,t1,_,_,t4⟩:=(h.ok.qt 0 hk i _).1 l4
 have hgg:=(h.T i t t1).1
 have e:L[L.length - 1]! = g:=by omega
 rw [e] at l1
 show i=id
 rw [← l1,f1]
theorem Rd.zero {s:SSt} {g:Nat} {wt:Int} {E:Int→Option Ent} {m:Nat} (h:Rd s g wt E m):s.T 0=none:=h.ok.zero
theorem Rd.k0 {s:SSt} {g:Nat} {wt:Int} {E:Int→Option Ent} {m:Nat} (h:Rd s g wt E m):(0:Nat)<s.C:=by rw [h.C];decide
/-- the root: a group's queue is changed by what happens at the spots above it only if it is the root's -/
theorem path_two {P:Nat→Nat} (hp:P 1=0) {g:Nat} (hg:g<2):∀ o∈pathT P g,P o≠g∧o=1:=fun o ho=>by
 have:=pathT_mem g ho
 have:o=1:=by omega
 subst this
 rw [hp]
 omega
theorem enUp_M {P:Nat→Nat} {g:Nat}:∀ (l:List Nat) (q:TSt×Bool),(∀ o∈l,P o≠g)→(l.foldl (enStep P) q).1.M g=q.1.M g∧(l.foldl (enStep P) q).1.fl g=q.1.fl g
 | [],q,_=>⟨rfl,rfl⟩
 | o::r,q,h=>by
  rw [List.foldl_cons]
  obtain ⟨h1,h2⟩:=enUp_M r (enStep P q o) fun x hx=>h x (by simp [hx])
  rw [h1,h2]
  unfold enStep
  split
  ·have:=h o (by simp)
   exact ⟨upd_other _ _ (fun e=>this e.symm),upd_other _ _ (fun e=>this e.symm)⟩
  ·exact ⟨rfl,rfl⟩
theorem lvUp_M {P:Nat→Nat} {g:Nat}:∀ (l:List Nat) (q:TSt×Bool),(∀ o∈l,P o≠g)→(l.foldl (lvStep P) q).1.M g=q.1.M g∧(l.foldl (lvStep P) q).1.fl g=q.1.fl g
 | [],q,_=>⟨rfl,rfl⟩
 | o::r,q,h=>by
  rw [List.foldl_cons]
  obtain ⟨h1,h2⟩:=lvUp_M r (lvStep P q o) fun x hx=>h x (by simp [hx])
  rw [h1,h2]
  unfold lvStep
  split
  ·exact ⟨rfl,rfl⟩
  ·split
   ·have:=h o (by simp)
    exact ⟨upd_other _ _ (fun e=>this e.symm),upd_other _ _ (fun e=>this e.symm)⟩
   ·exact ⟨rfl,rfl⟩
theorem chgUp_M {tk:Int} {P:Nat→Nat} {g:Nat}:∀ (l:List Nat) (s:TSt),(∀ o∈l,P o≠g)→(chgUp tk P s l).M g=s.M g∧(chgUp tk P s l).fl g=s.fl g
 | [],q,_=>⟨rfl,rfl⟩
 | o::r,q,h=>by
  unfold chgUp
  rw [List.foldl_cons]
  obtain ⟨h1,h2⟩:=chgUp_M (tk:=tk) (P:=P) (g:=g) r (chgQ tk q (P o) (65536+o)) fun x hx=>h x (by simp [hx])
  unfold chgUp at h1 h2
  rw [h1,h2]
  have:=h o (by simp)
  exact ⟨upd_other _ _ (fun e=>this e.symm),upd_other _ _ (fun e=>this e.symm)⟩
end Go.Proofs.YtapnaocdehahdaaGreat
namespace Go.Proofs.YtapnaocdehahdaaGreat
open Go.RowKit Go.Maps Go.IntWalk Go.Lib
set_option linter.unusedVariables false
set_option linter.unusedSimpArgs false
/-- as much as any entity of a weight can grow -/
def mostA (w d:Int):Int:=Ch.addV 0 (w - 1) w d
theorem div_most {a c r w:Int} (hw:1≤w) (hc:w≤c) (hr:r≤c - 1) (ha:0≤a) (hr0:0≤r):(a+r) / c≤(a+w - 1) / w:=by
 refine (Int.le_ediv_iff_mul_le (by omega)).2 ?_
 have h1:(a+r) / c*c≤a+r:=Int.ediv_mul_le _ (by omega)
 by_cases h0:(a+r) / c≤0
 ·have h2:(a+r) / c*w≤0:=Int.mul_nonpos_of_nonpos_of_nonneg h0 (by omega)
  omega
 ·obtain ⟨q,hq⟩:∃ q,q=(a+r) / c:=⟨_,rfl⟩
  rw [← hq] at h1 h0 ⊢
  have h3:(q - 1)*w≤(q - 1)*c:=Int.mul_le_mul_of_nonneg_left hc (by omega)
  have e1:(q - 1)*c=q*c - c:=by rw [Int.sub_mul,Int.one_mul]
  have e2:(q - 1)*w=q*w - w:=by rw [Int.sub_mul,Int.one_mul]
  omega
theorem grow_most {v r c d w:Int} (h:Ch.Ok v r c) (hw:1≤w∧w≤c) (hd:0≤d∧d≤1048576):v≤Ch.addV v r c d∧Ch.addV v r c d≤v+mostA w d:=by
 refine ⟨Ch.addV_ge h hd.1,?_⟩
 have h':=h
 unfold Ch.Ok at h'
 obtain ⟨q1,q2,q3,q4,q5,q6,q7⟩:=h'
 have hm:mostA w d=(d*1048576+(w - 1)) / w:=by
  unfold mostA Ch.addV
  rw [if_neg,Int.zero_add]
  rw [Ch.atEnd_iff hw.1]
  omega
 have hd':(d*1048576+r) / c≤mostA w d:=by
  rw [hm,show d*1048576+(w - 1)=d*1048576+w - 1 by omega]
  exact div_most hw.1 hw.2 (by omega) (by omega) q3
 by_cases he:Ch.atEnd v r c d
 ·unfold Ch.addV
  rw [if_pos he]
  rw [Ch.atEnd_iff q5] at he
  have:(18446744073709551615 - v)≤(d*1048576+r) / c:=(Int.le_ediv_iff_mul_le (by omega)).2 (by
   rw [Int.sub_mul];omega)
  omega
 ·unfold Ch.addV
  rw [if_neg he]
  omega
/-! ### how far members are apart -/
structure IsLo (M:Mems) (x:Int):Prop where
 at_:∃ m∈M,m.2.1=x
 le:∀ m∈M,x≤m.2.1
structure IsHi (M:Mems) (x:Int):Prop where
 at_:∃ m∈M,m.2.1=x
 ge:∀ m∈M,m.2.1≤x
theorem lo_first {M:Mems} (h:MemsOk M) {x:Int} (hl:IsLo M x):firstV M=x:=by
 obtain ⟨m,hm,e⟩:=hl.at_
 have hne:M.isEmpty=false:=by cases M with
  | nil=>cases hm
  | cons a r=>rfl
 obtain ⟨y,hy,ey⟩:=first_ent h.nod hne
 have h1:=hl.le _ (ent_mem hy)
 have h2:=head_le h.ord (show (m.1,m.2)∈M from hm)
 replace h1:x≤y.1:=h1
 omega
/-- the first one is charged -/
theorem apart_turn {M:Mems} {d w a b a' b':Int} (h:MemsOk M) (hd:1≤d∧d≤1048576) (hw:∀ m∈M,w≤m.2.2.2) (hw1:1≤w) (hi:0≤firstI M∧firstI M<65792)
  (hl:IsLo M a) (hh:IsHi M b) (hl':IsLo (chS true qN M (firstI M) (chgX d)) a') (hh':IsHi (chS true qN M (firstI M) (chgX d)) b'):b' - a'≤max (b - a) (mostA w d):=by
 have hf:=lo_first h hl
 have hok:∀ m∈M,Ch.Ok m.2.1 m.2.2.1 m.2.2.2:=h.ok
 have hge:∀ m,m∈chS true qN M (firstI M) (chgX d)→a≤m.2.1:=fun m hm=>by
  rcases chs_mem hm with q | ⟨y,hy,q⟩
  ·exact hl.le m q
  ·rw [q]
   have h1:=hl.le _ hy
   have h2:=(grow_most (hok _ hy) ⟨hw1,hw _ hy⟩ ⟨by omega,hd.2⟩).1
   show a≤Ch.addV y.1 y.2.1 y.2.2 d
   replace h1:a≤y.1:=h1
   replace h2:y.1≤Ch.addV y.1 y.2.1 y.2.2 d:=h2
   omega
 obtain ⟨m1,hm1,e1⟩:=hl'.at_
 have ha':a≤a':=by have:=hge m1 hm1;omega
 obtain ⟨m2,hm2,e2⟩:=hh'.at_
 rcases chs_mem hm2 with q | ⟨y,hy,q⟩
 ·have:=hh.ge m2 q
  omega
 ·have hne:M.isEmpty=false:=by cases M with
   | nil=>cases hy
   | cons a r=>rfl
  obtain ⟨z,hz,ez⟩:=first_ent h.nod hne
  have hyz:y=z:=by
   have:=(ent_some h.nod).2 hy
   rw [hz] at this
   exact (Option.some.inj this).symm
  have h2:=(grow_most (hok _ hy) ⟨hw1,hw _ hy⟩ ⟨by omega,hd.2⟩).2
  replace h2:Ch.addV y.1 y.2.1 y.2.2 d≤y.1+mostA w d:=h2
  have e3:m2.2.1=Ch.addV y.1 y.2.1 y.2.2 d:=by rw [q];rfl
  have e4:y.1=firstV M:=by rw [hyz];exact ez
  omega
/-! ### what a tick changes -/
theorem chgUp_get {tk:Int} {P:Nat→Nat}:∀ (l:List Nat) (s:TSt),(l.Pairwise fun a b=>P a≠P b)→∀ k,(∀ o∈l,P o≠k)∧(chgUp tk P s l).M k=s.M k∨∃ o∈l,P o=k∧(chgUp tk P s l).M k=chS (decide (tkOk tk)) qN (s.M k) (65536+(o:Int)) (chgX tk)
 | [],s,_,k=>Or.inl ⟨fun o ho=>(by cases ho),rfl⟩
 | o::r,s,hp,k=>by
  obtain ⟨h1,h2⟩:=List.pairwise_cons.1 hp
  have e:chgUp tk P s (o::r)=chgUp tk P (chgQ tk s (P o) (65536+o)) r:=rfl
  rw [e]
  by_cases hk:P o=k
  ·right
   refine ⟨o,by simp,hk,?_⟩
   rcases chgUp_get r (chgQ tk s (P o) (65536+o)) h2 k with ⟨_,q⟩ | ⟨o',ho',q,_⟩
   ·rw [q]
    show upd s.M (P o) _ k=_
    rw [← hk,upd_same]
   ·exact absurd (hk.trans q.symm) (h1 o' ho')
  ·have e2:(chgQ tk s (P o) (65536+o)).M k=s.M k:=upd_other _ _ (fun q=>hk q.symm)
   rcases chgUp_get r (chgQ tk s (P o) (65536+o)) h2 k with ⟨q1,q2⟩ | ⟨o',ho',q1,q2⟩
   ·left
    refine ⟨fun x hx=>?_,q2.trans e2⟩
    rcases List.mem_cons.1 hx with q | q
    ·rw [q];exact hk
    ·exact q1 x q
   ·right
    exact ⟨o',by simp [ho'],q1,by rw [q2,e2]⟩
theorem path_apart {P:Nat→Nat}:∀ g,(pathT P g).Pairwise fun a b=>P a≠P b:=fun g=>by
 have hin:∀ {a b},a∈pathT P g→b∈pathT P g→P a=P b→a=b:=fun ha hb e=>pathT_inj ha hb e
 have hnd:(pathT P g).Nodup:=by
  clear hin
  induction g using Nat.strongRecOn with
  | ind g ih =>
   rw [pathT]
   split
   ·rename_i h
    refine List.nodup_cons.2 ⟨fun q=>?_,ih _ h.2⟩
    have:=pathT_mem _ q
    omega
   ·exact List.nodup_nil
 refine List.Pairwise.imp_of_mem (R:=fun a b=>a≠b) (fun {a b} ha hb hne e=>hne (hin ha hb e)) hnd
/-! ### each queue's first one is charged -/
theorem path_first {s:TSt} {L:List Nat} {id:Int} (h:TOk s) (hL:LeadOk s 0 L id):∀ j,j<L.length→∀ o∈pathT (parG s.Gs) L[j]!,firstI (s.M (parG s.Gs o))=65536+((o:Nat):Int):=by
 intro j
 induction j with
 | zero =>
  intro _ o ho
  rw [hL.head] at ho
  have:=pathT_mem _ ho
  omega
 | succ j ih =>
  intro hj o ho
  obtain ⟨h1,h2,h3⟩:=hL.next j hj
  have h4:=parG_lt h.core.right h2 (hL.grp (j+1) hj).1
  rw [pathT,dif_pos ⟨h2,h4⟩] at ho
  rcases List.mem_cons.1 ho with q | q
  ·rw [q,h3];exact h1
  ·rw [h3] at q
   exact ih (by omega) o q
/-- what a tick on the first task leaves in each queue -/
theorem tick_turn {s:TSt} {L:List Nat} {id:Int} {tk:Int} (h:TOk s) (hL:LeadOk s 0 L id) (ht:tkOk tk) (k:Nat):(chTo tk s L[L.length - 1]! id).M k=s.M k∨(chTo tk s L[L.length - 1]! id).M k=chS true qN (s.M k) (firstI (s.M k)) (chgX tk):=by
 have hp:=hL.pos
 obtain ⟨l1,_⟩:=hL.last (L.length - 1) (by omega)
 have hpf:=path_first h hL (L.length - 1) (by omega)
 obtain ⟨g,hg⟩:∃ g,g=L[L.length - 1]!:=⟨_,rfl⟩
 rw [← hg] at l1 hpf ⊢
 show (chgUp tk (parG s.Gs) (chgQ tk s g id) (pathT (parG s.Gs) g)).M k=_∨(chgUp tk (parG s.Gs) (chgQ tk s g id) (pathT (parG s.Gs) g)).M k=_
 have hd:decide (tkOk tk)=true:=decide_eq_true ht
 rcases chgUp_get (tk:=tk) (pathT (parG s.Gs) g) (chgQ tk s g id) (path_apart g) k with ⟨_,q⟩ | ⟨o,ho,q1,q2⟩
 ·rw [q]
  by_cases hk:g=k
  ·right
   show upd s.M g _ k=_
   rw [← hk,upd_same,l1,hd]
  ·left
   exact upd_other _ _ (fun q=>hk q.symm)
 ·right
  have hne:k≠g:=by
   have:=pathT_mem _ ho
   omega
  have e1:(chgQ tk s g id).M k=s.M k:=upd_other _ _ hne
  rw [q2,e1,hd,← q1,hpf o ho]
/-- one turn of a CPU: a pick and a tick -/
def turnS (s:SSt) (k:Nat) (d:Int):SSt:=tickS { pickS s k with wk:=0 } k d
theorem SOk.turnT {s:SSt} (h:SOk s) {k:Nat} (hk:k<s.C) {d:Int} (hd:1≤d∧d≤4294967295) (hc:s.cl k≤281474976710656 - d) :
  tickC { pickS s k with wk:=0 } k d=0∧tickG { pickS s k with wk:=0 } k d=(frT (s.Q k)).1∧(turnS s k d).T=s.T∧(turnS s k d).Gs=s.Gs∧(turnS s k d).C=s.C∧(turnS s k d).cl k=s.cl k+d ∧
   ∀ q,((turnS s k d).Q k).M q=(s.Q k).M q∨((turnS s k d).Q k).M q=chS true qN ((s.Q k).M q) (firstI ((s.Q k).M q)) (chgX d):=by
 have c0:tickC { pickS s k with wk:=0 } k d=0:=by
  unfold tickC
  rw [if_pos hd]
  exact if_neg (show ¬ s.cl k > 281474976710656 - d by omega)
 have cg:({ pickS s k with wk:=0 }:SSt).cu k=(frT (s.Q k)).1:=upd_same ..
 have g0:tickG { pickS s k with wk:=0 } k d=(frT (s.Q k)).1:=by
  unfold tickG
  rw [if_pos c0]
  exact cg
 refine ⟨c0,g0,?_⟩
 by_cases h0:((s.Q k).M 0).isEmpty=true
 ·have hf:(frT (s.Q k)).1=0:=by
   rw [frT_lead,lead_empty h0 (h.tree k hk).core.right.pos]
  have hT:s.T 0=none:=by
   cases e:s.T 0 with
   | none=>rfl
   | some t=>have:=(h.task 0 t e).1;omega
  have e:turnS s k d={ pickS s k with wk:=0,cl:=upd s.cl k (s.cl k+d) }:=by
   unfold turnS tickS
   rw [if_pos c0,cg,hf]
   show (match s.T 0 with | some t=>_ | none=>_)=_
   rw [hT]
   rfl
  rw [e]
  exact ⟨rfl,rfl,rfl,upd_same ..,fun q=>Or.inl rfl⟩
 ·obtain ⟨L,id,e1,hL⟩:=lead_ok (h.tree k hk) (by simpa using h0)
  have hf:(frT (s.Q k)).1=id:=by rw [frT_lead,e1]
  have hp:=hL.pos
  obtain ⟨_,_,_,l4⟩:=hL.last (L.length - 1) (by omega)
  obtain ⟨t,t1,t2,t3,t4⟩:=(h.qt k hk id _).1 l4
  have tg:t.g=L[L.length - 1]!:=by omega
  have e:turnS s k d=tkS { pickS s k with wk:=0,cl:=upd s.cl k (s.cl k+d) } k d id t.g:=by
   unfold turnS tickS
   rw [if_pos c0,cg,hf]
   show (match s.T id with | some t=>_ | none=>_)=_
   rw [t1]
   rfl
  rw [e]
  refine ⟨rfl,rfl,rfl,upd_same ..,fun q=>?_⟩
  have e2:(tkS { pickS s k with wk:=0,cl:=upd s.cl k (s.cl k+d) } k d id t.g).Q k=chTo d (s.Q k) t.g id:=upd_same ..
  rw [e2,tg]
  exact tick_turn (h.tree k hk) hL (show tkOk d from ⟨by omega,hd.2⟩) q
end Go.Proofs.YtapnaocdehahdaaGreat
namespace Go.Proofs.YtapnaocdehahdaaGreat
open Go.RowKit Go.Maps Go.IntWalk Go.Lib
set_option linter.unusedVariables false
set_option linter.unusedSimpArgs false
def dnB (P:Nat→Nat):Nat→(Nat→Bool)→Nat→Bool
 | 0,b=>b
 | h+1,b=>dnB P h (if b (h+1)=true then upd b (P (h+1)) true else b)
def dnL (P:Nat→Nat) (W:Nat→Int):Nat→(Nat→Bool)→(Nat→Int)→Nat→Int
 | 0,_,l=>l
 | h+1,b,l=>if b (h+1)=true then dnL P W h (upd b (P (h+1)) true) (upd l (P (h+1)) (min (l (P (h+1))) (W (h+1)))) else dnL P W h b l
section
variable {P:Nat→Nat} {W:Nat→Int} {E B0:Nat→Bool} {n:Nat}
def DnInv (P:Nat→Nat) (E B0:Nat→Bool) (n m:Nat) (b:Nat→Bool):Prop:=∀ g,g<n→(b g=true↔B0 g=true∨∃ h,m<h∧h<n∧P h=g∧E h=true)
theorem dn_here (hP:∀ h,0<h→h<n→P h<h) (hE:DnInv P E B0 n 0 E) {m:Nat} {b:Nat→Bool} (hm:m+1<n) (h:DnInv P E B0 n (m+1) b):b (m+1)=true↔E (m+1)=true:=by
 rw [h _ hm,hE _ hm]
 refine or_congr Iff.rfl ⟨fun ⟨x,a,b,c⟩=>⟨x,by omega,b,c⟩,fun ⟨x,a,b,c,d⟩=>⟨x,?_,b,c,d⟩⟩
 have:=hP x a b
 omega
theorem dn_step (hP:∀ h,0<h→h<n→P h<h) (hE:DnInv P E B0 n 0 E) {m:Nat} {b:Nat→Bool} (hm:m+1<n) (h:DnInv P E B0 n (m+1) b):DnInv P E B0 n m (if b (m+1)=true then upd b (P (m+1)) true else b):=by
 have he:=dn_here hP hE hm h
 intro g hg
 by_cases q:b (m+1)=true
 ·rw [if_pos q]
  by_cases e:g=P (m+1)
  ·subst e
   rw [upd_same]
   exact ⟨fun _=>Or.inr ⟨m+1,by omega,hm,rfl,he.1 q⟩,fun _=>rfl⟩
  ·rw [upd_other _ _ e,h g hg]
   refine or_congr Iff.rfl ⟨fun ⟨x,a,c⟩=>⟨x,by omega,c⟩,fun ⟨x,a,b,c,d⟩=>⟨x,?_,b,c,d⟩⟩
   by_cases ex:x=m+1
   ·subst ex;exact absurd c.symm e
   ·omega
 ·rw [if_neg q,h g hg]
  refine or_congr Iff.rfl ⟨fun ⟨x,a,c⟩=>⟨x,by omega,c⟩,fun ⟨x,a,b,c,d⟩=>⟨x,?_,b,c,d⟩⟩
  by_cases ex:x=m+1
  ·subst ex;exact absurd (he.2 d) q
  ·omega
/-- busy is: has members -/
theorem dnB_is (hP:∀ h,0<h→h<n→P h<h) (hE:DnInv P E B0 n 0 E):∀ (m:Nat) (b:Nat→Bool),m<n→DnInv P E B0 n m b→∀ g,g<n→dnB P m b g=E g
 | 0,b,_,h=>fun g hg=>Bool.eq_iff_iff.2 ((h g hg).trans (hE g hg).symm)
 | m+1,b,hm,h=>fun g hg=>dnB_is hP hE m _ (by omega) (dn_step hP hE hm h) g hg
theorem dnL_le:∀ (m:Nat) (b:Nat→Bool) (l:Nat→Int) (g:Nat),dnL P W m b l g≤l g
 | 0,_,_,_=>Int.le_refl _
 | m+1,b,l,g=>by
  unfold dnL
  split
  ·refine Int.le_trans (dnL_le m _ _ g) ?_
   by_cases e:g=P (m+1)
   ·subst e;rw [upd_same];exact Int.min_le_left _ _
   ·rw [upd_other _ _ e];exact Int.le_refl _
  ·exact dnL_le m _ _ g
theorem dnL_pos (hW:∀ h,h<n→1≤W h):∀ (m:Nat) (b:Nat→Bool) (l:Nat→Int),m<n→(∀ g,1≤l g)→∀ g,1≤dnL P W m b l g
 | 0,_,_,_,h=>h
 | m+1,b,l,hm,h=>fun g=>by
  unfold dnL
  split
  ·refine dnL_pos hW m _ _ (by omega) (fun j=>?_) g
   by_cases e:j=P (m+1)
   ·subst e;rw [upd_same]
    have:=h (P (m+1))
    have:=hW _ hm
    omega
   ·rw [upd_other _ _ e];exact h j
  ·exact dnL_pos hW m _ _ (by omega) h g
/-- no member weighs less -/
theorem dnL_child (hP:∀ h,0<h→h<n→P h<h) (hE:DnInv P E B0 n 0 E):∀ (m:Nat) (b:Nat→Bool) (l:Nat→Int),m<n→DnInv P E B0 n m b→∀ h,0<h→h≤m→E h=true→dnL P W m b l (P h)≤W h
 | 0,_,_,_,_=>fun h h0 hm=>by omega
 | m+1,b,l,hm,hI=>fun h h0 hh he=>by
  have hs:=dn_step hP hE hm hI
  have hq:=dn_here hP hE hm hI
  unfold dnL
  by_cases q:b (m+1)=true
  ·rw [if_pos q] at hs ⊢
   by_cases e:h=m+1
   ·subst e
    refine Int.le_trans (dnL_le m _ _ _) ?_
    rw [upd_same]
    exact Int.min_le_right _ _
   ·exact dnL_child hP hE m _ _ (by omega) hs h h0 (by omega) he
  ·rw [if_neg q] at hs ⊢
   have e:h≠m+1:=fun e=>q (hq.2 (e ▸ he))
   exact dnL_child hP hE m _ _ (by omega) hs h h0 (by omega) he
end
/-! ### of a scheduler -/
def fullQ (s:SSt) (k g:Nat):Bool:=!((s.Q k).M g).isEmpty
theorem SOk.fullInv {s:SSt} (h:SOk s) {k:Nat} (hk:k<s.C) {B0:Nat→Bool} (hB:∀ g,g<s.n→(B0 g=true↔∃ id t,s.T id=some t∧t.rdy=true∧t.cpu=k∧t.g=g)):DnInv (parG s.Gs) (fullQ s k) B0 s.n 0 (fullQ s k):=by
 have ht:=h.tree k hk
 have hg:=h.gs k hk
 have hn:(s.Q k).n=s.n:=by
  show (s.Q k).Gs.length=s.Gs.length
  rw [hg]
 intro g hgn
 rw [hB g hgn]
 constructor
 ·intro hf
  have hne:((s.Q k).M g).isEmpty=false:=by simpa [fullQ] using hf
  rcases ht.core.ids g _ (first_in hne) with ⟨q,_,_⟩ | ⟨c,c0,cn,ce,cp⟩
  ·obtain ⟨t,t1,t2,t3,t4⟩:=(h.qt k hk _ _).1 q
   exact Or.inl ⟨_,t,t1,t2,t3,by omega⟩
  ·right
   refine ⟨c,c0,by omega,by rw [← hg];exact cp,?_⟩
   have hs:=ht.seat c c0 cn
   unfold Seated at hs
   rw [cp,← ce,first_in hne] at hs
   exact hs.symm
 ·rintro (⟨id,t,t1,t2,t3,t4⟩ | ⟨c,c0,cn,cp,he⟩)
  ·have hq:=(h.qt k hk id (t.g:Int)).2 ⟨t,t1,t2,t3,rfl⟩
   obtain ⟨j,e1,e2,e3⟩:=ht.core.task id _ hq
   obtain rfl:j=g:=by omega
   have:=inM_ne e3
   simp [fullQ,this]
  ·have hs:=ht.seat c c0 (by omega)
   unfold Seated at hs
   rw [hg,cp,show (!((s.Q k).M c).isEmpty)=true from he] at hs
   have:=inM_ne hs
   simp [fullQ,this]
theorem SOk.lightLe {s:SSt} (h:SOk s) (hw:SWt s) {k:Nat} (hk:k<s.C) {B0:Nat→Bool} {L0:Nat→Int} (hB:∀ g,g<s.n→(B0 g=true↔∃ id t,s.T id=some t∧t.rdy=true∧t.cpu=k∧t.g=g)) (hL:∀ id t,s.T id=some t→t.rdy=true→t.cpu=k→L0 t.g≤t.w) :
  ∀ g,g<s.n→∀ m∈(s.Q k).M g,dnL (parG s.Gs) (fun h=>(s.Gs[h]!).2) (s.n - 1) B0 L0 g≤m.2.2.2:=by
 intro g hgn m hm
 have ht:=h.tree k hk
 have hg:=h.gs k hk
 have hI:=h.fullInv hk hB
 have hn:(s.Q k).n=s.n:=by
  show (s.Q k).Gs.length=s.Gs.length
  rw [hg]
 have hP:∀ x,0<x→x<s.n→parG s.Gs x<x:=fun x x0 xn=>by
  rw [← hg]
  exact parG_lt ht.core.right x0 (by omega)
 have hIm:DnInv (parG s.Gs) (fullQ s k) B0 s.n (s.n - 1) B0:=fun x hx=>⟨fun q=>Or.inl q,fun q=>by
  rcases q with q | ⟨y,a,b,_⟩
  ·exact q
  ·omega⟩
 rw [(hw.q k hk).m g m hm]
 have hin:inM ((s.Q k).M g) m.1=true:=by
  have e:=(ent_some (ht.core.mok g).nod).2 (show (m.1,m.2)∈(s.Q k).M g from hm)
  unfold inM
  rw [e]
  rfl
 rcases ht.core.ids g _ hin with ⟨q,q1,q2⟩ | ⟨c,c0,cn,ce,cp⟩
 ·obtain ⟨t,t1,t2,t3,t4⟩:=(h.qt k hk _ _).1 q
  rw [wF_task q2 t1]
  have e:t.g=g:=by omega
  refine Int.le_trans (dnL_le _ _ _ g) ?_
  rw [← e]
  exact hL _ t t1 t2 t3
 ·have hs:=ht.seat c c0 cn
  unfold Seated at hs
  rw [cp,← ce,hin] at hs
  rw [ce,wF_spot]
  rw [hg] at cp
  have:=dnL_child (W:=fun h=>(s.Gs[h]!).2) hP hI (s.n - 1) B0 L0 (by omega) hIm c c0 (by omega) hs.symm
  rw [cp] at this
  exact this
theorem SOk.busyIs {s:SSt} (h:SOk s) {k:Nat} (hk:k<s.C) {B0:Nat→Bool} (hB:∀ g,g<s.n→(B0 g=true↔∃ id t,s.T id=some t∧t.rdy=true∧t.cpu=k∧t.g=g)):∀ g,g<s.n→dnB (parG s.Gs) (s.n - 1) B0 g=fullQ s k g:=by
 have ht:=h.tree k hk
 have hg:=h.gs k hk
 have hn:(s.Q k).n=s.n:=by
  show (s.Q k).Gs.length=s.Gs.length
  rw [hg]
 intro g hgn
 exact dnB_is (fun x x0 xn=>by
  rw [← hg]
  exact parG_lt ht.core.right x0 (by omega)) (h.fullInv hk hB) (s.n - 1) B0 (by omega) (fun x hx=>⟨fun q=>Or.inl q,fun q=>by
   rcases q with q | ⟨y,a,b,_⟩
   ·exact q
   ·omega⟩) g hgn
/-! ### how far apart,as the law counts it: one entity after the other -/
def spr1 (a:Int×Int×Bool) (v:Int):Int×Int×Bool:=(min a.1 v,max a.2.1 v,true)
def sprL (l:List Int):Int×Int×Bool:=l.foldl spr1 (18446744073709551615,0,false)
theorem spr_fold:∀ (l:List Int) (a:Int×Int×Bool),(l.foldl spr1 a).1≤a.1∧a.2.1≤(l.foldl spr1 a).2.1∧(∀ v∈l,(l.foldl spr1 a).1≤v∧v≤(l.foldl spr1 a).2.1)∧((l.foldl spr1 a).1=a.1∨(l.foldl spr1 a).1∈l)∧((l.foldl spr1 a).2.1=a.2.1∨(l.foldl spr1 a).2.1∈l)
 | [],a=>⟨Int.le_refl _,Int.le_refl _,(fun v hv=>by cases hv),Or.inl rfl,Or.inl rfl⟩
 | x::r,a=>by
  obtain ⟨h1,h2,h3,h4,h5⟩:=spr_fold r (spr1 a x)
  have e1:(spr1 a x).1=min a.1 x:=rfl
  have e2:(spr1 a x).2.1=max a.2.1 x:=rfl
  rw [List.foldl_cons]
  rw [e1] at h1 h4
  rw [e2] at h2 h5
  refine ⟨by omega,by omega,fun v hv=>?_,?_,?_⟩
  ·rcases List.mem_cons.1 hv with q | q
   ·subst q;omega
   ·exact h3 v q
  ·rcases h4 with q | q
   ·by_cases e:a.1≤x
    ·left;omega
    ·right;rw [q,show min a.1 x=x by omega];simp
   ·right;simp [q]
  ·rcases h5 with q | q
   ·by_cases e:x≤a.2.1
    ·left;omega
    ·right;rw [q,show max a.2.1 x=x by omega];simp
   ·right;simp [q]
theorem spr_some:∀ (l:List Int) (a:Int×Int×Bool),(l.foldl spr1 a).2.2=(a.2.2 || !l.isEmpty)
 | [],a=>by simp
 | x::r,a=>by
  rw [List.foldl_cons,spr_some r]
  simp [spr1]
theorem spr_lohi {M:Mems} {l:List Int} (hok:∀ m∈M,Ch.Ok m.2.1 m.2.2.1 m.2.2.2) (hl:∀ v,v∈l↔∃ m∈M,m.2.1=v) (hne:M.isEmpty=false):(sprL l).2.2=true∧IsLo M (sprL l).1∧IsHi M (sprL l).2.1:=by
 obtain ⟨m0,h0⟩:∃ m,m∈M:=by cases M with
  | nil=>simp at hne
  | cons a r=>exact ⟨a,by simp⟩
 have hv0:m0.2.1∈l:=(hl _).2 ⟨m0,h0,rfl⟩
 obtain ⟨s1,s2,s3,s4,s5⟩:=spr_fold l (18446744073709551615,0,false)
 have hb:∀ v∈l,0≤v∧v≤18446744073709551615:=fun v hv=>by
  obtain ⟨m,hm,e⟩:=(hl v).1 hv
  have:=hok m hm
  unfold Ch.Ok at this
  omega
 have h3:=s3 _ hv0
 have h4:=hb _ hv0
 have k1:(sprL l).1∈l:=by
  rcases s4 with q | q
  ·replace q:(sprL l).1=18446744073709551615:=q
   have e:m0.2.1=(sprL l).1:=by
    have:(sprL l).1≤m0.2.1:=h3.1
    omega
   rw [← e];exact hv0
  ·exact q
 have k2:(sprL l).2.1∈l:=by
  rcases s5 with q | q
  ·replace q:(sprL l).2.1=0:=q
   have e:m0.2.1=(sprL l).2.1:=by
    have:m0.2.1≤(sprL l).2.1:=h3.2
    omega
   rw [← e];exact hv0
  ·exact q
 refine ⟨?_,⟨(hl _).1 k1,fun m hm=>(s3 _ ((hl _).2 ⟨m,hm,rfl⟩)).1⟩,⟨(hl _).1 k2,fun m hm=>(s3 _ ((hl _).2 ⟨m,hm,rfl⟩)).2⟩⟩
 show (l.foldl spr1 _).2.2=true
 rw [spr_some]
 cases l with
 | nil=>cases hv0
 | cons a r=>rfl
theorem lo_one {M:Mems} {x y:Int} (h:IsLo M x) (h':IsLo M y):x=y:=by
 obtain ⟨m,hm,e⟩:=h.at_
 obtain ⟨m',hm',e'⟩:=h'.at_
 have:=h.le m' hm'
 have:=h'.le m hm
 omega
theorem hi_one {M:Mems} {x y:Int} (h:IsHi M x) (h':IsHi M y):x=y:=by
 obtain ⟨m,hm,e⟩:=h.at_
 obtain ⟨m',hm',e'⟩:=h'.at_
 have:=h.ge m' hm'
 have:=h'.ge m hm
 omega
/-- one turn: the members of a queue are apart by no more than before,or than one turn can make -/
theorem SOk.turnApart {s:SSt} (h:SOk s) {k g:Nat} (hk:k<s.C) {d w a b a' b':Int} (hd:1≤d∧d≤1048576) (hc:s.cl k≤281474976710656 - d) (hm:MemsOk ((s.Q k).M g)) (hne:((s.Q k).M g).isEmpty=false) (hw1:1≤w) (hle:∀ m∈(s.Q k).M g,w≤m.2.2.2)
  (hl:IsLo ((s.Q k).M g) a) (hh:IsHi ((s.Q k).M g) b) (hl':IsLo (((turnS s k d).Q k).M g) a') (hh':IsHi (((turnS s k d).Q k).M g) b'):b' - a'≤max (b - a) (mostA w d):=by
 obtain ⟨_,_,_,_,_,_,hq⟩:=h.turnT hk (d:=d) ⟨hd.1,by omega⟩ hc
 have ht:=h.tree k hk
 have hi:0≤firstI ((s.Q k).M g)∧firstI ((s.Q k).M g)<65792:=by
  rcases ht.core.ids g _ (first_in hne) with ⟨_,q1,q2⟩ | ⟨c,c0,cn,ce,cp⟩
  ·omega
  ·have:(s.Q k).n≤256:=ht.core.right.le
   omega
 rcases hq g with q | q
 ·rw [q] at hl' hh'
  have e1:=lo_one hl hl'
  have e2:=hi_one hh hh'
  omega
 ·rw [q] at hl' hh'
  exact apart_turn hm hd hle hw1 hi hl hh hl' hh'
end Go.Proofs.YtapnaocdehahdaaGreat
namespace Go.Proofs.YtapnaocdehahdaaGreat
open Go.RowKit Go.Maps Go.IntWalk Go.Lib
set_option linter.unusedVariables false
set_option linter.unusedSimpArgs false
/-! ### the values in one queue,as the law finds them -/
def tOn (g:Nat) (t:TVw):Bool:=t.rdy && (t.cpu == 0) && (t.g == (g:Int))
def vT (ts:List TVw) (g k:Nat):List Int:=((ts.take k).filter (tOn g)).map TVw.v
def hOn (s:SSt) (g:Nat) (h:Nat):Bool:=(s.Gs[h]!.1 == (g:Int)) && fullQ s 0 h
def vS (s:SSt) (g k:Nat):List Int:=((List.range' 1 k).filter (hOn s g)).map fun h=>(spotE s h 0).1
theorem vT_step {ts:List TVw} {g k:Nat} {t:TVw} (h:ts[k]?=some t):vT ts g (k+1)=vT ts g k++(if tOn g t=true then [t.v] else []):=by
 unfold vT
 rw [List.take_add_one,h,List.filter_append,List.map_append]
 congr 1
 show List.map TVw.v (List.filter (tOn g) [t])=_
 by_cases e:tOn g t=true
 ·rw [List.filter_cons_of_pos e,if_pos e];rfl
 ·rw [List.filter_cons_of_neg e,if_neg e];rfl
theorem vS_step {s:SSt} {g k:Nat}:vS s g (k+1)=vS s g k++(if hOn s g (k+1)=true then [(spotE s (k+1) 0).1] else []):=by
 unfold vS
 rw [List.range'_concat,List.filter_append,List.map_append]
 congr 1
 rw [show 1+1*k=k+1 by omega]
 by_cases e:hOn s g (k+1)=true
 ·rw [List.filter_cons_of_pos e,if_pos e];rfl
 ·rw [List.filter_cons_of_neg e,if_neg e];rfl
theorem spr_step (l:List Int) (v:Int):sprL (l++[v])=spr1 (sprL l) v:=by unfold sprL;rw [List.foldl_append];rfl
def vals (s:SSt) (g:Nat):List Int:=vT (staOf s).ts g s.c++vS s g (s.n - 1)
/-- how far apart,as the law has it -/
def sprD (a:Int×Int×Bool):Int:=a.2.1 - min a.1 a.2.1
def sprV (s:SSt) (g:Nat):Int:=sprD (sprL (vals s g))
theorem view_known {s:SSt} {id:Int} {t:Tsk} (hT:s.T id=some t):viewOf s id=⟨id,t.g,t.w,t.cpu,t.mask,t.rdy,(ranX s id t).1,(ranX s id t).2.1⟩:=by unfold viewOf;rw [hT]
theorem ts_all {s:SSt} (h:SOk s):(staOf s).ts.take s.c=(keysL s).map (viewOf s):=by
 rw [List.take_of_length_le (Nat.le_of_eq (staOf_ts h)),staOf_tsE]
/-- they are the members' -/
theorem vals_mem {s:SSt} (h:SOk s) (hC:s.C=1) {g:Nat} (hg:g<s.n) (v:Int):v∈vals s g↔∃ m∈(s.Q 0).M g,m.2.1=v:=by
 have hk:0<s.C:=by omega
 have ht:=h.tree 0 hk
 have hgs:=h.gs 0 hk
 have hn:(s.Q 0).n=s.n:=by
  show (s.Q 0).Gs.length=s.Gs.length
  rw [hgs]
 have nod:=(ht.core.mok g).nod
 unfold vals
 rw [List.mem_append]
 constructor
 ·rintro (q | q)
  ·unfold vT at q
   rw [ts_all h] at q
   obtain ⟨t,ht1,rfl⟩:=List.mem_map.1 q
   obtain ⟨ht2,ht3⟩:=List.mem_filter.1 ht1
   obtain ⟨id,hid,rfl⟩:=List.mem_map.1 ht2
   obtain ⟨u,hu⟩:=Option.isSome_iff_exists.1 ((keysL_mem h id).1 hid)
   rw [view_known hu] at ht3 ⊢
   unfold tOn at ht3
   simp only [Bool.and_eq_true,beq_iff_eq] at ht3
   obtain ⟨⟨r1,r2⟩,r3⟩:=ht3
   have hc:u.cpu=0:=by omega
   have hq:=(h.qt 0 hk id (u.g:Int)).2 ⟨u,hu,r1,hc,rfl⟩
   obtain ⟨j,e1,e2,e3⟩:=ht.core.task id _ hq
   obtain rfl:j=g:=by omega
   obtain ⟨y,hy⟩:=Option.isSome_iff_exists.1 (show (entM ((s.Q 0).M j) id).isSome=true from e3)
   refine ⟨(id,y),(ent_some nod).1 hy,?_⟩
   show y.1=(ranX s id u).1
   unfold ranX
   rw [r1,if_pos rfl,hc,show u.g=j by omega]
   unfold getE
   rw [hy];rfl
  ·unfold vS at q
   obtain ⟨c,hc1,rfl⟩:=List.mem_map.1 q
   obtain ⟨hc2,hc3⟩:=List.mem_filter.1 hc1
   rw [List.mem_range'] at hc2
   obtain ⟨i,hi,rfl⟩:=hc2
   unfold hOn at hc3
   simp only [Bool.and_eq_true,beq_iff_eq] at hc3
   obtain ⟨r1,r2⟩:=hc3
   have c0:0<1+1*i:=by omega
   have cn:1+1*i<s.n:=by omega
   have hp:parG s.Gs (1+1*i)=g:=by have:=(h.right.par (show 1+1*i<s.Gs.length from cn)).1;omega
   have hse:=ht.seat (1+1*i) c0 (by omega)
   unfold Seated at hse
   rw [hgs,hp,show (!((s.Q 0).M (1+1*i)).isEmpty)=true from r2] at hse
   obtain ⟨y,hy⟩:=Option.isSome_iff_exists.1 (show (entM ((s.Q 0).M g) (65536+((1+1*i:Nat):Int))).isSome=true from hse)
   refine ⟨(_,y),(ent_some nod).1 hy,?_⟩
   show y.1=(spotE s (1+1*i) 0).1
   unfold spotE
   rw [if_pos ⟨c0,by have:=r2;unfold fullQ at this;simpa using this⟩,hp]
   unfold getE
   rw [hy];rfl
 ·rintro ⟨m,hm,rfl⟩
  have hent:entM ((s.Q 0).M g) m.1=some m.2:=(ent_some nod).2 hm
  have hin:inM ((s.Q 0).M g) m.1=true:=by unfold inM;rw [hent];rfl
  rcases ht.core.ids g _ hin with ⟨q,_,_⟩ | ⟨c,c0,cn,ce,cp⟩
  ·left
   obtain ⟨t,t1,t2,t3,t4⟩:=(h.qt 0 hk _ _).1 q
   unfold vT
   rw [ts_all h]
   refine List.mem_map.2 ⟨viewOf s m.1,List.mem_filter.2 ⟨?_,?_⟩,?_⟩
   ·exact List.mem_map.2 ⟨m.1,(keysL_mem h _).2 (by rw [t1];rfl),rfl⟩
   ·rw [view_known t1]
    unfold tOn
    simp only [Bool.and_eq_true,beq_iff_eq]
    exact ⟨⟨t2,by omega⟩,by omega⟩
   ·rw [view_known t1]
    show (ranX s m.1 t).1=m.2.1
    unfold ranX
    rw [t2,if_pos rfl,t3,show t.g=g by omega]
    unfold getE
    rw [hent];rfl
  ·right
   rw [hgs] at cp
   have hse:=ht.seat c c0 cn
   unfold Seated at hse
   rw [hgs,cp,← ce,hin] at hse
   unfold vS
   refine List.mem_map.2 ⟨c,List.mem_filter.2 ⟨?_,?_⟩,?_⟩
   ·rw [List.mem_range']
    exact ⟨c - 1,by omega,by omega⟩
   ·unfold hOn
    simp only [Bool.and_eq_true,beq_iff_eq]
    have:=(h.right.par (show c<s.n by omega)).1
    exact ⟨by omega,hse.symm⟩
   ·unfold spotE
    rw [if_pos ⟨c0,by simpa using hse.symm⟩,cp,← ce]
    unfold getE
    rw [hent];rfl
theorem vals_none {s:SSt} (h:SOk s) (hC:s.C=1) {g:Nat} (hg:g<s.n):(sprL (vals s g)).2.2=fullQ s 0 g:=by
 unfold sprL
 rw [spr_some]
 unfold fullQ
 cases e:((s.Q 0).M g).isEmpty with
 | true =>
  have:vals s g=[]:=by
   cases e2:vals s g with
   | nil=>rfl
   | cons a r =>
    obtain ⟨m,hm,_⟩:=(vals_mem h hC hg a).1 (by rw [e2];simp)
    rw [List.isEmpty_iff.1 e] at hm
    cases hm
  rw [this];rfl
 | false =>
  cases e2:(s.Q 0).M g with
  | nil=>rw [e2] at e;cases e
  | cons a r =>
   have:=(vals_mem h hC hg a.2.1).2 ⟨a,by rw [e2];simp,rfl⟩
   cases e3:vals s g with
   | nil=>rw [e3] at this;cases this
   | cons b q=>rfl
/-- what can be in a queue -/
theorem vals_in {s:SSt} (h:SOk s) (hC:s.C=1) {g:Nat} (hg:g<s.n):∀ v∈vals s g,0≤v∧v≤18446744073709551615:=fun v hv=>by
 obtain ⟨m,hm,rfl⟩:=(vals_mem h hC hg v).1 hv
 have:=((h.tree 0 (by omega)).core.mok g).ok m hm
 unfold EntOk Ch.Ok at this
 omega
theorem spr_in:∀ (l:List Int),(∀ v∈l,0≤v∧v≤18446744073709551615)→(0≤(sprL l).1∧(sprL l).1≤18446744073709551615)∧0≤(sprL l).2.1∧(sprL l).2.1≤18446744073709551615:=fun l hl=>by
 obtain ⟨s1,s2,s3,s4,s5⟩:=spr_fold l (18446744073709551615,0,false)
 replace s1:(sprL l).1≤18446744073709551615:=s1
 replace s2:0≤(sprL l).2.1:=s2
 refine ⟨⟨?_,s1⟩,s2,?_⟩
 ·rcases s4 with q | q
  ·have:(sprL l).1=18446744073709551615:=q
   omega
  ·exact (hl _ q).1
 ·rcases s5 with q | q
  ·have:(sprL l).2.1=0:=q
   omega
  ·exact (hl _ q).2
/-! ### busy and light -/
def b0K (ts:List TVw):Nat→Nat→Bool
 | 0=>fun _=>false
 | k+1=>match ts[k]? with
  | some t=>if t.rdy=true then upd (b0K ts k) t.g.toNat true else b0K ts k
  | none=>b0K ts k
def l0K (ts:List TVw):Nat→Nat→Int
 | 0=>fun _=>65536
 | k+1=>match ts[k]? with
  | some t=>if t.rdy=true then upd (l0K ts k) t.g.toNat (min (l0K ts k t.g.toNat) t.w) else l0K ts k
  | none=>l0K ts k
section
variable {ts:List TVw}
theorem b0K_step {k:Nat} {t:TVw} (h:ts[k]?=some t):b0K ts (k+1)=if t.rdy=true then upd (b0K ts k) t.g.toNat true else b0K ts k:=by
 rw [b0K,h]
theorem b0K_end {k:Nat} (h:ts[k]?=none):b0K ts (k+1)=b0K ts k:=by
 rw [b0K,h]
theorem l0K_step {k:Nat} {t:TVw} (h:ts[k]?=some t):l0K ts (k+1)=if t.rdy=true then upd (l0K ts k) t.g.toNat (min (l0K ts k t.g.toNat) t.w) else l0K ts k:=by
 rw [l0K,h]
theorem l0K_end {k:Nat} (h:ts[k]?=none):l0K ts (k+1)=l0K ts k:=by
 rw [l0K,h]
theorem b0K_is (g:Nat):∀ k,b0K ts k g=true↔∃ t∈ts.take k,t.rdy=true∧t.g.toNat=g
 | 0=>by
  constructor
  ·intro q;cases q
  ·rintro ⟨t,ht,_⟩;simp at ht
 | k+1=>by
  cases e:ts[k]? with
  | none =>
   rw [b0K_end e,b0K_is g k,List.take_add_one,e]
   simp
  | some t =>
   rw [b0K_step e,List.take_add_one,e]
   by_cases r:t.rdy=true
   ·rw [if_pos r]
    by_cases e2:g=t.g.toNat
    ·subst e2
     rw [upd_same]
     exact ⟨fun _=>⟨t,by simp,r,rfl⟩,fun _=>rfl⟩
    ·rw [upd_other _ _ e2,b0K_is g k]
     constructor
     ·rintro ⟨u,hu,q⟩;exact ⟨u,List.mem_append_left _ hu,q⟩
     ·rintro ⟨u,hu,q1,q2⟩
      rcases List.mem_append.1 hu with p | p
      ·exact ⟨u,p,q1,q2⟩
      ·simp at p;subst p;exact absurd q2.symm e2
   ·rw [if_neg r,b0K_is g k]
    constructor
    ·rintro ⟨u,hu,q⟩;exact ⟨u,List.mem_append_left _ hu,q⟩
    ·rintro ⟨u,hu,q1,q2⟩
     rcases List.mem_append.1 hu with p | p
     ·exact ⟨u,p,q1,q2⟩
     ·simp at p;subst p;exact absurd q1 r
theorem l0K_le:∀ k,∀ t∈ts.take k,t.rdy=true→l0K ts k t.g.toNat≤t.w
 | 0=>fun t ht=>by simp at ht
 | k+1=>fun t ht hr=>by
  cases e:ts[k]? with
  | none =>
   rw [List.take_add_one,e] at ht
   rw [l0K_end e]
   exact l0K_le k t (by simpa using ht) hr
  | some u =>
   rw [List.take_add_one,e] at ht
   rw [l0K_step e]
   have hle:∀ g,(if u.rdy=true then upd (l0K ts k) u.g.toNat (min (l0K ts k u.g.toNat) u.w) else l0K ts k) g≤l0K ts k g:=fun g=>by
    split
    ·by_cases q:g=u.g.toNat
     ·subst q;rw [upd_same];exact Int.min_le_left _ _
     ·rw [upd_other _ _ q];exact Int.le_refl _
    ·exact Int.le_refl _
   rcases List.mem_append.1 ht with p | p
   ·exact Int.le_trans (hle _) (l0K_le k t p hr)
   ·simp at p;subst p
    rw [if_pos hr,upd_same]
    exact Int.min_le_right _ _
theorem l0K_in (hw:∀ t∈ts,1≤t.w):∀ k g,1≤l0K ts k g∧l0K ts k g≤65536
 | 0,g=>by show (1:Int)≤65536∧(65536:Int)≤65536;omega
 | k+1,g=>by
  have ih:=l0K_in hw k
  cases e:ts[k]? with
  | none=>rw [l0K_end e];exact ih g
  | some u =>
   rw [l0K_step e]
   have hu:1≤u.w:=hw u (List.mem_of_getElem? e)
   split
   ·by_cases q:g=u.g.toNat
    ·subst q;rw [upd_same];have:=ih u.g.toNat;omega
    ·rw [upd_other _ _ q];exact ih g
   ·exact ih g
end
theorem ts_w {s:SSt} (h:SOk s):∀ t∈(staOf s).ts,1≤t.w:=fun u hm=>by
 rw [staOf_tsE] at hm
 obtain ⟨id,hid,rfl⟩:=List.mem_map.1 hm
 obtain ⟨t,ht⟩:=Option.isSome_iff_exists.1 ((keysL_mem h id).1 hid)
 rw [view_known ht]
 exact (h.task id t ht).2.w.1
theorem b0_is {s:SSt} (h:SOk s) (hC:s.C=1) (g:Nat):b0K (staOf s).ts s.c g=true↔∃ id t,s.T id=some t∧t.rdy=true∧t.cpu=0∧t.g=g:=by
 rw [b0K_is,ts_all h]
 constructor
 ·rintro ⟨t,ht,q1,q2⟩
  obtain ⟨id,hid,rfl⟩:=List.mem_map.1 ht
  obtain ⟨u,hu⟩:=Option.isSome_iff_exists.1 ((keysL_mem h id).1 hid)
  rw [view_known hu] at q1 q2
  have:=(h.task id u hu).2.cpu
  exact ⟨id,u,hu,q1,by omega,by simpa using q2⟩
 ·rintro ⟨id,t,t1,t2,t3,t4⟩
  refine ⟨viewOf s id,List.mem_map.2 ⟨id,(keysL_mem h _).2 (by rw [t1];rfl),rfl⟩,?_,?_⟩
  ·rw [view_known t1];exact t2
  ·rw [view_known t1];simpa using t4
theorem l0_le {s:SSt} (h:SOk s):∀ id t,s.T id=some t→t.rdy=true→t.cpu=0→l0K (staOf s).ts s.c t.g≤t.w:=fun id t ht hr _=>by
 have:=l0K_le (ts:=(staOf s).ts) s.c (viewOf s id) (by
  rw [ts_all h]
  exact List.mem_map.2 ⟨id,(keysL_mem h _).2 (by rw [ht];rfl),rfl⟩) (by rw [view_known ht];exact hr)
 rw [view_known ht] at this
 simpa using this
/-! ### a clock never runs far -/
theorem mv_cl (s:SSt) (id:Int) (t:Tsk) (j:Nat):(mvS s id t j).cl=s.cl:=by
 unfold mvS
 split <;> rfl
theorem cl_le {s:SSt} (o:OpV) (c:Nat):(opR s o).2.2.cl c≤s.cl c+4294967295:=by
 have hif:∀ {p:Prop} [Decidable p] {a b:SSt},a.cl c≤s.cl c+4294967295→b.cl c≤s.cl c+4294967295→(if p then a else b).cl c≤s.cl c+4294967295:=fun {p} _ {a b} ha hb=>by
  split
  ·exact ha
  ·exact hb
 have hif3:∀ {p:Prop} [Decidable p] {a b:Int×Int×SSt},a.2.2.cl c≤s.cl c+4294967295→b.2.2.cl c≤s.cl c+4294967295→(if p then a else b).2.2.cl c≤s.cl c+4294967295:=fun {p} _ {a b} ha hb=>by
  split
  ·exact ha
  ·exact hb
 have h0:s.cl c≤s.cl c+4294967295:=by omega
 have h1:∀ k,(spS s k o).cl c≤s.cl c+4294967295:=fun k=>hif h0 h0
 have h2:∀ id,(awS s id).cl c≤s.cl c+4294967295:=fun id=>by
  unfold awS
  split
  ·exact h0
  ·exact hif h0 h0
 have h3:∀ k,(stopS s k).cl c=s.cl c:=fun k=>by
  unfold stopS
  split
  ·rfl
  ·rfl
 have h4:∀ k,(exitS s k).cl c≤s.cl c+4294967295:=fun k=>hif h0 (by show (stopS s k).cl c≤_;rw [h3];exact h0)
 have h5:∀ k tk,(tickS s k tk).cl c≤s.cl c+4294967295:=fun k tk=>by
  unfold tickS
  split
  ·rename_i hc
   have ht:tk≤4294967295∧1≤tk:=by
    unfold tickC at hc
    split at hc
    ·rename_i q;exact ⟨q.2,q.1⟩
    ·exact absurd hc (by decide)
   have hu:(upd s.cl k (s.cl k+tk)) c≤s.cl c+4294967295:=by
    by_cases e:c=k
    ·subst e;rw [upd_same];omega
    ·rw [upd_other _ _ e];omega
   split
   ·exact hu
   ·exact hu
  ·exact h0
 have h6:∀ k,(pickS s k).cl c≤s.cl c+4294967295:=fun k=>h0
 have h7:∀ id w,(reS s id w).cl c≤s.cl c+4294967295:=fun id w=>by
  refine hif ?_ h0
  split
  ·exact h0
  ·exact hif h0 h0
 have h8:∀ g w,(rgT s g w).cl c≤s.cl c+4294967295:=fun g w=>hif h0 h0
 have hmv:∀ id t j,(mvS s id t j).cl c≤s.cl c+4294967295:=fun id t j=>hif h0 h0
 have h9:(mgS s o).cl c≤s.cl c+4294967295:=by
  refine hif ?_ h0
  split
  ·exact h0
  ·exact hmv _ _ _
 have h10:∀ k,(balS s k).cl c≤s.cl c+4294967295:=fun k=>by
  unfold balS
  refine hif h0 ?_
  split
  ·rw [mv_cl];exact h0
  ·exact h0
 unfold opR
 have e:∀ (a b:Int) (s':SSt),((a,b,s'):Int×Int×SSt).2.2.cl c=s'.cl c:=fun _ _ _=>rfl
 refine hif3 (hif3 (Int.le_trans (Int.le_of_eq (e _ _ _)) (h1 _)) (Int.le_trans (Int.le_of_eq (e _ _ _)) (h0))) ?_
 refine hif3 (hif3 (Int.le_trans (Int.le_of_eq (e _ _ _)) (h2 _)) (Int.le_trans (Int.le_of_eq (e _ _ _)) (h0))) ?_
 refine hif3 (hif3 (Int.le_trans (Int.le_of_eq (e _ _ _)) (Int.le_trans (Int.le_of_eq (h3 _)) h0)) (Int.le_trans (Int.le_of_eq (e _ _ _)) (h0))) ?_
 refine hif3 (hif3 (Int.le_trans (Int.le_of_eq (e _ _ _)) (h4 _)) (Int.le_trans (Int.le_of_eq (e _ _ _)) (h0))) ?_
 refine hif3 (hif3 (Int.le_trans (Int.le_of_eq (e _ _ _)) (h5 _ _)) (Int.le_trans (Int.le_of_eq (e _ _ _)) (h0))) ?_
 refine hif3 (hif3 (Int.le_trans (Int.le_of_eq (e _ _ _)) (h6 _)) (Int.le_trans (Int.le_of_eq (e _ _ _)) (h0))) ?_
 refine hif3 (hif3 (Int.le_trans (Int.le_of_eq (e _ _ _)) (h7 _ _)) (Int.le_trans (Int.le_of_eq (e _ _ _)) (h0))) ?_
 refine hif3 (Int.le_trans (Int.le_of_eq (e _ _ _)) (h8 _ _)) ?_
 refine hif3 (Int.le_trans (Int.le_of_eq (e _ _ _)) (h9)) ?_
 exact hif3 (hif3 (Int.le_trans (Int.le_of_eq (e _ _ _)) (h10 _)) (Int.le_trans (Int.le_of_eq (e _ _ _)) (h0))) (Int.le_trans (Int.le_of_eq (e _ _ _)) (h0))
end Go.Proofs.YtapnaocdehahdaaGreat
namespace Go.Proofs.YtapnaocdehahdaaGreat
open Go.RowKit Go.Maps Go.IntWalk Go.Lib
set_option linter.unusedVariables false
set_option linter.unusedSimpArgs false
/-- a row of one-cell elements in a block -/
structure FRow {α:Type} (K:α→Value) (w:World) (b n:Nat) (f:Nat→α):Prop where
 c:∀ k,k<n→w.cell? ⟨b,k,none⟩=some (K (f k))
 z:∀ j,w.frozen? ⟨b,j,none⟩=false
 lt:b<w.heap.size
section
variable {α:Type} {K:α→Value} {w w':World} {b n:Nat} {f g:Nat→α} {G:List Nat}
theorem FRow.kept (h:FRow K w b n f) (hk:Kept G w w') (hb:b∉G):FRow K w' b n f:=⟨fun k q=>hk.cellAt (h.c k q) hb,fun j=>hk.frz (h.z j) h.lt hb,Nat.lt_of_lt_of_le h.lt hk.size⟩
theorem FRow.later (h:FRow K w b n f) (hb:Below w.heap.size w w'):FRow K w' b n f:=h.kept (G:=[]) (Kept.of hb) (by simp)
theorem FRow.set (h:FRow K w b n f) {k:Nat} (hk:k<n) (x:α):FRow K (w.setCell ⟨b,k,none⟩ (K x)) b n (upd f k x):=⟨fun j q=>by
 by_cases e:j=k
 ·subst e;rw [upd_same];exact cell_set_eq (h.c j q)
 ·rw [upd_other _ _ e];exact cell_set_ne (h.c j q) (Or.inr e),fun j=>by rw [World.frozen?_setCell];exact h.z j,by simp;exact h.lt⟩
theorem FRow.congr (h:FRow K w b n f) (e:∀ k,k<n→f k=g k):FRow K w b n g:=⟨fun k q=>by rw [← e k q];exact h.c k q,h.z,h.lt⟩
theorem FRow.made {t:TypeId} {z:α} {W:World} (hb:b=W.heap.size):FRow K (W.alloc (.cells (madeCells #[K z] n) t)) b n (fun _=>z):=by
 subst hb
 refine ⟨fun k hk=>cell_nw W _ t k _ ?_,fun j=>frz_nw W _ t j,by simp⟩
 have:=made1_at (K z) hk
 rwa [Nat.mul_one] at this
end
theorem tOn_val {g:Nat} {t:TVw} (hc:t.cpu=0):tOn g t=(t.rdy && (t.g == (g:Int))):=by
 unfold tOn
 rw [hc]
 cases t.rdy <;> simp
set_option maxRecDepth 100000 in
set_option maxHeartbeats 8000000 in
theorem spread_at {w:World} {v:Value} {s:SSt} {g bb cb:Nat} (hv:StaH [] w v (staOf s)) (ho:SOk s) (hC:s.C=1) (hg:g<s.n) (hbz:FRow Value.bool w bb s.n (fullQ s 0)) :
  Calls Tryz.prog 36 #[v,.int .i64 g,.int .i64 0,.slice (some ⟨bb,0,none⟩) s.n cb] w fun e w'=>e=.returned (.tuple #[.int .u64 (sprV s g),.bool (fullQ s 0 g)])∧Below w.heap.size w w':=by
 have hn256:s.n≤256:=ho.right.le
 have hn1:0<s.n:=ho.right.pos
 have hfew:=ho.few
 have HV:=Lib.hid (show sprD (sprL (vals s g))=sprV s g from rfl)
 have HN:=Lib.hid (vals_none ho hC hg)
 have HIN:=Lib.hid (spr_in (vals s g) (vals_in ho hC hg))
 obtain ⟨vg,vl,vu,vt,vs,rfl,g1,l1,u1,t1,s1⟩:=hv.is
 obtain ⟨l,hl,r1,p1⟩:=s1.rows
 have GS:=Lib.hid (show HeldR encG [] w vg s.Gs from g1)
 have TS:=Lib.hid t1
 have RS:=Lib.hid r1
 have PS:=Lib.hid p1
 have HL:=Lib.hid (hl.trans (staOf_sp s))
 obtain ⟨a0,k0,e0,-⟩:=g1
 obtain ⟨a1,k1,e1,-⟩:=l1
 obtain ⟨a2,k2,e2,-⟩:=u1
 obtain ⟨a3,k3,e3,-⟩:=t1
 obtain ⟨a4,k4,e4,-⟩:=r1
 rw [staOf_cl] at e1
 rw [staOf_cu] at e2
 rw [staOf_ts ho] at e3
 rw [hl,staOf_sp] at e4
 replace e0:vg=.slice a0 s.n k0:=e0
 subst e0 e1 e2 e3 e4
 have HO:=Lib.hid ho
 have HC1:=Lib.hid hC
 have HBZ:=Lib.hid hbz
 obtain ⟨ts,hts⟩:∃ ts,ts=(staOf s).ts:=⟨_,rfl⟩
 have HTS:=Lib.hid hts
 rw [← hts] at TS
 have eC:(staOf s).C=(s.C:Int):=rfl
 have ecr:(staOf s).cr=s.cr:=rfl
 rw [eC,ecr]
 obtain ⟨W0,hW0⟩:∃ W,W=w.alloc (.cells #[.int .i64 s.C,.int .u64 s.cr,.slice a0 s.n k0,.slice a1 s.C k1,.slice a2 s.C k2,.slice a3 s.c k3,.slice a4 s.n k4] 46):=⟨_,rfl⟩
 have c2:W0.cell? ⟨w.heap.size,2,none⟩=some (.slice a0 s.n k0):=by rw [hW0];exact cell_nw w _ _ 2 _ rfl
 have c5:W0.cell? ⟨w.heap.size,5,none⟩=some (.slice a3 s.c k3):=by rw [hW0];exact cell_nw w _ _ 5 _ rfl
 have c6:W0.cell? ⟨w.heap.size,6,none⟩=some (.slice a4 s.n k4):=by rw [hW0];exact cell_nw w _ _ 6 _ rfl
 have hb0:Below w.heap.size w W0:=by rw [hW0];exact below_a _ _
 have HB0:=Lib.hid hb0
 have HW0:=Lib.hid hW0
 obtain ⟨b4,hb4⟩:∃ b,b=w.heap.size:=⟨_,rfl⟩
 rw [← hb4] at c2 c5 c6
 have HB4:=Lib.hid hb4
 clear hv s1 p1 hl ho hC hbz hts eC ecr hW0 hb0 hb4
 go_enter Tryz.func36,Tryz.ntmps36
 go_upto_region 1 with fail
 rw [← HW0.out,← HB4.out]
 clear HW0 HB4
 go_wp2_with fail
 go_loopw [10,11,12,19] (fun v10 v11 v12 iv wr=>∃ (k:Nat) (a:Int×Int×Bool),k≤s.c∧iv=.int .i64 k∧v10=.int .u64 a.1∧v11=.int .u64 a.2.1∧v12=.bool a.2.2∧Hid (a=sprL (vT ts g k))∧Below W0.heap.size W0 wr) (fun _ _ _ iv _=>s.c - (intOf iv).toNat)
 case atStart=>exact ⟨0,(18446744073709551615,0,false),Nat.zero_le _,rfl,rfl,rfl,rfl,Lib.hid rfl,Below.refl _ _⟩
 case round =>
  obtain ⟨k,a,hk,rfl,rfl,rfl,rfl,ha,hb⟩:=hrel
  have HB:=Lib.hid hb
  by_cases hlt:k<s.c
  ·have hki:(k:Int)<(s.c:Int):=by omega
   have z1:decide ((k:Int)<(s.c:Int))=true:=decide_eq_true hki
   have hkl:k<(keysL s).length:=by rw [HO.out.keys_len];exact hlt
   obtain ⟨ik,hik⟩:∃ ik,ik=(keysL s)[k]!:=⟨_,rfl⟩
   have hidx:(keysL s)[k]?=some ik:=by rw [hik,getElem!_pos (keysL s) k hkl];exact List.getElem?_eq_getElem hkl
   obtain ⟨u,hu⟩:∃ t,s.T ik=some t:=Option.isSome_iff_exists.1 ((keysL_mem HO.out ik).1 (List.mem_of_getElem? hidx))
   have hucpu:u.cpu=0:=by have:=(HO.out.task ik u hu).2.cpu;have:=HC1.out;omega
   obtain ⟨t,ht⟩:∃ t,t=viewOf s ik:=⟨_,rfl⟩
   have htv:ts[k]?=some t:=by rw [HTS.out,staOf_tsE,List.getElem?_map,hidx,ht];rfl
   have htc:t.cpu=0:=by rw [ht,view_known hu];show ((u.cpu:Nat):Int)=0;omega
   have HST:=Lib.hid (vT_step (g:=g) htv)
   have HON:=Lib.hid (tOn_val (g:=g) htc)
   obtain ⟨bt,off,rfl,-,hcc⟩:=cells_held encTl_ok TS.out htv
   have hbw:=Below.step HB0.out hb
   have c5r:=cell_later hb c5
   have u0:wr.cell? ⟨bt,off+k*8+0,none⟩=some (.int .i64 t.id):=cell_later hbw (hcc 0 _ rfl)
   have u1:wr.cell? ⟨bt,off+k*8+1,none⟩=some (.int .i64 t.g):=cell_later hbw (hcc 1 _ rfl)
   have u2:wr.cell? ⟨bt,off+k*8+2,none⟩=some (.int .i64 t.w):=cell_later hbw (hcc 2 _ rfl)
   have u3:wr.cell? ⟨bt,off+k*8+3,none⟩=some (.int .i64 t.cpu):=cell_later hbw (hcc 3 _ rfl)
   have u4:wr.cell? ⟨bt,off+k*8+4,none⟩=some (.int .u64 t.mask):=cell_later hbw (hcc 4 _ rfl)
   have u5:wr.cell? ⟨bt,off+k*8+5,none⟩=some (.bool t.rdy):=cell_later hbw (hcc 5 _ rfl)
   have u6:wr.cell? ⟨bt,off+k*8+6,none⟩=some (.int .u64 t.v):=cell_later hbw (hcc 6 _ rfl)
   have u7:wr.cell? ⟨bt,off+k*8+7,none⟩=some (.int .u32 t.r):=cell_later hbw (hcc 7 _ rfl)
   rw [Nat.add_zero] at u0
   rw [htc] at u3
   obtain ⟨W1,hW1⟩:∃ W,W=wr.alloc (.cells #[.int .i64 t.id,.int .i64 t.g,.int .i64 t.w,.int .i64 0,.int .u64 t.mask,.bool t.rdy,.int .u64 t.v,.int .u32 t.r] 59):=⟨_,rfl⟩
   have y0:W1.cell? ⟨wr.heap.size,0,none⟩=some (.int .i64 t.id):=by rw [hW1];exact cell_nw wr _ _ 0 _ rfl
   have y1:W1.cell? ⟨wr.heap.size,1,none⟩=some (.int .i64 t.g):=by rw [hW1];exact cell_nw wr _ _ 1 _ rfl
   have y2:W1.cell? ⟨wr.heap.size,2,none⟩=some (.int .i64 t.w):=by rw [hW1];exact cell_nw wr _ _ 2 _ rfl
   have y3:W1.cell? ⟨wr.heap.size,3,none⟩=some (.int .i64 0):=by rw [hW1];exact cell_nw wr _ _ 3 _ rfl
   have y4:W1.cell? ⟨wr.heap.size,4,none⟩=some (.int .u64 t.mask):=by rw [hW1];exact cell_nw wr _ _ 4 _ rfl
   have y5:W1.cell? ⟨wr.heap.size,5,none⟩=some (.bool t.rdy):=by rw [hW1];exact cell_nw wr _ _ 5 _ rfl
   have y6:W1.cell? ⟨wr.heap.size,6,none⟩=some (.int .u64 t.v):=by rw [hW1];exact cell_nw wr _ _ 6 _ rfl
   have y7:W1.cell? ⟨wr.heap.size,7,none⟩=some (.int .u32 t.r):=by rw [hW1];exact cell_nw wr _ _ 7 _ rfl
   have hb1:=Below.step hb (show Below wr.heap.size wr W1 by rw [hW1];exact below_a _ _)
   have HB1:=Lib.hid hb1
   have HW1:=Lib.hid hW1
   obtain ⟨b1,hb1e⟩:∃ b,b=wr.heap.size:=⟨_,rfl⟩
   rw [← hb1e] at y0 y1 y2 y3 y4 y5 y6 y7
   have HB1E:=Lib.hid hb1e
   clear hik hidx hu hucpu ht htv htc hcc hkl hbw hb hW1 hb1 hb1e
   go_upto_region 5 with fail
   rw [← HW1.out,← HB1E.out]
   clear HW1 HB1E u0 u1 u2 u3 u4 u5 u6 u7 c5r
   cases hrd:t.rdy with
   | false =>
    rw [hrd] at y5
    have HN':=Lib.hid (show a=sprL (vT ts g (k+1)) by rw [HST.out,HON.out,hrd];simpa using ha.out)
    clear hrd
    go_wp2_with fail
    go_roundw
    case rel=>exact ⟨k+1,a,by omega,by go_num,rfl,rfl,rfl,HN',HB1.out⟩
    case measure=>simp [intOf];omega
   | true =>
    rw [hrd] at y5
    cases hge:(t.g == (g:Int)) with
    | false =>
     have HN':=Lib.hid (show a=sprL (vT ts g (k+1)) by rw [HST.out,HON.out,hrd,hge];simpa using ha.out)
     have z2:(t.g == (g:Int))=false:=hge
     clear hrd hge
     go_wp2_with fail
     go_roundw
     case rel=>exact ⟨k+1,a,by omega,by go_num,rfl,rfl,rfl,HN',HB1.out⟩
     case measure=>simp [intOf];omega
    | true =>
     have HN':=Lib.hid (show spr1 a t.v=sprL (vT ts g (k+1)) by rw [HST.out,HON.out,hrd,hge,ha.out];exact (spr_step _ _).symm)
     have z2:(t.g == (g:Int))=true:=hge
     clear hrd hge
     go_wp2_with fail
     refine startA (S:=fun w'=>Below W1.heap.size W1 w'∧w'.cell? ⟨b1,6,none⟩=some (.int .u64 t.v)) ⟨Below.refl _ _,y6⟩ (held_1 (below_dr _)) (fun hS0 hHeld=>?_)
     refine takeA 0 ?_
     refine takeA 1 ?_
     refine takeA 2 ?_
     refine takeA 3 ?_
     refine takeA 4 ?_
     refine takeA 5 ?_
     refine takeA 6 ?_
     refine takeA 7 ?_
     refine takeA 8 ?_
     refine takeA 9 ?_
     refine takeA 10 ?_
     refine doneA ?_
     have HBZ2:=Lib.hid (HB1.out.drew)
     clear hS0 hHeld
     go_wp2_with fail
     go_roundw
     case rel=>exact ⟨k+1,spr1 a t.v,by omega,by go_num,rfl,rfl,rfl,HN',HBZ2.out⟩
     case measure=>simp [intOf];omega
  ·obtain rfl:k=s.c:=by omega
   have z1:decide ((s.c:Int)<(s.c:Int))=false:=decide_eq_false (by omega)
   have HA:=Lib.hid (show a=sprL (vT ts g s.c++vS s g 0) by rw [ha.out];unfold vS;simp)
   obtain ⟨w5,rfl⟩:∃ W:World,W=wr:=⟨_,rfl⟩
   clear ha hb
   go_wp2_with fail
   go_loopw [10,11,12,15] (fun v10 v11 v12 iv wr=>∃ (k:Nat) (a:Int×Int×Bool),k+1≤s.n∧iv=.int .i64 (k+1:Nat)∧v10=.int .u64 a.1∧v11=.int .u64 a.2.1∧v12=.bool a.2.2∧Hid (a=sprL (vT ts g s.c++vS s g k))∧Below W0.heap.size W0 wr) (fun _ _ _ iv _=>s.n - (intOf iv).toNat)
   case atStart=>exact ⟨0,a,hn1,rfl,rfl,rfl,rfl,HA,HB.out⟩
   case round =>
    clear HA HB
    obtain ⟨k,a,hk,rfl,rfl,rfl,rfl,ha,hb⟩:=hrel
    have HB:=Lib.hid hb
    have c6r:=cell_later hb c6
    have c2r:=cell_later hb c2
    by_cases hlt:k+1<s.n
    ·obtain ⟨h,hh⟩:∃ h,h=k+1:=⟨_,rfl⟩
     have HH:=Lib.hid hh
     rw [← hh] at hlt ⊢
     have hki:(h:Int)<(s.n:Int):=by omega
     have z1:decide ((h:Int)<(s.n:Int))=true:=decide_eq_true hki
     have hbw:=Below.step HB0.out hb
     have hgl:h<s.Gs.length:=hlt
     have hgx:s.Gs[h]?=some s.Gs[h]!:=by rw [getElem!_pos s.Gs h hgl];exact List.getElem?_eq_getElem hgl
     obtain ⟨bg,og,rfl,-,hgc⟩:=cells_held encG_ok GS.out hgx
     have q0:=cell_later hbw (hgc 0 _ rfl)
     rw [Nat.add_zero] at q0
     obtain ⟨y,hy⟩:∃ y,l[h]?=some y:=⟨_,List.getElem?_eq_getElem (by rw [HL.out];exact hlt)⟩
     obtain ⟨bo,oo,rfl,-,hoc⟩:=cells_held encSl_ok RS.out hy
     have q1:=cell_later hbw (hoc 0 _ rfl)
     rw [Nat.add_zero,Nat.mul_one] at q1
     have hsp:(staOf s).sp[h]?=some (spRow s h):=by
      show ((List.range s.n).map (spRow s))[h]?=_
      rw [List.getElem?_map,List.getElem?_range hlt];rfl
     have hrow:=PS.out h y (spRow s h) hy hsp
     have hr0:(spRow s h)[0]?=some ((spotE s h 0).1,(spotE s h 0).2.1,(s.Q 0).fl h):=by
      unfold spRow
      rw [List.getElem?_map,List.getElem?_range (by have:=HC1.out;omega)];rfl
     obtain ⟨yb,yo,ye,-,hyc⟩:=cells_held encSp_ok hrow hr0
     have q2:=cell_later hbw (hyc 0 _ rfl)
     obtain ⟨y0,y1,y2⟩:=y
     have ylen:y1=1:=by
      obtain ⟨_,_,e,_⟩:=hrow
      cases e
      show (spRow s h).length=1
      unfold spRow
      simp
      exact HC1.out
     replace ye:y0=some ⟨yb,yo,none⟩:=ye
     replace q1:wr.cell? ⟨bo,oo+h,none⟩=some (.slice y0 y1 y2):=q1
     rw [ye,ylen] at q1
     have q3:=(HBZ.out.later hbw).c h hlt
     obtain ⟨vv,hvv⟩:∃ v,v=(spotE s h 0).1:=⟨_,rfl⟩
     obtain ⟨gp,hgp⟩:∃ v,v=(s.Gs[h]!).1:=⟨_,rfl⟩
     obtain ⟨fq,hfq⟩:∃ v,v=fullQ s 0 h:=⟨_,rfl⟩
     replace q0:wr.cell? ⟨bg,og+h*2,none⟩=some (.int .i64 gp):=by rw [hgp];exact q0
     replace q2:wr.cell? ⟨yb,yo,none⟩=some (.int .u64 vv):=by rw [hvv];simpa using q2
     rw [← hfq] at q3
     have HST:=Lib.hid (show vS s g h=vS s g k++(if ((gp == (g:Int)) && fq)=true then [vv] else []) by rw [hh,vS_step,hgp,hfq,hvv,hh];rfl)
     clear hgx hgl hgc hy hoc hsp hrow hr0 hyc ye ylen hvv hgp hfq hbw hb hh
     cases hge:(gp == (g:Int)) with
     | false =>
      have HN':=Lib.hid (show a=sprL (vT ts g s.c++vS s g h) by rw [HST.out,hge,ha.out];simp)
      have z2:(gp == (g:Int))=false:=hge
      clear hge
      go_wp2_with fail
      go_roundw
      case rel=>exact ⟨h,a,by omega,by go_num,rfl,rfl,rfl,HN',HB.out⟩
      case measure=>simp [intOf];omega
     | true =>
      have z2:(gp == (g:Int))=true:=hge
      cases fq with
      | false =>
       have HN':=Lib.hid (show a=sprL (vT ts g s.c++vS s g h) by rw [HST.out,hge,ha.out];simp)
       clear hge
       go_wp2_with fail
       go_roundw
       case rel=>exact ⟨h,a,by omega,by go_num,rfl,rfl,rfl,HN',HB.out⟩
       case measure=>simp [intOf];omega
      | true =>
       have HN':=Lib.hid (show spr1 a vv=sprL (vT ts g s.c++vS s g h) by
        rw [HST.out,hge,ha.out]
        show _=sprL (vT ts g s.c++(vS s g k++[vv]))
        rw [← List.append_assoc]
        exact (spr_step _ _).symm)
       clear hge
       go_wp2_with fail
       refine startA (S:=fun w'=>Below wr.heap.size wr w'∧w'.cell? ⟨b4,6,none⟩=some (.slice (some ⟨bo,oo,none⟩) s.n k4)∧w'.cell? ⟨bo,(oo+h),none⟩=some (.slice (some ⟨yb,yo,none⟩) 1 y2)∧w'.cell? ⟨yb,yo,none⟩=some (.int .u64 vv)) ⟨Below.refl _ _,c6r,q1,q2⟩ (held_3 (below_dr _)) (fun hS0 hHeld=>?_)
       refine takeA 0 ?_
       refine takeA 1 ?_
       refine takeA 2 ?_
       refine takeA 3 ?_
       refine takeA 4 ?_
       refine takeA 5 ?_
       refine takeA 6 ?_
       refine takeA 7 ?_
       refine takeA 8 ?_
       refine takeA 9 ?_
       refine takeA 10 ?_
       refine takeA 11 ?_
       refine takeA 12 ?_
       refine takeA 13 ?_
       refine takeA 14 ?_
       refine takeA 15 ?_
       refine takeA 16 ?_
       refine takeA 17 ?_
       refine takeA 18 ?_
       refine takeA 19 ?_
       refine takeA 20 ?_
       refine takeA 21 ?_
       refine takeA 22 ?_
       refine takeA 23 ?_
       refine takeA 24 ?_
       refine doneA ?_
       have HBZ2:=Lib.hid (HB.out.drew)
       clear hS0 hHeld
       go_wp2_with fail
       go_roundw
       case rel=>exact ⟨h,spr1 a vv,by omega,by go_num,rfl,rfl,rfl,HN',HBZ2.out⟩
       case measure=>simp [intOf];omega
    ·have hkn:k+1=s.n:=by omega
     have z1:decide (((k+1:Nat):Int)<(s.n:Int))=false:=decide_eq_false (by omega)
     have z1':decide ((k:Int)+1<(s.n:Int))=false:=decide_eq_false (by omega)
     have HAV:=Lib.hid (show a=sprL (vals s g) by rw [ha.out];unfold vals;rw [HTS.out,show s.n - 1=k by omega])
     have HE1:=Lib.hid (show a.2.1 - min a.1 a.2.1=sprV s g by rw [HAV.out];exact HV.out)
     have HE2:=Lib.hid (show a.2.2=fullQ s 0 g by rw [HAV.out];exact HN.out)
     have hin:(0≤a.1∧a.1≤18446744073709551615)∧0≤a.2.1∧a.2.1≤18446744073709551615:=by rw [HAV.out];exact HIN.out
     obtain ⟨x0,x1,x2⟩:=a
     replace hin:(0≤x0∧x0≤18446744073709551615)∧0≤x1∧x1≤18446744073709551615:=hin
     have y1:IntKind.u64.wrap (x1 - min x0 x1)=x1 - min x0 x1:=IntWalk.u64_in _ (by omega)
     clear hb ha hin hkn
     go_wp2_with fail
     exact bodyPost_ret (v:=.tuple #[.int .u64 (x1 - min x0 x1),.bool x2]) (by simp [results,Tryz.results36,go_sem]) rfl ⟨by have h1:x1 - min x0 x1=sprV s g:=HE1.out;have h2:x2=fullQ s 0 g:=HE2.out;rw [← h1,← h2],Below.step HB0.out HB.out⟩
end Go.Proofs.YtapnaocdehahdaaGreat
namespace Go.Proofs.YtapnaocdehahdaaGreat
open Go.RowKit Go.Maps Go.IntWalk Go.Lib
set_option linter.unusedVariables false
set_option linter.unusedSimpArgs false
def wG (Gs:Grps) (h:Nat):Int:=(Gs[h]!).2
/-- which queues have members,and the least weight in each,as the law finds them at first -/
def BF (s:SSt):Nat→Bool:=dnB (parG s.Gs) (s.n - 1) (b0K (staOf s).ts s.c)
def LF (s:SSt):Nat→Int:=dnL (parG s.Gs) (wG s.Gs) (s.n - 1) (b0K (staOf s).ts s.c) (l0K (staOf s).ts s.c)
def tkO (d:Int):OpV:=⟨5,0,0,0,0,0,d,0⟩
theorem tkO_wf {d:Int} (h:0≤d∧d≤4096):(tkO d).Wf:=⟨(by decide:(0:Int)≤5∧(5:Int)≤255),(by decide:(Lit.int .i64 0).wf=true),(by decide:(Lit.int .i64 0).wf=true),(by decide:(Lit.int .i64 0).wf=true),(by decide:(Lit.int .i64 0).wf=true),(by decide:(Lit.int .i64 0).wf=true),wfI (by show _≤d;omega) (by show d≤_;omega),(by decide:(0:Int)≤0∧(0:Int)≤18446744073709551615)⟩
/-- the scheduler in some turn -/
structure Tf (s0 s:SSt) (j:Nat):Prop where
 ok:SOk s
 wt:SWt s
 T:s.T=s0.T
 Gs:s.Gs=s0.Gs
 C:s.C=1
 cl:s.cl 0≤171798691800+4096*(j:Int)
theorem dn_ge {P:Nat→Nat} {W:Nat→Int} (hW:∀ h,1≤W h):∀ (m:Nat) (b:Nat→Bool) (l:Nat→Int),(∀ g,1≤l g)→∀ g,1≤dnL P W m b l g
 | 0,_,_,h=>h
 | m+1,b,l,h=>fun g=>by
  unfold dnL
  split
  ·refine dn_ge hW m _ _ (fun j=>?_) g
   by_cases e:j=P (m+1)
   ·subst e;rw [upd_same]
    have:=h (P (m+1))
    have:=hW (m+1)
    omega
   ·rw [upd_other _ _ e];exact h j
  ·exact dn_ge hW m _ _ h g
theorem LF_in {s:SSt} (h:SOk s) {g:Nat} (hg:g<s.n):1≤LF s g∧LF s g≤65536:=by
 have hl:=fun g=>l0K_in (ts_w h) s.c g
 refine ⟨?_,Int.le_trans (dnL_le _ _ _ g) (hl g).2⟩
 unfold LF
 have hw:∀ h',h'<s.n→1≤wG s.Gs h':=fun h' q=>(h.right.wt (show h'<s.Gs.length from q)).1
 exact dnL_pos (n:=s.n) hw (s.n - 1) _ _ (by have:0<s.n:=h.right.pos;omega) (fun g=>(hl g).1) g
theorem BF_is {s0 s:SSt} (h0:SOk s0) (hC0:s0.C=1) (h:SOk s) (hT:s.T=s0.T) (hG:s.Gs=s0.Gs) (hC:s.C=1) {g:Nat} (hg:g<s0.n):BF s0 g=fullQ s 0 g:=by
 have hn:s.n=s0.n:=by unfold SSt.n;rw [hG]
 have hB:∀ g,g<s.n→(b0K (staOf s0).ts s0.c g=true↔∃ id t,s.T id=some t∧t.rdy=true∧t.cpu=0∧t.g=g):=fun g _=>by rw [hT];exact b0_is h0 hC0 g
 have:=h.busyIs (by omega) hB g (by omega)
 rw [hG,hn] at this
 exact this
theorem Tf.start {s:SSt} (h:SOk s) (hw:SWt s) (hC:s.C=1) (hcl:s.cl 0≤171798691800):Tf s s 0:=⟨h,hw,rfl,rfl,hC,by omega⟩
theorem tick_do {s:SSt} (hC:s.C=1) (d:Int):doR s (tkO d)=(tickG { s with wk:=0 } 0 d,tickC { s with wk:=0 } 0 d,tickS { s with wk:=0 } 0 d):=by
 unfold doR
 rw [opR_5 (show (tkO d).kind=5 from rfl)]
 have hh:hasV (s.C:Int) (0:Int)=true:=by
  rw [hC];decide
 show (if hasV (s.C:Int) (0:Int)=true then (tickG { s with wk:=0 } (0:Int).toNat d,tickC { s with wk:=0 } (0:Int).toNat d,tickS { s with wk:=0 } (0:Int).toNat d) else _)=_
 rw [if_pos hh]
 rfl
/-- how far the members of a queue are apart -/
theorem spr_is {s:SSt} (h:SOk s) (hC:s.C=1) {g:Nat} (hg:g<s.n) (hm:MemsOk ((s.Q 0).M g)) (hne:((s.Q 0).M g).isEmpty=false):∃ a b,IsLo ((s.Q 0).M g) a∧IsHi ((s.Q 0).M g) b∧sprV s g=b - a:=by
 obtain ⟨_,h2,h3⟩:=spr_lohi (M:=(s.Q 0).M g) (l:=vals s g) hm.ok (fun v=>vals_mem h hC hg v) hne
 refine ⟨_,_,h2,h3,?_⟩
 obtain ⟨m,hm1,e⟩:=h3.at_
 have:=h2.le m hm1
 unfold sprV sprD
 omega
theorem spr_zero {s:SSt} (h:SOk s) (hC:s.C=1) {g:Nat} (hg:g<s.n) (hne:((s.Q 0).M g).isEmpty=true):sprV s g=0:=by
 have:vals s g=[]:=by
  cases e2:vals s g with
  | nil=>rfl
  | cons a r =>
   obtain ⟨m,hm,_⟩:=(vals_mem h hC hg a).1 (by rw [e2];simp)
   rw [List.isEmpty_iff.1 hne] at hm
   cases hm
 unfold sprV
 rw [this]
 rfl
theorem spr_nn {s:SSt} (h:SOk s) (hC:s.C=1) {g:Nat} (hg:g<s.n):0≤sprV s g∧sprV s g≤18446744073709551615:=by
 have:=spr_in (vals s g) (vals_in h hC hg)
 unfold sprV sprD
 omega
theorem most_in {w d:Int} (hw:1≤w∧w≤65536) (hd:1≤d∧d≤4096):0≤mostA w d∧mostA w d≤18446744073709551615:=by
 have hok:Ch.Ok 0 (w - 1) w:=by unfold Ch.Ok;omega
 have h1:=Ch.addV_ge hok (t:=d) (by omega)
 refine ⟨h1,?_⟩
 have h2:=Ch.add_ok hok (t:=d) (by omega)
 unfold Ch.Ok at h2
 unfold mostA
 omega
theorem Tf.turn {s0 s:SSt} {j:Nat} {d:Int} (h:Tf s0 s j) (h0:SOk s0) (hC0:s0.C=1) (hd:1≤d∧d≤4096) (hj:j≤80):(doR s (pkO 0)).2.1=0∧(doR s (pkO 0)).1=fstV s 0∧(doR (doR s (pkO 0)).2.2 (tkO d)).1=fstV s 0∧(doR (doR s (pkO 0)).2.2 (tkO d)).2.1=0∧Tf s0 (doR (doR s (pkO 0)).2.2 (tkO d)).2.2 (j+1) ∧
  ∀ g,g<s0.n→MemsOk ((s.Q 0).M g)→MemsOk (((doR (doR s (pkO 0)).2.2 (tkO d)).2.2.Q 0).M g)→sprV (doR (doR s (pkO 0)).2.2 (tkO d)).2.2 g≤max (sprV s g) (mostA (LF s0 g) d):=by
 have hk:0<s.C:=by rw [h.C];exact Nat.one_pos
 have hn:s.n=s0.n:=by unfold SSt.n;rw [h.Gs]
 have ok1:=h.ok.done (o:=pkO 0) (pkO_wf (by decide))
 have wt1:=SWt.done h.ok h.wt (o:=pkO 0) (pkO_wf (by decide))
 have ok2:=ok1.done (o:=tkO d) (tkO_wf ⟨by omega,hd.2⟩)
 have wt2:=SWt.done ok1 wt1 (o:=tkO d) (tkO_wf ⟨by omega,hd.2⟩)
 have e1:=pk_do (s:=s) hk
 have hC1:(doR s (pkO 0)).2.2.C=1:=by rw [e1];exact h.C
 have e2:=tick_do hC1 d
 have hcl:({ s with wk:=0 }:SSt).cl 0≤281474976710656 - d:=by
  have:=h.cl
  show s.cl 0≤_
  omega
 have hS:SOk { s with wk:=0 }:=h.ok.work 0
 obtain ⟨t1,t2,t3,t4,t5,t6,t7⟩:=hS.turnT (k:=0) hk (d:=d) ⟨hd.1,by omega⟩ hcl
 have e3:(doR (doR s (pkO 0)).2.2 (tkO d)).2.2=turnS { s with wk:=0 } 0 d:=by rw [e2,e1];rfl
 have g1:(doR (doR s (pkO 0)).2.2 (tkO d)).1=fstV s 0:=by rw [e2,e1];exact t2
 have g2:(doR (doR s (pkO 0)).2.2 (tkO d)).2.1=0:=by rw [e2,e1];exact t1
 refine ⟨by rw [e1],by rw [e1];rfl,g1,g2,?_,?_⟩
 ·refine ⟨ok2,wt2,?_,?_,?_,?_⟩
  ·rw [e3,t3];exact h.T
  ·rw [e3,t4];exact h.Gs
  ·rw [e3,t5];exact h.C
  ·rw [e3,t6]
   have:=h.cl
   show s.cl 0+d≤_
   push_cast
   omega
 ·intro g hg hm hm'
  have hT':(doR (doR s (pkO 0)).2.2 (tkO d)).2.2.T=s0.T:=by rw [e3,t3];exact h.T
  have hG':(doR (doR s (pkO 0)).2.2 (tkO d)).2.2.Gs=s0.Gs:=by rw [e3,t4];exact h.Gs
  have hC':(doR (doR s (pkO 0)).2.2 (tkO d)).2.2.C=1:=by rw [e3,t5];exact h.C
  have b1:=BF_is h0 hC0 h.ok h.T h.Gs h.C hg
  have b2:=BF_is h0 hC0 ok2 hT' hG' hC' hg
  have hg2:g<(doR (doR s (pkO 0)).2.2 (tkO d)).2.2.n:=by unfold SSt.n;rw [hG'];exact hg
  cases hne:((s.Q 0).M g).isEmpty with
  | true =>
   have f1:fullQ s 0 g=false:=by unfold fullQ;rw [hne];rfl
   have f2:fullQ (doR (doR s (pkO 0)).2.2 (tkO d)).2.2 0 g=false:=by rw [← b2,b1,f1]
   have hne2:(((doR (doR s (pkO 0)).2.2 (tkO d)).2.2.Q 0).M g).isEmpty=true:=by unfold fullQ at f2;simpa using f2
   rw [spr_zero ok2 hC' hg2 hne2,spr_zero h.ok h.C (by omega) hne]
   omega
  | false =>
   have f1:fullQ s 0 g=true:=by unfold fullQ;rw [hne];rfl
   have f2:fullQ (doR (doR s (pkO 0)).2.2 (tkO d)).2.2 0 g=true:=by rw [← b2,b1,f1]
   have hne2:(((doR (doR s (pkO 0)).2.2 (tkO d)).2.2.Q 0).M g).isEmpty=false:=by unfold fullQ at f2;simpa using f2
   obtain ⟨a,b,l1,l2,l3⟩:=spr_is h.ok h.C (by omega) hm hne
   obtain ⟨a',b',l1',l2',l3'⟩:=spr_is ok2 hC' hg2 hm' hne2
   rw [l3,l3']
   have hB:∀ g,g<s.n→(b0K (staOf s0).ts s0.c g=true↔∃ id t,s.T id=some t∧t.rdy=true∧t.cpu=0∧t.g=g):=fun g _=>by rw [h.T];exact b0_is h0 hC0 g
   have hL:∀ id t,s.T id=some t→t.rdy=true→t.cpu=0→l0K (staOf s0).ts s0.c t.g≤t.w:=by rw [h.T];exact l0_le h0
   have hle:=h.ok.lightLe h.wt hk hB hL g (by omega)
   rw [h.Gs,hn] at hle
   rw [e3] at l1' l2'
   exact hS.turnApart (k:=0) (g:=g) hk (d:=d) (w:=LF s0 g) ⟨hd.1,by omega⟩ hcl hm hne (LF_in h0 hg).1 hle l1 l2 l1' l2'
/-- the members of a scheduler's queues,out of memory -/
theorem SIn.mems {w:World} {x:Nat} {F:List Nat} {s:SSt} (h:SIn w x F s) {g k:Nat} (hg:g<s.n) (hk:k<s.C):MemsOk ((s.Q k).M g):=by
 obtain ⟨L,q,_⟩:=h
 exact (q.q g k hg hk).ids.1
/-- the law's operations,on one CPU -/
def oneO (o:OpV):OpV:={ o with cpu:=0,mask:=1 }
theorem oneO_wf {o:OpV} (h:o.Wf):(oneO o).Wf:=⟨h.kind,(by decide:(Lit.int .i64 0).wf=true),h.task,h.group,h.weight,h.dst,h.ticks,(by decide:(0:Int)≤1∧(1:Int)≤18446744073709551615)⟩
/-- while the script runs -/
structure Sr (k:Nat) (s:SSt):Prop where
 ok:SOk s
 wt:SWt s
 C:s.C=1
 n:s.n≤6
 cl:s.cl 0≤4294967295*(k:Int)
theorem ifN {c:Prop} [Decidable c] {a b s:SSt} (ha:a.n=s.n) (hb:b.n=s.n):(if c then a else b).n=s.n:=by
 split
 ·exact ha
 ·exact hb
theorem ifN3 {c:Prop} [Decidable c] {a b:Int×Int×SSt} {s:SSt} (ha:a.2.2.n=s.n) (hb:b.2.2.n=s.n):(if c then a else b).2.2.n=s.n:=by
 split
 ·exact ha
 ·exact hb
theorem mvN (s:SSt) (id:Int) (t:Tsk) (j:Nat):(mvS s id t j).n=s.n:=ifN rfl rfl
theorem opR_n (s:SSt) (o:OpV):(opR s o).2.2.n=s.n:=by
 have h1:∀ k,(spS s k o).n=s.n:=fun k=>ifN rfl rfl
 have h2:∀ id,(awS s id).n=s.n:=fun id=>by
  unfold awS
  split
  ·rfl
  ·exact ifN rfl rfl
 have h3:∀ k,(stopS s k).n=s.n:=fun k=>by
  unfold stopS
  split
  ·rfl
  ·rfl
 have h4:∀ k,(exitS s k).n=s.n:=fun k=>ifN rfl (h3 k)
 have h5:∀ k tk,(tickS s k tk).n=s.n:=fun k tk=>by
  refine ifN ?_ rfl
  split
  ·rfl
  ·rfl
 have h6:∀ k,(pickS s k).n=s.n:=fun k=>rfl
 have h7:∀ id w,(reS s id w).n=s.n:=fun id w=>by
  refine ifN ?_ rfl
  split
  ·rfl
  ·exact ifN rfl rfl
 have h8:∀ g w,(rgT s g w).n=s.n:=fun g w=>by
  unfold rgT
  refine ifN ?_ rfl
  show (setW s.Gs g.toNat w).length=s.Gs.length
  unfold setW
  simp
 have h9:(mgS s o).n=s.n:=by
  refine ifN ?_ rfl
  split
  ·rfl
  ·exact mvN _ _ _ _
 have h10:∀ k,(balS s k).n=s.n:=fun k=>by
  refine ifN rfl ?_
  split
  ·exact mvN _ _ _ _
  ·rfl
 unfold opR
 have e:∀ (a b:Int) (s':SSt),((a,b,s'):Int×Int×SSt).2.2.n=s'.n:=fun _ _ _=>rfl
 refine ifN3 (ifN3 ((e _ _ _).trans (h1 _)) (e _ _ _)) ?_
 refine ifN3 (ifN3 ((e _ _ _).trans (h2 _)) (e _ _ _)) ?_
 refine ifN3 (ifN3 ((e _ _ _).trans (h3 _)) (e _ _ _)) ?_
 refine ifN3 (ifN3 ((e _ _ _).trans (h4 _)) (e _ _ _)) ?_
 refine ifN3 (ifN3 ((e _ _ _).trans (h5 _ _)) (e _ _ _)) ?_
 refine ifN3 (ifN3 ((e _ _ _).trans (h6 _)) (e _ _ _)) ?_
 refine ifN3 (ifN3 ((e _ _ _).trans (h7 _ _)) (e _ _ _)) ?_
 refine ifN3 ((e _ _ _).trans (h8 _ _)) ?_
 refine ifN3 ((e _ _ _).trans h9) ?_
 exact ifN3 (ifN3 ((e _ _ _).trans (h10 _)) (e _ _ _)) (e _ _ _)
theorem Sr.next {k:Nat} {s:SSt} {o:OpV} (h:Sr k s) (ho:o.Wf):Sr (k+1) (doR s (oneO o)).2.2:=by
 refine ⟨h.ok.done (oneO_wf ho),SWt.done h.ok h.wt (oneO_wf ho),(opR_C _ _).trans h.C,?_,?_⟩
 ·rw [show (doR s (oneO o)).2.2.n=s.n from opR_n _ _]
  exact h.n
 ·have h1:=cl_le (s:={ s with wk:=0 }) (oneO o) 0
  have h2:=h.cl
  have h3:(doR s (oneO o)).2.2.cl 0≤s.cl 0+4294967295:=h1
  push_cast
  omega
theorem Sr.begun {Gs:Grps} {cr:Int} (hr:RightG Gs) (hl:Gs.length≤6) (hc:0≤cr∧cr≤1099511627776):Sr 0 (firstS Gs 1 cr):=
 ⟨SOk.begun (C:=1) hr ⟨by omega,by omega⟩ hc,SWt.begun,rfl,hl,by show (0:Int)≤_;omega⟩
end Go.Proofs.YtapnaocdehahdaaGreat
