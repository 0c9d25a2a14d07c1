/-
  Layer 25 (pick): what holds of a tree's state, whatever was done with it (plain).
  Layer 25 (pick): an act with small numbers (do).
  Layer 25 (pick): made.
-/
import Derived.Test.YtfgmglghlapbcaaGreatPkV
import Derived.Test.YtfgmglghlapbcaaGreatChA
namespace Go.Proofs.YtfgmglghlapbcaaGreat
open Go.RowKit Go.Maps Go.IntWalk Go.Lib Go.Sort Go.Shelf
set_option linter.unusedVariables false
set_option linter.unusedSimpArgs false
abbrev EntOk (x:Ent):Prop:=Ch.Ok x.1 x.2.1 x.2.2
abbrev FlOk (f:Int):Prop:=0≤f∧f≤18446744073709551615
def inM (M:Mems) (id:Int):Bool:=(entM M id).isSome
theorem inM_none {M:Mems} {id:Int} (h:inM M id=false):entM M id=none:=by
 unfold inM at h
 cases e:entM M id with
 | none=>rfl
 | some x=>rw [e] at h;cases h
theorem inM_some {M:Mems} {id:Int} (h:inM M id=true):∃ x,entM M id=some x:=by
 unfold inM at h
 cases e:entM M id with
 | none=>rw [e] at h;cases h
 | some x=>exact ⟨x,rfl⟩
theorem inM_ne {M:Mems} {id:Int} (h:inM M id=true):M.isEmpty=false:=by
 cases M with
 | nil=>cases h
 | cons a r=>rfl
theorem inM_ex {M:Mems} (h:M.isEmpty=false):∃ id,inM M id=true:=by
 cases M with
 | nil=>cases h
 | cons a r=>exact ⟨a.1,by unfold inM entM;rw [List.find?_cons_of_pos (by simp)];rfl⟩
theorem empty_of {M:Mems} (h:∀ id,inM M id=false):M.isEmpty=true:=by
 cases e:M.isEmpty with
 | true=>rfl
 | false=>obtain ⟨id,hi⟩:=inM_ex e;rw [h id] at hi;cases hi
theorem empty_same {M N:Mems} (h:∀ id,inM M id=inM N id):M.isEmpty=N.isEmpty:=by
 cases e:N.isEmpty with
 | true=>exact empty_of fun id=>by rw [h,List.isEmpty_iff.1 e];rfl
 | false=>obtain ⟨id,hi⟩:=inM_ex e;exact inM_ne (by rw [h];exact hi)
structure MOk (M:Mems):Prop where
 nod:(M.map Prod.fst).Nodup
 ok:∀ m∈M,EntOk m.2
theorem MOk.none:MOk []:=⟨List.nodup_nil,fun m h=>by cases h⟩
theorem MOk.ent {M:Mems} (h:MOk M) {id:Int} {x:Ent} (hx:entM M id=some x):EntOk x:=h.ok (id,x) ((ent_some h.nod).1 hx)
theorem MOk.put {M:Mems} (h:MOk M) {id:Int} {x:Ent} (hn:entM M id=Option.none) (hx:EntOk x):MOk (putM M (id,x)):=
 ⟨put_nodup h.nod hn,fun m hm=>by rcases put_mem.1 hm with rfl | hm;exact hx;exact h.ok m hm⟩
theorem MOk.out {M:Mems} (h:MOk M) (id:Int):MOk (outM M id):=⟨out_nodup h.nod id,fun m hm=>h.ok m (out_mem.1 hm).1⟩
theorem MOk.ch {M:Mems} (h:MOk M) (id:Int) {x:Ent} (hx:EntOk x):MOk (chM M id x):=(h.out id).put (ch_none h.nod id) hx
theorem rise_ok {M:Mems} {f:Int} (h:∀ m∈M,EntOk m.2) (hf:FlOk f):FlOk (riseF (itemsM M) f):=by
 cases M with
 | nil=>exact hf
 | cons a r =>
  have:=h a List.mem_cons_self
  unfold EntOk Ch.Ok at this
  show FlOk (max f a.2.1)
  unfold FlOk at hf ⊢
  omega
theorem enter_yes {M:Mems} {id:Int} {x:Ent} (hi:0≤id∧id<65792) (hx:EntOk x) (hn:entM M id=none):enterM qN M id x=putM M (id,x):=by
 have hv:hasV qN id=true:=decide_eq_true hi
 have hc:enterC qN M id x=0:=by unfold enterC;rw [hv,if_pos rfl,if_pos hx,hn];rfl
 unfold enterM
 rw [hc,if_pos rfl]
theorem enter_in {M:Mems} {id:Int} {x:Ent} (h:MOk M) (hi:0≤id∧id<65792) (hx:EntOk x) (hn:entM M id=none):MOk (enterM qN M id x)∧(∀ j,entM (enterM qN M id x) j=if j=id then some x else entM M j):=by
 rw [enter_yes hi hx hn]
 exact ⟨h.put hn hx,fun j=>ent_put h.nod hn j⟩
theorem enterF_ok {M:Mems} {id:Int} {x:Ent} {f:Int} (h:MOk M) (hx:EntOk x) (hf:FlOk f):FlOk (enterF qN M id x f):=by
 unfold enterF
 split
 ·exact rise_ok (fun m hm=>by rcases put_mem.1 hm with rfl | hm;exact hx;exact h.ok m hm) hf
 ·exact hf
theorem leave_out {M:Mems} {id:Int} (h:MOk M):MOk (leaveM qN M id):=by
 unfold leaveM
 split
 ·exact h.out id
 ·exact h
theorem leave_ent {M:Mems} {id:Int} (h:MOk M) (hi:0≤id∧id<65792) (j:Int):entM (leaveM qN M id) j=if j=id then none else entM M j:=by
 have hv:hasV qN id=true:=decide_eq_true hi
 unfold leaveM leaveC
 rw [hv,if_pos rfl]
 cases e:entM M id with
 | none =>
  rw [if_neg (by decide)]
  by_cases q:j=id
  ·rw [if_pos q,q];exact e
  ·rw [if_neg q]
 | some x =>
  rw [if_pos (by rfl)]
  exact ent_out h.nod id j
theorem leave_x {M:Mems} {id:Int} {x:Ent} (hi:0≤id∧id<65792) (hx:entM M id=some x):leaveE qN M id=x:=by
 have hv:hasV qN id=true:=decide_eq_true hi
 unfold leaveE leaveC
 rw [hv,if_pos rfl,hx]
 rfl
theorem leaveF_ok {M:Mems} {id:Int} {f:Int} (h:MOk M) (hf:FlOk f):FlOk (leaveF qN M id f):=by
 unfold leaveF
 split
 ·exact rise_ok (h.out id).ok hf
 ·exact hf
theorem ch_is {b:Bool} {M:Mems} {id:Int} {X:Ent→Ent} (hi:0≤id∧id<65792) (h:MOk M) (j:Int):entM (chS b qN M id X) j=if b=true∧j=id then (entM M j).map X else entM M j:=by
 have hv:hasV qN id=true:=decide_eq_true hi
 unfold chS chC
 rw [hv,if_pos rfl]
 cases b with
 | false =>
  rw [if_neg (by simp)]
  rw [if_neg (by simp)]
 | true =>
  rw [if_pos rfl]
  cases e:entM M id with
  | none =>
   rw [if_neg (by decide)]
   by_cases q:j=id
   ·rw [if_pos ⟨rfl,q⟩,q,e];rfl
   ·rw [if_neg (fun z=>q z.2)]
  | some x =>
   rw [if_pos (by rfl),ch_ent h.nod]
   by_cases q:j=id
   ·rw [if_pos q,if_pos ⟨rfl,q⟩,q,e];rfl
   ·rw [if_neg q,if_neg (fun z=>q z.2)]
theorem ch_mok {b:Bool} {M:Mems} {id:Int} {X:Ent→Ent} (h:MOk M) (hX:b=true→∀ y,EntOk y→EntOk (X y)):MOk (chS b qN M id X):=by
 unfold chS chC
 cases b with
 | false=>split <;> (first | exact h | (exfalso;rename_i q;revert q;split <;> simp))
 | true =>
  by_cases hv:hasV qN id=true
  ·rw [hv,if_pos rfl,if_pos rfl]
   cases e:entM M id with
   | none=>exact h
   | some x=>exact h.ch id (hX rfl x (h.ent e))
  ·rw [if_neg hv];exact h
theorem chF_ok {b:Bool} {M:Mems} {id:Int} {X:Ent→Ent} {f:Int} (h:MOk M) (hX:b=true→∀ y,EntOk y→EntOk (X y)) (hf:FlOk f):FlOk (chF b qN M id X f):=by
 have hm:=ch_mok (id:=id) h hX
 unfold chS at hm
 unfold chF
 by_cases q:chC b qN M id=0
 ·rw [if_pos q] at hm ⊢;exact rise_ok hm.ok hf
 ·rw [if_neg q];exact hf
structure TCore (s:TSt):Prop where
 right:RightG s.Gs
 cr:0≤s.cr
 mok:∀ k,MOk (s.M k)
 aok:∀ k,k<s.n→EntOk (s.A k)
 fok:∀ k,FlOk (s.fl k)
 tid:∀ id,s.T id≠none→1≤id∧id≤65535
 task:∀ id g,s.T id=some g→∃ k:Nat,g=(k:Int)∧k<s.n∧inM (s.M k) id=true
 ids:∀ k id,inM (s.M k) id=true→(s.T id=some (k:Int)∧1≤id∧id≤65535)∨∃ c:Nat,0<c∧c<s.n∧id=65536+(c:Int)∧parG s.Gs c=k
def Seated (s:TSt) (c:Nat):Prop:=inM (s.M (parG s.Gs c)) (65536+(c:Int))=!(s.M c).isEmpty
structure TOk (s:TSt):Prop where
 core:TCore s
 seat:∀ c,0<c→c<s.n→Seated s c
structure TWay (s:TSt) (g:Nat):Prop where
 core:TCore s
 seat:∀ c,0<c→c<s.n→c≠g→Seated s c
theorem TWay.ok {s:TSt} {g:Nat} (h:TWay s g) (hg:0<g→g<s.n→Seated s g):TOk s:=⟨h.core,fun c h0 hc=>by
 by_cases e:c=g
 ·subst e;exact hg h0 hc
 ·exact h.seat c h0 hc e⟩
theorem RightG.wt {Gs:Grps} (h:RightG Gs) {k:Nat} (hk:k<Gs.length):1≤Gs[k]!.2∧Gs[k]!.2≤65536:=by
 by_cases hz:k=0
 ·subst hz;rw [h.root];decide
 ·exact ⟨(gErr_par (h.rest k (by omega) hk)).2.2.1,(gErr_par (h.rest k (by omega) hk)).2.2.2.1⟩
theorem new_ok {Gs:Grps} {cr:Int} (hr:RightG Gs) (hc:0≤cr):TOk (newT Gs cr):=by
 refine ⟨⟨hr,hc,fun k=>MOk.none,fun k hk=>?_,fun k=>⟨Int.le_refl _,show (0:Int)≤18446744073709551615 by decide⟩,fun id h=>absurd rfl h,fun id g h=>(by cases h),fun k id h=>(by cases h)⟩,fun c h0 hc=>rfl⟩
 have hw:=hr.wt hk
 show EntOk (newA Gs k)
 unfold newA EntOk Ch.Ok
 simp only
 omega
theorem parG_lt {s:TSt} (h:RightG s.Gs) {c:Nat} (h0:0<c) (hc:c<s.n):parG s.Gs c<c:=(h.par hc).2.1 h0
theorem wokenX_ok {x:Ent} {f cr:Int} (hx:EntOk x) (hf:FlOk f) (hc:0≤cr):EntOk (wokenX x f cr):=by
 unfold wokenX
 rw [if_pos hx]
 unfold EntOk Ch.Ok at hx
 unfold FlOk at hf
 split
 ·unfold EntOk Ch.Ok;simp only [or_true,and_true];omega
 ·exact hx
theorem en_step {s:TSt} {g:Nat} (h:TWay s g) (h0:0<g) (hg:g<s.n) (hn:entM (s.M (parG s.Gs g)) (65536+(g:Int))=none) (hm:(s.M g).isEmpty=false) {y:Ent} (hy:EntOk y) :
  TWay (enQ s (parG s.Gs g) (65536+(g:Int)) y) (parG s.Gs g):=by
 have hc:=h.core
 have hlt:=parG_lt hc.right h0 hg
 have hl:=hc.right.le
 have hgl:g<256:=by unfold TSt.n at hg;omega
 obtain ⟨e1,e2⟩:=enter_in (id:=65536+(g:Int)) (hc.mok (parG s.Gs g)) (by omega) hy hn
 have hM:∀ k j,entM ((enQ s (parG s.Gs g) (65536+(g:Int)) y).M k) j=if k=parG s.Gs g∧j=65536+(g:Int) then some y else entM (s.M k) j:=fun k j=>by
  show entM (upd s.M (parG s.Gs g) _ k) j=_
  by_cases q:k=parG s.Gs g
  ·rw [q,upd_same,e2]
   by_cases q':j=65536+(g:Int)
   ·rw [if_pos q',if_pos ⟨rfl,q'⟩]
   ·rw [if_neg q',if_neg fun z=>q' z.2]
  ·rw [upd_other _ _ q,if_neg fun z=>q z.1]
 have hI:∀ k j,¬ (k=parG s.Gs g∧j=65536+(g:Int))→inM ((enQ s (parG s.Gs g) (65536+(g:Int)) y).M k) j=inM (s.M k) j:=fun k j q=>by unfold inM;rw [hM,if_neg q]
 refine ⟨⟨hc.right,hc.cr,fun k=>?_,hc.aok,fun k=>?_,hc.tid,fun id c hT=>?_,fun k id hi=>?_⟩,fun c c0 hcn hne=>?_⟩
 ·show MOk (upd s.M (parG s.Gs g) _ k)
  by_cases q:k=parG s.Gs g
  ·rw [q,upd_same];exact e1
  ·rw [upd_other _ _ q];exact hc.mok k
 ·show FlOk (upd s.fl (parG s.Gs g) _ k)
  by_cases q:k=parG s.Gs g
  ·rw [q,upd_same];exact enterF_ok (hc.mok _) hy (hc.fok _)
  ·rw [upd_other _ _ q];exact hc.fok k
 ·obtain ⟨k,t1,t2,t3⟩:=hc.task id c hT
  have t4:=hc.tid id (by rw [show s.T id=some c from hT];simp)
  exact ⟨k,t1,t2,by rw [hI k id (by omega)];exact t3⟩
 ·by_cases q:k=parG s.Gs g∧id=65536+(g:Int)
  ·exact Or.inr ⟨g,h0,hg,q.2,q.1.symm⟩
  ·rw [hI k id q] at hi
   exact hc.ids k id hi
 ·have hE:∀ k,k≠parG s.Gs g→(enQ s (parG s.Gs g) (65536+(g:Int)) y).M k=s.M k:=fun k q=>upd_other _ _ q
  unfold Seated
  rw [hE c hne]
  show inM ((enQ s (parG s.Gs g) (65536+(g:Int)) y).M (parG s.Gs c)) (65536+(c:Int))=_
  by_cases q:c=g
  ·subst q
   unfold inM
   rw [hM,if_pos ⟨rfl,rfl⟩,hm];rfl
  ·rw [hI _ _ (by omega)]
   exact h.seat c c0 hcn q
theorem en_way:∀ (g:Nat) (s:TSt),TWay s g→g<s.n→(0<g→entM (s.M (parG s.Gs g)) (65536+(g:Int))=none∧(s.M g).isEmpty=false)→TOk (enUp (parG s.Gs) s true (pathT (parG s.Gs) g)).1:=by
 intro g
 induction g using Nat.strongRecOn with
 | ind g ih =>
  intro s h hg hn
  have hc:=h.core
  by_cases h0:0<g
  ·have hlt:=parG_lt hc.right h0 hg
   obtain ⟨n1,n2⟩:=hn h0
   have hy:=wokenX_ok (hc.aok g hg) (hc.fok (parG s.Gs g)) hc.cr
   have hs:=en_step h h0 hg n1 n2 hy
   rw [pathT_pos h0 hlt]
   have hl:=hc.right.le
   have hgl:g<256:=by unfold TSt.n at hg;omega
   have e:enUp (parG s.Gs) s true (g::pathT (parG s.Gs) (parG s.Gs g))=enUp (parG s.Gs) (enQ s (parG s.Gs g) (65536+(g:Int)) (wokenX (s.A g) (s.fl (parG s.Gs g)) s.cr)) (s.M (parG s.Gs g)).isEmpty (pathT (parG s.Gs) (parG s.Gs g)):=by
    show (pathT (parG s.Gs) (parG s.Gs g)).foldl (enStep (parG s.Gs)) (enStep (parG s.Gs) (s,true) g)=_
    unfold enStep
    rw [if_pos rfl]
    rfl
   rw [e]
   obtain ⟨e1,e2⟩:=enter_in (id:=65536+(g:Int)) (hc.mok (parG s.Gs g)) (by omega) hy n1
   have hne:(enterM qN (s.M (parG s.Gs g)) (65536+(g:Int)) (wokenX (s.A g) (s.fl (parG s.Gs g)) s.cr)).isEmpty=false:=inM_ne (id:=65536+(g:Int)) (by unfold inM;rw [e2,if_pos rfl];rfl)
   have hMp:(enQ s (parG s.Gs g) (65536+(g:Int)) (wokenX (s.A g) (s.fl (parG s.Gs g)) s.cr)).M (parG s.Gs g)=enterM qN (s.M (parG s.Gs g)) (65536+(g:Int)) (wokenX (s.A g) (s.fl (parG s.Gs g)) s.cr):=upd_same _ _ _
   have hEo:∀ k,k≠parG s.Gs g→(enQ s (parG s.Gs g) (65536+(g:Int)) (wokenX (s.A g) (s.fl (parG s.Gs g)) s.cr)).M k=s.M k:=fun k q=>upd_other _ _ q
   cases hq:(s.M (parG s.Gs g)).isEmpty with
   | true =>
    refine ih (parG s.Gs g) hlt _ hs (Nat.lt_trans hlt hg) fun p0=>?_
    have pl:=parG_lt hc.right p0 (Nat.lt_trans hlt hg)
    refine ⟨?_,by rw [hMp];exact hne⟩
    show entM ((enQ s (parG s.Gs g) (65536+(g:Int)) (wokenX (s.A g) (s.fl (parG s.Gs g)) s.cr)).M (parG s.Gs (parG s.Gs g))) _=none
    rw [hEo _ (by omega)]
    have:=h.seat (parG s.Gs g) p0 (by omega) (by omega)
    unfold Seated at this
    rw [hq] at this
    exact inM_none this
   | false =>
    have:enUp (parG s.Gs) (enQ s (parG s.Gs g) (65536+(g:Int)) (wokenX (s.A g) (s.fl (parG s.Gs g)) s.cr)) false (pathT (parG s.Gs) (parG s.Gs g))=_:=en_stop _ _ _
    rw [this]
    refine hs.ok fun p0 pn=>?_
    have pl:=parG_lt hc.right p0 pn
    unfold Seated
    rw [hMp,hne]
    show inM ((enQ s (parG s.Gs g) (65536+(g:Int)) (wokenX (s.A g) (s.fl (parG s.Gs g)) s.cr)).M (parG s.Gs (parG s.Gs g))) (65536+((parG s.Gs g:Nat):Int))=_
    rw [hEo _ (by omega)]
    have:=h.seat (parG s.Gs g) p0 (by omega) (by omega)
    unfold Seated at this
    rw [hq] at this
    exact this
  ·obtain rfl:g=0:=by omega
   rw [pathT_zero]
   exact h.ok fun q=>absurd q (by decide)
theorem enS_ok {s:TSt} {id g ac:Int} {x:Ent} (h:TOk s) (hx:ac=0→EntOk x):TOk (enS s id g ac x):=by
 unfold enS
 by_cases hC:enC s id g ac=0
 ·rw [if_pos hC]
  have hC':=hC
  unfold enC at hC'
  by_cases hv:(nameV id && hasV (s.n:Int) g)=true
  ·rw [if_pos hv] at hC'
   simp only [Bool.and_eq_true] at hv
   have h1:1≤id∧id≤65535:=of_decide_eq_true hv.1
   have h2:0≤g∧g<(s.n:Int):=of_decide_eq_true hv.2
   obtain ⟨k,rfl⟩:=Int.eq_ofNat_of_zero_le h2.1
   have hk:k<s.n:=by omega
   by_cases ha:ac=0
   ·rw [if_pos ha] at hC'
    have hT:s.T id=none:=by
     cases e:s.T id with
     | none=>rfl
     | some g'=>rw [e] at hC';simp at hC'
    have hx':=hx ha
    rw [Int.toNat_natCast]
    have hc:=h.core
    have hnone:∀ j,entM (s.M j) id=none:=fun j=>by
     cases e:entM (s.M j) id with
     | none=>rfl
     | some y =>
      rcases hc.ids j id (by unfold inM;rw [e];rfl) with ⟨q,_⟩ | ⟨c,_,_,q,_⟩
      ·rw [hT] at q;cases q
      ·omega
    obtain ⟨e1,e2⟩:=enter_in (id:=id) (hc.mok k) (by omega) hx' (hnone k)
    have hne:(enterM qN (s.M k) id x).isEmpty=false:=inM_ne (id:=id) (by unfold inM;rw [e2,if_pos rfl];rfl)
    obtain ⟨s1,hs1⟩:∃ s1,s1=enT (enQ s k id x) k id:=⟨_,rfl⟩
    have hG1:s1.Gs=s.Gs:=by rw [hs1];rfl
    have hn1:s1.n=s.n:=by unfold TSt.n;rw [hG1]
    have hM1:∀ j,s1.M j=if j=k then enterM qN (s.M k) id x else s.M j:=fun j=>by
     rw [hs1]
     show upd s.M k _ j=_
     by_cases q:j=k
     ·rw [q,upd_same,if_pos rfl]
     ·rw [upd_other _ _ q,if_neg q]
    have hI1:∀ j i,inM (s1.M j) i=if j=k∧i=id then true else inM (s.M j) i:=fun j i=>by
     rw [hM1]
     by_cases q:j=k
     ·rw [if_pos q]
      unfold inM
      rw [e2]
      by_cases q':i=id
      ·rw [if_pos q',if_pos ⟨q,q'⟩];rfl
      ·rw [if_neg q',if_neg fun z=>q' z.2,q]
     ·rw [if_neg q,if_neg fun z=>q z.1]
    have hT1:∀ i,s1.T i=if i=id then some (k:Int) else s.T i:=fun i=>by
     rw [hs1]
     show setF s.T id (some (k:Int)) i=_
     by_cases q:i=id
     ·rw [q,if_pos rfl];exact setF_same _ _ _
     ·rw [if_neg q];exact setF_other _ _ q
    have hcore:TCore s1:=by
     refine ⟨by rw [hG1];exact hc.right,by rw [hs1];exact hc.cr,fun j=>?_,fun j hj=>by rw [hs1];exact hc.aok j (by omega),fun j=>?_,fun i hi=>?_,fun i g' hi=>?_,fun j i hi=>?_⟩
     ·rw [hM1]
      by_cases q:j=k
      ·rw [if_pos q];exact e1
      ·rw [if_neg q];exact hc.mok j
     ·rw [hs1]
      show FlOk (upd s.fl k _ j)
      by_cases q:j=k
      ·rw [q,upd_same];exact enterF_ok (hc.mok _) hx' (hc.fok _)
      ·rw [upd_other _ _ q];exact hc.fok j
     ·rw [hT1] at hi
      by_cases q:i=id
      ·rw [q];exact h1
      ·rw [if_neg q] at hi;exact hc.tid i hi
     ·rw [hT1] at hi
      by_cases q:i=id
      ·rw [if_pos q] at hi
       cases hi
       exact ⟨k,rfl,by rw [hn1];exact hk,by rw [hI1,if_pos ⟨rfl,q⟩]⟩
      ·rw [if_neg q] at hi
       obtain ⟨j,t1,t2,t3⟩:=hc.task i g' hi
       exact ⟨j,t1,by rw [hn1];exact t2,by rw [hI1,if_neg fun z=>q z.2];exact t3⟩
     ·rw [hI1] at hi
      rw [hT1,hG1,hn1]
      by_cases q:j=k∧i=id
      ·exact Or.inl ⟨by rw [if_pos q.2,q.1],by rw [q.2];exact h1⟩
      ·rw [if_neg q] at hi
       rcases hc.ids j i hi with ⟨a,b⟩ | b
       ·refine Or.inl ⟨?_,b⟩
        by_cases q':i=id
        ·rw [q',hT] at a;cases a
        ·rw [if_neg q'];exact a
       ·exact Or.inr b
    have hseat:∀ c,0<c→c<s1.n→c≠k→Seated s1 c:=fun c c0 hcn q=>by
     unfold Seated
     rw [hG1,hM1 c,if_neg q,hI1,if_neg (by omega)]
     exact h.seat c c0 (by omega)
    have hway:TWay s1 k:=⟨hcore,hseat⟩
    show TOk (enUp (parG s.Gs) (enT (enQ s k id x) k id) (s.M k).isEmpty (pathT (parG s.Gs) k)).1
    rw [← hs1,← hG1]
    cases hq:(s.M k).isEmpty with
    | true =>
     refine en_way k s1 hway (by rw [hn1];exact hk) fun k0=>⟨?_,by rw [hM1,if_pos rfl];exact hne⟩
     have pl:=parG_lt hc.right k0 hk
     rw [hG1,hM1,if_neg (by omega)]
     have:=h.seat k k0 hk
     unfold Seated at this
     rw [hq] at this
     exact inM_none this
    | false =>
     have e:enUp (parG s1.Gs) s1 false (pathT (parG s1.Gs) k)=_:=en_stop _ _ _
     rw [e]
     refine hway.ok fun k0 kn=>?_
     have pl:=parG_lt hc.right k0 hk
     unfold Seated
     rw [hG1,hM1 k,if_pos rfl,hne,hM1,if_neg (by omega)]
     have:=h.seat k k0 hk
     unfold Seated at this
     rw [hq] at this
     exact this
   ·rw [if_neg ha] at hC';exact absurd hC' (by decide)
  ·rw [if_neg hv] at hC';exact absurd hC' (by decide)
 ·rw [if_neg hC];exact h
theorem spawn_ok {s:TSt} {id g k:Int} (h:TOk s):TOk (spawnS s id g k):=enS_ok h fun hc=>by
 have hk:1≤k∧k≤65536:=by
  unfold newC at hc
  by_cases q:1≤k∧k≤65536
  ·exact q
  ·rw [if_neg q] at hc;exact absurd hc (by decide)
 have hf:=h.core.fok g.toNat
 unfold newX
 rw [if_pos hk]
 unfold FlOk at hf
 unfold EntOk Ch.Ok
 simp only [or_true,and_true]
 omega
theorem wake_ok {s:TSt} {id g:Int} {x:Ent} (h:TOk s):TOk (wakeS s id g x):=enS_ok h fun hc=>by
 have hx:EntOk x:=by
  unfold wokenC at hc
  by_cases q:EntOk x
  ·exact q
  ·rw [if_neg q] at hc;exact absurd hc (by decide)
 exact wokenX_ok hx (h.core.fok _) h.core.cr
theorem come_ok {s:TSt} {id g:Int} {x:Ent} (h:TOk s):TOk (comS s id g x):=enS_ok h fun hc=>by
 have hx:EntOk x:=by
  unfold comeC at hc
  by_cases q:EntOk x
  ·exact q
  ·rw [if_neg q] at hc;exact absurd hc (by decide)
 unfold comeX
 rw [if_pos hx]
 exact hx
theorem lv_step {s:TSt} {g:Nat} (h:TWay s g) (h0:0<g) (hg:g<s.n) (hn:inM (s.M (parG s.Gs g)) (65536+(g:Int))=true) (hm:(s.M g).isEmpty=true) :
  TWay (lvA s g (parG s.Gs g)) (parG s.Gs g):=by
 have hc:=h.core
 have hlt:=parG_lt hc.right h0 hg
 have hl:=hc.right.le
 have hgl:g<256:=by unfold TSt.n at hg;omega
 obtain ⟨y,hy⟩:=inM_some hn
 have e2:=leave_ent (id:=65536+(g:Int)) (hc.mok (parG s.Gs g)) (by omega)
 have e3:=leave_x (id:=65536+(g:Int)) (by omega) hy
 have hI:∀ k j,inM ((lvA s g (parG s.Gs g)).M k) j=if k=parG s.Gs g∧j=65536+(g:Int) then false else inM (s.M k) j:=fun k j=>by
  show inM (upd s.M (parG s.Gs g) _ k) j=_
  by_cases q:k=parG s.Gs g
  ·rw [q,upd_same]
   unfold inM
   rw [e2]
   by_cases q':j=65536+(g:Int)
   ·rw [if_pos q',if_pos ⟨rfl,q'⟩];rfl
   ·rw [if_neg q',if_neg fun z=>q' z.2]
  ·rw [upd_other _ _ q,if_neg fun z=>q z.1]
 refine ⟨⟨hc.right,hc.cr,fun k=>?_,fun k hk=>?_,fun k=>?_,hc.tid,fun id c hT=>?_,fun k id hi=>?_⟩,fun c c0 hcn hne=>?_⟩
 ·show MOk (upd s.M (parG s.Gs g) _ k)
  by_cases q:k=parG s.Gs g
  ·rw [q,upd_same];exact leave_out (hc.mok _)
  ·rw [upd_other _ _ q];exact hc.mok k
 ·show EntOk (upd s.A g (leaveE qN (s.M (parG s.Gs g)) (65536+(g:Int))) k)
  by_cases q:k=g
  ·rw [q,upd_same,e3];exact (hc.mok _).ent hy
  ·rw [upd_other _ _ q];exact hc.aok k hk
 ·show FlOk (upd s.fl (parG s.Gs g) _ k)
  by_cases q:k=parG s.Gs g
  ·rw [q,upd_same];exact leaveF_ok (hc.mok _) (hc.fok _)
  ·rw [upd_other _ _ q];exact hc.fok k
 ·obtain ⟨k,t1,t2,t3⟩:=hc.task id c hT
  have t4:=hc.tid id (by rw [show s.T id=some c from hT];simp)
  exact ⟨k,t1,t2,by rw [hI k id,if_neg (by omega)];exact t3⟩
 ·rw [hI k id] at hi
  by_cases q:k=parG s.Gs g∧id=65536+(g:Int)
  ·rw [if_pos q] at hi;cases hi
  ·rw [if_neg q] at hi
   exact hc.ids k id hi
 ·have hE:∀ k,k≠parG s.Gs g→(lvA s g (parG s.Gs g)).M k=s.M k:=fun k q=>upd_other _ _ q
  unfold Seated
  rw [hE c hne]
  show inM ((lvA s g (parG s.Gs g)).M (parG s.Gs c)) (65536+(c:Int))=_
  by_cases q:c=g
  ·subst q
   rw [hI,if_pos ⟨rfl,rfl⟩,hm];rfl
  ·rw [hI,if_neg (by omega)]
   exact h.seat c c0 hcn q
theorem lv_way:∀ (g:Nat) (s:TSt),TWay s g→g<s.n→(0<g→inM (s.M (parG s.Gs g)) (65536+(g:Int))=true)→TOk (lvUp (parG s.Gs) s (pathT (parG s.Gs) g)).1:=by
 intro g
 induction g using Nat.strongRecOn with
 | ind g ih =>
  intro s h hg hn
  have hc:=h.core
  by_cases h0:0<g
  ·have hlt:=parG_lt hc.right h0 hg
   have n1:=hn h0
   rw [pathT_pos h0 hlt]
   have hl:=hc.right.le
   cases hq:(s.M g).isEmpty with
   | true =>
    have hs:=lv_step h h0 hg n1 hq
    have e:lvUp (parG s.Gs) s (g::pathT (parG s.Gs) (parG s.Gs g))=lvUp (parG s.Gs) (lvA s g (parG s.Gs g)) (pathT (parG s.Gs) (parG s.Gs g)):=by
     show (pathT (parG s.Gs) (parG s.Gs g)).foldl (lvStep (parG s.Gs)) (lvStep (parG s.Gs) (s,false) g)=_
     unfold lvStep
     simp only [hq]
     rfl
    rw [e]
    refine ih (parG s.Gs g) hlt _ hs (Nat.lt_trans hlt hg) fun p0=>?_
    have pl:=parG_lt hc.right p0 (Nat.lt_trans hlt hg)
    show inM ((lvA s g (parG s.Gs g)).M (parG s.Gs (parG s.Gs g))) (65536+((parG s.Gs g:Nat):Int))=true
    have hE:∀ k,k≠parG s.Gs g→(lvA s g (parG s.Gs g)).M k=s.M k:=fun k q=>upd_other _ _ q
    rw [hE _ (by omega)]
    have:=h.seat (parG s.Gs g) p0 (by omega) (by omega)
    unfold Seated at this
    rw [this,inM_ne n1];rfl
   | false =>
    have e:lvUp (parG s.Gs) s (g::pathT (parG s.Gs) (parG s.Gs g))=(s,true):=by
     show (pathT (parG s.Gs) (parG s.Gs g)).foldl (lvStep (parG s.Gs)) (lvStep (parG s.Gs) (s,false) g)=_
     have e:lvStep (parG s.Gs) (s,false) g=(s,true):=by
      unfold lvStep
      simp only [hq]
      rfl
     rw [e]
     exact lv_stop _ _ _
    rw [e]
    refine h.ok fun _ _=>?_
    unfold Seated
    rw [n1,hq];rfl
  ·obtain rfl:g=0:=by omega
   rw [pathT_zero]
   exact h.ok fun q=>absurd q (by decide)
theorem leave_ok {s:TSt} {id:Int} (h:TOk s):TOk (plvS s id):=by
 unfold plvS
 by_cases hC:findC s id=0
 ·rw [if_pos hC]
  obtain ⟨g,hT,hG⟩:=findC_zero hC
  have hc:=h.core
  obtain ⟨k,rfl,hk,hi⟩:=hc.task id g hT
  have h1:=hc.tid id (by rw [hT];simp)
  rw [hG,Int.toNat_natCast]
  have e2:=leave_ent (id:=id) (hc.mok k) (by omega)
  obtain ⟨s1,hs1⟩:∃ s1,s1=lvT (lvQ s k id) id:=⟨_,rfl⟩
  have hG1:s1.Gs=s.Gs:=by rw [hs1];rfl
  have hn1:s1.n=s.n:=by unfold TSt.n;rw [hG1]
  have hM1:∀ j,s1.M j=if j=k then leaveM qN (s.M k) id else s.M j:=fun j=>by
   rw [hs1]
   show upd s.M k _ j=_
   by_cases q:j=k
   ·rw [q,upd_same,if_pos rfl]
   ·rw [upd_other _ _ q,if_neg q]
  have hI1:∀ j i,inM (s1.M j) i=if j=k∧i=id then false else inM (s.M j) i:=fun j i=>by
   rw [hM1]
   by_cases q:j=k
   ·rw [if_pos q]
    unfold inM
    rw [e2]
    by_cases q':i=id
    ·rw [if_pos q',if_pos ⟨q,q'⟩];rfl
    ·rw [if_neg q',if_neg fun z=>q' z.2,q]
   ·rw [if_neg q,if_neg fun z=>q z.1]
  have hT1:∀ i,s1.T i=if i=id then none else s.T i:=fun i=>by
   rw [hs1]
   show setF s.T id none i=_
   by_cases q:i=id
   ·rw [q,if_pos rfl];exact setF_same _ _ _
   ·rw [if_neg q];exact setF_other _ _ q
  have hcore:TCore s1:=by
   refine ⟨by rw [hG1];exact hc.right,by rw [hs1];exact hc.cr,fun j=>?_,fun j hj=>by rw [hs1];exact hc.aok j (by omega),fun j=>?_,fun i hi=>?_,fun i g' hi=>?_,fun j i hi=>?_⟩
   ·rw [hM1]
    by_cases q:j=k
    ·rw [if_pos q];exact leave_out (hc.mok k)
    ·rw [if_neg q];exact hc.mok j
   ·rw [hs1]
    show FlOk (upd s.fl k _ j)
    by_cases q:j=k
    ·rw [q,upd_same];exact leaveF_ok (hc.mok _) (hc.fok _)
    ·rw [upd_other _ _ q];exact hc.fok j
   ·rw [hT1] at hi
    by_cases q:i=id
    ·rw [if_pos q] at hi;exact absurd rfl hi
    ·rw [if_neg q] at hi;exact hc.tid i hi
   ·rw [hT1] at hi
    by_cases q:i=id
    ·rw [if_pos q] at hi;cases hi
    ·rw [if_neg q] at hi
     obtain ⟨j,t1,t2,t3⟩:=hc.task i g' hi
     exact ⟨j,t1,by rw [hn1];exact t2,by rw [hI1,if_neg fun z=>q z.2];exact t3⟩
   ·rw [hI1] at hi
    rw [hT1,hG1,hn1]
    by_cases q:j=k∧i=id
    ·rw [if_pos q] at hi;cases hi
    ·rw [if_neg q] at hi
     rcases hc.ids j i hi with ⟨a,b⟩ | b
     ·refine Or.inl ⟨?_,b⟩
      by_cases q':i=id
      ·rw [q',hT] at a
       simp only [Option.some.injEq,Int.natCast_inj] at a
       exact absurd ⟨a.symm,q'⟩ q
      ·rw [if_neg q'];exact a
     ·exact Or.inr b
  have hway:TWay s1 k:=⟨hcore,fun c c0 hcn q=>by
   unfold Seated
   rw [hG1,hM1 c,if_neg q,hI1,if_neg (by omega)]
   exact h.seat c c0 (by omega)⟩
  rw [← hs1,← hG1]
  refine lv_way k s1 hway (by rw [hn1];exact hk) fun k0=>?_
  have pl:=parG_lt hc.right k0 hk
  rw [hG1,hI1,if_neg (by omega)]
  have:=h.seat k k0 hk
  unfold Seated at this
  rw [this,inM_ne hi];rfl
 ·rw [if_neg hC];exact h
structure Alike (s s':TSt):Prop where
 n:s'.n=s.n
 par:parG s'.Gs=parG s.Gs
 T:s'.T=s.T
 cr:s'.cr=s.cr
 mem:∀ k id,inM (s'.M k) id=inM (s.M k) id
theorem Alike.ok {s s':TSt} (a:Alike s s') (h:TOk s) (hr:RightG s'.Gs) (hm:∀ k,MOk (s'.M k)) (hA:∀ k,k<s.n→EntOk (s'.A k)) (hf:∀ k,FlOk (s'.fl k)):TOk s':=by
 have hc:=h.core
 refine ⟨⟨hr,by rw [a.cr];exact hc.cr,hm,fun k hk=>hA k (by rw [← a.n];exact hk),hf,by rw [a.T];exact hc.tid,fun id g hT=>?_,fun k id hi=>?_⟩,fun c c0 hcn=>?_⟩
 ·rw [a.T] at hT
  obtain ⟨k,t1,t2,t3⟩:=hc.task id g hT
  exact ⟨k,t1,by rw [a.n];exact t2,by rw [a.mem];exact t3⟩
 ·rw [a.mem] at hi
  rw [a.T,a.n,a.par]
  exact hc.ids k id hi
 ·unfold Seated
  rw [a.par,a.mem,empty_same fun id=>a.mem c id]
  exact h.seat c c0 (by rw [← a.n];exact hcn)
theorem ch_mem' {b:Bool} {M:Mems} {id:Int} {X:Ent→Ent} (hi:0≤id∧id<65792) (h:MOk M) (j:Int):inM (chS b qN M id X) j=inM M j:=by
 unfold inM
 rw [ch_is hi h]
 split
 ·cases entM M j <;> rfl
 ·rfl
theorem chgQ_ok {s:TSt} {tk:Int} {g:Nat} {id:Int} (h:TOk s) (hi:0≤id∧id<65792):TOk (chgQ tk s g id):=by
 have hX:decide (tkOk tk)=true→∀ y,EntOk y→EntOk (chgX tk y):=fun ht y hy=>okC hy (of_decide_eq_true ht)
 refine Alike.ok (s:=s) ⟨rfl,rfl,rfl,rfl,fun k j=>?_⟩ h h.core.right (fun k=>?_) h.core.aok (fun k=>?_)
 ·show inM (upd s.M g _ k) j=_
  by_cases q:k=g
  ·rw [q,upd_same];exact ch_mem' hi (h.core.mok g) j
  ·rw [upd_other _ _ q]
 ·show MOk (upd s.M g _ k)
  by_cases q:k=g
  ·rw [q,upd_same];exact ch_mok (h.core.mok g) hX
  ·rw [upd_other _ _ q];exact h.core.mok k
 ·show FlOk (upd s.fl g _ k)
  by_cases q:k=g
  ·rw [q,upd_same];exact chF_ok (h.core.mok g) hX (h.core.fok g)
  ·rw [upd_other _ _ q];exact h.core.fok k
theorem chgUp_ok {tk:Int} {P:Nat→Nat}:∀ (l:List Nat) (s:TSt),TOk s→(∀ o∈l,o<256)→TOk (chgUp tk P s l):=by
 intro l
 induction l with
 | nil=>intro s h _;exact h
 | cons o r ih =>
  intro s h ho
  have h1:=ho o List.mem_cons_self
  exact ih _ (chgQ_ok h (by omega)) fun x hx=>ho x (List.mem_cons_of_mem _ hx)
theorem charge_ok {s:TSt} {id tk:Int} (h:TOk s):TOk (pchgS s id tk):=by
 unfold pchgS
 by_cases hC:pchgC s id tk=0
 ·rw [if_pos hC]
  have hC':findC s id=0:=by
   unfold pchgC at hC
   by_cases q:tkOk tk
   ·rw [if_pos q] at hC;exact hC
   ·rw [if_neg q] at hC;exact absurd hC (by decide)
  obtain ⟨g,hT,hG⟩:=findC_zero hC'
  obtain ⟨k,rfl,hk,hi⟩:=h.core.task id g hT
  have h1:=h.core.tid id (by rw [hT];simp)
  rw [hG,Int.toNat_natCast]
  refine chgUp_ok _ _ (chgQ_ok h (by omega)) fun o ho=>?_
  have:=pathT_mem k ho
  have:=h.core.right.le
  unfold TSt.n at hk
  omega
 ·rw [if_neg hC];exact h
theorem wgQ_ok {s:TSt} {w:Int} {g:Nat} {id:Int} (h:TOk s) (hi:0≤id∧id<65792):TOk (wgQ w s g id):=by
 have hX:decide (wgOk w)=true→∀ y,EntOk y→EntOk (wghX w y):=fun ht y hy=>okW hy (of_decide_eq_true ht)
 refine Alike.ok (s:=s) ⟨rfl,rfl,rfl,rfl,fun k j=>?_⟩ h h.core.right (fun k=>?_) h.core.aok (fun k=>?_)
 ·show inM (upd s.M g _ k) j=_
  by_cases q:k=g
  ·rw [q,upd_same];exact ch_mem' hi (h.core.mok g) j
  ·rw [upd_other _ _ q]
 ·show MOk (upd s.M g _ k)
  by_cases q:k=g
  ·rw [q,upd_same];exact ch_mok (h.core.mok g) hX
  ·rw [upd_other _ _ q];exact h.core.mok k
 ·show FlOk (upd s.fl g _ k)
  by_cases q:k=g
  ·rw [q,upd_same];exact chF_ok (h.core.mok g) hX (h.core.fok g)
  ·rw [upd_other _ _ q];exact h.core.fok k
theorem weigh_ok {s:TSt} {id k:Int} (h:TOk s):TOk (pweiS s id k):=by
 unfold pweiS
 by_cases hk:wgOk k
 ·rw [if_pos hk]
  by_cases hC:findC s id=0
  ·rw [if_pos hC]
   obtain ⟨g,hT,hG⟩:=findC_zero hC
   have h1:=h.core.tid id (by rw [hT];simp)
   exact wgQ_ok h (by omega)
  ·rw [if_neg hC];exact h
 ·rw [if_neg hk];exact h
theorem regroup_ok {s:TSt} {g k:Int} (h:TOk s):TOk (pregS s g k):=by
 unfold pregS
 by_cases hC:pregC s g k=0
 ·rw [if_pos hC]
  unfold pregC at hC
  by_cases q:hasV (s.n:Int) g=true∧g≠0
  ·rw [if_pos q] at hC
   have h2:0≤g∧g<(s.n:Int):=of_decide_eq_true q.1
   obtain ⟨j,rfl⟩:=Int.eq_ofNat_of_zero_le h2.1
   have hj:j<s.n:=by omega
   have h0:0<j:=by have:=q.2;omega
   by_cases q2:Ch.Ok (s.A ((j:Int)).toNat).1 (s.A ((j:Int)).toNat).2.1 (s.A ((j:Int)).toNat).2.2∧wgOk k
   ·rw [Int.toNat_natCast] at q2 ⊢
    have hl:=h.core.right.le
    unfold TSt.n at hj
    refine wgQ_ok ?_ (by omega)
    refine Alike.ok (s:=s) ⟨?_,?_,rfl,rfl,fun _ _=>rfl⟩ h ?_ h.core.mok (fun i hi=>?_) h.core.fok
    ·exact setW_len s.Gs j k
    ·exact setW_par s.Gs j k
    ·exact h.core.right.setW hj h0 q2.2
    ·show EntOk (upd s.A j _ i)
     by_cases e:i=j
     ·rw [e,upd_same];exact okW q2.1 q2.2
     ·rw [upd_other _ _ e];exact h.core.aok i hi
   ·rw [if_neg q2] at hC;exact absurd hC (by decide)
  ·rw [if_neg q] at hC;exact absurd hC (by decide)
 ·rw [if_neg hC];exact h
theorem enUp_fr (P:Nat→Nat):∀ (l:List Nat) (q:TSt×Bool),(l.foldl (enStep P) q).1.Gs=q.1.Gs∧(l.foldl (enStep P) q).1.cr=q.1.cr∧(l.foldl (enStep P) q).1.T=q.1.T∧(l.foldl (enStep P) q).1.c=q.1.c∧(l.foldl (enStep P) q).1.A=q.1.A:=by
 intro l
 induction l with
 | nil=>intro q;exact ⟨rfl,rfl,rfl,rfl,rfl⟩
 | cons o r ih =>
  intro q
  have i:=ih (enStep P q o)
  have e:(enStep P q o).1.Gs=q.1.Gs∧(enStep P q o).1.cr=q.1.cr∧(enStep P q o).1.T=q.1.T∧(enStep P q o).1.c=q.1.c∧(enStep P q o).1.A=q.1.A:=by
   unfold enStep
   split
   ·exact ⟨rfl,rfl,rfl,rfl,rfl⟩
   ·exact ⟨rfl,rfl,rfl,rfl,rfl⟩
  exact ⟨i.1.trans e.1,i.2.1.trans e.2.1,i.2.2.1.trans e.2.2.1,i.2.2.2.1.trans e.2.2.2.1,i.2.2.2.2.trans e.2.2.2.2⟩
theorem lvUp_fr (P:Nat→Nat):∀ (l:List Nat) (q:TSt×Bool),(l.foldl (lvStep P) q).1.Gs=q.1.Gs∧(l.foldl (lvStep P) q).1.cr=q.1.cr∧(l.foldl (lvStep P) q).1.T=q.1.T∧(l.foldl (lvStep P) q).1.c=q.1.c:=by
 intro l
 induction l with
 | nil=>intro q;exact ⟨rfl,rfl,rfl,rfl⟩
 | cons o r ih =>
  intro q
  have i:=ih (lvStep P q o)
  have e:(lvStep P q o).1.Gs=q.1.Gs∧(lvStep P q o).1.cr=q.1.cr∧(lvStep P q o).1.T=q.1.T∧(lvStep P q o).1.c=q.1.c:=by
   unfold lvStep
   split
   ·exact ⟨rfl,rfl,rfl,rfl⟩
   ·split
    ·exact ⟨rfl,rfl,rfl,rfl⟩
    ·exact ⟨rfl,rfl,rfl,rfl⟩
  exact ⟨i.1.trans e.1,i.2.1.trans e.2.1,i.2.2.1.trans e.2.2.1,i.2.2.2.trans e.2.2.2⟩
theorem chgUp_fr (tk:Int) (P:Nat→Nat):∀ (l:List Nat) (s:TSt),(chgUp tk P s l).Gs=s.Gs∧(chgUp tk P s l).cr=s.cr∧(chgUp tk P s l).T=s.T∧(chgUp tk P s l).c=s.c:=by
 intro l
 induction l with
 | nil=>intro s;exact ⟨rfl,rfl,rfl,rfl⟩
 | cons o r ih=>intro s;exact ih (chgQ tk s (P o) (65536+(o:Int)))
structure Fr (s s':TSt) (id:Int):Prop where
 n:s'.n=s.n
 par:parG s'.Gs=parG s.Gs
 cr:s'.cr=s.cr
 T:∀ j,j≠id→s'.T j=s.T j
theorem Fr.refl (s:TSt) (id:Int):Fr s s id:=⟨rfl,rfl,rfl,fun _ _=>rfl⟩
theorem enS_fr (s:TSt) (id g ac:Int) (x:Ent):Fr s (enS s id g ac x) id:=by
 unfold enS
 split
 ·obtain ⟨h1,h2,h3,_⟩:=enUp_fr (parG s.Gs) (pathT (parG s.Gs) g.toNat) (enT (enQ s g.toNat id x) g.toNat id,(s.M g.toNat).isEmpty)
  refine ⟨congrArg List.length h1,congrArg parG h1,h2,fun j hj=>?_⟩
  exact (congrFun h3 j).trans (setF_other _ _ hj)
 ·exact Fr.refl s id
theorem leave_fr (s:TSt) (id:Int):Fr s (plvS s id) id:=by
 unfold plvS
 split
 ·obtain ⟨h1,h2,h3,_⟩:=lvUp_fr (parG s.Gs) (pathT (parG s.Gs) (findG s id).toNat) (lvT (lvQ s (findG s id).toNat id) id,false)
  refine ⟨congrArg List.length h1,congrArg parG h1,h2,fun j hj=>?_⟩
  exact (congrFun h3 j).trans (setF_other _ _ hj)
 ·exact Fr.refl s id
theorem charge_fr (s:TSt) (id tk:Int):Fr s (pchgS s id tk) id:=by
 unfold pchgS
 split
 ·obtain ⟨h1,h2,h3,_⟩:=chgUp_fr tk (parG s.Gs) (pathT (parG s.Gs) (findG s id).toNat) (chgQ tk s (findG s id).toNat id)
  exact ⟨congrArg List.length h1,congrArg parG h1,h2,fun j _=>congrFun h3 j⟩
 ·exact Fr.refl s id
theorem weigh_fr (s:TSt) (id k:Int):Fr s (pweiS s id k) id:=by
 unfold pweiS
 split
 ·split
  ·exact ⟨rfl,rfl,rfl,fun _ _=>rfl⟩
  ·exact Fr.refl s id
 ·exact Fr.refl s id
theorem regroup_fr (s:TSt) (g k:Int) (id:Int):Fr s (pregS s g k) id:=by
 unfold pregS
 split
 ·exact ⟨setW_len s.Gs g.toNat k,setW_par s.Gs g.toNat k,rfl,fun _ _=>rfl⟩
 ·exact Fr.refl s id
theorem TOk.down {s:TSt} (h:TOk s):DownT s:=fun g hg he hf=>by
 have hm:inM (s.M g) (firstI (s.M g))=true:=by
  cases e:s.M g with
  | nil=>rw [e] at he;cases he
  | cons a r=>unfold inM entM firstI;rw [List.find?_cons_of_pos (by simp)];rfl
 rcases h.core.ids g _ hm with ⟨_,q⟩ | ⟨c,c0,hc,q,hp⟩
 ·omega
 ·exact ⟨c,q,by have:=parG_lt h.core.right c0 hc;omega,hc⟩
end Go.Proofs.YtfgmglghlapbcaaGreat
