/-
  Layer 31 (sched), in plain words: what members weigh.
-/
import Derived.Test.YtapnaocdehahdaaGreatSchWm
import Derived.Test.YtapnaocdehahdaaGreatSchQ
import Derived.Test.YtapnaocdehahdaaGreatSchU
namespace Go.Proofs.YtapnaocdehahdaaGreat
open Go.RowKit Go.Maps Go.IntWalk Go.Lib
set_option linter.unusedVariables false
set_option linter.unusedSimpArgs false
theorem ent_mem {M:Mems} {id:Int} {x:Ent} (h:entM M id=some x):(id,x)∈M:=by
 unfold entM at h
 obtain ⟨y,hy,rfl⟩:=Option.map_eq_some_iff.1 h
 have h1:=List.mem_of_find?_eq_some hy
 have h2:=List.find?_some hy
 have:y.1=id:=by simpa using h2
 rw [← this];exact h1
theorem enter_mem {M:Mems} {id:Int} {x:Ent} {m:Int×Ent} (h:m∈enterM qN M id x):m=(id,x)∨m∈M:=by
 unfold enterM at h
 split at h
 ·exact put_mem.1 h
 ·exact Or.inr h
theorem leave_mem {M:Mems} {id:Int} {m:Int×Ent} (h:m∈leaveM qN M id):m∈M:=by
 unfold leaveM at h
 split at h
 ·exact (out_mem.1 h).1
 ·exact h
theorem chs_mem {b:Bool} {M:Mems} {id:Int} {X:Ent→Ent} {m:Int×Ent} (h:m∈chS b qN M id X):m∈M∨∃ y,(id,y)∈M∧m=(id,X y):=by
 unfold chS at h
 split at h
 ·rename_i hc
  cases he:entM M id with
  | none =>
   exfalso
   unfold chC at hc
   rw [he] at hc
   repeat' split at hc
   all_goals simp_all
  | some y =>
   rw [he] at h
   rcases put_mem.1 h with q | q
   ·exact Or.inr ⟨y,ent_mem he,q⟩
   ·exact Or.inl (out_mem.1 q).1
 ·exact Or.inl h
structure WQ (q:TSt) (f:Int→Int):Prop where
 m:∀ g m,m∈q.M g→m.2.2.2=f m.1
 a:∀ g,0<g→g<q.n→(q.A g).2.2=f (65536+(g:Int))
section
variable {q:TSt} {f f':Int→Int}
theorem WQ.congr (h:WQ q f) (hm:∀ g m,m∈q.M g→f m.1=f' m.1) (ha:∀ g,0<g→g<q.n→f (65536+(g:Int))=f' (65536+(g:Int))):WQ q f':=
 ⟨fun g m hg=>(h.m g m hg).trans (hm g m hg),fun g h0 hg=>(h.a g h0 hg).trans (ha g h0 hg)⟩
theorem WQ.enQ (h:WQ q f) {g:Nat} {id:Int} {x:Ent} (hx:x.2.2=f id):WQ (enQ q g id x) f:=
 ⟨fun j m hm=>by
  replace hm:m∈upd q.M g (enterM qN (q.M g) id x) j:=hm
  by_cases e:j=g
  ·subst e;rw [upd_same] at hm
   rcases enter_mem hm with r | r
   ·rw [r];exact hx
   ·exact h.m j m r
  ·rw [upd_other _ _ e] at hm;exact h.m j m hm,h.a⟩
theorem WQ.chg (h:WQ q f) {b:Bool} {g:Nat} {id:Int} {X:Ent→Ent} {fl:Int} (hX:∀ y,(X y).2.2=y.2.2):WQ { q with M:=upd q.M g (chS b qN (q.M g) id X),fl:=upd q.fl g fl } f:=
 ⟨fun j m hm=>by
  replace hm:m∈upd q.M g (chS b qN (q.M g) id X) j:=hm
  by_cases e:j=g
  ·subst e;rw [upd_same] at hm
   rcases chs_mem hm with r | ⟨y,hy,r⟩
   ·exact h.m j m r
   ·rw [r];exact (hX y).trans (h.m j _ hy)
  ·rw [upd_other _ _ e] at hm;exact h.m j m hm,h.a⟩
theorem WQ.lvQ (h:WQ q f) (g:Nat) (id:Int):WQ (lvQ q g id) f:=
 ⟨fun j m hm=>by
  replace hm:m∈upd q.M g (leaveM qN (q.M g) id) j:=hm
  by_cases e:j=g
  ·subst e;rw [upd_same] at hm;exact h.m j m (leave_mem hm)
  ·rw [upd_other _ _ e] at hm;exact h.m j m hm,h.a⟩
theorem WQ.aside (h:WQ q f) {own:Nat} {y:Ent} (hy:0<own→y.2.2=f (65536+(own:Int))):WQ { q with A:=upd q.A own y } f:=
 ⟨h.m,fun g h0 hg=>by
  show (upd q.A own y g).2.2=_
  by_cases e:g=own
  ·subst e;rw [upd_same];exact hy h0
  ·rw [upd_other _ _ e];exact h.a g h0 hg⟩
theorem woken_w {x:Ent} {fl cr:Int} (hx:EntOk x):(wokenX x fl cr).2.2=x.2.2:=by
 unfold wokenX
 rw [if_pos hx]
 split <;> rfl
end
theorem WQ.enUp {f:Int→Int} (P:Nat→Nat):∀ (l:List Nat) (q:TSt×Bool),WQ q.1 f→(∀ o∈l,0<o∧o<q.1.n∧EntOk (q.1.A o))→WQ (l.foldl (enStep P) q).1 f
 | [],q,h,_=>h
 | o::r,q,h,ho=>by
  rw [List.foldl_cons]
  obtain ⟨h0,hn,hA⟩:=ho o (by simp)
  have hs:WQ (enStep P q o).1 f:=by
   unfold enStep
   split
   ·exact h.enQ ((woken_w hA).trans (h.a o h0 hn))
   ·exact h
  have e1:(enStep P q o).1.A=q.1.A∧(enStep P q o).1.Gs=q.1.Gs:=by
   unfold enStep
   split <;> exact ⟨rfl,rfl⟩
  refine WQ.enUp P r _ hs fun x hx=>?_
  have:=ho x (by simp [hx])
  rw [e1.1,TSt.n,e1.2]
  exact this
theorem WQ.chgUp {f:Int→Int} (tk:Int) (P:Nat→Nat):∀ (l:List Nat) (q:TSt),WQ q f→WQ (chgUp tk P q l) f
 | [],q,h=>h
 | o::r,q,h=>by
  unfold Go.Proofs.YtapnaocdehahdaaGreat.chgUp
  rw [List.foldl_cons]
  exact WQ.chgUp tk P r _ (h.chg fun y=>rfl)
theorem WQ.lvUp {f:Int→Int}:∀ (g:Nat) (s:TSt),TWay s g→g<s.n→(0<g→inM (s.M (parG s.Gs g)) (65536+(g:Int))=true)→WQ s f→WQ (lvUp (parG s.Gs) s (pathT (parG s.Gs) g)).1 f:=by
 intro g
 induction g using Nat.strongRecOn with
 | ind g ih =>
  intro s h hg hn hw
  have hc:=h.core
  by_cases h0:0<g
  ·have hlt:=parG_lt hc.right h0 hg
   have n1:=hn h0
   rw [pathT_pos h0 hlt]
   have hl:=hc.right.le
   cases hq:(s.M g).isEmpty with
   | true =>
    have hs:=lv_step h h0 hg n1 hq
    have e:Go.Proofs.YtapnaocdehahdaaGreat.lvUp (parG s.Gs) s (g::pathT (parG s.Gs) (parG s.Gs g))=Go.Proofs.YtapnaocdehahdaaGreat.lvUp (parG s.Gs) (lvA s g (parG s.Gs g)) (pathT (parG s.Gs) (parG s.Gs g)):=by
     show (pathT (parG s.Gs) (parG s.Gs g)).foldl (lvStep (parG s.Gs)) (lvStep (parG s.Gs) (s,false) g)=_
     unfold lvStep
     simp only [hq]
     rfl
    rw [e]
    obtain ⟨y,hy⟩:=inM_some n1
    have hgl:g<256:=by unfold TSt.n at hg;omega
    have hw2:WQ (lvA s g (parG s.Gs g)) f:=by
     have e2:=leave_x (id:=65536+(g:Int)) (by omega) hy
     refine (hw.lvQ (parG s.Gs g) (65536+(g:Int))).aside fun _=>?_
     rw [e2]
     exact hw.m _ _ (ent_mem hy)
    refine ih (parG s.Gs g) hlt _ hs (Nat.lt_trans hlt hg) (fun p0=>?_) hw2
    have pl:=parG_lt hc.right p0 (Nat.lt_trans hlt hg)
    show inM ((lvA s g (parG s.Gs g)).M (parG s.Gs (parG s.Gs g))) (65536+((parG s.Gs g:Nat):Int))=true
    have hE:∀ k,k≠parG s.Gs g→(lvA s g (parG s.Gs g)).M k=s.M k:=fun k q=>upd_other _ _ q
    rw [hE _ (by omega)]
    have:=h.seat (parG s.Gs g) p0 (by omega) (by omega)
    unfold Seated at this
    rw [this,inM_ne n1];rfl
   | false =>
    have e:Go.Proofs.YtapnaocdehahdaaGreat.lvUp (parG s.Gs) s (g::pathT (parG s.Gs) (parG s.Gs g))=(s,true):=by
     show (pathT (parG s.Gs) (parG s.Gs g)).foldl (lvStep (parG s.Gs)) (lvStep (parG s.Gs) (s,false) g)=_
     have e:lvStep (parG s.Gs) (s,false) g=(s,true):=by
      unfold lvStep
      simp only [hq]
      rfl
     rw [e]
     exact lv_stop _ _ _
    rw [e]
    exact hw
  ·obtain rfl:g=0:=by omega
   rw [pathT_zero]
   exact hw
def wF (T:Int→Option Tsk) (Gs:Grps) (id:Int):Int:=if id<65536 then (match T id with | some t=>t.w | none=>0) else (Gs[(id - 65536).toNat]!).2
theorem wF_spot (T:Int→Option Tsk) (Gs:Grps) (g:Nat):wF T Gs (65536+(g:Int))=(Gs[g]!).2:=by
 unfold wF
 rw [if_neg (by omega),show (65536+(g:Int) - 65536).toNat=g by omega]
theorem wF_task {T:Int→Option Tsk} {Gs:Grps} {id:Int} {t:Tsk} (hi:id≤65535) (h:T id=some t):wF T Gs id=t.w:=by
 unfold wF
 rw [if_pos (by omega),h]
structure SWt (s:SSt):Prop where
 q:∀ k,k<s.C→WQ (s.Q k) (wF s.T s.Gs)
 t:∀ id t,s.T id=some t→t.rdy=false→t.run.2.2=t.w
theorem lv_way1 {s:TSt} {id:Int} {k:Nat} (h:TOk s) (hT:s.T id=some (k:Int)):k<s.n∧TWay (lvT (lvQ s k id) id) k∧(0<k→inM ((lvT (lvQ s k id) id).M (parG s.Gs k)) (65536+(k:Int))=true):=by
 have hc:=h.core
 obtain ⟨k',hkk,hk,hi⟩:=hc.task id _ hT
 obtain rfl:k=k':=by omega
 clear hkk
 have h1:=hc.tid id (by rw [hT];simp)
 have e2:=leave_ent (id:=id) (hc.mok k) (by omega)
 obtain ⟨s1,hs1⟩:∃ s1,s1=lvT (lvQ s k id) id:=⟨_,rfl⟩
 have hG1:s1.Gs=s.Gs:=by rw [hs1];rfl
 have hn1:s1.n=s.n:=by unfold TSt.n;rw [hG1]
 have hM1:∀ j,s1.M j=if j=k then leaveM qN (s.M k) id else s.M j:=fun j=>by
  rw [hs1]
  show upd s.M k _ j=_
  by_cases q:j=k
  ·rw [q,upd_same,if_pos rfl]
  ·rw [upd_other _ _ q,if_neg q]
 have hI1:∀ j i,inM (s1.M j) i=if j=k∧i=id then false else inM (s.M j) i:=fun j i=>by
  rw [hM1]
  by_cases q:j=k
  ·rw [if_pos q]
   unfold inM
   rw [e2]
   by_cases q':i=id
   ·rw [if_pos q',if_pos ⟨q,q'⟩];rfl
   ·rw [if_neg q',if_neg fun z=>q' z.2,q]
  ·rw [if_neg q,if_neg fun z=>q z.1]
 have hT1:∀ i,s1.T i=if i=id then none else s.T i:=fun i=>by
  rw [hs1]
  show setF s.T id none i=_
  by_cases q:i=id
  ·rw [q,if_pos rfl];exact setF_same _ _ _
  ·rw [if_neg q];exact setF_other _ _ q
 have hcore:TCore s1:=by
  refine ⟨by rw [hG1];exact hc.right,by rw [hs1];exact hc.cr,fun j=>?_,fun j hj=>by rw [hs1];exact hc.aok j (by omega),fun j=>?_,fun i hi=>?_,fun i g' hi=>?_,fun j i hi=>?_⟩
  ·rw [hM1]
   by_cases q:j=k
   ·rw [if_pos q];exact leave_out (hc.mok k)
   ·rw [if_neg q];exact hc.mok j
  ·rw [hs1]
   show FlOk (upd s.fl k _ j)
   by_cases q:j=k
   ·rw [q,upd_same];exact leaveF_ok (hc.mok _) (hc.fok _)
   ·rw [upd_other _ _ q];exact hc.fok j
  ·rw [hT1] at hi
   by_cases q:i=id
   ·rw [if_pos q] at hi;exact absurd rfl hi
   ·rw [if_neg q] at hi;exact hc.tid i hi
  ·rw [hT1] at hi
   by_cases q:i=id
   ·rw [if_pos q] at hi;cases hi
   ·rw [if_neg q] at hi
    obtain ⟨j,t1,t2,t3⟩:=hc.task i g' hi
    exact ⟨j,t1,by rw [hn1];exact t2,by rw [hI1,if_neg fun z=>q z.2];exact t3⟩
  ·rw [hI1] at hi
   rw [hT1,hG1,hn1]
   by_cases q:j=k∧i=id
   ·rw [if_pos q] at hi;cases hi
   ·rw [if_neg q] at hi
    rcases hc.ids j i hi with ⟨a,b⟩ | b
    ·refine Or.inl ⟨?_,b⟩
     by_cases q':i=id
     ·rw [q',hT] at a
      simp only [Option.some.injEq,Int.natCast_inj] at a
      exact absurd ⟨a.symm,q'⟩ q
     ·rw [if_neg q'];exact a
    ·exact Or.inr b
 have hway:TWay s1 k:=⟨hcore,fun c c0 hcn q=>by
  unfold Seated
  rw [hG1,hM1 c,if_neg q,hI1,if_neg (by omega)]
  exact h.seat c c0 (by omega)⟩
 rw [← hs1]
 refine ⟨hk,hway,fun k0=>?_⟩
 have pl:=parG_lt hc.right k0 hk
 rw [hI1,if_neg (by omega)]
 have:=h.seat k k0 hk
 unfold Seated at this
 rw [this,inM_ne hi];rfl
theorem wF_set {T:Int→Option Tsk} {Gs:Grps} {id:Int} {t t':Tsk} (hT:T id=some t) (hw:t'.w=t.w):wF (setF T id (some t')) Gs=wF T Gs:=funext fun j=>by
 unfold wF
 by_cases e:j=id
 ·subst e;rw [setF_same,hT];simp only [hw]
 ·rw [setF_other _ _ e]
theorem wF_off {T:Int→Option Tsk} {Gs:Grps} {id j:Int} {t:Option Tsk} (e:j≠id):wF (setF T id t) Gs j=wF T Gs j:=by
 unfold wF;rw [setF_other _ _ e]
section
variable {s:SSt} {id:Int} {t:Tsk}
theorem SOk.nomem (h:SOk s) {k:Nat} (hk:k<s.C) (hid:id≤65535) (hn:(s.Q k).T id=none):∀ g m,m∈(s.Q k).M g→m.1≠id:=fun g m hm e=>by
 have htk:=(h.tree k hk).core
 have hin:inM ((s.Q k).M g) id=true:=by
  unfold inM
  rw [← e,(ent_some (htk.mok g).nod).2 (show (m.1,m.2)∈(s.Q k).M g from hm)];rfl
 rcases htk.ids g id hin with ⟨r,_⟩ | ⟨c,_,_,ce,_⟩
 ·rw [hn] at r;cases r
 ·omega
theorem SWt.put (h:SOk s) (hw:SWt s) (hi:1≤id∧id≤65535) (hT:s.T id=none) (ht:t.run.2.2=t.w):SWt (newS s id t) where
 q:=fun k hk=>by
  have hn:(s.Q k).T id=none:=by
   cases e:(s.Q k).T id with
   | none=>rfl
   | some g=>obtain ⟨t',q,_⟩:=(h.qt k hk id g).1 e;rw [hT] at q;cases q
  refine (hw.q k hk).congr (fun g m hm=>?_) fun g h0 hg=>?_
  ·exact (wF_off (h.nomem hk hi.2 hn g m hm)).symm
  ·exact (wF_off (by omega)).symm
 t:=fun j t2 hj hr=>by
  replace hj:setF s.T id (some t) j=some t2:=hj
  by_cases e:j=id
  ·subst e;rw [setF_same] at hj;cases hj;exact ht
  ·rw [setF_other _ _ e] at hj;exact hw.t j t2 hj hr
theorem SWt.del (h:SOk s) (hw:SWt s) (hT:s.T id=some t) (hr:t.rdy=false):SWt (goneS s id) where
 q:=fun k hk=>by
  have hi:=(h.task id t hT).1
  refine (hw.q k hk).congr (fun g m hm=>?_) fun g h0 hg=>?_
  ·exact (wF_off (h.nomem hk hi.2 (h.qnone hT hr hk) g m hm)).symm
  ·exact (wF_off (by omega)).symm
 t:=fun j t2 hj hr=>by
  replace hj:setF s.T id none j=some t2:=hj
  by_cases e:j=id
  ·subst e;rw [setF_same] at hj;cases hj
  ·rw [setF_other _ _ e] at hj;exact hw.t j t2 hj hr
theorem SWt.tsk {t':Tsk} (h:SOk s) (hw:SWt s) (hT:s.T id=some t) (hr:t.rdy=false) (ht:t'.run.2.2=t'.w):SWt (tskS s id t') where
 q:=fun k hk=>by
  have hi:=(h.task id t hT).1
  refine (hw.q k hk).congr (fun g m hm=>?_) fun g h0 hg=>?_
  ·exact (wF_off (h.nomem hk hi.2 (h.qnone hT hr hk) g m hm)).symm
  ·exact (wF_off (by omega)).symm
 t:=fun j t2 hj hr=>by
  replace hj:setF s.T id (some t') j=some t2:=hj
  by_cases e:j=id
  ·subst e;rw [setF_same] at hj;cases hj;exact ht
  ·rw [setF_other _ _ e] at hj;exact hw.t j t2 hj hr
theorem SWt.ent (h:SOk s) (hw:SWt s) (hT:s.T id=some t) (hr:t.rdy=false):SWt (entS s id t) where
 q:=fun k hk=>by
  have hi:=(h.task id t hT).1
  have ht:=(h.task id t hT).2
  show WQ (upd s.Q t.cpu (enTo (s.Q t.cpu) t.g id t.run) k) (wF (setF s.T id (some { t with rdy:=true })) s.Gs)
  rw [wF_set (t':={ t with rdy:=true }) hT rfl]
  by_cases e:k=t.cpu
  ·subst e
   rw [upd_same]
   have h1:WQ (enQ (s.Q t.cpu) t.g id t.run) (wF s.T s.Gs):=(hw.q t.cpu hk).enQ ((hw.t id t hT hr).trans (wF_task hi.2 hT).symm)
   have h2:WQ (enT (enQ (s.Q t.cpu) t.g id t.run) t.g id) (wF s.T s.Gs):=⟨h1.m,h1.a⟩
   refine WQ.enUp _ _ _ h2 fun o ho=>?_
   have hp:=pathT_mem t.g ho
   have hn:o<(s.Q t.cpu).n:=by rw [h.qn hk];have:=ht.g;omega
   exact ⟨hp.1,hn,(h.tree t.cpu hk).core.aok o hn⟩
  ·rw [upd_other _ _ e];exact hw.q k hk
 t:=fun j t2 hj hr2=>by
  replace hj:setF s.T id (some { t with rdy:=true }) j=some t2:=hj
  by_cases e:j=id
  ·subst e;rw [setF_same] at hj;cases hj;cases hr2
  ·rw [setF_other _ _ e] at hj;exact hw.t j t2 hj hr2
theorem SWt.lv (h:SOk s) (hw:SWt s) (hT:s.T id=some t) (hr:t.rdy=true):SWt (lvS s id t):=by
 have hi:=(h.task id t hT).1
 have ht:=(h.task id t hT).2
 have hq:=h.qsome hT hr
 obtain ⟨k',hkk,hkn,hin⟩:=(h.tree t.cpu ht.cpu).core.task id _ hq
 obtain rfl:t.g=k':=by omega
 obtain ⟨y,hy⟩:=inM_some hin
 have hyw:y.2.2=t.w:=((hw.q t.cpu ht.cpu).m t.g _ (ent_mem hy)).trans (wF_task hi.2 hT)
 refine ⟨fun k hk=>?_,fun j t2 hj hr2=>?_⟩
 ·show WQ (upd s.Q t.cpu (lvTo (s.Q t.cpu) t.g id) k) (wF (setF s.T id (some { t with rdy:=false,run:=leaveE qN ((s.Q t.cpu).M t.g) id })) s.Gs)
  rw [wF_set (t':={ t with rdy:=false,run:=leaveE qN ((s.Q t.cpu).M t.g) id }) hT rfl]
  by_cases e:k=t.cpu
  ·subst e
   rw [upd_same]
   obtain ⟨l1,l2,l3⟩:=lv_way1 (h.tree t.cpu hk) hq
   have h1:WQ (lvQ (s.Q t.cpu) t.g id) (wF s.T s.Gs):=(hw.q t.cpu hk).lvQ t.g id
   have h2:WQ (lvT (lvQ (s.Q t.cpu) t.g id) id) (wF s.T s.Gs):=⟨h1.m,h1.a⟩
   exact WQ.lvUp t.g _ l2 l1 l3 h2
  ·rw [upd_other _ _ e];exact hw.q k hk
 ·replace hj:setF s.T id (some { t with rdy:=false,run:=leaveE qN ((s.Q t.cpu).M t.g) id }) j=some t2:=hj
  by_cases e:j=id
  ·subst e;rw [setF_same] at hj;cases hj
   show (leaveE qN ((s.Q t.cpu).M t.g) j).2.2=t.w
   rw [leave_x (by omega) hy,hyw]
  ·rw [setF_other _ _ e] at hj;exact hw.t j t2 hj hr2
theorem SWt.tick (h:SOk s) (hw:SWt s) (k:Nat) (tk:Int) (g:Nat):SWt (tkS s k tk id g) where
 q:=fun j hj=>by
  show WQ (upd s.Q k (chTo tk (s.Q k) g id) j) (wF s.T s.Gs)
  by_cases e:j=k
  ·subst e
   rw [upd_same]
   exact WQ.chgUp _ _ _ _ ((hw.q j hj).chg fun y=>rfl)
  ·rw [upd_other _ _ e];exact hw.q j hj
 t:=hw.t
theorem SWt.weigh {w:Int} (h:SOk s) (hw:SWt s) (hT:s.T id=some t) (hr:t.rdy=true) (hk:wgOk w):SWt (rwS s id t w):=by
 have hi:=(h.task id t hT).1
 have ht:=(h.task id t hT).2
 have hq:=h.qsome hT hr
 have hf:∀ j,wF (setF s.T id (some { t with w:=w })) s.Gs j=if j=id then w else wF s.T s.Gs j:=fun j=>by
  by_cases e:j=id
  ·subst e;rw [if_pos rfl];unfold wF;rw [if_pos (by omega),setF_same]
  ·rw [if_neg e,wF_off e]
 -- where the task is a member
 have hmem:∀ k,k<s.C→∀ g m,m∈(s.Q k).M g→m.1=id→k=t.cpu∧g=t.g:=fun k hk g m hm e=>by
  have htk:=(h.tree k hk).core
  have hin:inM ((s.Q k).M g) id=true:=by
   unfold inM
   rw [← e,(ent_some (htk.mok g).nod).2 (show (m.1,m.2)∈(s.Q k).M g from hm)];rfl
  rcases htk.ids g id hin with ⟨r,_⟩ | ⟨c,_,_,ce,_⟩
  ·obtain ⟨t2,q1,q2,q3,q4⟩:=(h.qt k hk id _).1 r
   rw [hT] at q1;cases q1
   exact ⟨q3.symm,by omega⟩
  ·omega
 refine ⟨fun k hkC=>?_,fun j t2 hj hr2=>?_⟩
 ·show WQ (upd s.Q t.cpu (wgQ w (s.Q t.cpu) t.g id) k) (wF (setF s.T id (some { t with w:=w })) s.Gs)
  have ha:∀ g:Nat,0<g→g<(s.Q k).n→((s.Q k).A g).2.2=wF (setF s.T id (some { t with w:=w })) s.Gs (65536+(g:Int)):=fun g h0 hg=>by
   rw [hf,if_neg (by omega)];exact (hw.q k hkC).a g h0 hg
  by_cases e:k=t.cpu
  ·subst e
   rw [upd_same]
   refine ⟨fun g m hm=>?_,ha⟩
   replace hm:m∈upd (s.Q t.cpu).M t.g (chS (decide (wgOk w)) qN ((s.Q t.cpu).M t.g) id (wghX w)) g:=hm
   rw [hf]
   by_cases eg:g=t.g
   ·subst eg
    rw [upd_same,decide_eq_true hk] at hm
    obtain ⟨y,hy⟩:=inM_some (by
     obtain ⟨k',e1,_,e3⟩:=(h.tree t.cpu hkC).core.task id _ hq
     obtain rfl:t.g=k':=by omega
     exact e3)
    have hnod:=((h.tree t.cpu hkC).core.mok t.g).nod
    have hcc:chC true qN ((s.Q t.cpu).M t.g) id=0:=by
     unfold chC
     rw [if_pos (by unfold hasV;simp [qN];omega),hy];rfl
    have hm2:m∈putM (outM ((s.Q t.cpu).M t.g) id) (id,wghX w y):=by
     unfold chS at hm
     rw [if_pos hcc,hy] at hm
     exact hm
    rcases put_mem.1 hm2 with q | q
    ·rw [q,if_pos rfl];rfl
    ·have:=out_mem.1 q
     rw [if_neg this.2]
     exact (hw.q t.cpu hkC).m t.g m this.1
   ·rw [upd_other _ _ eg] at hm
    rw [if_neg (fun q=>eg (hmem t.cpu hkC g m hm q).2)]
    exact (hw.q t.cpu hkC).m g m hm
  ·rw [upd_other _ _ e]
   refine ⟨fun g m hm=>?_,ha⟩
   rw [hf,if_neg (fun q=>e (hmem k hkC g m hm q).1)]
   exact (hw.q k hkC).m g m hm
 ·replace hj:setF s.T id (some { t with w:=w }) j=some t2:=hj
  by_cases e:j=id
  ·subst e;rw [setF_same] at hj;cases hj;rw [hr] at hr2;cases hr2
  ·rw [setF_other _ _ e] at hj;exact hw.t j t2 hj hr2
theorem SWt.regroup {g:Nat} {w:Int} (h:SOk s) (hw:SWt s) (hg:g<s.n) (h0:0<g) (hk:wgOk w):SWt (rgS s g w):=by
 have hf:∀ j,wF s.T (setW s.Gs g w) j=if j=65536+(g:Int) then w else wF s.T s.Gs j:=fun j=>by
  by_cases e:j=65536+(g:Int)
  ·rw [if_pos e,e,wF_spot,setW_same hg]
  ·rw [if_neg e]
   unfold wF
   by_cases q:j<65536
   ·rw [if_pos q,if_pos q]
   ·rw [if_neg q,if_neg q,setW_other (by omega)]
 refine ⟨fun k hkC=>?_,hw.t⟩
 replace hkC:k<s.C:=hkC
 have htk:=h.tree k hkC
 have hgn:g<(s.Q k).n:=by rw [h.qn hkC];exact hg
 have hc:pregC (s.Q k) (g:Int) w=0:=by
  unfold pregC
  have h1:hasV ((s.Q k).n:Int) (g:Int)=true:=by unfold hasV;simp;omega
  rw [if_pos ⟨h1,by omega⟩,if_pos ⟨by rw [Int.toNat_natCast];exact htk.core.aok g hgn,hk⟩]
 have eQ:(rgS s g w).Q k=wgQ w { s.Q k with A:=upd (s.Q k).A g (wghX w ((s.Q k).A g)),Gs:=setW (s.Q k).Gs g w } (parG (s.Q k).Gs g) (65536+(g:Int)):=by
  show (if k<s.C then rgQ g w (s.Q k) else s.Q k)=_
  rw [if_pos hkC]
  unfold rgQ pregS
  rw [if_pos hc,Int.toNat_natCast]
 rw [eQ]
 show WQ _ (wF s.T (setW s.Gs g w))
 -- the spot is a member of its parent's queue alone
 have hmem:∀ j m,m∈(s.Q k).M j→m.1=65536+(g:Int)→j=parG (s.Q k).Gs g:=fun j m hm e=>by
  have hin:inM ((s.Q k).M j) (65536+(g:Int))=true:=by
   unfold inM
   rw [← e,(ent_some (htk.core.mok j).nod).2 (show (m.1,m.2)∈(s.Q k).M j from hm)];rfl
  rcases htk.core.ids j _ hin with ⟨_,r⟩ | ⟨c,_,_,ce,cp⟩
  ·omega
  ·obtain rfl:c=g:=by omega
   exact cp.symm
 refine ⟨fun j m hm=>?_,fun j h0 hj=>?_⟩
 ·replace hm:m∈upd (s.Q k).M (parG (s.Q k).Gs g) (chS (decide (wgOk w)) qN ((s.Q k).M (parG (s.Q k).Gs g)) (65536+(g:Int)) (wghX w)) j:=hm
  rw [hf]
  by_cases e:j=parG (s.Q k).Gs g
  ·subst e
   rw [upd_same,decide_eq_true hk] at hm
   by_cases em:m.1=65536+(g:Int)
   ·rw [if_pos em]
    unfold chS at hm
    split at hm
    ·rcases put_mem.1 hm with q | q
     ·rw [q];rfl
     ·exact absurd em (out_mem.1 q).2
    ·rename_i hcc
     exfalso
     apply hcc
     unfold chC
     rw [if_pos (by unfold hasV;have:=h.right.le;unfold SSt.n at hg;simp [qN];omega),if_pos rfl]
     have:=(ent_some (htk.core.mok _).nod).2 (show (m.1,m.2)∈(s.Q k).M (parG (s.Q k).Gs g) from hm)
     rw [em] at this
     rw [this];rfl
   ·rw [if_neg em]
    rcases chs_mem hm with q | ⟨y,_,q⟩
    ·exact (hw.q k hkC).m _ m q
    ·rw [q] at em;exact absurd rfl em
  ·rw [upd_other _ _ e] at hm
   rw [if_neg (fun q=>e (hmem j m hm q))]
   exact (hw.q k hkC).m j m hm
 ·show (upd (s.Q k).A g (wghX w ((s.Q k).A g)) j).2.2=_
  rw [hf]
  by_cases e:j=g
  ·subst e;rw [upd_same,if_pos rfl];rfl
  ·rw [upd_other _ _ e,if_neg (by omega)]
   exact (hw.q k hkC).a j h0 (by
    have:j<(setW (s.Q k).Gs g w).length:=hj
    rw [setW_len] at this
    exact this)
end
theorem moved_w {x:Ent} {fr th:Int} (hx:EntOk x):(movedX x fr th).2.2=x.2.2:=by
 unfold movedX
 rw [if_pos hx]
section
variable {s:SSt} {id:Int} {t:Tsk}
theorem SWt.work (hw:SWt s) (v:Int):SWt { s with wk:=v }:=⟨hw.q,hw.t⟩
theorem SWt.move {j:Nat} (h:SOk s) (hw:SWt s) (hT:s.T id=some t) (hj:j<s.C) (hc:t.rdy=true→s.cu t.cpu≠id):SWt (mvS s id t j):=by
 have i:=(h.task id t hT).2
 unfold mvS
 cases hr:t.rdy with
 | true =>
  have h1:=h.leave hT hr (hc hr)
  have w1:=hw.lv h hT hr
  have e1:(lvS s id t).T id=some (offT s id t):=setF_same _ _ _
  have h2:=h1.moved (j:=j) e1 rfl hj (h.fl i.cpu i.g) (h.fl hj i.g)
  have w2:SWt (tskS (lvS s id t) id (mvT (offT s id t) ((s.Q t.cpu).fl t.g) ((s.Q j).fl t.g) j)):=w1.tsk h1 e1 rfl ((moved_w ((h1.task id _ e1).2.run)).trans (w1.t id _ e1 rfl))
  exact w2.ent h2 (setF_same _ _ _) rfl
 | false =>
  rw [if_neg (by simp)]
  exact hw.tsk h hT hr ((moved_w i.run).trans (hw.t id t hT hr))
theorem SWt.stop (h:SOk s) (hw:SWt s) {k:Nat} (hk:k<s.C):SWt (stopS s k):=by
 unfold stopS
 split
 ·rename_i t hT
  by_cases h0:s.cu k=0
  ·rw [h0,h.zero] at hT;cases hT
  ·obtain ⟨t',hT',hr,hc⟩:=h.who hk h0
   rw [hT] at hT'
   cases hT'
   exact SWt.lv (s:={ s with cu:=upd s.cu k 0 }) (h.now (Or.inl rfl)) ⟨hw.q,hw.t⟩ hT hr
 ·exact hw
theorem SWt.exit (h:SOk s) (hw:SWt s) {k:Nat} (hk:k<s.C):SWt (exitS s k):=by
 unfold exitS
 split
 ·exact hw
 ·rename_i h0
  have h1:=h.stop hk
  have w1:=hw.stop h hk
  obtain ⟨t,hT,hr,hc⟩:=h.who hk h0
  have e:stopS s k=lvS { s with cu:=upd s.cu k 0 } (s.cu k) t:=by unfold stopS;rw [hT]
  rw [e] at h1 w1 ⊢
  exact w1.del h1 (setF_same _ _ _) rfl
theorem SWt.op (h:SOk s) (hw:SWt s) {o:OpV} (hwf:o.Wf):SWt (opR s o).2.2:=by
 by_cases e1:o.kind=1
 ·rw [opR_1 e1]
  by_cases q0:hasV (s.C:Int) o.cpu=true
  ·rw [if_pos q0];dsimp only
   have hk:=(has_nat q0).1
   unfold spS
   split
   ·rename_i hc
    obtain ⟨b1,b2,b3,b4,b5⟩:=h.born hk hwf hc
    have w1:SWt (newS s o.task (bornT s o.cpu.toNat o.group.toNat o)):=hw.put h (nameV_iff.1 b2) b5 rfl
    exact w1.ent b1 (setF_same _ _ _) rfl
   ·exact hw
  ·rw [if_neg q0];exact hw
 by_cases e2:o.kind=2
 ·rw [opR_2 e2]
  by_cases q0:nameV o.task=true
  ·rw [if_pos q0];dsimp only
   unfold awS
   split
   ·exact hw
   ·rename_i t hT
    cases hr:t.rdy with
    | true=>exact hw
    | false =>
     have w1:SWt (tskS s o.task (wokeT s t)):=hw.tsk h hT hr ((woken_w (h.task _ t hT).2.run).trans (hw.t _ t hT hr))
     exact w1.ent (h.woken hT hr) (setF_same _ _ _) hr
  ·rw [if_neg q0];exact hw
 by_cases e3:o.kind=3
 ·rw [opR_3 e3]
  by_cases q0:hasV (s.C:Int) o.cpu=true
  ·rw [if_pos q0];dsimp only
   exact hw.stop h (has_nat q0).1
  ·rw [if_neg q0];exact hw
 by_cases e4:o.kind=4
 ·rw [opR_4 e4]
  by_cases q0:hasV (s.C:Int) o.cpu=true
  ·rw [if_pos q0];dsimp only
   exact hw.exit h (has_nat q0).1
  ·rw [if_neg q0];exact hw
 by_cases e5:o.kind=5
 ·rw [opR_5 e5]
  by_cases q0:hasV (s.C:Int) o.cpu=true
  ·rw [if_pos q0];dsimp only
   have hk:=(has_nat q0).1
   unfold tickS
   split
   ·rename_i hc
    have ht:1≤o.ticks∧o.ticks≤4294967295:=by
     unfold tickC at hc
     split at hc
     ·assumption
     ·exact absurd hc (by decide)
    have hl:¬ s.cl o.cpu.toNat > 281474976710656 - o.ticks:=by
     unfold tickC at hc
     rw [if_pos ht] at hc
     split at hc
     ·exact absurd hc (by decide)
     ·assumption
    have hb:=h.cl _ hk
    have h1:SOk { s with cl:=upd s.cl o.cpu.toNat (s.cl o.cpu.toNat+o.ticks) }:=h.clock ⟨by omega,by omega⟩
    split
    ·exact SWt.tick h1 ⟨hw.q,hw.t⟩ _ _ _
    ·exact ⟨hw.q,hw.t⟩
   ·exact hw
  ·rw [if_neg q0];exact hw
 by_cases e6:o.kind=6
 ·rw [opR_6 e6]
  by_cases q0:hasV (s.C:Int) o.cpu=true
  ·rw [if_pos q0];dsimp only
   exact (⟨hw.q,hw.t⟩:SWt (pickS s o.cpu.toNat))
  ·rw [if_neg q0];exact hw
 by_cases e7:o.kind=7
 ·rw [opR_7 e7]
  by_cases q0:nameV o.task=true
  ·rw [if_pos q0];dsimp only
   unfold reS
   split
   ·rename_i hk
    split
    ·exact hw
    ·rename_i t hT
     cases hr:t.rdy with
     | true=>exact hw.weigh h hT hr hk
     | false=>exact hw.tsk h hT hr rfl
   ·exact hw
  ·rw [if_neg q0];exact hw
 by_cases e8:o.kind=8
 ·rw [opR_8 e8]
  dsimp only
  unfold rgT
  split
  ·rename_i hc
   unfold rgC at hc
   split at hc
   ·rename_i h1
    split at hc
    ·rename_i h2
     exact (SWt.regroup (g:=o.group.toNat) (w:=o.weight) h hw (by omega) (by omega) h2).work _
    ·exact absurd hc (by decide)
   ·exact absurd hc (by decide)
  ·exact hw
 by_cases e9:o.kind=9
 ·rw [opR_9 e9]
  dsimp only
  unfold mgS
  split
  ·rename_i hc
   split
   ·exact hw
   ·rename_i t hT
    exact hw.move h hT (mg_ok hT hc).1 fun _=>(mg_ok hT hc).2
  ·exact hw
 by_cases e10:o.kind=10
 ·rw [opR_10 e10]
  by_cases q0:hasV (s.C:Int) o.cpu=true
  ·rw [if_pos q0];dsimp only
   unfold balS
   split
   ·exact hw
   ·rename_i hb
    obtain ⟨t,hT,hr,hf,hcu⟩:=balB_is h hb
    rw [hT]
    exact SWt.move (s:={ s with wk:=(seenI s (fromI s o.cpu.toNat):Nat) }) (h.work _) (hw.work _) hT (has_nat q0).1 fun _=>hcu
  ·rw [if_neg q0];exact hw
 rw [opR_0 (by omega)];exact hw
theorem SWt.done (h:SOk s) (hw:SWt s) {o:OpV} (hwf:o.Wf):SWt (doR s o).2.2:=SWt.op (h.work 0) (hw.work 0) hwf
end
theorem SWt.begun {Gs:Grps} {C:Nat} {cr:Int}:SWt (firstS Gs C cr) where
 q:=fun k hk=>⟨fun g m hm=>(by cases hm),fun g h0 hg=>(wF_spot _ _ g).symm⟩
 t:=fun id t q=>by cases q
end Go.Proofs.YtapnaocdehahdaaGreat
