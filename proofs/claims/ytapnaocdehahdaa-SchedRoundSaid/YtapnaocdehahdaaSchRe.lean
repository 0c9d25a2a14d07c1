/-
  Layer 31 (sched), in plain words: SchedRound's calls.
-/
import Derived.Test.YtapnaocdehahdaaSchRd
namespace Go.Proofs.Ytapnaocdehahdaa
open Go.RowKit Go.Maps Go.IntWalk Go.Lib
set_option linter.unusedVariables false
set_option linter.unusedSimpArgs false
theorem fl_next {M M':Mems} {fl:Int} (h:MemsOk M) (h':MemsOk M') (hf:M.isEmpty=false→fl=firstV M) (hx:∀ j y,entM M' j=some y→fl≤y.1∨∃ z,entM M j=some z∧z.1≤y.1) (hne:M'.isEmpty=false):riseF (itemsM M') fl=firstV M':=by
 rw [rise_first fl hne]
 obtain ⟨y,hy,ey⟩:=first_ent h'.nod hne
 rcases hx _ _ hy with q | ⟨z,hz,q⟩
 ·omega
 ·have hm:=(ent_some h.nod).1 hz
  have hn:M.isEmpty=false:=by cases M with
   | nil=>cases hm
   | cons a r=>rfl
  have:=head_le h.ord hm
  have:=hf hn
  omega
section
variable {s:SSt} {g:Nat} {wt:Int} {E:Int→Option Ent} {m:Nat}
theorem Rd.work (h:Rd s g wt E m) (v:Int):Rd { s with wk:=v } g wt E m:={ h with ok:=h.ok.work v }
theorem Rd.cpu (h:Rd s g wt E m) {id:Int} {t:Tsk} (hT:s.T id=some t):t.cpu=0:=by
 have:=(h.ok.task id t hT).2.cpu
 rw [h.C] at this;omega
theorem Rd.sleep {T':Int→Option Tsk} {c':Nat} (h:Rd s g wt E m) (ho:SOk { s with T:=T',c:=c' }) (hT:∀ id t,T' id=some t→t.g=g∧t.w=wt):Rd { s with T:=T',c:=c' } g wt E m:=
 { h with ok:=ho,T:=hT }
theorem Rd.ent (h:Rd s g wt E m) {id:Int} {t:Tsk} (hT:s.T id=some t) (hr:t.rdy=false) (hf:(s.Q 0).fl g≤t.run.1):Rd (entS s id t) g wt (setF E id (some t.run)) m:=by
 obtain ⟨hi,ht⟩:=h.ok.task id t hT
 have hc:=h.cpu hT
 have hg:=(h.T id t hT).1
 have hE:E id=none:=Decidable.byContradiction fun q=>by
  obtain ⟨t',q1,q2⟩:=(h.ready id).1 q
  rw [hT] at q1;cases q1;rw [hr] at q2;cases q2
 have hn:entM ((s.Q 0).M g) id=none:=(h.M id).trans hE
 have hgs:=h.ok.gs 0 h.k0
 have hp:∀ o∈pathT (parG (s.Q 0).Gs) t.g,parG (s.Q 0).Gs o≠g:=by
  rw [hgs,hg];exact fun o ho=>(path_two h.par h.gl o ho).1
 obtain ⟨u1,u2⟩:=enUp_M (pathT (parG (s.Q 0).Gs) t.g) (enT (enQ (s.Q 0) t.g id t.run) t.g id,((s.Q 0).M t.g).isEmpty) hp
 have e1:((entS s id t).Q 0).M g=enterM qN ((s.Q 0).M g) id t.run:=by
  show (upd s.Q t.cpu (enTo (s.Q t.cpu) t.g id t.run) 0).M g=_
  rw [hc,upd_same]
  refine u1.trans ?_
  show upd (s.Q 0).M t.g _ g=_
  rw [hg,upd_same]
 have e2:((entS s id t).Q 0).fl g=enterF qN ((s.Q 0).M g) id t.run ((s.Q 0).fl g):=by
  show (upd s.Q t.cpu (enTo (s.Q t.cpu) t.g id t.run) 0).fl g=_
  rw [hc,upd_same]
  refine u2.trans ?_
  show upd (s.Q 0).fl t.g _ g=_
  rw [hg,upd_same]
 have hi2:0≤id∧id<65792:=by omega
 have e3:=enter_yes hi2 ht.run hn
 have ho':MemsOk (putM ((s.Q 0).M g) (id,t.run)):=h.ord.put hn ht.run
 have hin:=(enter_in h.ord.mok hi2 ht.run hn).2
 exact {
  ok:=h.ok.enter hT hr
  C:=h.C,n:=h.n,cr:=h.cr,par:=h.par,gl:=h.gl,cl:=h.cl
  T:=fun j t2 hj=>by
   replace hj:setF s.T id (some { t with rdy:=true }) j=some t2:=hj
   by_cases e:j=id
   ·subst e;rw [setF_same] at hj;cases hj;exact h.T j t hT
   ·rw [setF_other _ _ e] at hj;exact h.T j t2 hj
  M:=fun j=>by
   rw [e1,hin j]
   by_cases e:j=id
   ·subst e;rw [if_pos rfl,setF_same]
   ·rw [if_neg e,setF_other _ _ e,h.M]
  ord:=by rw [e1,e3];exact ho'
  lo:=fun j hj=>by
   by_cases e:j=id
   ·subst e;exact hi
   ·rw [setF_other _ _ e] at hj;exact h.lo j hj
  fl:=fun hne=>by
   rw [e1,e3] at hne
   rw [e1,e2,e3]
   unfold enterF
   rw [if_pos (by unfold enterC;rw [if_pos (by unfold hasV;simp;omega),if_pos ht.run,hn];rfl)]
   refine fl_next h.ord ho' h.fl (fun j y hj=>?_) hne
   rw [← e3,hin j] at hj
   by_cases e:j=id
   ·rw [if_pos e] at hj;cases hj;exact Or.inl hf
   ·rw [if_neg e] at hj;exact Or.inr ⟨y,hj,Int.le_refl _⟩ }
theorem Rd.lv (h:Rd s g wt E m) {id:Int} {t:Tsk} (hT:s.T id=some t) (hr:t.rdy=true) (hcu:s.cu 0≠id):Rd (lvS s id t) g wt (setF E id none) m∧∃ y,E id=some y∧(lvS s id t).T id=some { t with rdy:=false,run:=y }:=by
 obtain ⟨hi,ht⟩:=h.ok.task id t hT
 have hc:=h.cpu hT
 have hg:=(h.T id t hT).1
 obtain ⟨y,hE⟩:∃ y,E id=some y:=by
  have:=(h.ready id).2 ⟨t,hT,hr⟩
  cases e:E id with
  | none=>exact absurd e this
  | some y=>exact ⟨y,rfl⟩
 have hn:entM ((s.Q 0).M g) id=some y:=(h.M id).trans hE
 have hgs:=h.ok.gs 0 h.k0
 have hp:∀ o∈pathT (parG (s.Q 0).Gs) t.g,parG (s.Q 0).Gs o≠g:=by
  rw [hgs,hg];exact fun o ho=>(path_two h.par h.gl o ho).1
 obtain ⟨u1,u2⟩:=lvUp_M (pathT (parG (s.Q 0).Gs) t.g) (lvT (lvQ (s.Q 0) t.g id) id,false) hp
 have e1:((lvS s id t).Q 0).M g=leaveM qN ((s.Q 0).M g) id:=by
  show (upd s.Q t.cpu (lvTo (s.Q t.cpu) t.g id) 0).M g=_
  rw [hc,upd_same]
  refine u1.trans ?_
  show upd (s.Q 0).M t.g _ g=_
  rw [hg,upd_same]
 have e2:((lvS s id t).Q 0).fl g=leaveF qN ((s.Q 0).M g) id ((s.Q 0).fl g):=by
  show (upd s.Q t.cpu (lvTo (s.Q t.cpu) t.g id) 0).fl g=_
  rw [hc,upd_same]
  refine u2.trans ?_
  show upd (s.Q 0).fl t.g _ g=_
  rw [hg,upd_same]
 have hi2:0≤id∧id<65792:=by omega
 have hlc:leaveC qN ((s.Q 0).M g) id=0:=by
  unfold leaveC
  rw [if_pos (by unfold hasV;simp;omega),hn];rfl
 have e3:leaveM qN ((s.Q 0).M g) id=outM ((s.Q 0).M g) id:=by unfold leaveM;rw [if_pos hlc]
 have ho':MemsOk (outM ((s.Q 0).M g) id):=h.ord.out id
 refine ⟨{
  ok:=h.ok.leave hT hr (by rw [hc];exact hcu)
  C:=h.C,n:=h.n,cr:=h.cr,par:=h.par,gl:=h.gl,cl:=h.cl
  T:=fun j t2 hj=>by
   replace hj:setF s.T id _ j=some t2:=hj
   by_cases e:j=id
   ·subst e;rw [setF_same] at hj;cases hj;exact h.T j t hT
   ·rw [setF_other _ _ e] at hj;exact h.T j t2 hj
  M:=fun j=>by
   rw [e1,leave_ent h.ord.mok hi2 j]
   by_cases e:j=id
   ·subst e;rw [if_pos rfl,setF_same]
   ·rw [if_neg e,setF_other _ _ e,h.M]
  ord:=by rw [e1,e3];exact ho'
  lo:=fun j hj=>by
   by_cases e:j=id
   ·subst e;rw [setF_same] at hj;exact absurd rfl hj
   ·rw [setF_other _ _ e] at hj;exact h.lo j hj
  fl:=fun hne=>by
   rw [e1,e3] at hne
   rw [e1,e2,e3]
   unfold leaveF
   rw [if_pos hlc]
   refine fl_next h.ord ho' h.fl (fun j z hj=>?_) hne
   rw [← e3,leave_ent h.ord.mok hi2 j] at hj
   by_cases e:j=id
   ·rw [if_pos e] at hj;cases hj
   ·rw [if_neg e] at hj;exact Or.inr ⟨z,hj,Int.le_refl _⟩ },y,hE,?_⟩
 show setF s.T id (some { t with rdy:=false,run:=leaveE qN ((s.Q t.cpu).M t.g) id }) id=_
 rw [setF_same,hc,hg,leave_x hi2 hn]
theorem Rd.tk (h:Rd s g wt E m) {id:Int} {t:Tsk} {d:Int} (hT:s.T id=some t) (hr:t.rdy=true) {y:Ent} (hE:E id=some y) (hd:1≤d∧d≤1048576):Rd (tkS s 0 d id t.g) g wt (setF E id (some (chgX d y))) m:=by
 obtain ⟨hi,ht⟩:=h.ok.task id t hT
 have hc:=h.cpu hT
 have hg:=(h.T id t hT).1
 have hn:entM ((s.Q 0).M g) id=some y:=(h.M id).trans hE
 have hok:=h.ord.mok.ent hn
 have hgs:=h.ok.gs 0 h.k0
 have htk:tkOk d:=⟨by omega,by omega⟩
 have hp:∀ o∈pathT (parG (s.Q 0).Gs) t.g,parG (s.Q 0).Gs o≠g:=by
  rw [hgs,hg];exact fun o ho=>(path_two h.par h.gl o ho).1
 obtain ⟨u1,u2⟩:=chgUp_M (tk:=d) (pathT (parG (s.Q 0).Gs) t.g) (chgQ d (s.Q 0) t.g id) hp
 have hi2:0≤id∧id<65792:=by omega
 have hcc:chC true qN ((s.Q 0).M g) id=0:=by
  unfold chC
  rw [if_pos (by unfold hasV;simp;omega),hn];rfl
 have e1:((tkS s 0 d id t.g).Q 0).M g=chS true qN ((s.Q 0).M g) id (chgX d):=by
  show (upd s.Q 0 (chTo d (s.Q 0) t.g id) 0).M g=_
  rw [upd_same]
  refine u1.trans ?_
  show upd (s.Q 0).M t.g (chS (decide (tkOk d)) _ _ _ _) g=_
  rw [hg,upd_same,decide_eq_true htk]
 have e2:((tkS s 0 d id t.g).Q 0).fl g=chF true qN ((s.Q 0).M g) id (chgX d) ((s.Q 0).fl g):=by
  show (upd s.Q 0 (chTo d (s.Q 0) t.g id) 0).fl g=_
  rw [upd_same]
  refine u2.trans ?_
  show upd (s.Q 0).fl t.g (chF (decide (tkOk d)) _ _ _ _ _) g=_
  rw [hg,upd_same,decide_eq_true htk]
 have e3:chS true qN ((s.Q 0).M g) id (chgX d)=putM (outM ((s.Q 0).M g) id) (id,chgX d y):=by unfold chS;rw [if_pos hcc,hn];rfl
 have ho':MemsOk (putM (outM ((s.Q 0).M g) id) (id,chgX d y)):=(h.ord.out id).put (by rw [ent_out h.ord.nod,if_pos rfl]) (chg_ok hd.1 hok)
 have hent:∀ j,entM (chS true qN ((s.Q 0).M g) id (chgX d)) j=setF E id (some (chgX d y)) j:=fun j=>by
  rw [ch_is hi2 h.ord.mok j]
  by_cases e:j=id
  ·subst e;rw [if_pos ⟨rfl,rfl⟩,setF_same,hn];rfl
  ·rw [if_neg (fun q=>e q.2),setF_other _ _ e,h.M]
 have hok2:SOk (tkS s 0 d id t.g):=by have:=h.ok.tick hT hr htk;rw [hc] at this;exact this
 exact {
  ok:=hok2
  C:=h.C,n:=h.n,cr:=h.cr,par:=h.par,gl:=h.gl,cl:=h.cl,T:=h.T
  M:=fun j=>by rw [e1,hent]
  ord:=by rw [e1,e3];exact ho'
  lo:=fun j hj=>by
   by_cases e:j=id
   ·subst e;exact hi
   ·rw [setF_other _ _ e] at hj;exact h.lo j hj
  fl:=fun hne=>by
   rw [e1,e3] at hne
   rw [e1,e2,e3]
   unfold chF
   rw [if_pos hcc,hn]
   refine fl_next h.ord ho' h.fl (fun j z hj=>?_) hne
   replace hj:entM (putM (outM ((s.Q 0).M g) id) (id,chgX d y)) j=some z:=hj
   rw [← e3,hent j] at hj
   by_cases e:j=id
   ·subst e;rw [setF_same] at hj;cases hj
    exact Or.inr ⟨y,hn,Ch.addV_ge hok (by omega)⟩
   ·rw [setF_other _ _ e] at hj;exact Or.inr ⟨z,(h.M j).trans hj,Int.le_refl _⟩ }
theorem Rd.now (h:Rd s g wt E m) {x:Int} (hx:x=0∨∃ t,s.T x=some t∧t.rdy=true∧t.cpu=0):Rd { s with cu:=upd s.cu 0 x } g wt E m:={ h with ok:=h.ok.now hx }
def spO (id:Int) (g:Nat) (wt:Int):OpV:=⟨1,0,id,g,wt,0,0,1⟩
def wkO (id:Int):OpV:=⟨2,0,id,0,0,0,0,0⟩
def blO:OpV:=⟨3,0,0,0,0,0,0,0⟩
def tkO (d:Int):OpV:=⟨5,0,0,0,0,0,d,0⟩
def pkO:OpV:=⟨6,0,0,0,0,0,0,0⟩
end
theorem pkO_wf:pkO.Wf:=⟨by decide,by decide,by decide,by decide,by decide,by decide,by decide,by decide⟩
theorem blO_wf:blO.Wf:=⟨by decide,by decide,by decide,by decide,by decide,by decide,by decide,by decide⟩
theorem tkO_wf {d:Int} (h:1≤d∧d≤1048576):(tkO d).Wf where
 kind:=(by decide:(0:Int)≤5∧(5:Int)≤255)
 cpu:=(by decide:(Lit.int .i64 0).wf=true)
 task:=(by decide:(Lit.int .i64 0).wf=true)
 group:=(by decide:(Lit.int .i64 0).wf=true)
 weight:=(by decide:(Lit.int .i64 0).wf=true)
 dst:=(by decide:(Lit.int .i64 0).wf=true)
 ticks:=wfI (by show _≤d;omega) (by show d≤_;omega)
 mask:=(by decide:(0:Int)≤0∧(0:Int)≤18446744073709551615)
theorem wkO_wf {d:Int} (h:1≤d∧d≤65535):(wkO d).Wf where
 kind:=(by decide:(0:Int)≤2∧(2:Int)≤255)
 cpu:=(by decide:(Lit.int .i64 0).wf=true)
 task:=wfI (by show _≤d;omega) (by show d≤_;omega)
 group:=(by decide:(Lit.int .i64 0).wf=true)
 weight:=(by decide:(Lit.int .i64 0).wf=true)
 dst:=(by decide:(Lit.int .i64 0).wf=true)
 ticks:=(by decide:(Lit.int .i64 0).wf=true)
 mask:=(by decide:(0:Int)≤0∧(0:Int)≤18446744073709551615)
theorem spO_wf {id wt:Int} {g:Nat} (h:1≤id∧id≤65535) (hg:g<2) (hw:wgOk wt):(spO id g wt).Wf where
 kind:=(by decide:(0:Int)≤1∧(1:Int)≤255)
 cpu:=(by decide:(Lit.int .i64 0).wf=true)
 task:=wfI (by show _≤id;omega) (by show id≤_;omega)
 group:=wfI (by show _≤(g:Int);omega) (by show (g:Int)≤_;omega)
 weight:=wfI (by show _≤wt;unfold wgOk at hw;omega) (by show wt≤_;unfold wgOk at hw;omega)
 dst:=(by decide:(Lit.int .i64 0).wf=true)
 ticks:=(by decide:(Lit.int .i64 0).wf=true)
 mask:=(by decide:(0:Int)≤1∧(1:Int)≤18446744073709551615)
section
variable {s:SSt} {g:Nat} {wt:Int} {E:Int→Option Ent} {m:Nat}
theorem Rd.has (h:Rd s g wt E m):hasV (s.C:Int) 0=true:=by rw [h.C];rfl
theorem Rd.spawn (h:Rd s g wt E m) {id:Int} (hi:1≤id∧id≤65535) (hT:s.T id=none) (hw:wgOk wt):∃ s',doR s (spO id g wt)=(0,0,s')∧Rd s' g wt (setF E id (some ((s.Q 0).fl g,0,wt))) m∧(∀ j,s'.T j≠none→j=id∨s.T j≠none):=by
 have h0:=h.work 0
 have hgn:g<s.n:=by rw [h.n];exact h.gl
 have hc:spC { s with wk:=0 } 0 (spO id g wt)=0:=by
  unfold spC
  rw [if_neg (by rw [show nameV (spO id g wt).task=true from nameV_iff.2 hi];simp),if_neg (fun q=>q ⟨by show (0:Int)≤(g:Int);omega,by show (g:Int)<(s.n:Int);omega⟩),if_neg (by
   rintro (q | q | q)
   ·exact q hw
   ·exact absurd (show (1:Int)=0 from q) (by decide)
   ·have e:wideM (spO id g wt).mask s.C=false:=by rw [h.C];rfl
    rw [e] at q;cases q),if_neg (fun q=>q hT),if_neg (by show ¬ bitM 1 0=false;decide)]
 have hwf:(spO id g wt).Wf:=spO_wf hi h.gl hw
 obtain ⟨hb,_⟩:=h0.ok.born h.k0 hwf hc
 refine ⟨entS (newS { s with wk:=0 } id (bornT { s with wk:=0 } 0 g (spO id g wt))) id (bornT { s with wk:=0 } 0 g (spO id g wt)),?_,?_,fun j hj=>?_⟩
 ·unfold doR
  rw [opR_1 (show (spO id g wt).kind=1 from rfl),if_pos (show hasV (({ s with wk:=0 }:SSt).C:Int) (spO id g wt).cpu=true from h.has)]
  show (0,spC _ 0 _,spS _ 0 _)=_
  rw [hc]
  unfold spS
  rw [if_pos hc]
  rfl
 ·refine (Rd.sleep h0 hb fun j t hj=>?_).ent (setF_same _ _ _) rfl (Int.le_refl _)
  by_cases e:j=id
  ·subst e;replace hj:setF s.T j _ j=some t:=hj;rw [setF_same] at hj;cases hj;exact ⟨rfl,rfl⟩
  ·replace hj:setF s.T id _ j=some t:=hj;rw [setF_other _ _ e] at hj;exact h.T j t hj
 ·replace hj:setF (setF s.T id _) id _ j≠none:=hj
  by_cases e:j=id
  ·exact Or.inl e
  ·rw [setF_other _ _ e,setF_other _ _ e] at hj;exact Or.inr hj
theorem Rd.pick (h:Rd s g wt E m) {id:Int} {y:Ent} (hE:E id=some y) (hl:∀ j z,E j=some z→y.1<z.1∨y.1=z.1∧id≤j) :
  ∃ s1,doR s pkO=(id,0,s1)∧Rd s1 g wt E m∧s1.cu 0=id∧s1.T=s.T:=by
 obtain ⟨f1,_⟩:=h.first hE hl
 obtain ⟨t,hT,hr⟩:=(h.ready id).1 (by rw [hE];simp)
 have hc:=h.cpu hT
 refine ⟨pickS { s with wk:=0 } 0,?_,?_,?_,rfl⟩
 ·unfold doR
  rw [opR_6 (show pkO.kind=6 from rfl),if_pos (show hasV (({ s with wk:=0 }:SSt).C:Int) pkO.cpu=true from h.has)]
  show ((frT (s.Q 0)).1,0,_)=_
  rw [f1];rfl
 ·exact ((h.work 0).now (x:=(frT (s.Q 0)).1) (Or.inr ⟨t,by rw [f1];exact hT,hr,hc⟩)).work _
 ·show upd s.cu 0 (frT (s.Q 0)).1 0=id
  rw [upd_same,f1]
theorem Rd.time (h:Rd s g wt E m) {d:Int} (hd:1≤d∧d≤1048576) (hm:m≤1000):Rd { s with wk:=0,cl:=upd s.cl 0 (s.cl 0+d) } g wt E (m+1):=by
 have hcl:=h.cl
 have hcl0:=(h.ok.cl 0 h.k0).1
 refine { h with ok:=(h.ok.work 0).clock (k:=0) (x:=s.cl 0+d) ⟨by omega,by omega⟩,cl:=?_ }
 show upd s.cl 0 (s.cl 0+d) 0≤_
 rw [upd_same];push_cast;omega
theorem Rd.tick (h:Rd s g wt E m) {d id:Int} {y:Ent} (hd:1≤d∧d≤1048576) (hm:m≤1000) (hcu:s.cu 0=id) (hE:E id=some y) :
  ∃ s2,doR s (tkO d)=(id,0,s2)∧Rd s2 g wt (setF E id (some (chgX d y))) (m+1)∧s2.cu 0=id∧s2.T=s.T:=by
 obtain ⟨t,hT,hr⟩:=(h.ready id).1 (by rw [hE];simp)
 have hcl:=h.cl
 have htc:tickC { s with wk:=0 } 0 d=0:=by
  unfold tickC
  rw [if_pos ⟨hd.1,by omega⟩,if_neg]
  show ¬ s.cl 0 > 281474976710656 - d
  omega
 have e3:tickS { s with wk:=0 } 0 d=tkS { s with wk:=0,cl:=upd s.cl 0 (s.cl 0+d) } 0 d id t.g:=by
  unfold tickS
  rw [if_pos htc]
  show (match s.T (s.cu 0) with | some t=>tkS { s with wk:=0,cl:=upd s.cl 0 (s.cl 0+d) } 0 d (s.cu 0) t.g | none=>_)=_
  rw [hcu,hT]
 refine ⟨tkS { s with wk:=0,cl:=upd s.cl 0 (s.cl 0+d) } 0 d id t.g,?_,?_,hcu,rfl⟩
 ·unfold doR
  rw [opR_5 (show (tkO d).kind=5 from rfl),if_pos (show hasV (({ s with wk:=0 }:SSt).C:Int) (tkO d).cpu=true from h.has)]
  show (tickG _ 0 d,tickC _ 0 d,tickS _ 0 d)=_
  rw [htc,e3]
  unfold tickG
  rw [if_pos htc]
  show (s.cu 0,0,_)=_
  rw [hcu]
 ·exact (h.time hd hm).tk hT hr hE hd
theorem Rd.run (h:Rd s g wt E m) {d id:Int} {y:Ent} (hd:1≤d∧d≤1048576) (hm:m≤1000) (hE:E id=some y) (hl:∀ j z,E j=some z→y.1<z.1∨y.1=z.1∧id≤j) :
  ∃ s1 s2,doR s pkO=(id,0,s1)∧SOk s1∧doR s1 (tkO d)=(id,0,s2)∧Rd s2 g wt (setF E id (some (chgX d y))) (m+1)∧s2.cu 0=id∧s2.T=s.T:=by
 obtain ⟨s1,p1,p2,p3,p4⟩:=h.pick hE hl
 obtain ⟨s2,q1,q2,q3,q4⟩:=p2.tick hd hm p3 hE
 exact ⟨s1,s2,p1,p2.ok,q1,q2,q3,q4.trans p4⟩
theorem Rd.block (h:Rd s g wt E m) {id:Int} {t:Tsk} (hcu:s.cu 0=id) (hT:s.T id=some t) (hr:t.rdy=true):∃ s' y,doR s blO=(id,0,s')∧Rd s' g wt (setF E id none) m∧E id=some y∧s'.T id=some { t with rdy:=false,run:=y }:=by
 have hi:=(h.ok.task id t hT).1
 have h0:Rd { s with wk:=0,cu:=upd s.cu 0 0 } g wt E m:=(h.work 0).now (Or.inl rfl)
 obtain ⟨h1,y,hE,hT'⟩:=h0.lv hT hr (by show upd s.cu 0 0 0≠id;rw [upd_same];omega)
 refine ⟨_,y,?_,h1,hE,hT'⟩
 unfold doR
 rw [opR_3 (show blO.kind=3 from rfl),if_pos (show hasV (({ s with wk:=0 }:SSt).C:Int) blO.cpu=true from h.has)]
 show (s.cu 0,stopC _ 0,stopS _ 0)=_
 have e1:stopC { s with wk:=0 } 0=0:=by unfold stopC;rw [if_neg];show ¬ s.cu 0=0;rw [hcu];omega
 have e2:stopS { s with wk:=0 } 0=lvS { s with wk:=0,cu:=upd s.cu 0 0 } id t:=by
  unfold stopS
  show (match s.T (s.cu 0) with | some t=>lvS { s with wk:=0,cu:=upd s.cu 0 0 } (s.cu 0) t | none=>{ s with wk:=0 })=_
  rw [hcu,hT]
 rw [e1,e2,hcu]
theorem Rd.wake (h:Rd s g wt E m) {id:Int} {t:Tsk} (hT:s.T id=some t) (hr:t.rdy=false):∃ s' y,doR s (wkO id)=(0,0,s')∧Rd s' g wt (setF E id (some y)) m∧y=(if t.run.1<(s.Q 0).fl g then ((s.Q 0).fl g,0,t.run.2.2) else t.run):=by
 obtain ⟨hi,ht⟩:=h.ok.task id t hT
 have hc:=h.cpu hT
 have hg:=(h.T id t hT).1
 have h0:=h.work 0
 have hw:=h0.ok.woken hT hr
 have hcr:({ s with wk:=0 }:SSt).cr=0:=h.cr
 have hfl:0≤(s.Q 0).fl g:=((h.ok.tree 0 h.k0).core.fok g).1
 have ey:(wokeT { s with wk:=0 } t).run=(if t.run.1<(s.Q 0).fl g then ((s.Q 0).fl g,0,t.run.2.2) else t.run):=by
  show wokenX t.run ((s.Q t.cpu).fl t.g) s.cr=_
  unfold wokenX
  rw [if_pos ht.run,hc,hg,h.cr,show (s.Q 0).fl g - min ((s.Q 0).fl g) 0=(s.Q 0).fl g by omega]
 have h1:=Rd.sleep (c':=s.c) h0 hw fun j t2 hj=>by
  by_cases e:j=id
  ·subst e;replace hj:setF s.T j _ j=some t2:=hj;rw [setF_same] at hj;cases hj;exact h.T j t hT
  ·replace hj:setF s.T id _ j=some t2:=hj;rw [setF_other _ _ e] at hj;exact h.T j t2 hj
 have h2:=h1.ent (id:=id) (t:=wokeT { s with wk:=0 } t) (setF_same _ _ _) hr (by
  show (s.Q 0).fl g≤_
  rw [ey]
  split
  ·exact Int.le_refl _
  ·omega)
 refine ⟨_,_,?_,h2,ey⟩
 unfold doR
 rw [opR_2 (show (wkO id).kind=2 from rfl),if_pos (show nameV (wkO id).task=true from nameV_iff.2 hi)]
 show (0,awC _ id,awS _ id)=_
 have e1:awC { s with wk:=0 } id=0:=by
  unfold awC
  show (match s.T id with | none=>(6:Int) | some t=>if t.rdy then 304 else 0)=0
  rw [hT];simp [hr]
 have e2:awS { s with wk:=0 } id=entS (tskS { s with wk:=0 } id (wokeT { s with wk:=0 } t)) id (wokeT { s with wk:=0 } t):=by
  unfold awS
  show (match s.T id with | none=>({ s with wk:=0 }:SSt) | some t=>if t.rdy then ({ s with wk:=0 }:SSt) else entS (tskS { s with wk:=0 } id (wokeT { s with wk:=0 } t)) id (wokeT { s with wk:=0 } t))=_
  rw [hT];simp [hr]
 rw [e1,e2]
 rfl
end
end Go.Proofs.Ytapnaocdehahdaa
