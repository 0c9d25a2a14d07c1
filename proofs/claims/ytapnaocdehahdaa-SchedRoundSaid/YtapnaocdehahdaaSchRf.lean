/-
  Layer 31 (sched), in plain words: SchedRound's rounds.
-/
import Derived.Test.YtapnaocdehahdaaSchRe
import Derived.Test.YtapnaocdehahdaaSchU
namespace Go.Proofs.Ytapnaocdehahdaa
open Go.RowKit Go.Maps Go.IntWalk Go.Lib
set_option linter.unusedVariables false
set_option linter.unusedSimpArgs false
def PR (d wt:Int) (a k q r:Nat):Int→Option Ent:=fun id=>if (a:Int)≤id∧id≤(k:Int) then some (runN d (0,0,wt) (q+if id≤(r:Int) then 1 else 0)) else none
theorem PR_full (d wt:Int) (a k q:Nat) (b:Nat) (hb:b<a):PR d wt a k q k=PR d wt a k (q+1) b:=funext fun id=>by
 unfold PR
 by_cases h:(a:Int)≤id∧id≤(k:Int)
 ·rw [if_pos h,if_pos h,if_pos h.2,if_neg (by omega)]
 ·rw [if_neg h,if_neg h]
theorem PR_next (d wt:Int) {a k q r:Nat} (h1:a≤r+1) (h2:r<k):setF (PR d wt a k q r) ((r:Int)+1) (some (chgX d (runN d (0,0,wt) q)))=PR d wt a k q (r+1):=funext fun id=>by
 by_cases e:id=(r:Int)+1
 ·subst e
  rw [setF_same]
  unfold PR
  rw [if_pos (by omega),if_pos (by omega)]
  rfl
 ·rw [setF_other _ _ e]
  unfold PR
  by_cases h:(a:Int)≤id∧id≤(k:Int)
  ·rw [if_pos h,if_pos h]
   by_cases h3:id≤(r:Int)
   ·rw [if_pos h3,if_pos (by omega)]
   ·rw [if_neg h3,if_neg (by omega)]
  ·rw [if_neg h,if_neg h]
theorem PR_at (d wt:Int) {a k q r:Nat} (h1:a≤r+1) (h2:r<k):PR d wt a k q r ((r:Int)+1)=some (runN d (0,0,wt) q):=by
 unfold PR
 rw [if_pos (by omega),if_neg (by omega)]
 rfl
theorem ent0 {wt:Int} (hw:wgOk wt):EntOk (0,0,wt):=by
 unfold wgOk at hw
 show Ch.Ok 0 0 wt
 unfold Ch.Ok;omega
theorem PR_least {d wt:Int} (hd:1≤d∧d≤1048576) (hw:wgOk wt) {a k q r:Nat} (hq:q≤900) {j:Int} {z:Ent} (h:PR d wt a k q r j=some z):(runN d (0,0,wt) q).1<z.1∨(runN d (0,0,wt) q).1=z.1∧(r:Int)+1≤j:=by
 unfold PR at h
 split at h
 ·by_cases h3:j≤(r:Int)
  ·rw [if_pos h3] at h;cases h
   exact Or.inl (runN_lt hd (ent0 hw) (by show (0:Int)≤_;decide) (by omega))
  ·rw [if_neg h3] at h;cases h
   exact Or.inr ⟨rfl,by omega⟩
 ·cases h
theorem Rd.turn {s:SSt} {g:Nat} {d wt:Int} {a k q r m:Nat} (h:Rd s g wt (PR d wt a k q r) m) (hd:1≤d∧d≤1048576) (hw:wgOk wt) (hm:m≤1000) (hq:q≤900) (h1:a≤r+1) (h2:r<k) :
  ∃ s1 s2,doR s pkO=((r:Int)+1,0,s1)∧SOk s1∧doR s1 (tkO d)=((r:Int)+1,0,s2)∧Rd s2 g wt (PR d wt a k q (r+1)) (m+1)∧s2.cu 0=(r:Int)+1∧s2.T=s.T:=by
 obtain ⟨s1,s2,q1,q2,q3,q4,q5,q6⟩:=h.run hd hm (PR_at d wt h1 h2) (fun j z hz=>PR_least hd hw hq hz)
 rw [PR_next d wt h1 h2] at q4
 exact ⟨s1,s2,q1,q2,q3,q4,q5,q6⟩
def QI (a k q0 i:Nat):Nat:=q0+i / (k+1 - a)
def RI (a k i:Nat):Nat:=a - 1+i % (k+1 - a)
theorem PR_step (d wt:Int) {a k q0 i:Nat} (ha:1≤a) (hk:a≤k):PR d wt a k (QI a k q0 i) (RI a k i+1)=PR d wt a k (QI a k q0 (i+1)) (RI a k (i+1)):=by
 obtain ⟨L,rfl⟩:∃ L,k=L+a:=⟨k - a,by omega⟩
 have eL:L+a+1 - a=L+1:=by omega
 unfold QI RI
 rw [eL]
 have hlt:=Nat.mod_lt i (show 0<L+1 by omega)
 have hdm:=Nat.div_add_mod i (L+1)
 by_cases e:i % (L+1)=L
 ·have e1:(i+1) / (L+1)=i / (L+1)+1:=by
   rw [show i+1=(L+1)*(i / (L+1)+1) by rw [Nat.mul_add];omega,Nat.mul_div_cancel_left _ (by omega)]
  have e2:(i+1) % (L+1)=0:=by
   rw [show i+1=(L+1)*(i / (L+1)+1) by rw [Nat.mul_add];omega,Nat.mul_mod_right]
  rw [e1,e2,e,show a - 1+L+1=L+a by omega,PR_full d wt a (L+a) _ (a - 1+0) (by omega)]
  rfl
 ·have e1:(i+1) / (L+1)=i / (L+1):=by
   refine Nat.div_eq_of_lt_le ?_ ?_
   ·rw [Nat.mul_comm];omega
   ·rw [Nat.add_mul,Nat.mul_comm];omega
  have e2:(i+1) % (L+1)=i % (L+1)+1:=by
   have h1:=Nat.div_add_mod (i+1) (L+1)
   rw [e1] at h1
   omega
  rw [e1,e2]
  rfl
theorem Rd.turns {s:SSt} {g:Nat} {d wt:Int} {a k q0 i m:Nat} (h:Rd s g wt (PR d wt a k (QI a k q0 i) (RI a k i)) m) (hd:1≤d∧d≤1048576) (hw:wgOk wt) (hm:m≤1000) (hq:q0+i≤900) (ha:1≤a) (hk:a≤k) :
  ∃ s1 s2,doR s pkO=((a:Int)+((i % (k+1 - a):Nat):Int),0,s1)∧SOk s1∧doR s1 (tkO d)=((a:Int)+((i % (k+1 - a):Nat):Int),0,s2)∧Rd s2 g wt (PR d wt a k (QI a k q0 (i+1)) (RI a k (i+1))) (m+1)∧s2.cu 0=(a:Int)+((i % (k+1 - a):Nat):Int)∧s2.T=s.T:=by
 have hlt:=Nat.mod_lt i (show 0<k+1 - a by omega)
 have hdv:=Nat.div_le_self i (k+1 - a)
 have e:((RI a k i:Nat):Int)+1=(a:Int)+((i % (k+1 - a):Nat):Int):=by unfold RI;omega
 have:=h.turn hd hw hm (by unfold QI;omega) (by unfold RI;omega) (by unfold RI;omega)
 rw [e,PR_step d wt ha hk] at this
 exact this
theorem PR_new (d wt:Int) {k j:Nat} (h:1≤j) (hj:j≤k):setF (PR d wt (j+1) k 0 0) (j:Int) (some (0,0,wt))=PR d wt j k 0 0:=funext fun id=>by
 by_cases e:id=(j:Int)
 ·subst e
  rw [setF_same]
  unfold PR
  rw [if_pos (by omega),if_neg (by omega)]
  rfl
 ·rw [setF_other _ _ e]
  unfold PR
  by_cases h3:(j:Int)≤id∧id≤(k:Int)
  ·rw [if_pos h3,if_pos (by omega)]
  ·rw [if_neg h3,if_neg (by omega)]
structure Rs (s:SSt) (g:Nat) (d wt:Int) (k j:Nat):Prop where
 rd:Rd s g wt (PR d wt (j+1) k 0 0) 0
 fl:(s.Q 0).fl g=0
 T:∀ id,id≤(j:Int)→s.T id=none
theorem Rs.next {s:SSt} {g:Nat} {d wt:Int} {k j:Nat} (h:Rs s g d wt k (j+1)) (hw:wgOk wt) (hj:j+1≤k) (hk:k≤60):∃ s',doR s (spO ((j:Int)+1) g wt)=(0,0,s')∧Rs s' g d wt k j:=by
 have ec:((j:Int)+1)=((j+1:Nat):Int):=by omega
 obtain ⟨s',q1,q2,q3⟩:=h.rd.spawn (id:=(j:Int)+1) ⟨by omega,by omega⟩ (h.T _ (by omega)) hw
 rw [h.fl,ec,PR_new d wt (by omega) hj] at q2
 refine ⟨s',q1,q2,?_,fun id hid=>?_⟩
 ·have hne:((s'.Q 0).M g).isEmpty=false:=by
   have:=q2.M ((j+1:Nat):Int)
   cases e:((s'.Q 0).M g).isEmpty with
   | false=>rfl
   | true =>
    rw [List.isEmpty_iff.1 e] at this
    unfold PR at this
    rw [if_pos (by omega)] at this
    cases this
  rw [q2.fl hne]
  obtain ⟨y,hy,ey⟩:=first_ent q2.ord.nod hne
  rw [q2.M] at hy
  unfold PR at hy
  split at hy
  ·rw [if_neg (by omega)] at hy;cases hy;rw [← ey];rfl
  ·cases hy
 ·cases e:s'.T id with
  | none=>rfl
  | some t =>
   rcases q3 id (by rw [e];simp) with r | r
   ·omega
   ·exact absurd (h.T id (by omega)) r
theorem Rs.start {g:Nat} {Gs:Grps} {d wt:Int} {k:Nat} (hr:RightG Gs) (hn:Gs.length=2) (hp:parG Gs 1=0) (hg:g<2):Rs (firstS Gs 1 0) g d wt k k where
 rd:={
  ok:=SOk.begun hr ⟨by decide,by decide⟩ ⟨by decide,by decide⟩
  C:=rfl,n:=hn,cr:=rfl,par:=hp,gl:=hg
  T:=fun id t q=>by cases q
  M:=fun id=>by
   show none=PR d wt (k+1) k 0 0 id
   unfold PR
   rw [if_neg (by omega)]
  ord:=MemsOk.nil
  lo:=fun id q=>by
   exfalso;apply q
   unfold PR
   rw [if_neg (by omega)]
  cl:=Int.le_refl _
  fl:=fun q=>by cases q }
 fl:=rfl
 T:=fun id _=>rfl
theorem PR_out (d wt:Int) (k q:Nat):setF (PR d wt 1 k q 1) 1 none=PR d wt 2 k q 1:=funext fun id=>by
 by_cases e:id=1
 ·subst e
  rw [setF_same]
  unfold PR
  rw [if_neg (by omega)]
 ·rw [setF_other _ _ e]
  unfold PR
  by_cases h3:(2:Int)≤id∧id≤(k:Int)
  ·rw [if_pos (show ((1:Nat):Int)≤id∧id≤(k:Int) by omega),if_pos (show ((2:Nat):Int)≤id∧id≤(k:Int) from h3)]
  ·rw [if_neg (show ¬ (((1:Nat):Int)≤id∧id≤(k:Int)) by omega),if_neg (show ¬ (((2:Nat):Int)≤id∧id≤(k:Int)) from h3)]
theorem Rd.sleeps {s:SSt} {g:Nat} {d wt:Int} {k q m:Nat} (h:Rd s g wt (PR d wt 1 k q 1) m) (hcu:s.cu 0=1) (hk:1≤k) :
  ∃ s' t,doR s blO=(1,0,s')∧Rd s' g wt (PR d wt 2 k (QI 2 k q 0) (RI 2 k 0)) m∧s'.T 1=some t∧t.rdy=false∧t.run=runN d (0,0,wt) (q+1):=by
 have hE:PR d wt 1 k q 1 1=some (runN d (0,0,wt) (q+1)):=by
  unfold PR
  rw [if_pos (by omega),if_pos (by decide)]
 obtain ⟨t,hT,hr⟩:=(h.ready 1).1 (by rw [hE];simp)
 obtain ⟨s',y,q1,q2,q3,q4⟩:=h.block hcu hT hr
 rw [PR_out] at q2
 refine ⟨s',_,q1,?_,q4,rfl,?_⟩
 ·have e1:QI 2 k q 0=q:=by unfold QI;rw [Nat.zero_div];rfl
  have e2:RI 2 k 0=1:=by unfold RI;rw [Nat.zero_mod]
  rw [e1,e2];exact q2
 ·rw [hE] at q3;cases q3;rfl
theorem Rd.wakes {s:SSt} {g:Nat} {d wt:Int} {k q m:Nat} {t:Tsk} (h:Rd s g wt (PR d wt 2 k (q+2) 1) m) (hd:1≤d∧d≤1048576) (hw:wgOk wt) (hm:m≤900) (hq:q≤800) (hk:1≤k) (hT:s.T 1=some t) (hr:t.rdy=false) (hrun:t.run=runN d (0,0,wt) (q+1)) :
  ∃ s1,doR s (wkO 1)=(0,0,s1)∧SOk s1∧∃ s2 s3,doR s1 pkO=(1,0,s2)∧SOk s2∧doR s2 (tkO d)=(1,0,s3)∧SOk s3∧(k≠1→∃ s4 s5,doR s3 pkO=(2,0,s4)∧SOk s4∧doR s4 (tkO d)=(2,0,s5)∧SOk s5):=by
 have h00:((0,0,wt):Ent).1≤1099511627776*2:=by show (0:Int)≤_;decide
 obtain ⟨o1,v1⟩:=runN_ok hd (ent0 hw) h00 (q+1) (by omega)
 obtain ⟨o2,v2⟩:=runN_ok hd (ent0 hw) h00 (q+2) (by omega)
 have lt1:=runN_lt hd (ent0 hw) h00 (n:=q+1) (by omega)
 obtain ⟨s1,y,q1,q2,q3⟩:=h.wake hT hr
 rw [hrun] at q3
 by_cases hk1:k=1
 ·subst hk1
  obtain ⟨s2,s3,r1,r2,r3,r4,_⟩:=q2.run (y:=y) hd (by omega) (setF_same _ _ _) fun j z hz=>by
   by_cases e:j=1
   ·subst e;rw [setF_same] at hz;cases hz;exact Or.inr ⟨rfl,Int.le_refl _⟩
   ·rw [setF_other _ _ e] at hz
    unfold PR at hz
    rw [if_neg (by omega)] at hz;cases hz
  exact ⟨s1,q1,q2.ok,s2,s3,r1,r2,r3,r4.ok,fun q=>absurd rfl q⟩
 ·have h2:PR d wt 2 k (q+2) 1 2=some (runN d (0,0,wt) (q+2)):=PR_at d wt (by decide) (by omega)
  have hfi:=first_is h.ord ((h.M 2).trans h2) fun j z hz=>by
   have:=PR_least hd hw (by omega) ((h.M j).symm.trans hz)
   exact this
  have hfl:(s.Q 0).fl g=(runN d (0,0,wt) (q+2)).1:=(h.fl hfi.2.2).trans hfi.2.1
  rw [hfl,if_pos lt1,runN_w] at q3
  have hy1:y.1=(runN d (0,0,wt) (q+2)).1:=by rw [q3]
  have hyo:EntOk y:=by
   rw [q3]
   unfold wgOk at hw
   replace o2:Ch.Ok _ _ _:=o2
   show Ch.Ok (runN d (0,0,wt) (q+2)).1 0 wt
   unfold Ch.Ok at o2 ⊢
   omega
  obtain ⟨s2,s3,r1,r2,r3,r4,_⟩:=q2.run (y:=y) hd (by omega) (setF_same _ _ _) fun j z hz=>by
   by_cases e:j=1
   ·subst e;rw [setF_same] at hz;cases hz;exact Or.inr ⟨rfl,Int.le_refl _⟩
   ·rw [setF_other _ _ e] at hz
    have:=PR_least hd hw (by omega) hz
    rw [hy1]
    omega
  refine ⟨s1,q1,q2.ok,s2,s3,r1,r2,r3,r4.ok,fun _=>?_⟩
  have hg:=chg_grow hd hyo (by omega)
  obtain ⟨s4,s5,t1,t2,t3,t4,_⟩:=r4.run (id:=2) (y:=runN d (0,0,wt) (q+2)) hd (by omega) (by rw [setF_other _ _ (by decide),setF_other _ _ (by decide)];exact h2) fun j z hz=>by
   by_cases e:j=1
   ·subst e;rw [setF_same] at hz;cases hz;exact Or.inl (by omega)
   ·rw [setF_other _ _ e,setF_other _ _ e] at hz
    have:=PR_least hd hw (by omega) hz
    exact this
  exact ⟨s4,s5,t1,t2,t3,t4.ok⟩
end Go.Proofs.Ytapnaocdehahdaa
