/-
  LagFair, in plain words: the task with the least V runs; all lags stay near, but for rounding.
-/
import Derived.Test.YtapnaocdehahdaaGreatLagMin
import Derived.Test.YtapnaocdehahdaaGreatChA
namespace Go.Proofs.YtapnaocdehahdaaGreat
open Go.RowKit Go.IntWalk
set_option linter.unusedVariables false
theorem mul5 (a b c:Int):a*b*c=a*c*b:=Int.mul_right_comm a b c
theorem closeR_run {L:List (Int×Int×Int)} {least q d:Int} (hf:∀ x∈L,Fine x) (hids:L.Pairwise fun x y=>x.1<y.1) (h:Close L (least*1048576) (q*1048576+least)) (hd:0≤d) (hdq:d≤q) (hl0:0≤least) (hl:∀ x∈L,least≤x.2.1) {m:Int×Int×Int} (hm:m∈L)
  (hmin:∀ y∈L,(m.2.2*y.2.1 - y.2.2*m.2.1)*1048576≤m.2.1*y.2.1):Close (bump L m.1 d) (least*1048576) (q*1048576+least):=by
 have huniq:∀ y∈L,y.1=m.1→y=m:=fun y hy e=>by
  obtain ⟨i,hi⟩:=List.getElem?_of_mem hy
  obtain ⟨j,hj⟩:=List.getElem?_of_mem hm
  obtain ⟨li,ei⟩:=List.getElem?_eq_some_iff.1 hi
  obtain ⟨lj,ej⟩:=List.getElem?_eq_some_iff.1 hj
  have hp:=List.pairwise_iff_getElem.1 hids
  rcases Nat.lt_trichotomy i j with q | q | q
  ·have:=hp i j li lj q;rw [ei,ej] at this;omega
  ·subst q;rw [ei] at ej;exact ej
  ·have:=hp j i lj li q;rw [ei,ej] at this;omega
 have key:∀ x'∈bump L m.1 d,(∃ x∈L,x.1≠m.1∧x'=x)∨x'=(m.1,m.2.1,m.2.2+d):=fun x' hx'=>by
  simp only [bump,List.mem_map] at hx'
  obtain ⟨x,hx,rfl⟩:=hx'
  by_cases e:x.1=m.1
  ·rw [if_pos e,huniq x hx e];exact Or.inr rfl
  ·rw [if_neg e];exact Or.inl ⟨x,hx,e,rfl⟩
 have hq0:0≤q*1048576+least:=by omega
 intro x' hx' y' hy'
 have fm:=hf m hm
 rcases key x' hx' with ⟨x,hx,ex,rfl⟩ | rfl
 ·rcases key y' hy' with ⟨y,hy,ey,rfl⟩ | rfl
  ·exact h x' hx y' hy
  ·refine Int.le_trans (Int.mul_le_mul_of_nonneg_right ?_ (by omega)) (h x' hx m hm)
   simp only
   rw [Int.add_mul]
   have:=Int.mul_nonneg hd (by have:=(hf x' hx).w0;omega:0≤x'.2.1)
   omega
 ·rcases key y' hy' with ⟨y,hy,ey,rfl⟩ | rfl
  ·simp only
   have fy:=hf y' hy
   have h1:=hmin y' hy
   have e1:((m.2.2+d)*y'.2.1 - y'.2.2*m.2.1)*(least*1048576)=(m.2.2*y'.2.1 - y'.2.2*m.2.1)*1048576*least+d*y'.2.1*least*1048576:=by
    rw [Int.add_mul]
    generalize m.2.2*y'.2.1=a
    generalize y'.2.2*m.2.1=b
    generalize d*y'.2.1=c
    rw [show a+c - b=(a - b)+c by omega,Int.add_mul,← Int.mul_assoc,← Int.mul_assoc,mul5]
   have h2:(m.2.2*y'.2.1 - y'.2.2*m.2.1)*1048576*least≤m.2.1*y'.2.1*least:=Int.mul_le_mul_of_nonneg_right h1 hl0
   have h3:d*y'.2.1*least≤q*m.2.1*y'.2.1:=by
    have a1:=Int.mul_le_mul hdq (hl m hm) hl0 (by omega:0≤q)
    have a2:=Int.mul_le_mul_of_nonneg_right a1 (by have:=fy.w0;omega:0≤y'.2.1)
    rw [Int.mul_right_comm d]
    exact a2
   have e2:(q*1048576+least)*m.2.1*y'.2.1=q*m.2.1*y'.2.1*1048576+m.2.1*y'.2.1*least:=by
    rw [Int.add_mul,Int.add_mul]
    rw [show q*1048576*m.2.1*y'.2.1=q*m.2.1*y'.2.1*1048576 by rw [mul5 q 1048576,mul5 (q*m.2.1) 1048576],Int.mul_comm least m.2.1,mul5 m.2.1 least]
   omega
  ·simp only
   have e0:(m.2.2+d)*m.2.1 - (m.2.2+d)*m.2.1=0:=by omega
   rw [e0,Int.zero_mul]
   exact Int.mul_nonneg (Int.mul_nonneg hq0 (by have:=fm.w0;omega)) (by have:=fm.w0;omega)
theorem closeR_mono {L:List (Int×Int×Int)} {least q q':Int} (hf:∀ x∈L,Fine x) (h:Close L (least*1048576) (q*1048576+least)) (hq:q≤q'):Close L (least*1048576) (q'*1048576+least):=close_mono hf h (by omega)
structure NearR (L:List (Int×Int×Int)) (least q:Int):Prop where
 l0:1≤least
 l1:least≤65536
 q0:0≤q
 q1:q≤4096
 all:∀ x∈L,-2199023255552≤lagV L x∧lagV L x≤2199023255552∧lagV L x*least≤q*x.2.1*sumW L+(2*x.2.1*sumW L / 1048576+1)*least∧-lagV L x*least≤q*x.2.1*sumW L+(2*x.2.1*sumW L / 1048576+1)*least
theorem round_le {A P Q least:Int} (hl:0≤least) (hP:0≤P) (h:A*(least*1048576)≤(Q*1048576+least)*P):A*least≤Q*P+(2*P / 1048576+1)*least:=by
 have e1:A*(least*1048576)=A*least*1048576:=by rw [Int.mul_assoc]
 have e2:(Q*1048576+least)*P=Q*P*1048576+P*least:=by rw [Int.add_mul,mul5 Q 1048576 P,Int.mul_comm least P]
 have h3:P≤(2*P / 1048576+1)*1048576:=by omega
 have h4:=Int.mul_le_mul_of_nonneg_right h3 hl
 rw [mul5 (2*P / 1048576+1) 1048576 least] at h4
 generalize (2*P / 1048576+1)*least=z at *
 generalize P*least=y at *
 generalize A*least=x at *
 generalize Q*P=u at *
 omega
theorem closeR_near {L:List (Int×Int×Int)} {least q:Int} (hg:GoodL L) (h:Close L (least*1048576) (q*1048576+least)) (hl:1≤least∧least≤65536) (hq:0≤q∧q≤4096) (hs:sumR L≤1048576) (hw:sumW L≤1048576):NearR L least q:=by
 refine ⟨hl.1,hl.2,hq.1,hq.2,fun x hx=>?_⟩
 obtain ⟨a,b⟩:=close_sum (least:=least*1048576) (q:=q*1048576+least) x L fun y hy=>⟨h x hx y hy,h y hy x hx⟩
 obtain ⟨k,hk⟩:=List.getElem?_of_mem hx
 have hb:=hg.bounds hk
 have c1:=mul_bounds (a:=sumR L) (b:=x.2.1) (A:=1048576) (B:=65536) (by have:=hb.r1;have:=hb.r2;omega) hs (by have:=hb.w1;omega) hb.w2
 have c2:=mul_bounds (a:=x.2.2) (b:=sumW L) (A:=1048576) (B:=1048576) hb.r1 (by have:=hb.r2;omega) (by have:=hb.w1;have:=hb.w3;omega) hw
 have hP:0≤x.2.1*sumW L:=Int.mul_nonneg (by have:=hb.w1;omega) (by have:=hb.w1;have:=hb.w3;omega)
 have e:-lagV L x=x.2.2*sumW L - sumR L*x.2.1:=by unfold lagV;omega
 have e3:lagV L x=sumR L*x.2.1 - x.2.2*sumW L:=rfl
 refine ⟨by unfold lagV;omega,by unfold lagV;omega,?_,?_⟩
 ·rw [Int.mul_assoc q,Int.mul_assoc 2]
  refine round_le (by omega) hP ?_
  rw [e3,← Int.mul_assoc (q*1048576+least)];exact b
 ·rw [Int.mul_assoc q,Int.mul_assoc 2,e]
  refine round_le (by omega) hP ?_
  rw [← Int.mul_assoc (q*1048576+least)];exact a
def VrIs (v r w n:Int):Prop:=v*w+r=n*1048576∧0≤r∧r<w
theorem vr_min {v r w n v' r' w' n':Int} (h:VrIs v r w n) (h':VrIs v' r' w' n') (hv:v≤v'):(n*w' - n'*w)*1048576≤w*w':=by
 obtain ⟨h1,h2,h3⟩:=h
 obtain ⟨h4,h5,h6⟩:=h'
 have a1:n*w'*1048576=(v*w+r)*w':=by rw [h1,mul5]
 have a2:n'*w*1048576=(v'*w'+r')*w:=by rw [h4,mul5]
 have b1:(v*w+r)*w'≤(v*w+w)*w':=Int.mul_le_mul_of_nonneg_right (by omega) (by omega)
 have b2:v'*w'*w≤(v'*w'+r')*w:=Int.mul_le_mul_of_nonneg_right (by omega) (by omega)
 have b3:v*w*w'≤v'*w'*w:=by
  rw [mul5 v' w' w]
  exact Int.mul_le_mul_of_nonneg_right (Int.mul_le_mul_of_nonneg_right hv (by omega)) (by omega)
 rw [Int.add_mul (v*w) w w'] at b1
 have e:(n*w' - n'*w)*1048576=n*w'*1048576 - n'*w*1048576:=Int.sub_mul _ _ _
 omega
theorem vr_add {v r w n d:Int} (h:VrIs v r w n) (hok:Ch.Ok v r w) (hv:v≤70368744177664) (hd:0≤d) (hd1:d≤65535):VrIs (Ch.addV v r w d) (Ch.addR v r w d) w (n+d):=by
 have:=Ch.add_exact hok hv hd hd1
 have ok:=Ch.add_ok hok hd
 unfold Ch.Ok at ok
 obtain ⟨h1,h2,h3⟩:=h
 refine ⟨?_,ok.2.2.1,ok.2.2.2.1⟩
 rw [Int.add_mul]
 omega
theorem vr_small {v r w n:Int} (h:VrIs v r w n) (h0:0≤v) (hn:n≤1048576):v≤1099511627776:=by
 obtain ⟨h1,h2,h3⟩:=h
 have:v*1≤v*w:=Int.mul_le_mul_of_nonneg_left (by omega) h0
 omega
end Go.Proofs.YtapnaocdehahdaaGreat
