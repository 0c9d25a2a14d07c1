/-
  Layer 39 (lag): the task that has run least for its weight; running it keeps all lags near.
-/
import Derived.Test.YtapnaocdehahdaaGreatLagNear
namespace Go.Proofs.YtapnaocdehahdaaGreat
open Go.RowKit Go.IntWalk
set_option linter.unusedVariables false
structure Fine (x:Int×Int×Int):Prop where
 w0:1≤x.2.1
 w1:x.2.1≤65536
 r0:0≤x.2.2
 r1:x.2.2≤68719476736
theorem GoodL.fine {l:List (Int×Int×Int)} (h:GoodL l):∀ x∈l,Fine x:=fun x hx=>by
 obtain ⟨k,hk⟩:=List.getElem?_of_mem hx
 have b:=h.bounds hk
 exact ⟨b.w1,b.w2,b.r1,Int.le_trans b.r2 b.r3⟩
def Close (L:List (Int×Int×Int)) (least q:Int):Prop:=∀ x∈L,∀ y∈L,(x.2.2*y.2.1 - y.2.2*x.2.1)*least≤q*x.2.1*y.2.1
theorem close_sum {least q:Int} (x:Int×Int×Int):∀ (L:List (Int×Int×Int)),(∀ y∈L,(x.2.2*y.2.1 - y.2.2*x.2.1)*least≤q*x.2.1*y.2.1∧(y.2.2*x.2.1 - x.2.2*y.2.1)*least≤q*y.2.1*x.2.1) →
  (x.2.2*sumW L - sumR L*x.2.1)*least≤q*x.2.1*sumW L∧(sumR L*x.2.1 - x.2.2*sumW L)*least≤q*x.2.1*sumW L
 | [],_=>by simp [sumW,sumR]
 | y::r,h=>by
  obtain ⟨a,b⟩:=close_sum x r fun z hz=>h z (List.mem_cons_of_mem _ hz)
  obtain ⟨c,d⟩:=h y List.mem_cons_self
  simp only [sumW,sumR]
  have e1:(x.2.2*(y.2.1+sumW r) - (y.2.2+sumR r)*x.2.1)*least=(x.2.2*y.2.1 - y.2.2*x.2.1)*least+(x.2.2*sumW r - sumR r*x.2.1)*least:=by
   simp only [Int.mul_add,Int.add_mul,Int.sub_mul];omega
  have e2:((y.2.2+sumR r)*x.2.1 - x.2.2*(y.2.1+sumW r))*least=(y.2.2*x.2.1 - x.2.2*y.2.1)*least+(sumR r*x.2.1 - x.2.2*sumW r)*least:=by
   simp only [Int.mul_add,Int.add_mul,Int.sub_mul];omega
  have e3:q*x.2.1*(y.2.1+sumW r)=q*x.2.1*y.2.1+q*x.2.1*sumW r:=Int.mul_add _ _ _
  have e4:q*y.2.1*x.2.1=q*x.2.1*y.2.1:=Int.mul_right_comm _ _ _
  omega
theorem close_mono {L:List (Int×Int×Int)} {least q q':Int} (hg:∀ x∈L,Fine x) (h:Close L least q) (hq:q≤q'):Close L least q':=fun x hx y hy=>by
 refine Int.le_trans (h x hx y hy) ?_
 exact Int.mul_le_mul_of_nonneg_right (Int.mul_le_mul_of_nonneg_right hq (by have:=(hg x hx).w0;omega)) (by have:=(hg y hy).w0;omega)
theorem leastK_le {l:List (Int×Int)} (m:Int):∀ k,(∀ x∈l.take k,leastK l m k≤x.2)∧leastK l m k≤m∧(leastK l m k=m∨∃ x∈l,leastK l m k=x.2):=by
 intro k
 induction k with
 | zero=>exact ⟨fun x hx=>by simp at hx,Int.le_refl _,Or.inl rfl⟩
 | succ k ih =>
  obtain ⟨a,b,c⟩:=ih
  cases hx:l[k]? with
  | none =>
   have:l.length≤k:=List.getElem?_eq_none_iff.1 hx
   have e1:l.take (k+1)=l.take k:=by rw [List.take_of_length_le (by omega),List.take_of_length_le this]
   have e2:leastK l m (k+1)=leastK l m k:=by unfold leastK;rw [e1]
   rw [e1,e2];exact ⟨a,b,c⟩
  | some x =>
   rw [leastK_succ hx,List.take_add_one,hx]
   refine ⟨fun y hy=>?_,by omega,?_⟩
   ·rcases List.mem_append.1 hy with hy | hy
    ·have:=a y hy;omega
    ·simp at hy;subst hy;omega
   ·rcases Int.le_total (leastK l m k) x.2 with h | h
    ·rw [Int.min_eq_left h];exact c
    ·rw [Int.min_eq_right h];exact Or.inr ⟨x,List.mem_of_getElem? hx,rfl⟩
theorem leastW_spec {l:List (Int×Int)} (h0:l≠[]):(∀ x∈l,leastW l≤x.2)∧∃ x∈l,leastW l=x.2:=by
 obtain ⟨y,hy⟩:∃ y,l[0]?=some y:=⟨_,List.getElem?_eq_getElem (List.length_pos_iff.2 h0)⟩
 unfold leastW
 rw [hy]
 obtain ⟨a,b,c⟩:=leastK_le (l:=l) y.2 l.length
 rw [List.take_length] at a
 refine ⟨a,?_⟩
 rcases c with c | c
 ·exact ⟨y,List.mem_of_getElem? hy,c⟩
 ·exact c
end Go.Proofs.YtapnaocdehahdaaGreat
