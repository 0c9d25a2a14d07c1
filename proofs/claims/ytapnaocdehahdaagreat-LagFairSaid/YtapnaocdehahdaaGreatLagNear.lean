/-
  The walk of near (not rounded).
-/
import Derived.Test.YtapnaocdehahdaaGreatLgD
namespace Go.Proofs.YtapnaocdehahdaaGreat
open Go.RowKit Go.Maps Go.IntWalk Go.Lib Go.Sort
set_option linter.unusedVariables false
def pw (x:Int×Int×Int):Int×Int:=(x.1,x.2.1)
theorem bump_pw (l:List (Int×Int×Int)) (id t:Int):(bump l id t).map pw=l.map pw:=by
 simp only [bump,List.map_map]
 exact List.map_congr_left fun x _=>by simp only [Function.comp];split <;> rfl
theorem ran0_pw (l:List (Int×Int)):(ran0 l).map pw=l:=by
 simp only [ran0,List.map_map]
 conv=>rhs;rw [← List.map_id l]
 exact List.map_congr_left fun x _=>rfl
def leastK (l:List (Int×Int)) (m:Int) (k:Nat):Int:=(l.take k).foldl (fun a x=>min a x.2) m
theorem leastK_succ {l:List (Int×Int)} {m:Int} {k:Nat} {x:Int×Int} (h:l[k]?=some x):leastK l m (k+1)=min (leastK l m k) x.2:=by
 unfold leastK
 rw [List.take_add_one,h,Option.toList_some,List.foldl_append];rfl
def leastW (l:List (Int×Int)):Int:=leastK l (l[0]?.getD (0,0)).2 l.length
theorem MeterAt.drewN {w:World} {p g bm cap:Nat} {l:List (Int×Int×Int)} {n:Nat} (h:MeterAt w p g bm cap l n) (q:Nat):MeterAt (w.drewN q) p g bm cap l n:=h.frame rfl rfl rfl
theorem max_neg (a:Int):(0≤a→max a (-a)=a)∧(a<0→max a (-a)=-a):=by omega
end Go.Proofs.YtapnaocdehahdaaGreat
