/-
  LagFair, in plain words: the model with tasks of the root alone.
-/
import Derived.Test.YtapnaocdehahdaaGreatFrM
import Derived.Test.YtapnaocdehahdaaGreatMdI
namespace Go.Proofs.YtapnaocdehahdaaGreat
open Go.RowKit Go.IntWalk
set_option linter.unusedVariables false
structure FT (y:TVw) (x:Int×Int×Int):Prop where
 id:y.id=x.1
 w:y.w=x.2.1
 g:y.g=0
 cpu:y.cpu=0
 mask:y.mask=1
 rdy:y.rdy=true
 v:0≤y.v
 run:VrIs y.v y.r y.w x.2.2
structure FS (m:MSt) (L:List (Int×Int×Int)):Prop where
 C:m.C=1
 Gs:m.Gs=[(0,1)]
 cr:m.cr=0
 len:m.ts.length=L.length
 t:∀ (i:Nat) (y:TVw) (x:Int×Int×Int),m.ts[i]?=some y→L[i]?=some x→FT y x
 sp:(m.sp 0 0).1=0∧(m.sp 0 0).2.1=0∧FlOk (m.sp 0 0).2.2
 cl:0≤m.cl 0∧m.cl 0≤4194304
 cu:m.cu 0=0∨∃ y∈m.ts,y.id=m.cu 0
structure LOk (L:List (Int×Int×Int)):Prop where
 each:∀ x∈L,(1≤x.1∧x.1≤65535)∧(1≤x.2.1∧x.2.1≤65536)∧0≤x.2.2∧x.2.2≤1048576
 ids:L.Pairwise fun x y=>x.1<y.1
section
variable {m:MSt} {L:List (Int×Int×Int)}
theorem FS.at (h:FS m L) {i:Nat} {y:TVw} (hy:m.ts[i]?=some y):∃ x,L[i]?=some x∧FT y x:=by
 have hi:=(List.getElem?_eq_some_iff.1 hy).1
 rw [h.len] at hi
 exact ⟨L[i],List.getElem?_eq_getElem hi,h.t i y _ hy (List.getElem?_eq_getElem hi)⟩
theorem FS.of (h:FS m L) {i:Nat} {x:Int×Int×Int} (hx:L[i]?=some x):∃ y,m.ts[i]?=some y∧FT y x:=by
 have hi:=(List.getElem?_eq_some_iff.1 hx).1
 rw [← h.len] at hi
 exact ⟨m.ts[i],List.getElem?_eq_getElem hi,h.t i _ x (List.getElem?_eq_getElem hi) hx⟩
theorem FS.mem (h:FS m L) {y:TVw} (hy:y∈m.ts):∃ x∈L,FT y x:=by
 obtain ⟨i,hi⟩:=List.getElem?_of_mem hy
 obtain ⟨x,hx,ht⟩:=h.at hi
 exact ⟨x,List.mem_of_getElem? hx,ht⟩
theorem FS.n (h:FS m L):m.n=1:=by unfold MSt.n;rw [h.Gs];rfl
theorem FS.ids (h:FS m L) (hL:LOk L):IdsUp m.ts:=by
 unfold IdsUp
 rw [List.pairwise_iff_getElem]
 intro i j hi hj hij
 obtain ⟨x,hx,tx⟩:=h.at (List.getElem?_eq_getElem hi)
 obtain ⟨x',hx',tx'⟩:=h.at (List.getElem?_eq_getElem hj)
 rw [tx.id,tx'.id]
 obtain ⟨li,ei⟩:=List.getElem?_eq_some_iff.1 hx
 obtain ⟨lj,ej⟩:=List.getElem?_eq_some_iff.1 hx'
 have:=List.pairwise_iff_getElem.1 hL.ids i j li lj hij
 rw [ei,ej] at this
 exact this
theorem FT.ok {y:TVw} {x:Int×Int×Int} (t:FT y x) (hx:(1≤x.1∧x.1≤65535)∧(1≤x.2.1∧x.2.1≤65536)∧0≤x.2.2∧x.2.2≤1048576):TvOk 1 1 y:=by
 have h1:=t.id
 have h2:=t.w
 have h3:=vr_small t.run t.v hx.2.2.2
 obtain ⟨r1,r2,r3⟩:=t.run
 have hv:=t.v
 refine ⟨by omega,by rw [t.g];decide,by omega,by rw [t.cpu];decide,by rw [t.mask];decide,?_⟩
 show Ch.Ok y.v y.r y.w
 unfold Ch.Ok
 omega
theorem right1:RightG [(0,1)]:=⟨by decide,by decide,rfl,fun g h1 h2=>by simp at h2;omega⟩
theorem FS.ok (h:FS m L) (hL:LOk L):MOk2 m:=by
 have hn:=h.n
 have hC:=h.C
 refine ⟨by rw [h.Gs];exact right1,by omega,by rw [h.cr];decide,h.ids hL,fun y hy=>?_,fun g k hg hk=>?_,fun k hk=>?_,fun k hk=>?_⟩
 ·obtain ⟨x,hx,t⟩:=h.mem hy
  rw [hn,hC]
  exact t.ok (hL.each x hx)
 ·obtain rfl:g=0:=by omega
  obtain rfl:k=0:=by omega
  rw [h.sp.1,h.sp.2.1,h.Gs]
  refine ⟨?_,h.sp.2.2⟩
  show Ch.Ok 0 0 1
  unfold Ch.Ok;omega
 ·obtain rfl:k=0:=by omega
  have:=h.cl
  omega
 ·obtain rfl:k=0:=by omega
  refine h.cu.imp_right fun ⟨y,hy,e⟩=>⟨y,hy,e,?_⟩
  obtain ⟨x,_,t⟩:=h.mem hy
  exact ⟨t.rdy,t.cpu⟩
theorem FS.rise (h:FS m L) (hL:LOk L):FS (riseM m) L:=by
 have ho:=h.ok hL
 have h2:=(riseX_ok ho (g:=0) (k:=0) (by rw [h.n];decide) (by rw [h.C];decide)).2
 obtain ⟨r1,r2⟩:=riseX_v m 0 0
 exact { h with sp:=⟨r1.trans h.sp.1,r2.trans h.sp.2.1,h2⟩ }
structure FZ (m:MSt) (L:List (Int×Int×Int)):Prop where
 fs:FS m L
 zero:∀ x∈L,x.2.2=0
 fl:(m.sp 0 0).2.2=0
theorem vr_zero {v r w:Int} (h:VrIs v r w 0) (hv:0≤v):v=0:=by
 obtain ⟨h1,h2,h3⟩:=h
 have:v*1≤v*w:=Int.mul_le_mul_of_nonneg_left (by omega) hv
 omega
theorem FZ.rise (h:FZ m L) (hL:LOk L):FZ (riseM m) L:=by
 refine ⟨h.fs.rise hL,h.zero,?_⟩
 show (riseX m 0 0).2.2=0
 unfold riseX
 split
 ·rename_i hs
  have ho:=h.fs.ok hL
  show max (m.sp 0 0).2.2 ((leastM m.sta 0 0).2 0)=0
  rcases least_two ho.vs (by rw [sta_len,h.fs.n];decide) hs with ⟨y,hy,_,e⟩ | ⟨k,hk,hkn,_⟩
  ·obtain ⟨x,hx,t⟩:=h.fs.mem hy
   have h0:=t.run
   rw [h.zero x hx] at h0
   rw [e,h.fl]
   show max 0 y.v=0
   rw [vr_zero h0 t.v];rfl
  ·rw [sta_len,h.fs.n] at hkn;omega
 ·exact h.fl
theorem FZ.spawn (h:FZ m L) {o:OpV} (hm:o.mask=1) (hw:1≤o.weight∧o.weight≤65536):FZ (spawnM0 m 0 o) (L++[(o.task,o.weight,0)]):=by
 refine ⟨{ h.fs with len:=by show (m.ts++[_]).length=_;simp [h.fs.len],t:=fun (i:Nat) (y:TVw) (x:Int×Int×Int) hy hx=>?_,cu:=h.fs.cu.imp_right fun ⟨y,hy,e⟩=>⟨y,List.mem_append_left _ hy,e⟩ },fun x hx=>?_,h.fl⟩
 ·replace hy:(m.ts++[bornM m 0 o])[i]?=some y:=hy
  have hlen:=h.fs.len
  by_cases q:i<m.ts.length
  ·rw [List.getElem?_append_left q] at hy
   rw [List.getElem?_append_left (by omega)] at hx
   exact h.fs.t i y x hy hx
  ·rw [List.getElem?_append_right (by omega)] at hy
   rw [List.getElem?_append_right (by omega)] at hx
   have hi:i - m.ts.length=0:=by
    have:=(List.getElem?_eq_some_iff.1 hy).1
    simp at this;omega
   rw [hi] at hy
   rw [show i - L.length=0 by omega] at hx
   cases hy;cases hx
   unfold bornM
   rw [h.fl,hm]
   exact ⟨rfl,rfl,rfl,rfl,rfl,rfl,Int.le_refl 0,by show (0:Int)*o.weight+0=0*1048576;omega,Int.le_refl 0,by show (0:Int)<o.weight;omega⟩
 ·rcases List.mem_append.1 hx with q | q
  ·exact h.zero x q
  ·simp at q;rw [q]
theorem FS.first (h:FS m L) (hL:LOk L) (h0:L≠[]):∃ (i:Nat) (y:TVw) (x:Int×Int×Int),m.ts[i]?=some y∧L[i]?=some x∧FT y x∧firstM m.sta 0=y.id∧∀ x'∈L,(x.2.2*x'.2.1 - x'.2.2*x.2.1)*1048576≤x.2.1*x'.2.1:=by
 have ho:=h.ok hL
 have hg:0<m.sta.sp.length:=by rw [sta_len,h.n];decide
 have hin:∀ y∈m.ts,tri y.v 0 y.id∈asked m.sta 0 0:=fun y hy=>by
  obtain ⟨x,_,t⟩:=h.mem hy
  refine List.mem_append_left _ (List.mem_map.2 ⟨y,List.mem_filter.2 ⟨hy,?_⟩,rfl⟩)
  unfold isIn
  simp [t.rdy,t.g,t.cpu]
 have hne:asked m.sta 0 0≠[]:=fun e=>by
  obtain ⟨x,hx⟩:=List.exists_mem_of_ne_nil _ h0
  obtain ⟨i,hi⟩:=List.getElem?_of_mem hx
  obtain ⟨y,hy,_⟩:=h.of hi
  have:=hin y (List.mem_of_getElem? hy)
  rw [e] at this;cases this
 obtain ⟨h1,_,h3⟩:=least_some ho.vs hg hne
 rcases least_two ho.vs hg h1 with ⟨y,hy,_,e⟩ | ⟨k,hk,hkn,_⟩
 ·obtain ⟨i,hi⟩:=List.getElem?_of_mem hy
  obtain ⟨x,hx,t⟩:=h.at hi
  refine ⟨i,y,x,hi,hx,t,?_,fun x' hx'=>?_⟩
  ·show firstG m.sta 0 0=y.id
   rw [firstG_task hg h1 (by rw [e];rfl),e];rfl
  ·obtain ⟨j,hj⟩:=List.getElem?_of_mem hx'
   obtain ⟨y',hy',t'⟩:=h.of hj
   have hlt:=h3 _ (hin y' (List.mem_of_getElem? hy'))
   rw [e,ltM_no] at hlt
   replace hlt:¬ (y'.v<y.v∨(y'.v=y.v∧((0:Int)<0∨((0:Int)=0∧y'.id<y.id)))):=hlt
   have:=vr_min t.run t'.run (by omega:y.v≤y'.v)
   rw [t.w,t'.w] at this
   exact this
 ·rw [sta_len,h.n] at hkn;omega
theorem FS.pick (h:FS m L) {id:Int} (hi:∃ y∈m.ts,y.id=id):FS { m with cu:=upd m.cu 0 id } L:=
 { h with cu:=Or.inr (by obtain ⟨y,hy,e⟩:=hi;exact ⟨y,hy,by show y.id=upd m.cu 0 id 0;rw [upd_same,e]⟩) }
theorem findM_at {ts:List TVw} (h:IdsUp ts) {i:Nat} {y:TVw} (hy:ts[i]?=some y):findM ts y.id=(i:Int):=by
 have hi:=(List.getElem?_eq_some_iff.1 hy).1
 have e:fI ts y.id=i:=fI_of (Nat.le_of_lt hi) (fun j z q hz=>h.lt hz hy q) (fun j z q hz=>by
  rcases Nat.lt_or_ge i j with q2 | q2
  ·have:=h.lt hy hz q2;omega
  ·obtain rfl:j=i:=by omega
   rw [hy] at hz;cases hz;exact Int.le_refl _)
 unfold findM fB
 rw [e,hy,if_pos (by simp)]
theorem FS.tick (h:FS m L) (hL:LOk L) {i:Nat} {y:TVw} {x:Int×Int×Int} (hy:m.ts[i]?=some y) (hx:L[i]?=some x) {d:Int} (hd:0≤d∧d≤4096) (hc:m.cl 0+d≤4194304):FS (tickM0 m 0 i y d) (bump L y.id d):=by
 have t:=h.t i y x hy hx
 have hok:=t.ok (hL.each x (List.mem_of_getElem? hx))
 have hi:=(List.getElem?_eq_some_iff.1 hy).1
 refine { h with len:=by show (m.ts.set i _).length=_;rw [List.length_set,bump_len,h.len],t:=fun j y' x' hy' hx'=>?_,cl:=?_,cu:=?_ }
 ·replace hy':(m.ts.set i (putY y (chgX d (y.v,y.r,y.w))))[j]?=some y':=hy'
  obtain ⟨x0,hx0,rfl⟩:=bump_get hx'
  by_cases q:j=i
  ·subst q
   rw [List.getElem?_set_self hi] at hy'
   cases hy'
   rw [hx] at hx0;cases hx0
   rw [if_pos t.id.symm]
   have hv:=vr_small t.run t.v (hL.each _ (List.mem_of_getElem? hx)).2.2.2
   have hr:=vr_add t.run hok.run (by omega) hd.1 (by omega)
   have hge:y.v≤Ch.addV y.v y.r y.w d:=Ch.addV_ge (t:=d) hok.run hd.1
   exact ⟨t.id,t.w,t.g,t.cpu,t.mask,t.rdy,by show 0≤Ch.addV y.v y.r y.w d;have:=t.v;omega,hr⟩
  ·rw [List.getElem?_set_ne (fun e=>q e.symm)] at hy'
   have t':=h.t j y' x0 hy' hx0
   have hne:x0.1≠y.id:=fun e=>q (by
    have h1:=(h.ids hL)
    have e2:y'.id=y.id:=by rw [t'.id,e]
    rcases Nat.lt_trichotomy j i with r | r | r
    ·have:=h1.lt hy' hy r;omega
    ·exact r
    ·have:=h1.lt hy hy' r;omega)
   rw [if_neg hne]
   exact t'
 ·show 0≤upd m.cl 0 (m.cl 0+d) 0∧upd m.cl 0 (m.cl 0+d) 0≤_
  rw [upd_same]
  have:=h.cl
  omega
 ·refine h.cu.imp_right fun ⟨z,hz,e⟩=>?_
  obtain ⟨j,hj⟩:=List.getElem?_of_mem hz
  by_cases q:j=i
  ·subst q
   rw [hy] at hj;cases hj
   exact ⟨putY y (chgX d (y.v,y.r,y.w)),List.mem_of_getElem? (List.getElem?_set_self hi),e⟩
  ·exact ⟨z,List.mem_of_getElem? ((List.getElem?_set_ne (fun e=>q e.symm)).trans hj),e⟩
end
end Go.Proofs.YtapnaocdehahdaaGreat
