/-
  LagFair: the model's calls, off the meter's blocks; what holds from turn to turn.
-/
import Derived.Test.YtapnaocdehahdaaGreatFrP
import Derived.Test.YtapnaocdehahdaaGreatMdJ
namespace Go.Proofs.YtapnaocdehahdaaGreat
open Go.RowKit Go.Maps Go.IntWalk Go.Lib
set_option linter.unusedVariables false
def MB (B:Nat) (w:World) (x:Nat) (m:MSt):Prop:=∃ L,MIn w x L m∧∀ b,L.lab b≠(0,0)→B≤b
section
variable {B:Nat} {w w':World} {x:Nat} {m m1:MSt} {o:OpV}
theorem MB.later (h:MB B w x m) (hb:Below w.heap.size w w'):MB B w' x m:=by
 obtain ⟨L,h1,h2⟩:=h
 exact ⟨L,h1.below hb,h2⟩
theorem MB.kept {S:List Nat} (h:MB B w x m) (hk:Kept S w w') (hS:∀ b∈S,b<B):MB B w' x m:=by
 obtain ⟨L,h1,h2⟩:=h
 refine ⟨L,h1.kept hk fun b q=>Decidable.byContradiction fun n=>?_,h2⟩
 have:=hS b q
 have:=h2 b n
 omega
theorem MB.done {L:MLay} (h1:MIn w x L m) (h2:∀ b,L.lab b≠(0,0)→B≤b) (hB:B≤w.heap.size) (h:MDid w x (L.all w.heap.size) m1 w'):MB B w' x m1∧Below B w w':=by
 obtain ⟨L',q1,q2,q3⟩:=h
 have hall:∀ b∈L.all w.heap.size,B≤b:=fun b q=>h2 b (of_decide_eq_true (List.mem_filter.1 q).2)
 refine ⟨⟨L',q1,fun b q=>?_⟩,q2.below hall hB⟩
 rcases q3 b q with r | r
 ·exact hall b r
 ·omega
theorem all_lt (L:MLay) (n:Nat):∀ b∈L.all n,b<n:=fun b q=>List.mem_range.1 (List.mem_filter.1 q).1
theorem MB.spawn (h:MB B w x m) (ho:MOk2 m) (ho1:MOk2 (spawnM0 m 0 o)) (hB:B≤w.heap.size) (hkd:o.kind=1) (hk:o.cpu=0) (hc:m.C=1) (hid:1≤o.task∧o.task≤65535) (hg:o.group=0) (hwt:1≤o.weight∧o.weight≤65536) (hmk:o.mask=1) (hall:∀ y∈m.ts,y.id<o.task) :
  Calls Tryz.prog 31 #[.pointer (some ⟨x,0,none⟩),encO o] w fun e w'=>e=.returned (.tuple #[.int .i64 0,.int .i64 0])∧MB B w' x (riseM (spawnM0 m 0 o))∧Below B w w':=by
 obtain ⟨L,h1,h2⟩:=h
 refine (mdo1_at (F:=L.all w.heap.size) (got:=0) h1 ho1 (all_lt _ _) hkd fun W hb=>(mspawn0_at (c:=0) (h1.below hb) ho h1.all_mem (by rw [hk];rfl) (by omega) hid hg hwt (by rw [hmk];decide) (by rw [hmk];decide) (by rw [hmk,hc];decide) (by rw [hmk];decide) hall).mono fun e w' q=>⟨q.1,q.2⟩).mono ?_
 rintro e w' ⟨q1,q2⟩
 exact ⟨q1,MB.done h1 h2 hB q2⟩
theorem MB.pick (h:MB B w x m) (ho:MOk2 m) (ho1:MOk2 { m with cu:=upd m.cu 0 (firstM m.sta 0) }) (hB:B≤w.heap.size) (hkd:o.kind=6) (hk:o.cpu=0) (hc:m.C=1) :
  Calls Tryz.prog 31 #[.pointer (some ⟨x,0,none⟩),encO o] w fun e w'=>e=.returned (.tuple #[.int .i64 (firstM m.sta 0),.int .i64 0])∧MB B w' x (riseM { m with cu:=upd m.cu 0 (firstM m.sta 0) })∧Below B w w':=by
 obtain ⟨L,h1,h2⟩:=h
 refine (mdo6_at (F:=L.all w.heap.size) (got:=firstM m.sta 0) h1 ho1 (all_lt _ _) hkd fun W hb=>(mpick_at (c:=0) (h1.below hb) ho h1.all_mem (by rw [hk];rfl) (by omega)).mono fun e w' q=>⟨q.1,L,q.2.1,q.2.2,fun b r=>Or.inl (h1.all_mem b r)⟩).mono ?_
 rintro e w' ⟨q1,q2⟩
 exact ⟨q1,MB.done h1 h2 hB q2⟩
theorem MB.tick {i:Nat} {y:TVw} (h:MB B w x m) (ho:MOk2 m) (ho1:MOk2 (tickM0 m 0 i y o.ticks)) (hB:B≤w.heap.size) (hkd:o.kind=5) (hk:o.cpu=0) (hc:m.C=1)
  (ht:1≤o.ticks∧o.ticks≤4294967295) (h2:m.cl 0+o.ticks≤281474976710656) (hcu:m.cu 0≠0) (hi:findM m.ts (m.cu 0)=(i:Int)) (hy:m.ts[i]?=some y) (hg:y.g=0) :
  Calls Tryz.prog 31 #[.pointer (some ⟨x,0,none⟩),encO o] w fun e w'=>e=.returned (.tuple #[.int .i64 (m.cu 0),.int .i64 0])∧MB B w' x (riseM (tickM0 m 0 i y o.ticks))∧Below B w w':=by
 obtain ⟨L,h1,hl⟩:=h
 refine (mdo5_at (F:=L.all w.heap.size) (got:=m.cu 0) h1 ho1 (all_lt _ _) hkd fun W hb=>(mtick0_at (c:=0) (h1.below hb) ho h1.all_mem (by rw [hk];rfl) (by omega) ht h2 hcu hi hy hg).mono fun e w' q=>⟨q.1,L,q.2.1,q.2.2,fun b r=>Or.inl (h1.all_mem b r)⟩).mono ?_
 rintro e w' ⟨q1,q2⟩
 exact ⟨q1,MB.done h1 hl hB q2⟩
end
structure NxR (l:List (Int×Int)) (k:Nat) (L:List (Int×Int×Int)) (q:Int):Prop where
 pw:L.map pw=l
 close:Close L (leastW l*1048576) (q*1048576+leastW l)
 q0:0≤q
 q1:q≤4096
 sum:0≤sumR L∧sumR L≤4096*k
theorem pwR_mem {l:List (Int×Int)} {L:List (Int×Int×Int)} (h:L.map pw=l):∀ x∈L,(x.1,x.2.1)∈l:=fun x hx=>by rw [← h];exact List.mem_map.2 ⟨x,hx,rfl⟩
theorem sumW_pwR {l:List (Int×Int)} {L:List (Int×Int×Int)} (h:L.map pw=l):sumW L=sumW (ran0 l):=by
 subst h
 induction L with
 | nil=>rfl
 | cons x r ih=>simp only [sumW,List.map_cons,ran0] at ih ⊢;rw [ih];rfl
theorem nxR_start {l:List (Int×Int)} (h:newCL l=0):NxR l 0 (ran0 l) 0:=by
 obtain ⟨hne,hok,_⟩:=newC_zero h
 obtain ⟨_,xm,hxm,hle⟩:=leastW_spec hne
 have hbm:=okFrom_mem hok xm hxm
 refine ⟨ran0_pw l,fun x hx y hy=>?_,Int.le_refl _,by decide,by rw [ran0_R];omega⟩
 simp only [ran0,List.mem_map] at hx hy
 obtain ⟨a,ha,rfl⟩:=hx
 obtain ⟨b,hb,rfl⟩:=hy
 have h1:=okFrom_mem hok a ha
 have h2:=okFrom_mem hok b hb
 simp only [Int.zero_mul,Int.sub_self,Int.zero_add]
 exact Int.mul_nonneg (Int.mul_nonneg (by omega) (by omega)) (by omega)
theorem lok_of {l:List (Int×Int)} (hn:newCL l=0) {L:List (Int×Int×Int)} (hg:GoodL L) (hp:L.map pw=l) (hs:sumR L≤1048576):LOk L:=by
 obtain ⟨hne,hok,_⟩:=newC_zero hn
 refine ⟨fun x hx=>?_,hg.ids⟩
 have h1:=okFrom_mem hok _ (pwR_mem hp x hx)
 obtain ⟨k,hk⟩:=List.getElem?_of_mem hx
 have hb:=hg.bounds hk
 have h2:=hb.r1
 have h3:=hb.r2
 simp only at h1
 refine ⟨by omega,by omega,h2,by omega⟩
theorem nxR_step {l:List (Int×Int)} (hn:newCL l=0) (h12:l.length≤12) {k:Nat} (hk:k<120) {L:List (Int×Int×Int)} {q:Int} (hg:GoodL L) (h:NxR l k L q) {i:Nat} {x:Int×Int×Int} (hx:L[i]?=some x) (hmin:∀ x'∈L,(x.2.2*x'.2.1 - x'.2.2*x.2.1)*1048576≤x.2.1*x'.2.1) {d:Int} (hd:0≤d) (hd1:d≤4096) :
  runC L x.1 d=0∧runL L x.1 d=bump L x.1 d∧NxR l (k+1) (bump L x.1 d) (max q d)∧NearR (bump L x.1 d) (leastW l) (max q d)∧(Lit.int .i64 x.1).wf=true:=by
 obtain ⟨hne,hok,_⟩:=newC_zero hn
 have hm:=List.mem_of_getElem? hx
 obtain ⟨h1,h2,h3,h4,h5⟩:=h
 have hi:∃ y∈L,y.1=x.1:=⟨x,hm,rfl⟩
 have hc:runC L x.1 d=0:=runC_zero hd (by omega) hi (by omega)
 obtain ⟨hl1,xm,hxm,hle⟩:=leastW_spec hne
 have hbm:=okFrom_mem hok xm hxm
 have hw:=sumW_take_le hok
 have hcl:Close (bump L x.1 d) (leastW l*1048576) (max q d*1048576+leastW l):=closeR_run hg.fine hg.ids (closeR_mono hg.fine h2 (by omega)) hd (by omega) (by omega) (fun x hx=>hl1 _ (pwR_mem h1 x hx)) hm hmin
 have hsum:sumR (bump L x.1 d)=sumR L+d:=bump_R _ _ _ hg.ids hi
 have e:runL L x.1 d=bump L x.1 d:=if_pos hc
 have hgb:GoodL (bump L x.1 d):=hg.bump hi hd (by omega)
 refine ⟨hc,e,⟨by rw [bump_pw];exact h1,hcl,by omega,by omega,by omega⟩,closeR_near hgb hcl (by omega) (by omega) (by omega) (by rw [bump_W,sumW_pwR h1];omega),?_⟩
 have:=okFrom_mem hok _ (pwR_mem h1 x hm)
 simp only at this
 exact WalkArith.wf_i64 (by omega)
end Go.Proofs.YtapnaocdehahdaaGreat
