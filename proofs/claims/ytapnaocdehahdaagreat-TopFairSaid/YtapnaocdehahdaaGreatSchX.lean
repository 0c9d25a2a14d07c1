/-
  Layer 31 (sched), in plain words: which task a balance moves.
-/
import Derived.Test.YtapnaocdehahdaaGreatSchH
import Derived.Test.YtapnaocdehahdaaGreatKitZ
namespace Go.Proofs.YtapnaocdehahdaaGreat
open Go.RowKit Go.Maps Go.IntWalk Go.Lib
set_option linter.unusedVariables false
set_option linter.unusedSimpArgs false
def fromF (ld:Nat→Int) (k:Nat):Nat→Int
 | 0=>-1
 | j+1=>if j≠k∧(fromF ld k j<0∨ld j > ld (fromF ld k j).toNat) then (j:Int) else fromF ld k j
theorem fromF_in (ld:Nat→Int) (k:Nat):∀ j,-1≤fromF ld k j∧fromF ld k j<(j:Int)∧fromF ld k j≠(k:Int)
 | 0=>⟨Int.le_refl _,(by decide:(-1:Int)<0),by show (-1:Int)≠(k:Int);omega⟩
 | j+1=>by
  obtain ⟨h1,h2,h3⟩:=fromF_in ld k j
  unfold fromF
  split
  ·rename_i h
   refine ⟨by omega,by omega,?_⟩
   intro e
   exact h.1 (by omega)
  ·exact ⟨h1,by omega,h3⟩
def wOf (s:SSt) (id:Int):Int:=match s.T id with
 | some t=>t.w
 | none=>0
def onFrom (s:SSt) (f:Int) (id:Int):Bool:=match s.T id with
 | some t=>t.rdy && decide ((t.cpu:Int)=f)
 | none=>false
def candT (s:SSt) (k:Nat) (f:Int) (id:Int) (t:Tsk):Bool:=!decide (s.cu f.toNat=id) && (bitM t.mask k && !decide (2*t.w > s.ld f.toNat - s.ld k))
def candB (s:SSt) (k:Nat) (f:Int) (id:Int):Bool:=match s.T id with
 | some t=>t.rdy && decide ((t.cpu:Int)=f) && candT s k f id t
 | none=>false
def befT (s:SSt) (a b:Int):Bool:=decide (wOf s a > wOf s b) || (decide (wOf s a=wOf s b) && decide (a<b))
def bestStep (s:SSt) (k:Nat) (f:Int) (b id:Int):Int:=if candB s k f id=true∧(b=0∨befT s id b=true) then id else b
def seenStep (s:SSt) (f:Int) (n:Nat) (id:Int):Nat:=if onFrom s f id=true then n+1 else n
def IsBest (s:SSt) (k:Nat) (f:Int) (l:List Int) (b:Int):Prop:=(b=0∧∀ c∈l,candB s k f c=false)∨(b≠0∧b∈l∧candB s k f b=true∧∀ c∈l,candB s k f c=true→c=b∨befT s b c=true)
theorem befT_tot {s:SSt} {a b:Int} (h:befT s a b=false):a=b∨befT s b a=true:=by
 unfold befT at *
 simp only [Bool.or_eq_false_iff,Bool.and_eq_false_iff,decide_eq_false_iff_not,Bool.or_eq_true,Bool.and_eq_true,decide_eq_true_eq] at *
 omega
theorem befT_tr {s:SSt} {a b c:Int} (h:befT s a b=true) (i:befT s b c=true):befT s a c=true:=by
 unfold befT at *
 simp only [Bool.or_eq_true,Bool.and_eq_true,decide_eq_true_eq] at *
 omega
theorem befT_as {s:SSt} {a b:Int} (h:befT s a b=true) (i:befT s b a=true):a=b:=by
 unfold befT at *
 simp only [Bool.or_eq_true,Bool.and_eq_true,decide_eq_true_eq] at *
 omega
theorem IsBest.step {s:SSt} {k:Nat} {f:Int} {l:List Int} {b id:Int} (h:IsBest s k f l b) (h0:id≠0):IsBest s k f (l++[id]) (bestStep s k f b id):=by
 have mm:∀ c,c∈l++[id]↔c∈l∨c=id:=fun c=>by simp
 unfold bestStep
 split
 ·rename_i hc
  refine Or.inr ⟨h0,by simp,hc.1,fun c hm hcc=>?_⟩
  rcases (mm c).1 hm with q | q
  ·rcases h with ⟨_,h2⟩ | ⟨h1,h2,h3,h4⟩
   ·rw [h2 c q] at hcc;cases hcc
   ·rcases hc.2 with e | e
    ·exact absurd e h1
    ·rcases h4 c q hcc with r | r
     ·subst r;exact Or.inr e
     ·exact Or.inr (befT_tr e r)
  ·exact Or.inl q
 ·rename_i hc
  rcases h with ⟨h1,h2⟩ | ⟨h1,h2,h3,h4⟩
  ·refine Or.inl ⟨h1,fun c hm=>?_⟩
   rcases (mm c).1 hm with q | q
   ·exact h2 c q
   ·subst q
    cases e:candB s k f c with
    | false=>rfl
    | true=>exact absurd ⟨e,Or.inl h1⟩ hc
  ·refine Or.inr ⟨h1,(mm b).2 (Or.inl h2),h3,fun c hm hcc=>?_⟩
   rcases (mm c).1 hm with q | q
   ·exact h4 c q hcc
   ·subst q
    cases e:befT s c b with
    | true=>exact absurd ⟨hcc,Or.inr e⟩ hc
    | false=>exact befT_tot e
theorem IsBest.uniq {s:SSt} {k:Nat} {f:Int} {l l':List Int} {b b':Int} (h:IsBest s k f l b) (h':IsBest s k f l' b') (hl:∀ c,c∈l↔c∈l'):b=b':=by
 rcases h with ⟨h1,h2⟩ | ⟨h1,h2,h3,h4⟩
 ·rcases h' with ⟨i1,i2⟩ | ⟨i1,i2,i3,i4⟩
  ·rw [h1,i1]
  ·rw [h2 _ ((hl _).2 i2)] at i3;cases i3
 ·rcases h' with ⟨i1,i2⟩ | ⟨i1,i2,i3,i4⟩
  ·rw [i2 _ ((hl _).1 h2)] at h3;cases h3
  ·rcases h4 b' ((hl _).2 i2) i3 with q | q
   ·exact q.symm
   ·rcases i4 b ((hl _).1 h2) h3 with r | r
    ·exact r
    ·exact befT_as q r
def keysL (s:SSt):List Int:=((List.range 65536).map fun (i:Nat)=>(i:Int)).filter fun id=>(s.T id).isSome
theorem keysL_mem {s:SSt} (h:SOk s) (id:Int):id∈keysL s↔(s.T id).isSome=true:=by
 unfold keysL
 rw [List.mem_filter]
 constructor
 ·exact fun q=>q.2
 ·intro q
  refine ⟨?_,q⟩
  obtain ⟨t,ht⟩:=Option.isSome_iff_exists.1 q
  have:=(h.task id t ht).1
  exact List.mem_map.2 ⟨id.toNat,List.mem_range.2 (by omega),by omega⟩
theorem keysL_nod (s:SSt):(keysL s).Nodup:=by
 unfold keysL
 refine List.Pairwise.filter _ (List.pairwise_map.2 (List.nodup_range.imp fun {a b} h e=>h (by omega)))
def bestI (s:SSt) (k:Nat) (f:Int):Int:=(keysL s).foldl (bestStep s k f) 0
def seenI (s:SSt) (f:Int):Nat:=((keysL s).filter (onFrom s f)).length
theorem best_fold {s:SSt} {k:Nat} {f:Int}:∀ (l:List Int) (m:List Int) (b:Int),(∀ id∈l,id≠0)→IsBest s k f m b→IsBest s k f (m++l) (l.foldl (bestStep s k f) b)
 | [],m,b,_,h=>by simpa using h
 | x::r,m,b,h0,h=>by
  have:=best_fold r (m++[x]) (bestStep s k f b x) (fun id q=>h0 id (List.mem_cons_of_mem _ q)) (h.step (h0 x (by simp)))
  rw [List.append_assoc] at this
  exact this
theorem bestI_is {s:SSt} (h:SOk s) (k:Nat) (f:Int):IsBest s k f (keysL s) (bestI s k f):=by
 have:=best_fold (s:=s) (k:=k) (f:=f) (keysL s) [] 0 (fun id q=>by
  obtain ⟨t,ht⟩:=Option.isSome_iff_exists.1 ((keysL_mem h id).1 q)
  have:=(h.task id t ht).1
  omega) (Or.inl ⟨rfl,fun c q=>by cases q⟩)
 rw [List.nil_append] at this
 unfold bestI
 exact this
theorem seen_step {s:SSt} {f:Int} (l:List Int) (id:Int):seenStep s f (l.filter (onFrom s f)).length id=((l++[id]).filter (onFrom s f)).length:=by
 unfold seenStep
 rw [List.filter_append,List.length_append]
 cases e:onFrom s f id <;> simp [e]
theorem seen_all {s:SSt} (h:SOk s) {f:Int} {l:List Int} (hn:l.Nodup) (hl:∀ id,id∈l↔(s.T id).isSome=true):(l.filter (onFrom s f)).length=seenI s f:=by
 refine List.Perm.length_eq (List.Perm.filter _ ?_)
 exact (List.perm_ext_iff_of_nodup hn (keysL_nod s)).2 fun id=>(hl id).trans (keysL_mem h id).symm
theorem seenI_le {s:SSt} (h:SOk s) (f:Int):seenI s f≤s.c:=by
 obtain ⟨L,hn,hl,hm,_⟩:=h.keys
 have e:=seen_all (f:=f) h hn fun id=>by
  rw [hm id]
  cases s.T id <;> simp
 rw [← e,← hl]
 exact List.length_filter_le _ _
def fromI (s:SSt) (k:Nat):Int:=fromF s.ld k s.C
def balB (s:SSt) (k:Nat):Int:=bestI s k (fromI s k)
def balC (s:SSt) (k:Nat):Int:=if balB s k=0 then 6 else 0
def balS (s:SSt) (k:Nat):SSt:=if balB s k=0 then s else match s.T (balB s k) with
 | some t=>mvS { s with wk:=(seenI s (fromI s k):Nat) } (balB s k) t k
 | none=>s
theorem balB_is {s:SSt} (h:SOk s) {k:Nat} (h0:balB s k≠0):∃ t,s.T (balB s k)=some t∧t.rdy=true∧(t.cpu:Int)=fromI s k∧s.cu t.cpu≠balB s k:=by
 rcases bestI_is h k (fromI s k) with ⟨q,_⟩ | ⟨_,_,h3,_⟩
 ·exact absurd q h0
 ·unfold candB at h3
  cases hT:s.T (bestI s k (fromI s k)) with
  | none=>rw [hT] at h3;cases h3
  | some t =>
   rw [hT] at h3
   simp only [Bool.and_eq_true,decide_eq_true_eq] at h3
   refine ⟨t,hT,h3.1.1,h3.1.2,?_⟩
   unfold candT at h3
   simp only [Bool.and_eq_true,Bool.not_eq_true',decide_eq_false_iff_not] at h3
   have:=h3.2.1
   have e:(fromI s k).toNat=t.cpu:=by omega
   rw [e] at this
   exact this
theorem SOk.bal {s:SSt} (h:SOk s) {k:Nat} (hk:k<s.C):SOk (balS s k):=by
 unfold balS
 split
 ·exact h
 ·rename_i h0
  obtain ⟨t,hT,hr,_,hc⟩:=balB_is h h0
  rw [hT]
  exact (h.work _).move (s:={ s with wk:=(seenI s (fromI s k):Nat) }) hT hk fun _=>hc
end Go.Proofs.YtapnaocdehahdaaGreat
