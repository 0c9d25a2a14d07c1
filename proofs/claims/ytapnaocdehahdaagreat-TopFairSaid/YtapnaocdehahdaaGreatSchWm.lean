/-
  Layer 31 (sched), in plain words: how much work an operation has; what is refused changes nothing.
-/
import Derived.Test.YtapnaocdehahdaaGreatSchD
namespace Go.Proofs.YtapnaocdehahdaaGreat
open Go.RowKit Go.Maps Go.IntWalk Go.Lib
set_option linter.unusedVariables false
set_option linter.unusedSimpArgs false
theorem upL_path (P:Nat→Nat):∀ g,(upL P g).length=(pathT P g).length+1:=by
 intro g
 induction g using Nat.strongRecOn with
 | ind g ih =>
  rw [upL,pathT]
  split
  ·rename_i h
   rw [List.length_cons,List.length_cons,ih _ h.2]
  ·rfl
theorem path_deep {Gs:Grps} (h:RightG Gs) {g:Nat} (hg:g<Gs.length):(pathT (parG Gs) g).length≤4:=by
 by_cases h0:g=0
 ·subst h0;rw [pathT_zero];exact Nat.zero_le _
 ·have:=(gErr_par (h.rest g (by omega) hg)).2.2.2.2
  rw [upL_path] at this
  omega
theorem path_next {Gs:Grps} (h:RightG Gs) {g:Nat} (hg:g<Gs.length) (h0:0<g):(pathT (parG Gs) g).length=(pathT (parG Gs) (parG Gs g)).length+1:=by
 rw [pathT_pos h0 ((h.par hg).2.1 h0),List.length_cons]
theorem SOk.enLe {s:SSt} (h:SOk s) {k g:Nat} (hk:k<s.C) (hg:g<s.n) (id:Int) (x:Ent):enW (s.Q k) g id x≤5:=by
 unfold enW
 rw [h.gs k hk]
 have:=enK_le (parG s.Gs) (pathT (parG s.Gs) g) (enT (enQ (s.Q k) g id x) g id) ((s.Q k).M g).isEmpty
 have:=path_deep h.right hg
 omega
theorem SOk.lvLe {s:SSt} (h:SOk s) {k g:Nat} (hk:k<s.C) (hg:g<s.n) (id:Int):lvW (s.Q k) g id≤5:=by
 unfold lvW
 rw [h.gs k hk]
 have:=lvK_le (parG s.Gs) (pathT (parG s.Gs) g) (lvT (lvQ (s.Q k) g id) id)
 have:=path_deep h.right hg
 omega
theorem frF_deep {s:TSt} (h:TOk s) (hr:RightG s.Gs):∀ (f g k:Nat),g<s.n→(frF s f g k).2≤k+(5 - (pathT (parG s.Gs) g).length)
 | 0,g,k,hg=>Nat.le_add_right _ _
 | f+1,g,k,hg=>by
  have hd:=path_deep hr hg
  unfold frF
  by_cases he:(s.M g).isEmpty=true
  ·rw [if_pos he];simp only;omega
  ·rw [if_neg he]
   by_cases h6:firstI (s.M g)<65536
   ·rw [if_pos h6];simp only;omega
   ·rw [if_neg h6]
    have hin:=first_in (M:=s.M g) (by simpa using he)
    rcases h.core.ids g _ hin with ⟨q,_⟩ | ⟨c,c0,cn,ce,cp⟩
    ·omega
    ·have e2:(firstI (s.M g) - 65536).toNat=c:=by omega
     rw [e2]
     have h1:=frF_deep h hr f c (k+1) cn
     have h2:=path_next hr cn c0
     have h3:=path_deep hr cn
     rw [cp] at h2
     omega
theorem SOk.frLe {s:SSt} (h:SOk s) {k:Nat} (hk:k<s.C):(frT (s.Q k)).2≤5:=by
 have hr:RightG (s.Q k).Gs:=by rw [h.gs k hk];exact h.right
 have:=frF_deep (h.tree k hk) hr (s.Q k).n 0 0 hr.pos
 rw [pathT_zero] at this
 simpa [frT] using this
def mostW (o:OpV) (C:Nat) (c:Nat):Int:=if o.kind=8 then (C:Int) else if o.kind=10 then 10+(c:Int) else 10
structure Refuse (s:SSt) (r:Int×Int×SSt):Prop where
 ok:r.2.1≠0→r.1=0∧r.2.2=s
theorem mvS_wk {s:SSt} (h:SOk s) {id:Int} {t:Tsk} {j:Nat} (hT:s.T id=some t) (hj:j<s.C) (hc:t.rdy=true→s.cu t.cpu≠id):s.wk≤(mvS s id t j).wk∧(mvS s id t j).wk≤s.wk+10∧(mvS s id t j).c=s.c:=by
 have ht:=(h.task id t hT).2
 unfold mvS
 cases hr:t.rdy with
 | false=>rw [if_neg (by simp)];exact ⟨Int.le_refl _,by show s.wk≤s.wk+10;omega,rfl⟩
 | true =>
  rw [if_pos rfl]
  have h1:=h.leave hT hr (hc hr)
  have e1:=h.lvLe ht.cpu ht.g id
  have e2:enW ((lvS s id t).Q j) t.g id (mvT (offT s id t) ((s.Q t.cpu).fl t.g) ((s.Q j).fl t.g) j).run≤5:=h1.enLe hj ht.g _ _
  refine ⟨?_,?_,rfl⟩
  ·show s.wk≤s.wk+(lvW (s.Q t.cpu) t.g id:Nat)+(enW ((lvS s id t).Q j) t.g id (mvT (offT s id t) ((s.Q t.cpu).fl t.g) ((s.Q j).fl t.g) j).run:Nat)
   omega
  ·show s.wk+(lvW (s.Q t.cpu) t.g id:Nat)+(enW ((lvS s id t).Q j) t.g id (mvT (offT s id t) ((s.Q t.cpu).fl t.g) ((s.Q j).fl t.g) j).run:Nat)≤s.wk+10
   omega
theorem SOk.refuse {s:SSt} (h:SOk s) (o:OpV):Refuse s (opR s o):=by
 constructor
 have hstop:∀ k,stopC s k≠0→s.cu k=0∧stopS s k=s∧exitS s k=s:=fun k hc=>by
  have h0:s.cu k=0:=by
   unfold stopC at hc
   exact Decidable.byContradiction fun e=>hc (if_neg e)
  refine ⟨h0,?_,?_⟩
  ·unfold stopS;rw [h0,h.zero]
  ·unfold exitS;rw [if_pos h0]
 by_cases e1:o.kind=1
 ·rw [opR_1 e1]
  by_cases q0:hasV (s.C:Int) o.cpu=true
  ·rw [if_pos q0];dsimp only;intro q
   exact ⟨rfl,by unfold spS;rw [if_neg q]⟩
  ·rw [if_neg q0];exact fun _=>⟨rfl,rfl⟩
 by_cases e2:o.kind=2
 ·rw [opR_2 e2]
  by_cases q0:nameV o.task=true
  ·rw [if_pos q0];dsimp only;intro q
   refine ⟨rfl,?_⟩
   unfold awC at q;unfold awS
   split
   ·rfl
   ·rename_i t hT
    rw [hT] at q
    split
    ·rfl
    ·rename_i hr;exact absurd (if_neg hr) q
  ·rw [if_neg q0];exact fun _=>⟨rfl,rfl⟩
 by_cases e3:o.kind=3
 ·rw [opR_3 e3]
  by_cases q0:hasV (s.C:Int) o.cpu=true
  ·rw [if_pos q0];dsimp only;intro q
   exact ⟨(hstop _ q).1,(hstop _ q).2.1⟩
  ·rw [if_neg q0];exact fun _=>⟨rfl,rfl⟩
 by_cases e4:o.kind=4
 ·rw [opR_4 e4]
  by_cases q0:hasV (s.C:Int) o.cpu=true
  ·rw [if_pos q0];dsimp only;intro q
   exact ⟨(hstop _ q).1,(hstop _ q).2.2⟩
  ·rw [if_neg q0];exact fun _=>⟨rfl,rfl⟩
 by_cases e5:o.kind=5
 ·rw [opR_5 e5]
  by_cases q0:hasV (s.C:Int) o.cpu=true
  ·rw [if_pos q0];dsimp only;intro q
   exact ⟨by unfold tickG;rw [if_neg q],by unfold tickS;rw [if_neg q]⟩
  ·rw [if_neg q0];exact fun _=>⟨rfl,rfl⟩
 by_cases e6:o.kind=6
 ·rw [opR_6 e6]
  by_cases q0:hasV (s.C:Int) o.cpu=true
  ·rw [if_pos q0];dsimp only;intro q
   exact absurd rfl q
  ·rw [if_neg q0];exact fun _=>⟨rfl,rfl⟩
 by_cases e7:o.kind=7
 ·rw [opR_7 e7]
  by_cases q0:nameV o.task=true
  ·rw [if_pos q0];dsimp only;intro q
   refine ⟨rfl,?_⟩
   unfold reC at q;unfold reS
   split
   ·rename_i hw
    rw [if_pos hw] at q
    split
    ·rfl
    ·rename_i t hT;rw [hT] at q;exact absurd rfl q
   ·rfl
  ·rw [if_neg q0];exact fun _=>⟨rfl,rfl⟩
 by_cases e8:o.kind=8
 ·rw [opR_8 e8]
  intro q;exact ⟨rfl,by dsimp only at q ⊢;unfold rgT;rw [if_neg q]⟩
 by_cases e9:o.kind=9
 ·rw [opR_9 e9]
  intro q;exact ⟨rfl,by dsimp only at q ⊢;unfold mgS;rw [if_neg q]⟩
 by_cases e10:o.kind=10
 ·rw [opR_10 e10]
  by_cases q0:hasV (s.C:Int) o.cpu=true
  ·rw [if_pos q0];dsimp only;intro q
   have h0:balB s o.cpu.toNat=0:=by
    unfold balC at q
    exact Decidable.byContradiction fun e=>q (if_neg e)
   exact ⟨h0,by unfold balS;rw [if_pos h0]⟩
  ·rw [if_neg q0];exact fun _=>⟨rfl,rfl⟩
 rw [opR_0 (by omega)];exact fun _=>⟨rfl,rfl⟩
theorem nd_le {a b:List Int} (ha:a.Nodup) (h:∀ x∈a,x∈b):a.length≤b.length:=by
 induction a generalizing b with
 | nil=>exact Nat.zero_le _
 | cons x r ih =>
  have hn:=List.nodup_cons.1 ha
  have hx:=h x (by simp)
  have:=ih hn.2 (b:=b.erase x) fun y hy=>(List.mem_erase_of_ne (fun e:y=x=>hn.1 (by rw [← e];exact hy))).2 (h y (by simp [hy]))
  rw [List.length_erase_of_mem hx] at this
  have hp:0<b.length:=List.length_pos_of_mem hx
  rw [List.length_cons];omega
theorem mg_ok {s:SSt} {o:OpV} {t:Tsk} (hT:s.T o.task=some t) (hc:mgC s o=0):o.dst.toNat<s.C∧s.cu t.cpu≠o.task:=by
 unfold mgC at hc
 split at hc
 ·exact absurd hc (by decide)
 ·rename_i h1
  split at hc
  ·exact absurd hc (by decide)
  ·rw [hT] at hc
   simp only at hc
   split at hc
   ·exact absurd hc (by decide)
   ·rename_i h2
    refine ⟨?_,h2⟩
    unfold hasV at h1
    simp at h1
    omega
theorem seen_le {s:SSt} (h:SOk s) (f:Int):seenI s f≤s.c:=by
 obtain ⟨L,hn,hl,hm,_⟩:=h.keys
 unfold seenI
 refine Nat.le_trans (List.length_filter_le _ _) ?_
 rw [← hl]
 refine nd_le (keysL_nod s) fun id q=>?_
 have:=(keysL_mem h id).1 q
 exact (hm id).2 (by intro e;rw [e] at this;cases this)
theorem SOk.mostLe {s:SSt} (h:SOk s) {o:OpV} (hwf:o.Wf) (hw:s.wk=0):0≤(opR s o).2.2.wk∧(opR s o).2.2.wk≤mostW o s.C (opR s o).2.2.c:=by
 have hz:0≤s.wk∧s.wk≤mostW o s.C s.c:=by
  rw [hw];unfold mostW
  refine ⟨Int.le_refl _,?_⟩
  split
  ·omega
  ·split <;> omega
 by_cases hc:(opR s o).2.1≠0
 ·rw [((h.refuse o).ok hc).2];exact hz
 have h10:o.kind≠8→∀ c:Nat,(10:Int)≤mostW o s.C c:=fun e c=>by
  unfold mostW
  rw [if_neg e]
  split <;> omega
 have up:∀ c:Nat,o.kind≠8→∀ v:Nat,v≤10→0≤s.wk+(v:Int)∧s.wk+(v:Int)≤mostW o s.C c:=fun c e v hv=>by
  have:=h10 e c
  rw [hw];omega
 have st:∀ k,k<s.C→∀ c:Nat,o.kind≠8→0≤(stopS s k).wk∧(stopS s k).wk≤mostW o s.C c:=fun k hk c e=>by
  unfold stopS
  split
  ·rename_i t hT
   have ht:=(h.task _ t hT).2
   exact up c e _ (Nat.le_trans (h.lvLe ht.cpu ht.g _) (by decide))
  ·rw [hw]
   have:=h10 e c
   omega
 have z8:∀ c:Nat,o.kind≠8→0≤s.wk∧s.wk≤mostW o s.C c:=fun c e=>by
  have:=h10 e c
  rw [hw];omega
 by_cases e1:o.kind=1
 ·rw [opR_1 e1]
  have n8:o.kind≠8:=by omega
  by_cases q0:hasV (s.C:Int) o.cpu=true
  ·rw [if_pos q0];dsimp only
   have hk:=(has_nat q0).1
   unfold spS
   split
   ·rename_i hcc
    have hb:=h.born hk hwf hcc
    have hg:o.group.toNat<s.n:=by have:=hb.2.2.1;omega
    exact up _ n8 _ (Nat.le_trans (hb.1.enLe hk hg _ _) (by decide))
   ·exact z8 _ n8
  ·rw [if_neg q0];exact z8 _ n8
 by_cases e2:o.kind=2
 ·rw [opR_2 e2]
  have n8:o.kind≠8:=by omega
  by_cases q0:nameV o.task=true
  ·rw [if_pos q0];dsimp only
   unfold awS
   split
   ·exact z8 _ n8
   ·rename_i t hT
    have ht:=(h.task _ t hT).2
    split
    ·exact z8 _ n8
    ·exact up _ n8 _ (Nat.le_trans (h.enLe ht.cpu ht.g _ _) (by decide))
  ·rw [if_neg q0];exact z8 _ n8
 by_cases e3:o.kind=3
 ·rw [opR_3 e3]
  have n8:o.kind≠8:=by omega
  by_cases q0:hasV (s.C:Int) o.cpu=true
  ·rw [if_pos q0];dsimp only
   have hk:=(has_nat q0).1
   exact st _ hk _ n8
  ·rw [if_neg q0];exact z8 _ n8
 by_cases e4:o.kind=4
 ·rw [opR_4 e4]
  have n8:o.kind≠8:=by omega
  by_cases q0:hasV (s.C:Int) o.cpu=true
  ·rw [if_pos q0];dsimp only
   have hk:=(has_nat q0).1
   unfold exitS
   split
   ·exact z8 _ n8
   ·exact st _ hk _ n8
  ·rw [if_neg q0];exact z8 _ n8
 by_cases e5:o.kind=5
 ·rw [opR_5 e5]
  have n8:o.kind≠8:=by omega
  by_cases q0:hasV (s.C:Int) o.cpu=true
  ·rw [if_pos q0];dsimp only
   have hk:=(has_nat q0).1
   unfold tickS
   split
   ·split
    ·rename_i t hT
     have ht:=(h.task _ t hT).2
     have:=path_deep h.right ht.g
     exact up _ n8 _ (by show 1+(pathT (parG s.Gs) t.g).length≤10;omega)
    ·exact z8 _ n8
   ·exact z8 _ n8
  ·rw [if_neg q0];exact z8 _ n8
 by_cases e6:o.kind=6
 ·rw [opR_6 e6]
  have n8:o.kind≠8:=by omega
  by_cases q0:hasV (s.C:Int) o.cpu=true
  ·rw [if_pos q0];dsimp only
   have hk:=(has_nat q0).1
   have:=h.frLe hk
   have:=h10 n8 s.c
   show 0≤(((frT (s.Q o.cpu.toNat)).2:Nat):Int)∧(((frT (s.Q o.cpu.toNat)).2:Nat):Int)≤mostW o s.C s.c
   omega
  ·rw [if_neg q0];exact z8 _ n8
 by_cases e7:o.kind=7
 ·rw [opR_7 e7]
  have n8:o.kind≠8:=by omega
  by_cases q0:nameV o.task=true
  ·rw [if_pos q0];dsimp only
   unfold reS
   split
   ·split
    ·exact z8 _ n8
    ·split
     ·exact up _ n8 1 (by decide)
     ·exact z8 _ n8
   ·exact z8 _ n8
  ·rw [if_neg q0];exact z8 _ n8
 by_cases e8:o.kind=8
 ·rw [opR_8 e8]
  dsimp only
  unfold rgT
  split
  ·show 0≤s.wk+((rgCnt s o.group.toNat s.C:Nat):Int)∧s.wk+((rgCnt s o.group.toNat s.C:Nat):Int)≤mostW o s.C _
   have:=rgCnt_le s o.group.toNat s.C
   unfold mostW
   rw [if_pos e8,hw];omega
  ·rw [hw];unfold mostW;rw [if_pos e8];omega
 by_cases e9:o.kind=9
 ·rw [opR_9 e9]
  have n8:o.kind≠8:=by omega
  dsimp only
  unfold mgS
  split
  ·rename_i hcc
   split
   ·exact z8 _ n8
   ·rename_i t hT
    have:=mvS_wk h hT (mg_ok hT hcc).1 (fun _=>(mg_ok hT hcc).2)
    have:=h10 n8 (mvS s o.task t o.dst.toNat).c
    omega
  ·exact z8 _ n8
 by_cases e10:o.kind=10
 ·rw [opR_10 e10]
  have n8:o.kind≠8:=by omega
  by_cases q0:hasV (s.C:Int) o.cpu=true
  ·rw [if_pos q0];dsimp only
   have hk:=(has_nat q0).1
   unfold balS
   split
   ·exact z8 _ n8
   ·rename_i hb
    obtain ⟨t,hT,hr,hf,hcu⟩:=balB_is h hb
    rw [hT]
    dsimp only
    have hs:=seen_le h (fromI s o.cpu.toNat)
    have hm:=mvS_wk (s:={ s with wk:=(seenI s (fromI s o.cpu.toNat):Nat) }) (h.work _) hT hk (fun _=>hcu)
    obtain ⟨m1,m2,m3⟩:=hm
    have e3:mostW o s.C (mvS { s with wk:=(seenI s (fromI s o.cpu.toNat):Nat) } (balB s o.cpu.toNat) t o.cpu.toNat).c=10+(s.c:Int):=by rw [m3];unfold mostW;rw [if_neg n8,if_pos e10]
    rw [e3]
    replace m1:((seenI s (fromI s o.cpu.toNat):Nat):Int)≤_:=m1
    replace m2:_≤((seenI s (fromI s o.cpu.toNat):Nat):Int)+10:=m2
    omega
  ·rw [if_neg q0];exact z8 _ n8
 rw [opR_0 (by omega)];exact hz
end Go.Proofs.YtapnaocdehahdaaGreat
