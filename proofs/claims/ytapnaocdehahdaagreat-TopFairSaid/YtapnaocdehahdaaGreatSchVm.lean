/-
  Layer 31 (sched), in plain words: what is asked of a scheduler is what its tasks say.
-/
import Derived.Test.YtapnaocdehahdaaGreatSchWt
namespace Go.Proofs.YtapnaocdehahdaaGreat
open Go.RowKit Go.Maps Go.IntWalk Go.Lib
set_option linter.unusedVariables false
set_option linter.unusedSimpArgs false
theorem nd_perm {a b:List Int} (ha:a.Nodup) (h:∀ x∈a,x∈b) (hl:a.length=b.length):a.Perm b:=by
 induction a generalizing b with
 | nil=>cases b with
  | nil=>exact List.Perm.refl _
  | cons y r=>simp at hl
 | cons x r ih =>
  have hn:=List.nodup_cons.1 ha
  have hx:=h x (by simp)
  have hp:0<b.length:=List.length_pos_of_mem hx
  have:=ih (b:=b.erase x) hn.2 (fun y hy=>(List.mem_erase_of_ne (fun e:y=x=>hn.1 (by rw [← e];exact hy))).2 (h y (by simp [hy]))) (by rw [List.length_erase_of_mem hx];rw [List.length_cons] at hl;omega)
  exact (List.Perm.cons x this).trans (List.perm_cons_erase hx).symm
section
variable {s:SSt}
theorem SOk.keysP (h:SOk s):∃ L:List Int,L.Nodup∧L.length=s.c∧L.Perm (keysL s)∧∀ k,k<s.C→s.ld k=(L.map (wtOf s.T k)).sum:=by
 obtain ⟨L,hn,hl,hm,hs⟩:=h.keys
 have e:∀ id,id∈L↔id∈keysL s:=fun id=>by
  rw [hm,keysL_mem h]
  cases s.T id <;> simp
 have h1:=nd_le hn fun x hx=>(e x).1 hx
 have h2:=nd_le (keysL_nod s) fun x hx=>(e x).2 hx
 exact ⟨L,hn,hl,nd_perm hn (fun x hx=>(e x).1 hx) (by omega),hs⟩
theorem SOk.keys_len (h:SOk s):(keysL s).length=s.c:=by
 obtain ⟨L,_,hl,hp,_⟩:=h.keysP
 rw [← hl,hp.length_eq]
theorem SOk.loads (h:SOk s) {k:Nat} (hk:k<s.C):s.ld k=((keysL s).map (wtOf s.T k)).sum:=by
 obtain ⟨L,_,_,hp,hs⟩:=h.keysP
 rw [hs k hk]
 exact sum_perm (hp.map _)
theorem wt_pos (h:SOk s) (k:Nat) (id:Int):0≤wtOf s.T k id:=by
 unfold wtOf
 split
 ·rename_i t ht
  have:=(h.task id t ht).2.w
  split <;> omega
 ·exact Int.le_refl _
theorem sum_pos {f:Int→Int}:∀ {L:List Int},(∀ x∈L,0≤f x)→(L.map f).sum=0→∀ x∈L,f x=0
 | [],_,_=>fun x hx=>by cases hx
 | a::r,h,hs=>fun x hx=>by
  rw [List.map_cons,List.sum_cons] at hs
  have h1:=h a (by simp)
  have h2:0≤(r.map f).sum:=by
   clear hs hx
   induction r with
   | nil=>exact Int.le_refl _
   | cons b r ih =>
    rw [List.map_cons,List.sum_cons]
    have:=h b (by simp)
    have:=ih fun x hx=>h x (by
     rcases List.mem_cons.1 hx with q | q
     ·simp [q]
     ·simp [q])
    omega
  rcases List.mem_cons.1 hx with q | q
  ·rw [q];omega
  ·exact sum_pos (fun x hx=>h x (by simp [hx])) (by omega) x q
theorem SOk.first_zero (h:SOk s) {k:Nat} (hk:k<s.C):(frT (s.Q k)).1=0↔s.ld k=0:=by
 rw [h.loads hk]
 constructor
 ·intro h0
  have hem:((s.Q k).M 0).isEmpty=true:=by
   cases e:((s.Q k).M 0).isEmpty with
   | true=>rfl
   | false =>
    rw [frT_lead] at h0
    obtain ⟨L,id,e1,hL⟩:=lead_ok (h.tree k hk) e
    rw [e1] at h0
    have:=(hL.last (L.length - 1) (by have:=hL.pos;omega)).2.1
    replace h0:id=0:=h0
    omega
  have hz:∀ id∈keysL s,wtOf s.T k id=0:=fun id _=>by
   unfold wtOf
   split
   ·rename_i t ht
    split
    ·rename_i hc
     exfalso
     have hq:=(h.qt k hk id t.g).2 ⟨t,ht,hc.1,hc.2,rfl⟩
     obtain ⟨k',e1,e2,e3⟩:=(h.tree k hk).core.task id _ hq
     have:=root_full (h.tree k hk) k' e2 (inM_ne e3)
     rw [hem] at this;cases this
    ·rfl
   ·rfl
  have:∀ l:List Int,(∀ id∈l,wtOf s.T k id=0)→(l.map (wtOf s.T k)).sum=0:=fun l=>by
   induction l with
   | nil=>exact fun _=>rfl
   | cons a r ih =>
    intro hl
    rw [List.map_cons,List.sum_cons,hl a (by simp),ih fun x hx=>hl x (by simp [hx])]
    rfl
  exact this _ hz
 ·intro h0
  rcases h.first hk with q | ⟨t,q1,q2,q3⟩
  ·exact q
  ·exfalso
   have hin:(frT (s.Q k)).1∈keysL s:=(keysL_mem h _).2 (by rw [q1];rfl)
   have:=sum_pos (fun x _=>wt_pos h k x) h0 _ hin
   unfold wtOf at this
   rw [q1] at this
   simp only at this
   rw [if_pos ⟨q2,q3⟩] at this
   have:=(h.task _ t q1).2.w
   omega
end
end Go.Proofs.YtapnaocdehahdaaGreat
