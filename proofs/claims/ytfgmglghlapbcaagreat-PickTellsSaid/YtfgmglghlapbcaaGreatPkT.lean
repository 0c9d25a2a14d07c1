/-
  Layer 25 (pick): a tree that is a law's own; what is refused.
-/
import Derived.Test.YtfgmglghlapbcaaGreatPkM
import Derived.Test.YtfgmglghlapbcaaGreatPkY
import Derived.Test.YtfgmglghlapbcaaGreatPkCa
namespace Go.Proofs.YtfgmglghlapbcaaGreat
open Go.RowKit Go.Maps Go.IntWalk Go.Lib Go.Sort Go.Shelf
set_option linter.unusedVariables false
set_option linter.unusedSimpArgs false
section
variable {w wr w':World} {t:Nat} {s s':TSt} {F:List Nat}
end
def tot (f:Nat→Int):Nat→Int
 | 0=>0
 | k+1=>tot f k+f k
theorem tot_congr {f g:Nat→Int}:∀ n,(∀ j,j<n→f j=g j)→tot f n=tot g n
 | 0,_=>rfl
 | n+1,h=>by
  show tot f n+f n=tot g n+g n
  rw [tot_congr n fun j hj=>h j (by omega),h n (by omega)]
theorem tot_add {f g:Nat→Int}:∀ n,tot (fun j=>f j+g j) n=tot f n+tot g n
 | 0=>rfl
 | n+1=>by
  show tot _ n+(f n+g n)=tot f n+f n+(tot g n+g n)
  rw [tot_add n];omega
theorem tot_one {p:Nat} {c:Int}:∀ n,tot (fun j=>if j=p then c else 0) n=if p<n then c else 0
 | 0=>rfl
 | n+1=>by
  show tot _ n+(if n=p then c else 0)=_
  rw [tot_one n]
  by_cases h:n=p
  ·rw [if_pos h,if_neg (by omega),if_pos (by omega)];omega
  ·rw [if_neg h]
   by_cases q:p<n
   ·rw [if_pos q,if_pos (by omega)];omega
   ·rw [if_neg q,if_neg (by omega)];omega
theorem load_tot (s:TSt):∀ n,loadTo s n=tot (fun j=>loadM (s.M j) - subL s j) n
 | 0=>rfl
 | n+1=>by
  show loadTo s n+loadM (s.M n) - subL s n=tot _ n+(loadM (s.M n) - subL s n)
  rw [load_tot s n];omega
theorem getE_yes {M:Mems} {id:Int} {x:Ent} (h:entM M id=some x):getE M id=x:=by unfold getE;rw [h];rfl
def nonE (s:TSt) (g:Nat):Bool:=!(s.M g).isEmpty
def encJ (x:Int):List Value:=[.int .i64 x]
theorem encJ_ok:Enc encJ 1:=⟨fun _=>rfl,fun x u hu=>by simp [encJ] at hu;subst hu;rfl,by decide⟩
theorem flatJ:∀ L:List Int,flatR encJ L=intsV L
 | []=>rfl
 | x::r=>by
  have:=flatJ r
  unfold flatR intsV at this ⊢
  rw [List.flatMap_cons,List.map_cons,this]
  rfl
theorem own_apart {w:World} {b1 b2 e1 e2 k1 k2 n1 n2:Nat} {v1 v2:Value} {x1 x2:List Value} (h1:w.ownsRow b1 e1 k1 v1 n1 x1) (h2:w.ownsRow b2 e2 k2 v2 n2 x2) (he:e1≠e2):v1.ownBlock=none∨v1.ownBlock≠v2.ownBlock:=by
 rcases h1.2 with ⟨rfl,_⟩ | ⟨g1,c1,u1,rfl,_,a1,_⟩
 ·exact Or.inl rfl
 ·rcases h2.2 with ⟨rfl,_⟩ | ⟨g2,c2,u2,rfl,_,a2,_⟩
  ·right;simp [Value.ownBlock]
  ·right
   simp only [Value.ownBlock,ne_eq,Option.some.injEq]
   intro e
   rw [e,a2] at a1
   simp only [Option.some.injEq,Obj.cells.injEq] at a1
   exact he a1.2.1.symm
theorem held_row {F:List Nat} {w:World} {v:Value} {L:List Int} (h:HeldR encJ F w v L):∃ a c,v=.slice a L.length c∧RowAt .i64 w a L.length L:=by
 obtain ⟨a,c,e,h1,h2,h3,h⟩:=h
 refine ⟨a,c,e,rfl,fun h0=>?_⟩
 rcases h with rfl | ⟨b,off,e2,_,hc⟩
 ·simp at h0
 ·refine ⟨b,off,e2,fun i x hx=>hc i _ ?_⟩
  rw [flatJ]
  unfold intsV
  rw [List.getElem?_map,hx]
  rfl
theorem own_rowJ {w:World} {base n:Nat} {v:Value} {L:List Int} (h:w.ownsRow base 3 1 v n (intsV L)) (hn:n=L.length):∃ a c,v=.slice a L.length c∧RowAt .i64 w a L.length L:=
 held_row (F:=[]) (own_heldR encJ_ok h hn (flatJ L).symm fun b hb=>by cases hb)
def firstV (M:Mems):Int:=match M with | []=>0 | x::_=>x.2.1
theorem tree_ord {w:World} {t:Nat} {F:List Nat} {s:TSt} (h:TreeIn w t F s):∀ k,k<s.n→InOrder (itemsM (s.M k)):=by
 obtain ⟨bg,bq,ba,bm,qp,Fq,hr,rfl⟩:=h
 exact fun k hk=>(hr.q k hk).ids.1.ord
theorem tree_keys {w:World} {t:Nat} {F:List Nat} {s:TSt} (h:TreeIn w t F s):∃ L:List Int,L.Nodup∧L.length=s.c∧∀ id,id∈L↔s.T id≠none:=by
 obtain ⟨bg,bq,ba,bm,qp,Fq,hr,rfl⟩:=h
 exact hr.keys
theorem tasksT_most {w:World} {t:Nat} {F:List Nat} {s:TSt} (h:TreeIn w t F s) (g:Int):(tasksT s g).length≤131072:=by
 obtain ⟨bg,bq,ba,bm,qp,Fq,hr,rfl⟩:=h
 unfold tasksT
 by_cases q:hasV (s.n:Int) g=true
 ·rw [if_pos q]
  have hv:0≤g∧g<(s.n:Int):=of_decide_eq_true q
  have:=(hr.q g.toNat (by omega)).ids
  have:=tasksM_len (s.M g.toNat)
  omega
 ·rw [if_neg q];simp
def LeQ (M:Mems) (f:Int):Prop:=M.isEmpty=false→firstV M≤f
theorem rise_le (M:Mems) (f:Int):LeQ M (riseF (itemsM M) f):=fun h=>by
 cases M with
 | nil=>simp at h
 | cons a r=>exact Int.le_max_right f a.2.1
theorem le_enter {M:Mems} {f:Int} (h:LeQ M f) (id:Int) (x:Ent):LeQ (enterM qN M id x) (enterF qN M id x f):=by
 unfold enterM enterF
 split
 ·exact rise_le _ _
 ·exact h
theorem le_leave {M:Mems} {f:Int} (h:LeQ M f) (id:Int):LeQ (leaveM qN M id) (leaveF qN M id f):=by
 unfold leaveM leaveF
 split
 ·exact rise_le _ _
 ·exact h
theorem le_ch {b:Bool} {M:Mems} {f:Int} (h:LeQ M f) (id:Int) (X:Ent→Ent):LeQ (chS b qN M id X) (chF b qN M id X f):=by
 unfold chS chF
 split
 ·exact rise_le _ _
 ·exact h
theorem chF_ge (b:Bool) (M:Mems) (id:Int) (X:Ent→Ent) (f:Int):f≤chF b qN M id X f:=by
 unfold chF
 split
 ·exact rise_ge _ _
 ·exact Int.le_refl _
structure FlS (s s':TSt):Prop where
 ge:∀ k,s.fl k≤s'.fl k
 le:(∀ k,LeQ (s.M k) (s.fl k))→∀ k,LeQ (s'.M k) (s'.fl k)
theorem FlS.refl (s:TSt):FlS s s:=⟨fun k=>Int.le_refl _,fun h=>h⟩
theorem FlS.trans {a b c:TSt} (h:FlS a b) (k:FlS b c):FlS a c:=⟨fun j=>Int.le_trans (h.ge j) (k.ge j),fun q=>k.le (h.le q)⟩
theorem FlS.one {s s':TSt} {g:Nat} {M:Mems} {f:Int} (hM:s'.M=upd s.M g M) (hf:s'.fl=upd s.fl g f) (h1:s.fl g≤f) (h2:LeQ (s.M g) (s.fl g)→LeQ M f):FlS s s':=by
 refine ⟨fun k=>?_,fun h k=>?_⟩
 ·rw [hf]
  by_cases q:k=g
  ·rw [q,upd_same];exact h1
  ·rw [upd_other _ _ q];exact Int.le_refl _
 ·rw [hM,hf]
  by_cases q:k=g
  ·rw [q,upd_same,upd_same];exact h2 (h g)
  ·rw [upd_other _ _ q,upd_other _ _ q];exact h k
theorem fls_same {s s':TSt} (hM:s'.M=s.M) (hf:s'.fl=s.fl):FlS s s':=⟨fun k=>by rw [hf];exact Int.le_refl _,fun h k=>by rw [hM,hf];exact h k⟩
theorem fls_en (s:TSt) (g:Nat) (id:Int) (x:Ent):FlS s (enQ s g id x):=FlS.one rfl rfl (enterF_ge _ _ _ _) fun h=>le_enter h id x
theorem fls_lv (s:TSt) (g:Nat) (id:Int):FlS s (lvQ s g id):=FlS.one rfl rfl (leaveF_ge _ _ _) fun h=>le_leave h id
theorem fls_lvA (s:TSt) (o p:Nat):FlS s (lvA s o p):=FlS.one (g:=p) rfl rfl (leaveF_ge _ _ _) fun h=>le_leave h _
theorem fls_chg (tk:Int) (s:TSt) (g:Nat) (id:Int):FlS s (chgQ tk s g id):=FlS.one rfl rfl (chF_ge _ _ _ _ _) fun h=>le_ch h id _
theorem fls_wg (k:Int) (s:TSt) (g:Nat) (id:Int):FlS s (wgQ k s g id):=FlS.one rfl rfl (chF_ge _ _ _ _ _) fun h=>le_ch h id _
theorem fls_enUp (P:Nat→Nat):∀ (l:List Nat) (q:TSt×Bool),FlS q.1 (l.foldl (enStep P) q).1
 | [],q=>FlS.refl _
 | o::r,q=>by
  refine FlS.trans ?_ (fls_enUp P r (enStep P q o))
  unfold enStep
  split
  ·exact fls_en _ _ _ _
  ·exact FlS.refl _
theorem fls_lvUp (P:Nat→Nat):∀ (l:List Nat) (q:TSt×Bool),FlS q.1 (l.foldl (lvStep P) q).1
 | [],q=>FlS.refl _
 | o::r,q=>by
  refine FlS.trans ?_ (fls_lvUp P r (lvStep P q o))
  unfold lvStep
  split
  ·exact FlS.refl _
  ·split
   ·exact fls_lvA _ _ _
   ·exact FlS.refl _
theorem fls_chgUp (tk:Int) (P:Nat→Nat):∀ (l:List Nat) (s:TSt),FlS s (chgUp tk P s l)
 | [],s=>FlS.refl _
 | o::r,s=>(fls_chg tk s (P o) _).trans (fls_chgUp tk P r _)
theorem fls_enS (s:TSt) (id g ac:Int) (x:Ent):FlS s (enS s id g ac x):=by
 unfold enS
 split
 ·exact (fls_en s g.toNat id x).trans (FlS.trans (fls_same (s':=enT (enQ s g.toNat id x) g.toNat id) rfl rfl) (fls_enUp (parG s.Gs) (pathT (parG s.Gs) g.toNat) (enT (enQ s g.toNat id x) g.toNat id,(s.M g.toNat).isEmpty)))
 ·exact FlS.refl _
theorem fls_new (Gs:Grps) (cr:Int):∀ k,LeQ ((newT Gs cr).M k) ((newT Gs cr).fl k):=fun k h=>by simp [newT] at h
def FlI (s:TSt):Prop:=∀ k,LeQ (s.M k) (s.fl k)
end Go.Proofs.YtfgmglghlapbcaaGreat
