/-
  Layer 25 (pick), plain: the tree and the reference's tree say the same.
-/
import Derived.Test.YtfgmglghlapbcaaGreatPrefN
import Derived.Test.YtfgmglghlapbcaaGreatPrefO
namespace Go.Proofs.YtfgmglghlapbcaaGreat
open Go.RowKit Go.Maps Go.IntWalk Go.Lib Go.Sort Go.Shelf
set_option linter.unusedVariables false
set_option linter.unusedSimpArgs false
abbrev Tks:=List (Int×Int×Ent)
structure TwinC (s:TSt) (r:RSt):Prop where
 gs:r.Gs=s.Gs
 cr:r.cr=s.cr
 al:r.A.length=s.n
 a:∀ k,k<s.n→r.A[k]! = spotX s k
 srt:r.T.Pairwise (fun a b=>a.1<b.1)
 t:∀ id g x,(id,g,x)∈r.T↔s.T id=some g∧entM (s.M g.toNat) id=some x
structure Twin (s:TSt) (r:RSt):Prop extends TwinC s r where
 len:r.fl.length=s.n
 f:∀ k,k<s.n→r.fl[k]! = s.fl k
def OrdT (s:TSt):Prop:=∀ k,k<s.n→InOrder (itemsM (s.M k))
theorem items_mem {M:Mems} (hn:(M.map Prod.fst).Nodup) {x:Int×Int}:x∈itemsM M↔∃ y,entM M x.1=some y∧y.1=x.2:=by
 unfold itemsM
 rw [List.mem_map]
 constructor
 ·rintro ⟨m,hm,rfl⟩
  exact ⟨m.2,(ent_some hn).2 hm,rfl⟩
 ·rintro ⟨y,hy,e⟩
  refine ⟨(x.1,y),(ent_some hn).1 hy,?_⟩
  unfold kM
  rw [e]
theorem memT_mem {g:Nat} {x:Int×Int}:∀ (L:Tks) (l:Items),x∈L.foldl (stepT g) l↔x∈l∨∃ t∈L,t.2.1=(g:Int)∧x=(t.1,t.2.2.1):=by
 intro L
 induction L with
 | nil=>intro l;simp
 | cons t r ih =>
  intro l
  rw [List.foldl_cons,ih]
  unfold stepT
  by_cases h:t.2.1=(g:Int)
  ·rw [if_pos h,putL_mem]
   constructor
   ·rintro ((e | q) | ⟨u,hu,q⟩)
    ·exact Or.inr ⟨t,List.mem_cons_self,h,e⟩
    ·exact Or.inl q
    ·exact Or.inr ⟨u,List.mem_cons_of_mem _ hu,q⟩
   ·rintro (q | ⟨u,hu,q1,q2⟩)
    ·exact Or.inl (Or.inr q)
    ·rcases List.mem_cons.1 hu with rfl | hu
     ·exact Or.inl (Or.inl q2)
     ·exact Or.inr ⟨u,hu,q1,q2⟩
  ·rw [if_neg h]
   constructor
   ·rintro (q | ⟨u,hu,q⟩)
    ·exact Or.inl q
    ·exact Or.inr ⟨u,List.mem_cons_of_mem _ hu,q⟩
   ·rintro (q | ⟨u,hu,q1,q2⟩)
    ·exact Or.inl q
    ·rcases List.mem_cons.1 hu with rfl | hu
     ·exact absurd q1 h
     ·exact Or.inr ⟨u,hu,q1,q2⟩
theorem memT_ord {g:Nat}:∀ (L:Tks) (l:Items),L.Pairwise (fun a b=>a.1<b.1)→InOrder l→(∀ x∈l,∀ t∈L,x.1≠t.1)→InOrder (L.foldl (stepT g) l):=by
 intro L
 induction L with
 | nil=>intro l _ hl _;exact hl
 | cons t r ih =>
  intro l hL hl hx
  obtain ⟨h1,h2⟩:=List.pairwise_cons.1 hL
  rw [List.foldl_cons]
  unfold stepT
  split
  ·refine ih _ h2 (putL_order hl fun m=>hx _ m t List.mem_cons_self rfl) fun x m u hu=>?_
   rcases putL_mem.1 m with rfl | m
   ·have:=h1 u hu
    show t.1≠u.1
    omega
   ·exact hx x m u (List.mem_cons_of_mem _ hu)
  ·exact ih _ h2 hl fun x m u hu=>hx x m u (List.mem_cons_of_mem _ hu)
theorem memG_mem {P:Nat→Nat} {A:List Ent} {q:Nat→Items} {g:Nat} {l:Items} {x:Int×Int}:∀ k,x∈memG P A q g l (k+1)↔x∈l∨∃ h,1≤h∧h≤k∧P h=g∧0<(q h).length∧x=(65536+(h:Int),(A[h]!).1)
 | 0=>by
  rw [memG_one]
  exact ⟨Or.inl,fun h=>h.elim id fun ⟨h,h1,h2,_⟩=>by omega⟩
 | k+1=>by
  rw [memG_succ (by omega)]
  unfold stepG
  by_cases c:P (k+1)=g∧0<(q (k+1)).length
  ·rw [if_pos c,putL_mem,memG_mem k]
   constructor
   ·rintro (e | q | ⟨h,h1,h2,h3⟩)
    ·exact Or.inr ⟨k+1,by omega,Nat.le_refl _,c.1,c.2,e⟩
    ·exact Or.inl q
    ·exact Or.inr ⟨h,h1,by omega,h3⟩
   ·rintro (q | ⟨h,h1,h2,h3,h4,h5⟩)
    ·exact Or.inr (Or.inl q)
    ·by_cases e:h=k+1
     ·subst e;exact Or.inl h5
     ·exact Or.inr (Or.inr ⟨h,h1,by omega,h3,h4,h5⟩)
  ·rw [if_neg c,memG_mem k]
   constructor
   ·rintro (q | ⟨h,h1,h2,h3⟩)
    ·exact Or.inl q
    ·exact Or.inr ⟨h,h1,by omega,h3⟩
   ·rintro (q | ⟨h,h1,h2,h3,h4,h5⟩)
    ·exact Or.inl q
    ·by_cases e:h=k+1
     ·subst e;exact absurd ⟨h3,h4⟩ c
     ·exact Or.inr ⟨h,h1,by omega,h3,h4,h5⟩
theorem memG_ord {P:Nat→Nat} {A:List Ent} {q:Nat→Items} {g:Nat} {l:Items} (hl:InOrder l) (hi:∀ x∈l,x.1≤65535):∀ k,InOrder (memG P A q g l (k+1))
 | 0=>by rw [memG_one];exact hl
 | k+1=>by
  rw [memG_succ (by omega)]
  unfold stepG
  split
  ·refine putL_order (memG_ord hl hi k) fun m=>?_
   rcases (memG_mem k).1 m with m | ⟨h,h1,h2,_,_,e⟩
   ·have:=hi _ m
    simp only at this
    omega
   ·have:(65536:Int)+((k+1:Nat):Int)=65536+(h:Int):=congrArg Prod.fst e
    omega
  ·exact memG_ord hl hi k
section
variable {s:TSt} {r:RSt}
theorem TwinC.par (h:TwinC s r):parG r.Gs=parG s.Gs:=by rw [h.gs]
theorem TwinC.glen (h:TwinC s r):r.Gs.length=s.n:=by rw [h.gs];rfl
theorem TwinC.task (h:TwinC s r) (hok:TOk s) {t:Int×Int×Ent} (ht:t∈r.T):(1≤t.1∧t.1≤65535)∧∃ k:Nat,t.2.1=(k:Int)∧k<s.n∧s.T t.1=some (k:Int)∧entM (s.M k) t.1=some t.2.2:=by
 obtain ⟨h1,h2⟩:=(h.t t.1 t.2.1 t.2.2).1 ht
 obtain ⟨k,e,hk,_⟩:=hok.core.task _ _ h1
 refine ⟨hok.core.tid _ (by rw [h1];simp),k,e,hk,by rw [← e];exact h1,?_⟩
 rw [e,Int.toNat_natCast] at h2
 exact h2
theorem seat_some (hok:TOk s) {c:Nat} (c0:0<c) (cn:c<s.n) (hne:(s.M c).isEmpty=false):∃ y,entM (s.M (parG s.Gs c)) (65536+(c:Int))=some y∧spotX s c=y:=by
 have hs:=hok.seat c c0 cn
 unfold Seated at hs
 rw [hne] at hs
 obtain ⟨y,hy⟩:=inM_some hs
 refine ⟨y,hy,?_⟩
 unfold spotX
 rw [if_pos ⟨by rw [hy];rfl,c0⟩]
 exact getE_yes hy
theorem seat_none (hok:TOk s) {c:Nat} (c0:0<c) (cn:c<s.n) (hne:(s.M c).isEmpty=true):entM (s.M (parG s.Gs c)) (65536+(c:Int))=none∧spotX s c=s.A c:=by
 have hs:=hok.seat c c0 cn
 unfold Seated at hs
 rw [hne] at hs
 have:=inM_none hs
 refine ⟨this,?_⟩
 unfold spotX
 rw [if_neg]
 rw [this]
 simp
theorem items_pos {M:Mems}:0<(itemsM M).length↔M.isEmpty=false:=by
 rw [items_len]
 cases M <;> simp
theorem mR_twin (h:TwinC s r) (hok:TOk s) (ho:OrdT s):∀ (f g:Nat),g<s.n→s.n - g≤f→mR r f g=itemsM (s.M g):=by
 intro f
 induction f with
 | zero=>intro g hg hf;omega
 | succ f ih =>
  intro g hg hf
  have hn:=hok.core.right.pos
  obtain ⟨n1,hn1⟩:∃ k,s.n=k+1:=⟨s.n - 1,by unfold TSt.n;omega⟩
  show memG (parG r.Gs) r.A (mR r f) g (memT r.T g) r.Gs.length=_
  rw [h.glen,hn1,h.par]
  have hT:InOrder (memT r.T g):=memT_ord r.T [] h.srt List.Pairwise.nil (fun x hx=>by cases hx)
  have hTi:∀ x∈memT r.T g,x.1≤65535:=fun x hx=>by
   rcases (memT_mem r.T []).1 hx with q | ⟨t,ht,q,e⟩
   ·cases q
   ·rw [e];exact (h.task hok ht).1.2
  have hO:InOrder (memG (parG s.Gs) r.A (mR r f) g (memT r.T g) (n1+1)):=memG_ord hT hTi n1
  have hO2:=ho g hg
  refine order_unique hO hO2 ((List.perm_ext_iff_of_nodup (order_apart hO) (order_apart hO2)).2 fun x=>?_)
  have hmk:=hok.core.mok g
  rw [memG_mem n1,items_mem hmk.nod]
  constructor
  ·rintro (q | ⟨c,c1,c2,c3,c4,e⟩)
   ·rcases (memT_mem r.T []).1 q with q | ⟨t,ht,q,e⟩
    ·cases q
    ·obtain ⟨_,k,e2,hk,_,h4⟩:=h.task hok ht
     have:k=g:=by omega
     subst this
     rw [e]
     exact ⟨t.2.2,h4,rfl⟩
   ·have hcn:c<s.n:=by omega
    have hpl:=parG_lt hok.core.right (by omega:0<c) hcn
    rw [c3] at hpl
    rw [ih c hcn (by omega)] at c4
    obtain ⟨y,y1,y2⟩:=seat_some hok (by omega) hcn (items_pos.1 c4)
    rw [c3] at y1
    rw [e]
    exact ⟨y,y1,by rw [h.a c hcn,y2]⟩
  ·rintro ⟨y,y1,y2⟩
   rcases hok.core.ids g x.1 (by unfold inM;rw [y1];rfl) with ⟨q1,_⟩ | ⟨c,c0,cn,e,hp⟩
   ·refine Or.inl ((memT_mem r.T []).2 (Or.inr ⟨(x.1,(g:Int),y),(h.t _ _ _).2 ⟨q1,by rw [Int.toNat_natCast];exact y1⟩,rfl,?_⟩))
    rw [y2]
   ·have hpl:=parG_lt hok.core.right c0 cn
    rw [hp] at hpl
    have hne:(s.M c).isEmpty=false:=by
     have hs:=hok.seat c c0 cn
     unfold Seated at hs
     rw [hp,← e] at hs
     unfold inM at hs
     rw [y1] at hs
     cases q:(s.M c).isEmpty with
     | true=>rw [q] at hs;cases hs
     | false=>rfl
    obtain ⟨z,z1,z2⟩:=seat_some hok c0 cn hne
    rw [hp,← e,y1] at z1
    cases z1
    refine Or.inr ⟨c,c0,by omega,hp,?_,?_⟩
    ·rw [ih c cn (by omega)];exact items_pos.2 hne
    ·rw [h.a c cn,z2,← e,y2]
theorem mR_all (h:TwinC s r) (hok:TOk s) (ho:OrdT s) {g:Nat} (hg:g<s.n):mR r s.n g=itemsM (s.M g):=mR_twin h hok ho s.n g hg (by omega)
theorem srt_len {T:Tks} (h:T.Pairwise (fun a b=>a.1<b.1)) (hi:∀ t∈T,1≤t.1∧t.1≤65535):T.length≤65535:=by
 suffices q:∀ (T:Tks) (b:Int),T.Pairwise (fun a b=>a.1<b.1)→(∀ t∈T,b<t.1∧t.1≤65535)→b≤65535→(T.length:Int)≤65535 - b by
  have:=q T 0 h (fun t ht=>⟨by have:=hi t ht;omega,(hi t ht).2⟩) (by omega)
  omega
 intro T
 induction T with
 | nil=>intro b _ _ hb;simp;omega
 | cons t r ih =>
  intro b hp hi hb
  obtain ⟨h1,h2⟩:=List.pairwise_cons.1 hp
  have ht:=hi t List.mem_cons_self
  have:=ih t.1 h2 (fun u hu=>⟨h1 u hu,(hi u (List.mem_cons_of_mem _ hu)).2⟩) ht.2
  rw [List.length_cons]
  omega
theorem Twin.rok (h:Twin s r) (hok:TOk s) (hc:s.cr≤18446744073709551615):ROk r s.n r.T.length:=by
 refine ⟨⟨h.glen,rfl,h.al,h.len,by rw [h.gs];exact hok.core.right,?_⟩,fun t ht=>(h.task hok ht).1,fun t ht=>?_,fun t ht=>?_,fun k hk=>?_,fun k hk=>by rw [h.f k hk];exact hok.core.fok k,by rw [h.cr];exact ⟨hok.core.cr,hc⟩⟩
 ·have:=srt_len h.srt fun t ht=>(h.task hok ht).1
  omega
 ·obtain ⟨_,k,e,hk,_⟩:=h.task hok ht
  exact ⟨k,e,hk⟩
 ·obtain ⟨_,k,e,hk,_,h5⟩:=h.task hok ht
  exact (hok.core.mok k).ent h5
 ·rw [h.a k hk]
  unfold spotX
  split
  ·rename_i q
   obtain ⟨y,hy⟩:=inM_some (M:=s.M (parG s.Gs k)) (id:=65536+(k:Int)) q.1
   rw [getE_yes hy]
   exact (hok.core.mok _).ent hy
  ·exact hok.core.aok k hk
theorem twin_find (h:TwinC s r) (hok:TOk s) (id:Int):(s.T id=none∧findT r.T id=-1)∨∃ (k g:Nat) (x:Ent),k<r.T.length∧findT r.T id=(k:Int)∧r.T[k]! = (id,(g:Int),x)∧g<s.n∧s.T id=some (g:Int)∧entM (s.M g) id=some x:=by
 rcases findT_cases r.T id with ⟨k,hk,h1,h2,_⟩ | ⟨h1,h2⟩
 ·right
  have hm:r.T[k]!∈r.T:=by rw [getElem!_pos r.T k hk];exact List.getElem_mem hk
  obtain ⟨_,g,e,hg,t1,t2⟩:=h.task hok hm
  rw [h2] at t1 t2
  refine ⟨k,g,r.T[k]!.2.2,hk,h1,?_,hg,t1,t2⟩
  rw [← e,← h2]
 ·left
  refine ⟨?_,h1⟩
  cases e:s.T id with
  | none=>rfl
  | some g =>
   obtain ⟨k,rfl,hk,hi⟩:=hok.core.task id g e
   obtain ⟨x,hx⟩:=inM_some hi
   obtain ⟨j,hj,q⟩:=List.getElem_of_mem ((h.t id (k:Int) x).2 ⟨e,by rw [Int.toNat_natCast];exact hx⟩)
   exact absurd (by rw [getElem!_pos r.T j hj,q]) (h2 j hj)
theorem wrong_twin (h:TwinC s r) (hok:TOk s) (id g:Int) {ok:Bool} {ac:Int} (ha:ac=0↔ok=true):wrongC r s.n id g ok=enC s id g ac:=by
 unfold wrongC enC
 cases ok with
 | false =>
  have:ac≠0:=fun e=>by have:=ha.1 e;cases this
  rw [Bool.and_false,if_neg (by simp),if_neg this]
  split <;> rfl
 | true =>
  rw [Bool.and_true,if_pos (ha.2 rfl)]
  rcases twin_find h hok id with ⟨h1,h2⟩ | ⟨k,j,x,_,h2,_,_,h1,_⟩
  ·rw [h1,h2];rfl
  ·rw [h1,h2,if_pos (by omega:(0:Int)≤(k:Int))];rfl
theorem there_twin (h:TwinC s r) (hok:TOk s) (id:Int) (ok:Bool):thereC r id ok=if ok=true then findC s id else 2:=by
 unfold thereC findC
 cases ok with
 | false=>rw [Bool.and_false,if_neg (by simp),if_neg (by simp)]
 | true =>
  rw [Bool.and_true,if_pos rfl]
  rcases twin_find h hok id with ⟨h1,h2⟩ | ⟨k,j,x,_,h2,_,_,h1,_⟩
  ·rw [h1,h2];rfl
  ·rw [h1,h2,if_pos (by omega:(0:Int)≤(k:Int))];rfl
theorem twin_there (h:TwinC s r) (hok:TOk s) {id:Int} (hC:findC s id=0):∃ (k g:Nat) (x:Ent),k<r.T.length∧atT r id=k∧findT r.T id=(k:Int)∧r.T[k]! = (id,(g:Int),x)∧g<s.n∧s.T id=some (g:Int)∧entM (s.M g) id=some x∧findG s id=(g:Int)∧1≤id∧id≤65535:=by
 obtain ⟨g',hT,hG⟩:=findC_zero hC
 rcases twin_find h hok id with ⟨h1,_⟩ | ⟨k,g,x,a1,a2,a3,a4,a5,a6⟩
 ·rw [hT] at h1;cases h1
 ·rw [hT] at a5
  cases a5
  exact ⟨k,g,x,a1,by unfold atT;rw [a2];rfl,a2,a3,a4,hT,a6,hG,hok.core.tid id (by rw [hT];simp)⟩
theorem leaveX_twin (h:TwinC s r) (hok:TOk s) (id:Int):leaveRX r id=plvX s id:=by
 unfold leaveRX plvX
 rw [there_twin h hok,if_pos rfl]
 by_cases hC:findC s id=0
 ·obtain ⟨k,g,x,_,a2,_,a3,_,_,a6,a7,a8⟩:=twin_there h hok hC
  rw [if_pos hC,if_pos hC,a2,a3,a7,Int.toNat_natCast,leave_x (by omega) a6]
 ·rw [if_neg hC,if_neg hC]
theorem getX_twin (h:TwinC s r) (hok:TOk s) {id:Int} (hC:findC s id=0):pgetX s id=r.T[atT r id]!.2.2∧findG s id=r.T[atT r id]!.2.1∧findT r.T id=(atT r id:Int)∧atT r id<r.T.length:=by
 obtain ⟨k,g,x,a1,a2,a9,a3,_,_,a6,a7,a8⟩:=twin_there h hok hC
 rw [a2,a3,a7]
 refine ⟨?_,rfl,a9,a1⟩
 unfold pgetX
 rw [if_pos hC,a7,Int.toNat_natCast]
 exact getE_yes a6
theorem getX_none (h:TwinC s r) (hok:TOk s) {id:Int} (hC:findC s id≠0):pgetX s id=(0,0,0)∧findG s id=0∧findT r.T id=-1:=by
 have hT:s.T id=none:=by
  cases e:s.T id with
  | none=>rfl
  | some g =>
   have:=hok.core.tid id (by rw [e];simp)
   exact absurd (by unfold findC;rw [show nameV id=true from decide_eq_true this,e];rfl) hC
 refine ⟨by unfold pgetX;rw [if_neg hC],?_,?_⟩
 ·unfold findG
  rw [hT]
  split <;> rfl
 ·rcases twin_find h hok id with ⟨_,h2⟩ | ⟨k,g,x,_,_,_,_,h5,_⟩
  ·exact h2
  ·rw [hT] at h5;cases h5
theorem tasks_twin (h:TwinC s r) (hok:TOk s) (ho:OrdT s) (g:Int):tasksR r s.n g=tasksT s g:=by
 unfold tasksR tasksT
 by_cases q:hasV (s.n:Int) g=true
 ·rw [if_pos q,if_pos q]
  have:=of_decide_eq_true q
  rw [mR_all h hok ho (by omega)]
  unfold tasksI tasksM
  rw [items_ids]
 ·rw [if_neg q,if_neg q]
theorem lead_twin (h:TwinC s r) (hok:TOk s) (ho:OrdT s):ldR r s.n=leadT s:=by
 unfold ldR leadT
 suffices q:∀ (f g:Nat) (ch:List Int),g<s.n→ldF r s.n f g ch=leadF s f g ch from q s.n 0 [] hok.core.right.pos
 intro f
 induction f with
 | zero=>intro g ch _;rfl
 | succ f ih =>
  intro g ch hg
  show ldM (fun i c=>ldF r s.n f i.toNat c) g ch (mR r s.n g)=leadF s (f+1) g ch
  rw [mR_all h hok ho hg]
  unfold leadF
  cases e:s.M g with
  | nil=>rfl
  | cons m M =>
   show ldM _ g ch (kM m::itemsM M)=_
   unfold ldM
   dsimp only
   rw [show (m::M).isEmpty=false from rfl,if_neg (show ¬ (false=true) by decide)]
   have hm:inM (s.M g) m.1=true:=by rw [e];unfold inM entM;rw [List.find?_cons_of_pos (by simp)];rfl
   show (if m.1<65536 then (m.1,ch++[(g:Int)]) else ldF r s.n f (m.1 - 65536).toNat (ch++[(g:Int)]))=if m.1<65536 then (m.1,ch++[(g:Int)]) else leadF s f (m.1 - 65536).toNat (ch++[(g:Int)])
   by_cases q:m.1<65536
   ·rw [if_pos q,if_pos q]
   ·rw [if_neg q,if_neg q]
    rcases hok.core.ids g m.1 hm with ⟨_,q2⟩ | ⟨c,c0,cn,ec,_⟩
    ·omega
    ·exact ih _ _ (by omega)
end
theorem ent_cons (m:Int×Ent) (M:Mems) (j:Int):entM (m::M) j=if m.1=j then some m.2 else entM M j:=by
 unfold entM
 by_cases h:m.1=j
 ·rw [if_pos h,List.find?_cons_of_pos (by simpa using h)];rfl
 ·rw [if_neg h,List.find?_cons_of_neg (by simpa using h)]
theorem ent_put_ne {m:Int×Ent} {j:Int} (hj:j≠m.1):∀ M:Mems,entM (putM M m) j=entM M j
 | []=>by unfold putM;rw [ent_cons,if_neg (Ne.symm hj)]
 | y::r=>by
  unfold putM
  split
  ·rw [ent_cons,ent_cons,ent_put_ne hj r]
  ·rw [ent_cons,if_neg (Ne.symm hj)]
theorem ent_out_ne {id j:Int} (hj:j≠id):∀ M:Mems,entM (outM M id) j=entM M j
 | []=>rfl
 | y::r=>by
  have ih:=ent_out_ne hj r
  unfold outM at ih ⊢
  by_cases h:y.1=id
  ·rw [List.filter_cons_of_neg (by simpa using h),ih,ent_cons,if_neg (by omega)]
  ·rw [List.filter_cons_of_pos (p:=fun y:Int×Ent=>y.1 != id) (by simpa using h),ent_cons,ent_cons,ih]
theorem enterM_ne {M:Mems} {id j:Int} (x:Ent) (hj:j≠id):entM (enterM qN M id x) j=entM M j:=by
 unfold enterM
 split
 ·exact ent_put_ne hj M
 ·rfl
theorem leaveM_ne {M:Mems} {id j:Int} (hj:j≠id):entM (leaveM qN M id) j=entM M j:=by
 unfold leaveM
 split
 ·exact ent_out_ne hj M
 ·rfl
theorem chS_ne {b:Bool} {M:Mems} {id j:Int} (X:Ent→Ent) (hj:j≠id):entM (chS b qN M id X) j=entM M j:=by
 unfold chS
 split
 ·unfold chM
  rw [ent_put_ne (m:=(id,_)) hj,ent_out_ne hj]
 ·rfl
theorem rise_same {M:Mems} {f:Int} (h:LeQ M f):riseF (itemsM M) f=f:=by
 cases M with
 | nil=>rfl
 | cons m r =>
  have:m.2.1≤f:=h rfl
  show max f m.2.1=f
  omega
def Tch (a b:TSt) (p:Nat):Prop:=(∀ k,k≠p→b.M k=a.M k∧b.fl k=a.fl k)∧(b.fl p=riseF (itemsM (b.M p)) (a.fl p)∨(b.M p=a.M p∧b.fl p=a.fl p))
theorem tch_upd {a b:TSt} {p:Nat} {M:Mems} {f:Int} (hM:b.M=upd a.M p M) (hf:b.fl=upd a.fl p f) (h:f=riseF (itemsM M) (a.fl p)∨(M=a.M p∧f=a.fl p)):Tch a b p:=by
 refine ⟨fun k q=>by rw [hM,hf,upd_other _ _ q,upd_other _ _ q];exact ⟨rfl,rfl⟩,?_⟩
 rw [hM,hf,upd_same,upd_same]
 exact h
theorem tch_en (s:TSt) (g:Nat) (id:Int) (x:Ent):Tch s (enQ s g id x) g:=tch_upd rfl rfl (by
 unfold enterF enterM
 split
 ·exact Or.inl rfl
 ·exact Or.inr ⟨rfl,rfl⟩)
theorem tch_lv (s:TSt) (g:Nat) (id:Int):Tch s (lvQ s g id) g:=tch_upd rfl rfl (by
 unfold leaveF leaveM
 split
 ·exact Or.inl rfl
 ·exact Or.inr ⟨rfl,rfl⟩)
theorem tch_lvA (s:TSt) (o p:Nat):Tch s (lvA s o p) p:=tch_lv s p (65536+o)
theorem tch_ch (tk:Int) (s:TSt) (g:Nat) (id:Int):Tch s (chgQ tk s g id) g:=tch_upd rfl rfl (by
 unfold chF chS
 split
 ·exact Or.inl rfl
 ·exact Or.inr ⟨rfl,rfl⟩)
theorem tch_wg (w:Int) (s:TSt) (g:Nat) (id:Int):Tch s (wgQ w s g id) g:=tch_upd rfl rfl (by
 unfold chF chS
 split
 ·exact Or.inl rfl
 ·exact Or.inr ⟨rfl,rfl⟩)
theorem Tch.same (a:TSt) (p:Nat):Tch a a p:=⟨fun _ _=>⟨rfl,rfl⟩,Or.inr ⟨rfl,rfl⟩⟩
def Rz (s a:TSt) (g:Nat):Prop:=(∀ k,k<g→a.M k=s.M k∧a.fl k=s.fl k)∧∀ k,g≤k→a.fl k=riseF (itemsM (a.M k)) (s.fl k)
theorem Rz.start {s a:TSt} {g:Nat} (hf:FlI s) (h:Tch s a g):Rz s a g:=by
 refine ⟨fun k hk=>h.1 k (by omega),fun k hk=>?_⟩
 by_cases e:k=g
 ·subst e
  rcases h.2 with q | ⟨q1,q2⟩
  ·exact q
  ·rw [q1,q2];exact (rise_same (hf k)).symm
 ·rw [(h.1 k e).1,(h.1 k e).2];exact (rise_same (hf k)).symm
theorem Rz.step {s a b:TSt} {g p:Nat} (hf:FlI s) (h:Rz s a g) (hp:p<g) (ht:Tch a b p):Rz s b p:=by
 refine ⟨fun k hk=>?_,fun k hk=>?_⟩
 ·obtain ⟨e1,e2⟩:=ht.1 k (by omega)
  obtain ⟨e3,e4⟩:=h.1 k (by omega)
  exact ⟨e1.trans e3,e2.trans e4⟩
 ·by_cases e:k=p
  ·subst e
   obtain ⟨e3,e4⟩:=h.1 k hp
   rcases ht.2 with q | ⟨q1,q2⟩
   ·rw [q,e4]
   ·rw [q1,q2,e3,e4];exact (rise_same (hf k)).symm
  ·obtain ⟨e1,e2⟩:=ht.1 k e
   rw [e1,e2]
   by_cases q:k<g
   ·rw [(h.1 k q).1,(h.1 k q).2];exact (rise_same (hf k)).symm
   ·exact h.2 k (by omega)
theorem Rz.all {s a:TSt} {g:Nat} (hf:FlI s) (h:Rz s a g) (k:Nat):a.fl k=riseF (itemsM (a.M k)) (s.fl k):=by
 by_cases q:k<g
 ·rw [(h.1 k q).1,(h.1 k q).2];exact (rise_same (hf k)).symm
 ·exact h.2 k (by omega)
theorem rz_enUp {s:TSt} {P:Nat→Nat} (hf:FlI s):∀ (g:Nat) (q:TSt×Bool),Rz s q.1 g→∀ k,((pathT P g).foldl (enStep P) q).1.fl k=riseF (itemsM (((pathT P g).foldl (enStep P) q).1.M k)) (s.fl k):=by
 intro g
 induction g using Nat.strongRecOn with
 | ind g ih =>
  intro q h
  by_cases h0:0<g∧P g<g
  ·rw [pathT_pos h0.1 h0.2,List.foldl_cons]
   refine ih (P g) h0.2 _ (h.step hf h0.2 ?_)
   unfold enStep
   split
   ·exact tch_en _ _ _ _
   ·exact Tch.same _ _
  ·have:pathT P g=[]:=by rw [pathT,dif_neg h0]
   rw [this]
   exact h.all hf
theorem rz_lvUp {s:TSt} {P:Nat→Nat} (hf:FlI s):∀ (g:Nat) (q:TSt×Bool),Rz s q.1 g→∀ k,((pathT P g).foldl (lvStep P) q).1.fl k=riseF (itemsM (((pathT P g).foldl (lvStep P) q).1.M k)) (s.fl k):=by
 intro g
 induction g using Nat.strongRecOn with
 | ind g ih =>
  intro q h
  by_cases h0:0<g∧P g<g
  ·rw [pathT_pos h0.1 h0.2,List.foldl_cons]
   refine ih (P g) h0.2 _ (h.step hf h0.2 ?_)
   unfold lvStep
   split
   ·exact Tch.same _ _
   ·split
    ·exact tch_lvA _ _ _
    ·exact Tch.same _ _
  ·have:pathT P g=[]:=by rw [pathT,dif_neg h0]
   rw [this]
   exact h.all hf
theorem rz_chUp {s:TSt} {P:Nat→Nat} {tk:Int} (hf:FlI s):∀ (g:Nat) (a:TSt),Rz s a g→∀ k,(chgUp tk P a (pathT P g)).fl k=riseF (itemsM ((chgUp tk P a (pathT P g)).M k)) (s.fl k):=by
 intro g
 induction g using Nat.strongRecOn with
 | ind g ih =>
  intro a h
  by_cases h0:0<g∧P g<g
  ·rw [pathT_pos h0.1 h0.2]
   show ∀ k,(chgUp tk P (chgQ tk a (P g) (65536+g)) (pathT P (P g))).fl k=_
   exact ih (P g) h0.2 _ (h.step hf h0.2 (tch_ch _ _ _ _))
  ·have:pathT P g=[]:=by rw [pathT,dif_neg h0]
   rw [this]
   exact h.all hf
theorem twin_raised {s s':TSt} {r r1:RSt} (h:TwinC s' r1) (hok:TOk s') (ho:OrdT s') (hr:Twin s r) (hfl:r1.fl=r.fl) (hn:s'.n=s.n) (hz:∀ k,s'.fl k=riseF (itemsM (s'.M k)) (s.fl k)):Twin s' (raisedR r1 s.n):=by
 refine ⟨⟨h.gs,h.cr,h.al,h.a,h.srt,h.t⟩,by unfold raisedR flTo;simp [hn],fun k hk=>?_⟩
 show (flTo r1 s.n s.n)[k]! = _
 rw [flTo_at (by omega),if_pos (by omega),← hn,mR_all h hok ho hk,hfl,hr.f k (by omega),← hz k]
theorem low_enUp (P:Nat→Nat) {j:Int} (hj:j<65536) (k:Nat):∀ (l:List Nat) (q:TSt×Bool),entM ((l.foldl (enStep P) q).1.M k) j=entM (q.1.M k) j
 | [],q=>rfl
 | o::r,q=>by
  rw [List.foldl_cons,low_enUp P hj k r]
  unfold enStep
  split
  ·show entM (upd q.1.M (P o) _ k) j=_
   by_cases e:k=P o
   ·rw [e,upd_same];exact enterM_ne _ (by omega)
   ·rw [upd_other _ _ e]
  ·rfl
theorem low_lvUp (P:Nat→Nat) {j:Int} (hj:j<65536) (k:Nat):∀ (l:List Nat) (q:TSt×Bool),entM ((l.foldl (lvStep P) q).1.M k) j=entM (q.1.M k) j
 | [],q=>rfl
 | o::r,q=>by
  rw [List.foldl_cons,low_lvUp P hj k r]
  unfold lvStep
  split
  ·rfl
  ·split
   ·show entM (upd q.1.M (P o) _ k) j=_
    by_cases e:k=P o
    ·rw [e,upd_same];exact leaveM_ne (by omega)
    ·rw [upd_other _ _ e]
   ·rfl
theorem low_chUp (tk:Int) (P:Nat→Nat) {j:Int} (hj:j<65536) (k:Nat):∀ (l:List Nat) (a:TSt),entM ((chgUp tk P a l).M k) j=entM (a.M k) j
 | [],a=>rfl
 | o::r,a=>by
  show entM ((chgUp tk P (chgQ tk a (P o) (65536+o)) r).M k) j=_
  rw [low_chUp tk P hj k r]
  show entM (upd a.M (P o) _ k) j=_
  by_cases e:k=P o
  ·rw [e,upd_same];exact chS_ne _ (by omega)
  ·rw [upd_other _ _ e]
theorem spot_of {a b:TSt} {k:Nat} (hG:parG b.Gs=parG a.Gs) (hM:entM (b.M (parG a.Gs k)) (65536+(k:Int))=entM (a.M (parG a.Gs k)) (65536+(k:Int))) (hA:b.A k=a.A k):spotX b k=spotX a k:=by
 unfold spotX getE
 rw [hG,hM,hA]
theorem spot_other {a b:TSt} {p k:Nat} {M:Mems} {id:Int} (hG:parG b.Gs=parG a.Gs) (hM:b.M=upd a.M p M) (hne:∀ j,j≠id→entM M j=entM (a.M p) j) (hA:b.A k=a.A k) (hk:65536+(k:Int)≠id):spotX b k=spotX a k:=by
 refine spot_of hG ?_ hA
 rw [hM]
 by_cases e:parG a.Gs k=p
 ·rw [e,upd_same];exact hne _ hk
 ·rw [upd_other _ _ e]
theorem spot_here {b:TSt} {k:Nat} {y:Ent} (k0:0<k) (h:entM (b.M (parG b.Gs k)) (65536+(k:Int))=some y):spotX b k=y:=by
 unfold spotX
 rw [if_pos ⟨by rw [h];rfl,k0⟩]
 exact getE_yes h
theorem spot_aside {b:TSt} {k:Nat} (h:entM (b.M (parG b.Gs k)) (65536+(k:Int))=none):spotX b k=b.A k:=by
 unfold spotX
 rw [if_neg]
 rw [h]
 simp
theorem setE_at {L:List Ent} {i k:Nat} {x:Ent} (hk:k<L.length):(L.set i x)[k]! = if k=i then x else L[k]!:=by
 rw [getElem!_pos (L.set i x) k (by rw [List.length_set];exact hk),List.getElem_set,getElem!_pos L k hk]
 by_cases e:i=k
 ·rw [if_pos e,if_pos e.symm]
 ·rw [if_neg e,if_neg (Ne.symm e)]
theorem en_spots {s:TSt} {r:RSt} (h:Twin s r) (hok:TOk s) (ho:OrdT s):∀ (g:Nat) (q:TSt×Bool) (A:List Ent),g<s.n→A.length=s.n→q.1.Gs=s.Gs→q.1.cr=s.cr→q.1.A=s.A→(∀ k,k<g→q.1.M k=s.M k∧q.1.fl k=s.fl k)→q.2=(s.M g).isEmpty→(∀ k,k<s.n→A[k]! = spotX q.1 k) →
  ∀ k,k<s.n→(upA r s.n (pathT (parG s.Gs) g) A)[k]! = spotX ((pathT (parG s.Gs) g).foldl (enStep (parG s.Gs)) q).1 k:=by
 intro g
 induction g using Nat.strongRecOn with
 | ind g ih =>
  intro q A hg hA hG hc hAs hM hq hs
  by_cases h0:0<g
  ·have hlt:=parG_lt hok.core.right h0 hg
   rw [pathT_pos h0 hlt,List.foldl_cons]
   unfold upA
   rw [mR_all h.toTwinC hok ho hg]
   obtain ⟨m1,m2⟩:=hM (parG s.Gs g) hlt
   cases he:(s.M g).isEmpty with
   | true =>
    have hz:(itemsM (s.M g)).length=0:=by rw [items_len,List.isEmpty_iff.1 he];rfl
    obtain ⟨n1,n2⟩:=seat_none hok h0 hg he
    rw [he] at hq
    have hyo:=wokenX_ok (hok.core.aok g hg) (hok.core.fok (parG s.Gs g)) hok.core.cr
    have hl:=hok.core.right.le
    have hg256:g<256:=by unfold TSt.n at hg;omega
    obtain ⟨_,e2⟩:=enter_in (id:=65536+(g:Int)) (hok.core.mok (parG s.Gs g)) (by omega) hyo n1
    have e1:enStep (parG s.Gs) q g=(enQ q.1 (parG s.Gs g) (65536+g) (wokenX (s.A g) (s.fl (parG s.Gs g)) s.cr),(s.M (parG s.Gs g)).isEmpty):=by
     unfold enStep
     rw [hq,if_pos rfl,hAs,m2,hc,m1]
    have hAg:A[g]! = s.A g:=by
     rw [hs g hg,spot_aside (by rw [hG,m1];exact n1),hAs]
    rw [if_pos hz,e1,h.par,h.cr,h.f (parG s.Gs g) (by omega),hAg]
    refine ih (parG s.Gs g) hlt _ _ (by omega) (by rw [List.length_set];exact hA) hG hc hAs (fun k hk=>?_) rfl (fun k hk=>?_)
    ·obtain ⟨t1,t2⟩:=(tch_en q.1 (parG s.Gs g) (65536+g) (wokenX (s.A g) (s.fl (parG s.Gs g)) s.cr)).1 k (by omega)
     obtain ⟨t3,t4⟩:=hM k (by omega)
     exact ⟨t1.trans t3,t2.trans t4⟩
    ·rw [setE_at (by rw [hA];exact hk)]
     by_cases e:k=g
     ·subst e
      rw [if_pos rfl]
      refine (spot_here h0 ?_).symm
      show entM (upd q.1.M (parG s.Gs k) _ (parG q.1.Gs k)) _=_
      rw [hG,upd_same,m1,e2,if_pos rfl]
     ·rw [if_neg e,hs k hk]
      exact (spot_other (a:=q.1) (b:=enQ q.1 (parG s.Gs g) (65536+g) (wokenX (s.A g) (s.fl (parG s.Gs g)) s.cr)) (p:=parG s.Gs g) (id:=65536+(g:Int)) rfl rfl (fun j hj=>enterM_ne _ hj) rfl (by omega)).symm
   | false =>
    have hz:¬ (itemsM (s.M g)).length=0:=by have:=items_pos.2 he;omega
    rw [he] at hq
    rw [if_neg hz]
    have e1:enStep (parG s.Gs) q g=q:=by unfold enStep;rw [hq];rfl
    have e2:(pathT (parG s.Gs) (parG s.Gs g)).foldl (enStep (parG s.Gs)) q=q:=by
     have:=en_stop (parG s.Gs) q.1 (pathT (parG s.Gs) (parG s.Gs g))
     rw [← hq] at this
     exact this
    rw [e1,e2]
    exact hs
  ·obtain rfl:g=0:=by omega
   rw [pathT_zero]
   exact hs
theorem lv_spots {s:TSt} (hok:TOk s):∀ (g:Nat) (q:TSt×Bool),g<s.n→q.1.Gs=s.Gs→(∀ k,k<g→q.1.M k=s.M k)→(s.M g).isEmpty=false →
  ∀ k,spotX ((pathT (parG s.Gs) g).foldl (lvStep (parG s.Gs)) q).1 k=spotX q.1 k:=by
 intro g
 induction g using Nat.strongRecOn with
 | ind g ih =>
  intro q hg hG hM he k
  by_cases h0:0<g
  ·have hlt:=parG_lt hok.core.right h0 hg
   rw [pathT_pos h0 hlt,List.foldl_cons]
   obtain ⟨y,y1,_⟩:=seat_some hok h0 hg he
   have hl:=hok.core.right.le
   have hg256:g<256:=by unfold TSt.n at hg;omega
   have hm:=hM (parG s.Gs g) hlt
   have hne:(s.M (parG s.Gs g)).isEmpty=false:=inM_ne (id:=65536+(g:Int)) (by unfold inM;rw [y1];rfl)
   have e1:lvStep (parG s.Gs) q g=if q.2 then q else if (q.1.M g).isEmpty then (lvA q.1 g (parG s.Gs g),false) else (q.1,true):=rfl
   rw [e1]
   split
   ·exact ih (parG s.Gs g) hlt q (by omega) hG (fun k hk=>hM k (by omega)) hne k
   ·split
    ·rw [ih (parG s.Gs g) hlt (lvA q.1 g (parG s.Gs g),false) (by omega) hG (fun j hj=>?_) hne k]
     ·show spotX (lvA q.1 g (parG s.Gs g)) k=_
      have hE:leaveE qN (q.1.M (parG s.Gs g)) (65536+g)=y:=by rw [hm];exact leave_x (by omega) y1
      by_cases e:k=g
      ·subst e
       rw [spot_aside (b:=lvA q.1 k (parG s.Gs k)) ?_,spot_here (b:=q.1) h0 (by rw [hG,hm];exact y1)]
       ·show upd q.1.A k _ k=y
        rw [upd_same,hE]
       ·show entM (upd q.1.M (parG s.Gs k) _ (parG q.1.Gs k)) _=none
        rw [hG,upd_same,hm,leave_ent (hok.core.mok _) (by omega),if_pos rfl]
      ·exact spot_other (p:=parG s.Gs g) (id:=65536+(g:Int)) rfl rfl (fun j hj=>leaveM_ne hj) (upd_other _ _ e) (by omega)
     ·exact (upd_other _ _ (by omega)).trans (hM j (by omega))
    ·exact ih (parG s.Gs g) hlt (q.1,true) (by omega) hG (fun k hk=>hM k (by omega)) hne k
  ·obtain rfl:g=0:=by omega
   rw [pathT_zero]
   rfl
theorem ch_spots {s:TSt} {tk:Int} (hok:TOk s) (ht:tkOk tk):∀ (g:Nat) (a:TSt) (A:List Ent),g<s.n→A.length=s.n→a.Gs=s.Gs→a.A=s.A→(∀ k,k<g→a.M k=s.M k)→(s.M g).isEmpty=false→(∀ k,k<s.n→A[k]! = spotX a k) →
  ∀ k,k<s.n→(chA tk (pathT (parG s.Gs) g) A)[k]! = spotX (chgUp tk (parG s.Gs) a (pathT (parG s.Gs) g)) k:=by
 intro g
 induction g using Nat.strongRecOn with
 | ind g ih =>
  intro a A hg hA hG hAs hM he hs
  by_cases h0:0<g
  ·have hlt:=parG_lt hok.core.right h0 hg
   rw [pathT_pos h0 hlt]
   obtain ⟨y,y1,_⟩:=seat_some hok h0 hg he
   have hl:=hok.core.right.le
   have hg256:g<256:=by unfold TSt.n at hg;omega
   have hm:=hM (parG s.Gs g) hlt
   have hne:(s.M (parG s.Gs g)).isEmpty=false:=inM_ne (id:=65536+(g:Int)) (by unfold inM;rw [y1];rfl)
   have hAg:A[g]! = y:=by rw [hs g hg];exact spot_here h0 (by rw [hG,hm];exact y1)
   show ∀ k,k<s.n→(chA tk (pathT (parG s.Gs) (parG s.Gs g)) (A.set g (chgX tk A[g]!)))[k]! = spotX (chgUp tk (parG s.Gs) (chgQ tk a (parG s.Gs g) (65536+g)) (pathT (parG s.Gs) (parG s.Gs g))) k
   rw [hAg]
   refine ih (parG s.Gs g) hlt _ _ (by omega) (by rw [List.length_set];exact hA) hG hAs (fun k hk=>?_) hne (fun k hk=>?_)
   ·exact (upd_other _ _ (by omega)).trans (hM k (by omega))
   ·rw [setE_at (by rw [hA];exact hk)]
    by_cases e:k=g
    ·subst e
     rw [if_pos rfl]
     refine (spot_here h0 ?_).symm
     show entM (upd a.M (parG s.Gs k) _ (parG a.Gs k)) _=_
     rw [hG,upd_same,hm,ch_is (by omega) (hok.core.mok _),if_pos ⟨decide_eq_true ht,rfl⟩,y1]
     rfl
    ·rw [if_neg e,hs k hk]
     exact (spot_other (a:=a) (b:=chgQ tk a (parG s.Gs g) (65536+g)) (p:=parG s.Gs g) (id:=65536+(g:Int)) rfl rfl (fun j hj=>chS_ne _ hj) rfl (by omega)).symm
  ·obtain rfl:g=0:=by omega
   rw [pathT_zero]
   exact hs
theorem ins_cons (y:Int×Int×Ent) (r:Tks) (t:Int×Int×Ent):insTk (y::r) t=if y.1<t.1 then y::insTk r t else t::y::r:=by
 unfold insTk cutTk
 rw [List.takeWhile_cons]
 by_cases h:y.1<t.1
 ·rw [if_pos (decide_eq_true h),if_pos h];rfl
 ·rw [if_neg (by simpa using h),if_neg h];rfl
theorem ins_mem {t u:Int×Int×Ent}:∀ {T:Tks},u∈insTk T t↔u=t∨u∈T
 | []=>by unfold insTk cutTk;simp
 | y::r=>by
  rw [ins_cons]
  split
  ·rw [List.mem_cons,ins_mem,List.mem_cons]
   constructor
   ·rintro (e | e | e)
    ·exact Or.inr (Or.inl e)
    ·exact Or.inl e
    ·exact Or.inr (Or.inr e)
   ·rintro (e | e | e)
    ·exact Or.inr (Or.inl e)
    ·exact Or.inl e
    ·exact Or.inr (Or.inr e)
  ·rw [List.mem_cons]
theorem ins_srt {t:Int×Int×Ent}:∀ {T:Tks},T.Pairwise (fun a b=>a.1<b.1)→(∀ u∈T,u.1≠t.1)→(insTk T t).Pairwise (fun a b=>a.1<b.1)
 | [],_,_=>by unfold insTk cutTk;simp
 | y::r,h,hn=>by
  obtain ⟨h1,h2⟩:=List.pairwise_cons.1 h
  rw [ins_cons]
  split
  ·rename_i q
   refine List.pairwise_cons.2 ⟨fun u hu=>?_,ins_srt h2 fun u hu=>hn u (List.mem_cons_of_mem _ hu)⟩
   rcases ins_mem.1 hu with rfl | hu
   ·exact q
   ·exact h1 u hu
  ·rename_i q
   have hy:=hn y List.mem_cons_self
   refine List.pairwise_cons.2 ⟨fun u hu=>?_,h⟩
   rcases List.mem_cons.1 hu with rfl | hu
   ·show t.1<u.1
    omega
   ·have:=h1 u hu
    show t.1<u.1
    omega
theorem srt_ne {T:Tks} (h:T.Pairwise (fun a b=>a.1<b.1)) {i j:Nat} (hi:i<T.length) (hj:j<T.length) (hij:i≠j):T[i].1≠T[j].1:=by
 have:=List.pairwise_iff_getElem.1 h
 rcases Nat.lt_or_gt_of_ne hij with q | q
 ·have:=this i j hi hj q;omega
 ·have:=this j i hj hi q;omega
theorem outTk_erase (T:Tks) (k:Nat):outTk T k=T.eraseIdx k:=by unfold outTk;rw [List.eraseIdx_eq_take_drop_succ]
theorem outTk_mem {T:Tks} (h:T.Pairwise (fun a b=>a.1<b.1)) {k:Nat} (hk:k<T.length) {u:Int×Int×Ent}:u∈outTk T k↔u∈T∧u.1≠T[k]!.1:=by
 rw [outTk_erase,getElem!_pos T k hk,List.mem_eraseIdx_iff_getElem]
 constructor
 ·rintro ⟨i,hi,hne,rfl⟩
  exact ⟨List.getElem_mem hi,srt_ne h hi hk hne⟩
 ·rintro ⟨hu,hne⟩
  obtain ⟨i,hi,rfl⟩:=List.getElem_of_mem hu
  exact ⟨i,hi,fun e=>hne (by subst e;rfl),rfl⟩
theorem outTk_srt {T:Tks} (h:T.Pairwise (fun a b=>a.1<b.1)) (k:Nat):(outTk T k).Pairwise (fun a b=>a.1<b.1):=by
 rw [outTk_erase]
 exact h.sublist (List.eraseIdx_sublist T k)
theorem setTk_mem {T:Tks} (h:T.Pairwise (fun a b=>a.1<b.1)) {k:Nat} (hk:k<T.length) {v u:Int×Int×Ent}:u∈T.set k v↔u=v∨(u∈T∧u.1≠T[k]!.1):=by
 rw [getElem!_pos T k hk]
 constructor
 ·intro hu
  obtain ⟨i,hi,rfl⟩:=List.getElem_of_mem hu
  rw [List.length_set] at hi
  rw [List.getElem_set]
  by_cases e:k=i
  ·rw [if_pos e];exact Or.inl rfl
  ·rw [if_neg e];exact Or.inr ⟨List.getElem_mem hi,srt_ne h hi hk (Ne.symm e)⟩
 ·rintro (rfl | ⟨hu,hne⟩)
  ·exact List.mem_set hk u
  ·obtain ⟨i,hi,rfl⟩:=List.getElem_of_mem hu
   have hki:k≠i:=fun e=>hne (by subst e;rfl)
   have:T[i]=(T.set k v)[i]'(by rw [List.length_set];exact hi):=by rw [List.getElem_set,if_neg hki]
   rw [this]
   exact List.getElem_mem _
theorem setTk_srt {T:Tks} (h:T.Pairwise (fun a b=>a.1<b.1)) {k:Nat} (hk:k<T.length) {v:Int×Int×Ent} (hv:v.1=T[k]!.1):(T.set k v).Pairwise (fun a b=>a.1<b.1):=by
 rw [List.pairwise_iff_getElem] at h ⊢
 rw [getElem!_pos T k hk] at hv
 intro i j hi hj hij
 rw [List.length_set] at hi hj
 rw [List.getElem_set,List.getElem_set]
 have:=h i j hi hj hij
 by_cases e1:k=i
 ·subst e1
  rw [if_pos rfl,if_neg (by omega),hv];exact this
 ·rw [if_neg e1]
  by_cases e2:k=j
  ·subst e2;rw [if_pos rfl,hv];exact this
  ·rw [if_neg e2];exact this
section
variable {s:TSt} {r:RSt}
theorem not_there (hok:TOk s) {id:Int} (hi:1≤id∧id≤65535) (hT:s.T id=none) (j:Nat):entM (s.M j) id=none:=by
 cases e:entM (s.M j) id with
 | none=>rfl
 | some y =>
  rcases hok.core.ids j id (by unfold inM;rw [e];rfl) with ⟨q,_⟩ | ⟨c,_,_,q,_⟩
  ·rw [hT] at q;cases q
  ·omega
theorem TwinC.low (h:TwinC s r) (hok:TOk s) {id g:Int} {x:Ent} (hi:65536≤id):(id,g,x)∉r.T:=fun m=>by
 obtain ⟨h1,_⟩:=(h.t _ _ _).1 m
 have:=hok.core.tid id (by rw [h1];simp)
 omega
theorem T_low (hok:TOk s) {id:Int} (hi:65536≤id):s.T id=none:=by
 cases e:s.T id with
 | none=>rfl
 | some g=>have:=hok.core.tid id (by rw [e];simp);omega
theorem enter_twin (h:Twin s r) (hok:TOk s) (ho:OrdT s) (hf:FlI s) {id:Int} {k:Nat} {x:Ent} (hi:1≤id∧id≤65535) (hT:s.T id=none) (hk:k<s.n) (hx:EntOk x) {s':TSt} (hs':s'=(enUp (parG s.Gs) (enT (enQ s k id x) k id) (s.M k).isEmpty (pathT (parG s.Gs) k)).1) (hok':TOk s') (ho':OrdT s'):Twin s' (enterR r s.n id k x):=by
 obtain ⟨f1,f2,f3,f4,f5⟩:=enUp_fr (parG s.Gs) (pathT (parG s.Gs) k) (enT (enQ s k id x) k id,(s.M k).isEmpty)
 have hs2:s'=((pathT (parG s.Gs) k).foldl (enStep (parG s.Gs)) (enT (enQ s k id x) k id,(s.M k).isEmpty)).1:=hs'
 rw [← hs2] at f1 f2 f3 f4 f5
 obtain ⟨_,e2⟩:=enter_in (id:=id) (hok.core.mok k) (by omega) hx (not_there hok hi hT k)
 have hn:s'.n=s.n:=by unfold TSt.n;rw [f1];rfl
 have hlow:∀ (j:Nat) (i:Int),i<65536→entM (s'.M j) i=if j=k∧i=id then some x else entM (s.M j) i:=fun j i hi'=>by
  rw [hs2,low_enUp _ hi']
  show entM (upd s.M k _ j) i=_
  by_cases q:j=k
  ·rw [q,upd_same,e2]
   by_cases q2:i=id
   ·rw [if_pos q2,if_pos ⟨rfl,q2⟩]
   ·rw [if_neg q2,if_neg fun z=>q2 z.2]
  ·rw [upd_other _ _ q,if_neg fun z=>q z.1]
 have hC:TwinC s' { r with T:=insTk r.T (id,(k:Int),x),A:=upA r s.n (pathT (parG s.Gs) k) r.A }:=by
  refine ⟨by rw [f1];exact h.gs,by rw [f2];exact h.cr,by rw [hn];exact (upA_len r s.n _ _).trans h.al,fun j hj=>?_,?_,fun i g y=>?_⟩
  ·rw [hs2]
   rw [hn] at hj
   refine en_spots h hok ho k (enT (enQ s k id x) k id,(s.M k).isEmpty) r.A hk h.al rfl rfl rfl (fun j hj=>(tch_en s k id x).1 j (by omega)) rfl (fun j hj=>?_) j hj
   rw [h.a j hj]
   exact (spot_other (a:=s) (b:=enT (enQ s k id x) k id) (p:=k) (id:=id) rfl rfl (fun i hi=>enterM_ne _ hi) rfl (by omega)).symm
  ·refine ins_srt h.srt fun u hu e=>?_
   obtain ⟨_,g,_,_,q,_⟩:=h.task hok hu
   rw [show u.1=id from e,hT] at q
   cases q
  ·rw [ins_mem,f3]
   show _↔setF s.T id (some (k:Int)) i=some g∧_
   by_cases q:i=id
   ·subst q
    rw [setF_same]
    constructor
    ·rintro (e | e)
     ·simp only [Prod.mk.injEq,true_and] at e
      obtain ⟨rfl,rfl⟩:=e
      exact ⟨rfl,by rw [Int.toNat_natCast,hlow k i (by omega),if_pos ⟨rfl,rfl⟩]⟩
     ·obtain ⟨q,_⟩:=(h.t _ _ _).1 e
      rw [hT] at q;cases q
    ·rintro ⟨e1,e3⟩
     cases e1
     rw [Int.toNat_natCast,hlow k i (by omega),if_pos ⟨rfl,rfl⟩] at e3
     cases e3
     exact Or.inl rfl
   ·rw [setF_other _ _ q]
    by_cases hl:i<65536
    ·rw [hlow _ i hl,if_neg fun z=>q z.2,← h.t]
     exact ⟨fun e=>e.elim (fun e=>absurd (congrArg Prod.fst e) q) fun e=>e,Or.inr⟩
    ·rw [T_low hok (by omega)]
     exact ⟨fun e=>e.elim (fun e=>absurd (congrArg Prod.fst e) q) fun e=>absurd e (h.toTwinC.low hok (by omega)),fun e=>by cases e.1⟩
 have:=twin_raised hC hok' ho' h rfl hn (fun j=>by rw [hs2];exact rz_enUp hf k _ (Rz.start hf (tch_en s k id x)) j)
 unfold enterR
 rw [h.par]
 exact this
theorem en_twin (h:Twin s r) (hok:TOk s) (ho:OrdT s) (hf:FlI s) {id g ac:Int} {x:Ent} {ok:Bool} (ha:ac=0↔ok=true) (hx:ac=0→EntOk x) (hok':TOk (enS s id g ac x)) (ho':OrdT (enS s id g ac x)) :
  Twin (enS s id g ac x) (if wrongC r s.n id g ok=0 then enterR r s.n id g.toNat x else r):=by
 rw [wrong_twin h.toTwinC hok id g ha]
 by_cases hC:enC s id g ac=0
 ·rw [if_pos hC]
  have hC':=hC
  unfold enC at hC'
  by_cases hv:(nameV id && hasV (s.n:Int) g)=true
  ·rw [if_pos hv] at hC'
   simp only [Bool.and_eq_true] at hv
   have i1:1≤id∧id≤65535:=of_decide_eq_true hv.1
   have i2:0≤g∧g<(s.n:Int):=of_decide_eq_true hv.2
   by_cases hac:ac=0
   ·rw [if_pos hac] at hC'
    have hT:s.T id=none:=by
     cases e:s.T id with
     | none=>rfl
     | some g'=>rw [e] at hC';simp at hC'
    obtain ⟨k,rfl⟩:=Int.eq_ofNat_of_zero_le i2.1
    rw [Int.toNat_natCast]
    refine enter_twin h hok ho hf i1 hT (by omega) (hx hac) ?_ hok' ho'
    unfold enS
    rw [if_pos hC,Int.toNat_natCast]
   ·rw [if_neg hac] at hC';exact absurd hC' (by decide)
  ·rw [if_neg hv] at hC';exact absurd hC' (by decide)
 ·rw [if_neg hC]
  have:enS s id g ac x=s:=by unfold enS;rw [if_neg hC]
  rw [this]
  exact h
theorem newC_ok (k:Int):newC k=0↔Ch.wB k=true:=by
 unfold newC
 rw [wB_dec]
 split
 ·simp [*]
 ·simp [*]
theorem wokenC_ok (x:Ent):wokenC x=0↔decide (EntOk x)=true:=by
 unfold wokenC EntOk
 split
 ·simp [*]
 ·simp [*]
theorem comeC_ok (x:Ent):comeC x=0↔decide (EntOk x)=true:=by
 unfold comeC EntOk
 split
 ·simp [*]
 ·simp [*]
theorem wrong_spawn (h:Twin s r) (hok:TOk s) (id g k:Int):wrongC r s.n id g (Ch.wB k)=spawnC s id g k:=wrong_twin h.toTwinC hok id g (newC_ok k)
theorem wrong_wake (h:Twin s r) (hok:TOk s) (id g:Int) (x:Ent):wrongC r s.n id g (decide (EntOk x))=wakeC s id g x:=wrong_twin h.toTwinC hok id g (wokenC_ok x)
theorem wrong_come (h:Twin s r) (hok:TOk s) (id g:Int) (x:Ent):wrongC r s.n id g (decide (EntOk x))=comC s id g x:=wrong_twin h.toTwinC hok id g (comeC_ok x)
theorem new_entOk {f k:Int} (hf:FlOk f) (hk:newC k=0):EntOk (newX f k)∧newX f k=(f,0,k):=by
 have hk':=(wB_dec k).1 ((newC_ok k).1 hk)
 have e:newX f k=(f,0,k):=by unfold newX;rw [if_pos hk']
 rw [e]
 refine ⟨?_,rfl⟩
 unfold FlOk at hf
 unfold EntOk Ch.Ok
 simp only [or_true,and_true]
 omega
theorem enC_in {id g ac:Int} (hC:enC s id g ac=0):ac=0∧(0≤g∧g<(s.n:Int))∧1≤id∧id≤65535:=by
 unfold enC at hC
 by_cases hv:(nameV id && hasV (s.n:Int) g)=true
 ·rw [if_pos hv] at hC
  simp only [Bool.and_eq_true] at hv
  by_cases hac:ac=0
  ·exact ⟨hac,of_decide_eq_true hv.2,of_decide_eq_true hv.1⟩
  ·rw [if_neg hac] at hC;exact absurd hC (by decide)
 ·rw [if_neg hv] at hC;exact absurd hC (by decide)
theorem spawnX_twin (h:Twin s r) (hok:TOk s) (id g k:Int):spawnRX r s.n id g k=spawnX s id g k:=by
 have hw:=wrong_spawn h hok id g k
 unfold spawnRX spawnX enX
 have hC:spawnC s id g k=enC s id g (newC k):=rfl
 by_cases q:spawnC s id g k=0
 ·obtain ⟨q1,q2,_⟩:=enC_in q
  rw [hw,if_pos q,← hC,if_pos q,(new_entOk (hok.core.fok g.toNat) q1).2,h.f _ (by omega)]
 ·rw [hw,if_neg q,← hC,if_neg q]
theorem spawn_twin (h:Twin s r) (hok:TOk s) (ho:OrdT s) (hf:FlI s) (id g k:Int) (ho':OrdT (spawnS s id g k)):Twin (spawnS s id g k) (spawnRS r s.n id g k):=by
 have hw:=wrong_spawn h hok id g k
 have:=en_twin h hok ho hf (newC_ok k) (fun q=>(new_entOk (hok.core.fok g.toNat) q).1) (spawn_ok hok) ho'
 unfold spawnRS
 by_cases q:spawnC s id g k=0
 ·obtain ⟨q1,q2,_⟩:=enC_in q
  rw [hw,if_pos q,h.f _ (by omega)]
  rw [hw,if_pos q,(new_entOk (hok.core.fok g.toNat) q1).2] at this
  have e:spawnS s id g k=enS s id g (newC k) (newX (s.fl g.toNat) k):=rfl
  rw [e,(new_entOk (hok.core.fok g.toNat) q1).2]
  exact this
 ·rw [hw,if_neg q]
  rw [hw,if_neg q] at this
  exact this
theorem wakeX_twin (h:Twin s r) (hok:TOk s) (id g:Int) (x:Ent):wakeRX r s.n id g x=wakeX s id g x:=by
 have hw:=wrong_wake h hok id g x
 unfold wakeRX wakeX enX
 have hC:wakeC s id g x=enC s id g (wokenC x):=rfl
 by_cases q:wakeC s id g x=0
 ·obtain ⟨q1,q2,_⟩:=enC_in q
  rw [hw,if_pos q,← hC,if_pos q,h.f _ (by omega),h.cr]
 ·rw [hw,if_neg q,← hC,if_neg q]
theorem wake_twin (h:Twin s r) (hok:TOk s) (ho:OrdT s) (hf:FlI s) (id g:Int) (x:Ent) (ho':OrdT (wakeS s id g x)):Twin (wakeS s id g x) (wakeRS r s.n id g x):=by
 have hw:=wrong_wake h hok id g x
 have hx:wokenC x=0→EntOk (wokenX x (s.fl g.toNat) s.cr):=fun q=>wokenX_ok (of_decide_eq_true ((wokenC_ok x).1 q)) (hok.core.fok _) hok.core.cr
 have:=en_twin h hok ho hf (wokenC_ok x) hx (wake_ok hok) ho'
 unfold wakeRS
 by_cases q:wakeC s id g x=0
 ·obtain ⟨q1,q2,_⟩:=enC_in q
  rw [hw,if_pos q,h.f _ (by omega),h.cr]
  rw [hw,if_pos q] at this
  exact this
 ·rw [hw,if_neg q]
  rw [hw,if_neg q] at this
  exact this
theorem come_twin (h:Twin s r) (hok:TOk s) (ho:OrdT s) (hf:FlI s) (id g:Int) (x:Ent) (ho':OrdT (comS s id g x)):Twin (comS s id g x) (comR r s.n id g x):=by
 have hx:comeC x=0→comeX x=x∧EntOk x:=fun q=>by
  have:=of_decide_eq_true ((comeC_ok x).1 q)
  exact ⟨by unfold comeX;rw [if_pos this],this⟩
 have:=en_twin h hok ho hf (comeC_ok x) (fun q=>by rw [(hx q).1];exact (hx q).2) (come_ok hok) ho'
 unfold comR
 have hw:=wrong_come h hok id g x
 by_cases q:comC s id g x=0
 ·rw [hw,if_pos q]
  rw [hw,if_pos q,(hx (enC_in q).1).1] at this
  have e:comS s id g x=enS s id g (comeC x) (comeX x):=rfl
  rw [e,(hx (enC_in q).1).1]
  exact this
 ·rw [hw,if_neg q]
  rw [hw,if_neg q] at this
  exact this
theorem leave_twin (h:Twin s r) (hok:TOk s) (ho:OrdT s) (hf:FlI s) (id:Int) (ho':OrdT (plvS s id)):Twin (plvS s id) (leaveRS r s.n id):=by
 unfold leaveRS
 rw [there_twin h.toTwinC hok,if_pos rfl]
 by_cases hC:findC s id=0
 ·rw [if_pos hC]
  obtain ⟨k,g,x,hk,a2,_,a3,hg,hT,hE,hG,hi⟩:=twin_there h.toTwinC hok hC
  have hok':=leave_ok (id:=id) hok
  obtain ⟨s',hs⟩:∃ s',s'=plvS s id:=⟨_,rfl⟩
  rw [← hs] at ho' hok' ⊢
  unfold plvS at hs
  rw [if_pos hC,hG,Int.toNat_natCast] at hs
  obtain ⟨f1,f2,f3,f4⟩:=lvUp_fr (parG s.Gs) (pathT (parG s.Gs) g) (lvT (lvQ s g id) id,false)
  have hs2:s'=((pathT (parG s.Gs) g).foldl (lvStep (parG s.Gs)) (lvT (lvQ s g id) id,false)).1:=hs
  rw [← hs2] at f1 f2 f3 f4
  have hn:s'.n=s.n:=by unfold TSt.n;rw [f1];rfl
  have hne:(s.M g).isEmpty=false:=inM_ne (id:=id) (by unfold inM;rw [hE];rfl)
  have hlow:∀ (j:Nat) (i:Int),i<65536→entM (s'.M j) i=if j=g∧i=id then none else entM (s.M j) i:=fun j i hi'=>by
   rw [hs2,low_lvUp _ hi']
   show entM (upd s.M g _ j) i=_
   by_cases q:j=g
   ·rw [q,upd_same,leave_ent (hok.core.mok g) (by omega)]
    by_cases q2:i=id
    ·rw [if_pos q2,if_pos ⟨rfl,q2⟩]
    ·rw [if_neg q2,if_neg fun z=>q2 z.2]
   ·rw [upd_other _ _ q,if_neg fun z=>q z.1]
  rw [a2]
  have hid:r.T[k]!.1=id:=by rw [a3]
  have hC':TwinC s' { r with T:=outTk r.T k }:=by
   refine ⟨by rw [f1];exact h.gs,by rw [f2];exact h.cr,by rw [hn];exact h.al,fun j hj=>?_,outTk_srt h.srt k,fun i g' y=>?_⟩
   ·rw [hn] at hj
    rw [hs2,lv_spots hok g _ hg rfl (fun j hj=>((tch_lv s g id).1 j (by omega)).1) hne j]
    show r.A[j]! = _
    rw [h.a j hj]
    exact (spot_other (a:=s) (b:=lvT (lvQ s g id) id) (p:=g) (id:=id) rfl rfl (fun i hi=>leaveM_ne hi) rfl (by omega)).symm
   ·rw [outTk_mem h.srt hk,hid,f3]
    show _↔setF s.T id none i=some g'∧_
    by_cases q:i=id
    ·subst q
     rw [setF_same]
     exact ⟨fun e=>absurd rfl e.2,fun e=>by cases e.1⟩
    ·rw [setF_other _ _ q]
     by_cases hl:i<65536
     ·rw [hlow _ i hl,if_neg fun z=>q z.2,← h.t]
      exact ⟨fun e=>e.1,fun e=>⟨e,q⟩⟩
     ·rw [T_low hok (by omega)]
      exact ⟨fun e=>absurd e.1 (h.toTwinC.low hok (by omega)),fun e=>by cases e.1⟩
  exact twin_raised hC' hok' ho' h rfl hn (fun j=>by rw [hs2];exact rz_lvUp hf g _ (Rz.start hf (tch_lv s g id)) j)
 ·rw [if_neg hC]
  have:plvS s id=s:=by unfold plvS;rw [if_neg hC]
  rw [this]
  exact h
theorem tB_dec (tk:Int):Ch.tB tk=true↔tkOk tk:=by unfold Ch.tB tkOk;simp
theorem there_charge (h:Twin s r) (hok:TOk s) (id tk:Int):thereC r id (Ch.tB tk)=pchgC s id tk:=by
 rw [there_twin h.toTwinC hok]
 unfold pchgC
 by_cases q:tkOk tk
 ·rw [if_pos ((tB_dec tk).2 q),if_pos q]
 ·rw [if_neg fun z=>q ((tB_dec tk).1 z),if_neg q]
theorem charge_twin (h:Twin s r) (hok:TOk s) (ho:OrdT s) (hf:FlI s) (id tk:Int) (ho':OrdT (pchgS s id tk)):Twin (pchgS s id tk) (chargeRS r s.n id tk):=by
 unfold chargeRS
 rw [there_charge h hok]
 by_cases hC:pchgC s id tk=0
 ·rw [if_pos hC]
  have htk:tkOk tk:=by
   unfold pchgC at hC
   by_cases q:tkOk tk
   ·exact q
   ·rw [if_neg q] at hC;exact absurd hC (by decide)
  have hF:findC s id=0:=by unfold pchgC at hC;rw [if_pos htk] at hC;exact hC
  obtain ⟨k,g,x,hk,a2,_,a3,hg,hT,hE,hG,hi⟩:=twin_there h.toTwinC hok hF
  have hok':=charge_ok (id:=id) (tk:=tk) hok
  obtain ⟨s',hs⟩:∃ s',s'=pchgS s id tk:=⟨_,rfl⟩
  rw [← hs] at ho' hok' ⊢
  unfold pchgS at hs
  rw [if_pos hC,hG,Int.toNat_natCast] at hs
  obtain ⟨f1,f2,f3,f4⟩:=chgUp_fr tk (parG s.Gs) (pathT (parG s.Gs) g) (chgQ tk s g id)
  rw [← hs] at f1 f2 f3 f4
  have hn:s'.n=s.n:=by unfold TSt.n;rw [f1];rfl
  have hne:(s.M g).isEmpty=false:=inM_ne (id:=id) (by unfold inM;rw [hE];rfl)
  have hlow:∀ (j:Nat) (i:Int),i<65536→entM (s'.M j) i=if j=g∧i=id then some (chgX tk x) else entM (s.M j) i:=fun j i hi'=>by
   rw [hs,low_chUp _ _ hi']
   show entM (upd s.M g _ j) i=_
   by_cases q:j=g
   ·rw [q,upd_same,ch_is (by omega) (hok.core.mok g)]
    by_cases q2:i=id
    ·rw [if_pos ⟨decide_eq_true htk,q2⟩,if_pos ⟨rfl,q2⟩,q2,hE];rfl
    ·rw [if_neg fun z=>q2 z.2,if_neg fun z=>q2 z.2]
   ·rw [upd_other _ _ q,if_neg fun z=>q z.1]
  rw [a2,a3]
  dsimp only
  rw [Int.toNat_natCast,h.par]
  have hid:r.T[k]!.1=id:=by rw [a3]
  have hv:chgT r tk k=r.T.set k (id,(g:Int),chgX tk x):=by unfold chgT;rw [a3]
  have hC':TwinC s' { r with T:=chgT r tk k,A:=chA tk (pathT (parG s.Gs) g) r.A }:=by
   refine ⟨by rw [f1];exact h.gs,by rw [f2];exact h.cr,by rw [hn];exact (chA_len tk _ _).trans h.al,fun j hj=>?_,by rw [hv];exact setTk_srt h.srt hk hid.symm,fun i g' y=>?_⟩
   ·rw [hn] at hj
    rw [hs]
    refine ch_spots hok htk g (chgQ tk s g id) r.A hg h.al rfl rfl (fun j hj=>((tch_ch tk s g id).1 j (by omega)).1) hne (fun j hj=>?_) j hj
    rw [h.a j hj]
    exact (spot_other (a:=s) (b:=chgQ tk s g id) (p:=g) (id:=id) rfl rfl (fun i hi=>chS_ne _ hi) rfl (by omega)).symm
   ·rw [hv,setTk_mem h.srt hk,hid,f3]
    show _↔s.T i=some g'∧_
    by_cases q:i=id
    ·subst q
     constructor
     ·rintro (e | e)
      ·simp only [Prod.mk.injEq,true_and] at e
       obtain ⟨rfl,rfl⟩:=e
       exact ⟨hT,by rw [Int.toNat_natCast,hlow g i (by omega),if_pos ⟨rfl,rfl⟩]⟩
      ·exact absurd rfl e.2
     ·rintro ⟨e1,e3⟩
      rw [hT] at e1
      cases e1
      rw [Int.toNat_natCast,hlow g i (by omega),if_pos ⟨rfl,rfl⟩] at e3
      cases e3
      exact Or.inl rfl
    ·by_cases hl:i<65536
     ·rw [hlow _ i hl,if_neg fun z=>q z.2,← h.t]
      exact ⟨fun e=>e.elim (fun e=>absurd (congrArg Prod.fst e) q) fun e=>e.1,fun e=>Or.inr ⟨e,q⟩⟩
     ·rw [T_low hok (by omega)]
      exact ⟨fun e=>e.elim (fun e=>absurd (congrArg Prod.fst e) q) fun e=>absurd e.1 (h.toTwinC.low hok (by omega)),fun e=>by cases e.1⟩
  exact twin_raised hC' hok' ho' h rfl hn (fun j=>by rw [hs];exact rz_chUp hf g _ (Rz.start hf (tch_ch tk s g id)) j)
 ·rw [if_neg hC]
  have:pchgS s id tk=s:=by unfold pchgS;rw [if_neg hC]
  rw [this]
  exact h
theorem items_same {M N:Mems} (hM:MOk M) (hN:MOk N) (oM:InOrder (itemsM M)) (oN:InOrder (itemsM N)) (h:∀ j,(entM M j).map (·.1)=(entM N j).map (·.1)):itemsM M=itemsM N:=by
 refine order_unique oM oN ((List.perm_ext_iff_of_nodup (order_apart oM) (order_apart oN)).2 fun x=>?_)
 rw [items_mem hM.nod,items_mem hN.nod]
 have hx:=h x.1
 constructor
 ·rintro ⟨y,y1,y2⟩
  rw [y1] at hx
  cases e:entM N x.1 with
  | none=>rw [e] at hx;cases hx
  | some z=>rw [e] at hx;exact ⟨z,rfl,by have:y.1=z.1:=Option.some.inj hx;omega⟩
 ·rintro ⟨y,y1,y2⟩
  rw [y1] at hx
  cases e:entM M x.1 with
  | none=>rw [e] at hx;cases hx
  | some z=>rw [e] at hx;exact ⟨z,rfl,by have:z.1=y.1:=Option.some.inj hx;omega⟩
theorem wg_floor {s2:TSt} (hok:TOk s) (ho:OrdT s) (hf:FlI s) (hM2:s2.M=s.M) (hF2:s2.fl=s.fl) {p:Nat} (hp:p<s.n) {id w:Int} (hi:0≤id∧id<65792) (hok':∀ k,MOk ((wgQ w s2 p id).M k)) (ho':InOrder (itemsM ((wgQ w s2 p id).M p))) (k:Nat):(wgQ w s2 p id).fl k=s.fl k:=by
 by_cases e:k=p
 ·subst e
  rcases (tch_wg w s2 k id).2 with q | ⟨_,q⟩
  ·rw [q,hF2]
   have:itemsM ((wgQ w s2 k id).M k)=itemsM (s.M k):=by
    refine items_same (hok' k) (hok.core.mok k) ho' (ho k hp) fun j=>?_
    show (entM (upd s2.M k _ k) j).map _=_
    rw [upd_same,hM2,ch_is hi (hok.core.mok k)]
    split
    ·cases entM (s.M k) j <;> rfl
    ·rfl
   rw [this]
   exact rise_same (hf k)
  ·rw [q,hF2]
 ·rw [((tch_wg w s2 p id).1 k e).2,hF2]
theorem weigh_twin (h:Twin s r) (hok:TOk s) (ho:OrdT s) (hf:FlI s) (id wt:Int) (ho':OrdT (pweiS s id wt)):Twin (pweiS s id wt) (weighRS r id wt)∧thereC r id (Ch.wB wt)=pweiC s id wt:=by
 have hth:=there_twin h.toTwinC hok id (Ch.wB wt)
 by_cases hw:wgOk wt
 ·have hwB:Ch.wB wt=true:=(wB_dec wt).2 hw
  rw [hwB,if_pos rfl] at hth
  rw [hwB]
  unfold weighRS
  rw [hwB,hth]
  by_cases hF:findC s id=0
  ·obtain ⟨k,g,x,hk,a2,_,a3,hg,hT,hE,hG,hi⟩:=twin_there h.toTwinC hok hF
   have hokA:=weigh_ok (id:=id) (k:=wt) hok
   rw [if_pos hF]
   have hs:pweiS s id wt=wgQ wt s g id:=by unfold pweiS;rw [if_pos hw,if_pos hF,hG,Int.toNat_natCast]
   have hCd:pweiC s id wt=0:=by
    unfold pweiC
    rw [if_pos hw,if_pos hF,hG,Int.toNat_natCast]
    unfold chC
    rw [show hasV qN id=true from decide_eq_true (show 0≤id∧id<65792 by omega),if_pos rfl,if_pos (decide_eq_true hw),hE]
    rfl
   rw [hCd,hF]
   refine ⟨?_,rfl⟩
   rw [hs] at ho' hokA ⊢
   have hent:∀ (j:Nat) (i:Int),entM ((wgQ wt s g id).M j) i=if j=g∧i=id then some (wghX wt x) else entM (s.M j) i:=fun j i=>by
    show entM (upd s.M g _ j) i=_
    by_cases q:j=g
    ·rw [q,upd_same,ch_is (by omega) (hok.core.mok g)]
     by_cases q2:i=id
     ·rw [if_pos ⟨decide_eq_true hw,q2⟩,if_pos ⟨rfl,q2⟩,q2,hE];rfl
     ·rw [if_neg fun z=>q2 z.2,if_neg fun z=>q2 z.2]
    ·rw [upd_other _ _ q,if_neg fun z=>q z.1]
   have hid:r.T[k]!.1=id:=by rw [a3]
   rw [a2,a3]
   refine ⟨⟨h.gs,h.cr,h.al,fun j hj=>?_,setTk_srt h.srt hk hid.symm,fun i g' y=>?_⟩,h.len,fun j hj=>?_⟩
   ·rw [show r.A[j]! = _ from h.a j hj]
    exact (spot_other (a:=s) (b:=wgQ wt s g id) (p:=g) (id:=id) rfl rfl (fun i hi=>chS_ne _ hi) rfl (by omega)).symm
   ·show (i,g',y)∈r.T.set k _↔s.T i=some g'∧_
    rw [setTk_mem h.srt hk,hid,hent]
    by_cases q:i=id
    ·subst q
     constructor
     ·rintro (e | e)
      ·simp only [Prod.mk.injEq,true_and] at e
       obtain ⟨rfl,rfl⟩:=e
       exact ⟨hT,by rw [Int.toNat_natCast,if_pos ⟨rfl,rfl⟩];rfl⟩
      ·exact absurd rfl e.2
     ·rintro ⟨e1,e3⟩
      rw [hT] at e1
      cases e1
      rw [Int.toNat_natCast,if_pos ⟨rfl,rfl⟩] at e3
      cases e3
      exact Or.inl rfl
    ·rw [if_neg fun z=>q z.2,← h.t]
     exact ⟨fun e=>e.elim (fun e=>absurd (congrArg Prod.fst e) q) fun e=>e.1,fun e=>Or.inr ⟨e,q⟩⟩
   ·rw [show r.fl[j]! = _ from h.f j hj]
    exact (wg_floor hok ho hf rfl rfl hg (by omega) hokA.core.mok (ho' g hg) j).symm
  ·rw [if_neg hF]
   have hs:pweiS s id wt=s:=by unfold pweiS;rw [if_pos hw,if_neg hF]
   have hCd:pweiC s id wt=findC s id:=by unfold pweiC;rw [if_pos hw,if_neg hF]
   rw [hs,hCd]
   exact ⟨h,rfl⟩
 ·have hwB:Ch.wB wt=false:=by
   cases e:Ch.wB wt with
   | false=>rfl
   | true=>exact absurd ((wB_dec wt).1 e) hw
  rw [hwB,if_neg (by simp)] at hth
  unfold weighRS
  rw [hwB,hth,if_neg (by decide)]
  have hs:pweiS s id wt=s:=by unfold pweiS;rw [if_neg hw]
  have hCd:pweiC s id wt=2:=by unfold pweiC;rw [if_neg hw]
  rw [hs,hCd]
  exact ⟨h,rfl⟩
end
end Go.Proofs.YtfgmglghlapbcaaGreat
