/-
  Layer 25 (pick), law.go: both trees, from act to act; what came in.
-/
import Derived.Test.YtfgmglghlapbcaaGreatPrefZ
import Derived.Test.YtfgmglghlapbcaaGreatKtC
namespace Go.Proofs.YtfgmglghlapbcaaGreat
open Go.RowKit Go.Maps Go.IntWalk Go.Lib Go.Sort Go.Shelf Go.WideShapes
set_option linter.unusedVariables false
set_option linter.unusedSimpArgs false
theorem eq2_self (b c:Int):eq2 b c b c=true:=by unfold eq2;simp
set_option maxRecDepth 100000 in
set_option maxHeartbeats 2000000 in
theorem sameListG_at (va vb:Value) (Gs:Grps) (w:World) (ha:RecsAt encG w va Gs) (hb:RecsAt encG w vb Gs) (h1:Gs.length≤1000000) :
  Calls Tryz.prog 59 #[va,vb] w fun e w'=>e=.returned (.bool true)∧Below w.heap.size w w':=by
 obtain ⟨a,ca,rfl,-⟩:=id ha
 obtain ⟨b,cb,rfl,-⟩:=id hb
 obtain ⟨m,hm⟩:∃ m,m=Gs.length:=⟨_,rfl⟩
 have HM:=Lib.hid hm
 have HA:=Lib.hid ha
 have HB:=Lib.hid hb
 rw [← hm] at h1 ⊢
 have hz:((m:Int) != (m:Int))=false:=by simp
 clear ha hb hm
 go_enter Tryz.func59,Tryz.ntmps59
 go_wp2_with fail
 go_loopw [5] (fun i wr=>∃ k q:Nat,k≤m∧i=.int .i64 k∧wr=w.drewN q) (fun i _=>m - (intOf i).toNat)
 case atStart=>exact ⟨0,0,Nat.zero_le _,rfl,rfl⟩
 case round =>
  obtain ⟨k,q,hk,rfl,rfl⟩:=hrel
  by_cases hlt:k<m
  ·have hkl:k<Gs.length:=by rw [← HM.out];exact hlt
   have hx:Gs[k]?=some Gs[k]!:=by rw [List.getElem?_eq_getElem hkl,getElem!_pos Gs k hkl]
   obtain ⟨_,b1,o1,e1,i0⟩:=HA.out.at encG_ok hx
   obtain ⟨_,b2,o2,e2,j0⟩:=HB.out.at encG_ok hx
   cases e1
   cases e2
   have a0:=i0 0 _ rfl
   have a1:=i0 1 _ rfl
   have d0:=j0 0 _ rfl
   have d1:=j0 1 _ rfl
   rw [Nat.add_zero] at a0 d0
   generalize Gs[k]! = x at *
   have hk0:(0:Int)≤(k:Int):=by omega
   have hkn:(k:Int)<(m:Int):=by omega
   have z2:=eq2_self x.1 x.2
   clear hx i0 j0 hkl
   go_wp2_with fail
   go_quiet (fail)
   go_wp2_with fail
   go_roundw
   case rel=>exact ⟨k+1,_,by omega,by go_num,rfl⟩
   case measure=>simp [intOf];omega
  ·have l1:decide ((k:Int)<(m:Int))=false:=decide_eq_false (by omega)
   have l2:decide (k<m)=false:=decide_eq_false hlt
   have l3:(k<m)=False:=eq_false hlt
   clear hk hlt
   go_wp2_with fail
   go_ret
   exact ⟨rfl,below_drewN (Below.refl _ _) _⟩
theorem SameGroups_at (va vb:Value) (Gs:Grps) (w:World) (ha:RecsAt encG w va Gs) (hb:RecsAt encG w vb Gs) (h1:Gs.length≤1000000) :
  Calls Tryz.prog 28 #[va,vb] w fun e w'=>e=.returned (.bool true)∧Below w.heap.size w w':=by
 have A1:=Lib.hid (sameListG_at va vb Gs w ha hb h1)
 clear ha hb
 go_enter Tryz.func28,Tryz.ntmps28
 go_wp2_with fail
 refine A1.out.mono ?_
 rintro e w1 ⟨rfl,hb⟩
 go_wp2_with fail
 go_ret
 exact ⟨rfl,hb⟩
structure BothB (w:World) (t b n:Nat) (wr:World) (a:RAd) (s:TSt) (r:RSt) (F:List Nat):Prop where
 inn:TreeIn wr t F s
 box:CellsF wr b [.slice a.ag n a.cg,.int .u64 r.cr,.slice a.at' r.T.length a.ct,.slice a.aa n a.ca,.slice a.af n a.cf]
 off:b∉F
 recs:RHeld ([b]++F) wr a n r.T.length r
 own:∀ x∈F,w.heap.size≤x
 new:w.heap.size≤b
 bel:Below w.heap.size w wr
 both:BothT n s r
theorem RHeld.sub {F F':List Nat} {w:World} {a:RAd} {n m:Nat} {r:RSt} (h:RHeld F w a n m r) (hs:∀ b∈F',b∈F):RHeld F' w a n m r:=h.step (Kept.refl _ _) fun b hb=>Or.inl (hs b hb)
theorem BothB.held {w wr:World} {t b n:Nat} {a:RAd} {s:TSt} {r:RSt} {F:List Nat} (h:BothB w t b n wr a s r F):RHeld F wr a n r.T.length r:=h.recs.sub fun x hx=>by simp [hx]
theorem BothB.later {w wr w':World} {t b n:Nat} {a:RAd} {s:TSt} {r:RSt} {F:List Nat} (h:BothB w t b n wr a s r F) (hb:Below wr.heap.size wr w'):BothB w t b n w' a s r F:=
 ⟨h.inn.below hb,h.box.later hb,h.off,h.recs.later hb,h.own,h.new,Below.step h.bel hb,h.both⟩
def treeW (w:World) (b n:Nat) (a:RAd) (r:RSt):World:=((((w.setCell ⟨b,0,none⟩ (.slice a.ag n a.cg)).setCell ⟨b,1,none⟩ (.int .u64 r.cr)).setCell ⟨b,2,none⟩ (.slice a.at' r.T.length a.ct)).setCell ⟨b,3,none⟩ (.slice a.aa n a.ca)).setCell ⟨b,4,none⟩ (.slice a.af n a.cf)
theorem cells_tree {w:World} {b n:Nat} {a:RAd} {r:RSt} {u0 u1 u2 u3 u4:Value} (h:CellsF w b [u0,u1,u2,u3,u4]):CellsF (treeW w b n a r) b [.slice a.ag n a.cg,.int .u64 r.cr,.slice a.at' r.T.length a.ct,.slice a.aa n a.ca,.slice a.af n a.cf]:=
 cells_set (cells_set (cells_set (cells_set (cells_set (i:=0) (v:=.slice a.ag n a.cg) h) (i:=1) (v:=.int .u64 r.cr)) (i:=2) (v:=.slice a.at' r.T.length a.ct)) (i:=3) (v:=.slice a.aa n a.ca)) (i:=4) (v:=.slice a.af n a.cf)
theorem BothB.acted {w wr w1 w2:World} {t b n:Nat} {a a2:RAd} {s s2:TSt} {r r2:RSt} {F F':List Nat} (h:BothB w t b n wr a s r F) (hH:TreeIn w1 t F' s2) (hR:RHeld ([b]++F') w1 a2 n r2.T.length r2) (hS:Step F wr F' w1) (hB:BothT n s2 r2) (hb:Below w1.heap.size w1 w2) :
  CellsF w2 b [.slice a.ag n a.cg,.int .u64 r.cr,.slice a.at' r.T.length a.ct,.slice a.aa n a.ca,.slice a.af n a.cf]∧BothB w t b n (treeW w2 b n a2 r2) a2 s2 r2 F':=by
 have hlb:b<wr.heap.size:=h.box.lt
 have hn:b∉F':=hS.off h.off hlb
 have hx:=(h.box.kept hS.kept h.off).later hb
 have KF:Kept [b] w2 (treeW w2 b n a2 r2):=(((((Kept.refl _ _).setCell (Or.inl (by simp)) _).setCell (Or.inl (by simp)) _).setCell (Or.inl (by simp)) _).setCell (Or.inl (by simp)) _).setCell (Or.inl (by simp)) _
 have hs:=hS.below h.own h.bel.size
 refine ⟨hx,⟨(hH.below hb).kept KF (fun x hxF m=>?_),cells_tree hx,hn,(hR.later hb).step (KF.mono (fun x hx=>by simp at hx;simp [hx])) (fun x hx=>Or.inl hx),hs.2,h.new,?_,hB⟩⟩
 ·simp at m;subst m;exact hn hxF
 ·exact Kept.stepB (Below.step (h.bel.trans hs.1) hb) (Nat.le_refl _) KF (fun x hx=>by simp at hx;subst hx;exact h.new)
abbrev actK:List NK:=[.inl (some .u8),.inl (some .i64),.inl (some .i64),.inl (some .i64),.inl (some .u64),.inl (some .u32),.inl (some .u32),.inr [some .u64,some .u32,some .u64]]
theorem wf_u32 {x:Int} (h:(Lit.int .u32 x).wf=true):0≤x∧x≤4294967295:=by
 simp only [Lit.wf,Bool.and_eq_true,decide_eq_true_eq,IntKind.min,IntKind.max,IntKind.bits,IntKind.signed] at h
 simp at h
 omega
theorem spots_of {w:World} {a:Option Addr} {l c:Nat} {F:Nat→Nat→Value} (h:PlainRow [some .u64,some .u32,some .u64] w a l c F):∃ L,RecsAt encS w (.slice a l c) L∧FitS L∧(∀ b off,a=some ⟨b,off,none⟩→0<l→b<w.heap.size):=by
 rcases h with ⟨rfl,rfl,rfl⟩ | ⟨rfl,hc,x,rfl⟩ | ⟨h0,hl,hm,b,off,rfl,hc⟩
 ·exact ⟨[],⟨none,0,rfl,Nat.zero_le _,by omega,fun _=>rfl,Or.inl rfl⟩,fun x hx=>(by cases hx),fun _ _ e=>(by cases e)⟩
 ·exact ⟨[],⟨some x,c,rfl,Nat.zero_le _,by unfold maxLen at hc;omega,(fun e=>by cases e),Or.inl rfl⟩,fun x hx=>(by cases hx),fun _ _ _ h=>absurd h (by omega)⟩
 ·have hcell:∀ i,i<l→∃ x:Int×Int×Int,(w.cell? ⟨b,off+i*3,none⟩=some (.int .u64 x.1)∧w.cell? ⟨b,off+i*3+1,none⟩=some (.int .u32 x.2.1)∧w.cell? ⟨b,off+i*3+2,none⟩=some (.int .u64 x.2.2))∧(0≤x.1∧x.1≤18446744073709551615)∧(0≤x.2.1∧x.2.1≤4294967295)∧0≤x.2.2∧x.2.2≤18446744073709551615:=fun i hi=>by
   obtain ⟨q0,x0,e0,f0⟩:=hc i hi 0 (some .u64) rfl
   obtain ⟨q1,x1,e1,f1⟩:=hc i hi 1 (some .u32) rfl
   obtain ⟨q2,x2,e2,f2⟩:=hc i hi 2 (some .u64) rfl
   rw [e0] at q0
   rw [e1] at q1
   rw [e2] at q2
   exact ⟨(x0,x1,x2),⟨q0,q1,q2⟩,wf_u64 f0,wf_u32 f1,wf_u64 f2⟩
  obtain ⟨f,hf⟩:∃ f:Nat→Int×Int×Int,∀ i,i<l→(w.cell? ⟨b,off+i*3,none⟩=some (.int .u64 (f i).1)∧w.cell? ⟨b,off+i*3+1,none⟩=some (.int .u32 (f i).2.1)∧w.cell? ⟨b,off+i*3+2,none⟩=some (.int .u64 (f i).2.2))∧(0≤(f i).1∧(f i).1≤18446744073709551615)∧(0≤(f i).2.1∧(f i).2.1≤4294967295)∧0≤(f i).2.2∧(f i).2.2≤18446744073709551615:=by
   refine ⟨fun i=>if h:i<l then Classical.choose (hcell i h) else (0,0,0),fun i hi=>?_⟩
   simp only [dif_pos hi]
   exact Classical.choose_spec (hcell i hi)
  refine ⟨(List.range l).map f,⟨some ⟨b,off,none⟩,c,by simp,by simpa using hl,by unfold maxLen at hm;omega,(fun e=>by cases e),Or.inr ⟨b,off,rfl,fun j u hj=>?_⟩⟩,fun x hx=>?_,fun b' off' e _=>by cases e;exact lt_of_cell (hf 0 h0).1.1⟩
  ·have hjl:j<l*3:=by
    have:=(List.getElem?_eq_some_iff.1 hj).1
    rw [flatR_len encS_ok] at this
    simpa using this
   obtain ⟨i,q,hq,rfl⟩:∃ i q,q<3∧j=i*3+q:=⟨j / 3,j % 3,Nat.mod_lt _ (by decide),by omega⟩
   have hi:i<l:=by omega
   have hx:((List.range l).map f)[i]?=some (f i):=by rw [List.getElem?_map,List.getElem?_range hi];rfl
   have:=flatR_at encS_ok hx q hq
   rw [this] at hj
   obtain ⟨h0,h1,h2⟩:=(hf i hi).1
   match q,hj with
   | 0,hj=>cases hj;exact h0
   | 1,hj=>cases hj;exact h1
   | 2,hj=>cases hj;exact h2
  ·obtain ⟨i,hi,rfl⟩:=List.mem_map.1 hx
   exact (hf i (List.mem_range.1 hi)).2
theorem spots_held {w:World} {v:Value} {L:Spots} {F:List Nat} (h:RecsAt encS w v L) (hl:∀ b∈F,w.heap.size≤b):HeldR encS F w v L:=by
 obtain ⟨a,cap,e,h1,h2,h3,h4⟩:=h
 refine ⟨a,cap,e,h1,h2,h3,?_⟩
 rcases h4 with h4 | ⟨b,off,e',hc⟩
 ·exact Or.inl h4
 ·cases hL:L with
  | nil=>exact Or.inl rfl
  | cons x r =>
   rw [hL] at hc
   have hb:b<w.heap.size:=lt_of_cell (hc 0 _ rfl)
   exact Or.inr ⟨b,off,e',⟨fun m=>by have:=hl b m;omega,hb⟩,hc⟩
theorem act_cells {w:World} {s1:Option Addr} {l1 c1:Nat} {F1:Nat→Nat→Value} (h:NestRow actK w s1 l1 c1 F1) {k:Nat} (hk:k<l1) :
  ∃ b off kd id g nn v r q sv,s1=some ⟨b,off,none⟩∧w.cell? ⟨b,off+k*8,none⟩=some (.int .u8 kd)∧w.cell? ⟨b,off+k*8+1,none⟩=some (.int .i64 id)∧w.cell? ⟨b,off+k*8+2,none⟩=some (.int .i64 g)∧w.cell? ⟨b,off+k*8+3,none⟩=some (.int .i64 nn)∧w.cell? ⟨b,off+k*8+4,none⟩=some (.int .u64 v)∧w.cell? ⟨b,off+k*8+5,none⟩=some (.int .u32 r)∧w.cell? ⟨b,off+k*8+6,none⟩=some (.int .u32 q)∧w.cell? ⟨b,off+k*8+7,none⟩=some sv ∧
   0≤kd∧(Lit.int .i64 id).wf=true∧(Lit.int .i64 g).wf=true∧(Lit.int .i64 nn).wf=true∧Ch.Fits v r q∧(∃ L,RecsAt encS w sv L∧FitS L)∧∃ a l c,sv=.slice a l c:=by
 rcases h with ⟨rfl,rfl,rfl⟩ | ⟨rfl,hc,x,rfl⟩ | ⟨h0,hl,hm,b,off,rfl,hc⟩
 ·omega
 ·omega
 ·obtain ⟨q0,x0,e0,f0⟩:=hc k hk 0 _ rfl
  obtain ⟨q1,x1,e1,f1⟩:=hc k hk 1 _ rfl
  obtain ⟨q2,x2,e2,f2⟩:=hc k hk 2 _ rfl
  obtain ⟨q3,x3,e3,f3⟩:=hc k hk 3 _ rfl
  obtain ⟨q4,x4,e4,f4⟩:=hc k hk 4 _ rfl
  obtain ⟨q5,x5,e5,f5⟩:=hc k hk 5 _ rfl
  obtain ⟨q6,x6,e6,f6⟩:=hc k hk 6 _ rfl
  obtain ⟨q7,sa,sl,scp,sF,e7,f7⟩:=hc k hk 7 _ rfl
  rw [e0] at q0
  rw [e1] at q1
  rw [e2] at q2
  rw [e3] at q3
  rw [e4] at q4
  rw [e5] at q5
  rw [e6] at q6
  rw [e7] at q7
  obtain ⟨L,hL1,hL2,_⟩:=spots_of f7
  have g0:=wf_u8 f0
  have g4:=wf_u64 f4
  have g5:=wf_u32 f5
  have g6:=wf_u32 f6
  exact ⟨b,off,x0,x1,x2,x3,x4,x5,x6,.slice sa sl scp,rfl,q0,q1,q2,q3,q4,q5,q6,q7,g0.1,f1,f2,f3,by unfold Ch.Fits;omega,⟨L,hL1,hL2⟩,sa,sl,scp,rfl⟩
theorem groups_of {w:World} {a:Option Addr} {l c:Nat} {F:Nat→Nat→Value} (h:PlainRow [some .i64,some .i64] w a l c F):∃ Gs:Grps,Gs.length=l∧RecsAt encG w (.slice a l c) Gs:=by
 rcases h with ⟨rfl,rfl,rfl⟩ | ⟨rfl,hc,x,rfl⟩ | ⟨h0,hl,hm,b,off,rfl,hc⟩
 ·exact ⟨[],rfl,⟨none,0,rfl,Nat.zero_le _,by omega,fun _=>rfl,Or.inl rfl⟩⟩
 ·exact ⟨[],rfl,⟨some x,c,rfl,Nat.zero_le _,by unfold maxLen at hc;omega,(fun e=>by cases e),Or.inl rfl⟩⟩
 ·have hcell:∀ i,i<l→w.cell? ⟨b,off+i*2,none⟩=some (.int .i64 (intOf (F i 0)))∧w.cell? ⟨b,off+i*2+1,none⟩=some (.int .i64 (intOf (F i 1))):=fun i hi=>by
   obtain ⟨q0,x0,e0,f0⟩:=hc i hi 0 (some .i64) rfl
   obtain ⟨q1,x1,e1,f1⟩:=hc i hi 1 (some .i64) rfl
   rw [e0] at q0 ⊢
   rw [e1] at q1 ⊢
   exact ⟨q0,q1⟩
  refine ⟨(List.range l).map fun i=>(intOf (F i 0),intOf (F i 1)),by simp,⟨some ⟨b,off,none⟩,c,by simp,by simpa using hl,by unfold maxLen at hm;omega,(fun e=>by cases e),Or.inr ⟨b,off,rfl,fun j u hj=>?_⟩⟩⟩
  have hjl:j<l*2:=by
   have:=(List.getElem?_eq_some_iff.1 hj).1
   rw [flatR_len encG_ok] at this
   simpa using this
  obtain ⟨i,q,hq,rfl⟩:∃ i q,q<2∧j=i*2+q:=⟨j / 2,j % 2,Nat.mod_lt _ (by decide),by omega⟩
  have hi:i<l:=by omega
  have hx:((List.range l).map fun i=>(intOf (F i 0),intOf (F i 1)))[i]?=some (intOf (F i 0),intOf (F i 1)):=by rw [List.getElem?_map,List.getElem?_range hi];rfl
  have:=flatR_at encG_ok hx q hq
  rw [this] at hj
  obtain ⟨h0,h1⟩:=hcell i hi
  match q,hj with
  | 0,hj=>cases hj;exact h0
  | 1,hj=>cases hj;exact h1
end Go.Proofs.YtfgmglghlapbcaaGreat
