/-
  Layer 25 (pick): Spawn, Wake, Come.
  Layer 25 (pick): lead, First, Chain, Get, Len.
-/
import Derived.Test.YtfgmglghlapbcaaGreatPickL
import Derived.Test.YtfgmglghlapbcaaGreatKtA
import Derived.Test.YtfgmglghlapbcaaGreatQuB
namespace Go.Proofs.YtfgmglghlapbcaaGreat
open Go.RowKit Go.Maps Go.IntWalk Go.Lib Go.Sort Go.Shelf
set_option linter.unusedVariables false
set_option linter.unusedSimpArgs false
theorem TAfter.later {w W w2 w':World} {t:Nat} {F:List Nat} {s:TSt} (h:TAfter W t F s w2) (hb:Below w.heap.size w W) (hk:Below w2.heap.size w2 w'):TAfter w t F s w':=by
 obtain ⟨F',hT,hS⟩:=h
 exact ⟨F',hT.below hk,((Step.of hb).trans hS).trans (Step.of hk)⟩
theorem TAfter.own {w W w2 w':World} {t:Nat} {F G:List Nat} {s s0:TSt} (h0:TreeIn w t F s0) (h:TAfter W t F s w2) (hb:Below w.heap.size w W) (hk:Kept G w2 w') (hG:∀ b∈G,w.heap.size≤b∧b<W.heap.size):TAfter w t F s w':=by
 obtain ⟨F',hT,hS⟩:=h
 have hlt:=h0.lt
 refine ⟨F',hT.kept hk fun b hb' m=>?_,((Step.of hb).trans hS).set hk fun b hb'=>(hG b hb').1⟩
 rcases hS.new b hb' with q | q
 ·have:=hlt b q;have:=hG b m;omega
 ·have:=hG b m;omega
def spawnX (s:TSt) (id g k:Int):Ent:=enX s id g (newC k) (newX (s.fl g.toNat) k)
def spawnC (s:TSt) (id g k:Int):Int:=enC s id g (newC k)
def spawnS (s:TSt) (id g k:Int):TSt:=enS s id g (newC k) (newX (s.fl g.toNat) k)
theorem newX_fits {fl k:Int} (hf:0≤fl∧fl≤18446744073709551615):Ch.Fits (newX fl k).1 (newX fl k).2.1 (newX fl k).2.2:=by
 unfold newX Ch.Fits
 split <;> simp only <;> omega
theorem TreeIn.floor {w:World} {t:Nat} {F:List Nat} {s:TSt} (h:TreeIn w t F s) {g:Int} (hg:hasV (s.n:Int) g=true):0≤s.fl g.toNat∧s.fl g.toNat≤18446744073709551615:=by
 obtain ⟨bg,bq,ba,bm,qp,Fq,hr,rfl⟩:=h
 have:0≤g∧g<(s.n:Int):=by unfold hasV at hg;simpa using hg
 exact (hr.q g.toNat (by omega)).ids.2.2.2.2.2
theorem enX_any {s:TSt} {id g ac:Int} {x y:Ent} (h:hasV (s.n:Int) g=false):enX s id g ac x=enX s id g ac y∧enS s id g ac x=enS s id g ac y:=by
 have e:enC s id g ac≠0:=by unfold enC;rw [h];simp
 unfold enX enS
 rw [if_neg e,if_neg e,if_neg e,if_neg e]
 exact ⟨rfl,rfl⟩
set_option maxRecDepth 100000 in
theorem pSpawn_at {t:Nat} {F:List Nat} {s:TSt} (id g k:Int) (w:World) (h:TreeIn w t F s) (hid:(Lit.int .i64 id).wf=true) (hg:(Lit.int .i64 g).wf=true) (hk:(Lit.int .i64 k).wf=true) :
  Calls Tryz.prog 34 #[.pointer (some ⟨t,0,none⟩),.int .i64 id,.int .i64 g,.int .i64 k] w (TDid w t F (.tuple #[.agg #[.int .u64 (spawnX s id g k).1,.int .u32 (spawnX s id g k).2.1,.int .u32 (spawnX s id g k).2.2],.int .i64 (spawnC s id g k)]) (spawnS s id g k)):=by
 have HT:=Lib.hid h
 obtain ⟨W0,hW0⟩:∃ W0,W0=(w.alloc (.cells #[.int .i64 k] 3)).alloc (.cells #[.int .u64 0,.int .u32 0,.int .u32 0] 40):=⟨_,rfl⟩
 have hB0:Below w.heap.size w W0:=by rw [hW0];exact Below.allocS (Below.allocS (Below.refl _ _) _) _
 have hsz0:W0.heap.size=w.heap.size+2:=by rw [hW0];simp
 have k0:W0.cell? ⟨w.heap.size,0,none⟩=some (.int .i64 k):=by rw [hW0];exact cell_al _ (cell_nw _ _ _ 0 _ rfl)
 have z0:W0.cell? ⟨w.heap.size+1,0,none⟩=some (.int .u64 0):=by rw [hW0];exact cell_nwE (by simp) _ _ 0 _ rfl
 have z1:W0.cell? ⟨w.heap.size+1,1,none⟩=some (.int .u32 0):=by rw [hW0];exact cell_nwE (by simp) _ _ 1 _ rfl
 have z2:W0.cell? ⟨w.heap.size+1,2,none⟩=some (.int .u32 0):=by rw [hW0];exact cell_nwE (by simp) _ _ 2 _ rfl
 have f0:∀ j,W0.frozen? ⟨w.heap.size+1,j,none⟩=false:=fun j=>by rw [hW0];exact frz_nwE (by simp) _ _ j
 have hT0:=h.below hB0
 have HW0:=Lib.hid hW0
 have HB0:=Lib.hid hB0
 have A1:=Lib.hid (penter_at (t:=t) (F:=F) (s:=s) 72 #[.pointer (some ⟨w.heap.size,0,none⟩)] (enters_of Tryz.func72 (by kernel_rfl) rfl) id g (if hasV (s.n:Int) g then newX (s.fl g.toNat) k else (0,0,0)) (newC k) W0 hT0 hid hg
  (by split;exact newX_fits (h.floor (by assumption));unfold Ch.Fits;simp) (fun W hb hh=>by rw [if_pos hh];exact SpawnF_at _ k _ W (h.floor hh) hk (cell_later hb k0)))
 have hlt:=h.lt
 have e:enX s id g (newC k) (if hasV (s.n:Int) g then newX (s.fl g.toNat) k else (0,0,0))=spawnX s id g k∧enS s id g (newC k) (if hasV (s.n:Int) g then newX (s.fl g.toNat) k else (0,0,0))=spawnS s id g k:=by
  cases hh:hasV (s.n:Int) g with
  | true=>simp only [if_pos];exact ⟨rfl,rfl⟩
  | false=>exact ⟨(enX_any hh).1,(enX_any hh).2⟩
 rw [e.1,e.2] at A1
 have HC:=Lib.hid (show enC s id g (newC k)=spawnC s id g k from rfl)
 rw [HC.out] at A1
 generalize spawnX s id g k=x at *
 generalize spawnC s id g k=c at *
 generalize spawnS s id g k=s2 at *
 clear hW0 hB0 hT0 e k0
 go_enter Tryz.func34,Tryz.ntmps34
 go_wp2_with fail
 rw [← HW0.out]
 refine A1.out.mono ?_;rintro e w5 ⟨rfl,hA5⟩
 have HA5:=Lib.hid hA5
 obtain ⟨F5,hT5,s5⟩:=hA5
 have nz:w.heap.size+1∉F:=fun m=>by have:=hlt _ m;omega
 have l1:=lt_of_cell z0
 replace z0:=s5.cell nz z0
 replace z1:=s5.cell nz z1
 replace z2:=s5.cell nz z2
 have g0:=s5.kept.frz (f0 0) l1 nz
 have g1:=s5.kept.frz (f0 1) l1 nz
 have g2:=s5.kept.frz (f0 2) l1 nz
 clear s5 hT5 f0 hlt
 go_wp2_with fail
 refine bodyPost_ret (v:=.tuple #[.agg #[.int .u64 x.1,.int .u32 x.2.1,.int .u32 x.2.2],.int .i64 c]) (by simp [results,Tryz.results34,go_sem,z0,z1,z2,g0,g1,g2]) rfl ⟨rfl,?_⟩
 exact TAfter.own HT.out HA5.out HB0.out ((((Kept.refl [w.heap.size+1] w5).setCell (Or.inl (by simp)) _).setCell (Or.inl (by simp)) _).setCell (Or.inl (by simp)) _) (fun b hb=>by simp at hb;omega)
def wakeX (s:TSt) (id g:Int) (x:Ent):Ent:=enX s id g (wokenC x) (wokenX x (s.fl g.toNat) s.cr)
def wakeC (s:TSt) (id g:Int) (x:Ent):Int:=enC s id g (wokenC x)
def wakeS (s:TSt) (id g:Int) (x:Ent):TSt:=enS s id g (wokenC x) (wokenX x (s.fl g.toNat) s.cr)
set_option maxRecDepth 100000 in
theorem pWake_at {t:Nat} {F:List Nat} {s:TSt} (id g:Int) (v r q:Int) (w:World) (h:TreeIn w t F s) (hid:(Lit.int .i64 id).wf=true) (hg:(Lit.int .i64 g).wf=true) (hx:Ch.Fits v r q) :
  Calls Tryz.prog 35 #[.pointer (some ⟨t,0,none⟩),.int .i64 id,.int .i64 g,.agg #[.int .u64 v,.int .u32 r,.int .u32 q]] w (TDid w t F (.tuple #[.agg #[.int .u64 (wakeX s id g (v,r,q)).1,.int .u32 (wakeX s id g (v,r,q)).2.1,.int .u32 (wakeX s id g (v,r,q)).2.2],.int .i64 (wakeC s id g (v,r,q))]) (wakeS s id g (v,r,q))):=by
 have HT:=Lib.hid h
 obtain ⟨W0,hW0⟩:∃ W0,W0=((w.alloc (.cells #[.pointer (some ⟨t,0,none⟩)] 29)).alloc (.cells #[.int .u64 v,.int .u32 r,.int .u32 q] 40)).alloc (.cells #[.int .u64 0,.int .u32 0,.int .u32 0] 40):=⟨_,rfl⟩
 have hB0:Below w.heap.size w W0:=by rw [hW0];exact Below.allocS (Below.allocS (Below.allocS (Below.refl _ _) _) _) _
 have hsz0:W0.heap.size=w.heap.size+3:=by rw [hW0];simp
 have b0:W0.cell? ⟨w.heap.size,0,none⟩=some (.pointer (some ⟨t,0,none⟩)):=by rw [hW0];exact cell_al _ (cell_al _ (cell_nw _ _ _ 0 _ rfl))
 have x0:W0.cell? ⟨w.heap.size+1,0,none⟩=some (.int .u64 v):=by rw [hW0];exact cell_al _ (cell_nwE (by simp) _ _ 0 _ rfl)
 have x1:W0.cell? ⟨w.heap.size+1,1,none⟩=some (.int .u32 r):=by rw [hW0];exact cell_al _ (cell_nwE (by simp) _ _ 1 _ rfl)
 have x2:W0.cell? ⟨w.heap.size+1,2,none⟩=some (.int .u32 q):=by rw [hW0];exact cell_al _ (cell_nwE (by simp) _ _ 2 _ rfl)
 have z0:W0.cell? ⟨w.heap.size+1+1,0,none⟩=some (.int .u64 0):=by rw [hW0];exact cell_nwE (by simp) _ _ 0 _ rfl
 have z1:W0.cell? ⟨w.heap.size+1+1,1,none⟩=some (.int .u32 0):=by rw [hW0];exact cell_nwE (by simp) _ _ 1 _ rfl
 have z2:W0.cell? ⟨w.heap.size+1+1,2,none⟩=some (.int .u32 0):=by rw [hW0];exact cell_nwE (by simp) _ _ 2 _ rfl
 have f0:∀ j,W0.frozen? ⟨w.heap.size+1+1,j,none⟩=false:=fun j=>by rw [hW0];exact frz_nwE (by simp) _ _ j
 have hT0:=h.below hB0
 have HW0:=Lib.hid hW0
 have HB0:=Lib.hid hB0
 have hcr:0≤s.cr:=by
  obtain ⟨_,_,_,_,_,_,hr,_⟩:=h
  exact hr.cr0.1
 have A1:=Lib.hid (penter_at (t:=t) (F:=F) (s:=s) 74 #[.pointer (some ⟨w.heap.size+1,0,none⟩),.pointer (some ⟨w.heap.size,0,none⟩)] (enters_of Tryz.func74 (by kernel_rfl) rfl) id g (if hasV (s.n:Int) g then wokenX (v,r,q) (s.fl g.toNat) s.cr else (0,0,0)) (wokenC (v,r,q)) W0 hT0 hid hg
  (by split;exact wokenX_fits (x:=(v,r,q)) hx (h.floor (by assumption)) hcr;unfold Ch.Fits;simp) (fun W hb hh=>by rw [if_pos hh];exact WakeF_at _ v r q _ _ W (hT0.below hb) hx (h.floor hh) (cell_later hb x0) (cell_later hb x1) (cell_later hb x2) (cell_later hb b0)))
 have hlt:=h.lt
 have e:enX s id g (wokenC (v,r,q)) (if hasV (s.n:Int) g then wokenX (v,r,q) (s.fl g.toNat) s.cr else (0,0,0))=wakeX s id g (v,r,q)∧enS s id g (wokenC (v,r,q)) (if hasV (s.n:Int) g then wokenX (v,r,q) (s.fl g.toNat) s.cr else (0,0,0))=wakeS s id g (v,r,q):=by
  cases hh:hasV (s.n:Int) g with
  | true=>simp only [if_pos];exact ⟨rfl,rfl⟩
  | false=>exact ⟨(enX_any hh).1,(enX_any hh).2⟩
 rw [e.1,e.2] at A1
 have HC:=Lib.hid (show enC s id g (wokenC (v,r,q))=wakeC s id g (v,r,q) from rfl)
 rw [HC.out] at A1
 generalize wakeX s id g (v,r,q)=x at *
 generalize wakeC s id g (v,r,q)=c at *
 generalize wakeS s id g (v,r,q)=s2 at *
 clear hW0 hB0 hT0 e
 go_enter Tryz.func35,Tryz.ntmps35
 go_wp2_with fail
 rw [← HW0.out]
 refine A1.out.mono ?_;rintro e w5 ⟨rfl,hA5⟩
 have HA5:=Lib.hid hA5
 obtain ⟨F5,hT5,s5⟩:=hA5
 have nz:w.heap.size+1+1∉F:=fun m=>by have:=hlt _ m;omega
 have l1:=lt_of_cell z0
 replace z0:=s5.cell nz z0
 replace z1:=s5.cell nz z1
 replace z2:=s5.cell nz z2
 have g0:=s5.kept.frz (f0 0) l1 nz
 have g1:=s5.kept.frz (f0 1) l1 nz
 have g2:=s5.kept.frz (f0 2) l1 nz
 clear s5 hT5 f0 hlt b0 x0 x1 x2
 go_wp2_with fail
 refine bodyPost_ret (v:=.tuple #[.agg #[.int .u64 x.1,.int .u32 x.2.1,.int .u32 x.2.2],.int .i64 c]) (by simp [results,Tryz.results35,go_sem,z0,z1,z2,g0,g1,g2]) rfl ⟨rfl,?_⟩
 exact TAfter.own HT.out HA5.out HB0.out ((((Kept.refl [w.heap.size+1+1] w5).setCell (Or.inl (by simp)) _).setCell (Or.inl (by simp)) _).setCell (Or.inl (by simp)) _) (fun b hb=>by simp at hb;omega)
def comC (s:TSt) (id g:Int) (x:Ent):Int:=enC s id g (comeC x)
def comS (s:TSt) (id g:Int) (x:Ent):TSt:=enS s id g (comeC x) (comeX x)
set_option maxRecDepth 100000 in
theorem pCome_at {t:Nat} {F:List Nat} {s:TSt} (id g:Int) (v r q:Int) (w:World) (h:TreeIn w t F s) (hid:(Lit.int .i64 id).wf=true) (hg:(Lit.int .i64 g).wf=true) (hx:Ch.Fits v r q) :
  Calls Tryz.prog 17 #[.pointer (some ⟨t,0,none⟩),.int .i64 id,.int .i64 g,.agg #[.int .u64 v,.int .u32 r,.int .u32 q]] w (TDid w t F (.int .i64 (comC s id g (v,r,q))) (comS s id g (v,r,q))):=by
 have HT:=Lib.hid h
 obtain ⟨W0,hW0⟩:∃ W0,W0=w.alloc (.cells #[.int .u64 v,.int .u32 r,.int .u32 q] 40):=⟨_,rfl⟩
 have hB0:Below w.heap.size w W0:=by rw [hW0];exact below_a _ _
 have x0:W0.cell? ⟨w.heap.size,0,none⟩=some (.int .u64 v):=by rw [hW0];exact cell_nw _ _ _ 0 _ rfl
 have x1:W0.cell? ⟨w.heap.size,1,none⟩=some (.int .u32 r):=by rw [hW0];exact cell_nw _ _ _ 1 _ rfl
 have x2:W0.cell? ⟨w.heap.size,2,none⟩=some (.int .u32 q):=by rw [hW0];exact cell_nw _ _ _ 2 _ rfl
 have hT0:=h.below hB0
 have HW0:=Lib.hid hW0
 have HB0:=Lib.hid hB0
 have A1:=Lib.hid (penter_at (t:=t) (F:=F) (s:=s) 48 #[.pointer (some ⟨w.heap.size,0,none⟩)] (enters_of Tryz.func48 (by kernel_rfl) rfl) id g (comeX (v,r,q)) (comeC (v,r,q)) W0 hT0 hid hg
  (by unfold comeX;split;exact hx;unfold Ch.Fits;simp) (fun W hb hh=>ComeF_at _ v r q _ W hx (cell_later hb x0) (cell_later hb x1) (cell_later hb x2)))
 have HS:=Lib.hid (show enS s id g (comeC (v,r,q)) (comeX (v,r,q))=comS s id g (v,r,q) from rfl)
 have HC:=Lib.hid (show enC s id g (comeC (v,r,q))=comC s id g (v,r,q) from rfl)
 rw [HC.out,HS.out] at A1
 generalize comC s id g (v,r,q)=c at *
 generalize comS s id g (v,r,q)=s2 at *
 generalize enX s id g (comeC (v,r,q)) (comeX (v,r,q))=x at *
 clear hW0 hB0 hT0 x0 x1 x2
 go_enter Tryz.func17,Tryz.ntmps17
 go_wp2_with fail
 rw [← HW0.out]
 refine A1.out.mono ?_;rintro e w5 ⟨rfl,hA5⟩
 have HA5:=Lib.hid hA5
 clear hA5
 go_wp2_with fail
 go_ret
 exact ⟨rfl,HA5.out.later HB0.out (below_a _ _)⟩
theorem infoI:(Tryz.prog.info? 3).map (fun i=>(i.zero,i.size,i.bytes))=some (some (.int .i64 0),1,8):=by kernel_rfl
theorem addN (b off n:Nat):(⟨b,off,none⟩:Addr).add n=⟨b,off+n,none⟩:=by
 simp [Addr.add]
theorem cellN {w:World} {c:Array Value} {t:TypeId} {n i:Nat} {v:Value} (hn:n=w.heap.size) (h:c[i]?=some v):(w.alloc (.cells c t)).cell? ⟨n,i,none⟩=some v:=by
 subst hn
 exact cell_nw w c t i v h
def leadF (s:TSt):Nat→Nat→List Int→Int×List Int
 | 0,_,_=>(0,[])
 | k+1,g,ch=>if (s.M g).isEmpty then (0,[]) else if firstI (s.M g)<65536 then (firstI (s.M g),ch++[(g:Int)]) else leadF s k (firstI (s.M g) - 65536).toNat (ch++[(g:Int)])
def leadT (s:TSt):Int×List Int:=leadF s s.n 0 []
def DownT (s:TSt):Prop:=∀ g,g<s.n→(s.M g).isEmpty=false→65536≤firstI (s.M g)→∃ k:Nat,firstI (s.M g)=65536+(k:Int)∧g<k∧k<s.n
theorem leadF_fuel {s:TSt} (hd:DownT s):∀ (a b g:Nat) (ch:List Int),g<s.n→s.n - g≤a→s.n - g≤b→leadF s a g ch=leadF s b g ch:=by
 intro a
 induction a with
 | zero=>intro b g ch hg ha;omega
 | succ a ih =>
  intro b g ch hg ha hb
  cases b with
  | zero=>omega
  | succ b =>
   unfold leadF
   by_cases h1:(s.M g).isEmpty=true
   ·rw [if_pos h1,if_pos h1]
   ·rw [if_neg h1,if_neg h1]
    by_cases h2:firstI (s.M g)<65536
    ·rw [if_pos h2,if_pos h2]
    ·rw [if_neg h2,if_neg h2]
     obtain ⟨k,e,h3,h4⟩:=hd g hg (by simpa using h1) (by omega)
     have:(firstI (s.M g) - 65536).toNat=k:=by omega
     rw [this]
     exact ih b k _ h4 (by omega) (by omega)
theorem firstI_in {w:World} {q:Nat} {F:List Nat} {n:Int} {M:Mems} {fl:Int} (h:QIn w q F n M fl):0≤firstI M∧firstI M≤n:=by
 unfold firstI
 have:=h.ids
 cases M with
 | nil=>simp only;omega
 | cons m M=>have:=this.2.1 m (by simp);simp only;omega
def LeadP (w:World) (r:Int×List Int) (e:Ending) (w':World):Prop:=∃ v,e=.returned (.tuple #[.int .i64 r.1,v])∧w'.ownsRow w.heap.size 3 1 v r.2.length (intsV r.2)∧Below w.heap.size w w'
theorem ints_snoc (xs:List Int) (x:Int):intsV (xs++[x])=intsV xs++[.int .i64 x]:=by unfold intsV;simp
set_option maxRecDepth 100000 in
set_option maxHeartbeats 4000000 in
theorem plead_at {t:Nat} {F:List Nat} {s:TSt} (w:World) (h:TreeIn w t F s) (hd:DownT s):Calls Tryz.prog 40 #[.pointer (some ⟨t,0,none⟩)] w (LeadP w (leadT s)):=by
 obtain ⟨bg,bq,ba,bm,qp,Fq,hr,rfl⟩:=h
 obtain ⟨i0,hi,hz0,hz1,hz2⟩:=info_parts infoI
 have A1:=Lib.hid (psome_at hr)
 have HR:=Lib.hid hr
 have HD:=Lib.hid hd
 have hn:=hr.pos
 have hn0:=hn.1
 have HN:=Lib.hid hn
 have hlts:=hr.lt
 clear hd hr hn
 go_enter Tryz.func40,Tryz.ntmps40
 go_wp2_with fail
 refine A1.out.mono ?_;rintro e w5 ⟨rfl,rfl⟩
 go_wp2_with fail
 go_loopw [4,5] (fun v g wr=>∃ (gk:Nat) (ch:List Int),gk<s.n∧ch.length≤gk∧g=.int .i64 gk∧wr.ownsRow w.heap.size 3 1 v ch.length (intsV ch)∧Below w.heap.size w wr∧Hid (leadF s (s.n - gk) gk ch=leadT s)) (fun _ g _=>s.n - (intOf g).toNat)
 case atStart=>exact ⟨0,[],hn0,Nat.le_refl _,rfl,World.ownsRow_nil _ _ _ _,Below.refl _ _,Lib.hid rfl⟩
 case round =>
  obtain ⟨gk,ch,hgk,hcl,rfl,hown,hb,hres⟩:=hrel
  have hr:=HR.out.below hb
  obtain ⟨c1,q1⟩:=hr.g1
  have q2:=hr.qc gk hgk
  have hgi:(gk:Int)<(s.n:Int):=by omega
  have A2:=Lib.hid (First_at wr (hr.q gk hgk))
  have HFI:=Lib.hid (firstI_in (hr.q gk hgk))
  obtain ⟨kf,hkf⟩:∃ kf,s.n - gk=kf+1:=⟨s.n - gk - 1,by omega⟩
  rw [hkf] at hres
  have HB:=Lib.hid hb
  clear hr
  cases hm:(s.M gk).isEmpty with
  | true =>
   have HL:=Lib.hid (show (0,[])=leadT s by rw [← hres.out];unfold leadF;rw [if_pos hm])
   rw [hm] at A2
   clear hm hkf
   go_wp2_with fail
   refine A2.out.mono ?_;rintro e w6 ⟨rfl,hb6⟩
   go_wp2_with fail
   go_ret2
   exact ⟨_,by rw [← HL.out];rfl,by rw [← HL.out];exact World.ownsRow_nil _ _ _ _,Below.step HB.out hb6⟩
  | false =>
   rw [hm] at A2
   by_cases h2:firstI (s.M gk)<65536
   ·have HL:=Lib.hid (show (firstI (s.M gk),ch++[(gk:Int)])=leadT s by rw [← hres.out];unfold leadF;rw [if_neg (by rw [hm];simp),if_pos h2])
    generalize firstI (s.M gk)=fi at *
    have z1:decide (fi<65536)=true:=decide_eq_true h2
    clear hm hkf
    go_wp2_with fail
    refine A2.out.mono ?_;rintro e w6 ⟨rfl,hb6⟩
    have hown6:=own_below hown hb6
    have hbw:=Below.step hb hb6
    have hsz:=hbw.size
    go_wp2_with (at_builtin;refine wpList_append_own _ rfl _ _ 37 rfl w.heap.size 3 i0 (.int .i64 0) 1 8 Tryz.underlying37 hi hz0 hz1 hz2 rfl (by decide) _ _ _ rfl (hown6.alloc _) ⟨w6.heap.size,0,none⟩ 1 1 [.int .i64 (gk:Nat)] rfl rfl ?c1 ?c2 ?c3 ?c4 ?c5 ?_)
    case c1 =>
     intro j u hj
     rw [addN]
     exact cellN (by simp) (by simpa using hj)
    case c2 =>
     intro u hu
     simp only [List.mem_cons,List.not_mem_nil,or_false] at hu
     subst hu;rfl
    case c3=>have:=HN.out;unfold maxLen;omega
    case c4=>have:=HN.out;omega
    case c5=>simp;omega
    intro v' w7 hown7 hgrow7 _
    have hb7:Below w.heap.size w w7:=(Below.allocS hbw _).grown hgrow7 (by simp;omega) (fun k hk=>(hown6.lt k hk).1)
    clear hown hown6 hgrow7
    go_wp2_with fail
    go_ret2
    refine ⟨_,by rw [← HL.out];rfl,?_,hb7⟩
    rw [← HL.out]
    simp only [List.length_append,List.length_singleton]
    rw [ints_snoc]
    exact hown7
   ·obtain ⟨k,hfk,h3,h4⟩:=HD.out gk hgk hm (by omega)
    have HL:=Lib.hid (show leadF s (s.n - k) k (ch++[(gk:Int)])=leadT s by
     rw [← hres.out]
     conv=>rhs;unfold leadF
     rw [if_neg (by rw [hm];simp),if_neg h2,show (firstI (s.M gk) - 65536).toNat=k by omega]
     exact leadF_fuel HD.out _ _ _ _ h4 (Nat.le_refl _) (by omega))
    rw [hfk] at A2 h2
    clear hm hkf
    have z1:decide (65536+(k:Int)<65536)=false:=decide_eq_false h2
    have z2:¬ (65536+(k:Int)<65536):=h2
    have z3:IntKind.i64.wrap (65536+(k:Int) - 65536)=(k:Int):=by rw [show 65536+(k:Int) - 65536=k by omega];exact IntWalk.i64_in _ (by have:=HN.out;omega)
    clear hfk h2
    go_wp2_with fail
    refine A2.out.mono ?_;rintro e w6 ⟨rfl,hb6⟩
    have hown6:=own_below hown hb6
    have hbw:=Below.step hb hb6
    have hsz:=hbw.size
    go_wp2_with (at_builtin;refine wpList_append_own _ rfl _ _ 37 rfl w.heap.size 3 i0 (.int .i64 0) 1 8 Tryz.underlying37 hi hz0 hz1 hz2 rfl (by decide) _ _ _ rfl (hown6.alloc _) ⟨w6.heap.size,0,none⟩ 1 1 [.int .i64 (gk:Nat)] rfl rfl ?c1 ?c2 ?c3 ?c4 ?c5 ?_)
    case c1 =>
     intro j u hj
     rw [addN]
     exact cellN (by simp) (by simpa using hj)
    case c2 =>
     intro u hu
     simp only [List.mem_cons,List.not_mem_nil,or_false] at hu
     subst hu;rfl
    case c3=>have:=HN.out;unfold maxLen;omega
    case c4=>have:=HN.out;omega
    case c5=>simp;omega
    intro v' w7 hown7 hgrow7 _
    have hb7:Below w.heap.size w w7:=(Below.allocS hbw _).grown hgrow7 (by simp;omega) (fun k hk=>(hown6.lt k hk).1)
    clear hown hown6 hgrow7 hbw hsz hb hb6
    go_wp2_with fail
    go_roundw
    case rel=>exact ⟨k,ch++[(gk:Int)],h4,by simp;omega,rfl,by simp only [List.length_append,List.length_singleton];rw [ints_snoc];exact hown7,hb7,HL⟩
    case measure=>simp [intOf];omega
theorem pFirst_at {t:Nat} {F:List Nat} {s:TSt} (w:World) (h:TreeIn w t F s) (hd:DownT s):Calls Tryz.prog 11 #[.pointer (some ⟨t,0,none⟩)] w fun e w'=>e=.returned (.tuple #[.int .i64 (leadT s).1,.bool (decide (0<(leadT s).1))])∧Below w.heap.size w w':=by
 have A1:=Lib.hid (plead_at w h hd)
 generalize leadT s=r at *
 clear h hd
 go_enter Tryz.func11,Tryz.ntmps11
 go_wp2_with fail
 refine A1.out.mono ?_;rintro e w5 ⟨v,rfl,_,hb⟩
 go_wp2_with fail
 go_ret2
 exact ⟨by simp,hb⟩
theorem pChain_at {t:Nat} {F:List Nat} {s:TSt} (w:World) (h:TreeIn w t F s) (hd:DownT s):Calls Tryz.prog 21 #[.pointer (some ⟨t,0,none⟩)] w fun e w'=>∃ v,e=.returned v∧w'.ownsRow w.heap.size 3 1 v (leadT s).2.length (intsV (leadT s).2)∧Below w.heap.size w w':=by
 have A1:=Lib.hid (plead_at w h hd)
 generalize leadT s=r at *
 clear h hd
 go_enter Tryz.func21,Tryz.ntmps21
 go_wp2_with fail
 refine A1.out.mono ?_;rintro e w5 ⟨v,rfl,ho,hb⟩
 have HO:=Lib.hid ho
 clear ho
 go_wp2_with fail
 go_ret
 exact ⟨_,rfl,HO.out,hb⟩
theorem pLen_at {t:Nat} {F:List Nat} {s:TSt} (w:World) (h:TreeIn w t F s):Calls Tryz.prog 13 #[.pointer (some ⟨t,0,none⟩)] w fun e w'=>e=.returned (.int .i64 s.c)∧w=w':=by
 obtain ⟨bg,bq,ba,bm,qp,Fq,hr,rfl⟩:=h
 have A1:=Lib.hid (psome_at hr)
 have g3:=hr.g3
 have hl:=hr.map.len 3
 clear hr
 go_enter Tryz.func13,Tryz.ntmps13
 go_wp2_with fail
 refine A1.out.mono ?_;rintro e w5 ⟨rfl,rfl⟩
 go_wp2_with fail
 go_ret
 exact ⟨rfl,rfl⟩
def pgetX (s:TSt) (id:Int):Ent:=if findC s id=0 then getE (s.M (findG s id).toNat) id else (0,0,0)
set_option maxRecDepth 100000 in
theorem pGet_at {t:Nat} {F:List Nat} {s:TSt} (id:Int) (w:World) (h:TreeIn w t F s) (hid:(Lit.int .i64 id).wf=true) :
  Calls Tryz.prog 22 #[.pointer (some ⟨t,0,none⟩),.int .i64 id] w fun e w'=>e=.returned (.tuple #[.agg #[.int .u64 (pgetX s id).1,.int .u32 (pgetX s id).2.1,.int .u32 (pgetX s id).2.2],.int .i64 (findG s id),.bool (decide (findC s id=0))])∧Below w.heap.size w w':=by
 obtain ⟨bg,bq,ba,bm,qp,Fq,hr,rfl⟩:=h
 obtain ⟨W0,hW0⟩:∃ W0,W0=w.alloc (.cells #[.int .u64 0,.int .u32 0,.int .u32 0] 40):=⟨_,rfl⟩
 have hB0:Below w.heap.size w W0:=by rw [hW0];exact below_a _ _
 have z0:W0.cell? ⟨w.heap.size,0,none⟩=some (.int .u64 0):=by rw [hW0];exact cell_nw _ _ _ 0 _ rfl
 have z1:W0.cell? ⟨w.heap.size,1,none⟩=some (.int .u32 0):=by rw [hW0];exact cell_nw _ _ _ 1 _ rfl
 have z2:W0.cell? ⟨w.heap.size,2,none⟩=some (.int .u32 0):=by rw [hW0];exact cell_nw _ _ _ 2 _ rfl
 have f0:W0.frozen? ⟨w.heap.size,0,none⟩=false:=by rw [hW0];exact frz_nw _ _ _ 0
 have f1:W0.frozen? ⟨w.heap.size,1,none⟩=false:=by rw [hW0];exact frz_nw _ _ _ 1
 have f2:W0.frozen? ⟨w.heap.size,2,none⟩=false:=by rw [hW0];exact frz_nw _ _ _ 2
 have hl0:w.heap.size<W0.heap.size:=by rw [hW0];simp
 have hr0:=hr.below hB0
 have A1:=Lib.hid (pfind_at id hr0 hid)
 have HW0:=Lib.hid hW0
 have HB0:=Lib.hid hB0
 by_cases hc:findC s id=0
 ·obtain ⟨g,hg,hfg⟩:=findC_zero hc
  obtain ⟨hg0,hg1⟩:=hr.tok id g hg
  obtain ⟨gn,rfl⟩:∃ gn:Nat,g=gn:=⟨g.toNat,by omega⟩
  have hgn:gn<s.n:=by omega
  have HX:=Lib.hid (show pgetX s id=getE (s.M gn) id by unfold pgetX;rw [if_pos hc,hfg];rfl)
  obtain ⟨cq,q1⟩:=hr0.g1
  have q2:=hr0.qc gn hgn
  have A2:=Lib.hid (Get_at id W0 (hr0.q gn hgn) hid)
  rw [hc,hfg] at A1
  rw [HX.out,hc,hfg]
  generalize getE (s.M gn) id=x at *
  generalize (entM (s.M gn) id).isSome=bb at *
  clear hc hfg hg hr hr0 hW0 hB0
  go_enter Tryz.func22,Tryz.ntmps22
  go_wp2_with fail
  rw [← HW0.out]
  refine A1.out.mono ?_;rintro e w5 ⟨rfl,rfl⟩
  go_wp2_with fail
  refine A2.out.mono ?_;rintro e w5 ⟨rfl,hb5⟩
  have HB6:=Lib.hid (Below.allocS (Below.step HB0.out hb5) (.cells #[.int .u64 x.1,.int .u32 x.2.1,.int .u32 x.2.2] 40))
  have hb6:=Below.allocS hb5 (.cells #[.int .u64 x.1,.int .u32 x.2.1,.int .u32 x.2.2] 40)
  replace z0:=cell_later hb6 z0
  replace z1:=cell_later hb6 z1
  replace z2:=cell_later hb6 z2
  replace f0:=frz_later hb6 f0 hl0
  replace f1:=frz_later hb6 f1 hl0
  replace f2:=frz_later hb6 f2 hl0
  have x0:=cell_nw w5 #[.int .u64 x.1,.int .u32 x.2.1,.int .u32 x.2.2] 40 0 _ rfl
  have x1:=cell_nw w5 #[.int .u64 x.1,.int .u32 x.2.1,.int .u32 x.2.2] 40 1 _ rfl
  have x2:=cell_nw w5 #[.int .u64 x.1,.int .u32 x.2.1,.int .u32 x.2.2] 40 2 _ rfl
  clear hb5 hb6
  go_wp2_with fail
  refine bodyPost_ret (v:=.tuple #[.agg #[.int .u64 x.1,.int .u32 x.2.1,.int .u32 x.2.2],.int .i64 (gn:Nat),.bool true]) (by simp [results,Tryz.results22,go_sem,z0,z1,z2,f0,f1,f2]) rfl ⟨rfl,?_⟩
  exact ((HB6.out.setCell (by simp) _).setCell (by simp) _).setCell (by simp) _
 ·have HX:=Lib.hid (show pgetX s id=(0,0,0) by unfold pgetX;rw [if_neg hc])
  have HG:=Lib.hid (show findG s id=0 by
   unfold findG
   unfold findC at hc
   by_cases hn:nameV id=true
   ·rw [if_pos hn] at hc ⊢
    cases ht:s.T id with
    | none=>rfl
    | some g=>rw [ht] at hc;simp at hc
   ·rw [if_neg hn])
  have y1:(findC s id != 0)=true:=by simp [hc]
  rw [HX.out,HG.out,show decide (findC s id=0)=false from decide_eq_false hc]
  clear hc hr hr0 hW0 hB0
  go_enter Tryz.func22,Tryz.ntmps22
  go_wp2_with fail
  rw [← HW0.out]
  refine A1.out.mono ?_;rintro e w5 ⟨rfl,rfl⟩
  go_wp2_with fail
  refine bodyPost_ret (v:=.tuple #[.agg #[.int .u64 0,.int .u32 0,.int .u32 0],.int .i64 0,.bool false]) (by simp [results,Tryz.results22,go_sem,z0,z1,z2,f0,f1,f2]) rfl ⟨rfl,?_⟩
  exact ((HB0.out.setCell (by simp) _).setCell (by simp) _).setCell (by simp) _
theorem own_shapeT {w:World} {base n size:Nat} {e:TypeId} {v:Value} {xs:List Value} (h:w.ownsRow base e size v n xs):∃ a cap,v=.slice a n cap:=by
 rcases h.2 with ⟨rfl,h0⟩ | ⟨g,cap,cur,rfl,_⟩
 ·exact ⟨none,0,by rw [h0]⟩
 ·exact ⟨_,cap,rfl⟩
def tasksM (M:Mems):List Int:=(M.map Prod.fst).filter fun i=>decide (i<65536)
def tasksT (s:TSt) (g:Int):List Int:=if hasV (s.n:Int) g=true then tasksM (s.M g.toNat) else []
def TasksP (w:World) (L:List Int) (e:Ending) (w':World):Prop:=∃ v,e=.returned v∧w'.ownsRow w.heap.size 3 1 v L.length (intsV L)∧Below w.heap.size w w'
theorem tasksM_len (M:Mems):(tasksM M).length≤M.length:=by
 unfold tasksM
 exact Nat.le_trans (List.length_filter_le _ _) (by simp)
theorem tasks_snoc (A:Mems) (m:Int×Ent):tasksM (A++[m])=if m.1<65536 then tasksM A++[m.1] else tasksM A:=by
 unfold tasksM
 rw [List.map_append,List.filter_append]
 by_cases h:m.1<65536
 ·rw [if_pos h];simp [h]
 ·rw [if_neg h];simp [h]
theorem own_base {w:World} {base base' n size:Nat} {e:TypeId} {v:Value} {xs:List Value} (h:w.ownsRow base e size v n xs) (hb:base'≤base):w.ownsRow base' e size v n xs:=
 ⟨h.1,h.2.imp id fun ⟨g,c,cur,h1,h2,h3⟩=>⟨g,c,cur,h1,Nat.le_trans hb h2,h3⟩⟩
theorem take_snoc {M:Mems} {j:Nat} {m:Int×Ent} (h:M[j]?=some m):M.take (j+1)=M.take j++[m]:=by rw [List.take_add_one,h];rfl
set_option maxRecDepth 100000 in
set_option maxHeartbeats 4000000 in
theorem pTasks_at {t:Nat} {F:List Nat} {s:TSt} (g:Int) (w:World) (h:TreeIn w t F s):Calls Tryz.prog 15 #[.pointer (some ⟨t,0,none⟩),.int .i64 g] w (TasksP w (tasksT s g)):=by
 obtain ⟨bg,bq,ba,bm,qp,Fq,hr,rfl⟩:=h
 obtain ⟨i0,hi,hz0,hz1,hz2⟩:=info_parts infoI
 have A1:=Lib.hid (phas_at g hr)
 have hn:=hr.pos
 have hlts:=hr.lt
 cases hv:hasV (s.n:Int) g with
 | false =>
  have HT:=Lib.hid (show tasksT s g=[] by unfold tasksT;rw [hv];rfl)
  rw [hv] at A1
  clear hr hv
  go_enter Tryz.func15,Tryz.ntmps15
  go_wp2_with fail
  refine A1.out.mono ?_;rintro e w5 ⟨rfl,rfl⟩
  go_wp2_with fail
  go_ret
  exact ⟨_,rfl,by rw [HT.out];exact World.ownsRow_nil _ _ _ _,Below.refl _ _⟩
 | true =>
  have hvp:0≤g∧g<(s.n:Int):=of_decide_eq_true hv
  obtain ⟨gk,rfl⟩:∃ gk:Nat,g=gk:=⟨g.toNat,by omega⟩
  have hgk:gk<s.n:=by omega
  have HT:=Lib.hid (show tasksT s (gk:Int)=tasksM (s.M gk) by unfold tasksT;rw [hv,if_pos rfl,Int.toNat_natCast])
  obtain ⟨c1,q1⟩:=hr.g1
  have q2:=hr.qc gk hgk
  have A2:=Lib.hid (QAll_at w (hr.q gk hgk))
  have HID:=Lib.hid (hr.q gk hgk).ids
  have hml:(s.M gk).length≤131072:=by have:=HID.out;omega
  generalize s.M gk=M at *
  rw [hv] at A1
  clear hr hv hvp
  go_enter Tryz.func15,Tryz.ntmps15
  go_wp2_with fail
  refine A1.out.mono ?_;rintro e w5 ⟨rfl,rfl⟩
  go_wp2_with fail
  refine A2.out.mono ?_;rintro e w6 ⟨v,rfl,hown,hb6⟩
  have HO:=Lib.hid hown
  have HB6:=Lib.hid hb6
  obtain ⟨mn,hmn⟩:∃ k,k=M.length:=⟨_,rfl⟩
  rw [← hmn] at hown hml
  obtain ⟨am,cm,rfl⟩:=own_shapeT hown
  have HMN:=Lib.hid hmn
  clear hown hb6 hmn
  go_wp2_with fail
  go_loopw [5,21] (fun v i wr=>∃ j:Nat,j≤mn∧i=.int .i64 j∧wr.ownsRow w6.heap.size 3 1 v (tasksM (M.take j)).length (intsV (tasksM (M.take j)))∧Below w6.heap.size w6 wr) (fun _ i _=>mn - (intOf i).toNat)
  case atStart=>exact ⟨0,Nat.zero_le _,rfl,World.ownsRow_nil _ _ _ _,Below.refl _ _⟩
  case round =>
   obtain ⟨j,hj,rfl,hown,hb⟩:=hrel
   have HOW:=Lib.hid hown
   have HB:=Lib.hid hb
   clear hown
   by_cases hlt:j<mn
   ·have hji:(j:Int)<(mn:Int):=by omega
    have z1:decide ((j:Int)<(mn:Int))=true:=decide_eq_true hji
    have hj0:(0:Int)≤(j:Int):=by omega
    have hjM:j<M.length:=by rw [← HMN.out];exact hlt
    have hx:M[j]?=some M[j]!:=by rw [List.getElem?_eq_getElem hjM,getElem!_pos M j hjM]
    have hw:=HO.out
    rw [← HMN.out] at hw
    obtain ⟨m0,hm0⟩:∃ m0,mn=m0+1:=⟨mn - 1,by omega⟩
    rw [hm0] at hw
    obtain ⟨g0,c0,e0⟩:=own_some hw
    rw [← hm0] at e0 hw
    clear hm0
    simp only [Value.slice.injEq] at e0
    obtain ⟨rfl,-,rfl⟩:=e0
    obtain ⟨⟨id,x,r,c⟩,hm⟩:∃ m,m=M[j]!:=⟨_,rfl⟩
    rw [← hm] at hx
    have HTK:=Lib.hid (show tasksM (M.take (j+1))=if id<65536 then tasksM (M.take j)++[id] else tasksM (M.take j) by rw [take_snoc hx,tasks_snoc])
    have HLE:=Lib.hid (show (tasksM (M.take j)).length≤mn from Nat.le_trans (tasksM_len _) (by rw [List.length_take];omega))
    have y0:=cell_later hb ((hw.cellAt (j*4+0) (by omega)).trans (flatR_at encMs_ok hx 0 (by decide)))
    have y1:=cell_later hb ((hw.cellAt (j*4+1) (by omega)).trans (flatR_at encMs_ok hx 1 (by decide)))
    have y2:=cell_later hb ((hw.cellAt (j*4+2) (by omega)).trans (flatR_at encMs_ok hx 2 (by decide)))
    have y3:=cell_later hb ((hw.cellAt (j*4+3) (by omega)).trans (flatR_at encMs_ok hx 3 (by decide)))
    rw [Nat.add_zero] at y0
    replace y0:wr.cell? ⟨g0,j*4,none⟩=some (.int .i64 id):=y0
    replace y1:wr.cell? ⟨g0,j*4+1,none⟩=some (.int .u64 x):=y1
    replace y2:wr.cell? ⟨g0,j*4+2,none⟩=some (.int .u32 r):=y2
    replace y3:wr.cell? ⟨g0,j*4+3,none⟩=some (.int .u32 c):=y3
    have u0:=cell_nw wr #[.int .i64 id,.int .u64 x,.int .u32 r,.int .u32 c] 106 0 _ rfl
    have u1:=cell_nw wr #[.int .i64 id,.int .u64 x,.int .u32 r,.int .u32 c] 106 1 _ rfl
    have u2:=cell_nw wr #[.int .i64 id,.int .u64 x,.int .u32 r,.int .u32 c] 106 2 _ rfl
    have u3:=cell_nw wr #[.int .i64 id,.int .u64 x,.int .u32 r,.int .u32 c] 106 3 _ rfl
    have HB7:=Lib.hid (Below.allocS hb (.cells #[.int .i64 id,.int .u64 x,.int .u32 r,.int .u32 c] 106))
    have HO7:=Lib.hid (World.ownsRow.alloc HOW.out (.cells #[.int .i64 id,.int .u64 x,.int .u32 r,.int .u32 c] 106))
    clear hb hw hm hx
    by_cases hid:id<65536
    ·have z2:decide (id<65536)=true:=decide_eq_true hid
     have HSN:=Lib.hid (show tasksM (M.take (j+1))=tasksM (M.take j)++[id] by rw [HTK.out,if_pos hid])
     clear HTK
     go_wp2_with (at_builtin;refine wpList_append_own _ rfl _ _ 37 rfl w6.heap.size 3 i0 (.int .i64 0) 1 8 Tryz.underlying37 hi hz0 hz1 hz2 rfl (by decide) _ (tasksM (M.take j)).length (intsV (tasksM (M.take j))) rfl (World.ownsRow.alloc HO7.out _) _ 1 1 [.int .i64 id] rfl rfl ?c1 ?c2 ?c3 ?c4 ?c5 ?_)
     case c1 =>
      intro q u hq
      rw [addN]
      exact cellN (by simp) (by simpa using hq)
     case c2 =>
      intro u hu
      simp only [List.mem_cons,List.not_mem_nil,or_false] at hu
      subst hu;rfl
     case c3=>have:=HLE.out;unfold maxLen;omega
     case c4=>have:=HLE.out;omega
     case c5=>exact (Below.allocS HB7.out _).size
     intro v' w8 hown8 hgrow8 _
     have hb8:Below w6.heap.size w6 w8:=(Below.allocS HB7.out _).grown hgrow8 (Below.allocS HB7.out _).size (fun q e=>(HOW.out.lt q e).1)
     have HW8:=Lib.hid (show w8.ownsRow w6.heap.size 3 1 v' (tasksM (M.take (j+1))).length (intsV (tasksM (M.take (j+1)))) by rw [HSN.out,List.length_append,ints_snoc];exact hown8)
     have HB8:=Lib.hid hb8
     clear hown8 hgrow8 hb8
     go_wp2_with fail
     go_roundw
     case rel=>exact ⟨j+1,by omega,by go_num,HW8.out,HB8.out⟩
     case measure=>simp [intOf];omega
    ·have z2:decide (id<65536)=false:=decide_eq_false hid
     have HSN:=Lib.hid (show tasksM (M.take (j+1))=tasksM (M.take j) by rw [HTK.out,if_neg hid])
     clear HTK
     go_wp2_with fail
     go_roundw
     case rel=>exact ⟨j+1,by omega,by go_num,by rw [HSN.out];exact HO7.out,HB7.out⟩
     case measure=>simp [intOf];omega
   ·have HJ:=Lib.hid (show j=mn by omega)
    have z1:decide ((j:Int)<(mn:Int))=false:=decide_eq_false (by omega)
    have z2:¬ (j:Int)<(mn:Int):=by omega
    clear hb hj hlt
    go_wp2_with fail
    go_ret
    refine ⟨_,rfl,?_,Below.step HB6.out HB.out⟩
    rw [HT.out]
    have:=HOW.out
    rw [List.take_of_length_le (by rw [← HMN.out,HJ.out];exact Nat.le_refl _)] at this
    exact own_base this HB6.out.size
end Go.Proofs.YtfgmglghlapbcaaGreat
