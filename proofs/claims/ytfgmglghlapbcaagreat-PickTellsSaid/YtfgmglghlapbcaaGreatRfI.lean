/-
  Layer 25 (pick), the reference: Come, Spawn, Wake.
-/
import Derived.Test.YtfgmglghlapbcaaGreatPrefH
namespace Go.Proofs.YtfgmglghlapbcaaGreat
open Go.RowKit Go.Maps Go.IntWalk Go.Lib Go.Sort Go.Shelf
set_option linter.unusedVariables false
set_option linter.unusedSimpArgs false
structure RAd where
 ag:Option Addr
 at':Option Addr
 aa:Option Addr
 af:Option Addr
 cg:Nat
 ct:Nat
 ca:Nat
 cf:Nat
def RAd.val (a:RAd) (n m:Nat) (cr:Int):Value:=.agg #[.slice a.ag n a.cg,.int .u64 cr,.slice a.at' m a.ct,.slice a.aa n a.ca,.slice a.af n a.cf]
structure RHeld (F:List Nat) (w:World) (d:RAd) (n m:Nat) (r:RSt):Prop where
 g:HeldR encG F w (.slice d.ag n d.cg) r.Gs
 t:HeldR encTk F w (.slice d.at' m d.ct) r.T
 a:HeldR encEn F w (.slice d.aa n d.ca) r.A
 f:HeldR encU F w (.slice d.af n d.cf) r.fl
theorem RHeld.rin {F:List Nat} {w:World} {a:RAd} {n m:Nat} {r:RSt} (h:RHeld F w a n m r):RIn w a.ag a.at' a.aa a.af a.cg a.ct a.ca a.cf n m r:=⟨h.g.recs,h.t.recs,h.a.recs,h.f.recs⟩
theorem RHeld.step {F F':List Nat} {w w':World} {a:RAd} {n m:Nat} {r:RSt} (h:RHeld F w a n m r) (hk:Kept F w w') (hn:∀ b∈F',b∈F∨w.heap.size≤b):RHeld F' w' a n m r:=⟨h.g.step hk hn,h.t.step hk hn,h.a.step hk hn,h.f.step hk hn⟩
theorem RHeld.later {F:List Nat} {w w':World} {a:RAd} {n m:Nat} {r:RSt} (h:RHeld F w a n m r) (hb:Below w.heap.size w w'):RHeld F w' a n m r:=h.step (Kept.of hb) fun b hb=>Or.inl hb
def ResP (w:World) (a:RAd) (r:RSt) (n m:Nat) (r2:RSt) (val:Value→Value) (e:Ending) (w':World):Prop:=
 ∃ a2:RAd,e=.returned (val (a2.val n r2.T.length r2.cr))∧(∀ F:List Nat,(∀ b∈F,b<w.heap.size)→RHeld F w a n m r→RHeld F w' a2 n r2.T.length r2)∧Below w.heap.size w w'
theorem own_heldN {α:Type} {enc:α→List Value} {K:Nat} (he:Enc enc K) {w:World} {base e n:Nat} {v:Value} {L:List α} {F:List Nat} (h:w.ownsRow base e K v n (flatR enc L)) (hn:L.length=n) (hF:∀ b∈F,b<base):HeldR enc F w v L:=own_heldR he h hn.symm rfl hF
theorem ResP.same {w w':World} {a:RAd} {r:RSt} {n m:Nat} {val:Value→Value} (hm:r.T.length=m) (hb:Below w.heap.size w w'):ResP w a r n m r val (.returned (val (a.val n m r.cr))) w':=⟨a,by rw [hm],fun F hF h=>by rw [hm];exact h.later hb,hb⟩
theorem ResP.own {w w':World} {a:RAd} {r r2:RSt} {n m m2:Nat} {val:Value→Value} {bg:Nat} {at':Option Addr} {ba bf cg ct ca cf:Nat} (h:ROwn w.heap.size w' bg at' ba bf cg ct ca cf n m2 r2) (hl:RLen r2 n m2) (hb:Below w.heap.size w w') :
  ResP w a r n m r2 val (.returned (val (.agg #[.slice (some ⟨bg,0,none⟩) n cg,.int .u64 r2.cr,.slice at' m2 ct,.slice (some ⟨ba,0,none⟩) n ca,.slice (some ⟨bf,0,none⟩) n cf]))) w':=by
 refine ⟨⟨some ⟨bg,0,none⟩,at',some ⟨ba,0,none⟩,some ⟨bf,0,none⟩,cg,ct,ca,cf⟩,by rw [hl.t];rfl,fun F hF _=>?_,hb⟩
 rw [hl.t]
 exact ⟨own_heldN encG_ok h.g hl.g hF,own_heldN encTk_ok h.t hl.t hF,own_heldN encEn_ok h.a hl.a hF,own_heldN encU_ok h.f hl.f hF⟩
theorem upA_len (r:RSt) (n:Nat):∀ (q:List Nat) (A:List Ent),(upA r n q A).length=A.length
 | [],A=>rfl
 | g::q,A=>by
  unfold upA
  split
  ·rw [upA_len r n q,List.length_set]
  ·rfl
theorem raisedR_len {r:RSt} {n m:Nat} (h:RLen r n m):RLen (raisedR r n) n m:=⟨h.g,h.t,h.a,by unfold raisedR flTo;simp,h.right,h.few⟩
theorem enterR_len {r:RSt} {n m:Nat} (hl:RLen r n m) (hm:m<69000) (id:Int) (k:Nat) (x:Ent):RLen (enterR r n id k x) n (m+1):=
 raisedR_len ⟨hl.g,by rw [insTk_len,hl.t],by rw [upA_len,hl.a],hl.f,hl.right,by omega⟩
def comR (r:RSt) (n:Nat) (id g:Int) (x:Ent):RSt:=if wrongC r n id g (decide (EntOk x))=0 then enterR r n id g.toNat x else r
theorem wrong_in {r:RSt} {n:Nat} {id g:Int} {ok:Bool} (h:wrongC r n id g ok=0):(1≤id∧id≤65535)∧(0≤g∧g<(n:Int))∧ok=true:=by
 unfold wrongC at h
 by_cases q:(nameV id && hasV (n:Int) g && ok)=true
 ·simp only [Bool.and_eq_true] at q
  exact ⟨of_decide_eq_true q.1.1,of_decide_eq_true q.1.2,q.2⟩
 ·rw [if_neg q] at h;exact absurd h (by decide)
theorem okB_dec (x:Ent):Ch.okB x.1 x.2.1 x.2.2=decide (EntOk x):=by
 by_cases h:EntOk x
 ·rw [decide_eq_true h,Ch.okB_t h]
 ·rw [decide_eq_false h,Ch.okB_f h]
set_option maxRecDepth 100000 in
set_option maxHeartbeats 4000000 in
theorem tCome_at (r:RSt) (n m:Nat) (hl:ROk r n m) (hm1:m<69000) (id g:Int) (x:Ent) (hx:Ch.Fits x.1 x.2.1 x.2.2) (a:RAd) (w:World) (hin:RIn w a.ag a.at' a.aa a.af a.cg a.ct a.ca a.cf n m r) :
  Calls Tryz.prog 62 #[.agg #[.slice a.ag n a.cg,.int .u64 r.cr,.slice a.at' m a.ct,.slice a.aa n a.ca,.slice a.af n a.cf],.int .i64 id,.int .i64 g,.agg #[.int .u64 x.1,.int .u32 x.2.1,.int .u32 x.2.2]] w (ResP w a r n m (comR r n id g x) (fun t=>.tuple #[t,.int .i64 (wrongC r n id g (decide (EntOk x)))])):=by
 have HL:=Lib.hid hl
 have HIN:=Lib.hid hin
 have A1:=Lib.hid fun W=>rRight_any x.1 x.2.1 x.2.2 W hx
 have A2:=Lib.hid fun W ok (q:RIn W a.ag a.at' a.aa a.af a.cg a.ct a.ca a.cf n m r)=>twrong_at r n m hl.toRLen id g ok a.ag a.at' a.aa a.af a.cg a.ct a.ca a.cf W q
 have A3:=Lib.hid fun W k (hk:k<n) (q:RIn W a.ag a.at' a.aa a.af a.cg a.ct a.ca a.cf n m r)=>tenter_at r n m hl hm1 id k hk x a.ag a.at' a.aa a.af a.cg a.ct a.ca a.cf W q
 rw [okB_dec] at A1
 have HC:=Lib.hid (wrong_in (r:=r) (n:=n) (id:=id) (g:=g) (ok:=decide (EntOk x)))
 obtain ⟨c,hc⟩:∃ c,c=wrongC r n id g (decide (EntOk x)):=⟨_,rfl⟩
 have HF:=Lib.hid (show ∀ W,c≠0→Below w.heap.size w W→ResP w a r n m (comR r n id g x) (fun t=>.tuple #[t,.int .i64 c]) (.returned (.tuple #[a.val n m r.cr,.int .i64 c])) W from fun W h hb=>by
  unfold comR
  rw [← hc,if_neg h]
  exact ResP.same (val:=fun t=>.tuple #[t,.int .i64 c]) hl.t hb)
 have HE:=Lib.hid (show c=0→comR r n id g x=enterR r n id g.toNat x from fun h=>by unfold comR;rw [← hc,if_pos h])
 have HRL:=Lib.hid (fun k=>enterR_len hl.toRLen hm1 id k x)
 obtain ⟨ok,hok⟩:∃ ok,ok=decide (EntOk x):=⟨_,rfl⟩
 rw [← hok] at hc HC A1
 rw [← hok,← hc]
 rw [← hc] at HC
 have HCC:=Lib.hid hc
 obtain ⟨xv,xr,xw⟩:=x
 dsimp only at A1 ⊢
 obtain ⟨ag,at',aa,af,cg,ct,ca,cf⟩:=a
 dsimp only at A2 A3 HIN ⊢
 have hn:=hl.pos
 clear hin hl hc hok hx
 obtain ⟨W0,hW0⟩:∃ W0,W0=(((w.alloc (.cells #[.slice ag n cg,.int .u64 r.cr,.slice at' m ct,.slice aa n ca,.slice af n cf] 74)).alloc (.cells #[.int .u64 xv,.int .u32 xr,.int .u32 xw] 120)).alloc (.cells #[.slice none 0 0,.int .u64 0,.slice none 0 0,.slice none 0 0,.slice none 0 0] 74)):=⟨_,rfl⟩
 have HB0:=Lib.hid (show Below w.heap.size w W0 by rw [hW0];exact (Below.allocS (Below.allocS (Below.allocS (Below.refl _ _) _) _) _))
 obtain ⟨c0,fc0,c1,fc1,c2,fc2,c3,fc3,c4,fc4⟩:=uc5 (show CellsF W0 (w.heap.size) [.slice ag n cg,.int .u64 r.cr,.slice at' m ct,.slice aa n ca,.slice af n cf] by rw [hW0];exact ((CellsF.new (by simp)).later (below_a _ _)).later (below_a _ _))
 obtain ⟨x0,fx0,x1,fx1,x2,fx2⟩:=uc3 (show CellsF W0 (w.heap.size+1) [.int .u64 xv,.int .u32 xr,.int .u32 xw] by rw [hW0];exact (CellsF.new (by simp)).later (below_a _ _))
 obtain ⟨r0,fr0,r1,fr1,r2,fr2,r3,fr3,r4,fr4⟩:=uc5 (show CellsF W0 (w.heap.size+1+1) [.slice none 0 0,.int .u64 0,.slice none 0 0,.slice none 0 0,.slice none 0 0] by rw [hW0];exact CellsF.new (by simp))
 have HSZ:=Lib.hid (show W0.heap.size=w.heap.size+1+1+1 by rw [hW0];simp)
 have HW0:=Lib.hid hW0
 clear hW0
 go_enter Tryz.func62,Tryz.ntmps62
 go_upto_region 1 with fail
 rw [← HW0.out]
 generalize hbx:w.heap.size=bx at c0 c1 c2 c3 c4 x0 x1 x2 r0 r1 r2 r3 r4 fc0 fc1 fc2 fc3 fc4 fx0 fx1 fx2 fr0 fr1 fr2 fr3 fr4 HSZ  ⊢
 have HBX:=Lib.hid hbx
 clear hbx HW0
 refine startA (S:=fun w'=>Below W0.heap.size W0 w'∧w'.cell? ⟨bx,0,none⟩=some (.slice ag n cg)∧w'.cell? ⟨bx,1,none⟩=some (.int .u64 r.cr)∧w'.cell? ⟨bx,2,none⟩=some (.slice at' m ct)∧w'.cell? ⟨bx,3,none⟩=some (.slice aa n ca)∧w'.cell? ⟨bx,4,none⟩=some (.slice af n cf)∧w'.cell? ⟨bx+1,0,none⟩=some (.int .u64 xv)∧w'.cell? ⟨bx+1,1,none⟩=some (.int .u32 xr)∧w'.cell? ⟨bx+1,2,none⟩=some (.int .u32 xw)) ⟨Below.refl _ _,c0,c1,c2,c3,c4,x0,x1,x2⟩ (held_8 (below_dr _)) (fun hS0 hHeld=>?_)
 refine takeA 0 ?_
 refine takeA 1 ?_
 refine takeA 2 ?_
 refine takeA 3 ?_
 refine readyA [4] (consA (fun K hK=>?_) .nil)
 go_simp
 refine (A1.out _).mono ?_
 rintro e w5 ⟨rfl,hb5⟩
 go_wp2_with fail
 refine outA hK kp_8 (fun hHeld4=>?_)
 clear hK K
 refine readyA [5] (consA (fun K hK=>?_) .nil)
 go_simp
 refine (A2.out _ ok ((HIN.out.later (HB0.out.drew)).later hb5)).mono ?_
 rintro e w6 ⟨rfl,hb6⟩
 rw [← HCC.out]
 go_wp2_with fail
 refine outA hK kp_8 (fun hHeld5=>?_)
 clear hK K
 refine takeA 6 ?_
 refine doneA ?_
 skip
 have hbb:=Below.step (Below.step (Below.refl W0.heap.size W0).drew hb5) hb6
 clear hS0 hb5 hb6
 have q:=uc5 ((pc5 c0 fc0 c1 fc1 c2 fc2 c3 fc3 c4 fc4).later hbb)
 clear c0 fc0 c1 fc1 c2 fc2 c3 fc3 c4 fc4
 obtain ⟨c0,fc0,c1,fc1,c2,fc2,c3,fc3,c4,fc4⟩:=q
 have q:=uc3 ((pc3 x0 fx0 x1 fx1 x2 fx2).later hbb)
 clear x0 fx0 x1 fx1 x2 fx2
 obtain ⟨x0,fx0,x1,fx1,x2,fx2⟩:=q
 have q:=uc5 ((pc5 r0 fr0 r1 fr1 r2 fr2 r3 fr3 r4 fr4).later hbb)
 clear r0 fr0 r1 fr1 r2 fr2 r3 fr3 r4 fr4
 obtain ⟨r0,fr0,r1,fr1,r2,fr2,r3,fr3,r4,fr4⟩:=q
 have HB6:=Lib.hid (Below.step HB0.out hbb)
 have hle:w.heap.size≤bx+1+1:=by have:=HBX.out;omega
 clear hbb
 by_cases hc0:c=0
 ·subst hc0
  obtain ⟨h1,h2,h3⟩:=HC.out rfl
  obtain ⟨k,rfl⟩:∃ k:Nat,g=k:=⟨g.toNat,by omega⟩
  have A4:=Lib.hid (A3.out w6 k (by omega) (HIN.out.later HB6.out))
  have HE2:=Lib.hid (HE.out rfl)
  clear h1 h2 h3 A3 HE
  go_wp2_with fail
  refine A4.out.mono ?_;clear A4;rintro e w7 ⟨bg,a1,ba,bf,dg,dt,da,df,rfl,hO,hb7⟩
  have HS7:=Lib.hid (show bx+1+1<w6.heap.size from lt_of_cell r0)
  have q:=uc5 ((pc5 c0 fc0 c1 fc1 c2 fc2 c3 fc3 c4 fc4).later hb7)
  clear c0 fc0 c1 fc1 c2 fc2 c3 fc3 c4 fc4
  obtain ⟨c0,fc0,c1,fc1,c2,fc2,c3,fc3,c4,fc4⟩:=q
  have q:=uc3 ((pc3 x0 fx0 x1 fx1 x2 fx2).later hb7)
  clear x0 fx0 x1 fx1 x2 fx2
  obtain ⟨x0,fx0,x1,fx1,x2,fx2⟩:=q
  have q:=uc5 ((pc5 r0 fr0 r1 fr1 r2 fr2 r3 fr3 r4 fr4).later hb7)
  clear r0 fr0 r1 fr1 r2 fr2 r3 fr3 r4 fr4
  obtain ⟨r0,fr0,r1,fr1,r2,fr2,r3,fr3,r4,fr4⟩:=q
  have HO:=Lib.hid hO
  have HB7:=Lib.hid (Below.step HB6.out hb7)
  have HZ7:=Lib.hid HB6.out.size
  clear hO hb7
  go_wp2_with fail
  refine bodyPost_ret (v:=.tuple #[.agg #[.slice (some ⟨bg,0,none⟩) n dg,.int .u64 (enterR r n id k (xv,xr,xw)).cr,.slice a1 (m+1) dt,.slice (some ⟨ba,0,none⟩) n da,.slice (some ⟨bf,0,none⟩) n df],.int .i64 0]) (by simp [results,Tryz.results62,go_sem, *]) rfl ?_
  rw [HE2.out,Int.toNat_natCast]
  have hlow:=HS7.out
  have hO:=HO.out
  exact ResP.own (val:=fun t=>.tuple #[t,.int .i64 0]) (ROwn.toBase (((((hO.low (a:=⟨bx+1+1,0,none⟩) hlow _).low (a:=⟨bx+1+1,1,none⟩) hlow _).low (a:=⟨bx+1+1,2,none⟩) hlow _).low (a:=⟨bx+1+1,3,none⟩) hlow _).low (a:=⟨bx+1+1,4,none⟩) hlow _) HZ7.out) (HRL.out k) (((((HB7.out.setCell hle _).setCell hle _).setCell hle _).setCell hle _).setCell hle _)
 ·have z0:(c != 0)=true:=by simpa using hc0
  have z1:¬ c=0:=hc0
  have HC0:=Lib.hid hc0
  clear hc0
  go_wp2_with fail
  refine bodyPost_ret (v:=.tuple #[.agg #[.slice ag n cg,.int .u64 r.cr,.slice at' m ct,.slice aa n ca,.slice af n cf],.int .i64 c]) (by simp [results,Tryz.results62,go_sem, *]) rfl ?_
  exact HF.out _ HC0.out (((((HB6.out.setCell hle _).setCell hle _).setCell hle _).setCell hle _).setCell hle _)
abbrev tup3 (x:Ent) (c:Int) (t:Value):Value:=.tuple #[t,.agg #[.int .u64 x.1,.int .u32 x.2.1,.int .u32 x.2.2],.int .i64 c]
def spawnRX (r:RSt) (n:Nat) (id g wt:Int):Ent:=if wrongC r n id g (Ch.wB wt)=0 then (r.fl[g.toNat]!,0,wt) else (0,0,0)
def spawnRS (r:RSt) (n:Nat) (id g wt:Int):RSt:=if wrongC r n id g (Ch.wB wt)=0 then enterR r n id g.toNat (r.fl[g.toNat]!,0,wt) else r
def wakeRX (r:RSt) (n:Nat) (id g:Int) (x:Ent):Ent:=if wrongC r n id g (decide (EntOk x))=0 then wokenX x r.fl[g.toNat]! r.cr else (0,0,0)
def wakeRS (r:RSt) (n:Nat) (id g:Int) (x:Ent):RSt:=if wrongC r n id g (decide (EntOk x))=0 then enterR r n id g.toNat (wokenX x r.fl[g.toNat]! r.cr) else r
theorem wB_dec (a:Int):Ch.wB a=true↔1≤a∧a≤65536:=by unfold Ch.wB;simp
set_option maxRecDepth 100000 in
set_option maxHeartbeats 4000000 in
theorem tSpawn_at (r:RSt) (n m:Nat) (hl:ROk r n m) (hm1:m<69000) (id g wt:Int) (hw:-9223372036854775808≤wt∧wt≤9223372036854775807) (a:RAd) (w:World) (hin:RIn w a.ag a.at' a.aa a.af a.cg a.ct a.ca a.cf n m r) :
  Calls Tryz.prog 60 #[.agg #[.slice a.ag n a.cg,.int .u64 r.cr,.slice a.at' m a.ct,.slice a.aa n a.ca,.slice a.af n a.cf],.int .i64 id,.int .i64 g,.int .i64 wt] w (ResP w a r n m (spawnRS r n id g wt) (tup3 (spawnRX r n id g wt) (wrongC r n id g (Ch.wB wt)))):=by
 have HL:=Lib.hid hl
 have HIN:=Lib.hid hin
 have A1:=Lib.hid fun W=>rWeight_any wt W
 have A2:=Lib.hid fun W ok (q:RIn W a.ag a.at' a.aa a.af a.cg a.ct a.ca a.cf n m r)=>twrong_at r n m hl.toRLen id g ok a.ag a.at' a.aa a.af a.cg a.ct a.ca a.cf W q
 have A3:=Lib.hid fun W k x (hk:k<n) (q:RIn W a.ag a.at' a.aa a.af a.cg a.ct a.ca a.cf n m r)=>tenter_at r n m hl hm1 id k hk x a.ag a.at' a.aa a.af a.cg a.ct a.ca a.cf W q
 have HC:=Lib.hid (wrong_in (r:=r) (n:=n) (id:=id) (g:=g) (ok:=Ch.wB wt))
 obtain ⟨c,hc⟩:∃ c,c=wrongC r n id g (Ch.wB wt):=⟨_,rfl⟩
 have HF:=Lib.hid (show ∀ W,c≠0→Below w.heap.size w W→ResP w a r n m (spawnRS r n id g wt) (tup3 (spawnRX r n id g wt) c) (.returned (tup3 (0,0,0) c (a.val n m r.cr))) W from fun W h hb=>by
  unfold spawnRS spawnRX
  rw [← hc,if_neg h,if_neg h]
  exact ResP.same (val:=tup3 (0,0,0) c) hl.t hb)
 have HE:=Lib.hid (show c=0→spawnRS r n id g wt=enterR r n id g.toNat (r.fl[g.toNat]!,0,wt)∧spawnRX r n id g wt=(r.fl[g.toNat]!,0,wt) from fun h=>by unfold spawnRS spawnRX;rw [← hc,if_pos h,if_pos h];exact ⟨rfl,rfl⟩)
 have HRL:=Lib.hid (fun k x=>enterR_len hl.toRLen hm1 id k x)
 obtain ⟨ok,hok⟩:∃ ok,ok=Ch.wB wt:=⟨_,rfl⟩
 rw [← hok] at hc HC A1
 rw [← hok,← hc]
 rw [← hc] at HC
 have HCC:=Lib.hid hc
 have HOK:=Lib.hid hok
 obtain ⟨ag,at',aa,af,cg,ct,ca,cf⟩:=a
 dsimp only at A2 A3 HIN ⊢
 have hn:=hl.pos
 clear hin hl hc hok
 obtain ⟨W0,hW0⟩:∃ W0,W0=(((w.alloc (.cells #[.slice ag n cg,.int .u64 r.cr,.slice at' m ct,.slice aa n ca,.slice af n cf] 74)).alloc (.cells #[.slice none 0 0,.int .u64 0,.slice none 0 0,.slice none 0 0,.slice none 0 0] 74)).alloc (.cells #[.int .u64 0,.int .u32 0,.int .u32 0] 120)):=⟨_,rfl⟩
 have HB0:=Lib.hid (show Below w.heap.size w W0 by rw [hW0];exact (Below.allocS (Below.allocS (Below.allocS (Below.refl _ _) _) _) _))
 obtain ⟨c0,fc0,c1,fc1,c2,fc2,c3,fc3,c4,fc4⟩:=uc5 (show CellsF W0 (w.heap.size) [.slice ag n cg,.int .u64 r.cr,.slice at' m ct,.slice aa n ca,.slice af n cf] by rw [hW0];exact ((CellsF.new (by simp)).later (below_a _ _)).later (below_a _ _))
 obtain ⟨r0,fr0,r1,fr1,r2,fr2,r3,fr3,r4,fr4⟩:=uc5 (show CellsF W0 (w.heap.size+1) [.slice none 0 0,.int .u64 0,.slice none 0 0,.slice none 0 0,.slice none 0 0] by rw [hW0];exact (CellsF.new (by simp)).later (below_a _ _))
 obtain ⟨q0,fq0,q1,fq1,q2,fq2⟩:=uc3 (show CellsF W0 (w.heap.size+1+1) [.int .u64 0,.int .u32 0,.int .u32 0] by rw [hW0];exact CellsF.new (by simp))
 have HSZ:=Lib.hid (show W0.heap.size=w.heap.size+1+1+1 by rw [hW0];simp)
 have HW0:=Lib.hid hW0
 clear hW0
 go_enter Tryz.func60,Tryz.ntmps60
 go_upto_region 1 with fail
 rw [← HW0.out]
 generalize hbx:w.heap.size=bx at c0 c1 c2 c3 c4 r0 r1 r2 r3 r4 q0 q1 q2 fc0 fc1 fc2 fc3 fc4 fr0 fr1 fr2 fr3 fr4 fq0 fq1 fq2 HSZ  ⊢
 have HBX:=Lib.hid hbx
 clear hbx HW0
 refine startA (S:=fun w'=>Below W0.heap.size W0 w'∧w'.cell? ⟨bx,0,none⟩=some (.slice ag n cg)∧w'.cell? ⟨bx,1,none⟩=some (.int .u64 r.cr)∧w'.cell? ⟨bx,2,none⟩=some (.slice at' m ct)∧w'.cell? ⟨bx,3,none⟩=some (.slice aa n ca)∧w'.cell? ⟨bx,4,none⟩=some (.slice af n cf)) ⟨Below.refl _ _,c0,c1,c2,c3,c4⟩ (held_5 (below_dr _)) (fun hS0 hHeld=>?_)
 refine takeA 0 ?_
 refine takeA 1 ?_
 refine takeA 2 ?_
 refine takeA 3 ?_
 refine readyA [4] (consA (fun K hK=>?_) .nil)
 go_simp
 refine (A1.out _).mono ?_
 rintro e w5 ⟨rfl,rfl⟩
 go_wp2_with fail
 refine outA hK kp_5 (fun hHeld4=>?_)
 clear hK K
 refine readyA [5] (consA (fun K hK=>?_) .nil)
 go_simp
 refine (A2.out _ ok (HIN.out.later (HB0.out.drew))).mono ?_
 rintro e w6 ⟨rfl,hb6⟩
 rw [← HCC.out]
 go_wp2_with fail
 refine outA hK kp_5 (fun hHeld5=>?_)
 clear hK K
 refine takeA 6 ?_
 refine doneA ?_
 skip
 have hbb:=Below.step (Below.refl W0.heap.size W0).drew hb6
 clear hS0 hb6
 have q:=uc5 ((pc5 c0 fc0 c1 fc1 c2 fc2 c3 fc3 c4 fc4).later hbb)
 clear c0 fc0 c1 fc1 c2 fc2 c3 fc3 c4 fc4
 obtain ⟨c0,fc0,c1,fc1,c2,fc2,c3,fc3,c4,fc4⟩:=q
 have q:=uc5 ((pc5 r0 fr0 r1 fr1 r2 fr2 r3 fr3 r4 fr4).later hbb)
 clear r0 fr0 r1 fr1 r2 fr2 r3 fr3 r4 fr4
 obtain ⟨r0,fr0,r1,fr1,r2,fr2,r3,fr3,r4,fr4⟩:=q
 have q:=uc3 ((pc3 q0 fq0 q1 fq1 q2 fq2).later hbb)
 clear q0 fq0 q1 fq1 q2 fq2
 obtain ⟨q0,fq0,q1,fq1,q2,fq2⟩:=q
 have HB6:=Lib.hid (Below.step HB0.out hbb)
 have hle:w.heap.size≤bx+1:=by have:=HBX.out;omega
 have hle2:w.heap.size≤bx+1+1:=by have:=HBX.out;omega
 clear hbb
 by_cases hc0:c=0
 ·subst hc0
  obtain ⟨h1,h2,h3⟩:=HC.out rfl
  obtain ⟨k,rfl⟩:∃ k:Nat,g=k:=⟨g.toNat,by omega⟩
  have hkn:k<n:=by omega
  have hki:(k:Int)<(n:Int):=by omega
  have hk0:(0:Int)≤(k:Int):=by omega
  have hwt:=(wB_dec wt).1 (by rw [← HOK.out];exact h3)
  have wc:IntKind.u32.wrap wt=wt:=IntWalk.u32_in _ (by omega)
  obtain ⟨hcg,hct,hca,hcf⟩:=HIN.out.caps
  obtain ⟨bq,oq,haf,f0⟩:=(HIN.out.later HB6.out).floor HL.out.toRLen hkn
  have HE2:=Lib.hid (HE.out rfl)
  rw [Int.toNat_natCast] at HE2
  obtain ⟨fo,hfo⟩:∃ f,f=r.fl[k]!:=⟨_,rfl⟩
  rw [← hfo] at f0 HE2
  have A4:=Lib.hid fun W (hb:Below w.heap.size w W)=>A3.out W k (fo,0,wt) hkn (HIN.out.later hb)
  have HRL2:=Lib.hid (HRL.out k (fo,0,wt))
  subst haf
  clear h1 h2 h3 A3 HE hfo HRL
  go_upto_region 5 with fail
  obtain ⟨w7,hw7⟩:∃ W,W=w6.alloc (.cells #[.int .u64 (fo),.int .u32 (0),.int .u32 (wt)] 120):=⟨_,rfl⟩
  have hb67:Below w6.heap.size w6 w7:=by rw [hw7];exact below_a _ _
  have k0:w7.cell? ⟨w6.heap.size,0,none⟩=some (.int .u64 (fo)):=by rw [hw7];exact cell_nw _ _ _ 0 _ rfl
  have k1:w7.cell? ⟨w6.heap.size,1,none⟩=some (.int .u32 (0)):=by rw [hw7];exact cell_nw _ _ _ 1 _ rfl
  have k2:w7.cell? ⟨w6.heap.size,2,none⟩=some (.int .u32 (wt)):=by rw [hw7];exact cell_nw _ _ _ 2 _ rfl
  rw [← hw7]
  clear hw7
  obtain ⟨bE,hbE⟩:∃ b,b=w6.heap.size:=⟨_,rfl⟩
  have hbEl:bx+1+1<bE:=by rw [hbE];exact lt_of_cell q0
  rw [← hbE] at k0 k1 k2 ⊢
  clear hbE
  have q:=uc5 ((pc5 c0 fc0 c1 fc1 c2 fc2 c3 fc3 c4 fc4).later hb67)
  clear c0 fc0 c1 fc1 c2 fc2 c3 fc3 c4 fc4
  obtain ⟨c0,fc0,c1,fc1,c2,fc2,c3,fc3,c4,fc4⟩:=q
  have q:=uc5 ((pc5 r0 fr0 r1 fr1 r2 fr2 r3 fr3 r4 fr4).later hb67)
  clear r0 fr0 r1 fr1 r2 fr2 r3 fr3 r4 fr4
  obtain ⟨r0,fr0,r1,fr1,r2,fr2,r3,fr3,r4,fr4⟩:=q
  have q:=uc3 ((pc3 q0 fq0 q1 fq1 q2 fq2).later hb67)
  clear q0 fq0 q1 fq1 q2 fq2
  obtain ⟨q0,fq0,q1,fq1,q2,fq2⟩:=q
  have HB7:=Lib.hid (Below.step HB6.out hb67)
  clear hb67
  have nb:bx∉[bx+1,bx+1+1]:=by simp only [List.mem_cons,List.not_mem_nil,or_false,not_or];omega
  have nE:bE∉[bx+1,bx+1+1]:=by simp only [List.mem_cons,List.not_mem_nil,or_false,not_or];omega
  refine startB (S:=fun w'=>Kept [bx+1,bx+1+1] w7 w'∧w'.cell? ⟨bx,0,none⟩=some (.slice ag n cg)∧w'.cell? ⟨bx,1,none⟩=some (.int .u64 r.cr)∧w'.cell? ⟨bx,2,none⟩=some (.slice at' m ct)∧w'.cell? ⟨bx,3,none⟩=some (.slice aa n ca)∧w'.cell? ⟨bx,4,none⟩=some (.slice (some ⟨bq,oq,none⟩) n cf)∧w'.cell? ⟨bE,0,none⟩=some (.int .u64 (fo))∧w'.cell? ⟨bE,1,none⟩=some (.int .u32 (0))∧w'.cell? ⟨bE,2,none⟩=some (.int .u32 (wt))) ⟨Kept.refl _ _,c0,c1,c2,c3,c4,k0,k1,k2⟩ (fun h=>heldK_8 (kept_dr _ _) h) (fun hS00 hS0 hHeld=>?_)
  obtain ⟨wc101,hwc101⟩:∃ X,X=w7.drew:=⟨_,rfl⟩
  rw [← hwc101] at hHeld ⊢
  have hWc101:Below w7.heap.size w7 wc101:=by rw [hwc101];exact (Below.refl _ _).drew
  clear hwc101
  refine takeA 0 ?_
  refine takeA 1 ?_
  refine takeA 2 ?_
  refine takeA 3 ?_
  refine readyA [4,5] (consA (fun K hK=>?_) (consA (fun K hK=>?_) .nil))
  ·skip
   go_simp
   refine (A4.out _ (Below.step HB7.out hWc101)).mono ?_
   rintro e w102 ⟨bg,a1,ba,bf,dg,dt,da,df,rfl,hO,hb102⟩
   have hW102:=Below.step hWc101 hb102
   have gfr0:=frz_later hW102 fr0 (lt_of_cell r0)
   have gr0:=cell_later hW102 r0
   have gfr1:=frz_later hW102 fr1 (lt_of_cell r1)
   have gr1:=cell_later hW102 r1
   have gfr2:=frz_later hW102 fr2 (lt_of_cell r2)
   have gr2:=cell_later hW102 r2
   have gfr3:=frz_later hW102 fr3 (lt_of_cell r3)
   have gr3:=cell_later hW102 r3
   have gfr4:=frz_later hW102 fr4 (lt_of_cell r4)
   have gr4:=cell_later hW102 r4
   have gfq0:=frz_later hW102 fq0 (lt_of_cell q0)
   have gq0:=cell_later hW102 q0
   have gfq1:=frz_later hW102 fq1 (lt_of_cell q1)
   have gq1:=cell_later hW102 q1
   have gfq2:=frz_later hW102 fq2 (lt_of_cell q2)
   have gq2:=cell_later hW102 q2
   have hbw:=hW102
   have HS9:=Lib.hid (show bx+1+1<wc101.heap.size from Nat.lt_of_lt_of_le (lt_of_cell q0) hWc101.size)
   have HZ7:=Lib.hid (show w.heap.size≤wc101.heap.size from Nat.le_trans HB7.out.size hWc101.size)
   go_wp2_with fail
   refine outA hK (heldK_8 (S:=[bx+1,bx+1+1]) (Kept.of hW102) hS00 nb nb nb nb nb nE nE nE) (fun hHeld4=>?_)
   clear hK K
   refine readyA [5,6] (consA (fun K hK=>?_) (consA (fun K hK=>?_) .nil))
   ·skip
    go_simp
    refine outA hK (heldK_8 (S:=[bx+1,bx+1+1]) (Kept.of hW102) hS00 nb nb nb nb nb nE nE nE) (fun hHeld5=>?_)
    clear hK K
    refine readyA [6] (consA (fun K hK=>?_) .nil)
    go_simp
    have hk103:Kept [bx+1,bx+1+1] w7 (((((w102.setCell ⟨bx+1,0,none⟩ (.slice (some ⟨bg,0,none⟩) n dg)).setCell ⟨bx+1,1,none⟩ (.int .u64 (enterR r n id k (fo,0,wt)).cr)).setCell ⟨bx+1,2,none⟩ (.slice a1 (m+1) dt)).setCell ⟨bx+1,3,none⟩ (.slice (some ⟨ba,0,none⟩) n da)).setCell ⟨bx+1,4,none⟩ (.slice (some ⟨bf,0,none⟩) n df)):=((((((Kept.of hW102).setCell (p:=⟨bx+1,0,none⟩) (Or.inl (by simp)) _).setCell (p:=⟨bx+1,1,none⟩) (Or.inl (by simp)) _).setCell (p:=⟨bx+1,2,none⟩) (Or.inl (by simp)) _).setCell (p:=⟨bx+1,3,none⟩) (Or.inl (by simp)) _).setCell (p:=⟨bx+1,4,none⟩) (Or.inl (by simp)) _)
    refine outA hK (heldK_8 (S:=[bx+1,bx+1+1]) (hk103) hS00 nb nb nb nb nb nE nE nE) (fun hHeld6=>?_)
    clear hK K
    refine readyA [7] (consA (fun K hK=>?_) .nil)
    go_simp
    have hk104:Kept [bx+1,bx+1+1] w7 ((((((((w102.setCell ⟨bx+1,0,none⟩ (.slice (some ⟨bg,0,none⟩) n dg)).setCell ⟨bx+1,1,none⟩ (.int .u64 (enterR r n id k (fo,0,wt)).cr)).setCell ⟨bx+1,2,none⟩ (.slice a1 (m+1) dt)).setCell ⟨bx+1,3,none⟩ (.slice (some ⟨ba,0,none⟩) n da)).setCell ⟨bx+1,4,none⟩ (.slice (some ⟨bf,0,none⟩) n df)).setCell ⟨bx+1+1,0,none⟩ (.int .u64 (fo))).setCell ⟨bx+1+1,1,none⟩ (.int .u32 (0))).setCell ⟨bx+1+1,2,none⟩ (.int .u32 (wt))):=(((hk103.setCell (p:=⟨bx+1+1,0,none⟩) (Or.inl (by simp)) _).setCell (p:=⟨bx+1+1,1,none⟩) (Or.inl (by simp)) _).setCell (p:=⟨bx+1+1,2,none⟩) (Or.inl (by simp)) _)
    refine outA hK (heldK_8 (S:=[bx+1,bx+1+1]) (hk104) hS00 nb nb nb nb nb nE nE nE) (fun hHeld7=>?_)
    clear hK K
    refine takeA 8 ?_
    refine doneA ?_
    have HO:=Lib.hid hO
    have HB9:=Lib.hid (Below.step HB7.out hbw)
    clear hO hS0
    go_wp2_with fail
    refine bodyPost_ret (v:=.tuple #[.agg #[.slice (some ⟨bg,0,none⟩) n dg,.int .u64 (enterR r n id k (fo,0,wt)).cr,.slice a1 (m+1) dt,.slice (some ⟨ba,0,none⟩) n da,.slice (some ⟨bf,0,none⟩) n df],.agg #[.int .u64 (fo),.int .u32 (0),.int .u32 (wt)],.int .i64 0]) (by simp [results,Tryz.results60,go_sem, *]) rfl ?_
    rw [HE2.out.1,HE2.out.2]
    have hlow2:=HS9.out
    have hlow:bx+1<_:=Nat.lt_of_succ_lt hlow2
    have hO:=HO.out
    exact ResP.own (val:=tup3 (fo,0,wt) 0) (ROwn.toBase ((((((((hO.low (a:=⟨bx+1,0,none⟩) hlow _).low (a:=⟨bx+1,1,none⟩) hlow _).low (a:=⟨bx+1,2,none⟩) hlow _).low (a:=⟨bx+1,3,none⟩) hlow _).low (a:=⟨bx+1,4,none⟩) hlow _).low (a:=⟨bx+1+1,0,none⟩) hlow2 _).low (a:=⟨bx+1+1,1,none⟩) hlow2 _).low (a:=⟨bx+1+1,2,none⟩) hlow2 _) HZ7.out) HRL2.out ((((((((HB9.out.setCell hle _).setCell hle _).setCell hle _).setCell hle _).setCell hle _).setCell hle2 _).setCell hle2 _).setCell hle2 _)
   ·skip
    go_simp
    have hk105:Kept [bx+1,bx+1+1] w7 (((((w102.setCell ⟨bx+1,0,none⟩ (.slice (some ⟨bg,0,none⟩) n dg)).setCell ⟨bx+1,1,none⟩ (.int .u64 (enterR r n id k (fo,0,wt)).cr)).setCell ⟨bx+1,2,none⟩ (.slice a1 (m+1) dt)).setCell ⟨bx+1,3,none⟩ (.slice (some ⟨ba,0,none⟩) n da)).setCell ⟨bx+1,4,none⟩ (.slice (some ⟨bf,0,none⟩) n df)):=((((((Kept.of hW102).setCell (p:=⟨bx+1,0,none⟩) (Or.inl (by simp)) _).setCell (p:=⟨bx+1,1,none⟩) (Or.inl (by simp)) _).setCell (p:=⟨bx+1,2,none⟩) (Or.inl (by simp)) _).setCell (p:=⟨bx+1,3,none⟩) (Or.inl (by simp)) _).setCell (p:=⟨bx+1,4,none⟩) (Or.inl (by simp)) _)
    refine outA hK (heldK_8 (S:=[bx+1,bx+1+1]) (hk105) hS00 nb nb nb nb nb nE nE nE) (fun hHeld6=>?_)
    clear hK K
    refine readyA [5] (consA (fun K hK=>?_) .nil)
    go_simp
    refine outA hK (heldK_8 (S:=[bx+1,bx+1+1]) (hk105) hS00 nb nb nb nb nb nE nE nE) (fun hHeld5=>?_)
    clear hK K
    refine readyA [7] (consA (fun K hK=>?_) .nil)
    go_simp
    have hk106:Kept [bx+1,bx+1+1] w7 ((((((((w102.setCell ⟨bx+1,0,none⟩ (.slice (some ⟨bg,0,none⟩) n dg)).setCell ⟨bx+1,1,none⟩ (.int .u64 (enterR r n id k (fo,0,wt)).cr)).setCell ⟨bx+1,2,none⟩ (.slice a1 (m+1) dt)).setCell ⟨bx+1,3,none⟩ (.slice (some ⟨ba,0,none⟩) n da)).setCell ⟨bx+1,4,none⟩ (.slice (some ⟨bf,0,none⟩) n df)).setCell ⟨bx+1+1,0,none⟩ (.int .u64 (fo))).setCell ⟨bx+1+1,1,none⟩ (.int .u32 (0))).setCell ⟨bx+1+1,2,none⟩ (.int .u32 (wt))):=(((hk105.setCell (p:=⟨bx+1+1,0,none⟩) (Or.inl (by simp)) _).setCell (p:=⟨bx+1+1,1,none⟩) (Or.inl (by simp)) _).setCell (p:=⟨bx+1+1,2,none⟩) (Or.inl (by simp)) _)
    refine outA hK (heldK_8 (S:=[bx+1,bx+1+1]) (hk106) hS00 nb nb nb nb nb nE nE nE) (fun hHeld7=>?_)
    clear hK K
    refine takeA 8 ?_
    refine doneA ?_
    have HO:=Lib.hid hO
    have HB9:=Lib.hid (Below.step HB7.out hbw)
    clear hO hS0
    go_wp2_with fail
    refine bodyPost_ret (v:=.tuple #[.agg #[.slice (some ⟨bg,0,none⟩) n dg,.int .u64 (enterR r n id k (fo,0,wt)).cr,.slice a1 (m+1) dt,.slice (some ⟨ba,0,none⟩) n da,.slice (some ⟨bf,0,none⟩) n df],.agg #[.int .u64 (fo),.int .u32 (0),.int .u32 (wt)],.int .i64 0]) (by simp [results,Tryz.results60,go_sem, *]) rfl ?_
    rw [HE2.out.1,HE2.out.2]
    have hlow2:=HS9.out
    have hlow:bx+1<_:=Nat.lt_of_succ_lt hlow2
    have hO:=HO.out
    exact ResP.own (val:=tup3 (fo,0,wt) 0) (ROwn.toBase ((((((((hO.low (a:=⟨bx+1,0,none⟩) hlow _).low (a:=⟨bx+1,1,none⟩) hlow _).low (a:=⟨bx+1,2,none⟩) hlow _).low (a:=⟨bx+1,3,none⟩) hlow _).low (a:=⟨bx+1,4,none⟩) hlow _).low (a:=⟨bx+1+1,0,none⟩) hlow2 _).low (a:=⟨bx+1+1,1,none⟩) hlow2 _).low (a:=⟨bx+1+1,2,none⟩) hlow2 _) HZ7.out) HRL2.out ((((((((HB9.out.setCell hle _).setCell hle _).setCell hle _).setCell hle _).setCell hle _).setCell hle2 _).setCell hle2 _).setCell hle2 _)
  ·skip
   go_simp
   refine outA hK (heldK_8 (S:=[bx+1,bx+1+1]) (Kept.of hWc101) hS00 nb nb nb nb nb nE nE nE) (fun hHeld5=>?_)
   clear hK K
   refine readyA [4] (consA (fun K hK=>?_) .nil)
   go_simp
   refine (A4.out _ (Below.step HB7.out hWc101)).mono ?_
   rintro e w107 ⟨bg,a1,ba,bf,dg,dt,da,df,rfl,hO,hb107⟩
   have hW107:=Below.step hWc101 hb107
   have gfr0:=frz_later hW107 fr0 (lt_of_cell r0)
   have gr0:=cell_later hW107 r0
   have gfr1:=frz_later hW107 fr1 (lt_of_cell r1)
   have gr1:=cell_later hW107 r1
   have gfr2:=frz_later hW107 fr2 (lt_of_cell r2)
   have gr2:=cell_later hW107 r2
   have gfr3:=frz_later hW107 fr3 (lt_of_cell r3)
   have gr3:=cell_later hW107 r3
   have gfr4:=frz_later hW107 fr4 (lt_of_cell r4)
   have gr4:=cell_later hW107 r4
   have gfq0:=frz_later hW107 fq0 (lt_of_cell q0)
   have gq0:=cell_later hW107 q0
   have gfq1:=frz_later hW107 fq1 (lt_of_cell q1)
   have gq1:=cell_later hW107 q1
   have gfq2:=frz_later hW107 fq2 (lt_of_cell q2)
   have gq2:=cell_later hW107 q2
   have hbw:=hW107
   have HS9:=Lib.hid (show bx+1+1<wc101.heap.size from Nat.lt_of_lt_of_le (lt_of_cell q0) hWc101.size)
   have HZ7:=Lib.hid (show w.heap.size≤wc101.heap.size from Nat.le_trans HB7.out.size hWc101.size)
   go_wp2_with fail
   refine outA hK (heldK_8 (S:=[bx+1,bx+1+1]) (Kept.of hW107) hS00 nb nb nb nb nb nE nE nE) (fun hHeld4=>?_)
   clear hK K
   refine readyA [6] (consA (fun K hK=>?_) .nil)
   go_simp
   have hk108:Kept [bx+1,bx+1+1] w7 (((((w107.setCell ⟨bx+1,0,none⟩ (.slice (some ⟨bg,0,none⟩) n dg)).setCell ⟨bx+1,1,none⟩ (.int .u64 (enterR r n id k (fo,0,wt)).cr)).setCell ⟨bx+1,2,none⟩ (.slice a1 (m+1) dt)).setCell ⟨bx+1,3,none⟩ (.slice (some ⟨ba,0,none⟩) n da)).setCell ⟨bx+1,4,none⟩ (.slice (some ⟨bf,0,none⟩) n df)):=((((((Kept.of hW107).setCell (p:=⟨bx+1,0,none⟩) (Or.inl (by simp)) _).setCell (p:=⟨bx+1,1,none⟩) (Or.inl (by simp)) _).setCell (p:=⟨bx+1,2,none⟩) (Or.inl (by simp)) _).setCell (p:=⟨bx+1,3,none⟩) (Or.inl (by simp)) _).setCell (p:=⟨bx+1,4,none⟩) (Or.inl (by simp)) _)
   refine outA hK (heldK_8 (S:=[bx+1,bx+1+1]) (hk108) hS00 nb nb nb nb nb nE nE nE) (fun hHeld6=>?_)
   clear hK K
   refine readyA [7] (consA (fun K hK=>?_) .nil)
   go_simp
   have hk109:Kept [bx+1,bx+1+1] w7 ((((((((w107.setCell ⟨bx+1,0,none⟩ (.slice (some ⟨bg,0,none⟩) n dg)).setCell ⟨bx+1,1,none⟩ (.int .u64 (enterR r n id k (fo,0,wt)).cr)).setCell ⟨bx+1,2,none⟩ (.slice a1 (m+1) dt)).setCell ⟨bx+1,3,none⟩ (.slice (some ⟨ba,0,none⟩) n da)).setCell ⟨bx+1,4,none⟩ (.slice (some ⟨bf,0,none⟩) n df)).setCell ⟨bx+1+1,0,none⟩ (.int .u64 (fo))).setCell ⟨bx+1+1,1,none⟩ (.int .u32 (0))).setCell ⟨bx+1+1,2,none⟩ (.int .u32 (wt))):=(((hk108.setCell (p:=⟨bx+1+1,0,none⟩) (Or.inl (by simp)) _).setCell (p:=⟨bx+1+1,1,none⟩) (Or.inl (by simp)) _).setCell (p:=⟨bx+1+1,2,none⟩) (Or.inl (by simp)) _)
   refine outA hK (heldK_8 (S:=[bx+1,bx+1+1]) (hk109) hS00 nb nb nb nb nb nE nE nE) (fun hHeld7=>?_)
   clear hK K
   refine takeA 8 ?_
   refine doneA ?_
   have HO:=Lib.hid hO
   have HB9:=Lib.hid (Below.step HB7.out hbw)
   clear hO hS0
   go_wp2_with fail
   refine bodyPost_ret (v:=.tuple #[.agg #[.slice (some ⟨bg,0,none⟩) n dg,.int .u64 (enterR r n id k (fo,0,wt)).cr,.slice a1 (m+1) dt,.slice (some ⟨ba,0,none⟩) n da,.slice (some ⟨bf,0,none⟩) n df],.agg #[.int .u64 (fo),.int .u32 (0),.int .u32 (wt)],.int .i64 0]) (by simp [results,Tryz.results60,go_sem, *]) rfl ?_
   rw [HE2.out.1,HE2.out.2]
   have hlow2:=HS9.out
   have hlow:bx+1<_:=Nat.lt_of_succ_lt hlow2
   have hO:=HO.out
   exact ResP.own (val:=tup3 (fo,0,wt) 0) (ROwn.toBase ((((((((hO.low (a:=⟨bx+1,0,none⟩) hlow _).low (a:=⟨bx+1,1,none⟩) hlow _).low (a:=⟨bx+1,2,none⟩) hlow _).low (a:=⟨bx+1,3,none⟩) hlow _).low (a:=⟨bx+1,4,none⟩) hlow _).low (a:=⟨bx+1+1,0,none⟩) hlow2 _).low (a:=⟨bx+1+1,1,none⟩) hlow2 _).low (a:=⟨bx+1+1,2,none⟩) hlow2 _) HZ7.out) HRL2.out ((((((((HB9.out.setCell hle _).setCell hle _).setCell hle _).setCell hle _).setCell hle _).setCell hle2 _).setCell hle2 _).setCell hle2 _)
 ·have z0:(c != 0)=true:=by simpa using hc0
  have z1:¬ c=0:=hc0
  have HC0:=Lib.hid hc0
  clear hc0
  go_wp2_with fail
  refine bodyPost_ret (v:=.tuple #[.agg #[.slice ag n cg,.int .u64 r.cr,.slice at' m ct,.slice aa n ca,.slice af n cf],.agg #[.int .u64 0,.int .u32 0,.int .u32 0],.int .i64 c]) (by simp [results,Tryz.results60,go_sem, *]) rfl ?_
  exact HF.out _ HC0.out ((((((((HB6.out.setCell hle _).setCell hle _).setCell hle _).setCell hle _).setCell hle _).setCell hle2 _).setCell hle2 _).setCell hle2 _)
abbrev tup2 (c:Int) (t:Value):Value:=.tuple #[t,.int .i64 c]
def atT (r:RSt) (id:Int):Nat:=(findT r.T id).toNat
def weighRS (r:RSt) (id wt:Int):RSt:=if thereC r id (Ch.wB wt)=0 then { r with T:=r.T.set (atT r id) (r.T[atT r id]!.1,r.T[atT r id]!.2.1,(r.T[atT r id]!.2.2.1,0,wt)) } else r
theorem there_in {r:RSt} {id:Int} {ok:Bool} (h:thereC r id ok=0):thereI r id ok=(atT r id:Int)∧atT r id<r.T.length∧ok=true∧(1≤id∧id≤65535):=by
 unfold thereC at h
 unfold thereI atT
 by_cases q:(nameV id && ok)=true
 ·rw [if_pos q] at h ⊢
  simp only [Bool.and_eq_true] at q
  by_cases q2:0≤findT r.T id
  ·rw [if_pos q2]
   rcases findT_cases r.T id with ⟨k,k1,k2,_⟩ | ⟨k1,_⟩
   ·rw [k2,Int.toNat_natCast]
    exact ⟨rfl,k1,q.2,of_decide_eq_true q.1⟩
   ·omega
  ·rw [if_neg q2] at h;exact absurd h (by decide)
 ·rw [if_neg q] at h;exact absurd h (by decide)
set_option maxRecDepth 100000 in
set_option maxHeartbeats 4000000 in
theorem tWeigh_at (r:RSt) (n m:Nat) (hl:ROk r n m) (id wt:Int) (hw:-9223372036854775808≤wt∧wt≤9223372036854775807) (a:RAd) (w:World) (hin:RIn w a.ag a.at' a.aa a.af a.cg a.ct a.ca a.cf n m r) :
  Calls Tryz.prog 65 #[.agg #[.slice a.ag n a.cg,.int .u64 r.cr,.slice a.at' m a.ct,.slice a.aa n a.ca,.slice a.af n a.cf],.int .i64 id,.int .i64 wt] w (ResP w a r n m (weighRS r id wt) (tup2 (thereC r id (Ch.wB wt)))):=by
 have HL:=Lib.hid hl
 have HIN:=Lib.hid hin
 have A1:=Lib.hid fun W=>rWeight_any wt W
 have A2:=Lib.hid fun W ok (q:RIn W a.ag a.at' a.aa a.af a.cg a.ct a.ca a.cf n m r)=>tthere_at r n m hl.toRLen id ok a.ag a.at' a.aa a.af a.cg a.ct a.ca a.cf W q
 have A3:=Lib.hid fun W (q:RIn W a.ag a.at' a.aa a.af a.cg a.ct a.ca a.cf n m r)=>tcopied_at r n m hl.toRLen a.ag a.at' a.aa a.af a.cg a.ct a.ca a.cf W q
 have HC:=Lib.hid (there_in (r:=r) (id:=id) (ok:=Ch.wB wt))
 obtain ⟨c,hc⟩:∃ c,c=thereC r id (Ch.wB wt):=⟨_,rfl⟩
 have HF:=Lib.hid (show ∀ W,c≠0→Below w.heap.size w W→ResP w a r n m (weighRS r id wt) (tup2 c) (.returned (tup2 c (a.val n m r.cr))) W from fun W h hb=>by
  unfold weighRS
  rw [← hc,if_neg h]
  exact ResP.same (val:=tup2 c) hl.t hb)
 have HE:=Lib.hid (show c=0→weighRS r id wt={ r with T:=r.T.set (atT r id) (r.T[atT r id]!.1,r.T[atT r id]!.2.1,(r.T[atT r id]!.2.2.1,0,wt)) } from fun h=>by unfold weighRS;rw [← hc,if_pos h])
 obtain ⟨ok,hok⟩:∃ ok,ok=Ch.wB wt:=⟨_,rfl⟩
 rw [← hok] at hc HC A1
 rw [← hok,← hc]
 rw [← hc] at HC
 obtain ⟨ti,hti⟩:∃ i,i=thereI r id ok:=⟨_,rfl⟩
 rw [← hti] at HC
 have HCC:=Lib.hid hc
 have HTI:=Lib.hid hti
 have HOK:=Lib.hid hok
 obtain ⟨ag,at',aa,af,cg,ct,ca,cf⟩:=a
 dsimp only at A2 A3 HIN ⊢
 have hn:=hl.pos
 clear hin hl hc hok hti
 obtain ⟨W0,hW0⟩:∃ W0,W0=((w.alloc (.cells #[.slice ag n cg,.int .u64 r.cr,.slice at' m ct,.slice aa n ca,.slice af n cf] 74)).alloc (.cells #[.slice none 0 0,.int .u64 0,.slice none 0 0,.slice none 0 0,.slice none 0 0] 74)):=⟨_,rfl⟩
 have HB0:=Lib.hid (show Below w.heap.size w W0 by rw [hW0];exact (Below.allocS (Below.allocS (Below.refl _ _) _) _))
 obtain ⟨c0,fc0,c1,fc1,c2,fc2,c3,fc3,c4,fc4⟩:=uc5 (show CellsF W0 (w.heap.size) [.slice ag n cg,.int .u64 r.cr,.slice at' m ct,.slice aa n ca,.slice af n cf] by rw [hW0];exact (CellsF.new (by simp)).later (below_a _ _))
 obtain ⟨r0,fr0,r1,fr1,r2,fr2,r3,fr3,r4,fr4⟩:=uc5 (show CellsF W0 (w.heap.size+1) [.slice none 0 0,.int .u64 0,.slice none 0 0,.slice none 0 0,.slice none 0 0] by rw [hW0];exact CellsF.new (by simp))
 have HSZ:=Lib.hid (show W0.heap.size=w.heap.size+1+1 by rw [hW0];simp)
 have HW0:=Lib.hid hW0
 clear hW0
 go_enter Tryz.func65,Tryz.ntmps65
 go_upto_region 1 with fail
 rw [← HW0.out]
 generalize hbx:w.heap.size=bx at c0 c1 c2 c3 c4 r0 r1 r2 r3 r4 fc0 fc1 fc2 fc3 fc4 fr0 fr1 fr2 fr3 fr4 HSZ  ⊢
 have HBX:=Lib.hid hbx
 clear hbx HW0
 refine startA (S:=fun w'=>Below W0.heap.size W0 w'∧w'.cell? ⟨bx,0,none⟩=some (.slice ag n cg)∧w'.cell? ⟨bx,1,none⟩=some (.int .u64 r.cr)∧w'.cell? ⟨bx,2,none⟩=some (.slice at' m ct)∧w'.cell? ⟨bx,3,none⟩=some (.slice aa n ca)∧w'.cell? ⟨bx,4,none⟩=some (.slice af n cf)) ⟨Below.refl _ _,c0,c1,c2,c3,c4⟩ (held_5 (below_dr _)) (fun hS0 hHeld=>?_)
 refine takeA 0 ?_
 refine takeA 1 ?_
 refine takeA 2 ?_
 refine readyA [3] (consA (fun K hK=>?_) .nil)
 go_simp
 refine (A1.out _).mono ?_
 rintro e w5 ⟨rfl,rfl⟩
 go_wp2_with fail
 refine outA hK kp_5 (fun hHeld3=>?_)
 clear hK K
 refine readyA [4] (consA (fun K hK=>?_) .nil)
 go_simp
 refine (A2.out _ ok (HIN.out.later (HB0.out.drew))).mono ?_
 rintro e w6 ⟨rfl,hb6⟩
 rw [← HCC.out,← HTI.out]
 go_wp2_with fail
 refine outA hK kp_5 (fun hHeld4=>?_)
 clear hK K
 refine takeA 5 ?_
 refine takeA 6 ?_
 refine takeA 7 ?_
 refine takeA 8 ?_
 refine takeA 9 ?_
 refine doneA ?_
 skip
 have hbb:=Below.step (Below.refl W0.heap.size W0).drew hb6
 clear hS0 hb6
 have q:=uc5 ((pc5 c0 fc0 c1 fc1 c2 fc2 c3 fc3 c4 fc4).later hbb)
 clear c0 fc0 c1 fc1 c2 fc2 c3 fc3 c4 fc4
 obtain ⟨c0,fc0,c1,fc1,c2,fc2,c3,fc3,c4,fc4⟩:=q
 have q:=uc5 ((pc5 r0 fr0 r1 fr1 r2 fr2 r3 fr3 r4 fr4).later hbb)
 clear r0 fr0 r1 fr1 r2 fr2 r3 fr3 r4 fr4
 obtain ⟨r0,fr0,r1,fr1,r2,fr2,r3,fr3,r4,fr4⟩:=q
 have HB6:=Lib.hid (Below.step HB0.out hbb)
 have hle:w.heap.size≤bx+1:=by have:=HBX.out;omega
 clear hbb
 by_cases hc0:c=0
 ·subst hc0
  obtain ⟨h1,h2,h3,h4⟩:=HC.out rfl
  obtain ⟨k,hk⟩:∃ k,k=atT r id:=⟨_,rfl⟩
  have HE2:=Lib.hid (HE.out rfl)
  rw [← hk] at h1 h2 HE2
  subst h1
  rw [HL.out.t] at h2
  have hki:(k:Int)<(m:Int):=by omega
  have hk0:(0:Int)≤(k:Int):=by omega
  have hwt:1≤wt∧wt≤65536:=by have:=HOK.out.symm.trans h3;unfold Ch.wB at this;simpa using this
  have wc:IntKind.u32.wrap wt=wt:=IntWalk.u32_in _ (by omega)
  clear h3 h4 HE hk HC
  go_wp2_with fail
  have HLW:=Lib.hid (show bx+1<w6.heap.size from lt_of_cell r0)
  have hleb:w.heap.size≤bx:=Nat.le_of_eq HBX.out
  refine (A3.out w6 (HIN.out.later HB6.out)).mono ?_;rintro e wq1 ⟨bg,a1,ba,bf,dg,dt,da,df,rfl,hO,hb1⟩
  have hbb:=hb1
  have q:=uc5 ((pc5 c0 fc0 c1 fc1 c2 fc2 c3 fc3 c4 fc4).later hb1)
  clear c0 fc0 c1 fc1 c2 fc2 c3 fc3 c4 fc4
  obtain ⟨c0,fc0,c1,fc1,c2,fc2,c3,fc3,c4,fc4⟩:=q
  have q:=uc5 ((pc5 r0 fr0 r1 fr1 r2 fr2 r3 fr3 r4 fr4).later hb1)
  clear r0 fr0 r1 fr1 r2 fr2 r3 fr3 r4 fr4
  obtain ⟨r0,fr0,r1,fr1,r2,fr2,r3,fr3,r4,fr4⟩:=q
  have Qc:=Lib.hid (cs5 (.slice (some ⟨bg,0,none⟩) n dg) (.int .u64 r.cr) (.slice a1 m dt) (.slice (some ⟨ba,0,none⟩) n da) (.slice (some ⟨bf,0,none⟩) n df) (pc5 c0 fc0 c1 fc1 c2 fc2 c3 fc3 c4 fc4))
  have Qr:=Lib.hid (co5 (b:=bx) (.slice (some ⟨bg,0,none⟩) n dg) (.int .u64 r.cr) (.slice a1 m dt) (.slice (some ⟨ba,0,none⟩) n da) (.slice (some ⟨bf,0,none⟩) n df) (pc5 r0 fr0 r1 fr1 r2 fr2 r3 fr3 r4 fr4) (by first | (simp;done) | (simp;omega) | omega))
  have hlow:bx<w6.heap.size:=by have:=HLW.out;omega
  have HO1:=Lib.hid (show ROwn w6.heap.size (((((wq1.setCell ⟨bx,0,none⟩ (.slice (some ⟨bg,0,none⟩) n dg)).setCell ⟨bx,1,none⟩ (.int .u64 r.cr)).setCell ⟨bx,2,none⟩ (.slice a1 m dt)).setCell ⟨bx,3,none⟩ (.slice (some ⟨ba,0,none⟩) n da)).setCell ⟨bx,4,none⟩ (.slice (some ⟨bf,0,none⟩) n df)) bg a1 ba bf dg dt da df n m r from ((((hO.low (a:=⟨bx,0,none⟩) hlow _).low (a:=⟨bx,1,none⟩) hlow _).low (a:=⟨bx,2,none⟩) hlow _).low (a:=⟨bx,3,none⟩) hlow _).low (a:=⟨bx,4,none⟩) hlow _)
  have HB1:=Lib.hid (show Below w.heap.size w (((((wq1.setCell ⟨bx,0,none⟩ (.slice (some ⟨bg,0,none⟩) n dg)).setCell ⟨bx,1,none⟩ (.int .u64 r.cr)).setCell ⟨bx,2,none⟩ (.slice a1 m dt)).setCell ⟨bx,3,none⟩ (.slice (some ⟨ba,0,none⟩) n da)).setCell ⟨bx,4,none⟩ (.slice (some ⟨bf,0,none⟩) n df)) from ((((((Below.step HB6.out hbb).setCell hleb _).setCell hleb _).setCell hleb _).setCell hleb _).setCell hleb _))
  have HS1:=Lib.hid (show w6.heap.size≤(((((wq1.setCell ⟨bx,0,none⟩ (.slice (some ⟨bg,0,none⟩) n dg)).setCell ⟨bx,1,none⟩ (.int .u64 r.cr)).setCell ⟨bx,2,none⟩ (.slice a1 m dt)).setCell ⟨bx,3,none⟩ (.slice (some ⟨ba,0,none⟩) n da)).setCell ⟨bx,4,none⟩ (.slice (some ⟨bf,0,none⟩) n df)).heap.size by simp only [World.size_setCell];exact hbb.size)
  clear hO hb1 hbb hlow
  go_upto_region 5 with fail
  clear c0 fc0 c1 fc1 c2 fc2 c3 fc3 c4 fc4 r0 fr0 r1 fr1 r2 fr2 r3 fr3 r4 fr4
  generalize hW:(((((wq1.setCell ⟨bx,0,none⟩ (.slice (some ⟨bg,0,none⟩) n dg)).setCell ⟨bx,1,none⟩ (.int .u64 r.cr)).setCell ⟨bx,2,none⟩ (.slice a1 m dt)).setCell ⟨bx,3,none⟩ (.slice (some ⟨ba,0,none⟩) n da)).setCell ⟨bx,4,none⟩ (.slice (some ⟨bf,0,none⟩) n df))=W1 at *
  clear hW
  obtain ⟨c0,fc0,c1,fc1,c2,fc2,c3,fc3,c4,fc4⟩:=uc5 Qc.out
  obtain ⟨r0,fr0,r1,fr1,r2,fr2,r3,fr3,r4,fr4⟩:=uc5 Qr.out
  clear Qc Qr
  obtain ⟨b,off,rfl,y0,y1,y2,y3,y4⟩:=(HO1.out.rin HL.out.toRLen).task HL.out.toRLen h2
  obtain rfl:off=0:=by
   obtain ⟨g',c',e'⟩:=own_pos HO1.out.t (by omega)
   simp only [Value.slice.injEq,Option.some.injEq,Addr.mk.injEq] at e'
   exact e'.1.2.1
  rw [Nat.zero_add] at y0 y1 y2 y3 y4
  have z2:=HO1.out.t.frozenAt (k*5+2)
  have z3:=HO1.out.t.frozenAt (k*5+3)
  have z4:=HO1.out.t.frozenAt (k*5+4)
  obtain ⟨tv,htv⟩:∃ v,v=r.T[k]!.2.2.1:=⟨_,rfl⟩
  rw [← htv] at y2 HE2
  have HO2:=Lib.hid ((HO1.out.setT HL.out.toRLen h2 (tv,0,wt)).later (Below.refl _ _).drew)
  clear htv y0 y1
  go_region
  have hge:=(HO1.out.t.lt b rfl).1
  have nb:bx∉[b]:=by have:=HLW.out;simp;omega
  have nr:bx+1∉[b]:=by have:=HLW.out;simp;omega
  have hle1:w.heap.size≤b:=by have:=HB6.out.size;omega
  have hk:Kept [b] W1 ((((W1.setCell ⟨b,k*5+2,none⟩ (.int .u64 tv)).setCell ⟨b,k*5+3,none⟩ (.int .u32 0)).setCell ⟨b,k*5+4,none⟩ (.int .u32 wt)).drew):=((((Kept.refl [b] W1).setCell (p:=⟨b,k*5+2,none⟩) (Or.inl (by simp)) _).setCell (p:=⟨b,k*5+3,none⟩) (Or.inl (by simp)) _).setCell (p:=⟨b,k*5+4,none⟩) (Or.inl (by simp)) _).drew
  have HB2:=Lib.hid (show Below w.heap.size w ((((W1.setCell ⟨b,k*5+2,none⟩ (.int .u64 tv)).setCell ⟨b,k*5+3,none⟩ (.int .u32 0)).setCell ⟨b,k*5+4,none⟩ (.int .u32 wt)).drew) from (((HB1.out.setCell hle1 _).setCell hle1 _).setCell hle1 _).drew)
  replace fc0:=hk.frz fc0 (lt_of_cell c0) nb
  replace c0:=hk.cellAt c0 nb
  replace fc1:=hk.frz fc1 (lt_of_cell c1) nb
  replace c1:=hk.cellAt c1 nb
  replace fc2:=hk.frz fc2 (lt_of_cell c2) nb
  replace c2:=hk.cellAt c2 nb
  replace fc3:=hk.frz fc3 (lt_of_cell c3) nb
  replace c3:=hk.cellAt c3 nb
  replace fc4:=hk.frz fc4 (lt_of_cell c4) nb
  replace c4:=hk.cellAt c4 nb
  replace fr0:=hk.frz fr0 (lt_of_cell r0) nr
  replace r0:=hk.cellAt r0 nr
  replace fr1:=hk.frz fr1 (lt_of_cell r1) nr
  replace r1:=hk.cellAt r1 nr
  replace fr2:=hk.frz fr2 (lt_of_cell r2) nr
  replace r2:=hk.cellAt r2 nr
  replace fr3:=hk.frz fr3 (lt_of_cell r3) nr
  replace r3:=hk.cellAt r3 nr
  replace fr4:=hk.frz fr4 (lt_of_cell r4) nr
  replace r4:=hk.cellAt r4 nr
  generalize ((((W1.setCell ⟨b,k*5+2,none⟩ (.int .u64 tv)).setCell ⟨b,k*5+3,none⟩ (.int .u32 0)).setCell ⟨b,k*5+4,none⟩ (.int .u32 wt)).drew)=W2 at *
  clear hk nb nr y2 y3 y4 z2 z3 z4
  go_wp2_with fail
  refine bodyPost_ret (v:=.tuple #[.agg #[.slice (some ⟨bg,0,none⟩) n dg,.int .u64 r.cr,.slice (some ⟨b,0,none⟩) m dt,.slice (some ⟨ba,0,none⟩) n da,.slice (some ⟨bf,0,none⟩) n df],.int .i64 0]) (by simp [results,Tryz.results65,go_sem, *]) rfl ?_
  rw [HE2.out]
  have hlow:bx+1<w6.heap.size:=HLW.out
  have hO:=HO2.out
  have hL2:RLen { r with T:=r.T.set k (r.T[k]!.1,r.T[k]!.2.1,(tv,0,wt)) } n m:=⟨HL.out.g,by rw [List.length_set];exact HL.out.t,HL.out.a,HL.out.f,HL.out.right,HL.out.few⟩
  exact ResP.own (val:=tup2 0) (ROwn.toBase (((((hO.low (a:=⟨bx+1,0,none⟩) hlow _).low (a:=⟨bx+1,1,none⟩) hlow _).low (a:=⟨bx+1,2,none⟩) hlow _).low (a:=⟨bx+1,3,none⟩) hlow _).low (a:=⟨bx+1,4,none⟩) hlow _) HB6.out.size) hL2 (((((HB2.out.setCell hle _).setCell hle _).setCell hle _).setCell hle _).setCell hle _)
 ·have z0:(c != 0)=true:=by simpa using hc0
  have z1:¬ c=0:=hc0
  have HC0:=Lib.hid hc0
  clear hc0
  go_wp2_with fail
  refine bodyPost_ret (v:=.tuple #[.agg #[.slice ag n cg,.int .u64 r.cr,.slice at' m ct,.slice aa n ca,.slice af n cf],.int .i64 c]) (by simp [results,Tryz.results65,go_sem, *]) rfl ?_
  exact HF.out _ HC0.out (((((HB6.out.setCell hle _).setCell hle _).setCell hle _).setCell hle _).setCell hle _)
def regRC (n:Nat) (g wt:Int):Int:=if 1≤g∧g<(n:Int)∧1≤wt∧wt≤65536 then 0 else 2
def regRS (r:RSt) (n:Nat) (g wt:Int):RSt:=if regRC n g wt=0 then { r with Gs:=setW r.Gs g.toNat wt,A:=r.A.set g.toNat ((r.A[g.toNat]!).1,0,wt) } else r
set_option maxRecDepth 100000 in
set_option maxHeartbeats 4000000 in
theorem tRegroup_at (r:RSt) (n m:Nat) (hl:ROk r n m) (g wt:Int) (hw:-9223372036854775808≤wt∧wt≤9223372036854775807) (a:RAd) (w:World) (hin:RIn w a.ag a.at' a.aa a.af a.cg a.ct a.ca a.cf n m r) :
  Calls Tryz.prog 66 #[.agg #[.slice a.ag n a.cg,.int .u64 r.cr,.slice a.at' m a.ct,.slice a.aa n a.ca,.slice a.af n a.cf],.int .i64 g,.int .i64 wt] w (ResP w a r n m (regRS r n g wt) (tup2 (regRC n g wt))):=by
 have HL:=Lib.hid hl
 have HIN:=Lib.hid hin
 have A1:=Lib.hid fun W=>rWeight_any wt W
 have A3:=Lib.hid fun W (q:RIn W a.ag a.at' a.aa a.af a.cg a.ct a.ca a.cf n m r)=>tcopied_at r n m hl.toRLen a.ag a.at' a.aa a.af a.cg a.ct a.ca a.cf W q
 have HF:=Lib.hid (show ∀ W,regRC n g wt=2→Below w.heap.size w W→ResP w a r n m (regRS r n g wt) (tup2 (regRC n g wt)) (.returned (tup2 2 (a.val n m r.cr))) W from fun W h hb=>by
  unfold regRS
  rw [h,if_neg (by decide)]
  exact ResP.same (val:=tup2 2) hl.t hb)
 have HE:=Lib.hid (show regRC n g wt=0→regRS r n g wt={ r with Gs:=setW r.Gs g.toNat wt,A:=r.A.set g.toNat ((r.A[g.toNat]!).1,0,wt) } from fun h=>by unfold regRS;rw [if_pos h])
 have HCD:=Lib.hid (show regRC n g wt=if 1≤g∧g<(n:Int)∧1≤wt∧wt≤65536 then 0 else 2 from rfl)
 obtain ⟨ag,at',aa,af,cg,ct,ca,cf⟩:=a
 dsimp only at A3 HIN ⊢
 have hn:=hl.pos
 clear hin hl
 generalize hC:regRC n g wt=c at *
 clear hC
 by_cases h1:g<1
 ·have HC0:=Lib.hid (show c=2 by rw [HCD.out,if_neg (by omega)])
  have z1:decide (g<1)=true:=decide_eq_true h1
  clear h1
  obtain ⟨W0,hW0⟩:∃ W0,W0=((w.alloc (.cells #[.slice ag n cg,.int .u64 r.cr,.slice at' m ct,.slice aa n ca,.slice af n cf] 74)).alloc (.cells #[.slice none 0 0,.int .u64 0,.slice none 0 0,.slice none 0 0,.slice none 0 0] 74)):=⟨_,rfl⟩
  have HB0:=Lib.hid (show Below w.heap.size w W0 by rw [hW0];exact (Below.allocS (Below.allocS (Below.refl _ _) _) _))
  obtain ⟨c0,fc0,c1,fc1,c2,fc2,c3,fc3,c4,fc4⟩:=uc5 (show CellsF W0 (w.heap.size) [.slice ag n cg,.int .u64 r.cr,.slice at' m ct,.slice aa n ca,.slice af n cf] by rw [hW0];exact (CellsF.new (by simp)).later (below_a _ _))
  obtain ⟨r0,fr0,r1,fr1,r2,fr2,r3,fr3,r4,fr4⟩:=uc5 (show CellsF W0 (w.heap.size+1) [.slice none 0 0,.int .u64 0,.slice none 0 0,.slice none 0 0,.slice none 0 0] by rw [hW0];exact CellsF.new (by simp))
  have HSZ:=Lib.hid (show W0.heap.size=w.heap.size+1+1 by rw [hW0];simp)
  have HW0:=Lib.hid hW0
  clear hW0
  go_enter Tryz.func66,Tryz.ntmps66
  go_upto_region 1 with fail
  rw [← HW0.out]
  generalize hbx:w.heap.size=bx at c0 c1 c2 c3 c4 r0 r1 r2 r3 r4 fc0 fc1 fc2 fc3 fc4 fr0 fr1 fr2 fr3 fr4 HSZ  ⊢
  have HBX:=Lib.hid hbx
  clear hbx HW0
  have hle:w.heap.size≤bx+1:=by have:=HBX.out;omega
  go_wp2_with fail
  refine bodyPost_ret (v:=.tuple #[.agg #[.slice ag n cg,.int .u64 r.cr,.slice at' m ct,.slice aa n ca,.slice af n cf],.int .i64 2]) (by simp [results,Tryz.results66,go_sem, *]) rfl ?_
  exact HF.out _ HC0.out (((((HB0.out.setCell hle _).setCell hle _).setCell hle _).setCell hle _).setCell hle _)
 have z1:decide (g<1)=false:=decide_eq_false h1
 obtain ⟨k,rfl⟩:∃ k:Nat,g=k:=⟨g.toNat,by omega⟩
 by_cases h2:n≤k
 ·have HC0:=Lib.hid (show c=2 by rw [HCD.out,if_neg (by omega)])
  have z2:decide ((k:Int) ≥ (n:Int))=true:=decide_eq_true (by omega)
  have z3:decide (n≤k)=true:=decide_eq_true h2
  have z4:(n:Int)≤(k:Int):=by omega
  clear h1 h2
  obtain ⟨W0,hW0⟩:∃ W0,W0=((w.alloc (.cells #[.slice ag n cg,.int .u64 r.cr,.slice at' m ct,.slice aa n ca,.slice af n cf] 74)).alloc (.cells #[.slice none 0 0,.int .u64 0,.slice none 0 0,.slice none 0 0,.slice none 0 0] 74)):=⟨_,rfl⟩
  have HB0:=Lib.hid (show Below w.heap.size w W0 by rw [hW0];exact (Below.allocS (Below.allocS (Below.refl _ _) _) _))
  obtain ⟨c0,fc0,c1,fc1,c2,fc2,c3,fc3,c4,fc4⟩:=uc5 (show CellsF W0 (w.heap.size) [.slice ag n cg,.int .u64 r.cr,.slice at' m ct,.slice aa n ca,.slice af n cf] by rw [hW0];exact (CellsF.new (by simp)).later (below_a _ _))
  obtain ⟨r0,fr0,r1,fr1,r2,fr2,r3,fr3,r4,fr4⟩:=uc5 (show CellsF W0 (w.heap.size+1) [.slice none 0 0,.int .u64 0,.slice none 0 0,.slice none 0 0,.slice none 0 0] by rw [hW0];exact CellsF.new (by simp))
  have HSZ:=Lib.hid (show W0.heap.size=w.heap.size+1+1 by rw [hW0];simp)
  have HW0:=Lib.hid hW0
  clear hW0
  go_enter Tryz.func66,Tryz.ntmps66
  go_upto_region 1 with fail
  rw [← HW0.out]
  generalize hbx:w.heap.size=bx at c0 c1 c2 c3 c4 r0 r1 r2 r3 r4 fc0 fc1 fc2 fc3 fc4 fr0 fr1 fr2 fr3 fr4 HSZ  ⊢
  have HBX:=Lib.hid hbx
  clear hbx HW0
  have hle:w.heap.size≤bx+1:=by have:=HBX.out;omega
  go_wp2_with fail
  refine bodyPost_ret (v:=.tuple #[.agg #[.slice ag n cg,.int .u64 r.cr,.slice at' m ct,.slice aa n ca,.slice af n cf],.int .i64 2]) (by simp [results,Tryz.results66,go_sem, *]) rfl ?_
  exact HF.out _ HC0.out (((((HB0.out.setCell hle _).setCell hle _).setCell hle _).setCell hle _).setCell hle _)
 have z2:decide ((k:Int) ≥ (n:Int))=false:=decide_eq_false (by omega)
 have z3:decide (n≤k)=false:=decide_eq_false h2
 have z4:¬ (n:Int)≤(k:Int):=by omega
 have z5:¬ n≤k:=h2
 have hkn:k<n:=by omega
 have hk1:0<k:=by omega
 clear h1 h2
 by_cases h3:1≤wt∧wt≤65536
 ·have HC0:=Lib.hid (show c=0 by rw [HCD.out,if_pos (by omega)])
  have HE2:=Lib.hid (HE.out HC0.out)
  rw [Int.toNat_natCast] at HE2
  have hb:Ch.wB wt=true:=by unfold Ch.wB;simpa using h3
  rw [hb] at A1
  have wc:IntKind.u32.wrap wt=wt:=IntWalk.u32_in _ (by omega)
  have hki:(k:Int)<(n:Int):=by omega
  have hk0:(0:Int)≤(k:Int):=by omega
  have HWT:=Lib.hid h3
  clear hb h3 HE HF
  obtain ⟨W0,hW0⟩:∃ W0,W0=((w.alloc (.cells #[.slice ag n cg,.int .u64 r.cr,.slice at' m ct,.slice aa n ca,.slice af n cf] 74)).alloc (.cells #[.slice none 0 0,.int .u64 0,.slice none 0 0,.slice none 0 0,.slice none 0 0] 74)):=⟨_,rfl⟩
  have HB0:=Lib.hid (show Below w.heap.size w W0 by rw [hW0];exact (Below.allocS (Below.allocS (Below.refl _ _) _) _))
  obtain ⟨c0,fc0,c1,fc1,c2,fc2,c3,fc3,c4,fc4⟩:=uc5 (show CellsF W0 (w.heap.size) [.slice ag n cg,.int .u64 r.cr,.slice at' m ct,.slice aa n ca,.slice af n cf] by rw [hW0];exact (CellsF.new (by simp)).later (below_a _ _))
  obtain ⟨r0,fr0,r1,fr1,r2,fr2,r3,fr3,r4,fr4⟩:=uc5 (show CellsF W0 (w.heap.size+1) [.slice none 0 0,.int .u64 0,.slice none 0 0,.slice none 0 0,.slice none 0 0] by rw [hW0];exact CellsF.new (by simp))
  have HSZ:=Lib.hid (show W0.heap.size=w.heap.size+1+1 by rw [hW0];simp)
  have HW0:=Lib.hid hW0
  clear hW0
  go_enter Tryz.func66,Tryz.ntmps66
  go_upto_region 1 with fail
  rw [← HW0.out]
  generalize hbx:w.heap.size=bx at c0 c1 c2 c3 c4 r0 r1 r2 r3 r4 fc0 fc1 fc2 fc3 fc4 fr0 fr1 fr2 fr3 fr4 HSZ  ⊢
  have HBX:=Lib.hid hbx
  clear hbx HW0
  have hle:w.heap.size≤bx+1:=by have:=HBX.out;omega
  go_wp2_with fail
  refine (A1.out W0).mono ?_;clear A1;rintro e w6 ⟨rfl,rfl⟩
  go_wp2_with fail
  have HLW:=Lib.hid (show bx+1<W0.heap.size from lt_of_cell r0)
  have hleb:w.heap.size≤bx:=Nat.le_of_eq HBX.out
  refine (A3.out W0 (HIN.out.later HB0.out)).mono ?_;rintro e wq1 ⟨bg,a1,ba,bf,dg,dt,da,df,rfl,hO,hb1⟩
  have hbb:=hb1
  have q:=uc5 ((pc5 c0 fc0 c1 fc1 c2 fc2 c3 fc3 c4 fc4).later hb1)
  clear c0 fc0 c1 fc1 c2 fc2 c3 fc3 c4 fc4
  obtain ⟨c0,fc0,c1,fc1,c2,fc2,c3,fc3,c4,fc4⟩:=q
  have q:=uc5 ((pc5 r0 fr0 r1 fr1 r2 fr2 r3 fr3 r4 fr4).later hb1)
  clear r0 fr0 r1 fr1 r2 fr2 r3 fr3 r4 fr4
  obtain ⟨r0,fr0,r1,fr1,r2,fr2,r3,fr3,r4,fr4⟩:=q
  have Qc:=Lib.hid (cs5 (.slice (some ⟨bg,0,none⟩) n dg) (.int .u64 r.cr) (.slice a1 m dt) (.slice (some ⟨ba,0,none⟩) n da) (.slice (some ⟨bf,0,none⟩) n df) (pc5 c0 fc0 c1 fc1 c2 fc2 c3 fc3 c4 fc4))
  have Qr:=Lib.hid (co5 (b:=bx) (.slice (some ⟨bg,0,none⟩) n dg) (.int .u64 r.cr) (.slice a1 m dt) (.slice (some ⟨ba,0,none⟩) n da) (.slice (some ⟨bf,0,none⟩) n df) (pc5 r0 fr0 r1 fr1 r2 fr2 r3 fr3 r4 fr4) (by first | (simp;done) | (simp;omega) | omega))
  have hlow:bx<W0.heap.size:=by have:=HLW.out;omega
  have HO1:=Lib.hid (show ROwn W0.heap.size (((((wq1.setCell ⟨bx,0,none⟩ (.slice (some ⟨bg,0,none⟩) n dg)).setCell ⟨bx,1,none⟩ (.int .u64 r.cr)).setCell ⟨bx,2,none⟩ (.slice a1 m dt)).setCell ⟨bx,3,none⟩ (.slice (some ⟨ba,0,none⟩) n da)).setCell ⟨bx,4,none⟩ (.slice (some ⟨bf,0,none⟩) n df)) bg a1 ba bf dg dt da df n m r from ((((hO.low (a:=⟨bx,0,none⟩) hlow _).low (a:=⟨bx,1,none⟩) hlow _).low (a:=⟨bx,2,none⟩) hlow _).low (a:=⟨bx,3,none⟩) hlow _).low (a:=⟨bx,4,none⟩) hlow _)
  have HB1:=Lib.hid (show Below w.heap.size w (((((wq1.setCell ⟨bx,0,none⟩ (.slice (some ⟨bg,0,none⟩) n dg)).setCell ⟨bx,1,none⟩ (.int .u64 r.cr)).setCell ⟨bx,2,none⟩ (.slice a1 m dt)).setCell ⟨bx,3,none⟩ (.slice (some ⟨ba,0,none⟩) n da)).setCell ⟨bx,4,none⟩ (.slice (some ⟨bf,0,none⟩) n df)) from ((((((Below.step HB0.out hbb).setCell hleb _).setCell hleb _).setCell hleb _).setCell hleb _).setCell hleb _))
  have HS1:=Lib.hid (show W0.heap.size≤(((((wq1.setCell ⟨bx,0,none⟩ (.slice (some ⟨bg,0,none⟩) n dg)).setCell ⟨bx,1,none⟩ (.int .u64 r.cr)).setCell ⟨bx,2,none⟩ (.slice a1 m dt)).setCell ⟨bx,3,none⟩ (.slice (some ⟨ba,0,none⟩) n da)).setCell ⟨bx,4,none⟩ (.slice (some ⟨bf,0,none⟩) n df)).heap.size by simp only [World.size_setCell];exact hbb.size)
  clear hO hb1 hbb hlow
  go_upto_region 4 with fail
  clear c0 fc0 c1 fc1 c2 fc2 c3 fc3 c4 fc4 r0 fr0 r1 fr1 r2 fr2 r3 fr3 r4 fr4
  generalize hW:(((((wq1.setCell ⟨bx,0,none⟩ (.slice (some ⟨bg,0,none⟩) n dg)).setCell ⟨bx,1,none⟩ (.int .u64 r.cr)).setCell ⟨bx,2,none⟩ (.slice a1 m dt)).setCell ⟨bx,3,none⟩ (.slice (some ⟨ba,0,none⟩) n da)).setCell ⟨bx,4,none⟩ (.slice (some ⟨bf,0,none⟩) n df))=W1 at *
  clear hW
  obtain ⟨c0,fc0,c1,fc1,c2,fc2,c3,fc3,c4,fc4⟩:=uc5 Qc.out
  obtain ⟨r0,fr0,r1,fr1,r2,fr2,r3,fr3,r4,fr4⟩:=uc5 Qr.out
  clear Qc Qr
  obtain ⟨b1,o1,haa,u0,u1,u2⟩:=(HO1.out.rin HL.out.toRLen).spot HL.out.toRLen hkn
  cases haa
  rw [Nat.zero_add] at u0 u1 u2
  obtain ⟨b0,o0,hag,y9,y8⟩:=(HO1.out.rin HL.out.toRLen).grp HL.out.toRLen hkn
  cases hag
  rw [Nat.zero_add] at y9 y8
  have zg:=HO1.out.g.frozenAt (k*2+1)
  have z6:=HO1.out.a.frozenAt (k*3)
  have z7:=HO1.out.a.frozenAt (k*3+1)
  have z8:=HO1.out.a.frozenAt (k*3+2)
  have hng:=HO1.out.neGA
  obtain ⟨sv,hsv⟩:∃ v,v=r.A[k]!.1:=⟨_,rfl⟩
  rw [← hsv] at u0 HE2
  have hRG:RightG (setW r.Gs k wt):=HL.out.right.setW (by rw [HL.out.g];exact hkn) hk1 HWT.out
  have hL3:RLen { r with Gs:=setW r.Gs k wt } n m:=⟨by show (setW r.Gs k wt).length=n;rw [setW_len];exact HL.out.g,HL.out.t,HL.out.a,HL.out.f,hRG,HL.out.few⟩
  have HL3:=Lib.hid hL3
  clear hsv y9 hRG hL3
  have hgb:=HO1.out.ge
  have hbl:=HLW.out
  have nbg:bx∉[bg]∧bx+1∉[bg]∧ba∉[bg]:=by simp;omega
  have nba:bx∉[ba]∧bx+1∉[ba]:=by simp;omega
  have hleg:w.heap.size≤bg:=by have:=HB0.out.size;omega
  have hlea:w.heap.size≤ba:=by have:=HB0.out.size;omega
  go_wp2_with fail
  have hk:Kept [bg] W1 (W1.setCell ⟨bg,k*2+1,none⟩ (.int .i64 wt)):=(Kept.refl [bg] W1).setCell (p:=⟨bg,k*2+1,none⟩) (Or.inl (by simp)) _
  have HO2:=Lib.hid (show ROwn W0.heap.size (W1.setCell ⟨bg,k*2+1,none⟩ (.int .i64 wt)) bg a1 ba bf dg dt da df n m { r with Gs:=setW r.Gs k wt } from HO1.out.setW HL.out.toRLen hkn wt)
  have HB2:=Lib.hid (show Below w.heap.size w (W1.setCell ⟨bg,k*2+1,none⟩ (.int .i64 wt)) from HB1.out.setCell hleg _)
  replace fc0:=hk.frz fc0 (lt_of_cell c0) nbg.1
  replace c0:=hk.cellAt c0 nbg.1
  replace fc1:=hk.frz fc1 (lt_of_cell c1) nbg.1
  replace c1:=hk.cellAt c1 nbg.1
  replace fc2:=hk.frz fc2 (lt_of_cell c2) nbg.1
  replace c2:=hk.cellAt c2 nbg.1
  replace fc3:=hk.frz fc3 (lt_of_cell c3) nbg.1
  replace c3:=hk.cellAt c3 nbg.1
  replace fc4:=hk.frz fc4 (lt_of_cell c4) nbg.1
  replace c4:=hk.cellAt c4 nbg.1
  replace fr0:=hk.frz fr0 (lt_of_cell r0) nbg.2.1
  replace r0:=hk.cellAt r0 nbg.2.1
  replace fr1:=hk.frz fr1 (lt_of_cell r1) nbg.2.1
  replace r1:=hk.cellAt r1 nbg.2.1
  replace fr2:=hk.frz fr2 (lt_of_cell r2) nbg.2.1
  replace r2:=hk.cellAt r2 nbg.2.1
  replace fr3:=hk.frz fr3 (lt_of_cell r3) nbg.2.1
  replace r3:=hk.cellAt r3 nbg.2.1
  replace fr4:=hk.frz fr4 (lt_of_cell r4) nbg.2.1
  replace r4:=hk.cellAt r4 nbg.2.1
  replace z6:=hk.frz z6 (lt_of_cell u0) nbg.2.2
  replace u0:=hk.cellAt u0 nbg.2.2
  replace z7:=hk.frz z7 (lt_of_cell u1) nbg.2.2
  replace u1:=hk.cellAt u1 nbg.2.2
  replace z8:=hk.frz z8 (lt_of_cell u2) nbg.2.2
  replace u2:=hk.cellAt u2 nbg.2.2
  generalize (W1.setCell ⟨bg,k*2+1,none⟩ (.int .i64 wt))=W2 at *
  clear hk zg y8
  go_region
  have hk:Kept [ba] W2 ((((W2.setCell ⟨ba,k*3,none⟩ (.int .u64 sv)).setCell ⟨ba,k*3+1,none⟩ (.int .u32 0)).setCell ⟨ba,k*3+2,none⟩ (.int .u32 wt)).drew):=((((Kept.refl [ba] W2).setCell (p:=⟨ba,k*3,none⟩) (Or.inl (by simp)) _).setCell (p:=⟨ba,k*3+1,none⟩) (Or.inl (by simp)) _).setCell (p:=⟨ba,k*3+2,none⟩) (Or.inl (by simp)) _).drew
  have HO3:=Lib.hid (show ROwn W0.heap.size ((((W2.setCell ⟨ba,k*3,none⟩ (.int .u64 sv)).setCell ⟨ba,k*3+1,none⟩ (.int .u32 0)).setCell ⟨ba,k*3+2,none⟩ (.int .u32 wt)).drew) bg a1 ba bf dg dt da df n m { r with Gs:=setW r.Gs k wt,A:=r.A.set k (sv,0,wt) } from (HO2.out.setA HL3.out hkn (sv,0,wt)).later (Below.refl _ _).drew)
  have HB3:=Lib.hid (show Below w.heap.size w ((((W2.setCell ⟨ba,k*3,none⟩ (.int .u64 sv)).setCell ⟨ba,k*3+1,none⟩ (.int .u32 0)).setCell ⟨ba,k*3+2,none⟩ (.int .u32 wt)).drew) from (((HB2.out.setCell hlea _).setCell hlea _).setCell hlea _).drew)
  replace fc0:=hk.frz fc0 (lt_of_cell c0) nba.1
  replace c0:=hk.cellAt c0 nba.1
  replace fc1:=hk.frz fc1 (lt_of_cell c1) nba.1
  replace c1:=hk.cellAt c1 nba.1
  replace fc2:=hk.frz fc2 (lt_of_cell c2) nba.1
  replace c2:=hk.cellAt c2 nba.1
  replace fc3:=hk.frz fc3 (lt_of_cell c3) nba.1
  replace c3:=hk.cellAt c3 nba.1
  replace fc4:=hk.frz fc4 (lt_of_cell c4) nba.1
  replace c4:=hk.cellAt c4 nba.1
  replace fr0:=hk.frz fr0 (lt_of_cell r0) nba.2
  replace r0:=hk.cellAt r0 nba.2
  replace fr1:=hk.frz fr1 (lt_of_cell r1) nba.2
  replace r1:=hk.cellAt r1 nba.2
  replace fr2:=hk.frz fr2 (lt_of_cell r2) nba.2
  replace r2:=hk.cellAt r2 nba.2
  replace fr3:=hk.frz fr3 (lt_of_cell r3) nba.2
  replace r3:=hk.cellAt r3 nba.2
  replace fr4:=hk.frz fr4 (lt_of_cell r4) nba.2
  replace r4:=hk.cellAt r4 nba.2
  generalize ((((W2.setCell ⟨ba,k*3,none⟩ (.int .u64 sv)).setCell ⟨ba,k*3+1,none⟩ (.int .u32 0)).setCell ⟨ba,k*3+2,none⟩ (.int .u32 wt)).drew)=W3 at *
  have HLL:=Lib.hid hbl
  clear hk nba nbg u0 u1 u2 z6 z7 z8 hgb hng hbl
  go_wp2_with fail
  refine bodyPost_ret (v:=.tuple #[.agg #[.slice (some ⟨bg,0,none⟩) n dg,.int .u64 r.cr,.slice a1 m dt,.slice (some ⟨ba,0,none⟩) n da,.slice (some ⟨bf,0,none⟩) n df],.int .i64 0]) (by simp [results,Tryz.results66,go_sem, *]) rfl ?_
  rw [HE2.out,HC0.out]
  have hlow:bx+1<W0.heap.size:=HLL.out
  have hO:=HO3.out
  have hL4:RLen { r with Gs:=setW r.Gs k wt,A:=r.A.set k (sv,0,wt) } n m:=⟨HL3.out.g,HL.out.t,by rw [List.length_set];exact HL.out.a,HL.out.f,HL3.out.right,HL.out.few⟩
  exact ResP.own (val:=tup2 0) (ROwn.toBase (((((hO.low (a:=⟨bx+1,0,none⟩) hlow _).low (a:=⟨bx+1,1,none⟩) hlow _).low (a:=⟨bx+1,2,none⟩) hlow _).low (a:=⟨bx+1,3,none⟩) hlow _).low (a:=⟨bx+1,4,none⟩) hlow _) HB0.out.size) hL4 (((((HB3.out.setCell hle _).setCell hle _).setCell hle _).setCell hle _).setCell hle _)
 ·have HC0:=Lib.hid (show c=2 by rw [HCD.out,if_neg (by omega)])
  have hb:Ch.wB wt=false:=by unfold Ch.wB;simpa using h3
  rw [hb] at A1
  clear hb h3
  obtain ⟨W0,hW0⟩:∃ W0,W0=((w.alloc (.cells #[.slice ag n cg,.int .u64 r.cr,.slice at' m ct,.slice aa n ca,.slice af n cf] 74)).alloc (.cells #[.slice none 0 0,.int .u64 0,.slice none 0 0,.slice none 0 0,.slice none 0 0] 74)):=⟨_,rfl⟩
  have HB0:=Lib.hid (show Below w.heap.size w W0 by rw [hW0];exact (Below.allocS (Below.allocS (Below.refl _ _) _) _))
  obtain ⟨c0,fc0,c1,fc1,c2,fc2,c3,fc3,c4,fc4⟩:=uc5 (show CellsF W0 (w.heap.size) [.slice ag n cg,.int .u64 r.cr,.slice at' m ct,.slice aa n ca,.slice af n cf] by rw [hW0];exact (CellsF.new (by simp)).later (below_a _ _))
  obtain ⟨r0,fr0,r1,fr1,r2,fr2,r3,fr3,r4,fr4⟩:=uc5 (show CellsF W0 (w.heap.size+1) [.slice none 0 0,.int .u64 0,.slice none 0 0,.slice none 0 0,.slice none 0 0] by rw [hW0];exact CellsF.new (by simp))
  have HSZ:=Lib.hid (show W0.heap.size=w.heap.size+1+1 by rw [hW0];simp)
  have HW0:=Lib.hid hW0
  clear hW0
  go_enter Tryz.func66,Tryz.ntmps66
  go_upto_region 1 with fail
  rw [← HW0.out]
  generalize hbx:w.heap.size=bx at c0 c1 c2 c3 c4 r0 r1 r2 r3 r4 fc0 fc1 fc2 fc3 fc4 fr0 fr1 fr2 fr3 fr4 HSZ  ⊢
  have HBX:=Lib.hid hbx
  clear hbx HW0
  have hle:w.heap.size≤bx+1:=by have:=HBX.out;omega
  go_wp2_with fail
  refine (A1.out W0).mono ?_;clear A1;rintro e w6 ⟨rfl,rfl⟩
  go_wp2_with fail
  refine bodyPost_ret (v:=.tuple #[.agg #[.slice ag n cg,.int .u64 r.cr,.slice at' m ct,.slice aa n ca,.slice af n cf],.int .i64 2]) (by simp [results,Tryz.results66,go_sem, *]) rfl ?_
  exact HF.out _ HC0.out (((((HB0.out.setCell hle _).setCell hle _).setCell hle _).setCell hle _).setCell hle _)
end Go.Proofs.YtfgmglghlapbcaaGreat
