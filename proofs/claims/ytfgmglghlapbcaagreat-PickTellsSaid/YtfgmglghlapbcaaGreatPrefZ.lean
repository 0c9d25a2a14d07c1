/-
  Layer 25 (pick), law.go: same, whole.
-/
import Derived.Test.YtfgmglghlapbcaaGreatPrefY
import Derived.Test.YtfgmglghlapbcaaGreatPkT
namespace Go.Proofs.YtfgmglghlapbcaaGreat
open Go.RowKit Go.Maps Go.IntWalk Go.Lib Go.Sort Go.Shelf
set_option linter.unusedVariables false
set_option linter.unusedSimpArgs false
def eqS (b c d b' c' d':Int):Bool:=decide (b=b'∧c=c'∧d=d')
theorem eqS_same (b c d:Int):eqS b c d b c d=true:=by unfold eqS;simp
theorem eqIn_spot (D:Nat) (w:World) (b c d b' c' d':Int):(Op.equalIn (D+3) 55 (.agg #[.int .u64 b,.int .u32 c,.int .u64 d]) (.agg #[.int .u64 b',.int .u32 c',.int .u64 d'])).run Tryz.prog w=.ok (eqS b c d b' c' d') w:=by
 rw [run_equalIn_agg w (D+2) _ _ _ (by kernel_rfl) (by kernel_rfl)]
 simp [go_sem,Tryz.underlying55]
 unfold eqS
 by_cases h1:b=b' <;> by_cases h2:c=c' <;> by_cases h3:d=d' <;> simp [h1,h2,h3]
@[go_sem] theorem eg_spot:Tryz.prog.eqGuardType Tryz.prog.depth 55=false:=by kernel_rfl
@[go_sem high] theorem run_neq_spot (w:World) (b c d b' c' d':Int):(binOp .neq 55 (.agg #[.int .u64 b,.int .u32 c,.int .u64 d]) (.agg #[.int .u64 b',.int .u32 c',.int .u64 d'])).run Tryz.prog w=.ok (.bool (!(eqS b c d b' c' d'))) w:=by
 rw [run_neq_struct,eqIn_spot 9997]
 rfl
def RowW (w:World) (g:Nat) (L:List Int) (k:Nat):Prop:=∀ j,k≤j→j<L.length→w.cell? ⟨g,j,none⟩=some (.int .i64 L[j]!)∧w.frozen? ⟨g,j,none⟩=false
theorem RowW.own {w:World} {base:Nat} {e:TypeId} {g cap n:Nat} {L:List Int} (h:w.ownsRow base e 1 (.slice (some ⟨g,0,none⟩) n cap) n (intsV L)):RowW w g L 0:=fun j _ hj=>by
 have hl:L.length=n:=by have:=h.1;simpa [intsV] using this
 refine ⟨?_,h.frozenAt _⟩
 rw [h.cellAt j (by omega)]
 simp [intsV,hj,getElem!_pos]
theorem RowW.set {w:World} {g k:Nat} {L:List Int} (h:RowW w g L k) (u:Value):RowW (w.setCell ⟨g,k,none⟩ u) g L (k+1):=fun j h1 h2=>⟨cell_set_ne (h j (by omega) h2).1 (Or.inr (by omega)),by rw [World.frozen?_setCell];exact (h j (by omega) h2).2⟩
theorem RowW.other {w:World} {g g' k i:Nat} {L:List Int} (h:RowW w g L k) (u:Value) (hn:g≠g'):RowW (w.setCell ⟨g',i,none⟩ u) g L k:=fun j h1 h2=>⟨cell_set_ne (h j h1 h2).1 (Or.inl hn),by rw [World.frozen?_setCell];exact (h j h1 h2).2⟩
theorem leadF_len {s:TSt}:∀ (f g:Nat) (ch:List Int),(leadF s f g ch).2.length≤ch.length+f
 | 0,_,_=>by simp [leadF]
 | f+1,g,ch=>by
  unfold leadF
  split
  ·simp
  ·split
   ·simp
   ·have:=leadF_len (s:=s) f (firstI (s.M g) - 65536).toNat (ch++[(g:Int)])
    simp at this
    omega
theorem spot_in {s:TSt} {r:RSt} (h:Twin s r) {k:Nat} (hk:k<s.n):pSpotV s (k:Int)=((r.A[k]!).1,(r.A[k]!).2.1,r.fl[k]!)∧pSpotC s (k:Int)=0:=by
 have hv:hasV (s.n:Int) (k:Int)=true:=decide_eq_true (by omega)
 unfold pSpotV pSpotC
 rw [if_pos hv,if_pos hv,Int.toNat_natCast,h.a k hk,h.f k hk]
 exact ⟨rfl,rfl⟩
theorem spot_out {s:TSt} {g:Int} (hg:¬ (0≤g∧g<(s.n:Int))):pSpotV s g=(0,0,0)∧pSpotC s g=2:=by
 have hv:¬ hasV (s.n:Int) g=true:=fun e=>hg (of_decide_eq_true e)
 unfold pSpotV pSpotC
 rw [if_neg hv,if_neg hv]
 exact ⟨rfl,rfl⟩
theorem wf_small {x:Int} (h:-1≤x∧x≤1000000):(Lit.int .i64 x).wf=true:=by
 simp only [Lit.wf,Bool.and_eq_true,decide_eq_true_eq,IntKind.min,IntKind.max,IntKind.bits,IntKind.signed]
 simp
 omega
set_option maxRecDepth 100000 in
set_option maxHeartbeats 8000000 in
theorem psame_any {t n:Nat} {F:List Nat} {s:TSt} {r:RSt} (a:RAd) (id g:Int) (w:World) (h:TreeIn w t F s) (hb:BothT n s r) (hr:RHeld F w a n r.T.length r) (hid:(Lit.int .i64 id).wf=true) (hg:(Lit.int .i64 g).wf=true) :
  Calls Tryz.prog 31 #[.pointer (some ⟨t,0,none⟩),.agg #[.slice a.ag n a.cg,.int .u64 r.cr,.slice a.at' r.T.length a.ct,.slice a.aa n a.ca,.slice a.af n a.cf],.int .i64 id,.int .i64 g] w fun e w'=>e=.returned (.bool true)∧Below w.heap.size w w':=by
 have ho:=tree_ord h
 have hks:=tree_keys h
 have hro:=hb.tw.rok hb.ok hb.cr
 have hn9:=hb.n
 rw [hn9] at hro
 have HLC:=Lib.hid (len_twin hb.tw.toTwinC hb.ok hks)
 have HLD:=Lib.hid (lead_twin hb.tw.toTwinC hb.ok ho)
 have HTK:=Lib.hid (tasks_twin hb.tw.toTwinC hb.ok ho g)
 have HLO:=Lib.hid (load_twin hb.tw.toTwinC hb.ok)
 have HCH:=Lib.hid (show (leadT s).2.length≤256 by
  have h1:=leadF_len (s:=s) s.n 0 []
  have h2:=hb.ok.core.right.le
  unfold leadT
  unfold TSt.n at h1 ⊢
  simp at h1
  omega)
 have HTL:=Lib.hid (tasksT_most h g)
 have HDN:=Lib.hid hb.ok.down
 rw [hn9] at HLD HTK
 have hcs:=(hr.rin).caps
 have HRN:=Lib.hid hr.rin
 have hpos:=hro.toRLen.pos
 -- what Get and Find say
 obtain ⟨fd,hfd⟩:∃ b:Bool,b=decide (findC s id=0):=⟨_,rfl⟩
 obtain ⟨gx,hgx⟩:∃ x,x=pgetX s id:=⟨_,rfl⟩
 obtain ⟨gg,hgg⟩:∃ x,x=findG s id:=⟨_,rfl⟩
 obtain ⟨fi,hfi⟩:∃ x,x=findT r.T id:=⟨_,rfl⟩
 have HFC:=Lib.hid (show (fd=true∧∃ k,k<r.T.length∧fi=(k:Int)∧gx=r.T[k]!.2.2∧gg=r.T[k]!.2.1)∨(fd=false∧fi=-1∧gx=(0,0,0)∧gg=0) by
  by_cases hC:findC s id=0
  ·obtain ⟨q1,q2,q3,q4⟩:=getX_twin hb.tw.toTwinC hb.ok hC
   exact Or.inl ⟨by rw [hfd,decide_eq_true hC],atT r id,q4,by rw [hfi];exact q3,by rw [hgx];exact q1,by rw [hgg];exact q2⟩
  ·obtain ⟨q1,q2,q3⟩:=getX_none hb.tw.toTwinC hb.ok hC
   exact Or.inr ⟨by rw [hfd,decide_eq_false hC],by rw [hfi];exact q3,by rw [hgx];exact q1,by rw [hgg];exact q2⟩)
 have A1:=Lib.hid (show ∀ W,TreeIn W t F s→Calls Tryz.prog 22 #[.pointer (some ⟨t,0,none⟩),.int .i64 id] W fun e w'=>e=.returned (.tuple #[.agg #[.int .u64 gx.1,.int .u32 gx.2.1,.int .u32 gx.2.2],.int .i64 gg,.bool fd])∧Below W.heap.size W w' from fun W q=>by
  have:=pGet_at id W q hid
  rw [← hgx,← hgg,← hfd] at this
  exact this)
 have A2:=Lib.hid (show ∀ W,RIn W a.ag a.at' a.aa a.af a.cg a.ct a.ca a.cf n r.T.length r→Calls Tryz.prog 68 #[.agg #[.slice a.ag n a.cg,.int .u64 r.cr,.slice a.at' r.T.length a.ct,.slice a.aa n a.ca,.slice a.af n a.cf],.int .i64 id] W fun e w'=>e=.returned (.int .i64 fi)∧Below W.heap.size W w' from fun W q=>by
  have:=tFind_at r n r.T.length hro.toRLen id a.ag a.at' a.aa a.af a.cg a.ct a.ca a.cf W q
  rw [← hfi] at this
  exact this)
 clear hfd hgx hgg hfi
 -- what Spot says
 obtain ⟨sp,hsp⟩:∃ x,x=pSpotV s g:=⟨_,rfl⟩
 obtain ⟨sc,hsc⟩:∃ x,x=pSpotC s g:=⟨_,rfl⟩
 have HSP:=Lib.hid (show (∃ k:Nat,g=(k:Int)∧k<n∧sp=((r.A[k]!).1,(r.A[k]!).2.1,r.fl[k]!)∧sc=0)∨(¬ (0≤g∧g<(n:Int))∧sp=(0,0,0)∧sc=2) by
  by_cases q:0≤g∧g<(n:Int)
  ·obtain ⟨k,rfl⟩:=Int.eq_ofNat_of_zero_le q.1
   obtain ⟨q1,q2⟩:=spot_in hb.tw (k:=k) (by omega)
   exact Or.inl ⟨k,rfl,by omega,by rw [hsp];exact q1,by rw [hsc];exact q2⟩
  ·obtain ⟨q1,q2⟩:=spot_out (s:=s) (g:=g) (by rw [hn9];exact q)
   exact Or.inr ⟨q,by rw [hsp];exact q1,by rw [hsc];exact q2⟩)
 have A3:=Lib.hid (show ∀ W,TreeIn W t F s→Calls Tryz.prog 23 #[.pointer (some ⟨t,0,none⟩),.int .i64 g] W fun e w'=>e=.returned (.tuple #[.agg #[.int .u64 sp.1,.int .u32 sp.2.1,.int .u64 sp.2.2],.int .i64 sc])∧Below W.heap.size W w' from fun W q=>by
  have:=pSpot_at g W q
  rw [← hsp,← hsc] at this
  exact this)
 clear hsp hsc
 -- who leads,the tasks,the rest
 obtain ⟨li,hli⟩:∃ x,x=(leadT s).1:=⟨_,rfl⟩
 obtain ⟨lc,hlc⟩:∃ x,x=(leadT s).2:=⟨_,rfl⟩
 obtain ⟨tl,htl⟩:∃ x,x=tasksT s g:=⟨_,rfl⟩
 obtain ⟨ld,hld⟩:∃ x,x=loadTo s s.n:=⟨_,rfl⟩
 have A4:=Lib.hid (show ∀ W,RIn W a.ag a.at' a.aa a.af a.cg a.ct a.ca a.cf n r.T.length r→Calls Tryz.prog 69 #[.agg #[.slice a.ag n a.cg,.int .u64 r.cr,.slice a.at' r.T.length a.ct,.slice a.aa n a.ca,.slice a.af n a.cf]] W (ChainP W (li,lc)) from fun W q=>by
  have:=tChain_at r n r.T.length hro a.ag a.at' a.aa a.af a.cg a.ct a.ca a.cf W q
  rw [HLD.out] at this
  rw [hli,hlc]
  exact this)
 have A5:=Lib.hid (show ∀ W,TreeIn W t F s→Calls Tryz.prog 11 #[.pointer (some ⟨t,0,none⟩)] W fun e w'=>e=.returned (.tuple #[.int .i64 li,.bool (decide (0<li))])∧Below W.heap.size W w' from fun W q=>by
  have:=pFirst_at W q HDN.out
  rw [← hli] at this
  exact this)
 have A6:=Lib.hid (show ∀ W,TreeIn W t F s→Calls Tryz.prog 21 #[.pointer (some ⟨t,0,none⟩)] W fun e w'=>∃ v,e=.returned v∧w'.ownsRow W.heap.size 3 1 v lc.length (intsV lc)∧Below W.heap.size W w' from fun W q=>by
  have:=pChain_at W q HDN.out
  rw [← hlc] at this
  exact this)
 have A7:=Lib.hid (show ∀ W,TreeIn W t F s→Calls Tryz.prog 15 #[.pointer (some ⟨t,0,none⟩),.int .i64 g] W (TasksP W tl) from fun W q=>by
  have:=pTasks_at g W q
  rw [← htl] at this
  exact this)
 have A8:=Lib.hid (show ∀ W,RIn W a.ag a.at' a.aa a.af a.cg a.ct a.ca a.cf n r.T.length r→Calls Tryz.prog 70 #[.agg #[.slice a.ag n a.cg,.int .u64 r.cr,.slice a.at' r.T.length a.ct,.slice a.aa n a.ca,.slice a.af n a.cf],.int .i64 g] W (OwnJ W tl) from fun W q=>by
  have:=tTasks_at r n r.T.length hro.toRLen g a.ag a.at' a.aa a.af a.cg a.ct a.ca a.cf W q
  rw [HTK.out,← htl] at this
  exact this)
 have A9:=Lib.hid (show ∀ W,TreeIn W t F s→Calls Tryz.prog 13 #[.pointer (some ⟨t,0,none⟩)] W fun e w'=>e=.returned (.int .i64 (r.T.length:Nat))∧W=w' from fun W q=>by
  have:=pLen_at W q
  rw [HLC.out]
  exact this)
 have A10:=Lib.hid (show ∀ W,TreeIn W t F s→Calls Tryz.prog 12 #[.pointer (some ⟨t,0,none⟩)] W fun e w'=>e=.returned (.int .i64 ld)∧Below W.heap.size W w' from fun W q=>by
  have:=pLoad_at W q
  rw [← hld] at this
  exact this)
 have A11:=Lib.hid (show ∀ W,RIn W a.ag a.at' a.aa a.af a.cg a.ct a.ca a.cf n r.T.length r→Calls Tryz.prog 71 #[.agg #[.slice a.ag n a.cg,.int .u64 r.cr,.slice a.at' r.T.length a.ct,.slice a.aa n a.ca,.slice a.af n a.cf]] W fun e w'=>e=.returned (.int .i64 ld)∧Below W.heap.size W w' from fun W q=>by
  have:=tLoad_at r n r.T.length hro a.ag a.at' a.aa a.af a.cg a.ct a.ca a.cf W q
  rw [HLO.out,← hld] at this
  exact this)
 rw [← hlc] at HCH
 rw [← htl] at HTL
 have HI:=Lib.hid h
 have HL:=Lib.hid hro.toRLen
 clear hli hlc htl hld ho hks hro hn9 hb hr h hid hg HLC HLD HTK HLO HDN
 obtain ⟨m,hm⟩:∃ m,m=r.T.length:=⟨_,rfl⟩
 obtain ⟨cr0,hcr0⟩:∃ c,c=r.cr:=⟨_,rfl⟩
 rw [← hm] at A2 A4 A8 A9 A11 HRN HFC HL hcs ⊢
 rw [← hcr0] at A2 A4 A8 A11 ⊢
 have HMM:=Lib.hid hm
 clear hm hcr0
 obtain ⟨ag,at',aa,af,cg,ct,ca,cf⟩:=a
 dsimp only at A2 A4 A8 A11 HRN hcs ⊢
 obtain ⟨W0,hW0⟩:∃ W0,W0=(w.alloc (.cells #[.slice ag n cg,.int .u64 cr0,.slice at' m ct,.slice aa n ca,.slice af n cf] 74)):=⟨_,rfl⟩
 have HB0:=Lib.hid (show Below w.heap.size w W0 by rw [hW0];exact (Below.allocS (Below.refl _ _) _))
 obtain ⟨c0,fc0,c1,fc1,c2,fc2,c3,fc3,c4,fc4⟩:=uc5 (show CellsF W0 (w.heap.size) [.slice ag n cg,.int .u64 cr0,.slice at' m ct,.slice aa n ca,.slice af n cf] by rw [hW0];exact CellsF.new (by simp))
 have HSZ:=Lib.hid (show W0.heap.size=w.heap.size+1 by rw [hW0];simp)
 have HW0:=Lib.hid hW0
 clear hW0
 go_enter Tryz.func31,Tryz.ntmps31
 go_upto_region 1 with fail
 rw [← HW0.out]
 generalize hbx:w.heap.size=bx at c0 c1 c2 c3 c4 fc0 fc1 fc2 fc3 fc4 HSZ  ⊢
 have HBX:=Lib.hid hbx
 clear hbx HW0
 go_wp2_with fail
 refine (A1.out W0 (HI.out.below HB0.out)).mono ?_;clear A1;rintro e w2 ⟨rfl,hb2⟩
 have q:=uc5 ((pc5 c0 fc0 c1 fc1 c2 fc2 c3 fc3 c4 fc4).later hb2)
 clear c0 fc0 c1 fc1 c2 fc2 c3 fc3 c4 fc4
 obtain ⟨c0,fc0,c1,fc1,c2,fc2,c3,fc3,c4,fc4⟩:=q
 have HB2:=Lib.hid (Below.step HB0.out hb2)
 clear hb2
 go_upto_region 2 with fail
 obtain ⟨W3,hW3⟩:∃ W,W=w2.alloc (.cells #[.int .u64 gx.1,.int .u32 gx.2.1,.int .u32 gx.2.2] 40):=⟨_,rfl⟩
 rw [← hW3]
 have hb3:Below w2.heap.size w2 W3:=by rw [hW3];exact below_a _ _
 have x0:W3.cell? ⟨w2.heap.size,0,none⟩=some (.int .u64 gx.1):=by rw [hW3];exact cell_nw _ _ _ 0 _ rfl
 have x1:W3.cell? ⟨w2.heap.size,1,none⟩=some (.int .u32 gx.2.1):=by rw [hW3];exact cell_nw _ _ _ 1 _ rfl
 have x2:W3.cell? ⟨w2.heap.size,2,none⟩=some (.int .u32 gx.2.2):=by rw [hW3];exact cell_nw _ _ _ 2 _ rfl
 have q:=uc5 ((pc5 c0 fc0 c1 fc1 c2 fc2 c3 fc3 c4 fc4).later hb3)
 clear c0 fc0 c1 fc1 c2 fc2 c3 fc3 c4 fc4
 obtain ⟨c0,fc0,c1,fc1,c2,fc2,c3,fc3,c4,fc4⟩:=q
 have HB3:=Lib.hid (Below.step HB2.out hb3)
 generalize w2.heap.size=b9 at *
 clear hb3 hW3
 go_wp2_with fail
 refine (A2.out W3 (HRN.out.later HB3.out)).mono ?_;clear A2;rintro e w4 ⟨rfl,hb4⟩
 replace x0:=cell_later hb4 x0
 replace x1:=cell_later hb4 x1
 replace x2:=cell_later hb4 x2
 have q:=uc5 ((pc5 c0 fc0 c1 fc1 c2 fc2 c3 fc3 c4 fc4).later hb4)
 clear c0 fc0 c1 fc1 c2 fc2 c3 fc3 c4 fc4
 obtain ⟨c0,fc0,c1,fc1,c2,fc2,c3,fc3,c4,fc4⟩:=q
 have HB4:=Lib.hid (Below.step HB3.out hb4)
 clear hb4
 go_upto_region 3 with fail
 go_cut [72] (fun s72 wx=>s72=.bool false∧w4.drew=wx)
 case first =>
  as_aux_lemma =>
   rcases HFC.out with ⟨rfl,k,hk,rfl,hgx,hgg⟩ | ⟨rfl,rfl,rfl,rfl⟩
   ·obtain ⟨b,off,rfl,-,y1,y2,y3,y4⟩:=(HRN.out.later HB4.out).task HL.out hk
    rw [← hgg] at y1
    rw [← hgx] at y2 y3 y4
    have hki:(k:Int)<(m:Int):=by omega
    have hk0:(0:Int)≤(k:Int):=by omega
    have q1:decide ((k:Int) ≥ 0)=true:=decide_eq_true hk0
    have q2:=eqE_self gx.1 gx.2.1 gx.2.2
    clear hgx hgg hk HFC
    refine startA (S:=fun w'=>Below w4.heap.size w4 w'∧w'.cell? ⟨bx,0,none⟩=some (.slice ag n cg)∧w'.cell? ⟨bx,1,none⟩=some (.int .u64 cr0)∧w'.cell? ⟨bx,2,none⟩=some (.slice (some ⟨b,off,none⟩) m ct)∧w'.cell? ⟨bx,3,none⟩=some (.slice aa n ca)∧w'.cell? ⟨bx,4,none⟩=some (.slice af n cf)∧w'.cell? ⟨b9,0,none⟩=some (.int .u64 gx.1)∧w'.cell? ⟨b9,1,none⟩=some (.int .u32 gx.2.1)∧w'.cell? ⟨b9,2,none⟩=some (.int .u32 gx.2.2)∧w'.cell? ⟨b,off+k*5+1,none⟩=some (.int .i64 gg)∧w'.cell? ⟨b,off+k*5+2,none⟩=some (.int .u64 gx.1)∧w'.cell? ⟨b,off+k*5+3,none⟩=some (.int .u32 gx.2.1)∧w'.cell? ⟨b,off+k*5+4,none⟩=some (.int .u32 gx.2.2)) ⟨Below.refl _ _,c0,c1,c2,c3,c4,x0,x1,x2,y1,y2,y3,y4⟩ (held_12 (below_dr _)) (fun hS0 hHeld=>?_)
    refine takeA 0 ?_
    refine takeA 1 ?_
    refine takeA 2 ?_
    refine takeA 3 ?_
    refine takeA 4 ?_
    refine takeA 5 ?_
    refine takeA 6 ?_
    refine takeA 7 ?_
    refine takeA 8 ?_
    refine takeA 9 ?_
    refine takeA 10 ?_
    refine takeA 11 ?_
    refine takeA 12 ?_
    refine takeA 13 ?_
    refine takeA 14 ?_
    refine takeA 15 ?_
    refine takeA 16 ?_
    refine takeA 17 ?_
    refine takeA 18 ?_
    refine takeA 19 ?_
    refine takeA 20 ?_
    refine takeA 21 ?_
    refine takeA 22 ?_
    refine takeA 23 ?_
    refine takeA 24 ?_
    refine takeA 25 ?_
    refine takeA 26 ?_
    refine takeA 27 ?_
    refine takeA 28 ?_
    refine takeA 29 ?_
    refine takeA 30 ?_
    refine skipA 31 ?_
    refine skipA 32 ?_
    refine skipA 33 ?_
    refine skipA 34 ?_
    refine skipA 35 ?_
    refine skipA 36 ?_
    refine skipA 37 ?_
    refine takeA 38 ?_
    refine takeA 39 ?_
    refine doneA ?_
    go_wp2_with fail
    go_meet
    case rel=>exact ⟨rfl,rfl⟩
   ·skip
    have q1:decide ((-1:Int) ≥ 0)=false:=by decide
    have q2:=eqE_self 0 0 0
    clear HFC
    refine startA (S:=fun w'=>Below w4.heap.size w4 w'∧w'.cell? ⟨bx,0,none⟩=some (.slice ag n cg)∧w'.cell? ⟨bx,1,none⟩=some (.int .u64 cr0)∧w'.cell? ⟨bx,2,none⟩=some (.slice at' m ct)∧w'.cell? ⟨bx,3,none⟩=some (.slice aa n ca)∧w'.cell? ⟨bx,4,none⟩=some (.slice af n cf)∧w'.cell? ⟨b9,0,none⟩=some (.int .u64 0)∧w'.cell? ⟨b9,1,none⟩=some (.int .u32 0)∧w'.cell? ⟨b9,2,none⟩=some (.int .u32 0)) ⟨Below.refl _ _,c0,c1,c2,c3,c4,x0,x1,x2⟩ (held_8 (below_dr _)) (fun hS0 hHeld=>?_)
    refine takeA 0 ?_
    refine takeA 1 ?_
    refine takeA 2 ?_
    refine takeA 3 ?_
    refine takeA 4 ?_
    refine takeA 5 ?_
    refine takeA 6 ?_
    refine skipA 7 ?_
    refine skipA 8 ?_
    refine skipA 9 ?_
    refine skipA 10 ?_
    refine skipA 11 ?_
    refine skipA 12 ?_
    refine skipA 13 ?_
    refine skipA 14 ?_
    refine skipA 15 ?_
    refine skipA 16 ?_
    refine skipA 17 ?_
    refine skipA 18 ?_
    refine skipA 19 ?_
    refine skipA 20 ?_
    refine skipA 21 ?_
    refine skipA 22 ?_
    refine skipA 23 ?_
    refine skipA 24 ?_
    refine takeA 25 ?_
    refine takeA 26 ?_
    refine takeA 27 ?_
    refine takeA 28 ?_
    refine takeA 29 ?_
    refine takeA 30 ?_
    refine takeA 31 ?_
    refine takeA 32 ?_
    refine takeA 33 ?_
    refine takeA 34 ?_
    refine takeA 35 ?_
    refine takeA 36 ?_
    refine takeA 37 ?_
    refine takeA 38 ?_
    refine takeA 39 ?_
    refine doneA ?_
    go_wp2_with fail
    go_meet
    case rel=>exact ⟨rfl,rfl⟩
 case rest =>
  as_aux_lemma =>
   obtain ⟨rfl,rfl⟩:=hcut
   clear x0 x1 x2 HFC
   have HB5:=Lib.hid HB4.out.drew
   replace c0:=cell_dr c0
   replace c1:=cell_dr c1
   replace c2:=cell_dr c2
   replace c3:=cell_dr c3
   replace c4:=cell_dr c4
   replace fc0:=frz_later (Below.refl _ _).drew fc0 (lt_of_cell c0)
   replace fc1:=frz_later (Below.refl _ _).drew fc1 (lt_of_cell c1)
   replace fc2:=frz_later (Below.refl _ _).drew fc2 (lt_of_cell c2)
   replace fc3:=frz_later (Below.refl _ _).drew fc3 (lt_of_cell c3)
   replace fc4:=frz_later (Below.refl _ _).drew fc4 (lt_of_cell c4)
   generalize w4.drew=W5 at *
   go_wp2_with fail
   refine (A3.out W5 (HI.out.below HB5.out)).mono ?_;clear A3;rintro e w6 ⟨rfl,hb6⟩
   have q:=uc5 ((pc5 c0 fc0 c1 fc1 c2 fc2 c3 fc3 c4 fc4).later hb6)
   clear c0 fc0 c1 fc1 c2 fc2 c3 fc3 c4 fc4
   obtain ⟨c0,fc0,c1,fc1,c2,fc2,c3,fc3,c4,fc4⟩:=q
   have HB6:=Lib.hid (Below.step HB5.out hb6)
   clear hb6
   go_upto_region 6 with fail
   obtain ⟨W7,hW7⟩:∃ W,W=w6.alloc (.cells #[.int .u64 sp.1,.int .u32 sp.2.1,.int .u64 sp.2.2] 55):=⟨_,rfl⟩
   rw [← hW7]
   have hb7:Below w6.heap.size w6 W7:=by rw [hW7];exact below_a _ _
   have x0:W7.cell? ⟨w6.heap.size,0,none⟩=some (.int .u64 sp.1):=by rw [hW7];exact cell_nw _ _ _ 0 _ rfl
   have x1:W7.cell? ⟨w6.heap.size,1,none⟩=some (.int .u32 sp.2.1):=by rw [hW7];exact cell_nw _ _ _ 1 _ rfl
   have x2:W7.cell? ⟨w6.heap.size,2,none⟩=some (.int .u64 sp.2.2):=by rw [hW7];exact cell_nw _ _ _ 2 _ rfl
   have q:=uc5 ((pc5 c0 fc0 c1 fc1 c2 fc2 c3 fc3 c4 fc4).later hb7)
   clear c0 fc0 c1 fc1 c2 fc2 c3 fc3 c4 fc4
   obtain ⟨c0,fc0,c1,fc1,c2,fc2,c3,fc3,c4,fc4⟩:=q
   have HB7:=Lib.hid (Below.step HB6.out hb7)
   generalize w6.heap.size=b10 at *
   clear hb7 hW7
   obtain ⟨bo,hbo⟩:∃ bo:Bool,bo=decide (¬ (0≤g∧g<(n:Int))):=⟨_,rfl⟩
   have HBO:=Lib.hid hbo
   clear hbo
   go_cut [87] (fun s87 wx=>s87=.bool bo∧W7=wx)
   case first =>
    as_aux_lemma =>
     by_cases h0:g<0
     ·have q1:decide (g<0)=true:=decide_eq_true h0
      have HBO2:=Lib.hid (show bo=true by rw [HBO.out,decide_eq_true];omega)
      clear h0
      go_wp2_with fail
      go_meet
      case rel=>exact ⟨by rw [HBO2.out],rfl⟩
     ·have q1:decide (g<0)=false:=decide_eq_false h0
      by_cases h1:g<(n:Int)
      ·have q2:decide (g ≥ (n:Int))=false:=decide_eq_false (by omega)
       have q3:decide ((n:Int)≤g)=false:=decide_eq_false (by omega)
       have HBO2:=Lib.hid (show bo=false by rw [HBO.out,decide_eq_false];omega)
       clear h0 h1
       go_wp2_with fail
       go_meet
       case rel=>exact ⟨by rw [HBO2.out],rfl⟩
      ·have q2:decide (g ≥ (n:Int))=true:=decide_eq_true (by omega)
       have q3:decide ((n:Int)≤g)=true:=decide_eq_true (by omega)
       have HBO2:=Lib.hid (show bo=true by rw [HBO.out,decide_eq_true];omega)
       clear h0 h1
       go_wp2_with fail
       go_meet
       case rel=>exact ⟨by rw [HBO2.out],rfl⟩
   case rest =>
    as_aux_lemma =>
     obtain ⟨rfl,rfl⟩:=hcut
     go_upto_if 87 with fail
     go_cut [3] (fun s3 wx=>s3=.int .i64 g∧Below W7.heap.size W7 wx)
     case first =>
      as_aux_lemma =>
       rcases HSP.out with ⟨k,rfl,hk,rfl,rfl⟩ | ⟨hno,rfl,rfl⟩
       ·have hbo:bo=false:=by rw [HBO.out,decide_eq_false];omega
        subst hbo
        obtain ⟨b,off,rfl,u0,u1,-⟩:=(HRN.out.later HB7.out).spot HL.out hk
        obtain ⟨b2,off2,rfl,uf⟩:=(HRN.out.later HB7.out).floor HL.out hk
        obtain ⟨v0,hv0⟩:∃ x,x=(r.A[k]!).1:=⟨_,rfl⟩
        obtain ⟨v1,hv1⟩:∃ x,x=(r.A[k]!).2.1:=⟨_,rfl⟩
        obtain ⟨v2,hv2⟩:∃ x,x=r.fl[k]!:=⟨_,rfl⟩
        dsimp only at x0 x1 x2
        rw [← hv0] at x0 u0
        rw [← hv1] at x1 u1
        rw [← hv2] at x2 uf
        have hki:(k:Int)<(n:Int):=by omega
        have hk0:(0:Int)≤(k:Int):=by omega
        clear hv0 hv1 hv2 hk HSP
        go_wp2_with fail
        refine startA (S:=fun w'=>Below W7.heap.size W7 w'∧w'.cell? ⟨bx,0,none⟩=some (.slice ag n cg)∧w'.cell? ⟨bx,1,none⟩=some (.int .u64 cr0)∧w'.cell? ⟨bx,2,none⟩=some (.slice at' m ct)∧w'.cell? ⟨bx,3,none⟩=some (.slice (some ⟨b,off,none⟩) n ca)∧w'.cell? ⟨bx,4,none⟩=some (.slice (some ⟨b2,off2,none⟩) n cf)∧w'.cell? ⟨b10,0,none⟩=some (.int .u64 v0)∧w'.cell? ⟨b10,1,none⟩=some (.int .u32 v1)∧w'.cell? ⟨b10,2,none⟩=some (.int .u64 v2)∧w'.cell? ⟨b,off+k*3,none⟩=some (.int .u64 v0)∧w'.cell? ⟨b,off+k*3+1,none⟩=some (.int .u32 v1)∧w'.cell? ⟨b2,off2+k,none⟩=some (.int .u64 v2)) ⟨Below.refl _ _,c0,c1,c2,c3,c4,x0,x1,x2,u0,u1,uf⟩ (held_11 (below_dr _)) (fun hS0 hHeld=>?_)
        refine takeA 0 ?_
        refine takeA 1 ?_
        refine takeA 2 ?_
        refine takeA 3 ?_
        refine takeA 4 ?_
        refine takeA 5 ?_
        refine takeA 6 ?_
        refine takeA 7 ?_
        refine takeA 8 ?_
        refine takeA 9 ?_
        refine takeA 10 ?_
        refine takeA 11 ?_
        refine takeA 12 ?_
        refine takeA 13 ?_
        refine takeA 14 ?_
        refine takeA 15 ?_
        refine takeA 16 ?_
        refine takeA 17 ?_
        refine takeA 18 ?_
        refine takeA 19 ?_
        refine takeA 20 ?_
        refine takeA 21 ?_
        refine takeA 22 ?_
        refine takeA 23 ?_
        refine takeA 24 ?_
        refine takeA 25 ?_
        refine takeA 26 ?_
        refine takeA 27 ?_
        refine takeA 28 ?_
        refine takeA 29 ?_
        refine takeA 30 ?_
        refine takeA 31 ?_
        refine takeA 32 ?_
        refine takeA 33 ?_
        refine doneA ?_
        go_wp2_with fail
        go_meet
        case rel=>exact ⟨rfl,(Below.refl _ _).drew⟩
       ·have hbo:bo=true:=by rw [HBO.out,decide_eq_true];exact hno
        subst hbo
        dsimp only at x0 x1 x2
        have zs:=eqS_same 0 0 0
        clear hno HSP
        go_wp2_with fail
        go_meet
        case rel=>exact ⟨rfl,Below.refl _ _⟩
     case rest =>
      as_aux_lemma =>
       obtain ⟨rfl,hb8⟩:=hcut
       obtain ⟨W8,rfl⟩:∃ W:World,W=wc:=⟨_,rfl⟩
       have q:=uc5 ((pc5 c0 fc0 c1 fc1 c2 fc2 c3 fc3 c4 fc4).later hb8)
       clear c0 fc0 c1 fc1 c2 fc2 c3 fc3 c4 fc4
       obtain ⟨c0,fc0,c1,fc1,c2,fc2,c3,fc3,c4,fc4⟩:=q
       have HB8:=Lib.hid (Below.step HB7.out hb8)
       clear hb8 x0 x1 x2 HBO HSP
       obtain ⟨lb,hlb⟩:∃ b:Bool,b=decide (0<li):=⟨_,rfl⟩
       rw [← hlb] at A5
       have zlb:decide (li > 0)=lb:=hlb.symm
       have zlb2:decide (0<li)=lb:=hlb.symm
       have zlb3:(lb != lb)=false:=by simp
       have zli:(li != li)=false:=by simp
       have zm:((m:Int) != (m:Int))=false:=by simp
       have zd:(ld != ld)=false:=by simp
       clear hlb
       go_wp2_with fail
       refine (A4.out W8 (HRN.out.later HB8.out)).mono ?_;clear A4;rintro e w9 ⟨v9,rfl,ho9,hb9⟩
       dsimp only at ho9 ⊢
       obtain ⟨a9,c9,rfl,hr9⟩:=own_rowJ ho9 rfl
       have q:=uc5 ((pc5 c0 fc0 c1 fc1 c2 fc2 c3 fc3 c4 fc4).later hb9)
       clear c0 fc0 c1 fc1 c2 fc2 c3 fc3 c4 fc4
       obtain ⟨c0,fc0,c1,fc1,c2,fc2,c3,fc3,c4,fc4⟩:=q
       have HB9:=Lib.hid (Below.step HB8.out hb9)
       have HR9:=Lib.hid hr9
       clear ho9 hb9 hr9
       go_wp2_with fail
       refine (A5.out w9 (HI.out.below HB9.out)).mono ?_;clear A5;rintro e w10 ⟨rfl,hb10⟩
       have q:=uc5 ((pc5 c0 fc0 c1 fc1 c2 fc2 c3 fc3 c4 fc4).later hb10)
       clear c0 fc0 c1 fc1 c2 fc2 c3 fc3 c4 fc4
       obtain ⟨c0,fc0,c1,fc1,c2,fc2,c3,fc3,c4,fc4⟩:=q
       have HB10:=Lib.hid (Below.step HB9.out hb10)
       replace HR9:=Lib.hid (HR9.out.later hb10)
       clear hb10
       go_wp2_with fail
       refine (A6.out w10 (HI.out.below HB10.out)).mono ?_;clear A6;rintro e w11 ⟨v11,rfl,ho11,hb11⟩
       obtain ⟨a11,c11,rfl,hr11⟩:=own_rowJ ho11 rfl
       have q:=uc5 ((pc5 c0 fc0 c1 fc1 c2 fc2 c3 fc3 c4 fc4).later hb11)
       clear c0 fc0 c1 fc1 c2 fc2 c3 fc3 c4 fc4
       obtain ⟨c0,fc0,c1,fc1,c2,fc2,c3,fc3,c4,fc4⟩:=q
       have HB11:=Lib.hid (Below.step HB10.out hb11)
       replace HR9:=Lib.hid (HR9.out.later hb11)
       have HR11:=Lib.hid hr11
       have HX11:=Lib.hid (fun q e=>(ho11.lt q e).2)
       have HO11:=Lib.hid ho11
       have HS10:=Lib.hid HB10.out.size
       clear hb11 hr11 ho11
       go_wp2_with fail
       refine (A7.out w11 (HI.out.below HB11.out)).mono ?_;clear A7;rintro e w12 ⟨v12,rfl,ho12,hb12⟩
       obtain ⟨a12,c12,rfl,hr12⟩:=own_rowJ ho12 rfl
       have q:=uc5 ((pc5 c0 fc0 c1 fc1 c2 fc2 c3 fc3 c4 fc4).later hb12)
       clear c0 fc0 c1 fc1 c2 fc2 c3 fc3 c4 fc4
       obtain ⟨c0,fc0,c1,fc1,c2,fc2,c3,fc3,c4,fc4⟩:=q
       have HB12:=Lib.hid (Below.step HB11.out hb12)
       replace HR9:=Lib.hid (HR9.out.later hb12)
       replace HR11:=Lib.hid (HR11.out.later hb12)
       have HR12:=Lib.hid hr12
       replace HO11:=Lib.hid (own_below HO11.out hb12)
       have HO12:=Lib.hid ho12
       have HS11:=Lib.hid HB11.out.size
       clear hb12 hr12 ho12
       go_upto_region 15 with fail
       go_cut [181] (fun s181 wx=>s181=.bool false∧Below w12.heap.size w12 wx)
       case first =>
        as_aux_lemma =>
         refine startB (S:=fun w'=>Below w12.heap.size w12 w'∧w'.cell? ⟨bx,0,none⟩=some (.slice ag n cg)∧w'.cell? ⟨bx,1,none⟩=some (.int .u64 cr0)∧w'.cell? ⟨bx,2,none⟩=some (.slice at' m ct)∧w'.cell? ⟨bx,3,none⟩=some (.slice aa n ca)∧w'.cell? ⟨bx,4,none⟩=some (.slice af n cf)) ⟨Below.refl _ _,c0,c1,c2,c3,c4⟩ (held_5 (below_dr _)) (fun hS00 hS0 hHeld=>?_)
         obtain ⟨wc101,hwc101⟩:∃ X,X=w12.drew:=⟨_,rfl⟩
         rw [← hwc101] at hHeld ⊢
         have hWc101:Below w12.heap.size w12 wc101:=by rw [hwc101];exact (Below.refl _ _).drew
         clear hwc101
         refine takeA 0 ?_
         refine takeA 1 ?_
         refine takeA 2 ?_
         refine takeA 3 ?_
         refine takeA 4 ?_
         refine takeA 5 ?_
         refine takeA 6 ?_
         refine takeA 7 ?_
         refine takeA 8 ?_
         refine takeA 9 ?_
         refine takeA 10 ?_
         refine takeA 11 ?_
         refine readyA [12] (consA (fun K hK=>?_) .nil)
         go_simp
         refine (SameInts_any a11 a9 lc.length lc.length c11 c9 lc lc wc101 (HR11.out.later hWc101) (HR9.out.later hWc101) (by have:=HCH.out;omega) (by have:=HCH.out;omega)).mono ?_
         rintro e w102 ⟨rfl,hg102⟩
         have hW102:=Below.step hWc101 hg102.below
         rw [decide_eq_true (rfl:lc=lc)]
         go_wp2_with fail
         refine outA hK (held_5 hW102 hS00) (fun hHeld12=>?_)
         clear hK K
         refine takeA 13 ?_
         refine takeA 14 ?_
         refine takeA 15 ?_
         refine takeA 16 ?_
         refine takeA 17 ?_
         refine takeA 18 ?_
         refine readyA [19] (consA (fun K hK=>?_) .nil)
         go_simp
         refine (A8.out w102 (HRN.out.later (Below.step HB12.out hW102))).mono ?_
         rintro e w103 ⟨v103,rfl,ho103,hb103⟩
         have hW103:=Below.step hW102 hb103
         obtain ⟨a19,c19,rfl,hr19⟩:=own_rowJ ho103 rfl
         go_wp2_with fail
         refine outA hK (held_5 hW103 hS00) (fun hHeld19=>?_)
         clear hK K
         refine readyA [20] (consA (fun K hK=>?_) .nil)
         go_simp
         refine (SameInts_any a12 a19 tl.length tl.length c12 c19 tl tl w103 (HR12.out.later hW103) hr19 (by have:=HTL.out;omega) (by have:=HTL.out;omega)).mono ?_
         rintro e w104 ⟨rfl,hg104⟩
         have hW104:=Below.step hW103 hg104.below
         rw [decide_eq_true (rfl:tl=tl)]
         go_wp2_with fail
         refine outA hK (held_5 hW104 hS00) (fun hHeld20=>?_)
         clear hK K
         refine takeA 21 ?_
         refine takeA 22 ?_
         refine takeA 23 ?_
         refine takeA 24 ?_
         refine takeA 26 ?_
         refine takeA 27 ?_
         refine takeA 28 ?_
         refine readyA [25] (consA (fun K hK=>?_) .nil)
         go_simp
         refine (A9.out w104 (HI.out.below (Below.step HB12.out hW104))).mono ?_
         rintro e _ ⟨rfl,rfl⟩
         go_wp2_with fail
         refine outA hK (held_5 hW104 hS00) (fun hHeld25=>?_)
         clear hK K
         refine takeA 29 ?_
         refine takeA 30 ?_
         refine takeA 31 ?_
         refine takeA 32 ?_
         refine takeA 34 ?_
         refine readyA [33] (consA (fun K hK=>?_) .nil)
         go_simp
         refine (A10.out w104 (HI.out.below (Below.step HB12.out hW104))).mono ?_
         rintro e w105 ⟨rfl,hb105⟩
         have hW105:=Below.step hW104 hb105
         go_wp2_with fail
         refine outA hK (held_5 hW105 hS00) (fun hHeld33=>?_)
         clear hK K
         refine readyA [35] (consA (fun K hK=>?_) .nil)
         go_simp
         refine (A11.out w105 (HRN.out.later (Below.step HB12.out hW105))).mono ?_
         rintro e w106 ⟨rfl,hb106⟩
         have hW106:=Below.step hW105 hb106
         go_wp2_with fail
         refine outA hK (held_5 hW106 hS00) (fun hHeld35=>?_)
         clear hK K
         refine takeA 36 ?_
         refine takeA 37 ?_
         refine doneA ?_
         go_wp2_with fail
         go_meet
         case rel=>exact ⟨rfl,hW106⟩
       case rest =>
        as_aux_lemma =>
         obtain ⟨rfl,hb13⟩:=hcut
         have HB13:=Lib.hid (Below.step HB12.out hb13)
         replace HO11:=Lib.hid (own_below HO11.out hb13)
         replace HO12:=Lib.hid (own_below HO12.out hb13)
         clear hb13 HR9 HR11 HR12 A8 A9 A10 A11 c0 c1 c2 c3 c4 fc0 fc1 fc2 fc3 fc4 zlb zlb2 zlb3 zli zm zd
         obtain ⟨p,hp⟩:∃ p,p=lc.length:=⟨_,rfl⟩
         obtain ⟨q,hq⟩:∃ q,q=tl.length:=⟨_,rfl⟩
         have HP:=Lib.hid hp
         have HQ:=Lib.hid hq
         rw [← hp] at HO11 HX11 HCH ⊢
         rw [← hq] at HO12 HTL ⊢
         have hp6:=HCH.out
         have hq6:=HTL.out
         clear hp hq
         go_wp2_with fail
         go_loopw [184] (fun i wr=>∃ k:Nat,k≤p∧i=.int .i64 k∧Below w.heap.size w wr∧(∀ b,a11=some ⟨b,0,none⟩→RowW wr b lc k)∧(∀ b,a12=some ⟨b,0,none⟩→RowW wr b tl 0)) (fun i _=>p - (intOf i).toNat)
         case atStart=>exact ⟨0,Nat.zero_le _,rfl,HB13.out,fun b hb=>by subst hb;exact RowW.own HO11.out,fun b hb=>by subst hb;exact RowW.own HO12.out⟩
         case round =>
          obtain ⟨k,hk,rfl,hB,h11,h12⟩:=hrel
          have HB:=Lib.hid hB
          have H12:=Lib.hid h12
          clear hB h12
          by_cases hlt:k<p
          ·rcases HO11.out.2 with ⟨_,h0⟩ | ⟨g9,cap9,cur9,hv9,hg9,_⟩
           ·omega
           ·injection hv9 with e1 e2 e3
            subst e1
            subst e3
            obtain ⟨i0,f0⟩:=h11 g9 rfl k (Nat.le_refl _) (by rw [← HP.out];exact hlt)
            have HRW:=Lib.hid (h11 g9 rfl)
            have HG:=Lib.hid hg9
            have HGX:=Lib.hid (HX11.out g9 rfl)
            generalize lc[k]! = x at i0
            have hk0:(0:Int)≤(k:Int):=by omega
            have hkm:(k:Int)<(p:Int):=by omega
            clear h11 e2 hg9
            go_wp2_with fail
            go_roundw
            case rel=>exact ⟨k+1,by omega,by go_num,Below.setCell HB.out (Nat.le_trans HS10.out HG.out) _,fun b hb=>by cases hb;exact HRW.out.set _,fun b hb=>(H12.out b hb).other _ (fun e=>by subst hb;have h1:=(HO12.out.lt b rfl).1;have h2:=HGX.out;omega)⟩
            case measure=>simp [intOf];omega
          ·have hkp:k=p:=by omega
           have l1:decide ((k:Int)<(p:Int))=false:=decide_eq_false (by omega)
           have l2:decide (k<p)=false:=decide_eq_false hlt
           have l3:¬ (k:Int)<(p:Int):=by omega
           clear h11 hk hkp hlt
           go_wp2_with fail
           go_loopw [196] (fun i wr=>∃ k:Nat,k≤q∧i=.int .i64 k∧Below w.heap.size w wr∧(∀ b,a12=some ⟨b,0,none⟩→RowW wr b tl k)) (fun i _=>q - (intOf i).toNat)
           case atStart=>exact ⟨0,Nat.zero_le _,rfl,HB.out,H12.out⟩
           case round =>
            clear l1 l2 l3 HB H12
            obtain ⟨j,hj,rfl,hB,h12⟩:=hrel
            have HB:=Lib.hid hB
            clear hB
            by_cases hlt:j<q
            ·rcases HO12.out.2 with ⟨_,h0⟩ | ⟨g9,cap9,cur9,hv9,hg9,_⟩
             ·omega
             ·injection hv9 with e1 e2 e3
              subst e1
              subst e3
              obtain ⟨i0,f0⟩:=h12 g9 rfl j (Nat.le_refl _) (by rw [← HQ.out];exact hlt)
              have HRW:=Lib.hid (h12 g9 rfl)
              have HG:=Lib.hid hg9
              generalize tl[j]! = x at i0
              have hk0:(0:Int)≤(j:Int):=by omega
              have hkm:(j:Int)<(q:Int):=by omega
              clear h12 e2 hg9
              go_wp2_with fail
              go_roundw
              case rel=>exact ⟨j+1,by omega,by go_num,Below.setCell HB.out (Nat.le_trans HS11.out HG.out) _,fun b hb=>by cases hb;exact HRW.out.set _⟩
              case measure=>simp [intOf];omega
            ·have l1:decide ((j:Int)<(q:Int))=false:=decide_eq_false (by omega)
             have l2:decide (j<q)=false:=decide_eq_false hlt
             have l3:¬ (j:Int)<(q:Int):=by omega
             clear h12 hj hlt
             go_wp2_with fail
             go_ret
             exact ⟨rfl,HB.out⟩
set_option maxRecDepth 100000 in
set_option maxHeartbeats 4000000 in
theorem pwhole_any {t n:Nat} {F:List Nat} {s:TSt} {r:RSt} (a:RAd) (w:World) (h:TreeIn w t F s) (hb:BothT n s r) (hr:RHeld F w a n r.T.length r) :
  Calls Tryz.prog 32 #[.pointer (some ⟨t,0,none⟩),.agg #[.slice a.ag n a.cg,.int .u64 r.cr,.slice a.at' r.T.length a.ct,.slice a.aa n a.ca,.slice a.af n a.cf]] w fun e w'=>e=.returned (.bool true)∧Below w.heap.size w w':=by
 have hro:=hb.tw.rok hb.ok hb.cr
 rw [hb.n] at hro
 have hpos:=hro.toRLen.pos
 have A1:=Lib.hid fun (W:World) (id g:Int) (hW:Below w.heap.size w W) (h1:(Lit.int .i64 id).wf=true) (h2:(Lit.int .i64 g).wf=true)=>psame_any a id g W (h.below hW) hb (hr.later hW) h1 h2
 obtain ⟨m,hm⟩:∃ m,m=r.T.length:=⟨_,rfl⟩
 obtain ⟨cr0,hcr0⟩:∃ c,c=r.cr:=⟨_,rfl⟩
 rw [← hm,← hcr0] at A1 ⊢
 clear hm hcr0 hro hb hr h
 obtain ⟨ag,at',aa,af,cg,ct,ca,cf⟩:=a
 dsimp only at A1 ⊢
 obtain ⟨W0,hW0⟩:∃ W0,W0=(w.alloc (.cells #[.slice ag n cg,.int .u64 cr0,.slice at' m ct,.slice aa n ca,.slice af n cf] 74)):=⟨_,rfl⟩
 have HB0:=Lib.hid (show Below w.heap.size w W0 by rw [hW0];exact (Below.allocS (Below.refl _ _) _))
 obtain ⟨c0,fc0,c1,fc1,c2,fc2,c3,fc3,c4,fc4⟩:=uc5 (show CellsF W0 (w.heap.size) [.slice ag n cg,.int .u64 cr0,.slice at' m ct,.slice aa n ca,.slice af n cf] by rw [hW0];exact CellsF.new (by simp))
 have HSZ:=Lib.hid (show W0.heap.size=w.heap.size+1 by rw [hW0];simp)
 have HW0:=Lib.hid hW0
 clear hW0
 go_enter Tryz.func32,Tryz.ntmps32
 go_upto_region 1 with fail
 rw [← HW0.out]
 generalize hbx:w.heap.size=bx at c0 c1 c2 c3 c4 fc0 fc1 fc2 fc3 fc4 HSZ  ⊢
 have HBX:=Lib.hid hbx
 clear hbx HW0
 have HCC:=Lib.hid (And.intro c0 (And.intro c1 (And.intro c2 (And.intro c3 c4))))
 clear c0 c1 c2 c3 c4 fc0 fc1 fc2 fc3 fc4
 go_wp2_with fail
 go_loopw [5] (fun i wr=>∃ k:Nat,k≤n+2∧i=.int .i64 ((k:Int) - 1)∧Below W0.heap.size W0 wr) (fun i _=>n+2 - ((intOf i)+1).toNat)
 case atStart=>exact ⟨0,Nat.zero_le _,rfl,Below.refl _ _⟩
 case round =>
  obtain ⟨k,hk,rfl,hB⟩:=hrel
  obtain ⟨c0,c1,c2,c3,c4⟩:=HCC.out
  have HB:=Lib.hid hB
  have HBW:=Lib.hid (Below.step HB0.out hB)
  replace c0:=cell_later hB c0
  replace c1:=cell_later hB c1
  replace c2:=cell_later hB c2
  replace c3:=cell_later hB c3
  replace c4:=cell_later hB c4
  clear hB
  by_cases hlt:k<n+2
  ·have z1:decide ((k:Int) - 1≤(n:Int))=true:=decide_eq_true (by omega)
   have z2:IntKind.i64.wrap ((k:Int) - 1+1)=(k:Int):=by rw [show (k:Int) - 1+1=(k:Int) by omega];exact IntWalk.i64_in _ (by omega)
   have z3:IntKind.i64.wrap (k:Int)=(k:Int):=IntWalk.i64_in _ (by omega)
   have A2:=Lib.hid (A1.out wr (k:Int) ((k:Int) - 1) HBW.out (wf_small (by omega)) (wf_small (by omega)))
   go_wp2_with fail
   refine A2.out.mono ?_;rintro e w5 ⟨rfl,hb5⟩
   have HB5:=Lib.hid (Below.step HB.out hb5)
   clear hb5 A2
   go_wp2_with fail
   go_roundw
   case rel=>exact ⟨k+1,by omega,by go_num,HB5.out⟩
   case measure=>simp [intOf];omega
  ·have z1:decide ((k:Int) - 1≤(n:Int))=false:=decide_eq_false (by omega)
   clear hk hlt
   go_wp2_with fail
   go_ret
   exact ⟨rfl,HBW.out⟩
end Go.Proofs.YtfgmglghlapbcaaGreat
