/-
  Layer 30 (model): find, by slices.BinarySearchFunc over the tasks.
-/
import Derived.Test.YtapnaocdehahdaaGreatSchStA
namespace Go.Proofs.YtapnaocdehahdaaGreat
open Go.RowKit Go.Maps Go.IntWalk Go.Lib
set_option linter.unusedVariables false
set_option linter.unusedSimpArgs false
def cmp3 (x y:Int):Int:=if x<y then -1 else if y<x then 1 else 0
theorem nanI_at (x:Int) (w:World):Calls Tryz.prog 220 #[.int .i64 x] w fun e w'=>e=.returned (.bool false)∧w'=w:=by
 go_enter Tryz.func220,Tryz.ntmps220
 go_wp2
 go_ret
 exact ⟨rfl,rfl⟩
theorem cmpI_at (x y:Int) (w:World):Calls Tryz.prog 182 #[.int .i64 x,.int .i64 y] w fun e w'=>e=.returned (.int .i64 (cmp3 x y))∧w'=w:=by
 unfold cmp3
 by_cases c1:x<y
 ·rw [if_pos c1]
  go_enter Tryz.func182,Tryz.ntmps182
  go_wp2_with (go_at_call 220;refine (nanI_at _ _).mono ?_;rintro e w' ⟨rfl,rfl⟩)
  go_ret
  exact ⟨rfl,rfl⟩
 ·rw [if_neg c1]
  by_cases c2:y<x
  ·rw [if_pos c2]
   go_enter Tryz.func182,Tryz.ntmps182
   go_wp2_with (go_at_call 220;refine (nanI_at _ _).mono ?_;rintro e w' ⟨rfl,rfl⟩)
   go_ret
   exact ⟨rfl,rfl⟩
  ·rw [if_neg c2]
   go_enter Tryz.func182,Tryz.ntmps182
   go_wp2_with (go_at_call 220;refine (nanI_at _ _).mono ?_;rintro e w' ⟨rfl,rfl⟩)
   go_ret
   exact ⟨rfl,rfl⟩
def valTl (y:TVw):Value:=.agg #[.int .i64 y.id,.int .i64 y.g,.int .i64 y.w,.int .i64 y.cpu,.int .u64 y.mask,.bool y.rdy,.int .u64 y.v,.int .u32 y.r]
theorem findC_at (y:TVw) (t:Int) (w:World):Calls Tryz.prog 205 #[valTl y,.int .i64 t] w fun e w'=>e=.returned (.int .i64 (cmp3 y.id t))∧Below w.heap.size w w':=by
 unfold valTl
 go_enter Tryz.func205,Tryz.ntmps205
 go_wp2_with (go_at_call 182;refine (cmpI_at _ _ _).mono ?_;rintro e w' ⟨rfl,rfl⟩)
 go_ret
 exact ⟨rfl,below_a _ _⟩
def IdsUp (L:List TVw):Prop:=L.Pairwise fun a b=>a.id<b.id
def fI (L:List TVw) (t:Int):Nat:=L.countP fun y=>decide (y.id<t)
def fB (L:List TVw) (t:Int):Bool:=match L[fI L t]? with | some y=>decide (y.id=t) | none=>false
def findM (L:List TVw) (t:Int):Int:=if fB L t then (fI L t:Int) else -1
theorem IdsUp.lt {L:List TVw} (h:IdsUp L) {i j:Nat} {x y:TVw} (hx:L[i]?=some x) (hy:L[j]?=some y) (hij:i<j):x.id<y.id:=by
 obtain ⟨hi,rfl⟩:=List.getElem?_eq_some_iff.1 hx
 obtain ⟨hj,rfl⟩:=List.getElem?_eq_some_iff.1 hy
 exact List.pairwise_iff_getElem.1 h i j hi hj hij
theorem fI_of:∀ {L:List TVw} {t:Int} {i:Nat},i≤L.length→(∀ (j:Nat) (y:TVw),j<i→L[j]?=some y→y.id<t)→(∀ (j:Nat) (y:TVw),i≤j→L[j]?=some y→t≤y.id)→fI L t=i
 | [],t,i,hi,_,_=>by simp at hi;subst hi;rfl
 | a::r,t,0,_,_,h2=>by
  unfold fI
  rw [List.countP_eq_zero]
  intro x hx
  obtain ⟨j,hj⟩:=List.getElem?_of_mem hx
  have:=h2 j x (Nat.zero_le _) hj
  simp;omega
 | a::r,t,i+1,hi,h1,h2=>by
  have ha:decide (a.id<t)=true:=decide_eq_true (h1 0 a (Nat.succ_pos _) rfl)
  have hr:fI r t=i:=fI_of (by simpa using hi) (fun j y q e=>h1 (j+1) y (by omega) (by simpa using e)) (fun j y q e=>h2 (j+1) y (by omega) (by simpa using e))
  unfold fI at hr ⊢
  rw [List.countP_cons_of_pos (p:=fun y:TVw=>decide (y.id<t)) ha,hr]
set_option maxRecDepth 100000 in
set_option maxHeartbeats 1000000 in
theorem bsf_at {F:List Nat} {w:World} {a:Option Addr} {n c:Nat} {L:List TVw} (t:Int) (h:HeldR encTl F w (.slice a n c) L) (hup:IdsUp L) (hn:n≤1000000) :
  Calls Tryz.prog 204 #[.slice a n c,.int .i64 t,.func (.func 205) #[] #[]] w fun e w'=>e=.returned (.tuple #[.int .i64 (fI L t),.bool (fB L t)])∧Below w.heap.size w w':=by
 obtain ⟨n',hn'⟩:∃ k,k=L.length:=⟨_,rfl⟩
 have hnl:n=L.length:=by obtain ⟨_,_,e,_⟩:=h;cases e;rfl
 have HNL:=Lib.hid hnl
 have HH:=Lib.hid h
 have HUP:=Lib.hid hup
 have H0:=Lib.hid (show (∀ (j:Nat) (y:TVw),j<0→L[j]?=some y→y.id<t)∧(∀ (j:Nat) (y:TVw),n≤j→L[j]?=some y→t≤y.id) from
  ⟨fun j y q=>absurd q (Nat.not_lt_zero _),fun j y q e=>by have:=(List.getElem?_eq_some_iff.1 e).1;omega⟩)
 obtain ⟨B0,hB0⟩:∃ B,B=w.heap.size:=⟨_,rfl⟩
 have HB0:=Lib.hid (show Below w.heap.size w w from Below.refl _ _)
 obtain ⟨I,hI⟩:∃ I,I=fI L t:=⟨_,rfl⟩
 obtain ⟨bb,hbb⟩:∃ b,b=fB L t:=⟨_,rfl⟩
 rw [← hI,← hbb]
 have HII:=Lib.hid hI
 have HBB:=Lib.hid hbb
 clear h hup hnl hn' n' hB0 B0 hI hbb
 go_enter Tryz.func204,Tryz.ntmps204
 go_wp2_with fail
 go_loopw [9,10] (fun v9 v10 wr=>∃ lo hi:Nat,lo≤hi∧hi≤n∧v9=.int .i64 lo∧v10=.int .i64 hi∧Hid (Below w.heap.size w wr)∧Hid ((∀ (j:Nat) (y:TVw),j<lo→L[j]?=some y→y.id<t)∧(∀ (j:Nat) (y:TVw),hi≤j→L[j]?=some y→t≤y.id))) (fun v9 v10 _=>(RowKit.intOf v10).toNat - (RowKit.intOf v9).toNat)
 case atStart=>exact ⟨0,n,Nat.zero_le _,Nat.le_refl _,rfl,rfl,HB0,H0⟩
 case round =>
  clear HB0 H0
  obtain ⟨lo,hi,hlh,hin,rfl,rfl,HB,HI⟩:=hrel
  by_cases hlt:lo<hi
  ·as_aux_lemma =>
   obtain ⟨y,hy⟩:∃ y,L[(lo+hi) / 2]?=some y:=⟨_,List.getElem?_eq_getElem (by rw [← HNL.out];omega)⟩
   have HY:=Lib.hid hy
   obtain ⟨b7,off,rfl,-,hcell⟩:=cells_held encTl_ok (HH.out.later HB.out) hy
   clear hy
   have u0:wr.cell? ⟨b7,off+(lo+hi) / 2*8+0,none⟩=some (.int .i64 y.id):=hcell 0 _ rfl
   have u1:wr.cell? ⟨b7,off+(lo+hi) / 2*8+1,none⟩=some (.int .i64 y.g):=hcell 1 _ rfl
   have u2:wr.cell? ⟨b7,off+(lo+hi) / 2*8+2,none⟩=some (.int .i64 y.w):=hcell 2 _ rfl
   have u3:wr.cell? ⟨b7,off+(lo+hi) / 2*8+3,none⟩=some (.int .i64 y.cpu):=hcell 3 _ rfl
   have u4:wr.cell? ⟨b7,off+(lo+hi) / 2*8+4,none⟩=some (.int .u64 y.mask):=hcell 4 _ rfl
   have u5:wr.cell? ⟨b7,off+(lo+hi) / 2*8+5,none⟩=some (.bool y.rdy):=hcell 5 _ rfl
   have u6:wr.cell? ⟨b7,off+(lo+hi) / 2*8+6,none⟩=some (.int .u64 y.v):=hcell 6 _ rfl
   have u7:wr.cell? ⟨b7,off+(lo+hi) / 2*8+7,none⟩=some (.int .u32 y.r):=hcell 7 _ rfl
   rw [Nat.add_zero] at u0
   clear hcell
   have AF:=Lib.hid (findC_at y t wr)
   unfold valTl at AF
   by_cases hyt:y.id<t
   ·rw [show cmp3 y.id t=-1 from if_pos hyt] at AF
    go_wp2_with fail
    refine AF.out.mono ?_;clear AF;rintro e w5 ⟨rfl,hb5⟩
    go_wp2_with fail
    go_roundw
    case rel =>
     have HI':=Lib.hid (show (∀ (j:Nat) (y:TVw),j<(lo+hi) / 2+1→L[j]?=some y→y.id<t)∧(∀ (j:Nat) (y:TVw),hi≤j→L[j]?=some y→t≤y.id) from
      ⟨fun j z q e=>by
       rcases Nat.lt_or_ge j ((lo+hi) / 2) with q2 | q2
       ·have:=HUP.out.lt e HY.out q2;omega
       ·obtain rfl:j=(lo+hi) / 2:=by omega
        rw [HY.out] at e;cases e;exact hyt,HI.out.2⟩)
     exact ⟨(lo+hi) / 2+1,hi,by omega,hin,by go_num,rfl,Lib.hid (Below.step HB.out hb5),HI'⟩
    case measure=>simp [RowKit.intOf];omega
   ·obtain ⟨cv,hcv⟩:∃ cv,cv=cmp3 y.id t:=⟨_,rfl⟩
    have z1:decide (cv<0)=false:=by rw [hcv];unfold cmp3;rw [if_neg hyt];split <;> rfl
    rw [← hcv] at AF
    clear hcv
    go_wp2_with fail
    refine AF.out.mono ?_;clear AF;rintro e w5 ⟨rfl,hb5⟩
    go_wp2_with fail
    go_roundw
    case rel =>
     have HI':=Lib.hid (show (∀ (j:Nat) (y:TVw),j<lo→L[j]?=some y→y.id<t)∧(∀ (j:Nat) (y:TVw),(lo+hi) / 2≤j→L[j]?=some y→t≤y.id) from
      ⟨HI.out.1,fun j z q e=>by
       rcases Nat.lt_or_ge ((lo+hi) / 2) j with q2 | q2
       ·have:=HUP.out.lt HY.out e q2;omega
       ·obtain rfl:j=(lo+hi) / 2:=by omega
        rw [HY.out] at e;cases e;omega⟩)
     exact ⟨lo,(lo+hi) / 2,by omega,by omega,rfl,by go_num,Lib.hid (Below.step HB.out hb5),HI'⟩
    case measure=>simp [RowKit.intOf];omega
  ·as_aux_lemma =>
   obtain rfl:hi=lo:=by omega
   have hf:=fI_of (by rw [← HNL.out];exact hin) HI.out.1 HI.out.2
   have HF:=Lib.hid hf
   obtain rfl:I=hi:=HII.out.trans hf
   clear HI hf HII
   by_cases hn2:I<n
   ·obtain ⟨y,hy⟩:∃ y,L[I]?=some y:=⟨_,List.getElem?_eq_getElem (by rw [← HNL.out];omega)⟩
    have eB:bb=decide (y.id=t):=by rw [HBB.out];unfold fB;rw [HF.out,hy]
    obtain ⟨b7,off,rfl,-,hcell⟩:=cells_held encTl_ok (HH.out.later HB.out) hy
    clear hy
    have u0:wr.cell? ⟨b7,off+I*8+0,none⟩=some (.int .i64 y.id):=hcell 0 _ rfl
    have u1:wr.cell? ⟨b7,off+I*8+1,none⟩=some (.int .i64 y.g):=hcell 1 _ rfl
    have u2:wr.cell? ⟨b7,off+I*8+2,none⟩=some (.int .i64 y.w):=hcell 2 _ rfl
    have u3:wr.cell? ⟨b7,off+I*8+3,none⟩=some (.int .i64 y.cpu):=hcell 3 _ rfl
    have u4:wr.cell? ⟨b7,off+I*8+4,none⟩=some (.int .u64 y.mask):=hcell 4 _ rfl
    have u5:wr.cell? ⟨b7,off+I*8+5,none⟩=some (.bool y.rdy):=hcell 5 _ rfl
    have u6:wr.cell? ⟨b7,off+I*8+6,none⟩=some (.int .u64 y.v):=hcell 6 _ rfl
    have u7:wr.cell? ⟨b7,off+I*8+7,none⟩=some (.int .u32 y.r):=hcell 7 _ rfl
    rw [Nat.add_zero] at u0
    clear hcell
    have AF:=Lib.hid (findC_at y t wr)
    unfold valTl at AF
    obtain ⟨cv,hcv⟩:∃ cv,cv=cmp3 y.id t:=⟨_,rfl⟩
    have z1:decide (cv=0)=decide (y.id=t):=by
     rw [hcv];unfold cmp3
     by_cases q1:y.id<t
     ·rw [if_pos q1,decide_eq_false (show ¬ y.id=t by omega)];rfl
     ·rw [if_neg q1]
      by_cases q2:t<y.id
      ·rw [if_pos q2,decide_eq_false (show ¬ y.id=t by omega)];rfl
      ·rw [if_neg q2,decide_eq_true (show y.id=t by omega)];rfl
    rw [← hcv] at AF
    rw [← eB] at z1
    clear hcv eB HF HBB
    go_wp2_with fail
    refine AF.out.mono ?_;clear AF;rintro e w5 ⟨rfl,hb5⟩
    go_wp2_with fail
    exact bodyPost_ret (v:=.tuple #[.int .i64 I,.bool bb]) (by simp [results,Tryz.results204,go_sem];exact z1) rfl ⟨rfl,Below.step HB.out hb5⟩
   ·obtain rfl:bb=false:=by rw [HBB.out];unfold fB;rw [HF.out,List.getElem?_eq_none (by rw [← HNL.out];omega)]
    clear HF HBB
    go_wp2_with fail
    exact bodyPost_ret (v:=.tuple #[.int .i64 I,.bool false]) (by simp [results,Tryz.results204,go_sem]) rfl ⟨rfl,HB.out⟩
structure MH (F:List Nat) (w:World) (x:Nat) (σ:Sta):Prop where
 is:∃ vg vl vu vt vs,StB w x σ.C σ.cr vg vl vu vt vs∧w.cell? ⟨x,7,none⟩=some (.bool true)∧HeldR encG (x::F) w vg σ.Gs∧HeldR encZ1 (x::F) w vl σ.cl∧HeldR encZ1 (x::F) w vu σ.cu∧HeldR encTl (x::F) w vt σ.ts∧SpotsH (x::F) w vs σ.sp
theorem MH.later {F:List Nat} {w w':World} {x:Nat} {σ:Sta} (h:MH F w x σ) (hb:Below w.heap.size w w'):MH F w' x σ:=by
 obtain ⟨vg,vl,vu,vt,vs,h1,h2,h3,h4,h5,h6,h7⟩:=h.is
 exact ⟨vg,vl,vu,vt,vs,h1.later hb,cell_later hb h2,h3.later hb,h4.later hb,h5.later hb,h6.later hb,h7.step (Kept.of hb) fun b q=>Or.inl q⟩
set_option maxRecDepth 100000 in
theorem mfind_at {F:List Nat} {w:World} {x:Nat} {σ:Sta} (t:Int) (h:MH F w x σ) (hup:IdsUp σ.ts) (hn:σ.ts.length≤1000000) :
  Calls Tryz.prog 137 #[.pointer (some ⟨x,0,none⟩),.int .i64 t] w fun e w'=>e=.returned (.int .i64 (findM σ.ts t))∧Below w.heap.size w w':=by
 obtain ⟨vg,vl,vu,vt,vs,h1,-,-,-,-,h6,-⟩:=h.is
 obtain ⟨a,c,rfl,-⟩:=h6
 have h6':=(h.is)
 have h5:=h1.c5
 have A1:=Lib.hid (bsf_at t (by obtain ⟨_,_,_,_,_,q1,-,-,-,-,q6,-⟩:=h.is;have e:=q1.c5.symm.trans h5;cases e;exact q6) hup hn)
 obtain ⟨bb,hbb⟩:∃ b,b=fB σ.ts t:=⟨_,rfl⟩
 obtain ⟨I,hI⟩:∃ I,I=fI σ.ts t:=⟨_,rfl⟩
 unfold findM
 rw [← hbb,← hI] at A1 ⊢
 clear h h1 h6' hup hbb hI
 cases bb with
 | true =>
  rw [if_pos rfl]
  go_enter Tryz.func137,Tryz.ntmps137
  go_wp2_with fail
  refine A1.out.mono ?_;clear A1;rintro e w5 ⟨rfl,hb5⟩
  go_wp2_with fail
  go_ret
  exact ⟨rfl,hb5⟩
 | false =>
  rw [if_neg (by decide)]
  go_enter Tryz.func137,Tryz.ntmps137
  go_wp2_with fail
  refine A1.out.mono ?_;clear A1;rintro e w5 ⟨rfl,hb5⟩
  go_wp2_with fail
  go_ret
  exact ⟨rfl,hb5⟩
end Go.Proofs.YtapnaocdehahdaaGreat
