/-
  Layer 30 (model): the first member of a queue.
-/
import Derived.Test.YtapnaocdehahdaaGreatSchMb
namespace Go.Proofs.YtapnaocdehahdaaGreat
open Go.RowKit Go.Maps Go.IntWalk Go.Lib
set_option linter.unusedVariables false
set_option linter.unusedSimpArgs false
abbrev Mem:=Nat→Int
def topM:Mem:=tri 18446744073709551615 18446744073709551615 18446744073709551615
def askM (p:Bool×Mem) (x:Mem):Bool×Mem:=(true,if ltM x p.2 then x else p.2)
def isIn (g c:Nat) (y:TVw):Bool:=y.rdy && decide (y.g=(g:Int)) && decide (y.cpu=(c:Int))
def taskM (g c:Nat) (p:Bool×Mem) (y:TVw):Bool×Mem:=if isIn g c y then askM p (tri y.v 0 y.id) else p
def tskM (L:List TVw) (g c:Nat):Bool×Mem:=L.foldl (taskM g c) (false,topM)
def spotV (σ:Sta) (h c:Nat):Int:=((σ.sp[h]?.bind fun l=>l[c]?).map fun x=>x.1).getD 0
def groupM (σ:Sta) (g c:Nat) (lf:Nat→Bool×Mem) (p:Bool×Mem) (h:Nat):Bool×Mem:=if g<h∧parG σ.Gs h=g∧(lf h).1=true then askM p (tri (spotV σ h c) 1 h) else p
def leastF (σ:Sta) (c:Nat):Nat→Nat→Bool×Mem
 | 0,_=>(false,topM)
 | k+1,g=>(List.range σ.sp.length).foldl (groupM σ g c (leastF σ c k)) (tskM σ.ts g c)
theorem foldl_congr {α β:Type} {f f':β→α→β}:∀ (l:List α) (b:β),(∀ a∈l,∀ b,f b a=f' b a)→l.foldl f b=l.foldl f' b
 | [],_,_=>rfl
 | a::r,b,h=>by
  rw [List.foldl_cons,List.foldl_cons,h a (List.mem_cons_self ..) b]
  exact foldl_congr r _ fun x hx=>h x (List.mem_cons_of_mem _ hx)
theorem leastF_more (σ:Sta) (c:Nat):∀ (k k' g:Nat),g<σ.sp.length→σ.sp.length - g≤k→σ.sp.length - g≤k'→leastF σ c k g=leastF σ c k' g
 | 0,_,_,h,h1,_=>by omega
 | _+1,0,_,h,_,h2=>by omega
 | k+1,k'+1,g,h,h1,h2=>by
  unfold leastF
  refine foldl_congr _ _ fun a ha b=>?_
  have han:=List.mem_range.1 ha
  unfold groupM
  by_cases hga:g<a
  ·rw [leastF_more σ c k k' a han (by omega) (by omega)]
  ·rw [if_neg fun q=>hga q.1,if_neg fun q=>hga q.1]
def leastM (σ:Sta) (g c:Nat):Bool×Mem:=leastF σ c (σ.sp.length - g) g
theorem leastM_eq (σ:Sta) {g:Nat} (c:Nat) (h:g<σ.sp.length):leastM σ g c=(List.range σ.sp.length).foldl (groupM σ g c fun h=>leastM σ h c) (tskM σ.ts g c):=by
 unfold leastM
 obtain ⟨k,hk⟩:∃ k,σ.sp.length - g=k+1:=⟨σ.sp.length - g - 1,by omega⟩
 rw [hk,leastF]
 refine foldl_congr _ _ fun a ha b=>?_
 have han:=List.mem_range.1 ha
 unfold groupM
 by_cases hga:g<a
 ·rw [leastF_more σ c k (σ.sp.length - a) a han (by omega) (by omega)]
 ·rw [if_neg fun q=>hga q.1,if_neg fun q=>hga q.1]
theorem groups_none (σ:Sta) (g c:Nat) (lf:Nat→Bool×Mem) (p:Bool×Mem):∀ k,k≤g+1→(List.range k).foldl (groupM σ g c lf) p=p
 | 0,_=>rfl
 | k+1,h=>by
  rw [List.range_succ,List.foldl_append,groups_none σ g c lf p k (by omega)]
  show groupM σ g c lf p k=p
  unfold groupM
  rw [if_neg fun q=>by have:=q.1;omega]
theorem groups_step (σ:Sta) (g c:Nat) (lf:Nat→Bool×Mem) (p:Bool×Mem) (k:Nat):(List.range (k+1)).foldl (groupM σ g c lf) p=groupM σ g c lf ((List.range k).foldl (groupM σ g c lf) p) k:=by
 rw [List.range_succ,List.foldl_append];rfl
theorem LB.later {w w':World} {b9 b8:Nat} {s:Bool} {g:Mem} (h:LB w b9 b8 s g) (hb:Below w.heap.size w w'):LB w' b9 b8 s g:=
 ⟨cell_later hb h.cs,fun j q=>cell_later hb (h.cb j q),frz_later hb h.zs (lt_of_cell h.cs),fun j=>frz_later hb (h.zb j) (lt_of_cell (h.cb 0 (by decide))),h.ne⟩
theorem fold_step {α β:Type} {L:List α} {k:Nat} {y:α} (h:L[k]?=some y) {f:β→α→β} {b:β}:(L.take (k+1)).foldl f b=f ((L.take k).foldl f b) y:=by
 rw [List.take_add_one,h,List.foldl_append];rfl
def W3 (w:World):World:=((w.alloc (.cells #[.int .u64 0,.int .u64 0,.int .u64 0] 214)).alloc (.cells #[.int .u64 18446744073709551615,.int .u64 18446744073709551615,.int .u64 18446744073709551615] 214)).alloc (.cells #[.bool false] 4)
theorem W3_below (w:World):Below w.heap.size w (W3 w):=Below.allocS (Below.allocS (Below.allocS (Below.refl _ _) _) _) _
theorem W3_lb (w:World):LB (W3 w) (w.heap.size+1+1) (w.heap.size+1) false topM:=by
 refine ⟨cell_nwE (by simp) _ _ 0 _ rfl,tri_cells (cell_al _ (cell_nwE (by simp) _ _ 0 _ rfl)) (cell_al _ (cell_nwE (by simp) _ _ 1 _ rfl)) (cell_al _ (cell_nwE (by simp) _ _ 2 _ rfl)),frz_nwE (by simp) _ _ 0,fun j=>frz_later (below_a _ _) (frz_nwE (by simp) _ _ j) (by simp),by omega⟩
theorem W3_six (w:World):(∀ j,j<3→(W3 w).cell? ⟨w.heap.size,j,none⟩=some (.int .u64 0))∧∀ j,(W3 w).frozen? ⟨w.heap.size,j,none⟩=false:=by
 refine ⟨fun j q=>?_,fun j=>by unfold W3;exact frz_later (below_a _ _) (frz_later (below_a _ _) (frz_nw w _ _ j) (by simp)) (by simp;omega)⟩
 rcases (show j=0∨j=1∨j=2 by omega) with rfl | rfl | rfl
 ·exact cell_al _ (cell_al _ (cell_nw w _ _ 0 _ rfl))
 ·exact cell_al _ (cell_al _ (cell_nw w _ _ 1 _ rfl))
 ·exact cell_al _ (cell_al _ (cell_nw w _ _ 2 _ rfl))
def LeastP (σ:Sta) (g c:Nat) (w:World) (e:Ending) (w':World):Prop:=e=.returned (.tuple #[.agg #[.int .u64 ((leastM σ g c).2 0),.int .u64 ((leastM σ g c).2 1),.int .u64 ((leastM σ g c).2 2)],.bool (leastM σ g c).1])∧Below w.heap.size w w'
set_option maxRecDepth 100000 in
set_option maxHeartbeats 2000000 in
theorem least_go {F:List Nat} {x:Nat} {σ:Sta} (c:Nat) (hid:∀ y∈σ.ts,0≤y.id∧y.id≤65535) (hts:σ.ts.length≤1000000) (hsp:σ.sp.length≤1000000) (hG:RightG σ.Gs) (hGn:σ.Gs.length=σ.sp.length) (hC:∀ l∈σ.sp,c<l.length) (N:Nat) :
  ∀ (g:Nat) (w:World),σ.sp.length - g≤N→MH F w x σ→g<σ.sp.length→Calls Tryz.prog 138 #[.pointer (some ⟨x,0,none⟩),.int .i64 g,.int .i64 c] w (LeastP σ g c w):=by
 induction N with
 | zero=>intro g w h0 _ hg;omega
 | succ N ih =>
 intro g w hN h hgn
 have HIH:=Lib.hid ih
 clear ih
 unfold LeastP
 obtain ⟨R,hR⟩:∃ R,R=leastM σ g c:=⟨_,rfl⟩
 rw [← hR]
 have HR:=Lib.hid hR
 clear hR
 have HG:=Lib.hid (show RightG σ.Gs∧σ.Gs.length=σ.sp.length∧∀ l∈σ.sp,c<l.length from ⟨hG,hGn,hC⟩)
 have HFUEL:=Lib.hid hN
 have H6:=Lib.hid (W3_six w)
 clear hG hGn hC hN
 have HM:=Lib.hid (h.later (W3_below w))
 have HMW:=Lib.hid h
 have HID:=Lib.hid hid
 clear hid
 have HGN:=Lib.hid hgn
 have HSP:=Lib.hid hsp
 clear hgn hsp
 have HB0:=Lib.hid (W3_below w)
 have HL0:=Lib.hid (W3_lb w)
 have hW:=W3.eq_1 w
 obtain ⟨W0,hW0⟩:∃ W,W=W3 w:=⟨_,rfl⟩
 rw [← hW0] at HM HB0 HL0 hW H6
 clear hW0
 go_enter Tryz.func138,Tryz.ntmps138
 go_upto_region 3 with fail
 rw [← hW]
 obtain ⟨vg,vl,vu,vt,vs,h1,-,-,-,-,h6,-⟩:=HM.out.is
 have h5:=h1.c5
 obtain ⟨a,c1,rfl,-⟩:=h6
 clear h1 hW
 obtain ⟨b9,hb9⟩:∃ b,b=w.heap.size+1+1:=⟨_,rfl⟩
 obtain ⟨b8,hb8⟩:∃ b,b=w.heap.size+1:=⟨_,rfl⟩
 obtain ⟨b6,hb6⟩:∃ b,b=w.heap.size:=⟨_,rfl⟩
 rw [← hb9,← hb8] at HL0 ⊢
 rw [← hb6] at H6 ⊢
 have HB6:=Lib.hid hb6
 have H89:=Lib.hid (show w.heap.size<b8∧w.heap.size<b9 by omega)
 obtain ⟨n,hn⟩:∃ n,n=σ.ts.length:=⟨_,rfl⟩
 rw [← hn] at h5
 have HN:=Lib.hid hn
 rw [← hn] at hts
 have H0:=Lib.hid (show (false,topM)=(σ.ts.take 0).foldl (taskM g c) (false,topM) from rfl)
 have HK0:=Lib.hid (Kept.refl [b9,b8] W0)
 clear hb6 hb8 hb9 h hn
 go_wp2_with fail
 go_loopw [24] (fun iv wr=>∃ (k:Nat) (p:Bool×Mem),k≤n∧iv=.int .i64 k∧Hid (p=(σ.ts.take k).foldl (taskM g c) (false,topM))∧Hid (LB wr b9 b8 p.1 p.2)∧Hid (Kept [b9,b8] W0 wr)) (fun iv _=>n - (RowKit.intOf iv).toNat)
 case atStart=>exact ⟨0,_,Nat.zero_le _,rfl,H0,HL0,HK0⟩
 case round =>
  clear HL0 H0 HK0
  obtain ⟨k,p,hk,rfl,HP,HL,HK⟩:=hrel
  by_cases hlt:k<n
  ·as_aux_lemma =>
   obtain ⟨y,hy⟩:∃ y,σ.ts[k]?=some y:=⟨_,List.getElem?_eq_getElem (by rw [← HN.out];exact hlt)⟩
   have hyr:=HID.out y (List.mem_of_getElem? hy)
   have HY:=Lib.hid hy
   obtain ⟨_,_,_,_,_,q1,-,-,-,-,q6,-⟩:=HMW.out.is
   have e5:=(cell_later HB0.out q1.c5).symm.trans h5
   cases e5
   obtain ⟨b7,off,rfl,⟨-,hb7⟩,hcell⟩:=cells_held encTl_ok q6 hy
   have hn7:b7∉[b9,b8]:=by have:=H89.out;simp;omega
   have hcl:∀ (j:Nat) (u:Value),(encTl y)[j]?=some u→wr.cell? ⟨b7,off+k*8+j,none⟩=some u:=fun j u q=>HK.out.cellAt (cell_later HB0.out (hcell j u q)) hn7
   clear hcell q1 q6 hb7 hn7 hy h5
   have u0:wr.cell? ⟨b7,off+k*8+0,none⟩=some (.int .i64 y.id):=hcl 0 _ rfl
   have u1:wr.cell? ⟨b7,off+k*8+1,none⟩=some (.int .i64 y.g):=hcl 1 _ rfl
   have u2:wr.cell? ⟨b7,off+k*8+2,none⟩=some (.int .i64 y.w):=hcl 2 _ rfl
   have u3:wr.cell? ⟨b7,off+k*8+3,none⟩=some (.int .i64 y.cpu):=hcl 3 _ rfl
   have u4:wr.cell? ⟨b7,off+k*8+4,none⟩=some (.int .u64 y.mask):=hcl 4 _ rfl
   have u5:wr.cell? ⟨b7,off+k*8+5,none⟩=some (.bool y.rdy):=hcl 5 _ rfl
   have u6:wr.cell? ⟨b7,off+k*8+6,none⟩=some (.int .u64 y.v):=hcl 6 _ rfl
   have u7:wr.cell? ⟨b7,off+k*8+7,none⟩=some (.int .u32 y.r):=hcl 7 _ rfl
   rw [Nat.add_zero] at u0
   clear hcl
   obtain ⟨W8,hW8⟩:∃ W,W=wr.alloc (.cells #[.int .i64 y.id,.int .i64 y.g,.int .i64 y.w,.int .i64 y.cpu,.int .u64 y.mask,.bool y.rdy,.int .u64 y.v,.int .u32 y.r] 59):=⟨_,rfl⟩
   have y0:W8.cell? ⟨wr.heap.size,0,none⟩=some (.int .i64 y.id):=by rw [hW8];exact cell_nw wr _ _ 0 _ rfl
   have y1:W8.cell? ⟨wr.heap.size,1,none⟩=some (.int .i64 y.g):=by rw [hW8];exact cell_nw wr _ _ 1 _ rfl
   have y3:W8.cell? ⟨wr.heap.size,3,none⟩=some (.int .i64 y.cpu):=by rw [hW8];exact cell_nw wr _ _ 3 _ rfl
   have y5:W8.cell? ⟨wr.heap.size,5,none⟩=some (.bool y.rdy):=by rw [hW8];exact cell_nw wr _ _ 5 _ rfl
   have y6:W8.cell? ⟨wr.heap.size,6,none⟩=some (.int .u64 y.v):=by rw [hW8];exact cell_nw wr _ _ 6 _ rfl
   have hb8':Below wr.heap.size wr W8:=by rw [hW8];exact below_a _ _
   have HL8:=Lib.hid (HL.out.later hb8')
   have HK8:=Lib.hid (HK.out.step hb8')
   clear hb8'
   go_upto_region 6 with fail
   rw [← hW8]
   clear hW8 u0 u1 u2 u3 u4 u5 u6 u7
   have zw:IntKind.u64.wrap y.id=y.id:=IntWalk.u64_in _ (by omega)
   clear hyr
   obtain ⟨rd,hrd⟩:∃ b,b=y.rdy:=⟨_,rfl⟩
   rw [← hrd] at y5
   have HRD:=Lib.hid hrd
   clear hrd
   by_cases hin:rd=true∧y.g=(g:Int)∧y.cpu=(c:Int)
   ·obtain ⟨rfl,hg,hc⟩:=hin
    have z1:decide (y.g=(g:Int))=true:=decide_eq_true hg
    have z2:decide (y.cpu=(c:Int))=true:=decide_eq_true hc
    have HP':=Lib.hid (show askM p (tri y.v 0 y.id)=(σ.ts.take (k+1)).foldl (taskM g c) (false,topM) by
     rw [fold_step HY.out,← HP.out]
     unfold taskM isIn
     rw [← HRD.out,z1,z2];rfl)
    clear z1 z2 HRD
    have AF:=Lib.hid (leastC_at y.v 0 y.id HL8.out)
    go_wp2_with fail
    refine AF.out.mono ?_;clear AF;rintro e w9 ⟨rfl,hl9,hk9⟩
    have HL9:=Lib.hid hl9
    have HK9:=Lib.hid (HK8.out.trans hk9)
    clear hl9 hk9 y0 y1 y3 y5 y6
    go_wp2_with fail
    go_roundw
    case rel=>exact ⟨k+1,_,by omega,by go_num,HP',HL9,HK9⟩
    case measure=>simp [RowKit.intOf];omega
   ·have HP':=Lib.hid (show p=(σ.ts.take (k+1)).foldl (taskM g c) (false,topM) by
     rw [fold_step HY.out,← HP.out]
     unfold taskM isIn
     rw [← HRD.out,if_neg (by simp only [Bool.and_eq_true,decide_eq_true_eq];exact fun q=>hin ⟨q.1.1,q.1.2,q.2⟩)])
    have fin:∀ W:World,Hid (LB W b9 b8 p.1 p.2)→Hid (Kept [b9,b8] W0 W)→True:=fun _ _ _=>trivial
    cases rd with
    | false =>
     clear hin HRD
     go_wp2_with fail
     go_roundw
     case rel=>exact ⟨k+1,p,by omega,by go_num,HP',HL8,HK8⟩
     case measure=>simp [RowKit.intOf];omega
    | true =>
     by_cases hg:y.g=(g:Int)
     ·have z2:¬ y.cpu=(c:Int):=fun q=>hin ⟨rfl,hg,q⟩
      clear hin HRD
      go_wp2_with fail
      go_roundw
      case rel=>exact ⟨k+1,p,by omega,by go_num,HP',HL8,HK8⟩
      case measure=>simp [RowKit.intOf];omega
     ·clear hin HRD
      go_wp2_with fail
      go_roundw
      case rel=>exact ⟨k+1,p,by omega,by go_num,HP',HL8,HK8⟩
      case measure=>simp [RowKit.intOf];omega
  ·as_aux_lemma =>
   obtain rfl:k=n:=by omega
   have hp:p=tskM σ.ts g c:=by rw [HP.out,HN.out,List.take_length];rfl
   have HPT:=Lib.hid hp
   clear HP hp hlt hk h5
   obtain ⟨vg',vl',vu',vt',vs',q1,-,qg,-,-,-,qs⟩:=HMW.out.is
   obtain ⟨l,hl,qs1,qs2⟩:=qs.rows
   have HQS2:=Lib.hid qs2
   obtain ⟨al,cl,rfl⟩:∃ a c,vs'=.slice a l.length c:=by obtain ⟨a,c,e,_⟩:=qs1;exact ⟨a,c,e⟩
   have HQS1:=Lib.hid qs1
   obtain ⟨ag,cg,rfl⟩:∃ a c,vg'=.slice a σ.Gs.length c:=by obtain ⟨a,c,e,_⟩:=qg;exact ⟨a,c,e⟩
   have HQG:=Lib.hid qg
   have HLL:=Lib.hid hl
   clear qs qs1 qs2 qg
   obtain ⟨nS,hnS⟩:∃ k,k=σ.sp.length:=⟨_,rfl⟩
   have HNS:=Lib.hid hnS
   have hxn:x∉[b9,b8]:=by have:=H89.out;have:=lt_of_cell q1.c0;simp;omega
   have T6:=Lib.hid (show W0.cell? ⟨x,6,none⟩=some (.slice al nS cl) by have:=cell_later HB0.out q1.c6;rw [hl,← hnS] at this;exact this)
   have T2:=Lib.hid (show W0.cell? ⟨x,2,none⟩=some (.slice ag σ.Gs.length cg) from cell_later HB0.out q1.c2)
   have HXN:=Lib.hid hxn
   clear q1 hl hnS hxn vl' vu' vt'
   have hgs:g<nS∧nS≤1000000:=by have:=HGN.out;have:=HSP.out;have:=HNS.out;omega
   have HQ0:=Lib.hid (show p=(List.range (g+1)).foldl (groupM σ g c fun h=>leastM σ h c) (tskM σ.ts g c) by rw [groups_none _ _ _ _ _ _ (Nat.le_refl _),HPT.out])
   have t6:=HK.out.cellAt T6.out HXN.out
   obtain ⟨wo,rfl⟩:∃ W:World,W=wr:=⟨_,rfl⟩
   go_wp2_with fail
   clear t6
   go_loopw [13] (fun iv wr=>∃ (h:Nat) (p:Bool×Mem),g+1≤h∧h≤nS∧iv=.int .i64 h∧Hid (p=(List.range h).foldl (groupM σ g c fun h=>leastM σ h c) (tskM σ.ts g c))∧Hid (LB wr b9 b8 p.1 p.2)∧Hid (Kept [b9,b8] W0 wr)) (fun iv _=>nS - (RowKit.intOf iv).toNat)
   case atStart=>exact ⟨g+1,p,Nat.le_refl _,by omega,by go_num,HQ0,HL,HK⟩
   case round =>
    clear HQ0 HL HK HPT
    obtain ⟨h,q,hgh,hhn,rfl,HQ,HL,HK⟩:=hrel
    have hbq:Below w.heap.size w wr:=Kept.stepB HB0.out (Nat.le_refl _) HK.out fun b m=>by have:=H89.out;simp at m;omega
    have HBQ:=Lib.hid hbq
    clear hbq
    have t6:=HK.out.cellAt T6.out HXN.out
    by_cases hlt:h<nS
    ·as_aux_lemma =>
     have hGL:h<σ.Gs.length:=by rw [HG.out.2.1,← HNS.out];exact hlt
     have t2:=HK.out.cellAt T2.out HXN.out
     obtain ⟨gy,hgy⟩:∃ y,σ.Gs[h]?=some y:=⟨_,List.getElem?_eq_getElem hGL⟩
     have hgi:(h:Int)<(σ.Gs.length:Int):=by omega
     have hni:(h:Int)<(nS:Int):=by omega
     obtain ⟨bg,og,rfl,⟨-,hbg⟩,gcell⟩:=cells_held encG_ok HQG.out hgy
     have hbgn:bg∉[b9,b8]:=by have:=H89.out;simp;omega
     have u0:wr.cell? ⟨bg,og+h*2+0,none⟩=some (.int .i64 gy.1):=HK.out.cellAt (cell_later HB0.out (gcell 0 _ rfl)) hbgn
     rw [Nat.add_zero] at u0
     have hpar:=(HG.out.1.par hGL).1
     have egy:gy=σ.Gs[h]!:=by rw [getElem!_pos σ.Gs h hGL];rw [List.getElem?_eq_getElem hGL] at hgy;exact (Option.some.inj hgy).symm
     rw [← egy] at hpar
     have HPAR:=Lib.hid hpar
     clear hpar egy gcell hbg hgy hbgn
     by_cases hp:gy.1=(g:Int)
     ·have hpg:parG σ.Gs h=g:=by have:=HPAR.out;omega
      have AF:=Lib.hid (HIH.out h wr (by have:=HFUEL.out;have:=HNS.out;omega) (HMW.out.later HBQ.out) (by rw [← HNS.out];exact hlt))
      unfold LeastP at AF
      have HPG:=Lib.hid hpg
      clear hpg
      obtain ⟨lm,hlm⟩:∃ r,r=leastM σ h c:=⟨_,rfl⟩
      rw [← hlm] at AF
      have HLM:=Lib.hid hlm
      clear hlm
      obtain ⟨sm,rm⟩:=lm
      simp only at AF
      go_wp2_with fail
      refine AF.out.mono ?_;clear AF;rintro e w5 ⟨rfl,hb5⟩
      go_upto_region 14 with fail
      obtain ⟨W8,hW8⟩:∃ W,W=w5.alloc (.cells #[.int .u64 (rm 0),.int .u64 (rm 1),.int .u64 (rm 2)] 214):=⟨_,rfl⟩
      rw [← hW8]
      have hb8:Below wr.heap.size wr W8:=by rw [hW8];exact Below.step hb5 (below_a _ _)
      have HL8:=Lib.hid (HL.out.later hb8)
      have HK8:=Lib.hid (HK.out.step hb8)
      replace t6:=cell_later hb8 t6
      replace t2:=cell_later hb8 t2
      replace u0:=cell_later hb8 u0
      clear hb8 hb5 hW8
      cases sm with
      | false =>
       have HQ':=Lib.hid (show q=(List.range (h+1)).foldl (groupM σ g c fun h=>leastM σ h c) (tskM σ.ts g c) by
        rw [groups_step,← HQ.out]
        unfold groupM
        rw [if_neg (by rintro ⟨_,_,q3⟩;replace q3:(leastM σ h c).1=true:=q3;rw [← HLM.out] at q3;cases q3)])
       go_wp2_with fail
       go_roundw
       case rel=>exact ⟨h+1,q,by omega,by omega,by go_num,HQ',HL8,HK8⟩
       case measure=>simp [RowKit.intOf];omega
      | true =>
       obtain ⟨row,hrow⟩:∃ y,σ.sp[h]?=some y:=⟨_,List.getElem?_eq_getElem (by rw [← HNS.out];exact hlt)⟩
       have hcr:=HG.out.2.2 row (List.mem_of_getElem? hrow)
       obtain ⟨⟨v1,v2,v3⟩,hsp3⟩:∃ y,row[c]?=some y:=⟨_,List.getElem?_eq_getElem hcr⟩
       have HQ':=Lib.hid (show askM q (tri v1 1 (h:Int))=(List.range (h+1)).foldl (groupM σ g c fun h=>leastM σ h c) (tskM σ.ts g c) by
        rw [groups_step,← HQ.out]
        unfold groupM
        rw [if_pos ⟨by omega,HPG.out,by show (leastM σ h c).1=true;rw [← HLM.out]⟩]
        have:spotV σ h c=v1:=by unfold spotV;rw [hrow,Option.bind_some,hsp3];rfl
        rw [this])
       obtain ⟨⟨ar,lr,cr'⟩,har⟩:∃ y,l[h]?=some y:=⟨_,List.getElem?_eq_getElem (by rw [HLL.out,← HNS.out];exact hlt)⟩
       have hrw:=HQS2.out h _ row har hrow
       simp only at hrw
       have hlr:lr=row.length:=by obtain ⟨_,_,e,_⟩:=hrw;cases e;rfl
       have hci:(c:Int)<(lr:Int):=by omega
       obtain ⟨bR,oR,rfl,⟨-,hbR⟩,rcell⟩:=cells_held encSp_ok hrw hsp3
       have hl2:l.length=nS:=by rw [HLL.out,HNS.out]
       obtain ⟨bS,oS,rfl,⟨-,hbS⟩,scell⟩:=cells_held encSl_ok HQS1.out har
       have s6:W8.cell? ⟨bS,oS+h*1+0,none⟩=some (.slice (some ⟨bR,oR,none⟩) lr cr'):=HK8.out.cellAt (cell_later HB0.out (scell 0 _ rfl)) (by have:=H89.out;simp;omega)
       have v6:W8.cell? ⟨bR,oR+c*3+0,none⟩=some (.int .u64 v1):=HK8.out.cellAt (cell_later HB0.out (rcell 0 _ rfl)) (by have:=H89.out;simp;omega)
       rw [Nat.mul_one,Nat.add_zero] at s6
       rw [Nat.add_zero] at v6
       have zw:IntKind.u64.wrap (h:Int)=(h:Int):=IntWalk.u64_in _ (by omega)
       clear rcell scell hrw har hrow hsp3 hcr hlr hl2 hbR hbS
       have AF:=Lib.hid (leastC_at v1 1 (h:Int) HL8.out)
       go_wp2_with fail
       refine AF.out.mono ?_;clear AF;rintro e w9 ⟨rfl,hl9,hk9⟩
       have HL9:=Lib.hid hl9
       have HK9:=Lib.hid (HK8.out.trans hk9)
       clear hl9 hk9 t6 t2 u0 s6 v6
       go_wp2_with fail
       go_roundw
       case rel=>exact ⟨h+1,_,by omega,by omega,by go_num,HQ',HL9,HK9⟩
       case measure=>simp [RowKit.intOf];omega
     ·have HQ':=Lib.hid (show q=(List.range (h+1)).foldl (groupM σ g c fun h=>leastM σ h c) (tskM σ.ts g c) by
       rw [groups_step,← HQ.out]
       unfold groupM
       rw [if_neg (by have:=HPAR.out;rintro ⟨_,q2,_⟩;omega)])
      go_wp2_with fail
      go_roundw
      case rel=>exact ⟨h+1,q,by omega,by omega,by go_num,HQ',HL,HK⟩
      case measure=>simp [RowKit.intOf];omega
    ·as_aux_lemma =>
     obtain rfl:h=nS:=by omega
     have hq:q=R:=by rw [HR.out,leastM_eq σ c HGN.out,← HNS.out];exact HQ.out
     subst hq
     have hni:¬ (h:Int)<(h:Int):=by omega
     have s8:=HL.out.cs
     have g0:=HL.out.cb 0 (by decide)
     have g1:=HL.out.cb 1 (by decide)
     have g2:=HL.out.cb 2 (by decide)
     have n6:b6∉[b9,b8]:=by have:=H89.out;have:=HB6.out;simp;omega
     have k0:=HK.out.cellAt (H6.out.1 0 (by decide)) n6
     have k1:=HK.out.cellAt (H6.out.1 1 (by decide)) n6
     have k2:=HK.out.cellAt (H6.out.1 2 (by decide)) n6
     have l6:=lt_of_cell (H6.out.1 0 (by decide))
     have f0:=HK.out.frz (H6.out.2 0) l6 n6
     have f1:=HK.out.frz (H6.out.2 1) l6 n6
     have f2:=HK.out.frz (H6.out.2 2) l6 n6
     have n9:b9≠b6:=by have:=H89.out;have:=HB6.out;omega
     have s8':(((wr.setCell ⟨b6,0,none⟩ (.int .u64 (q.2 0))).setCell ⟨b6,1,none⟩ (.int .u64 (q.2 1))).setCell ⟨b6,2,none⟩ (.int .u64 (q.2 2))).cell? ⟨b9,0,none⟩=some (.bool q.1):=cell_set_ne (cell_set_ne (cell_set_ne s8 (Or.inl n9)) (Or.inl n9)) (Or.inl n9)
     clear n6 l6
     go_wp2_with fail
     go_region
     obtain ⟨WE,hWE⟩:∃ W,W=((((wr.setCell ⟨b6,0,none⟩ (.int .u64 (q.2 0))).setCell ⟨b6,1,none⟩ (.int .u64 (q.2 1))).setCell ⟨b6,2,none⟩ (.int .u64 (q.2 2))).drew):=⟨_,rfl⟩
     rw [← hWE]
     have e0:WE.cell? ⟨b6,0,none⟩=some (.int .u64 (q.2 0)):=by rw [hWE];exact cell_dr (cell_set_ne (cell_set_ne (cell_set_eq k0) (Or.inr (by decide))) (Or.inr (by decide)))
     have e1:WE.cell? ⟨b6,1,none⟩=some (.int .u64 (q.2 1)):=by rw [hWE];exact cell_dr (cell_set_ne (cell_set_eq (cell_set_ne k1 (Or.inr (by decide)))) (Or.inr (by decide)))
     have e2:WE.cell? ⟨b6,2,none⟩=some (.int .u64 (q.2 2)):=by rw [hWE];exact cell_dr (cell_set_eq (cell_set_ne (cell_set_ne k2 (Or.inr (by decide))) (Or.inr (by decide))))
     have hbe:Below w.heap.size w WE:=by
      rw [hWE]
      have h6:w.heap.size≤b6:=by rw [HB6.out];exact Nat.le_refl _
      exact (((HBQ.out.setCell h6 _).setCell h6 _).setCell h6 _).drew
     clear hWE k0 k1 k2 g0 g1 g2 f0 f1 f2 s8 s8'
     go_wp2_with fail
     exact bodyPost_ret (v:=.tuple #[.agg #[.int .u64 (q.2 0),.int .u64 (q.2 1),.int .u64 (q.2 2)],.bool q.1]) (by simp [results,Tryz.results138,go_sem,e0,e1,e2]) rfl ⟨rfl,hbe⟩
end Go.Proofs.YtapnaocdehahdaaGreat
