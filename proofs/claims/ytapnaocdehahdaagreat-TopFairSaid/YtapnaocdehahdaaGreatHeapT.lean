/-
  Layer 18 (heap): settle.
-/
import Derived.Test.YtapnaocdehahdaaGreatHpS
import Derived.WalkMore
namespace Go.Proofs.YtapnaocdehahdaaGreat
open Go.RowKit Go.Maps Go.IntWalk Go.Lib Go.Sort
set_option linter.unusedVariables false
theorem list_all {α:Type} (d:α) (l:List α):l=(List.range l.length).map fun i=>l.getD i d:=by
 apply List.ext_getElem?
 intro i
 by_cases h:i<l.length
 ·simp [h]
 ·simp [h]
def FrameS (p bx:Nat) (k:Int) (a:Act):Prop:=∃ u:Nat→Value,a={ tmps:=(.pointer (some ⟨p,0,none⟩)::.int .i64 k::u 2::u 3::.pointer (some ⟨bx,0,none⟩)::u 5::u 6::u 7::u 8::u 9::u 10::u 11::u 12::u 13::u 14::u 15::u 16::u 17::u 18::u 19::u 20::u 21::u 22::u 23::u 24::u 25::u 26::u 27::u 28::u 29::u 30::u 31::u 32::u 33::u 34::u 35::u 36::u 37::u 38::u 39::u 40::u 41::u 42::u 43::u 44::u 45::u 46::u 47::u 48::u 49::u 50::u 51::u 52::u 53::u 54::u 55::u 56::u 57::u 58::u 59::u 60::u 61::u 62::u 63::u 64::u 65::u 66::u 67::u 68::u 69::u 70::u 71::u 72::u 73::u 74::u 75::u 76::u 77::u 78::u 79::u 80::u 81::u 82::u 83::u 84::u 85::u 86::u 87::u 88::u 89::u 90::u 91::u 92::u 93::u 94::u 95::u 96::u 97::u 98::u 99::u 100::u 101::u 102::u 103::u 104::u 105::u 106::u 107::[]).toArray,defers:=[] }
set_option maxRecDepth 100000 in
theorem frame_fun (g:Nat→Value) (l:List Value) (e:l=(List.range 108).map g):({ tmps:=⟨l⟩,defers:=[] }:Act)={ tmps:=(g 0::g 1::g 2::g 3::g 4::g 5::g 6::g 7::g 8::g 9::g 10::g 11::g 12::g 13::g 14::g 15::g 16::g 17::g 18::g 19::g 20::g 21::g 22::g 23::g 24::g 25::g 26::g 27::g 28::g 29::g 30::g 31::g 32::g 33::g 34::g 35::g 36::g 37::g 38::g 39::g 40::g 41::g 42::g 43::g 44::g 45::g 46::g 47::g 48::g 49::g 50::g 51::g 52::g 53::g 54::g 55::g 56::g 57::g 58::g 59::g 60::g 61::g 62::g 63::g 64::g 65::g 66::g 67::g 68::g 69::g 70::g 71::g 72::g 73::g 74::g 75::g 76::g 77::g 78::g 79::g 80::g 81::g 82::g 83::g 84::g 85::g 86::g 87::g 88::g 89::g 90::g 91::g 92::g 93::g 94::g 95::g 96::g 97::g 98::g 99::g 100::g 101::g 102::g 103::g 104::g 105::g 106::g 107::[]).toArray,defers:=[] }:=by rw [e];rfl
set_option maxRecDepth 100000 in
theorem FrameS.of {p bx:Nat} {k:Int} {a:Act} (hs:a.tmps.size=108) (h0:a.tmps[0]?=some (.pointer (some ⟨p,0,none⟩))) (h1:a.tmps[1]?=some (.int .i64 k)) (h4:a.tmps[4]?=some (.pointer (some ⟨bx,0,none⟩))) (hd:a.defers=[]):FrameS p bx k a:=by
 obtain ⟨⟨l⟩,d⟩:=a
 simp only at hd
 subst hd
 obtain ⟨g,hg⟩:∃ g,g=fun i=>l.getD i undef:=⟨_,rfl⟩
 have e:=list_all undef l
 rw [show l.length=108 from hs,← hg] at e
 have e0:g 0=.pointer (some ⟨p,0,none⟩):=by simp at h0;simp [hg,h0]
 have e1:g 1=.int .i64 k:=by simp at h1;simp [hg,h1]
 have e4:g 4=.pointer (some ⟨bx,0,none⟩):=by simp at h4;simp [hg,h4]
 exact ⟨g,by rw [frame_fun g l e,e0,e1,e4]⟩
structure AtUp (w:World) (p g cap bm:Nat) (n:Int) (V0:Items) (x:Int×Int) (fx:Bool) (w':World) (L:Items) (f:Int→Option Int) (c k:Nat):Prop where
 mid:Mid w' p g cap bm n L f c V0 x k
 b0:w'.cell? ⟨w.heap.size,0,none⟩=some (.int .i64 x.1)
 b1:w'.cell? ⟨w.heap.size,1,none⟩=some (.int .u64 x.2)
 kept:Kept [p,bm,g] w w'
def J0 (w:World) (p g cap bm:Nat) (n:Int) (V0:Items) (x:Int×Int) (fx:Bool) (a:Act) (w':World):Prop:=∃ L f c,∃ k:Nat,FrameS p w.heap.size k a∧AtUp w p g cap bm n V0 x fx w' L f c k
def J1 (w:World) (p g cap bm:Nat) (n:Int) (V0:Items) (x:Int×Int) (fx:Bool) (a:Act) (w':World):Prop:=∃ L f c,∃ k:Nat,FrameS p w.heap.size k a∧AtUp w p g cap bm n V0 x fx w' L f c k∧Above L x k
def Settled (w:World) (p g cap bm:Nat) (n:Int) (V0:Items) (w':World):Prop:=∃ V f,Good w' p (some g) cap bm n V f∧V.Perm V0∧Kept [p,bm,g] w w'
set_option maxRecDepth 100000 in
set_option maxHeartbeats 4000000 in
theorem settle_at {p g cap bm:Nat} {n:Int} {L:Items} {f:Int→Option Int} {c:Nat} (V0:Items) (k:Nat) (w:World) (h:Mid w p g cap bm n L f c V0 L[k]! k) :
  Calls Tryz.prog 247 #[.pointer (some ⟨p,0,none⟩),.int .i64 k] w fun e w'=>e=.returned (.tuple #[])∧Settled w p g cap bm n V0 w':=by
 generalize hx:L[k]! = x at h
 have H:=Lib.hid h
 have HX:=Lib.hid hx
 have HN:=Lib.hid (show w.heap.size∉[p,bm,g] by
  have e1:=h.raw.plt
  have e2:=h.raw.map.lt
  have e3:=h.raw.glt rfl
  simp only [List.mem_cons,List.not_mem_nil,or_false]
  omega)
 have A1:=Lib.hid fun x1 x2 y1 y2 w=>order_any x1 x2 y1 y2 w
 clear h hx
 go_enter Tryz.func247,Tryz.ntmps247
 refine wp_scope_two (J0 w p g cap bm n V0 x true) (J1 w p g cap bm n V0 x true) (fun a _=>(intOf (a.tmps.getD 1 undef)).toNat) (fun a _=>131073 - (intOf (a.tmps.getD 1 undef)).toNat) rfl rfl 131074 (fun a w _=>by omega) ?_ ?_ ?_
 --P1BEGIN
 ·rintro a w1 ⟨L1,f1,c1,k1,⟨u,rfl⟩,hA,hab⟩
  obtain ⟨hmid,b0,b1,hkept⟩:=hA
  have r:=hmid.raw
  have hlen:=hmid.len.1
  have hk:=hmid.lt
  have c0:=r.c0
  unfold rowV at c0
  simp only [Option.map_some] at c0
  have HM:=Lib.hid hmid
  have HB:=Lib.hid hab
  have HK:=Lib.hid hkept
  clear hab hkept hmid
  have hk0:(0:Int)≤(k1:Int):=by omega
  have hk1:(k1:Int)≤131072:=by omega
  by_cases h2:2*k1+2<L1.length
  ·obtain ⟨i1,i2⟩:=r.item (k:=2*k1+1) (by omega)
   obtain ⟨j1,j2⟩:=r.item (k:=2*k1+2) h2
   have t1:(2*(k1:Int)+1).toNat=2*k1+1:=by omega
   have t2:(2*(k1:Int)+1+1).toNat=2*k1+2:=by omega
   have l1:(2*(k1:Int)+1)<(L1.length:Int):=by omega
   have l2:(2*(k1:Int)+1+1)<(L1.length:Int):=by omega
   have l3:(0:Int)≤2*(k1:Int)+1:=by omega
   have l4:(0:Int)≤2*(k1:Int)+1+1:=by omega
   have w1':IntKind.i64.wrap (2*(k1:Int)+1+1)=2*(k1:Int)+1+1:=IntWalk.i64_in _ (by omega)
   have H2:=Lib.hid h2
   have H21:=Lib.hid (show 2*k1+1<L1.length by omega)
   clear hlen hk r h2
   obtain ⟨y,hy⟩:∃ y,y=L1[2*k1+1]!:=⟨_,rfl⟩
   obtain ⟨z,hz⟩:∃ z,z=L1[2*k1+2]!:=⟨_,rfl⟩
   rw [← hy] at i1 i2
   rw [← hz] at j1 j2
   have HNE:=Lib.hid (show z≠y by rw [hy,hz];exact HM.out.ne H2.out H21.out (by omega) (by omega) (by omega))
   have HYY:=Lib.hid hy
   have HZZ:=Lib.hid hz
   clear hy hz
   by_cases hs:ltI z y
   ·have zs:decide (ordV (z.1,z.2) (y.1,y.2)<0)=true:=decide_eq_true (ordV_neg.2 hs)
    have HSIB:=Lib.hid (show ∀ i,0<i→i<L1.length→par i=k1→i≠2*k1+2→ltI L1[2*k1+2]! L1[i]! by
     intro i i0 il hi hn
     have:i=2*k1+1:=by unfold par at hi;omega
     rw [this,← HYY.out,← HZZ.out];exact hs)
    clear hs
    go_wp2_with fail
    have c0_1:=fun o1=>cell_al o1 (c0)
    have c0_2:=fun o1 o2=>cell_al o2 (cell_al o1 (c0))
    have b0_1:=fun o1=>cell_al o1 (b0)
    have b0_2:=fun o1 o2=>cell_al o2 (cell_al o1 (b0))
    have b1_1:=fun o1=>cell_al o1 (b1)
    have b1_2:=fun o1 o2=>cell_al o2 (cell_al o1 (b1))
    have i1_1:=fun o1=>cell_al o1 (i1)
    have i1_2:=fun o1 o2=>cell_al o2 (cell_al o1 (i1))
    have i2_1:=fun o1=>cell_al o1 (i2)
    have i2_2:=fun o1 o2=>cell_al o2 (cell_al o1 (i2))
    have j1_1:=fun o1=>cell_al o1 (j1)
    have j1_2:=fun o1 o2=>cell_al o2 (cell_al o1 (j1))
    have j2_1:=fun o1=>cell_al o1 (j2)
    have j2_2:=fun o1 o2=>cell_al o2 (cell_al o1 (j2))
    clear c0_1 c0_2 b0_1 b0_2 b1_1 b1_2 i1_1 i1_2 i2_1 i2_2 j1_1 j1_2 j2_1 j2_2
    have hS0:Grows w1 w1.drew∧w1.drew.cell? ⟨p,0,none⟩=some (.slice (some ⟨g,0,none⟩) L1.length cap)∧w1.drew.cell? ⟨w.heap.size,0,none⟩=some (.int .i64 x.1)∧w1.drew.cell? ⟨w.heap.size,1,none⟩=some (.int .u64 x.2)∧w1.drew.cell? ⟨g,(2*k1+1)*2,none⟩=some (.int .i64 y.1)∧w1.drew.cell? ⟨g,(2*k1+1)*2+1,none⟩=some (.int .u64 y.2)∧w1.drew.cell? ⟨g,(2*k1+2)*2,none⟩=some (.int .i64 z.1)∧w1.drew.cell? ⟨g,(2*k1+2)*2+1,none⟩=some (.int .u64 z.2):=⟨(Grows.drew (Grows.refl _)),cell_dr c0,cell_dr b0,cell_dr b1,cell_dr i1,cell_dr i2,cell_dr j1,cell_dr j2⟩
    go_region_held3 (fun w'=>Grows w1 w'∧w'.cell? ⟨p,0,none⟩=some (.slice (some ⟨g,0,none⟩) L1.length cap)∧w'.cell? ⟨w.heap.size,0,none⟩=some (.int .i64 x.1)∧w'.cell? ⟨w.heap.size,1,none⟩=some (.int .u64 x.2)∧w'.cell? ⟨g,(2*k1+1)*2,none⟩=some (.int .i64 y.1)∧w'.cell? ⟨g,(2*k1+1)*2+1,none⟩=some (.int .u64 y.2)∧w'.cell? ⟨g,(2*k1+2)*2,none⟩=some (.int .i64 z.1)∧w'.cell? ⟨g,(2*k1+2)*2+1,none⟩=some (.int .u64 z.2)) (first | assumption | (refine heldG_7 (by assumption) ?_;assumption) | (refine heldG_7 (grows_ad _ _) ?_;assumption) | (refine heldG_7 (grows_a _ _) ?_;assumption)) ((go_at_call 269;refine (A1.out _ _ _ _ _).mono ?_;rintro e w5 ⟨rfl,hb5⟩))
    clear hS0
    rename_i hH
    clear c0 b0 b1 i1 i2 j1 j2 hb5
    obtain ⟨hg5,c0,b0,b1,_,_,i1,i2⟩:=hH
    go_wp2_with fail
    clear zs
    have HY:=HZZ
    have HJ:=H2
    by_cases hlt:ltI z x
    ·have zt:decide (ordV (z.1,z.2) (x.1,x.2)<0)=true:=decide_eq_true (ordV_neg.2 hlt)
     have HL:=Lib.hid hlt
     clear hlt
     have c0_1:=fun o1=>cell_al o1 (c0)
     have c0_2:=fun o1 o2=>cell_al o2 (cell_al o1 (c0))
     have b0_1:=fun o1=>cell_al o1 (b0)
     have b0_2:=fun o1 o2=>cell_al o2 (cell_al o1 (b0))
     have b1_1:=fun o1=>cell_al o1 (b1)
     have b1_2:=fun o1 o2=>cell_al o2 (cell_al o1 (b1))
     have i1_1:=fun o1=>cell_al o1 (i1)
     have i1_2:=fun o1 o2=>cell_al o2 (cell_al o1 (i1))
     have i2_1:=fun o1=>cell_al o1 (i2)
     have i2_2:=fun o1 o2=>cell_al o2 (cell_al o1 (i2))
     clear c0_1 c0_2 b0_1 b0_2 b1_1 b1_2 i1_1 i1_2 i2_1 i2_2
     have hS0:Grows w5 w5.drew∧w5.drew.cell? ⟨p,0,none⟩=some (.slice (some ⟨g,0,none⟩) L1.length cap)∧w5.drew.cell? ⟨w.heap.size,0,none⟩=some (.int .i64 x.1)∧w5.drew.cell? ⟨w.heap.size,1,none⟩=some (.int .u64 x.2)∧w5.drew.cell? ⟨g,(2*k1+2)*2,none⟩=some (.int .i64 z.1)∧w5.drew.cell? ⟨g,(2*k1+2)*2+1,none⟩=some (.int .u64 z.2):=⟨(Grows.drew (Grows.refl _)),cell_dr c0,cell_dr b0,cell_dr b1,cell_dr i1,cell_dr i2⟩
     go_region_held3 (fun w'=>Grows w5 w'∧w'.cell? ⟨p,0,none⟩=some (.slice (some ⟨g,0,none⟩) L1.length cap)∧w'.cell? ⟨w.heap.size,0,none⟩=some (.int .i64 x.1)∧w'.cell? ⟨w.heap.size,1,none⟩=some (.int .u64 x.2)∧w'.cell? ⟨g,(2*k1+2)*2,none⟩=some (.int .i64 z.1)∧w'.cell? ⟨g,(2*k1+2)*2+1,none⟩=some (.int .u64 z.2)) (first | assumption | (refine heldG_5 (by assumption) ?_;assumption) | (refine heldG_5 (grows_ad _ _) ?_;assumption) | (refine heldG_5 (grows_a _ _) ?_;assumption)) ((go_at_call 269;refine (A1.out _ _ _ _ _).mono ?_;rintro e w6 ⟨rfl,hb6⟩))
     clear hS0
     rename_i hH
     clear c0 b0 b1 i1 i2
     obtain ⟨hg6,c0,b0,b1,i1,i2⟩:=hH
     go_wp2_with fail
     refine (lay_at k1 _ _ _ (HM.out.raw.below (hg5.trans hg6).below) HM.out.lt (by rw [HY.out];exact HM.out.raw.fits _ (at_mem (by have:=HJ.out;omega))) HM.out.len.1 HM.out.len.2).mono ?_
     rintro e w7 ⟨rfl,hr7,hk7⟩
     have HR7:=Lib.hid hr7
     have HK7:=Lib.hid hk7
     have G5:=Lib.hid (hg5.trans hg6)
     clear hr7 hk7 hg5 hg6
     have b0:=HK7.out.cellAt b0 HN.out
     have b1:=HK7.out.cellAt b1 HN.out
     clear c0 i1 i2
     go_wp2_with fail
     go_step3
     have hd:=HM.out.down (j:=2*k1+2) HJ.out (by omega) (by unfold par;omega) HSIB.out (by have q:=HR7.out;rw [HY.out] at q;exact q)
     exact ⟨rfl,⟨_,_,_,2*k1+2,FrameS.of rfl rfl (by go_num) rfl rfl,⟨hd,b0,b1,(HK.out.step G5.out.below).trans HK7.out⟩,by have q:=Above.down (x:=x) HM.out.lt (show par (2*k1+2)=k1 by unfold par;omega) (by rw [← HY.out];exact HL.out);exact q⟩,by have:=HJ.out;have:=HM.out.len.1;have:=HM.out.lt;simp [intOf];omega⟩
    ·have zt:decide (ordV (z.1,z.2) (x.1,x.2)<0)=false:=decide_eq_false (fun q=>hlt (ordV_neg.1 q))
     have HL:=Lib.hid hlt
     clear hlt
     have c0_1:=fun o1=>cell_al o1 (c0)
     have c0_2:=fun o1 o2=>cell_al o2 (cell_al o1 (c0))
     have b0_1:=fun o1=>cell_al o1 (b0)
     have b0_2:=fun o1 o2=>cell_al o2 (cell_al o1 (b0))
     have b1_1:=fun o1=>cell_al o1 (b1)
     have b1_2:=fun o1 o2=>cell_al o2 (cell_al o1 (b1))
     have i1_1:=fun o1=>cell_al o1 (i1)
     have i1_2:=fun o1 o2=>cell_al o2 (cell_al o1 (i1))
     have i2_1:=fun o1=>cell_al o1 (i2)
     have i2_2:=fun o1 o2=>cell_al o2 (cell_al o1 (i2))
     clear c0_1 c0_2 b0_1 b0_2 b1_1 b1_2 i1_1 i1_2 i2_1 i2_2
     have hS0:Grows w5 w5.drew∧w5.drew.cell? ⟨p,0,none⟩=some (.slice (some ⟨g,0,none⟩) L1.length cap)∧w5.drew.cell? ⟨w.heap.size,0,none⟩=some (.int .i64 x.1)∧w5.drew.cell? ⟨w.heap.size,1,none⟩=some (.int .u64 x.2)∧w5.drew.cell? ⟨g,(2*k1+2)*2,none⟩=some (.int .i64 z.1)∧w5.drew.cell? ⟨g,(2*k1+2)*2+1,none⟩=some (.int .u64 z.2):=⟨(Grows.drew (Grows.refl _)),cell_dr c0,cell_dr b0,cell_dr b1,cell_dr i1,cell_dr i2⟩
     go_region_held3 (fun w'=>Grows w5 w'∧w'.cell? ⟨p,0,none⟩=some (.slice (some ⟨g,0,none⟩) L1.length cap)∧w'.cell? ⟨w.heap.size,0,none⟩=some (.int .i64 x.1)∧w'.cell? ⟨w.heap.size,1,none⟩=some (.int .u64 x.2)∧w'.cell? ⟨g,(2*k1+2)*2,none⟩=some (.int .i64 z.1)∧w'.cell? ⟨g,(2*k1+2)*2+1,none⟩=some (.int .u64 z.2)) (first | assumption | (refine heldG_5 (by assumption) ?_;assumption) | (refine heldG_5 (grows_ad _ _) ?_;assumption) | (refine heldG_5 (grows_a _ _) ?_;assumption)) ((go_at_call 269;refine (A1.out _ _ _ _ _).mono ?_;rintro e w6 ⟨rfl,hb6⟩))
     clear hS0
     rename_i hH
     clear c0 b0 b1 i1 i2
     obtain ⟨hg6,c0,b0,b1,i1,i2⟩:=hH
     go_wp2_with fail
     refine (lay_at k1 _ _ _ (HM.out.raw.below (hg5.trans hg6).below) HM.out.lt HM.out.fx HM.out.len.1 HM.out.len.2).mono ?_
     rintro e w7 ⟨rfl,hr7,hk7⟩
     have HR7:=Lib.hid hr7
     have HK7:=Lib.hid hk7
     have G5:=Lib.hid (hg5.trans hg6)
     clear hr7 hk7 hg5 hg6
     clear c0 i1 i2 b0 b1
     go_wp2_with fail
     go_end0
     have hxy:ltI x z:=ltI_total' (by rw [HY.out];exact HM.out.at HJ.out (by omega)) HL.out
     refine ⟨rfl,_,_,(HM.out.done HB.out (fun i i0 il hi=>?_) HR7.out).1,(HM.out.done HB.out (fun i i0 il hi=>?_) HR7.out).2,(HK.out.step G5.out.below).trans HK7.out⟩
     all_goals
      by_cases e:i=2*k1+2
      ·rw [e,← HY.out];exact hxy
      ·have q:=HSIB.out i i0 il hi e
       rw [← HY.out] at q
       exact ltI_trans hxy q
   ·have zs:decide (ordV (z.1,z.2) (y.1,y.2)<0)=false:=decide_eq_false (fun q=>hs (ordV_neg.1 q))
    have HSIB:=Lib.hid (show ∀ i,0<i→i<L1.length→par i=k1→i≠2*k1+1→ltI L1[2*k1+1]! L1[i]! by
     intro i i0 il hi hn
     have:i=2*k1+2:=by unfold par at hi;omega
     rw [this,← HYY.out,← HZZ.out];exact ltI_total' HNE.out hs)
    clear hs
    go_wp2_with fail
    have c0_1:=fun o1=>cell_al o1 (c0)
    have c0_2:=fun o1 o2=>cell_al o2 (cell_al o1 (c0))
    have b0_1:=fun o1=>cell_al o1 (b0)
    have b0_2:=fun o1 o2=>cell_al o2 (cell_al o1 (b0))
    have b1_1:=fun o1=>cell_al o1 (b1)
    have b1_2:=fun o1 o2=>cell_al o2 (cell_al o1 (b1))
    have i1_1:=fun o1=>cell_al o1 (i1)
    have i1_2:=fun o1 o2=>cell_al o2 (cell_al o1 (i1))
    have i2_1:=fun o1=>cell_al o1 (i2)
    have i2_2:=fun o1 o2=>cell_al o2 (cell_al o1 (i2))
    have j1_1:=fun o1=>cell_al o1 (j1)
    have j1_2:=fun o1 o2=>cell_al o2 (cell_al o1 (j1))
    have j2_1:=fun o1=>cell_al o1 (j2)
    have j2_2:=fun o1 o2=>cell_al o2 (cell_al o1 (j2))
    clear c0_1 c0_2 b0_1 b0_2 b1_1 b1_2 i1_1 i1_2 i2_1 i2_2 j1_1 j1_2 j2_1 j2_2
    have hS0:Grows w1 w1.drew∧w1.drew.cell? ⟨p,0,none⟩=some (.slice (some ⟨g,0,none⟩) L1.length cap)∧w1.drew.cell? ⟨w.heap.size,0,none⟩=some (.int .i64 x.1)∧w1.drew.cell? ⟨w.heap.size,1,none⟩=some (.int .u64 x.2)∧w1.drew.cell? ⟨g,(2*k1+1)*2,none⟩=some (.int .i64 y.1)∧w1.drew.cell? ⟨g,(2*k1+1)*2+1,none⟩=some (.int .u64 y.2)∧w1.drew.cell? ⟨g,(2*k1+2)*2,none⟩=some (.int .i64 z.1)∧w1.drew.cell? ⟨g,(2*k1+2)*2+1,none⟩=some (.int .u64 z.2):=⟨(Grows.drew (Grows.refl _)),cell_dr c0,cell_dr b0,cell_dr b1,cell_dr i1,cell_dr i2,cell_dr j1,cell_dr j2⟩
    go_region_held3 (fun w'=>Grows w1 w'∧w'.cell? ⟨p,0,none⟩=some (.slice (some ⟨g,0,none⟩) L1.length cap)∧w'.cell? ⟨w.heap.size,0,none⟩=some (.int .i64 x.1)∧w'.cell? ⟨w.heap.size,1,none⟩=some (.int .u64 x.2)∧w'.cell? ⟨g,(2*k1+1)*2,none⟩=some (.int .i64 y.1)∧w'.cell? ⟨g,(2*k1+1)*2+1,none⟩=some (.int .u64 y.2)∧w'.cell? ⟨g,(2*k1+2)*2,none⟩=some (.int .i64 z.1)∧w'.cell? ⟨g,(2*k1+2)*2+1,none⟩=some (.int .u64 z.2)) (first | assumption | (refine heldG_7 (by assumption) ?_;assumption) | (refine heldG_7 (grows_ad _ _) ?_;assumption) | (refine heldG_7 (grows_a _ _) ?_;assumption)) ((go_at_call 269;refine (A1.out _ _ _ _ _).mono ?_;rintro e w5 ⟨rfl,hb5⟩))
    clear hS0
    rename_i hH
    clear c0 b0 b1 i1 i2 j1 j2 hb5
    obtain ⟨hg5,c0,b0,b1,i1,i2,_,_⟩:=hH
    go_wp2_with fail
    clear zs
    have HY:=HYY
    have HJ:=H21
    by_cases hlt:ltI y x
    ·have zt:decide (ordV (y.1,y.2) (x.1,x.2)<0)=true:=decide_eq_true (ordV_neg.2 hlt)
     have HL:=Lib.hid hlt
     clear hlt
     have c0_1:=fun o1=>cell_al o1 (c0)
     have c0_2:=fun o1 o2=>cell_al o2 (cell_al o1 (c0))
     have b0_1:=fun o1=>cell_al o1 (b0)
     have b0_2:=fun o1 o2=>cell_al o2 (cell_al o1 (b0))
     have b1_1:=fun o1=>cell_al o1 (b1)
     have b1_2:=fun o1 o2=>cell_al o2 (cell_al o1 (b1))
     have i1_1:=fun o1=>cell_al o1 (i1)
     have i1_2:=fun o1 o2=>cell_al o2 (cell_al o1 (i1))
     have i2_1:=fun o1=>cell_al o1 (i2)
     have i2_2:=fun o1 o2=>cell_al o2 (cell_al o1 (i2))
     clear c0_1 c0_2 b0_1 b0_2 b1_1 b1_2 i1_1 i1_2 i2_1 i2_2
     have hS0:Grows w5 w5.drew∧w5.drew.cell? ⟨p,0,none⟩=some (.slice (some ⟨g,0,none⟩) L1.length cap)∧w5.drew.cell? ⟨w.heap.size,0,none⟩=some (.int .i64 x.1)∧w5.drew.cell? ⟨w.heap.size,1,none⟩=some (.int .u64 x.2)∧w5.drew.cell? ⟨g,(2*k1+1)*2,none⟩=some (.int .i64 y.1)∧w5.drew.cell? ⟨g,(2*k1+1)*2+1,none⟩=some (.int .u64 y.2):=⟨(Grows.drew (Grows.refl _)),cell_dr c0,cell_dr b0,cell_dr b1,cell_dr i1,cell_dr i2⟩
     go_region_held3 (fun w'=>Grows w5 w'∧w'.cell? ⟨p,0,none⟩=some (.slice (some ⟨g,0,none⟩) L1.length cap)∧w'.cell? ⟨w.heap.size,0,none⟩=some (.int .i64 x.1)∧w'.cell? ⟨w.heap.size,1,none⟩=some (.int .u64 x.2)∧w'.cell? ⟨g,(2*k1+1)*2,none⟩=some (.int .i64 y.1)∧w'.cell? ⟨g,(2*k1+1)*2+1,none⟩=some (.int .u64 y.2)) (first | assumption | (refine heldG_5 (by assumption) ?_;assumption) | (refine heldG_5 (grows_ad _ _) ?_;assumption) | (refine heldG_5 (grows_a _ _) ?_;assumption)) ((go_at_call 269;refine (A1.out _ _ _ _ _).mono ?_;rintro e w6 ⟨rfl,hb6⟩))
     clear hS0
     rename_i hH
     clear c0 b0 b1 i1 i2
     obtain ⟨hg6,c0,b0,b1,i1,i2⟩:=hH
     go_wp2_with fail
     refine (lay_at k1 _ _ _ (HM.out.raw.below (hg5.trans hg6).below) HM.out.lt (by rw [HY.out];exact HM.out.raw.fits _ (at_mem (by have:=HJ.out;omega))) HM.out.len.1 HM.out.len.2).mono ?_
     rintro e w7 ⟨rfl,hr7,hk7⟩
     have HR7:=Lib.hid hr7
     have HK7:=Lib.hid hk7
     have G5:=Lib.hid (hg5.trans hg6)
     clear hr7 hk7 hg5 hg6
     have b0:=HK7.out.cellAt b0 HN.out
     have b1:=HK7.out.cellAt b1 HN.out
     clear c0 i1 i2
     go_wp2_with fail
     go_step3
     have hd:=HM.out.down (j:=2*k1+1) HJ.out (by omega) (by unfold par;omega) HSIB.out (by have q:=HR7.out;rw [HY.out] at q;exact q)
     exact ⟨rfl,⟨_,_,_,2*k1+1,FrameS.of rfl rfl (by go_num) rfl rfl,⟨hd,b0,b1,(HK.out.step G5.out.below).trans HK7.out⟩,by have q:=Above.down (x:=x) HM.out.lt (show par (2*k1+1)=k1 by unfold par;omega) (by rw [← HY.out];exact HL.out);exact q⟩,by have:=HJ.out;have:=HM.out.len.1;have:=HM.out.lt;simp [intOf];omega⟩
    ·have zt:decide (ordV (y.1,y.2) (x.1,x.2)<0)=false:=decide_eq_false (fun q=>hlt (ordV_neg.1 q))
     have HL:=Lib.hid hlt
     clear hlt
     have c0_1:=fun o1=>cell_al o1 (c0)
     have c0_2:=fun o1 o2=>cell_al o2 (cell_al o1 (c0))
     have b0_1:=fun o1=>cell_al o1 (b0)
     have b0_2:=fun o1 o2=>cell_al o2 (cell_al o1 (b0))
     have b1_1:=fun o1=>cell_al o1 (b1)
     have b1_2:=fun o1 o2=>cell_al o2 (cell_al o1 (b1))
     have i1_1:=fun o1=>cell_al o1 (i1)
     have i1_2:=fun o1 o2=>cell_al o2 (cell_al o1 (i1))
     have i2_1:=fun o1=>cell_al o1 (i2)
     have i2_2:=fun o1 o2=>cell_al o2 (cell_al o1 (i2))
     clear c0_1 c0_2 b0_1 b0_2 b1_1 b1_2 i1_1 i1_2 i2_1 i2_2
     have hS0:Grows w5 w5.drew∧w5.drew.cell? ⟨p,0,none⟩=some (.slice (some ⟨g,0,none⟩) L1.length cap)∧w5.drew.cell? ⟨w.heap.size,0,none⟩=some (.int .i64 x.1)∧w5.drew.cell? ⟨w.heap.size,1,none⟩=some (.int .u64 x.2)∧w5.drew.cell? ⟨g,(2*k1+1)*2,none⟩=some (.int .i64 y.1)∧w5.drew.cell? ⟨g,(2*k1+1)*2+1,none⟩=some (.int .u64 y.2):=⟨(Grows.drew (Grows.refl _)),cell_dr c0,cell_dr b0,cell_dr b1,cell_dr i1,cell_dr i2⟩
     go_region_held3 (fun w'=>Grows w5 w'∧w'.cell? ⟨p,0,none⟩=some (.slice (some ⟨g,0,none⟩) L1.length cap)∧w'.cell? ⟨w.heap.size,0,none⟩=some (.int .i64 x.1)∧w'.cell? ⟨w.heap.size,1,none⟩=some (.int .u64 x.2)∧w'.cell? ⟨g,(2*k1+1)*2,none⟩=some (.int .i64 y.1)∧w'.cell? ⟨g,(2*k1+1)*2+1,none⟩=some (.int .u64 y.2)) (first | assumption | (refine heldG_5 (by assumption) ?_;assumption) | (refine heldG_5 (grows_ad _ _) ?_;assumption) | (refine heldG_5 (grows_a _ _) ?_;assumption)) ((go_at_call 269;refine (A1.out _ _ _ _ _).mono ?_;rintro e w6 ⟨rfl,hb6⟩))
     clear hS0
     rename_i hH
     clear c0 b0 b1 i1 i2
     obtain ⟨hg6,c0,b0,b1,i1,i2⟩:=hH
     go_wp2_with fail
     refine (lay_at k1 _ _ _ (HM.out.raw.below (hg5.trans hg6).below) HM.out.lt HM.out.fx HM.out.len.1 HM.out.len.2).mono ?_
     rintro e w7 ⟨rfl,hr7,hk7⟩
     have HR7:=Lib.hid hr7
     have HK7:=Lib.hid hk7
     have G5:=Lib.hid (hg5.trans hg6)
     clear hr7 hk7 hg5 hg6
     clear c0 i1 i2 b0 b1
     go_wp2_with fail
     go_end0
     have hxy:ltI x y:=ltI_total' (by rw [HY.out];exact HM.out.at HJ.out (by omega)) HL.out
     refine ⟨rfl,_,_,(HM.out.done HB.out (fun i i0 il hi=>?_) HR7.out).1,(HM.out.done HB.out (fun i i0 il hi=>?_) HR7.out).2,(HK.out.step G5.out.below).trans HK7.out⟩
     all_goals
      by_cases e:i=2*k1+1
      ·rw [e,← HY.out];exact hxy
      ·have q:=HSIB.out i i0 il hi e
       rw [← HY.out] at q
       exact ltI_trans hxy q
  ·have n2:decide ((2*(k1:Int)+1+1)<(L1.length:Int))=false:=decide_eq_false (by omega)
   have H2:=Lib.hid h2
   by_cases h1:2*k1+1<L1.length
   ·obtain ⟨i1,i2⟩:=r.item (k:=2*k1+1) h1
    have t1:(2*(k1:Int)+1).toNat=2*k1+1:=by omega
    have l1:(2*(k1:Int)+1)<(L1.length:Int):=by omega
    have l3:(0:Int)≤2*(k1:Int)+1:=by omega
    have w1':IntKind.i64.wrap (2*(k1:Int)+1+1)=2*(k1:Int)+1+1:=IntWalk.i64_in _ (by omega)
    have HJ:=Lib.hid h1
    clear hlen hk r h2 h1
    obtain ⟨y,hy⟩:∃ y,y=L1[2*k1+1]!:=⟨_,rfl⟩
    rw [← hy] at i1 i2
    have HY:=Lib.hid hy
    have HSIB:=Lib.hid (show ∀ i,0<i→i<L1.length→par i=k1→i≠2*k1+1→ltI L1[2*k1+1]! L1[i]! by
     intro i i0 il hi hn
     have:=H2.out
     unfold par at hi;omega)
    clear hy
    go_wp2_with fail
    go_quiet (fail)
    rename_i nq
    go_wp2_with fail
    have hg5:=(Grows.refl w1).drewN nq
    replace c0:=cell_drN nq c0
    replace b0:=cell_drN nq b0
    replace b1:=cell_drN nq b1
    replace i1:=cell_drN nq i1
    replace i2:=cell_drN nq i2
    generalize w1.drewN nq=w5 at *
    by_cases hlt:ltI y x
    ·have zt:decide (ordV (y.1,y.2) (x.1,x.2)<0)=true:=decide_eq_true (ordV_neg.2 hlt)
     have HL:=Lib.hid hlt
     clear hlt
     have c0_1:=fun o1=>cell_al o1 (c0)
     have c0_2:=fun o1 o2=>cell_al o2 (cell_al o1 (c0))
     have b0_1:=fun o1=>cell_al o1 (b0)
     have b0_2:=fun o1 o2=>cell_al o2 (cell_al o1 (b0))
     have b1_1:=fun o1=>cell_al o1 (b1)
     have b1_2:=fun o1 o2=>cell_al o2 (cell_al o1 (b1))
     have i1_1:=fun o1=>cell_al o1 (i1)
     have i1_2:=fun o1 o2=>cell_al o2 (cell_al o1 (i1))
     have i2_1:=fun o1=>cell_al o1 (i2)
     have i2_2:=fun o1 o2=>cell_al o2 (cell_al o1 (i2))
     clear c0_1 c0_2 b0_1 b0_2 b1_1 b1_2 i1_1 i1_2 i2_1 i2_2
     have hS0:Grows w5 w5.drew∧w5.drew.cell? ⟨p,0,none⟩=some (.slice (some ⟨g,0,none⟩) L1.length cap)∧w5.drew.cell? ⟨w.heap.size,0,none⟩=some (.int .i64 x.1)∧w5.drew.cell? ⟨w.heap.size,1,none⟩=some (.int .u64 x.2)∧w5.drew.cell? ⟨g,(2*k1+1)*2,none⟩=some (.int .i64 y.1)∧w5.drew.cell? ⟨g,(2*k1+1)*2+1,none⟩=some (.int .u64 y.2):=⟨(Grows.drew (Grows.refl _)),cell_dr c0,cell_dr b0,cell_dr b1,cell_dr i1,cell_dr i2⟩
     go_region_held3 (fun w'=>Grows w5 w'∧w'.cell? ⟨p,0,none⟩=some (.slice (some ⟨g,0,none⟩) L1.length cap)∧w'.cell? ⟨w.heap.size,0,none⟩=some (.int .i64 x.1)∧w'.cell? ⟨w.heap.size,1,none⟩=some (.int .u64 x.2)∧w'.cell? ⟨g,(2*k1+1)*2,none⟩=some (.int .i64 y.1)∧w'.cell? ⟨g,(2*k1+1)*2+1,none⟩=some (.int .u64 y.2)) (first | assumption | (refine heldG_5 (by assumption) ?_;assumption) | (refine heldG_5 (grows_ad _ _) ?_;assumption) | (refine heldG_5 (grows_a _ _) ?_;assumption)) ((go_at_call 269;refine (A1.out _ _ _ _ _).mono ?_;rintro e w6 ⟨rfl,hb6⟩))
     clear hS0
     rename_i hH
     clear c0 b0 b1 i1 i2
     obtain ⟨hg6,c0,b0,b1,i1,i2⟩:=hH
     go_wp2_with fail
     refine (lay_at k1 _ _ _ (HM.out.raw.below (hg5.trans hg6).below) HM.out.lt (by rw [HY.out];exact HM.out.raw.fits _ (at_mem (by have:=HJ.out;omega))) HM.out.len.1 HM.out.len.2).mono ?_
     rintro e w7 ⟨rfl,hr7,hk7⟩
     have HR7:=Lib.hid hr7
     have HK7:=Lib.hid hk7
     have G5:=Lib.hid (hg5.trans hg6)
     clear hr7 hk7 hg5 hg6
     have b0:=HK7.out.cellAt b0 HN.out
     have b1:=HK7.out.cellAt b1 HN.out
     clear c0 i1 i2
     go_wp2_with fail
     go_step3
     have hd:=HM.out.down (j:=2*k1+1) HJ.out (by omega) (by unfold par;omega) HSIB.out (by have q:=HR7.out;rw [HY.out] at q;exact q)
     exact ⟨rfl,⟨_,_,_,2*k1+1,FrameS.of rfl rfl (by go_num) rfl rfl,⟨hd,b0,b1,(HK.out.step G5.out.below).trans HK7.out⟩,by have q:=Above.down (x:=x) HM.out.lt (show par (2*k1+1)=k1 by unfold par;omega) (by rw [← HY.out];exact HL.out);exact q⟩,by have:=HJ.out;have:=HM.out.len.1;have:=HM.out.lt;simp [intOf];omega⟩
    ·have zt:decide (ordV (y.1,y.2) (x.1,x.2)<0)=false:=decide_eq_false (fun q=>hlt (ordV_neg.1 q))
     have HL:=Lib.hid hlt
     clear hlt
     have c0_1:=fun o1=>cell_al o1 (c0)
     have c0_2:=fun o1 o2=>cell_al o2 (cell_al o1 (c0))
     have b0_1:=fun o1=>cell_al o1 (b0)
     have b0_2:=fun o1 o2=>cell_al o2 (cell_al o1 (b0))
     have b1_1:=fun o1=>cell_al o1 (b1)
     have b1_2:=fun o1 o2=>cell_al o2 (cell_al o1 (b1))
     have i1_1:=fun o1=>cell_al o1 (i1)
     have i1_2:=fun o1 o2=>cell_al o2 (cell_al o1 (i1))
     have i2_1:=fun o1=>cell_al o1 (i2)
     have i2_2:=fun o1 o2=>cell_al o2 (cell_al o1 (i2))
     clear c0_1 c0_2 b0_1 b0_2 b1_1 b1_2 i1_1 i1_2 i2_1 i2_2
     have hS0:Grows w5 w5.drew∧w5.drew.cell? ⟨p,0,none⟩=some (.slice (some ⟨g,0,none⟩) L1.length cap)∧w5.drew.cell? ⟨w.heap.size,0,none⟩=some (.int .i64 x.1)∧w5.drew.cell? ⟨w.heap.size,1,none⟩=some (.int .u64 x.2)∧w5.drew.cell? ⟨g,(2*k1+1)*2,none⟩=some (.int .i64 y.1)∧w5.drew.cell? ⟨g,(2*k1+1)*2+1,none⟩=some (.int .u64 y.2):=⟨(Grows.drew (Grows.refl _)),cell_dr c0,cell_dr b0,cell_dr b1,cell_dr i1,cell_dr i2⟩
     go_region_held3 (fun w'=>Grows w5 w'∧w'.cell? ⟨p,0,none⟩=some (.slice (some ⟨g,0,none⟩) L1.length cap)∧w'.cell? ⟨w.heap.size,0,none⟩=some (.int .i64 x.1)∧w'.cell? ⟨w.heap.size,1,none⟩=some (.int .u64 x.2)∧w'.cell? ⟨g,(2*k1+1)*2,none⟩=some (.int .i64 y.1)∧w'.cell? ⟨g,(2*k1+1)*2+1,none⟩=some (.int .u64 y.2)) (first | assumption | (refine heldG_5 (by assumption) ?_;assumption) | (refine heldG_5 (grows_ad _ _) ?_;assumption) | (refine heldG_5 (grows_a _ _) ?_;assumption)) ((go_at_call 269;refine (A1.out _ _ _ _ _).mono ?_;rintro e w6 ⟨rfl,hb6⟩))
     clear hS0
     rename_i hH
     clear c0 b0 b1 i1 i2
     obtain ⟨hg6,c0,b0,b1,i1,i2⟩:=hH
     go_wp2_with fail
     refine (lay_at k1 _ _ _ (HM.out.raw.below (hg5.trans hg6).below) HM.out.lt HM.out.fx HM.out.len.1 HM.out.len.2).mono ?_
     rintro e w7 ⟨rfl,hr7,hk7⟩
     have HR7:=Lib.hid hr7
     have HK7:=Lib.hid hk7
     have G5:=Lib.hid (hg5.trans hg6)
     clear hr7 hk7 hg5 hg6
     clear c0 i1 i2 b0 b1
     go_wp2_with fail
     go_end0
     have hxy:ltI x y:=ltI_total' (by rw [HY.out];exact HM.out.at HJ.out (by omega)) HL.out
     refine ⟨rfl,_,_,(HM.out.done HB.out (fun i i0 il hi=>?_) HR7.out).1,(HM.out.done HB.out (fun i i0 il hi=>?_) HR7.out).2,(HK.out.step G5.out.below).trans HK7.out⟩
     all_goals
      by_cases e:i=2*k1+1
      ·rw [e,← HY.out];exact hxy
      ·have q:=HSIB.out i i0 il hi e
       rw [← HY.out] at q
       exact ltI_trans hxy q
   ·have n1:decide ((2*(k1:Int)+1)<(L1.length:Int))=false:=decide_eq_false (by omega)
    have w1':IntKind.i64.wrap (2*(k1:Int)+1+1)=2*(k1:Int)+1+1:=IntWalk.i64_in _ (by omega)
    have H1:=Lib.hid h1
    clear hlen hk r h2 h1
    go_wp2_with fail
    go_quiet (fail)
    go_wp2_with fail
    go_quiet (fail)
    go_wp2_with fail
    go_outline
    refine (lay_at k1 _ _ _ (HM.out.raw.below ((Grows.refl w1).drewN _).below) HM.out.lt HM.out.fx HM.out.len.1 HM.out.len.2).mono ?_
    rintro e w7 ⟨rfl,hr7,hk7⟩
    have HR7:=Lib.hid hr7
    have HK7:=Lib.hid hk7
    clear hr7 hk7 c0 b0 b1
    go_wp2_with fail
    go_end0
    have hq:∀ i,0<i→i<L1.length→par i=k1→ltI x L1[i]!:=fun i i0 il hi=>by
     have:=H1.out
     unfold par at hi;omega
    have hkk:=HK7.out
    exact ⟨rfl,_,_,(HM.out.done HB.out hq HR7.out).1,(HM.out.done HB.out hq HR7.out).2,HK.out.trans ⟨hkk.os,hkk.tape,hkk.output,hkk.size,hkk.block⟩⟩
 --P1END
 ·rintro a w1 ⟨L1,f1,c1,k1,⟨u,rfl⟩,hA⟩ hp1 K hK
  obtain ⟨hmid,b0,b1,hkept⟩:=hA
  have r:=hmid.raw
  have hlen:=hmid.len.1
  have hk:=hmid.lt
  have c0:=r.c0
  unfold rowV at c0
  simp only [Option.map_some] at c0
  have HM:=Lib.hid hmid
  have HK:=Lib.hid hkept
  have HP:=Lib.hid hp1
  have HKK:=Lib.hid hK
  clear hkept hmid hp1 hK
  have hk0:(0:Int)≤(k1:Int):=by omega
  have hk1:(k1:Int)≤131072:=by omega
  rcases Nat.eq_zero_or_pos k1 with e0 | k0
  ·have z0:decide (0<k1)=false:=decide_eq_false (by omega)
   have HE:=Lib.hid e0
   clear hlen hk r e0 c0
   go_wp2_with fail
   go_quiet (fail)
   rename_i nq
   go_wp2_with fail
   go_step3
   rename_i hKv
   refine hKv _ _ ?_
   refine Code.wp_mono ?_ (HP.out _ _ ?_)
   ·exact jumps_mono fun l a w hj=>by rw [HKK.out];exact Or.inr hj
   exact ⟨_,_,_,k1,FrameS.of rfl rfl rfl rfl rfl,⟨HM.out.of_raw (HM.out.raw.below ((Grows.refl w1).drewN nq).below),cell_drN nq b0,cell_drN nq b1,HK.out.step ((Grows.refl w1).drewN nq).below⟩,fun h0=>by have:=HE.out;omega⟩
  ·have z0:decide (0<k1)=true:=decide_eq_true k0
   obtain ⟨j,hj⟩:∃ j,j=par k1:=⟨_,rfl⟩
   have tj:((k1:Int) - 1).tdiv 2=(j:Int):=by rw [hj,Int.tdiv_eq_ediv_of_nonneg (by omega)];unfold par;omega
   have hjk:j<k1:=by rw [hj];unfold par;omega
   have l1:(j:Int)<(L1.length:Int):=by omega
   have l2:j<L1.length:=by omega
   have l3:(0:Int)≤(j:Int):=by omega
   have l4:(j:Int)≤131072:=by omega
   obtain ⟨i1,i2⟩:=r.item (k:=j) (by omega)
   have HJK:=Lib.hid hjk
   have HJJ:=Lib.hid hj
   have HK0:=Lib.hid k0
   obtain ⟨y,hy⟩:∃ y,y=L1[j]!:=⟨_,rfl⟩
   rw [← hy] at i1 i2
   have HY:=Lib.hid hy
   clear hlen hk r hj hjk hy k0
   by_cases hlt:ltI x y
   ·have zt:decide (ordV (x.1,x.2) (y.1,y.2)<0)=true:=decide_eq_true (ordV_neg.2 hlt)
    clear hlt
    go_wp2_with fail
    have c0_1:=fun o1=>cell_al o1 (c0)
    have c0_2:=fun o1 o2=>cell_al o2 (cell_al o1 (c0))
    have b0_1:=fun o1=>cell_al o1 (b0)
    have b0_2:=fun o1 o2=>cell_al o2 (cell_al o1 (b0))
    have b1_1:=fun o1=>cell_al o1 (b1)
    have b1_2:=fun o1 o2=>cell_al o2 (cell_al o1 (b1))
    have i1_1:=fun o1=>cell_al o1 (i1)
    have i1_2:=fun o1 o2=>cell_al o2 (cell_al o1 (i1))
    have i2_1:=fun o1=>cell_al o1 (i2)
    have i2_2:=fun o1 o2=>cell_al o2 (cell_al o1 (i2))
    clear c0_1 c0_2 b0_1 b0_2 b1_1 b1_2 i1_1 i1_2 i2_1 i2_2
    have hS0:Grows w1 w1.drew∧w1.drew.cell? ⟨p,0,none⟩=some (.slice (some ⟨g,0,none⟩) L1.length cap)∧w1.drew.cell? ⟨w.heap.size,0,none⟩=some (.int .i64 x.1)∧w1.drew.cell? ⟨w.heap.size,1,none⟩=some (.int .u64 x.2)∧w1.drew.cell? ⟨g,j*2,none⟩=some (.int .i64 y.1)∧w1.drew.cell? ⟨g,j*2+1,none⟩=some (.int .u64 y.2):=⟨(Grows.drew (Grows.refl _)),cell_dr c0,cell_dr b0,cell_dr b1,cell_dr i1,cell_dr i2⟩
    go_region_held3 (fun w'=>Grows w1 w'∧w'.cell? ⟨p,0,none⟩=some (.slice (some ⟨g,0,none⟩) L1.length cap)∧w'.cell? ⟨w.heap.size,0,none⟩=some (.int .i64 x.1)∧w'.cell? ⟨w.heap.size,1,none⟩=some (.int .u64 x.2)∧w'.cell? ⟨g,j*2,none⟩=some (.int .i64 y.1)∧w'.cell? ⟨g,j*2+1,none⟩=some (.int .u64 y.2)) (first | assumption | (refine heldG_5 (by assumption) ?_;assumption) | (refine heldG_5 (grows_ad _ _) ?_;assumption) | (refine heldG_5 (grows_a _ _) ?_;assumption)) ((go_at_call 269;refine (A1.out _ _ _ _ _).mono ?_;rintro e w5 ⟨rfl,hb5⟩))
    clear hS0
    rename_i hH
    clear c0 b0 b1 i1 i2 hb5
    obtain ⟨hg5,c0,b0,b1,i1,i2⟩:=hH
    go_wp2_with fail
    refine (lay_at k1 _ _ _ (HM.out.raw.below hg5.below) HM.out.lt (by rw [HY.out];exact HM.out.raw.fits _ (at_mem (by have:=HJK.out;have:=HM.out.lt;omega))) HM.out.len.1 HM.out.len.2).mono ?_
    rintro e w7 ⟨rfl,hr7,hk7⟩
    have HR7:=Lib.hid hr7
    have HK7:=Lib.hid hk7
    have G5:=Lib.hid hg5
    clear hr7 hk7 hg5
    have b0:=HK7.out.cellAt b0 HN.out
    have b1:=HK7.out.cellAt b1 HN.out
    clear c0 i1 i2
    go_wp2_with fail
    go_step3
    have hd:=HM.out.up HK0.out (by have q:=HR7.out;rw [HY.out,HJJ.out] at q;exact q)
    rw [← HJJ.out] at hd
    refine (K_inl HKK.out ?_:K 0 _ _)
    exact ⟨⟨_,_,_,j,FrameS.of rfl rfl rfl rfl rfl,⟨hd,b0,b1,(HK.out.step G5.out.below).trans HK7.out⟩⟩,by have:=HJK.out;simp [intOf];omega⟩
   ·have zt:decide (ordV (x.1,x.2) (y.1,y.2)<0)=false:=decide_eq_false (fun q=>hlt (ordV_neg.1 q))
    have HL:=Lib.hid hlt
    clear hlt
    go_wp2_with fail
    have c0_1:=fun o1=>cell_al o1 (c0)
    have c0_2:=fun o1 o2=>cell_al o2 (cell_al o1 (c0))
    have b0_1:=fun o1=>cell_al o1 (b0)
    have b0_2:=fun o1 o2=>cell_al o2 (cell_al o1 (b0))
    have b1_1:=fun o1=>cell_al o1 (b1)
    have b1_2:=fun o1 o2=>cell_al o2 (cell_al o1 (b1))
    have i1_1:=fun o1=>cell_al o1 (i1)
    have i1_2:=fun o1 o2=>cell_al o2 (cell_al o1 (i1))
    have i2_1:=fun o1=>cell_al o1 (i2)
    have i2_2:=fun o1 o2=>cell_al o2 (cell_al o1 (i2))
    clear c0_1 c0_2 b0_1 b0_2 b1_1 b1_2 i1_1 i1_2 i2_1 i2_2
    have hS0:Grows w1 w1.drew∧w1.drew.cell? ⟨p,0,none⟩=some (.slice (some ⟨g,0,none⟩) L1.length cap)∧w1.drew.cell? ⟨w.heap.size,0,none⟩=some (.int .i64 x.1)∧w1.drew.cell? ⟨w.heap.size,1,none⟩=some (.int .u64 x.2)∧w1.drew.cell? ⟨g,j*2,none⟩=some (.int .i64 y.1)∧w1.drew.cell? ⟨g,j*2+1,none⟩=some (.int .u64 y.2):=⟨(Grows.drew (Grows.refl _)),cell_dr c0,cell_dr b0,cell_dr b1,cell_dr i1,cell_dr i2⟩
    go_region_held3 (fun w'=>Grows w1 w'∧w'.cell? ⟨p,0,none⟩=some (.slice (some ⟨g,0,none⟩) L1.length cap)∧w'.cell? ⟨w.heap.size,0,none⟩=some (.int .i64 x.1)∧w'.cell? ⟨w.heap.size,1,none⟩=some (.int .u64 x.2)∧w'.cell? ⟨g,j*2,none⟩=some (.int .i64 y.1)∧w'.cell? ⟨g,j*2+1,none⟩=some (.int .u64 y.2)) (first | assumption | (refine heldG_5 (by assumption) ?_;assumption) | (refine heldG_5 (grows_ad _ _) ?_;assumption) | (refine heldG_5 (grows_a _ _) ?_;assumption)) ((go_at_call 269;refine (A1.out _ _ _ _ _).mono ?_;rintro e w5 ⟨rfl,hb5⟩))
    clear hS0
    rename_i hH
    clear c0 b0 b1 i1 i2 hb5
    obtain ⟨hg5,c0,b0,b1,i1,i2⟩:=hH
    go_wp2_with fail
    go_step3
    rename_i hKv
    have hxy:ltI L1[par k1]! x:=by
     rw [← HJJ.out]
     have:=HJK.out
     have:=HM.out.lt
     have q:=HL.out
     rw [HY.out] at q
     exact ltI_total' (Ne.symm (HM.out.at (by omega) (by omega))) q
    refine hKv _ _ ?_
    refine Code.wp_mono ?_ (HP.out _ _ ?_)
    ·exact jumps_mono fun l a w hj=>by rw [HKK.out];exact Or.inr hj
    exact ⟨_,_,_,k1,FrameS.of rfl rfl rfl rfl rfl,⟨HM.out.of_raw (HM.out.raw.below hg5.below),b0,b1,HK.out.step hg5.below⟩,fun _=>hxy⟩
 --P0END
 ·intro hp0 K hK
  have HP:=Lib.hid hp0
  have HKK:=Lib.hid hK
  have r:=H.out.raw
  have c0:=r.c0
  unfold rowV at c0
  simp only [Option.map_some] at c0
  have l1:(k:Int)<(L.length:Int):=by have:=H.out.lt;omega
  have l3:(0:Int)≤(k:Int):=by omega
  obtain ⟨i1,i2⟩:=r.item (k:=k) (by omega)
  rw [HX.out] at i1 i2
  clear hp0 hK r
  go_wp2_with fail
  go_step3
  rename_i hKv
  refine hKv _ _ (HP.out _ _ ?_ _ HKK.out)
  exact ⟨_,_,_,k,FrameS.of rfl rfl rfl rfl rfl,⟨H.out.of_raw (H.out.raw.below (below_a w _)),cell_nw _ _ _ 0 _ rfl,cell_nw _ _ _ 1 _ rfl,(Kept.refl _ w).alloc _⟩⟩
end Go.Proofs.YtapnaocdehahdaaGreat
