/-
  PickTells: a tree answers all calls as specified, whatever is done with it, and results share no memory with it; what it is given is neither modified nor kept. No condition beyond the given row's own.
-/
import Derived.Test.YtfgmglghlapbcaaGreatPrefZb
import Derived.Test.YtfgmglghlapbcaaGreatPrefP
namespace Go.Proofs.YtfgmglghlapbcaaGreat
open Go.RowKit Go.Maps Go.IntWalk Go.Lib Go.Sort Go.Shelf Go.WideShapes
set_option linter.unusedVariables false
set_option linter.unusedSimpArgs false
set_option maxRecDepth 100000 in
set_option maxHeartbeats 8000000 in
theorem PickTells_true (s0:Option Addr) (l0 c0:Nat) (F0:Nat→Nat→Value) (a1:Int) (s2:Option Addr) (l2 c2:Nat) (F2:Nat→Nat→Value) (w:World) (r0:PlainRow [some .i64,some .i64] w s0 l0 c0 F0) (g1:(Lit.int .u64 a1).wf=true) (r2:NestRow [.inl (some .u8),.inl (some .i64),.inl (some .i64),.inl (some .i64),.inl (some .u64),.inl (some .u32),.inl (some .u32),.inr [some .u64,some .u32,some .u64]] w s2 l2 c2 F2) (b0:l0*16≤140737488355328) :
  Calls Tryz.prog 6 #[.slice s0 l0 c0,.int .u64 a1,.slice s2 l2 c2] w fun e w'=>e=.returned (.bool true)∧Below w.heap.size w w':=by
 obtain ⟨ig,gi,gz0,gz1,gz2⟩:=info_parts infoGroup
 have AW:=Lib.hid fun W=>awake_at W
 obtain ⟨Gs,hGl,hG⟩:=groups_of r0
 have HG:=Lib.hid hG
 have HGL:=Lib.hid hGl
 have HG1:=Lib.hid g1
 have HBY:=Lib.hid b0
 clear r0 g1 hGl hG b0
 have hl0:l0≤140737488355328:=by have:=HBY.out;omega
 by_cases hr:RightG Gs
 ·have hle:=hr.le
  have hpos:=hr.pos
  rw [HGL.out] at hle hpos
  by_cases h8:l0 > 8
  ·have z1:decide ((l0:Int) > 8)=true:=decide_eq_true (by omega)
   have z1':decide (8<l0)=true:=decide_eq_true h8
   clear h8 r2
   go_enter Tryz.func6,Tryz.ntmps6
   go_upto_region 1 with fail
   have ho0:(w.alloc (.cells #[] 53)).ownsRow w.heap.size 53 2 (.slice (some ⟨w.heap.size,0,none⟩) 0 0) 0 []:=World.ownsRow_lit _ #[] 0 (Nat.le_refl _) (by unfold maxLen;omega) rfl
   have HO0:=Lib.hid ho0
   have HS0:=Lib.hid (HG.out.later (below_a w (.cells #[] 53)))
   clear ho0
   go_wp2_with (at_builtin;refine listF rfl (.tmp 17) (.tmp 18) 27 rfl w.heap.size 53 ig (.agg #[.int .i64 0,.int .i64 0]) 2 16 encG_ok Tryz.underlying27 gi gz0 gz1 gz2 rfl w.heap.size rfl HO0.out _ _ rfl HS0.out (by rw [HGL.out];unfold maxLen;omega) (by rw [HGL.out];exact HBY.out) (below_a w _).size ?_)
   intro v0 w1 ho1 hb1
   have HB1:=Lib.hid (show Below w.heap.size w w1 from Below.step (below_a w (.cells #[] 53)) (by simpa using hb1))
   have HR1:=Lib.hid (own_recs encG_ok ho1)
   obtain ⟨a0,cp0,rfl⟩:=own_shapeI ho1
   rw [HGL.out] at ho1
   rw [HGL.out]
   rw [HGL.out] at HR1
   have HX1:=Lib.hid (fun q e=>(ho1.lt q e).2)
   have HO1:=Lib.hid ho1
   clear ho1 hb1 HO0 HS0
   go_wp2_with fail
   have A1:=pNew_at (.slice a0 l0 cp0) Gs a1 w1 HR1.out hr (wf_u64 HG1.out)
   refine A1.mono ?_;clear A1;rintro e w2 ⟨t,F,rfl,ht2,hF2,hb2⟩
   have HB2:=Lib.hid (Below.step HB1.out hb2)
   have HT2:=Lib.hid ht2
   have HF2:=Lib.hid hF2
   replace HR1:=Lib.hid (HR1.out.later hb2)
   replace HO1:=Lib.hid (own_below HO1.out hb2)
   clear hb2 ht2 hF2
   go_wp2_with fail
   have A2:=tRight_at (.slice s0 l0 c0) Gs w2 (HG.out.later HB2.out)
   rw [decide_eq_true (checkG_right.2 hr)] at A2
   refine A2.mono ?_;clear A2;rintro e w3 ⟨rfl,hb3⟩
   have HB3:=Lib.hid (Below.step HB2.out hb3)
   replace HT2:=Lib.hid (HT2.out.below hb3)
   replace HR1:=Lib.hid (HR1.out.later hb3)
   replace HO1:=Lib.hid (own_below HO1.out hb3)
   clear hb3
   go_wp2_with fail
   refine (AW.out _).mono ?_
   rintro e w9 ⟨rfl,hb9⟩
   have HB9:=Lib.hid (Below.step (HB3.out) hb9)
   clear hb9
   go_wp2_with fail
   go_ret
   exact ⟨rfl,HB9.out⟩
  ·have z1:decide ((l0:Int) > 8)=false:=decide_eq_false (by omega)
   have z1':decide (8<l0)=false:=decide_eq_false (by omega)
   by_cases h80:l2 > 80
   ·have z2:decide ((l2:Int) > 80)=true:=decide_eq_true (by omega)
    have z2':decide (80<l2)=true:=decide_eq_true h80
    clear h8 h80 r2
    go_enter Tryz.func6,Tryz.ntmps6
    go_upto_region 1 with fail
    have ho0:(w.alloc (.cells #[] 53)).ownsRow w.heap.size 53 2 (.slice (some ⟨w.heap.size,0,none⟩) 0 0) 0 []:=World.ownsRow_lit _ #[] 0 (Nat.le_refl _) (by unfold maxLen;omega) rfl
    have HO0:=Lib.hid ho0
    have HS0:=Lib.hid (HG.out.later (below_a w (.cells #[] 53)))
    clear ho0
    go_wp2_with (at_builtin;refine listF rfl (.tmp 17) (.tmp 18) 27 rfl w.heap.size 53 ig (.agg #[.int .i64 0,.int .i64 0]) 2 16 encG_ok Tryz.underlying27 gi gz0 gz1 gz2 rfl w.heap.size rfl HO0.out _ _ rfl HS0.out (by rw [HGL.out];unfold maxLen;omega) (by rw [HGL.out];exact HBY.out) (below_a w _).size ?_)
    intro v0 w1 ho1 hb1
    have HB1:=Lib.hid (show Below w.heap.size w w1 from Below.step (below_a w (.cells #[] 53)) (by simpa using hb1))
    have HR1:=Lib.hid (own_recs encG_ok ho1)
    obtain ⟨a0,cp0,rfl⟩:=own_shapeI ho1
    rw [HGL.out] at ho1
    rw [HGL.out]
    rw [HGL.out] at HR1
    have HX1:=Lib.hid (fun q e=>(ho1.lt q e).2)
    have HO1:=Lib.hid ho1
    clear ho1 hb1 HO0 HS0
    go_wp2_with fail
    have A1:=pNew_at (.slice a0 l0 cp0) Gs a1 w1 HR1.out hr (wf_u64 HG1.out)
    refine A1.mono ?_;clear A1;rintro e w2 ⟨t,F,rfl,ht2,hF2,hb2⟩
    have HB2:=Lib.hid (Below.step HB1.out hb2)
    have HT2:=Lib.hid ht2
    have HF2:=Lib.hid hF2
    replace HR1:=Lib.hid (HR1.out.later hb2)
    replace HO1:=Lib.hid (own_below HO1.out hb2)
    clear hb2 ht2 hF2
    go_wp2_with fail
    have A2:=tRight_at (.slice s0 l0 c0) Gs w2 (HG.out.later HB2.out)
    rw [decide_eq_true (checkG_right.2 hr)] at A2
    refine A2.mono ?_;clear A2;rintro e w3 ⟨rfl,hb3⟩
    have HB3:=Lib.hid (Below.step HB2.out hb3)
    replace HT2:=Lib.hid (HT2.out.below hb3)
    replace HR1:=Lib.hid (HR1.out.later hb3)
    replace HO1:=Lib.hid (own_below HO1.out hb3)
    clear hb3
    go_wp2_with fail
    refine (AW.out _).mono ?_
    rintro e w9 ⟨rfl,hb9⟩
    have HB9:=Lib.hid (Below.step (HB3.out) hb9)
    clear hb9
    go_wp2_with fail
    go_ret
    exact ⟨rfl,HB9.out⟩
   ·have z2:decide ((l2:Int) > 80)=false:=decide_eq_false (by omega)
    have z2':decide (80<l2)=false:=decide_eq_false (by omega)
    have hl80:l2≤80:=by omega
    have HPR:=Lib.hid r2
    clear h8 h80 r2
    go_enter Tryz.func6,Tryz.ntmps6
    go_upto_region 1 with fail
    have ho0:(w.alloc (.cells #[] 53)).ownsRow w.heap.size 53 2 (.slice (some ⟨w.heap.size,0,none⟩) 0 0) 0 []:=World.ownsRow_lit _ #[] 0 (Nat.le_refl _) (by unfold maxLen;omega) rfl
    have HO0:=Lib.hid ho0
    have HS0:=Lib.hid (HG.out.later (below_a w (.cells #[] 53)))
    clear ho0
    go_wp2_with (at_builtin;refine listF rfl (.tmp 17) (.tmp 18) 27 rfl w.heap.size 53 ig (.agg #[.int .i64 0,.int .i64 0]) 2 16 encG_ok Tryz.underlying27 gi gz0 gz1 gz2 rfl w.heap.size rfl HO0.out _ _ rfl HS0.out (by rw [HGL.out];unfold maxLen;omega) (by rw [HGL.out];exact HBY.out) (below_a w _).size ?_)
    intro v0 w1 ho1 hb1
    have HB1:=Lib.hid (show Below w.heap.size w w1 from Below.step (below_a w (.cells #[] 53)) (by simpa using hb1))
    have HR1:=Lib.hid (own_recs encG_ok ho1)
    obtain ⟨a0,cp0,rfl⟩:=own_shapeI ho1
    rw [HGL.out] at ho1
    rw [HGL.out]
    rw [HGL.out] at HR1
    have HX1:=Lib.hid (fun q e=>(ho1.lt q e).2)
    have HO1:=Lib.hid ho1
    clear ho1 hb1 HO0 HS0
    go_wp2_with fail
    have A1:=pNew_at (.slice a0 l0 cp0) Gs a1 w1 HR1.out hr (wf_u64 HG1.out)
    refine A1.mono ?_;clear A1;rintro e w2 ⟨t,F,rfl,ht2,hF2,hb2⟩
    have HB2:=Lib.hid (Below.step HB1.out hb2)
    have HT2:=Lib.hid ht2
    have HF2:=Lib.hid hF2
    replace HR1:=Lib.hid (HR1.out.later hb2)
    replace HO1:=Lib.hid (own_below HO1.out hb2)
    clear hb2 ht2 hF2
    go_wp2_with fail
    have A2:=tRight_at (.slice s0 l0 c0) Gs w2 (HG.out.later HB2.out)
    rw [decide_eq_true (checkG_right.2 hr)] at A2
    refine A2.mono ?_;clear A2;rintro e w3 ⟨rfl,hb3⟩
    have HB3:=Lib.hid (Below.step HB2.out hb3)
    replace HT2:=Lib.hid (HT2.out.below hb3)
    replace HR1:=Lib.hid (HR1.out.later hb3)
    replace HO1:=Lib.hid (own_below HO1.out hb3)
    clear hb3
    go_wp2_with fail
    refine (SameGroups_at (.slice a0 l0 cp0) (.slice s0 l0 c0) Gs w3 HR1.out (HG.out.later HB3.out) (by rw [HGL.out];omega)).mono ?_;rintro e w4 ⟨rfl,hb4⟩
    have HB4:=Lib.hid (Below.step HB3.out hb4)
    replace HT2:=Lib.hid (HT2.out.below hb4)
    replace HO1:=Lib.hid (own_below HO1.out hb4)
    clear hb4 HR1 z1 z1' z2 z2'
    obtain ⟨g0,cp,hgc⟩:=own_pos HO1.out (by omega)
    obtain ⟨rfl,rfl⟩:a0=some ⟨g0,0,none⟩∧cp0=cp:=by cases hgc;exact ⟨rfl,rfl⟩
    have hg0:=(HO1.out.lt g0 rfl)
    have hg1:w.heap.size≤g0:=hg0.1
    have HGF:=Lib.hid (show g0∉F from fun m=>by have h1:=HF2.out _ m;have h2:=HX1.out g0 rfl;omega)
    clear hgc
    go_wp2_with fail
    go_loopw [67] (fun i wr=>∃ k:Nat,k≤l0∧i=.int .i64 k∧Kept [g0] w4 wr∧(∀ j,k≤j→j<l0→wr.cell? ⟨g0,j*2+1,none⟩=some (.int .i64 (Gs[j]!).2)∧wr.frozen? ⟨g0,j*2+1,none⟩=false)) (fun i _=>l0 - (intOf i).toNat)
    case atStart=>exact ⟨0,Nat.zero_le _,rfl,Kept.refl _ _,fun j _ hj=>by
     have hjl:j<Gs.length:=by rw [HGL.out];exact hj
     have hx:Gs[j]?=some Gs[j]!:=by rw [List.getElem?_eq_getElem hjl,getElem!_pos Gs j hjl]
     exact ⟨(HO1.out.cellAt (j*2+1) (by omega)).trans (flatR_at encG_ok hx 1 (by decide)),HO1.out.frozenAt _⟩⟩
    case round =>
     obtain ⟨k,hk,rfl,hK,hrow⟩:=hrel
     have HK:=Lib.hid hK
     by_cases hlt:k<l0
     ·obtain ⟨i0,f0⟩:=hrow k (Nat.le_refl _) hlt
      have HRW:=Lib.hid hrow
      have hki:(k:Int)<(l0:Int):=by omega
      have hk0:(0:Int)≤(k:Int):=by omega
      generalize (Gs[k]!).2=x at i0
      clear hK hrow
      go_wp2_with fail
      go_roundw
      case rel=>exact ⟨k+1,by omega,by go_num,HK.out.setCell (p:=⟨g0,k*2+1,none⟩) (Or.inl (by simp)) _,fun j h1 h2=>⟨cell_set_ne (HRW.out j (by omega) h2).1 (Or.inr (by omega)),by rw [World.frozen?_setCell];exact (HRW.out j (by omega) h2).2⟩⟩
      case measure=>simp [intOf];omega
     ·have l1:decide ((k:Int)<(l0:Int))=false:=decide_eq_false (by omega)
      have l2':decide (k<l0)=false:=decide_eq_false hlt
      have l3:¬ (k:Int)<(l0:Int):=by omega
      obtain ⟨w5,rfl⟩:∃ x:World,x=wr:=⟨_,rfl⟩
      have HB5:=Lib.hid (Kept.stepB HB4.out (Nat.le_refl _) hK (fun b hb=>by simp at hb;subst hb;exact hg1))
      have HT5:=Lib.hid (HT2.out.kept hK (fun b hb m=>HGF.out (by simp at m;subst m;exact hb)))
      have A3:=Lib.hid (tNew_at (.slice s0 l0 c0) Gs a1 w5 (HG.out.later HB5.out) hr)
      clear hK hrow hk hlt HK HO1 hg0
      go_wp2_with fail
      refine A3.out.mono ?_;clear A3;rintro e w6 ⟨bg,ba,bf,cg,ca,cf,rfl,hO,hb6⟩
      have HO:=Lib.hid hO
      have HB6:=Lib.hid (Below.step HB5.out hb6)
      have HT6:=Lib.hid (HT5.out.below hb6)
      have HLT:=Lib.hid HT5.out.lt
      have HS56:=Lib.hid hb6.size
      rw [HGL.out]
      clear hO hb6 l1 l2' l3
      go_upto_region 16 with fail
      obtain ⟨W7,hW7⟩:∃ W,W=w6.alloc (.cells #[.slice (some ⟨bg,0,none⟩) l0 cg,.int .u64 a1,.slice none 0 0,.slice (some ⟨ba,0,none⟩) l0 ca,.slice (some ⟨bf,0,none⟩) l0 cf] 74):=⟨_,rfl⟩
      rw [← hW7]
      have hBB:BothB w t w6.heap.size l0 W7 ⟨some ⟨bg,0,none⟩,none,some ⟨ba,0,none⟩,some ⟨bf,0,none⟩,cg,0,ca,cf⟩ (newT Gs a1) (newR Gs a1) F:=by
       have hO:=HO.out
       rw [HGL.out] at hO
       have hF:∀ b∈F,b<w5.heap.size:=HLT.out
       have h0:RHeld F w6 ⟨some ⟨bg,0,none⟩,none,some ⟨ba,0,none⟩,some ⟨bf,0,none⟩,cg,0,ca,cf⟩ l0 0 (newR Gs a1):=⟨own_heldN encG_ok hO.g HGL.out hF,own_heldN encTk_ok hO.t rfl hF,own_heldN encEn_ok hO.a ((newSp_len _ _).trans HGL.out) hF,own_heldN encU_ok hO.f ((newFl_len _).trans HGL.out) hF⟩
       rw [hW7]
       exact
       {inn:=HT6.out.below (below_a _ _)
        box:=cells5 (cell_nw _ _ _ 0 _ rfl) (cell_nw _ _ _ 1 _ rfl) (cell_nw _ _ _ 2 _ rfl) (cell_nw _ _ _ 3 _ rfl) (cell_nw _ _ _ 4 _ rfl) (frz_nw _ _ _ 0) (frz_nw _ _ _ 1) (frz_nw _ _ _ 2) (frz_nw _ _ _ 3) (frz_nw _ _ _ 4)
        off:=fun m=>by have h1:=hF _ m;have h2:=HS56.out;omega
        recs:=h0.step (Kept.of (below_a _ _)) (fun x hx=>by
         rcases List.mem_append.1 hx with hx | hx
         ·simp at hx;subst hx;exact Or.inr (Nat.le_refl _)
         ·exact Or.inl hx)
        own:=fun x hx=>Nat.le_trans HB1.out.size (HF2.out x hx)
        new:=HB6.out.size
        bel:=Below.allocS HB6.out _
        both:=⟨new_ok hr (wf_u64 HG1.out).1,fls_new Gs a1,new_twin,HGL.out,(wf_u64 HG1.out).2⟩ }
      have HBB:=Lib.hid hBB
      clear hBB hW7 HO HT6 HLT HS56 HB5 HT5 HB6 HT2 HX1 HGF HF2 HB4 HB3 HB2 HB1 hg1
      generalize w6.heap.size=b7 at *
      go_wp2_with fail
      go_loopw [84] (fun i wx=>∃ (k:Nat) (a:RAd) (s:TSt) (r:RSt) (F:List Nat),k≤l2∧i=.int .i64 k∧BothB w t b7 l0 wx a s r F) (fun i _=>l2 - (intOf i).toNat)
      case atStart=>exact ⟨0,_,_,_,_,Nat.zero_le _,rfl,HBB.out⟩
      case round =>
       clear HBB
       obtain ⟨k,a,s,r,F',hk,rfl,hBo⟩:=hrel
       have HBO:=Lib.hid hBo
       have c10:=(hBo.box 0 _ rfl).1
       have c11:=(hBo.box 1 _ rfl).1
       have c12:=(hBo.box 2 _ rfl).1
       have c13:=(hBo.box 3 _ rfl).1
       have c14:=(hBo.box 4 _ rfl).1
       clear hBo
       by_cases hlt:k<l2
       ·obtain ⟨b,off,kd,id,g,nn,xv,xr,xw,sv,rfl,u0,u1,u2,u3,u4,u5,u6,u7,hkd,hid,hg,hnn,hx,⟨L,hL1,hL2⟩,sa,sl,sc,rfl⟩:=act_cells HPR.out hlt
        have hk0:(0:Int)≤(k:Int):=by omega
        have hkm:(k:Int)<(l2:Int):=by omega
        replace u0:=cell_later HBO.out.bel u0
        replace u1:=cell_later HBO.out.bel u1
        replace u2:=cell_later HBO.out.bel u2
        replace u3:=cell_later HBO.out.bel u3
        replace u4:=cell_later HBO.out.bel u4
        replace u5:=cell_later HBO.out.bel u5
        replace u6:=cell_later HBO.out.bel u6
        replace u7:=cell_later HBO.out.bel u7
        have y0:(wr.alloc (.cells #[.int .u8 kd,.int .i64 id,.int .i64 g,.int .i64 nn,.int .u64 xv,.int .u32 xr,.int .u32 xw,.slice sa sl sc] 78)).cell? ⟨wr.heap.size,0,none⟩=some (.int .u8 kd):=cell_nw wr _ _ 0 _ rfl
        have y1:(wr.alloc (.cells #[.int .u8 kd,.int .i64 id,.int .i64 g,.int .i64 nn,.int .u64 xv,.int .u32 xr,.int .u32 xw,.slice sa sl sc] 78)).cell? ⟨wr.heap.size,1,none⟩=some (.int .i64 id):=cell_nw wr _ _ 1 _ rfl
        have y2:(wr.alloc (.cells #[.int .u8 kd,.int .i64 id,.int .i64 g,.int .i64 nn,.int .u64 xv,.int .u32 xr,.int .u32 xw,.slice sa sl sc] 78)).cell? ⟨wr.heap.size,2,none⟩=some (.int .i64 g):=cell_nw wr _ _ 2 _ rfl
        have y3:(wr.alloc (.cells #[.int .u8 kd,.int .i64 id,.int .i64 g,.int .i64 nn,.int .u64 xv,.int .u32 xr,.int .u32 xw,.slice sa sl sc] 78)).cell? ⟨wr.heap.size,3,none⟩=some (.int .i64 nn):=cell_nw wr _ _ 3 _ rfl
        have y4:(wr.alloc (.cells #[.int .u8 kd,.int .i64 id,.int .i64 g,.int .i64 nn,.int .u64 xv,.int .u32 xr,.int .u32 xw,.slice sa sl sc] 78)).cell? ⟨wr.heap.size,4,none⟩=some (.int .u64 xv):=cell_nw wr _ _ 4 _ rfl
        have y5:(wr.alloc (.cells #[.int .u8 kd,.int .i64 id,.int .i64 g,.int .i64 nn,.int .u64 xv,.int .u32 xr,.int .u32 xw,.slice sa sl sc] 78)).cell? ⟨wr.heap.size,5,none⟩=some (.int .u32 xr):=cell_nw wr _ _ 5 _ rfl
        have y6:(wr.alloc (.cells #[.int .u8 kd,.int .i64 id,.int .i64 g,.int .i64 nn,.int .u64 xv,.int .u32 xr,.int .u32 xw,.slice sa sl sc] 78)).cell? ⟨wr.heap.size,6,none⟩=some (.int .u32 xw):=cell_nw wr _ _ 6 _ rfl
        have y7:(wr.alloc (.cells #[.int .u8 kd,.int .i64 id,.int .i64 g,.int .i64 nn,.int .u64 xv,.int .u32 xr,.int .u32 xw,.slice sa sl sc] 78)).cell? ⟨wr.heap.size,7,none⟩=some (.slice sa sl sc):=cell_nw wr _ _ 7 _ rfl
        have e10:=cell_al (.cells #[.int .u8 kd,.int .i64 id,.int .i64 g,.int .i64 nn,.int .u64 xv,.int .u32 xr,.int .u32 xw,.slice sa sl sc] 78) c10
        have e11:=cell_al (.cells #[.int .u8 kd,.int .i64 id,.int .i64 g,.int .i64 nn,.int .u64 xv,.int .u32 xr,.int .u32 xw,.slice sa sl sc] 78) c11
        have e12:=cell_al (.cells #[.int .u8 kd,.int .i64 id,.int .i64 g,.int .i64 nn,.int .u64 xv,.int .u32 xr,.int .u32 xw,.slice sa sl sc] 78) c12
        have e13:=cell_al (.cells #[.int .u8 kd,.int .i64 id,.int .i64 g,.int .i64 nn,.int .u64 xv,.int .u32 xr,.int .u32 xw,.slice sa sl sc] 78) c13
        have e14:=cell_al (.cells #[.int .u8 kd,.int .i64 id,.int .i64 g,.int .i64 nn,.int .u64 xv,.int .u32 xr,.int .u32 xw,.slice sa sl sc] 78) c14
        have HB2:=Lib.hid (HBO.out.later (below_a wr (.cells #[.int .u8 kd,.int .i64 id,.int .i64 g,.int .i64 nn,.int .u64 xv,.int .u32 xr,.int .u32 xw,.slice sa sl sc] 78)))
        have HSV:=Lib.hid ((spots_held hL1 HBO.out.own).later HB2.out.bel)
        have HK2:=Lib.hid hkd
        have HID:=Lib.hid hid
        have HGG:=Lib.hid hg
        have HNN:=Lib.hid hnn
        have HX:=Lib.hid hx
        have HL2:=Lib.hid hL2
        have HL9:=Lib.hid (show wr.heap.size∉F'∧wr.heap.size≠b7 from ⟨fun m=>by have:=HBO.out.inn.lt _ m;omega,fun e=>by have:=lt_of_cell c10;omega⟩)
        clear hkd hid hg hnn hx hL1 hL2
        go_wp2_with fail
        generalize wr.alloc (.cells #[.int .u8 kd,.int .i64 id,.int .i64 g,.int .i64 nn,.int .u64 xv,.int .u32 xr,.int .u32 xw,.slice sa sl sc] 78)=wa at *
        generalize wr.heap.size=b9 at *
        refine (pact_any [b7] a kd id g nn xv xr xw (.slice sa sl sc) L wa HB2.out.inn HB2.out.both HB2.out.recs (fun x hx=>by simp at hx;subst hx;exact lt_of_cell e10) trivial HK2.out HID.out HGG.out HNN.out HX.out HSV.out HL2.out).mono ?_
        rintro e w3 ⟨a3,s3,r3,F3,rfl,hH3,hR3,hS3,hB3⟩
        obtain ⟨hx3,hBB3⟩:=HB2.out.acted hH3 hR3 hS3 hB3 (below_a w3 (.cells #[.slice a3.ag l0 a3.cg,.int .u64 r3.cr,.slice a3.at' r3.T.length a3.ct,.slice a3.aa l0 a3.ca,.slice a3.af l0 a3.cf] 74))
        unfold treeW at hBB3
        have d10:=(hx3 0 _ rfl).1
        have f10:=(hx3 0 _ rfl).2
        have d11:=(hx3 1 _ rfl).1
        have f11:=(hx3 1 _ rfl).2
        have d12:=(hx3 2 _ rfl).1
        have f12:=(hx3 2 _ rfl).2
        have d13:=(hx3 3 _ rfl).1
        have f13:=(hx3 3 _ rfl).2
        have d14:=(hx3 4 _ rfl).1
        have f14:=(hx3 4 _ rfl).2
        have v10:=cell_nw w3 #[.slice a3.ag l0 a3.cg,.int .u64 r3.cr,.slice a3.at' r3.T.length a3.ct,.slice a3.aa l0 a3.ca,.slice a3.af l0 a3.cf] 74 0 _ rfl
        have v11:=cell_nw w3 #[.slice a3.ag l0 a3.cg,.int .u64 r3.cr,.slice a3.at' r3.T.length a3.ct,.slice a3.aa l0 a3.ca,.slice a3.af l0 a3.cf] 74 1 _ rfl
        have v12:=cell_nw w3 #[.slice a3.ag l0 a3.cg,.int .u64 r3.cr,.slice a3.at' r3.T.length a3.ct,.slice a3.aa l0 a3.ca,.slice a3.af l0 a3.cf] 74 2 _ rfl
        have v13:=cell_nw w3 #[.slice a3.ag l0 a3.cg,.int .u64 r3.cr,.slice a3.at' r3.T.length a3.ct,.slice a3.aa l0 a3.ca,.slice a3.af l0 a3.cf] 74 3 _ rfl
        have v14:=cell_nw w3 #[.slice a3.ag l0 a3.cg,.int .u64 r3.cr,.slice a3.at' r3.T.length a3.ct,.slice a3.aa l0 a3.ca,.slice a3.af l0 a3.cf] 74 4 _ rfl
        have q10:=(hBB3.box 0 _ rfl).1
        have q11:=(hBB3.box 1 _ rfl).1
        have q12:=(hBB3.box 2 _ rfl).1
        have q13:=(hBB3.box 3 _ rfl).1
        have q14:=(hBB3.box 4 _ rfl).1
        have z11:((((((w3.alloc (.cells #[.slice a3.ag l0 a3.cg,.int .u64 r3.cr,.slice a3.at' r3.T.length a3.ct,.slice a3.aa l0 a3.ca,.slice a3.af l0 a3.cf] 74)).setCell ⟨b7,0,none⟩ (.slice a3.ag l0 a3.cg)).setCell ⟨b7,1,none⟩ (.int .u64 r3.cr)).setCell ⟨b7,2,none⟩ (.slice a3.at' r3.T.length a3.ct)).setCell ⟨b7,3,none⟩ (.slice a3.aa l0 a3.ca)).setCell ⟨b7,4,none⟩ (.slice a3.af l0 a3.cf)).cell? ⟨b9,1,none⟩=some (.int .i64 id):=cell_set_ne (cell_set_ne (cell_set_ne (cell_set_ne (cell_set_ne (cell_al _ (hS3.cell HL9.out.1 y1)) (Or.inl HL9.out.2)) (Or.inl HL9.out.2)) (Or.inl HL9.out.2)) (Or.inl HL9.out.2)) (Or.inl HL9.out.2)
        have z12:((((((w3.alloc (.cells #[.slice a3.ag l0 a3.cg,.int .u64 r3.cr,.slice a3.at' r3.T.length a3.ct,.slice a3.aa l0 a3.ca,.slice a3.af l0 a3.cf] 74)).setCell ⟨b7,0,none⟩ (.slice a3.ag l0 a3.cg)).setCell ⟨b7,1,none⟩ (.int .u64 r3.cr)).setCell ⟨b7,2,none⟩ (.slice a3.at' r3.T.length a3.ct)).setCell ⟨b7,3,none⟩ (.slice a3.aa l0 a3.ca)).setCell ⟨b7,4,none⟩ (.slice a3.af l0 a3.cf)).cell? ⟨b9,2,none⟩=some (.int .i64 g):=cell_set_ne (cell_set_ne (cell_set_ne (cell_set_ne (cell_set_ne (cell_al _ (hS3.cell HL9.out.1 y2)) (Or.inl HL9.out.2)) (Or.inl HL9.out.2)) (Or.inl HL9.out.2)) (Or.inl HL9.out.2)) (Or.inl HL9.out.2)
        have HBB3:=Lib.hid hBB3
        clear hx3 hBB3 hH3 hR3 hS3 hB3 y0 y1 y2 y3 y4 y5 y6 y7 c10 c11 c12 c13 c14 e10 e11 e12 e13 e14 u0 u1 u2 u3 u4 u5 u6 u7
        go_wp2_with fail
        refine (psame_any a3 id g _ HBB3.out.inn HBB3.out.both HBB3.out.held HID.out HGG.out).mono ?_
        rintro e w5 ⟨rfl,hb5⟩
        have HB5:=Lib.hid (HBB3.out.later hb5)
        clear hb5
        go_wp2_with fail
        go_roundw
        case rel=>exact ⟨k+1,a3,s3,r3,F3,by omega,by go_num,HB5.out⟩
        case measure=>simp [intOf];omega
       ·have l1:decide ((k:Int)<(l2:Int))=false:=decide_eq_false (by omega)
        have l2':decide (k<l2)=false:=decide_eq_false hlt
        have l3:¬ (k:Int)<(l2:Int):=by omega
        clear hk hlt
        go_wp2_with fail
        refine (pwhole_any a wr HBO.out.inn HBO.out.both HBO.out.held).mono ?_
        rintro e w8 ⟨rfl,hb8⟩
        have HB8:=Lib.hid (Below.step HBO.out.bel hb8)
        clear hb8
        go_wp2_with fail
        refine (AW.out _).mono ?_
        rintro e w9 ⟨rfl,hb9⟩
        have HB9:=Lib.hid (Below.step (HB8.out) hb9)
        clear hb9
        go_wp2_with fail
        go_ret
        exact ⟨rfl,HB9.out⟩
 ·go_enter Tryz.func6,Tryz.ntmps6
  go_upto_region 1 with fail
  have ho0:(w.alloc (.cells #[] 53)).ownsRow w.heap.size 53 2 (.slice (some ⟨w.heap.size,0,none⟩) 0 0) 0 []:=World.ownsRow_lit _ #[] 0 (Nat.le_refl _) (by unfold maxLen;omega) rfl
  have HO0:=Lib.hid ho0
  have HS0:=Lib.hid (HG.out.later (below_a w (.cells #[] 53)))
  clear ho0
  go_wp2_with (at_builtin;refine listF rfl (.tmp 17) (.tmp 18) 27 rfl w.heap.size 53 ig (.agg #[.int .i64 0,.int .i64 0]) 2 16 encG_ok Tryz.underlying27 gi gz0 gz1 gz2 rfl w.heap.size rfl HO0.out _ _ rfl HS0.out (by rw [HGL.out];unfold maxLen;omega) (by rw [HGL.out];exact HBY.out) (below_a w _).size ?_)
  intro v0 w1 ho1 hb1
  have HB1:=Lib.hid (show Below w.heap.size w w1 from Below.step (below_a w (.cells #[] 53)) (by simpa using hb1))
  have HR1:=Lib.hid (own_recs encG_ok ho1)
  obtain ⟨a0,cp0,rfl⟩:=own_shapeI ho1
  rw [HGL.out] at ho1
  rw [HGL.out]
  rw [HGL.out] at HR1
  have HX1:=Lib.hid (fun q e=>(ho1.lt q e).2)
  have HO1:=Lib.hid ho1
  clear ho1 hb1 HO0 HS0
  go_wp2_with fail
  have A1:=pNew_bad (.slice a0 l0 cp0) Gs a1 w1 HR1.out hr
  refine A1.mono ?_;clear A1;rintro e w2 ⟨rfl,hb2⟩
  have HB2:=Lib.hid (Below.step HB1.out hb2)
  clear hb2
  go_wp2_with fail
  have A2:=tRight_at (.slice s0 l0 c0) Gs w2 (HG.out.later HB2.out)
  rw [decide_eq_false (fun q=>hr (checkG_right.1 q))] at A2
  refine A2.mono ?_;clear A2;rintro e w3 ⟨rfl,hb3⟩
  have HB3:=Lib.hid (Below.step HB2.out hb3)
  clear hb3
  go_wp2_with fail
  refine (AW.out _).mono ?_
  rintro e w9 ⟨rfl,hb9⟩
  have HB9:=Lib.hid (Below.step (HB3.out) hb9)
  clear hb9
  go_wp2_with fail
  go_ret
  exact ⟨rfl,HB9.out⟩
end Go.Proofs.YtfgmglghlapbcaaGreat
