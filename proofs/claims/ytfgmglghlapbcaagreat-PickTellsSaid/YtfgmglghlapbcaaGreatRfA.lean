/-
  Layer 25 (pick), the reference: members in memory, with.
-/
import Derived.Test.YtfgmglghlapbcaaGreatPkT
import Derived.Test.YtfgmglghlapbcaaGreatKtB
import Derived.Test.YtfgmglghlapbcaaGreatKtC
import Derived.OneCell
namespace Go.Proofs.YtfgmglghlapbcaaGreat
open Go.RowKit Go.Maps Go.IntWalk Go.Lib Go.Sort Go.Shelf
set_option linter.unusedVariables false
set_option linter.unusedSimpArgs false
def encMb (m:Int×Int):List Value:=[.int .u64 m.2,.int .i64 m.1]
theorem encMb_ok:Enc encMb 2:=⟨fun _=>rfl,fun x u hu=>by simp only [encMb,List.mem_cons,List.not_mem_nil,or_false] at hu;rcases hu with rfl | rfl <;> rfl,by decide⟩
theorem infoRMb:(Tryz.prog.info? 169).map (fun i=>(i.zero,i.size,i.bytes))=some (some (.agg #[.int .u64 0,.int .i64 0]),2,16):=by kernel_rfl
theorem sizeRMb (w:World):(Go.sizeOf (Tryz.prog.elem 166)).run Tryz.prog w=.ok 2 w:=by kernel_rfl
theorem undRMbs:Tryz.prog.underlying 166=some (.slice (Tryz.prog.elem 166)):=by kernel_rfl
def cutI (S:Items) (x:Int×Int):Nat:=(S.takeWhile fun y=>decide (ltI y x)).length
theorem putL_cut (S:Items) (x:Int×Int):putL S x=S.take (cutI S x)++x::S.drop (cutI S x):=by
 induction S with
 | nil=>rfl
 | cons y r ih =>
  unfold putL cutI
  by_cases h:ltI y x
  ·rw [if_pos h,List.takeWhile_cons,if_pos (decide_eq_true h),ih];rfl
  ·rw [if_neg h,List.takeWhile_cons,if_neg (by simpa using h)];rfl
theorem cutI_le (S:Items) (x:Int×Int):cutI S x≤S.length:=(List.takeWhile_sublist _).length_le
theorem cutI_bef {S:Items} {x:Int×Int}:∀ {k:Nat},k<S.length→(k<cutI S x→ltI S[k]! x)∧(k=cutI S x→¬ ltI S[k]! x):=by
 induction S with
 | nil=>intro k hk;simp at hk
 | cons y r ih =>
  intro k hk
  unfold cutI
  rw [List.takeWhile_cons]
  by_cases hb:ltI y x
  ·rw [if_pos (decide_eq_true hb),List.length_cons]
   cases k with
   | zero=>exact ⟨fun _=>by simpa using hb,fun h=>by omega⟩
   | succ k =>
    have:=ih (k:=k) (by simpa using hk)
    have e:(y::r)[k+1]! = r[k]!:=by simp
    rw [e]
    exact ⟨fun h=>this.1 (by unfold cutI;omega),fun h=>this.2 (by unfold cutI;omega)⟩
  ·rw [if_neg (by simpa using hb)]
   refine ⟨fun h=>by simp at h,fun h=>?_⟩
   simp only [List.length_nil] at h
   subst h
   simpa using hb
theorem RecsAt.memI {w:World} {a:Option Addr} {n cap:Nat} {S:Items} (h:RecsAt encMb w (.slice a n cap) S) {k:Nat} (hk:k<S.length):∃ b off,a=some ⟨b,off,none⟩∧w.cell? ⟨b,off+k*2,none⟩=some (.int .u64 S[k]!.2)∧w.cell? ⟨b,off+k*2+1,none⟩=some (.int .i64 S[k]!.1):=by
 obtain ⟨_,b,off,e,hc⟩:=h.at encMb_ok (i:=k) (x:=S[k]!) (by rw [List.getElem?_eq_getElem hk,getElem!_pos S k hk])
 exact ⟨b,off,e,hc 0 _ rfl,hc 1 _ rfl⟩
def OwnI (w:World) (S:Items) (e:Ending) (w':World):Prop:=∃ v,e=.returned v∧w'.ownsRow w.heap.size 169 2 v S.length (flatR encMb S)∧Below w.heap.size w w'
theorem own_shapeI {w:World} {base n size:Nat} {e:TypeId} {v:Value} {xs:List Value} (h:w.ownsRow base e size v n xs):∃ a cap,v=.slice a n cap:=by
 rcases h.2 with ⟨rfl,h0⟩ | ⟨g,cap,cur,rfl,_⟩
 ·exact ⟨none,0,by rw [h0]⟩
 ·exact ⟨_,cap,rfl⟩
set_option maxRecDepth 100000 in
set_option maxHeartbeats 4000000 in
theorem twith_at (a:Option Addr) (cap:Nat) (S:Items) (xi xv:Int) (w:World) (h:RecsAt encMb w (.slice a S.length cap) S) (hl:S.length≤400000) :
  Calls Tryz.prog 119 #[.slice a S.length cap,.agg #[.int .u64 xv,.int .i64 xi]] w (OwnI w (putL S (xi,xv))):=by
 obtain ⟨i0,hi,hz0,hz1,hz2⟩:=info_parts infoRMb
 obtain ⟨a',cap',e',hl1,hl2,hl3,-⟩:=id h
 cases e'
 obtain ⟨M,hM⟩:∃ M,M=S.length:=⟨_,rfl⟩
 have HM:=Lib.hid hM.symm
 have hM6:M≤400000:=by rw [hM];exact hl
 have HCL:=Lib.hid (cutI_le S (xi,xv))
 rw [← hM] at h hl1 ⊢
 obtain ⟨W0,hW0⟩:∃ W0,W0=w.alloc (.cells #[.int .u64 xv,.int .i64 xi] 169):=⟨_,rfl⟩
 have HB0:=Lib.hid (show Below w.heap.size w W0 by rw [hW0];exact below_a _ _)
 have x0:W0.cell? ⟨w.heap.size,0,none⟩=some (.int .u64 xv):=by rw [hW0];exact cell_nw _ _ _ 0 _ rfl
 have x1:W0.cell? ⟨w.heap.size,1,none⟩=some (.int .i64 xi):=by rw [hW0];exact cell_nw _ _ _ 1 _ rfl
 have HW0:=Lib.hid hW0
 have RW:=Lib.hid (h.later HB0.out)
 clear h hM hl hW0
 go_enter Tryz.func119,Tryz.ntmps119
 go_wp2_with fail
 rw [← HW0.out]
 obtain ⟨bx,hbx⟩:∃ b,b=w.heap.size:=⟨_,rfl⟩
 rw [← hbx] at x0 x1 ⊢
 have HBX:=Lib.hid hbx
 clear hbx HW0
 go_loopw [5] (fun i wr=>∃ k:Nat,k≤cutI S (xi,xv)∧i=.int .i64 k∧Below W0.heap.size W0 wr) (fun i _=>cutI S (xi,xv) - (intOf i).toNat)
 case atStart=>exact ⟨0,Nat.zero_le _,rfl,Below.refl _ _⟩
 case round =>
  obtain ⟨k,hk,rfl,hbr⟩:=hrel
  have HBR:=Lib.hid hbr
  replace x0:=cell_later hbr x0
  replace x1:=cell_later hbr x1
  clear hbr
  have hcl:=HCL.out
  rw [HM.out] at hcl
  have hk0:(0:Int)≤(k:Int):=by omega
  obtain ⟨lt,hlt⟩:∃ lt:Bool,lt=decide (k<cutI S (xi,xv)):=⟨_,rfl⟩
  have HLB:=Lib.hid hlt
  clear hlt
  go_upto_region 2 with fail
  go_cut [39] (fun s39 wx=>s39=.bool lt∧Below wr.heap.size wr wx)
  case first =>
   by_cases hkM:k<M
   ·obtain ⟨b,off,rfl,i0',i1'⟩:=(RW.out.later HBR.out).memI (by rw [HM.out];exact hkM:k<S.length)
    have hbb:=cutI_bef (x:=(xi,xv)) (by rw [HM.out];exact hkM:k<S.length)
    obtain ⟨⟨yi,yv⟩,hy⟩:∃ y,y=S[k]!:=⟨_,rfl⟩
    rw [← hy] at i0' i1' hbb
    have hkm:(k:Int)<(M:Int):=by omega
    have l2:decide (k<M)=true:=decide_eq_true hkM
    clear hy
    unfold ltI at hbb
    simp only at hbb
    by_cases hv:yv<xv
    ·have HLT:=Lib.hid (show lt=true by
      rw [HLB.out]
      refine decide_eq_true ?_
      rcases Nat.lt_or_ge k (cutI S (xi,xv)) with h | h
      ·exact h
      ·exact absurd (Or.inl hv) (hbb.2 (by omega)))
     have d1:decide (yv<xv)=true:=decide_eq_true hv
     clear hbb hv hk hcl
     go_wp2_with fail
     go_quiet (fail)
     go_wp2_with fail
     go_meet
     case rel=>exact ⟨by rw [HLT.out],below_drewN (Below.refl _ _) _⟩
    ·have d1:decide (yv<xv)=false:=decide_eq_false hv
     by_cases hv2:yv=xv∧yi<xi
     ·have HLT:=Lib.hid (show lt=true by
       rw [HLB.out]
       refine decide_eq_true ?_
       rcases Nat.lt_or_ge k (cutI S (xi,xv)) with h | h
       ·exact h
       ·exact absurd (Or.inr hv2) (hbb.2 (by omega)))
      have d2:(yv == xv)=true:=by simpa using hv2.1
      have d3:decide (yi<xi)=true:=decide_eq_true hv2.2
      clear hbb hv hv2 hk hcl
      go_wp2_with fail
      go_quiet (fail)
      go_wp2_with fail
      go_meet
      case rel=>exact ⟨by rw [HLT.out],below_drewN (Below.refl _ _) _⟩
     ·have HLT:=Lib.hid (show lt=false by
       rw [HLB.out]
       refine decide_eq_false fun h=>?_
       rcases hbb.1 h with q | q
       ·exact hv q
       ·exact hv2 q)
      by_cases hv3:yv=xv
      ·have d2:(yv == xv)=true:=by simpa using hv3
       have d3:decide (yi<xi)=false:=decide_eq_false (fun h=>hv2 ⟨hv3,h⟩)
       clear hbb hv hv2 hv3 hk hcl
       go_wp2_with fail
       go_quiet (fail)
       go_wp2_with fail
       go_meet
       case rel=>exact ⟨by rw [HLT.out],below_drewN (Below.refl _ _) _⟩
      ·have d2:(yv == xv)=false:=by simpa using hv3
       clear hbb hv hv2 hv3 hk hcl
       go_wp2_with fail
       go_quiet (fail)
       go_wp2_with fail
       go_meet
       case rel=>exact ⟨by rw [HLT.out],below_drewN (Below.refl _ _) _⟩
   ·have HLT:=Lib.hid (show lt=false by rw [HLB.out];exact decide_eq_false (by omega))
    have l1:decide ((k:Int)<(M:Int))=false:=decide_eq_false (by omega)
    have l2:decide (k<M)=false:=decide_eq_false hkM
    have l3:(k<M)=False:=eq_false hkM
    clear hk hcl
    go_wp2_with fail
    go_quiet (fail)
    go_wp2_with fail
    go_meet
    case rel=>exact ⟨by rw [HLT.out],below_drewN (Below.refl _ _) _⟩
  case rest =>
   obtain ⟨rfl,hbq⟩:=hcut
   replace x0:=cell_later hbq x0
   replace x1:=cell_later hbq x1
   replace HBR:=Lib.hid (Below.step HBR.out hbq)
   clear hbq
   cases lt with
   | true =>
    have HLT:=Lib.hid (show k<cutI S (xi,xv) from of_decide_eq_true HLB.out.symm)
    have hkm2:k<M:=by have h1:=HLT.out;omega
    clear hk hcl
    go_wp2_with fail
    go_roundw
    case rel=>exact ⟨k+1,by have:=HLT.out;omega,by go_num,HBR.out⟩
    case measure=>have:=HLT.out;simp [intOf];omega
   | false =>
    have HC:=Lib.hid (show k=cutI S (xi,xv) by have:=of_decide_eq_false HLB.out.symm;omega)
    clear hk hcl
    have hcut:=putL_cut S (xi,xv)
    have RT:=Lib.hid (sliced_take (m:=cutI S (xi,xv)) encMb_ok (RW.out.later HBR.out) (by have:=HCL.out;rw [HM.out] at this;exact this))
    have RD:=Lib.hid (sliced_drop (m:=cutI S (xi,xv)) encMb_ok (RW.out.later HBR.out) (by have:=HCL.out;rw [HM.out] at this;exact this))
    rw [← HC.out] at RT RD hcut
    have HCUT:=Lib.hid hcut
    have hlT:=Lib.hid (show (S.take k).length≤400000 by have h1:=List.length_take_le' k S;rw [HM.out] at h1;omega)
    have hlD:=Lib.hid (show (S.drop k).length≤400000 by rw [List.length_drop,HM.out];omega)
    have hkMm:k≤M:=by have:=HCL.out;rw [HM.out] at this;have:=HC.out;omega
    have hkC:k≤cap:=by omega
    obtain ⟨vT,hvT⟩:∃ v,v=sliced a 0 k cap 2:=⟨_,rfl⟩
    obtain ⟨vD,hvD⟩:∃ v,v=sliced a k M cap 2:=⟨_,rfl⟩
    rw [← hvT] at RT
    rw [← hvD] at RD
    have HVT:=Lib.hid hvT
    have HVD:=Lib.hid hvD
    have HSW:=Lib.hid HBR.out.size
    clear hvT hvD hcut
    go_wp2_with fail
    refine startB (S:=fun w'=>Below wc.heap.size wc w'∧w'.cell? ⟨bx,0,none⟩=some (.int .u64 xv)∧w'.cell? ⟨bx,1,none⟩=some (.int .i64 xi)) ⟨Below.refl _ _,x0,x1⟩ (held_2 (below_dr _)) (fun hS00 hS0 hHeld=>?_)
    obtain ⟨wc101,hwc101⟩:∃ X,X=wc.drew:=⟨_,rfl⟩
    rw [← hwc101] at hHeld ⊢
    have hWc101:Below wc.heap.size wc wc101:=by rw [hwc101];exact (Below.refl _ _).drew
    clear hwc101
    refine takeA 1 ?_
    refine takeA 2 ?_
    refine takeH (i:=3) (v:=vT) rfl (by kernel_rfl) (fun _ _ _ h=>h) (by rfl) (fun w _=>by rw [HVT.out];exact run_take 166 (.tmp 43) (.tmp 44) rfl undRMbs sizeRMb rfl rfl hkC) (by assumption) ?_
    try simp only [Act.put,List.setIfInBounds_toArray,List.set_cons_zero,List.set_cons_succ]
    refine takeA 5 ?_
    refine takeA 8 ?_
    refine takeA 9 ?_
    refine takeH (i:=10) (v:=vD) rfl (by kernel_rfl) (fun _ _ _ h=>h) (by rfl) (fun w _=>by rw [HVD.out];exact run_drop 166 (.tmp 50) (.tmp 51) rfl undRMbs sizeRMb rfl rfl hkMm) (by assumption) ?_
    try simp only [Act.put,List.setIfInBounds_toArray,List.set_cons_zero,List.set_cons_succ]
    refine readyA [0,6] (consA (fun K hK=>?_) (consA (fun K hK=>?_) .nil))
    ·skip
     go_simp
     obtain ⟨w102,hw102⟩:∃ X,X=wc101.alloc (.cells #[] 169):=⟨_,rfl⟩
     rw [← hw102]
     have hb102:Below wc101.heap.size wc101 w102:=by rw [hw102];exact below_a _ _
     have hW102:=Below.step hWc101 hb102
     have o0:w102.ownsRow wc.heap.size 169 2 (.slice (some ⟨wc101.heap.size,0,none⟩) 0 0) 0 []:=by rw [hw102];exact World.ownsRow_lit _ #[] 0 hWc101.size (by unfold maxLen;omega) rfl
     clear hw102
     refine outA hK (held_2 hW102 hS00) (fun hHeld0=>?_)
     clear hK K
     refine readyA [4,6] (consA (fun K hK=>?_) (consA (fun K hK=>?_) .nil))
     ·skip
      refine stepF rfl (.tmp 42) (.tmp 45) 166 rfl wc.heap.size 169 i0 (.agg #[.int .u64 0,.int .i64 0]) 2 16 encMb_ok Tryz.underlying166 hi hz0 hz1 hz2 rfl _ rfl o0 _ _ rfl (RT.out.later hW102) (by have:=hlT.out;unfold maxLen;omega) (by have:=hlT.out;omega) hW102.size ?_
      intro v103 w103 o5 hb103 hp103
      have hW103:=Below.step hW102 hb103
      refine outA hK (held_2 hW103 hS00) (fun hHeld4=>?_)
      clear hK K
      refine readyA [6] (consA (fun K hK=>?_) .nil)
      go_simp
      obtain ⟨w104,hw104⟩:∃ X,X=w103.alloc (.cells #[.int .u64 xv,.int .i64 xi] 169):=⟨_,rfl⟩
      rw [← hw104]
      have hb104:Below w103.heap.size w103 w104:=by rw [hw104];exact below_a _ _
      have hW104:=Below.step hW103 hb104
      replace o5:=own_below o5 hb104
      have rx:RecsAt encMb w104 (.slice (some ⟨w103.heap.size,0,none⟩) 1 1) [(xi,xv)]:=by rw [hw104];exact lit_recs encMb_ok _ [(xi,xv)] _ (by simp)
      clear hw104
      refine outA hK (held_2 hW104 hS00) (fun hHeld6=>?_)
      clear hK K
      refine readyA [7] (consA (fun K hK=>?_) .nil)
      refine stepR rfl (.tmp 46) (.tmp 48) 166 rfl wc.heap.size 169 i0 (.agg #[.int .u64 0,.int .i64 0]) 2 16 encMb_ok Tryz.underlying166 hi hz0 hz1 hz2 rfl _ _ _ rfl o5 _ _ rfl (rx) (by have:=hlT.out;simp;unfold maxLen;omega) (by have:=hlT.out;simp;omega) hW104.size ?_
      intro v105 w105 o8 hg105 hp105 hn105
      have hW105:Below wc.heap.size wc w105:=hW104.grown hg105 hW104.size (fun g hg=>(o5.lt g hg).1)
      refine outA hK (held_2 hW105 hS00) (fun hHeld7=>?_)
      clear hK K
      refine readyA [11] (consA (fun K hK=>?_) .nil)
      refine stepR rfl (.tmp 49) (.tmp 52) 166 rfl wc.heap.size 169 i0 (.agg #[.int .u64 0,.int .i64 0]) 2 16 encMb_ok Tryz.underlying166 hi hz0 hz1 hz2 rfl _ _ _ rfl o8 _ _ rfl (RD.out.later hW105) (by have:=hlT.out;have:=hlD.out;simp only [List.length_cons,List.length_nil];unfold maxLen;omega) (by have:=hlT.out;have:=hlD.out;simp only [List.length_cons,List.length_nil];omega) hW105.size ?_
      intro v106 w106 o13 hg106 hp106 hn106
      have hW106:Below wc.heap.size wc w106:=hW105.grown hg106 hW105.size (fun g hg=>(o8.lt g hg).1)
      refine outA hK (held_2 hW106 hS00) (fun hHeld11=>?_)
      clear hK K
      refine takeA 12 ?_
      refine doneA ?_
      have HB4:=Lib.hid (Below.step (Below.step HB0.out HBR.out) hW106)
      have HO:=Lib.hid o13
      have HLEN:=Lib.hid (show (S.take k).length+[(xi,xv)].length+(S.drop k).length=(putL S (xi,xv)).length by rw [HCUT.out];simp;omega)
      clear o13
      go_wp2_with fail
      go_ret
      refine ⟨_,rfl,?_,HB4.out⟩
      have ho:=HO.out
      rw [HLEN.out] at ho
      have e:flatR encMb (putL S (xi,xv))=(flatR encMb (S.take k)++flatR encMb [(xi,xv)])++flatR encMb (S.drop k):=by rw [HCUT.out,← flatR_app,← flatR_app];simp
      rw [e]
      exact own_base ho (by have:=HSW.out;have:=HB0.out.size;omega)
     ·skip
      go_simp
      obtain ⟨w107,hw107⟩:∃ X,X=w102.alloc (.cells #[.int .u64 xv,.int .i64 xi] 169):=⟨_,rfl⟩
      rw [← hw107]
      have hb107:Below w102.heap.size w102 w107:=by rw [hw107];exact below_a _ _
      have hW107:=Below.step hW102 hb107
      replace o0:=own_below o0 hb107
      have rx:RecsAt encMb w107 (.slice (some ⟨w102.heap.size,0,none⟩) 1 1) [(xi,xv)]:=by rw [hw107];exact lit_recs encMb_ok _ [(xi,xv)] _ (by simp)
      clear hw107
      refine outA hK (held_2 hW107 hS00) (fun hHeld6=>?_)
      clear hK K
      refine readyA [4] (consA (fun K hK=>?_) .nil)
      refine stepF rfl (.tmp 42) (.tmp 45) 166 rfl wc.heap.size 169 i0 (.agg #[.int .u64 0,.int .i64 0]) 2 16 encMb_ok Tryz.underlying166 hi hz0 hz1 hz2 rfl _ rfl o0 _ _ rfl (RT.out.later hW107) (by have:=hlT.out;unfold maxLen;omega) (by have:=hlT.out;omega) hW107.size ?_
      intro v108 w108 o5 hb108 hp108
      have hW108:=Below.step hW107 hb108
      replace rx:=rx.later hb108
      refine outA hK (held_2 hW108 hS00) (fun hHeld4=>?_)
      clear hK K
      refine readyA [7] (consA (fun K hK=>?_) .nil)
      refine stepR rfl (.tmp 46) (.tmp 48) 166 rfl wc.heap.size 169 i0 (.agg #[.int .u64 0,.int .i64 0]) 2 16 encMb_ok Tryz.underlying166 hi hz0 hz1 hz2 rfl _ _ _ rfl o5 _ _ rfl (rx) (by have:=hlT.out;simp;unfold maxLen;omega) (by have:=hlT.out;simp;omega) hW108.size ?_
      intro v109 w109 o8 hg109 hp109 hn109
      have hW109:Below wc.heap.size wc w109:=hW108.grown hg109 hW108.size (fun g hg=>(o5.lt g hg).1)
      refine outA hK (held_2 hW109 hS00) (fun hHeld7=>?_)
      clear hK K
      refine readyA [11] (consA (fun K hK=>?_) .nil)
      refine stepR rfl (.tmp 49) (.tmp 52) 166 rfl wc.heap.size 169 i0 (.agg #[.int .u64 0,.int .i64 0]) 2 16 encMb_ok Tryz.underlying166 hi hz0 hz1 hz2 rfl _ _ _ rfl o8 _ _ rfl (RD.out.later hW109) (by have:=hlT.out;have:=hlD.out;simp only [List.length_cons,List.length_nil];unfold maxLen;omega) (by have:=hlT.out;have:=hlD.out;simp only [List.length_cons,List.length_nil];omega) hW109.size ?_
      intro v110 w110 o13 hg110 hp110 hn110
      have hW110:Below wc.heap.size wc w110:=hW109.grown hg110 hW109.size (fun g hg=>(o8.lt g hg).1)
      refine outA hK (held_2 hW110 hS00) (fun hHeld11=>?_)
      clear hK K
      refine takeA 12 ?_
      refine doneA ?_
      have HB4:=Lib.hid (Below.step (Below.step HB0.out HBR.out) hW110)
      have HO:=Lib.hid o13
      have HLEN:=Lib.hid (show (S.take k).length+[(xi,xv)].length+(S.drop k).length=(putL S (xi,xv)).length by rw [HCUT.out];simp;omega)
      clear o13
      go_wp2_with fail
      go_ret
      refine ⟨_,rfl,?_,HB4.out⟩
      have ho:=HO.out
      rw [HLEN.out] at ho
      have e:flatR encMb (putL S (xi,xv))=(flatR encMb (S.take k)++flatR encMb [(xi,xv)])++flatR encMb (S.drop k):=by rw [HCUT.out,← flatR_app,← flatR_app];simp
      rw [e]
      exact own_base ho (by have:=HSW.out;have:=HB0.out.size;omega)
    ·skip
     go_simp
     obtain ⟨w111,hw111⟩:∃ X,X=wc101.alloc (.cells #[.int .u64 xv,.int .i64 xi] 169):=⟨_,rfl⟩
     rw [← hw111]
     have hb111:Below wc101.heap.size wc101 w111:=by rw [hw111];exact below_a _ _
     have hW111:=Below.step hWc101 hb111
     have rx:RecsAt encMb w111 (.slice (some ⟨wc101.heap.size,0,none⟩) 1 1) [(xi,xv)]:=by rw [hw111];exact lit_recs encMb_ok _ [(xi,xv)] _ (by simp)
     clear hw111
     refine outA hK (held_2 hW111 hS00) (fun hHeld6=>?_)
     clear hK K
     refine readyA [0] (consA (fun K hK=>?_) .nil)
     go_simp
     obtain ⟨w112,hw112⟩:∃ X,X=w111.alloc (.cells #[] 169):=⟨_,rfl⟩
     rw [← hw112]
     have hb112:Below w111.heap.size w111 w112:=by rw [hw112];exact below_a _ _
     have hW112:=Below.step hW111 hb112
     replace rx:=rx.later hb112
     have o0:w112.ownsRow wc.heap.size 169 2 (.slice (some ⟨w111.heap.size,0,none⟩) 0 0) 0 []:=by rw [hw112];exact World.ownsRow_lit _ #[] 0 hW111.size (by unfold maxLen;omega) rfl
     clear hw112
     refine outA hK (held_2 hW112 hS00) (fun hHeld0=>?_)
     clear hK K
     refine readyA [4] (consA (fun K hK=>?_) .nil)
     refine stepF rfl (.tmp 42) (.tmp 45) 166 rfl wc.heap.size 169 i0 (.agg #[.int .u64 0,.int .i64 0]) 2 16 encMb_ok Tryz.underlying166 hi hz0 hz1 hz2 rfl _ rfl o0 _ _ rfl (RT.out.later hW112) (by have:=hlT.out;unfold maxLen;omega) (by have:=hlT.out;omega) hW112.size ?_
     intro v113 w113 o5 hb113 hp113
     have hW113:=Below.step hW112 hb113
     replace rx:=rx.later hb113
     refine outA hK (held_2 hW113 hS00) (fun hHeld4=>?_)
     clear hK K
     refine readyA [7] (consA (fun K hK=>?_) .nil)
     refine stepR rfl (.tmp 46) (.tmp 48) 166 rfl wc.heap.size 169 i0 (.agg #[.int .u64 0,.int .i64 0]) 2 16 encMb_ok Tryz.underlying166 hi hz0 hz1 hz2 rfl _ _ _ rfl o5 _ _ rfl (rx) (by have:=hlT.out;simp;unfold maxLen;omega) (by have:=hlT.out;simp;omega) hW113.size ?_
     intro v114 w114 o8 hg114 hp114 hn114
     have hW114:Below wc.heap.size wc w114:=hW113.grown hg114 hW113.size (fun g hg=>(o5.lt g hg).1)
     refine outA hK (held_2 hW114 hS00) (fun hHeld7=>?_)
     clear hK K
     refine readyA [11] (consA (fun K hK=>?_) .nil)
     refine stepR rfl (.tmp 49) (.tmp 52) 166 rfl wc.heap.size 169 i0 (.agg #[.int .u64 0,.int .i64 0]) 2 16 encMb_ok Tryz.underlying166 hi hz0 hz1 hz2 rfl _ _ _ rfl o8 _ _ rfl (RD.out.later hW114) (by have:=hlT.out;have:=hlD.out;simp only [List.length_cons,List.length_nil];unfold maxLen;omega) (by have:=hlT.out;have:=hlD.out;simp only [List.length_cons,List.length_nil];omega) hW114.size ?_
     intro v115 w115 o13 hg115 hp115 hn115
     have hW115:Below wc.heap.size wc w115:=hW114.grown hg115 hW114.size (fun g hg=>(o8.lt g hg).1)
     refine outA hK (held_2 hW115 hS00) (fun hHeld11=>?_)
     clear hK K
     refine takeA 12 ?_
     refine doneA ?_
     have HB4:=Lib.hid (Below.step (Below.step HB0.out HBR.out) hW115)
     have HO:=Lib.hid o13
     have HLEN:=Lib.hid (show (S.take k).length+[(xi,xv)].length+(S.drop k).length=(putL S (xi,xv)).length by rw [HCUT.out];simp;omega)
     clear o13
     go_wp2_with fail
     go_ret
     refine ⟨_,rfl,?_,HB4.out⟩
     have ho:=HO.out
     rw [HLEN.out] at ho
     have e:flatR encMb (putL S (xi,xv))=(flatR encMb (S.take k)++flatR encMb [(xi,xv)])++flatR encMb (S.drop k):=by rw [HCUT.out,← flatR_app,← flatR_app];simp
     rw [e]
     exact own_base ho (by have:=HSW.out;have:=HB0.out.size;omega)
structure RSt where
 Gs:Grps
 cr:Int
 T:List (Int×Int×Ent)
 A:List Ent
 fl:List Int
def encTk (t:Int×Int×Ent):List Value:=[.int .i64 t.1,.int .i64 t.2.1,.int .u64 t.2.2.1,.int .u32 t.2.2.2.1,.int .u32 t.2.2.2.2]
theorem encTk_ok:Enc encTk 5:=⟨fun _=>rfl,fun x u hu=>by simp only [encTk,List.mem_cons,List.not_mem_nil,or_false] at hu;rcases hu with rfl | rfl | rfl | rfl | rfl <;> rfl,by decide⟩
def encEn (x:Ent):List Value:=[.int .u64 x.1,.int .u32 x.2.1,.int .u32 x.2.2]
theorem encEn_ok:Enc encEn 3:=⟨fun _=>rfl,fun x u hu=>by simp only [encEn,List.mem_cons,List.not_mem_nil,or_false] at hu;rcases hu with rfl | rfl | rfl <;> rfl,by decide⟩
def encU (x:Int):List Value:=[.int .u64 x]
theorem encU_ok:Enc encU 1:=⟨fun _=>rfl,fun x u hu=>by simp only [encU,List.mem_cons,List.not_mem_nil,or_false] at hu;subst hu;rfl,by decide⟩
structure RLen (r:RSt) (n m:Nat):Prop where
 g:r.Gs.length=n
 t:r.T.length=m
 a:r.A.length=n
 f:r.fl.length=n
 right:RightG r.Gs
 few:m≤70000
theorem RLen.pos {r:RSt} {n m:Nat} (h:RLen r n m):0<n∧n≤256:=by
 have h1:=h.right.pos
 have h2:=h.right.le
 rw [h.g] at h1 h2
 exact ⟨h1,h2⟩
structure RIn (w:World) (ag at' aa af:Option Addr) (cg ct ca cf n m:Nat) (r:RSt):Prop where
 g:RecsAt encG w (.slice ag n cg) r.Gs
 t:RecsAt encTk w (.slice at' m ct) r.T
 a:RecsAt encEn w (.slice aa n ca) r.A
 f:RecsAt encU w (.slice af n cf) r.fl
theorem RIn.later {w w':World} {ag at' aa af:Option Addr} {cg ct ca cf n m:Nat} {r:RSt} (h:RIn w ag at' aa af cg ct ca cf n m r) (hb:Below w.heap.size w w'):RIn w' ag at' aa af cg ct ca cf n m r:=⟨h.g.later hb,h.t.later hb,h.a.later hb,h.f.later hb⟩
section
variable {w:World} {ag at' aa af:Option Addr} {cg ct ca cf n m:Nat} {r:RSt}
theorem RIn.caps (h:RIn w ag at' aa af cg ct ca cf n m r):(n≤cg∧cg≤9223372036854775807)∧(m≤ct∧ct≤9223372036854775807)∧(n≤ca∧ca≤9223372036854775807)∧(n≤cf∧cf≤9223372036854775807):=by
 have cap:∀ {α:Type} {enc:α→List Value} {a:Option Addr} {l c:Nat} {L:List α},RecsAt enc w (.slice a l c) L→l≤c∧c≤9223372036854775807:=fun h=>by
  obtain ⟨_,_,e1,a1,b1,-⟩:=h
  simp only [Value.slice.injEq] at e1
  obtain ⟨-,e2,e3⟩:=e1
  omega
 exact ⟨cap h.g,cap h.t,cap h.a,cap h.f⟩
theorem RIn.grp (h:RIn w ag at' aa af cg ct ca cf n m r) (hl:RLen r n m) {k:Nat} (hk:k<n):∃ b off,ag=some ⟨b,off,none⟩∧w.cell? ⟨b,off+k*2,none⟩=some (.int .i64 (parG r.Gs k:Nat))∧w.cell? ⟨b,off+k*2+1,none⟩=some (.int .i64 r.Gs[k]!.2):=by
 have hk':k<r.Gs.length:=by rw [hl.g];exact hk
 obtain ⟨_,b,off,e,hc⟩:=h.g.at encG_ok (i:=k) (x:=r.Gs[k]!) (by rw [List.getElem?_eq_getElem hk',getElem!_pos r.Gs k hk'])
 exact ⟨b,off,e,by have:=hc 0 _ rfl;rw [(hl.right.par hk').1];exact this,hc 1 _ rfl⟩
theorem RIn.task (h:RIn w ag at' aa af cg ct ca cf n m r) (hl:RLen r n m) {k:Nat} (hk:k<m):∃ b off,at'=some ⟨b,off,none⟩∧w.cell? ⟨b,off+k*5,none⟩=some (.int .i64 r.T[k]!.1)∧w.cell? ⟨b,off+k*5+1,none⟩=some (.int .i64 r.T[k]!.2.1)∧w.cell? ⟨b,off+k*5+2,none⟩=some (.int .u64 r.T[k]!.2.2.1)∧w.cell? ⟨b,off+k*5+3,none⟩=some (.int .u32 r.T[k]!.2.2.2.1)∧w.cell? ⟨b,off+k*5+4,none⟩=some (.int .u32 r.T[k]!.2.2.2.2):=by
 have hk':k<r.T.length:=by rw [hl.t];exact hk
 obtain ⟨_,b,off,e,hc⟩:=h.t.at encTk_ok (i:=k) (x:=r.T[k]!) (by rw [List.getElem?_eq_getElem hk',getElem!_pos r.T k hk'])
 exact ⟨b,off,e,hc 0 _ rfl,hc 1 _ rfl,hc 2 _ rfl,hc 3 _ rfl,hc 4 _ rfl⟩
theorem RIn.spot (h:RIn w ag at' aa af cg ct ca cf n m r) (hl:RLen r n m) {k:Nat} (hk:k<n):∃ b off,aa=some ⟨b,off,none⟩∧w.cell? ⟨b,off+k*3,none⟩=some (.int .u64 r.A[k]!.1)∧w.cell? ⟨b,off+k*3+1,none⟩=some (.int .u32 r.A[k]!.2.1)∧w.cell? ⟨b,off+k*3+2,none⟩=some (.int .u32 r.A[k]!.2.2):=by
 have hk':k<r.A.length:=by rw [hl.a];exact hk
 obtain ⟨_,b,off,e,hc⟩:=h.a.at encEn_ok (i:=k) (x:=r.A[k]!) (by rw [List.getElem?_eq_getElem hk',getElem!_pos r.A k hk'])
 exact ⟨b,off,e,hc 0 _ rfl,hc 1 _ rfl,hc 2 _ rfl⟩
theorem RIn.floor (h:RIn w ag at' aa af cg ct ca cf n m r) (hl:RLen r n m) {k:Nat} (hk:k<n):∃ b off,af=some ⟨b,off,none⟩∧w.cell? ⟨b,off+k,none⟩=some (.int .u64 r.fl[k]!):=by
 have hk':k<r.fl.length:=by rw [hl.f];exact hk
 obtain ⟨_,b,off,e,hc⟩:=h.f.at encU_ok (i:=k) (x:=r.fl[k]!) (by rw [List.getElem?_eq_getElem hk',getElem!_pos r.fl k hk'])
 refine ⟨b,off,e,?_⟩
 have:=hc 0 _ rfl
 rw [Nat.mul_one,Nat.add_zero] at this
 exact this
end
def stepT (g:Nat) (l:Items) (t:Int×Int×Ent):Items:=if t.2.1=(g:Int) then putL l (t.1,t.2.2.1) else l
def memT (T:List (Int×Int×Ent)) (g:Nat):Items:=T.foldl (stepT g) []
def stepG (P:Nat→Nat) (A:List Ent) (q:Nat→Items) (g:Nat) (l:Items) (h:Nat):Items:=if P h=g∧0<(q h).length then putL l (65536+(h:Int),(A[h]!).1) else l
def memG (P:Nat→Nat) (A:List Ent) (q:Nat→Items) (g:Nat) (l:Items) (h:Nat):Items:=(List.range' 1 (h - 1)).foldl (stepG P A q g) l
def mR (r:RSt):Nat→Nat→Items
 | 0,_=>[]
 | f+1,g=>memG (parG r.Gs) r.A (mR r f) g (memT r.T g) r.Gs.length
theorem memT_succ {T:List (Int×Int×Ent)} {k g:Nat} (hk:k<T.length):memT (T.take (k+1)) g=stepT g (memT (T.take k) g) T[k]!:=by
 unfold memT
 rw [List.take_add_one,List.getElem?_eq_getElem hk,getElem!_pos T k hk,List.foldl_append]
 rfl
theorem memG_one {P:Nat→Nat} {A:List Ent} {q:Nat→Items} {g:Nat} {l:Items}:memG P A q g l 1=l:=rfl
theorem memG_succ {P:Nat→Nat} {A:List Ent} {q:Nat→Items} {g h:Nat} {l:Items} (h1:1≤h):memG P A q g l (h+1)=stepG P A q g (memG P A q g l h) h:=by
 unfold memG
 obtain ⟨j,rfl⟩:∃ j,h=j+1:=⟨h - 1,by omega⟩
 rw [show j+1+1 - 1=j+1 by omega,show j+1 - 1=j by omega,List.range'_concat,List.foldl_append]
 simp [Nat.add_comm]
theorem memT_len (T:List (Int×Int×Ent)) (g k:Nat):(memT (T.take k) g).length≤k:=by
 induction k with
 | zero=>simp [memT]
 | succ k ih =>
  by_cases h:k<T.length
  ·rw [memT_succ h]
   unfold stepT
   split
   ·rw [len_putL];omega
   ·omega
  ·rw [List.take_of_length_le (by omega)] at ih ⊢
   omega
theorem memG_len {P:Nat→Nat} {A:List Ent} {q:Nat→Items} {g:Nat} {l:Items}:∀ h:Nat,(memG P A q g l (h+1)).length≤l.length+h
 | 0=>by rw [memG_one];omega
 | h+1=>by
  rw [memG_succ (by omega)]
  have:=memG_len (P:=P) (A:=A) (q:=q) (g:=g) (l:=l) h
  unfold stepG
  split
  ·rw [len_putL];omega
  ·omega
set_option maxRecDepth 100000 in
set_option maxHeartbeats 4000000 in
theorem tMembers_at (r:RSt) (n m:Nat) (hl:RLen r n m):∀ (f g:Nat) (ag at' aa af:Option Addr) (cg ct ca cf:Nat) (w:World),g<n→n - g≤f→RIn w ag at' aa af cg ct ca cf n m r →
  Calls Tryz.prog 105 #[.agg #[.slice ag n cg,.int .u64 r.cr,.slice at' m ct,.slice aa n ca,.slice af n cf],.int .i64 g] w (OwnI w (mR r f g)):=by
 intro f
 induction f with
 | zero=>intro g ag at' aa af cg ct ca cf w hg hf;omega
 | succ f ih =>
  intro g ag at' aa af cg ct ca cf w hg hf hin
  obtain ⟨hcg,hct,hca,hcf⟩:=hin.caps
  have hn:=hl.pos
  have hfew:=hl.few
  have HL:=Lib.hid hl
  have IH:=Lib.hid ih
  have HF:=Lib.hid hf
  obtain ⟨W0,hW0⟩:∃ W0,W0=(w.alloc (.cells #[.slice ag n cg,.int .u64 r.cr,.slice at' m ct,.slice aa n ca,.slice af n cf] 74)):=⟨_,rfl⟩
  have HB0:=Lib.hid (show Below w.heap.size w W0 by rw [hW0];exact (Below.allocS (Below.refl _ _) _))
  obtain ⟨c0,fc0,c1,fc1,c2,fc2,c3,fc3,c4,fc4⟩:=uc5 (show CellsF W0 (w.heap.size) [.slice ag n cg,.int .u64 r.cr,.slice at' m ct,.slice aa n ca,.slice af n cf] by rw [hW0];exact CellsF.new (by simp))
  have HSZ:=Lib.hid (show W0.heap.size=w.heap.size+1 by rw [hW0];simp)
  have HW0:=Lib.hid hW0
  clear hW0
  have HIN:=Lib.hid (hin.later HB0.out)
  clear hin hl ih hf fc0 fc1 fc2 fc3 fc4
  go_enter Tryz.func105,Tryz.ntmps105
  go_wp2_with fail
  rw [← HW0.out]
  obtain ⟨bt,hbt⟩:∃ b,b=w.heap.size:=⟨_,rfl⟩
  rw [← hbt] at c0 c1 c2 c3 c4 ⊢
  have HBT:=Lib.hid hbt
  clear hbt HW0 HSZ
  go_loopw [5,6] (fun v i wr=>∃ k:Nat,k≤m∧i=.int .i64 k∧wr.ownsRow W0.heap.size 169 2 v (memT (r.T.take k) g).length (flatR encMb (memT (r.T.take k) g))∧Below W0.heap.size W0 wr) (fun _ i _=>m - (intOf i).toNat)
  case atStart=>exact ⟨0,Nat.zero_le _,rfl,World.ownsRow_nil _ _ _ _,Below.refl _ _⟩
  case round =>
   obtain ⟨k,hk,rfl,hown,hb⟩:=hrel
   have HB:=Lib.hid hb
   have hLL:=memT_len r.T g k
   obtain ⟨S,hS⟩:∃ S,S=memT (r.T.take k) g:=⟨_,rfl⟩
   rw [← hS] at hown hLL
   obtain ⟨av,cv,rfl⟩:=own_shapeI hown
   have HS:=Lib.hid hS
   have HO:=Lib.hid hown
   have d0:=cell_later hb c0
   have d1:=cell_later hb c1
   have d2:=cell_later hb c2
   have d3:=cell_later hb c3
   have d4:=cell_later hb c4
   clear hown hS
   have hk0:(0:Int)≤(k:Int):=by omega
   by_cases hlt:k<m
   ·have hki:(k:Int)<(m:Int):=by omega
    have z1:decide ((k:Int)<(m:Int))=true:=decide_eq_true hki
    have z2:decide (k<m)=true:=decide_eq_true hlt
    obtain ⟨b,off,rfl,y0,y1,y2,y3,y4⟩:=(HIN.out.later hb).task HL.out hlt
    have hkT:k<r.T.length:=by rw [HL.out.t];exact hlt
    have HN:=Lib.hid (memT_succ (g:=g) hkT)
    obtain ⟨⟨ti,tg,tv,tr,tw⟩,ht⟩:∃ t,t=r.T[k]!:=⟨_,rfl⟩
    rw [← ht] at y0 y1 y2 y3 y4 HN
    clear ht y3 y4 hb
    dsimp only at y0 y1 y2
    by_cases hg':tg=(g:Int)
    ·have HNX:=Lib.hid (show memT (r.T.take (k+1)) g=putL S (ti,tv) by rw [HN.out];unfold stepT;rw [if_pos hg',HS.out])
     have z3:(tg == (g:Int))=true:=by simpa using hg'
     subst hg'
     clear HN
     go_wp2_with fail
     refine startA (S:=fun w'=>Below wr.heap.size wr w'∧w'.cell? ⟨bt,2,none⟩=some (.slice (some ⟨b,off,none⟩) m ct)∧w'.cell? ⟨b,off+k*5,none⟩=some (.int .i64 ti)∧w'.cell? ⟨b,off+k*5+2,none⟩=some (.int .u64 tv)) ⟨Below.refl _ _,d2,y0,y2⟩ (held_3 (below_dr _)) (fun hS0 hHeld=>?_)
     refine takeA 0 ?_
     refine takeA 1 ?_
     refine takeA 2 ?_
     refine takeA 3 ?_
     refine takeA 4 ?_
     refine takeA 5 ?_
     refine takeA 6 ?_
     refine takeA 7 ?_
     refine takeA 8 ?_
     refine takeA 9 ?_
     refine takeA 10 ?_
     refine takeA 11 ?_
     refine takeA 12 ?_
     refine takeA 13 ?_
     refine takeA 14 ?_
     refine readyA [15] (consA (fun K hK=>?_) .nil)
     go_simp
     refine (twith_at av cv S ti tv wr.drew ((own_recs encMb_ok HO.out).later (Below.refl _ _).drew) (by omega)).mono ?_
     rintro e w9 ⟨v9,rfl,ho9,hb9⟩
     obtain ⟨a9,c9,rfl⟩:=own_shapeI ho9
     go_wp2_with fail
     refine outA hK kp_3 (fun hHeld15=>?_)
     clear hK K
     refine takeA 16 ?_
     refine doneA ?_
     skip
     have HO9:=Lib.hid (own_base ho9 (base':=W0.heap.size) HB.out.size)
     have HB9:=Lib.hid (Below.step HB.out.drew hb9)
     clear hS0 ho9 hb9
     go_wp2_with fail
     go_roundw
     case rel=>exact ⟨k+1,by omega,by go_num,by rw [HNX.out];exact HO9.out,HB9.out⟩
     case measure=>simp [intOf];omega
    ·have HNX:=Lib.hid (show memT (r.T.take (k+1)) g=S by rw [HN.out];unfold stepT;rw [if_neg hg',HS.out])
     have z3:(tg == (g:Int))=false:=by simpa using hg'
     clear HN hg'
     go_wp2_with fail
     go_roundw
     case rel=>exact ⟨k+1,by omega,by go_num,by rw [HNX.out];exact HO.out,HB.out⟩
     case measure=>simp [intOf];omega
   ·have HKM:=Lib.hid (show k=m by omega)
    have z1:decide ((k:Int)<(m:Int))=false:=decide_eq_false (by omega)
    have z2:decide (k<m)=false:=decide_eq_false hlt
    have z3:¬ (k:Int)<(m:Int):=by omega
    have HLS:=Lib.hid (show S.length≤70000 by omega)
    have HM0:=Lib.hid (show S=memT r.T g by rw [HS.out,List.take_of_length_le (by rw [HL.out.t,HKM.out];exact Nat.le_refl _)])
    obtain ⟨wz,rfl⟩:∃ wz:World,wz=wr:=⟨_,rfl⟩
    have HINZ:=Lib.hid (HIN.out.later hb)
    clear hk hlt hb HIN
    go_wp2_with fail
    go_loopw [5,7] (fun v i wr=>∃ h:Nat,1≤h∧h≤n∧i=.int .i64 h∧wr.ownsRow W0.heap.size 169 2 v (memG (parG r.Gs) r.A (mR r f) g (memT r.T g) h).length (flatR encMb (memG (parG r.Gs) r.A (mR r f) g (memT r.T g) h))∧Below wz.heap.size wz wr) (fun _ i _=>n - (intOf i).toNat)
    case atStart=>exact ⟨1,Nat.le_refl _,by omega,rfl,by rw [memG_one,← HM0.out];exact HO.out,Below.refl _ _⟩
    case round =>
     obtain ⟨h,h1,hh,rfl,hown,hb⟩:=hrel
     have HBR:=Lib.hid hb
     have hGL:=memG_len (P:=parG r.Gs) (A:=r.A) (q:=mR r f) (g:=g) (l:=memT r.T g) (h - 1)
     rw [show h - 1+1=h by omega,← HM0.out] at hGL
     obtain ⟨G,hG⟩:∃ G,G=memG (parG r.Gs) r.A (mR r f) g (memT r.T g) h:=⟨_,rfl⟩
     rw [← HM0.out] at hG
     rw [← HM0.out,← hG] at hown
     rw [← hG] at hGL
     have hGL2:G.length≤80000:=by have:=HLS.out;omega
     obtain ⟨aw,cw,rfl⟩:=own_shapeI hown
     have HG:=Lib.hid hG
     have HOG:=Lib.hid hown
     replace d0:=cell_later hb d0
     replace d1:=cell_later hb d1
     replace d2:=cell_later hb d2
     replace d3:=cell_later hb d3
     replace d4:=cell_later hb d4
     clear hown hG hGL HO
     have hh0:(0:Int)≤(h:Int):=by omega
     by_cases hlt:h<n
     ·have hhi:(h:Int)<(n:Int):=by omega
      have v1:decide ((h:Int)<(n:Int))=true:=decide_eq_true hhi
      have v2:decide (h<n)=true:=decide_eq_true hlt
      obtain ⟨b,off,rfl,y0,-⟩:=(HINZ.out.later hb).grp HL.out hlt
      have HN:=Lib.hid (memG_succ (P:=parG r.Gs) (A:=r.A) (q:=mR r f) (g:=g) (l:=S) h1)
      have hpar:0<h→parG r.Gs h<h:=(HL.out.right.par (by rw [HL.out.g];exact hlt)).2.1
      obtain ⟨ph,hph⟩:∃ p,p=parG r.Gs h:=⟨_,rfl⟩
      rw [← hph] at y0 hpar
      have HPH:=Lib.hid hph
      clear hph
      by_cases hg':ph=g
      ·have v3:((ph:Int) == (g:Int))=true:=by simp;omega
       have v4:(ph == g)=true:=by simpa using hg'
       have A1:=Lib.hid (IH.out h (some ⟨b,off,none⟩) at' aa af cg ct ca cf wr hlt (by have:=HF.out;omega) (HINZ.out.later hb))
       obtain ⟨q,hq⟩:∃ q,q=mR r f h:=⟨_,rfl⟩
       rw [← hq] at A1
       have HQ:=Lib.hid hq
       have HP2:=Lib.hid hg'
       clear hq hg' hb hpar
       go_wp2_with fail
       refine A1.out.mono ?_;clear A1;rintro e w9 ⟨v9,rfl,ho9,hb9⟩
       obtain ⟨a9,c9,rfl⟩:=own_shapeI ho9
       have HB9:=Lib.hid (Below.step HBR.out hb9)
       have HO9:=Lib.hid (own_below HOG.out hb9)
       replace y0:=cell_later hb9 y0
       replace d0:=cell_later hb9 d0
       replace d1:=cell_later hb9 d1
       replace d2:=cell_later hb9 d2
       replace d3:=cell_later hb9 d3
       replace d4:=cell_later hb9 d4
       clear ho9 hb9
       by_cases hql:0<q.length
       ·have v5:decide ((q.length:Int) > 0)=true:=decide_eq_true (by omega)
        have v6:decide (0<q.length)=true:=decide_eq_true hql
        have v7:(0:Int)<(q.length:Int):=by omega
        obtain ⟨b2,off2,rfl,s0,-,-⟩:=(HINZ.out.later HB9.out).spot HL.out hlt
        have HNX:=Lib.hid (show memG (parG r.Gs) r.A (mR r f) g S (h+1)=putL G (65536+(h:Int),(r.A[h]!).1) by rw [HN.out];unfold stepG;rw [if_pos ⟨by rw [← HPH.out];exact HP2.out,by rw [← HQ.out];exact hql⟩,HG.out])
        generalize (r.A[h]!).1=av1 at *
        have w1:IntKind.i64.wrap (65536+(h:Int))=65536+(h:Int):=IntWalk.i64_in _ (by omega)
        have A2:=Lib.hid (twith_at aw cw G (65536+(h:Int)) av1 w9 (own_recs encMb_ok HO9.out) (by omega))
        clear HN hql
        go_wp2_with fail
        refine A2.out.mono ?_;clear A2;rintro e w10 ⟨v10,rfl,ho10,hb10⟩
        have HO10:=Lib.hid (own_base ho10 (base':=W0.heap.size) (Nat.le_trans HB.out.size HB9.out.size))
        have HB10:=Lib.hid (Below.step HB9.out hb10)
        clear ho10 hb10
        go_wp2_with fail
        go_roundw
        case rel=>exact ⟨h+1,by omega,by omega,by go_num,by rw [← HM0.out,HNX.out];exact HO10.out,HB10.out⟩
        case measure=>simp [intOf];omega
       ·have v5:decide ((q.length:Int) > 0)=false:=decide_eq_false (by omega)
        have v6:decide (0<q.length)=false:=decide_eq_false hql
        have v7:¬ (0:Int)<(q.length:Int):=by omega
        have v8:q.length=0:=by omega
        have HNX:=Lib.hid (show memG (parG r.Gs) r.A (mR r f) g S (h+1)=G by rw [HN.out];unfold stepG;rw [if_neg (fun z=>hql (by rw [HQ.out];exact z.2)),HG.out])
        have HV8:=Lib.hid v8
        clear HN hql v8
        go_wp2_with fail
        go_roundw
        case rel=>exact ⟨h+1,by omega,by omega,by go_num,by rw [← HM0.out,HNX.out];exact HO9.out,HB9.out⟩
        case measure=>simp [intOf];omega
      ·have v3:((ph:Int) == (g:Int))=false:=by simp;omega
       have v4:(ph == g)=false:=by simpa using hg'
       have HNX:=Lib.hid (show memG (parG r.Gs) r.A (mR r f) g S (h+1)=G by rw [HN.out];unfold stepG;rw [if_neg (fun z=>hg' (by rw [HPH.out];exact z.1)),HG.out])
       clear HN hg' hb hpar
       go_wp2_with fail
       go_roundw
       case rel=>exact ⟨h+1,by omega,by omega,by go_num,by rw [← HM0.out,HNX.out];exact HOG.out,HBR.out⟩
       case measure=>simp [intOf];omega
     ·have HHN:=Lib.hid (show h=n by omega)
      have v1:decide ((h:Int)<(n:Int))=false:=decide_eq_false (by omega)
      have v2:decide (h<n)=false:=decide_eq_false hlt
      have v3:¬ (h:Int)<(n:Int):=by omega
      clear hh hlt hb
      go_wp2_with fail
      go_ret
      refine ⟨_,rfl,?_,Below.step (Below.step HB0.out HB.out) HBR.out⟩
      have e:mR r (f+1) g=G:=by
       show memG (parG r.Gs) r.A (mR r f) g (memT r.T g) r.Gs.length=G
       rw [HG.out,HHN.out,HL.out.g,HM0.out]
      rw [e]
      exact own_base HOG.out HB0.out.size
structure ROk (r:RSt) (n m:Nat):Prop extends RLen r n m where
 tid:∀ t∈r.T,1≤t.1∧t.1≤65535
 tgr:∀ t∈r.T,∃ k:Nat,t.2.1=(k:Int)∧k<n
 ten:∀ t∈r.T,EntOk t.2.2
 aok:∀ k,k<n→EntOk r.A[k]!
 fok:∀ k,k<n→FlOk r.fl[k]!
 cr0:0≤r.cr∧r.cr≤18446744073709551615
def findT (T:List (Int×Int×Ent)) (id:Int):Int:=match T.findIdx? (fun y=>y.1 == id) with | some k=>(k:Int) | none=>-1
theorem findT_at {S:List (Int×Int×Ent)} {id:Int} {k:Nat} (hk:k<S.length) (h:S[k]!.1=id) (hn:∀ j,j<k→S[j]!.1≠id):findT S id=(k:Int):=by
 unfold findT
 have e:S.findIdx? (fun y=>y.1 == id)=some k:=by
  rw [List.findIdx?_eq_some_iff_getElem]
  refine ⟨hk,?_,fun j hj=>?_⟩
  ·have:=h;rw [getElem!_pos S k hk] at this;simpa using this
  ·have:=hn j hj;rw [getElem!_pos S j (by omega)] at this;simpa using this
 rw [e]
theorem findT_none {S:List (Int×Int×Ent)} {id:Int} (hn:∀ j,j<S.length→S[j]!.1≠id):findT S id=-1:=by
 unfold findT
 have e:S.findIdx? (fun y=>y.1 == id)=none:=by
  rw [List.findIdx?_eq_none_iff]
  intro y hy
  obtain ⟨i,hi,e⟩:=List.getElem_of_mem hy
  have:=hn i hi
  rw [getElem!_pos S i hi,e] at this
  simpa using this
 rw [e]
theorem findT_cases (S:List (Int×Int×Ent)) (id:Int):(∃ k,k<S.length∧findT S id=(k:Int)∧S[k]!.1=id∧∀ j,j<k→S[j]!.1≠id)∨(findT S id=-1∧∀ j,j<S.length→S[j]!.1≠id):=by
 cases e:S.findIdx? (fun y=>y.1 == id) with
 | some k =>
  obtain ⟨hk,h1,h2⟩:=List.findIdx?_eq_some_iff_getElem.1 e
  have h1':S[k]!.1=id:=by rw [getElem!_pos S k hk];simpa using h1
  have h2':∀ j,j<k→S[j]!.1≠id:=fun j hj=>by rw [getElem!_pos S j (by omega)];simpa using h2 j hj
  exact Or.inl ⟨k,hk,findT_at hk h1' h2',h1',h2'⟩
 | none =>
  have h:=List.findIdx?_eq_none_iff.1 e
  refine Or.inr ⟨by unfold findT;rw [e],fun j hj=>?_⟩
  have:=h S[j] (List.getElem_mem hj)
  rw [getElem!_pos S j hj]
  simpa using this
set_option maxRecDepth 100000 in
set_option maxHeartbeats 1000000 in
theorem tFind_at (r:RSt) (n m:Nat) (hl:RLen r n m) (id:Int) (ag at' aa af:Option Addr) (cg ct ca cf:Nat) (w:World) (hin:RIn w ag at' aa af cg ct ca cf n m r) :
  Calls Tryz.prog 68 #[.agg #[.slice ag n cg,.int .u64 r.cr,.slice at' m ct,.slice aa n ca,.slice af n cf],.int .i64 id] w fun e w'=>e=.returned (.int .i64 (findT r.T id))∧Below w.heap.size w w':=by
 obtain ⟨hcg,hct,hca,hcf⟩:=hin.caps
 have hn:=hl.pos
 have hfew:=hl.few
 have HL:=Lib.hid hl
 obtain ⟨W0,hW0⟩:∃ W0,W0=(w.alloc (.cells #[.slice ag n cg,.int .u64 r.cr,.slice at' m ct,.slice aa n ca,.slice af n cf] 74)):=⟨_,rfl⟩
 have HB0:=Lib.hid (show Below w.heap.size w W0 by rw [hW0];exact (Below.allocS (Below.refl _ _) _))
 obtain ⟨c0,fc0,c1,fc1,c2,fc2,c3,fc3,c4,fc4⟩:=uc5 (show CellsF W0 (w.heap.size) [.slice ag n cg,.int .u64 r.cr,.slice at' m ct,.slice aa n ca,.slice af n cf] by rw [hW0];exact CellsF.new (by simp))
 have HSZ:=Lib.hid (show W0.heap.size=w.heap.size+1 by rw [hW0];simp)
 have HW0:=Lib.hid hW0
 clear hW0
 have HIN:=Lib.hid (hin.later HB0.out)
 clear hin fc0 fc1 fc2 fc3 fc4
 clear hl
 go_enter Tryz.func68,Tryz.ntmps68
 go_wp2_with fail
 rw [← HW0.out]
 obtain ⟨bt,hbt⟩:∃ b,b=w.heap.size:=⟨_,rfl⟩
 rw [← hbt] at c0 c1 c2 c3 c4 ⊢
 have HBT:=Lib.hid hbt
 clear hbt HW0 HSZ
 go_loop [5] (fun i=>∃ k:Nat,k≤m∧i=.int .i64 k∧∀ j,j<k→r.T[j]!.1≠id) (fun i=>m - (intOf i).toNat)
 case atStart=>exact ⟨0,Nat.zero_le _,rfl,fun j hj=>by omega⟩
 case round =>
  obtain ⟨k,hk,rfl,hno⟩:=hrel
  have HN:=Lib.hid hno
  clear hno
  have hk0:(0:Int)≤(k:Int):=by omega
  by_cases hlt:k<m
  ·have hki:(k:Int)<(m:Int):=by omega
   obtain ⟨b,off,rfl,y0,y1,y2,y3,y4⟩:=HIN.out.task HL.out hlt
   have hkT:k<r.T.length:=by rw [HL.out.t];exact hlt
   obtain ⟨ti,ht⟩:∃ t,t=r.T[k]!.1:=⟨_,rfl⟩
   rw [← ht] at y0
   have HT:=Lib.hid ht
   have HKT:=Lib.hid hkT
   clear ht y1 y2 y3 y4 hkT
   by_cases he:ti=id
   ·have z1:(ti == id)=true:=by simpa using he
    have HF:=Lib.hid (findT_at HKT.out (by rw [← HT.out];exact he) HN.out)
    clear he
    go_wp2_with fail
    go_ret
    exact ⟨by rw [HF.out];rfl,HB0.out⟩
   ·have z1:(ti == id)=false:=by simpa using he
    have HF:=Lib.hid (show ∀ j,j<k+1→r.T[j]!.1≠id from fun j hj=>by
     by_cases e:j=k
     ·subst e;rw [← HT.out];exact he
     ·exact HN.out j (by omega))
    have z2:(ti=id)=False:=eq_false he
    clear he
    go_wp2_with fail
    go_round
    case rel=>exact ⟨k+1,by omega,by go_num,HF.out⟩
    case measure=>simp [intOf];omega
  ·have l1:decide ((k:Int)<(m:Int))=false:=decide_eq_false (by omega)
   have l2:decide (k<m)=false:=decide_eq_false hlt
   have l3:¬ (k:Int)<(m:Int):=by omega
   have HF:=Lib.hid (show findT r.T id=-1 from findT_none fun j hj=>HN.out j (by rw [HL.out.t] at hj;omega))
   clear hk hlt
   go_wp2_with fail
   go_ret
   exact ⟨by rw [HF.out];rfl,HB0.out⟩
def loadTk (T:List (Int×Int×Ent)):Int:=(T.map fun t=>t.2.2.2.2).sum
theorem loadTk_succ {T:List (Int×Int×Ent)} {k:Nat} (hk:k<T.length):loadTk (T.take (k+1))=loadTk (T.take k)+T[k]!.2.2.2.2:=by
 unfold loadTk
 rw [List.take_add_one,List.getElem?_eq_getElem hk,getElem!_pos T k hk,List.map_append,List.sum_append]
 simp
theorem loadTk_le {T:List (Int×Int×Ent)} (h:∀ t∈T,EntOk t.2.2):∀ k,k≤T.length→0≤loadTk (T.take k)∧loadTk (T.take k)≤65536*(k:Int)
 | 0,_=>by simp [loadTk]
 | k+1,hk=>by
  have ih:=loadTk_le h k (by omega)
  have he:=h T[k]! (by rw [getElem!_pos T k (by omega)];exact List.getElem_mem _)
  rw [loadTk_succ (by omega)]
  unfold EntOk Ch.Ok at he
  omega
set_option maxRecDepth 100000 in
set_option maxHeartbeats 1000000 in
theorem tLoad_at (r:RSt) (n m:Nat) (hl:ROk r n m) (ag at' aa af:Option Addr) (cg ct ca cf:Nat) (w:World) (hin:RIn w ag at' aa af cg ct ca cf n m r) :
  Calls Tryz.prog 71 #[.agg #[.slice ag n cg,.int .u64 r.cr,.slice at' m ct,.slice aa n ca,.slice af n cf]] w fun e w'=>e=.returned (.int .i64 (loadTk r.T))∧Below w.heap.size w w':=by
 obtain ⟨hcg,hct,hca,hcf⟩:=hin.caps
 have hn:=hl.pos
 have hfew:=hl.few
 have HL:=Lib.hid hl
 obtain ⟨W0,hW0⟩:∃ W0,W0=(w.alloc (.cells #[.slice ag n cg,.int .u64 r.cr,.slice at' m ct,.slice aa n ca,.slice af n cf] 74)):=⟨_,rfl⟩
 have HB0:=Lib.hid (show Below w.heap.size w W0 by rw [hW0];exact (Below.allocS (Below.refl _ _) _))
 obtain ⟨c0,fc0,c1,fc1,c2,fc2,c3,fc3,c4,fc4⟩:=uc5 (show CellsF W0 (w.heap.size) [.slice ag n cg,.int .u64 r.cr,.slice at' m ct,.slice aa n ca,.slice af n cf] by rw [hW0];exact CellsF.new (by simp))
 have HSZ:=Lib.hid (show W0.heap.size=w.heap.size+1 by rw [hW0];simp)
 have HW0:=Lib.hid hW0
 clear hW0
 have HIN:=Lib.hid (hin.later HB0.out)
 clear hin fc0 fc1 fc2 fc3 fc4
 clear hl
 go_enter Tryz.func71,Tryz.ntmps71
 go_wp2_with fail
 rw [← HW0.out]
 obtain ⟨bt,hbt⟩:∃ b,b=w.heap.size:=⟨_,rfl⟩
 rw [← hbt] at c0 c1 c2 c3 c4 ⊢
 have HBT:=Lib.hid hbt
 clear hbt HW0 HSZ
 go_loop [3,4] (fun s i=>∃ k:Nat,k≤m∧i=.int .i64 k∧s=.int .i64 (loadTk (r.T.take k))) (fun _ i=>m - (intOf i).toNat)
 case atStart=>exact ⟨0,Nat.zero_le _,rfl,rfl⟩
 case round =>
  obtain ⟨k,hk,rfl,rfl⟩:=hrel
  have hk0:(0:Int)≤(k:Int):=by omega
  have hb0:=loadTk_le HL.out.ten k (by rw [HL.out.t];exact hk)
  by_cases hlt:k<m
  ·have hki:(k:Int)<(m:Int):=by omega
   obtain ⟨b,off,rfl,y0,y1,y2,y3,y4⟩:=HIN.out.task HL.out.toRLen hlt
   have hkT:k<r.T.length:=by rw [HL.out.t];exact hlt
   have HN:=Lib.hid (loadTk_succ hkT)
   have he:=HL.out.ten r.T[k]! (by rw [getElem!_pos r.T k hkT];exact List.getElem_mem _)
   obtain ⟨tw,ht⟩:∃ t,t=r.T[k]!.2.2.2.2:=⟨_,rfl⟩
   have hw:1≤tw∧tw≤65536:=by unfold EntOk Ch.Ok at he;omega
   rw [← ht] at y4 HN
   generalize loadTk (r.T.take k)=ld at *
   have w1:IntKind.i64.wrap tw=tw:=IntWalk.i64_in _ (by omega)
   have w2:IntKind.i64.wrap (ld+tw)=ld+tw:=IntWalk.i64_in _ (by omega)
   clear ht he y0 y1 y2 y3 hkT
   go_wp2_with fail
   go_round
   case rel=>exact ⟨k+1,by omega,by go_num,by rw [HN.out]⟩
   case measure=>simp [intOf];omega
  ·have l1:decide ((k:Int)<(m:Int))=false:=decide_eq_false (by omega)
   have l2:decide (k<m)=false:=decide_eq_false hlt
   have l3:¬ (k:Int)<(m:Int):=by omega
   have HF:=Lib.hid (show loadTk (r.T.take k)=loadTk r.T by rw [List.take_of_length_le (by rw [HL.out.t];omega)])
   clear hk hlt hb0
   go_wp2_with fail
   go_ret
   exact ⟨by rw [HF.out];rfl,HB0.out⟩
def tasksI (S:Items):List Int:=(S.map Prod.fst).filter fun i=>decide (i<65536)
theorem tasksI_snoc {S:Items} {k:Nat} (hk:k<S.length):tasksI (S.take (k+1))=if S[k]!.1<65536 then tasksI (S.take k)++[S[k]!.1] else tasksI (S.take k):=by
 unfold tasksI
 rw [List.take_add_one,List.getElem?_eq_getElem hk,getElem!_pos S k hk,List.map_append,List.filter_append]
 by_cases h:S[k].1<65536
 ·rw [if_pos h];simp [h]
 ·rw [if_neg h];simp [h]
theorem tasksI_len (S:Items):(tasksI S).length≤S.length:=by
 unfold tasksI
 exact Nat.le_trans (List.length_filter_le _ _) (by simp)
def tasksR (r:RSt) (n:Nat) (g:Int):List Int:=if hasV (n:Int) g=true then tasksI (mR r n g.toNat) else []
theorem mR_len {r:RSt} {n m:Nat} (hl:RLen r n m) (f g:Nat):(mR r f g).length≤71000:=by
 cases f with
 | zero=>simp [mR]
 | succ f =>
  show (memG _ _ _ _ _ _).length≤_
  have hp:=hl.pos
  have h1:=hl.few
  have h2:=memT_len r.T g m
  have h3:=memG_len (P:=parG r.Gs) (A:=r.A) (q:=mR r f) (g:=g) (l:=memT r.T g) (n - 1)
  rw [List.take_of_length_le (by rw [hl.t];exact Nat.le_refl _)] at h2
  rw [show n - 1+1=n by omega] at h3
  rw [hl.g]
  omega
def OwnJ (w:World) (L:List Int) (e:Ending) (w':World):Prop:=∃ v,e=.returned v∧w'.ownsRow w.heap.size 3 1 v L.length (intsV L)∧Below w.heap.size w w'
set_option maxRecDepth 100000 in
set_option maxHeartbeats 2000000 in
theorem tTasks_at (r:RSt) (n m:Nat) (hl:RLen r n m) (g:Int) (ag at' aa af:Option Addr) (cg ct ca cf:Nat) (w:World) (hin:RIn w ag at' aa af cg ct ca cf n m r) :
  Calls Tryz.prog 70 #[.agg #[.slice ag n cg,.int .u64 r.cr,.slice at' m ct,.slice aa n ca,.slice af n cf],.int .i64 g] w (OwnJ w (tasksR r n g)):=by
 obtain ⟨i0,hi,hz0,hz1,hz2⟩:=info_parts infoI
 obtain ⟨hcg,hct,hca,hcf⟩:=hin.caps
 have hn:=hl.pos
 have HL:=Lib.hid hl
 have HCAL:=Lib.hid fun k W (hk:k<n) (q:RIn W ag at' aa af cg ct ca cf n m r)=>tMembers_at r n m hl n k ag at' aa af cg ct ca cf W hk (by omega) q
 obtain ⟨W0,hW0⟩:∃ W0,W0=(w.alloc (.cells #[.slice ag n cg,.int .u64 r.cr,.slice at' m ct,.slice aa n ca,.slice af n cf] 74)):=⟨_,rfl⟩
 have HB0:=Lib.hid (show Below w.heap.size w W0 by rw [hW0];exact (Below.allocS (Below.refl _ _) _))
 obtain ⟨c0,fc0,c1,fc1,c2,fc2,c3,fc3,c4,fc4⟩:=uc5 (show CellsF W0 (w.heap.size) [.slice ag n cg,.int .u64 r.cr,.slice at' m ct,.slice aa n ca,.slice af n cf] by rw [hW0];exact CellsF.new (by simp))
 have HSZ:=Lib.hid (show W0.heap.size=w.heap.size+1 by rw [hW0];simp)
 have HW0:=Lib.hid hW0
 clear hW0
 have HIN:=Lib.hid (hin.later HB0.out)
 clear hin fc0 fc1 fc2 fc3 fc4
 clear hl
 by_cases h0:g<0
 ·have z1:decide (g<0)=true:=decide_eq_true h0
  have HT:=Lib.hid (show tasksR r n g=[] by unfold tasksR;rw [if_neg (by rw [show hasV (n:Int) g=false from decide_eq_false (by omega)];simp)])
  clear h0
  go_enter Tryz.func70,Tryz.ntmps70
  go_wp2_with fail
  rw [← HW0.out]
  obtain ⟨bt,hbt⟩:∃ b,b=w.heap.size:=⟨_,rfl⟩
  rw [← hbt] at c0 c1 c2 c3 c4 ⊢
  have HBT:=Lib.hid hbt
  clear hbt HW0 HSZ
  go_ret
  exact ⟨_,rfl,by rw [HT.out];exact World.ownsRow_nil _ _ _ _,HB0.out⟩
 ·have z1:decide (g<0)=false:=decide_eq_false h0
  obtain ⟨k,rfl⟩:∃ k:Nat,g=k:=⟨g.toNat,by omega⟩
  by_cases h1:n≤k
  ·have z2:decide ((k:Int) ≥ (n:Int))=true:=decide_eq_true (by omega)
   have z3:decide (n≤k)=true:=decide_eq_true h1
   have z4:(n:Int)≤(k:Int):=by omega
   have HT:=Lib.hid (show tasksR r n (k:Int)=[] by unfold tasksR;rw [if_neg (by rw [show hasV (n:Int) (k:Int)=false from decide_eq_false (by omega)];simp)])
   clear h0 h1
   go_enter Tryz.func70,Tryz.ntmps70
   go_wp2_with fail
   rw [← HW0.out]
   obtain ⟨bt,hbt⟩:∃ b,b=w.heap.size:=⟨_,rfl⟩
   rw [← hbt] at c0 c1 c2 c3 c4 ⊢
   have HBT:=Lib.hid hbt
   clear hbt HW0 HSZ
   go_ret
   exact ⟨_,rfl,by rw [HT.out];exact World.ownsRow_nil _ _ _ _,HB0.out⟩
  ·have z2:decide ((k:Int) ≥ (n:Int))=false:=decide_eq_false (by omega)
   have z3:decide (n≤k)=false:=decide_eq_false h1
   have z4:¬ (n:Int)≤(k:Int):=by omega
   have z5:¬ n≤k:=h1
   have HT:=Lib.hid (show tasksR r n (k:Int)=tasksI (mR r n k) by unfold tasksR;rw [if_pos (show hasV (n:Int) (k:Int)=true from decide_eq_true (by omega)),Int.toNat_natCast])
   have hml:=mR_len HL.out n k
   obtain ⟨S,hS⟩:∃ S,S=mR r n k:=⟨_,rfl⟩
   have A1:=HCAL.out k W0 (by omega) HIN.out
   rw [← hS] at HT A1 hml
   replace A1:=Lib.hid A1
   clear h0 h1 hS HCAL
   go_enter Tryz.func70,Tryz.ntmps70
   go_wp2_with fail
   rw [← HW0.out]
   obtain ⟨bt,hbt⟩:∃ b,b=w.heap.size:=⟨_,rfl⟩
   rw [← hbt] at c0 c1 c2 c3 c4 ⊢
   have HBT:=Lib.hid hbt
   clear hbt HW0 HSZ
   refine A1.out.mono ?_;clear A1;rintro e w6 ⟨v,rfl,hown,hb6⟩
   have HO:=Lib.hid (own_recs encMb_ok hown)
   have HB6:=Lib.hid hb6
   obtain ⟨mn,hmn⟩:∃ k,k=S.length:=⟨_,rfl⟩
   rw [← hmn] at hown hml
   obtain ⟨am,cm,rfl⟩:=own_shapeI hown
   have HMN:=Lib.hid hmn
   clear hown hb6 hmn c0 c1 c2 c3 c4
   go_wp2_with fail
   go_loopw [5,7] (fun v i wr=>∃ j:Nat,j≤mn∧i=.int .i64 j∧wr.ownsRow w6.heap.size 3 1 v (tasksI (S.take j)).length (intsV (tasksI (S.take j)))∧Below w6.heap.size w6 wr) (fun _ i _=>mn - (intOf i).toNat)
   case atStart=>exact ⟨0,Nat.zero_le _,rfl,World.ownsRow_nil _ _ _ _,Below.refl _ _⟩
   case round =>
    obtain ⟨j,hj,rfl,hown,hb⟩:=hrel
    have HOW:=Lib.hid hown
    have HB:=Lib.hid hb
    clear hown
    have hj0:(0:Int)≤(j:Int):=by omega
    by_cases hlt:j<mn
    ·have hji:(j:Int)<(mn:Int):=by omega
     have hjM:j<S.length:=by rw [← HMN.out];exact hlt
     obtain ⟨b,off,rfl,y0,y1⟩:=(HO.out.later hb).memI hjM
     have HTK:=Lib.hid (tasksI_snoc hjM)
     have HLE:=Lib.hid (show (tasksI (S.take j)).length≤mn from Nat.le_trans (tasksI_len _) (by rw [List.length_take];omega))
     obtain ⟨id,hx⟩:∃ x,x=S[j]!.1:=⟨_,rfl⟩
     rw [← hx] at y1 HTK
     clear hb hx y0
     by_cases hid:id<65536
     ·have v2:decide (id<65536)=true:=decide_eq_true hid
      have HSN:=Lib.hid (show tasksI (S.take (j+1))=tasksI (S.take j)++[id] by rw [HTK.out,if_pos hid])
      clear HTK
      go_wp2_with (at_builtin;refine wpList_append_own _ rfl _ _ 37 rfl w6.heap.size 3 i0 (.int .i64 0) 1 8 Tryz.underlying37 hi hz0 hz1 hz2 rfl (by decide) _ (tasksI (S.take j)).length (intsV (tasksI (S.take j))) rfl (World.ownsRow.alloc HOW.out _) _ 1 1 [.int .i64 id] rfl rfl ?c1 ?c2 ?c3 ?c4 ?c5 ?_)
      case c1 =>
       intro q u hq
       rw [addN]
       exact cellN (by simp) (by simpa using hq)
      case c2 =>
       intro u hu
       simp only [List.mem_cons,List.not_mem_nil,or_false] at hu
       subst hu;rfl
      case c3=>have:=HLE.out;unfold maxLen;omega
      case c4=>have:=HLE.out;omega
      case c5=>exact (Below.allocS HB.out _).size
      intro v' w8 hown8 hgrow8 _
      have hb8:Below w6.heap.size w6 w8:=(Below.allocS HB.out _).grown hgrow8 (Below.allocS HB.out _).size (fun q e=>(HOW.out.lt q e).1)
      have HW8:=Lib.hid (show w8.ownsRow w6.heap.size 3 1 v' (tasksI (S.take (j+1))).length (intsV (tasksI (S.take (j+1)))) by rw [HSN.out,List.length_append,ints_snoc];exact hown8)
      have HB8:=Lib.hid hb8
      clear hown8 hgrow8 hb8
      go_wp2_with fail
      go_roundw
      case rel=>exact ⟨j+1,by omega,by go_num,HW8.out,HB8.out⟩
      case measure=>simp [intOf];omega
     ·have v2:decide (id<65536)=false:=decide_eq_false hid
      have HSN:=Lib.hid (show tasksI (S.take (j+1))=tasksI (S.take j) by rw [HTK.out,if_neg hid])
      clear HTK
      go_wp2_with fail
      go_roundw
      case rel=>exact ⟨j+1,by omega,by go_num,by rw [HSN.out];exact HOW.out,HB.out⟩
      case measure=>simp [intOf];omega
    ·have HJ:=Lib.hid (show j=mn by omega)
     have v1:decide ((j:Int)<(mn:Int))=false:=decide_eq_false (by omega)
     have v2:decide (j<mn)=false:=decide_eq_false hlt
     have v3:¬ (j:Int)<(mn:Int):=by omega
     clear hb hj hlt
     go_wp2_with fail
     go_ret
     refine ⟨_,rfl,?_,Below.step (Below.step HB0.out HB6.out) HB.out⟩
     rw [HT.out]
     have:=HOW.out
     rw [List.take_of_length_le (by rw [← HMN.out,HJ.out];exact Nat.le_refl _)] at this
     exact own_base this (Nat.le_trans HB0.out.size HB6.out.size)
def ldM (k:Int→List Int→Int×List Int) (g:Nat) (ch:List Int) (S:Items):Int×List Int:=match S with
 | []=>(0,[])
 | x::_=>if x.1<65536 then (x.1,ch++[(g:Int)]) else k (x.1 - 65536) (ch++[(g:Int)])
def ldF (r:RSt) (n:Nat):Nat→Nat→List Int→Int×List Int
 | 0,_,_=>(0,[])
 | f+1,g,ch=>ldM (fun i c=>ldF r n f i.toNat c) g ch (mR r n g)
def ldR (r:RSt) (n:Nat):Int×List Int:=ldF r n n 0 []
theorem memT_id {T:List (Int×Int×Ent)} (ht:∀ t∈T,1≤t.1∧t.1≤65535) (g:Nat):∀ x∈memT T g,1≤x.1∧x.1≤65535:=by
 unfold memT
 suffices h:∀ (L:List (Int×Int×Ent)) (l:Items),(∀ t∈L,1≤t.1∧t.1≤65535)→(∀ x∈l,1≤x.1∧x.1≤65535)→∀ x∈L.foldl (stepT g) l,1≤x.1∧x.1≤65535 from h T [] ht (fun x hx=>by cases hx)
 intro L
 induction L with
 | nil=>exact fun l _ hl=>hl
 | cons t r ih =>
  intro l hL hl
  refine ih (stepT g l t) (fun u hu=>hL u (List.mem_cons_of_mem _ hu)) ?_
  unfold stepT
  split
  ·intro x hx
   rcases putL_mem.1 hx with rfl | hx
   ·exact hL t List.mem_cons_self
   ·exact hl x hx
  ·exact hl
theorem mR_id {r:RSt} {n m:Nat} (hl:ROk r n m) (f g:Nat):∀ x∈mR r f g,(1≤x.1∧x.1≤65535)∨∃ h:Nat,x.1=65536+(h:Int)∧g<h∧h<n:=by
 cases f with
 | zero=>intro x hx;cases hx
 | succ f =>
  show ∀ x∈memG _ _ _ _ _ _,_
  suffices h:∀ k,k+1≤n→∀ x∈memG (parG r.Gs) r.A (mR r f) g (memT r.T g) (k+1),(1≤x.1∧x.1≤65535)∨∃ h:Nat,x.1=65536+(h:Int)∧g<h∧h<n by
   have hp:=hl.pos
   rw [hl.g]
   have:=h (n - 1) (by omega)
   rwa [show n - 1+1=n by omega] at this
  intro k
  induction k with
  | zero=>intro _ x hx;rw [memG_one] at hx;exact Or.inl (memT_id hl.tid g x hx)
  | succ k ih =>
   intro hk x hx
   rw [memG_succ (by omega)] at hx
   unfold stepG at hx
   split at hx
   ·rename_i q
    rcases putL_mem.1 hx with rfl | hx
    ·have:=(hl.right.par (k:=k+1) (by rw [hl.g];omega)).2.1 (by omega)
     exact Or.inr ⟨k+1,rfl,by omega,by omega⟩
    ·exact ih (by omega) x hx
   ·exact ih (by omega) x hx
theorem ldF_fuel {r:RSt} {n m:Nat} (hl:ROk r n m):∀ (a b g:Nat) (ch:List Int),g<n→n - g≤a→n - g≤b→ldF r n a g ch=ldF r n b g ch:=by
 intro a
 induction a with
 | zero=>intro b g ch hg ha;omega
 | succ a ih =>
  intro b g ch hg ha hb
  obtain ⟨b,rfl⟩:∃ c,b=c+1:=⟨b - 1,by omega⟩
  have hid:=mR_id hl n g
  unfold ldF
  cases e:mR r n g with
  | nil=>rfl
  | cons x q =>
   unfold ldM
   dsimp only
   split
   ·rfl
   ·rename_i h2
    rcases hid x (by rw [e];exact List.mem_cons_self) with h | ⟨h,h3,h4,h5⟩
    ·omega
    ·rw [h3,show (65536+(h:Int) - 65536).toNat=h by omega]
     exact ih b h _ h5 (by omega) (by omega)
def ChainP (w:World) (q:Int×List Int) (e:Ending) (w':World):Prop:=∃ v,e=.returned (.tuple #[.int .i64 q.1,v])∧w'.ownsRow w.heap.size 3 1 v q.2.length (intsV q.2)∧Below w.heap.size w w'
set_option maxRecDepth 100000 in
set_option maxHeartbeats 2000000 in
theorem tChain_at (r:RSt) (n m:Nat) (hl:ROk r n m) (ag at' aa af:Option Addr) (cg ct ca cf:Nat) (w:World) (hin:RIn w ag at' aa af cg ct ca cf n m r) :
  Calls Tryz.prog 69 #[.agg #[.slice ag n cg,.int .u64 r.cr,.slice at' m ct,.slice aa n ca,.slice af n cf]] w (ChainP w (ldR r n)):=by
 obtain ⟨i0,hi,hz0,hz1,hz2⟩:=info_parts infoI
 obtain ⟨hcg,hct,hca,hcf⟩:=hin.caps
 have hn:=hl.pos
 have HL:=Lib.hid hl
 have HCAL:=Lib.hid fun k W (hk:k<n) (q:RIn W ag at' aa af cg ct ca cf n m r)=>tMembers_at r n m hl.toRLen n k ag at' aa af cg ct ca cf W hk (by omega) q
 obtain ⟨W0,hW0⟩:∃ W0,W0=(w.alloc (.cells #[.slice ag n cg,.int .u64 r.cr,.slice at' m ct,.slice aa n ca,.slice af n cf] 74)):=⟨_,rfl⟩
 have HB0:=Lib.hid (show Below w.heap.size w W0 by rw [hW0];exact (Below.allocS (Below.refl _ _) _))
 obtain ⟨c0,fc0,c1,fc1,c2,fc2,c3,fc3,c4,fc4⟩:=uc5 (show CellsF W0 (w.heap.size) [.slice ag n cg,.int .u64 r.cr,.slice at' m ct,.slice aa n ca,.slice af n cf] by rw [hW0];exact CellsF.new (by simp))
 have HSZ:=Lib.hid (show W0.heap.size=w.heap.size+1 by rw [hW0];simp)
 have HW0:=Lib.hid hW0
 clear hW0
 have HIN:=Lib.hid (hin.later HB0.out)
 clear hin fc0 fc1 fc2 fc3 fc4
 clear hl
 go_enter Tryz.func69,Tryz.ntmps69
 go_wp2_with fail
 rw [← HW0.out]
 obtain ⟨bt,hbt⟩:∃ b,b=w.heap.size:=⟨_,rfl⟩
 rw [← hbt] at c0 c1 c2 c3 c4 ⊢
 have HBT:=Lib.hid hbt
 clear hbt HW0 HSZ
 go_loopw [4,5] (fun v g wr=>∃ (gk:Nat) (ch:List Int),gk<n∧ch.length≤gk∧g=.int .i64 gk∧wr.ownsRow W0.heap.size 3 1 v ch.length (intsV ch)∧Below W0.heap.size W0 wr∧Hid (ldF r n (n - gk) gk ch=ldR r n)) (fun _ g _=>n - (intOf g).toNat)
 case atStart=>exact ⟨0,[],hn.1,Nat.zero_le _,rfl,World.ownsRow_nil _ _ _ _,Below.refl _ _,Lib.hid (by rw [Nat.sub_zero];rfl)⟩
 case round =>
  obtain ⟨gk,ch,hg,hcl,rfl,hown,hb,hres⟩:=hrel
  have HO:=Lib.hid hown
  have HB:=Lib.hid hb
  have d0:=cell_later hb c0
  have d1:=cell_later hb c1
  have d2:=cell_later hb c2
  have d3:=cell_later hb c3
  have d4:=cell_later hb c4
  have A1:=Lib.hid (HCAL.out gk wr hg (HIN.out.later hb))
  have HID:=Lib.hid (mR_id HL.out n gk)
  have hg0:(0:Int)≤(gk:Int):=by omega
  have hml:=mR_len HL.out.toRLen n gk
  obtain ⟨S,hS⟩:∃ S,S=mR r n gk:=⟨_,rfl⟩
  have HRS:=Lib.hid (show ldM (fun i c=>ldF r n (n - gk - 1) i.toNat c) gk ch S=ldR r n by
   have:=hres.out
   rw [show n - gk=(n - gk - 1)+1 by omega] at this
   unfold ldF at this
   rw [← hS] at this
   exact this)
  rw [← hS] at A1 HID hml
  have HS:=Lib.hid hS
  clear hown hb hres hS
  go_wp2_with fail
  refine A1.out.mono ?_;clear A1;rintro e w6 ⟨v6,rfl,ho6,hb6⟩
  obtain ⟨mn,hmn⟩:∃ k,k=S.length:=⟨_,rfl⟩
  rw [← hmn] at ho6 hml
  obtain ⟨a6,c6,rfl⟩:=own_shapeI ho6
  have HMN:=Lib.hid hmn
  have HB6:=Lib.hid (Below.step HB.out hb6)
  have HOW:=Lib.hid (own_below HO.out hb6)
  have HM6:=Lib.hid ho6
  clear ho6 hb6 hmn d0 d1 d2 d3 d4
  cases S with
  | nil =>
   obtain rfl:mn=0:=HMN.out
   go_wp2_with fail
   go_ret2
   have e:=HRS.out
   unfold ldM at e
   dsimp only at e
   exact ⟨_,by rw [← e];rfl,by rw [← e];exact World.ownsRow_nil _ _ _ _,Below.step HB0.out HB6.out⟩
  | cons x rest =>
   have hmp:0<mn:=by have:=HMN.out;rw [List.length_cons] at this;omega
   have z1:((mn:Int) == 0)=false:=by simp;omega
   have z2:(mn == 0)=false:=by simp;omega
   have z3:¬ mn=0:=by omega
   have z4:(0:Int)<(mn:Int):=by omega
   have HM6':=Lib.hid (show w6.ownsRow wr.heap.size 169 2 (.slice a6 mn c6) (x::rest).length (flatR encMb (x::rest)) by rw [← HMN.out];exact HM6.out)
   obtain ⟨xi,hxi⟩:∃ i,i=x.1:=⟨_,rfl⟩
   have hid:=HID.out x List.mem_cons_self
   have e:=HRS.out
   unfold ldM at e
   dsimp only at e
   rw [← hxi] at hid e
   have HE:=Lib.hid e
   have HXI:=Lib.hid hxi
   have hch:ch.length≤256:=by omega
   clear e hxi
   go_wp2_with (at_builtin;refine wpList_append_own _ rfl _ _ 37 rfl W0.heap.size 3 i0 (.int .i64 0) 1 8 Tryz.underlying37 hi hz0 hz1 hz2 rfl (by decide) _ ch.length (intsV ch) rfl (World.ownsRow.alloc HOW.out _) _ 1 1 [.int .i64 gk] rfl rfl ?c1 ?c2 ?c3 ?c4 ?c5 ?_)
   case c1 =>
    intro q u hq
    rw [addN]
    exact cellN (by simp) (by simpa using hq)
   case c2 =>
    intro u hu
    simp only [List.mem_cons,List.not_mem_nil,or_false] at hu
    subst hu;rfl
   case c3=>unfold maxLen;omega
   case c4=>omega
   case c5=>exact (Below.allocS HB6.out _).size
   intro v' w8 hown8 hgrow8 _
   have HM8:=(World.ownsRow.alloc HM6'.out _).kept hgrow8 (own_apart HM6'.out HOW.out (by decide))
   obtain ⟨b,off,rfl,y0,y1⟩:=(own_recs encMb_ok HM8).memI (k:=0) (by simp)
   rw [Nat.zero_mul,Nat.add_zero] at y0 y1
   replace y1:w8.cell? ⟨b,off+1,none⟩=some (.int .i64 xi):=by rw [HXI.out];exact y1
   have HB8:=Lib.hid ((Below.allocS HB6.out _).grown hgrow8 (Below.allocS HB6.out _).size (fun q e=>(HOW.out.lt q e).1))
   have HW8:=Lib.hid (show w8.ownsRow W0.heap.size 3 1 v' (ch++[(gk:Int)]).length (intsV (ch++[(gk:Int)])) by rw [List.length_append,ints_snoc];exact hown8)
   clear y0 hown8 hgrow8 HM8
   by_cases h2:xi<65536
   ·have v1:decide (xi<65536)=true:=decide_eq_true h2
    have HL2:=Lib.hid (show (xi,ch++[(gk:Int)])=ldR r n by rw [← HE.out,if_pos h2])
    clear hid
    go_wp2_with fail
    go_ret2
    exact ⟨_,by rw [← HL2.out];rfl,by rw [← HL2.out];exact own_base HW8.out HB0.out.size,Below.step HB0.out HB8.out⟩
   ·have v1:decide (xi<65536)=false:=decide_eq_false h2
    obtain ⟨h,rfl,hgh,hhn⟩:∃ h:Nat,xi=65536+(h:Int)∧gk<h∧h<n:=by
     rcases hid with q | q
     ·omega
     ·exact q
    have w1:IntKind.i64.wrap (65536+(h:Int) - 65536)=(h:Int):=by rw [show 65536+(h:Int) - 65536=(h:Int) by omega];exact IntWalk.i64_in _ (by omega)
    have HL2:=Lib.hid (show ldF r n (n - h) h (ch++[(gk:Int)])=ldR r n by
     rw [← HE.out,if_neg h2,show (65536+(h:Int) - 65536).toNat=h by omega]
     exact ldF_fuel HL.out _ _ h _ hhn (Nat.le_refl _) (by omega))
    clear hid h2
    go_wp2_with fail
    go_roundw
    case rel=>exact ⟨h,_,hhn,by simp;omega,rfl,HW8.out,HB8.out,HL2⟩
    case measure=>simp [intOf];omega
section
variable {w:World} {base e size g n cap:Nat} {xs:List Value}
theorem own_set (h:w.ownsRow base e size (.slice (some ⟨g,0,none⟩) n cap) n xs) (i:Nat) (u:Value):(w.setCell ⟨g,i,none⟩ u).ownsRow base e size (.slice (some ⟨g,0,none⟩) n cap) n (xs.set i u):=by
 obtain ⟨h1,h2⟩:=h
 refine ⟨by rw [List.length_set];exact h1,?_⟩
 rcases h2 with ⟨q,_⟩ | ⟨g',cap',cur,e1,hb,hg,h5,h6,h7,h8⟩
 ·cases q
 ·cases e1
  refine Or.inr ⟨g,cap,cur.setIfInBounds i u,rfl,hb,?_,h5,h6,by simpa using h7,?_⟩
  ·have hlt:=lt_of_block hg
   have hg':w.heap[g]=.cells cur e (0,0):=by simpa [Array.getElem?_eq_getElem hlt] using hg
   show (w.heap.modify g _)[g]?=_
   rw [Array.getElem?_eq_getElem (by simpa using hlt),Array.getElem_modify_self,hg']
   rfl
  ·rw [Array.toList_setIfInBounds,List.take_set,h8]
end
section
variable {α:Type} {enc:α→List Value} {K:Nat}
theorem flatR_cut (he:Enc enc K) {L:List α} {k:Nat} (hk:k<L.length) [Inhabited α]:flatR enc L=flatR enc (L.take k)++(enc L[k]!++flatR enc (L.drop (k+1))):=by
 have e:L=L.take k++L[k]::L.drop (k+1):=by simp
 conv=>lhs;rw [e]
 rw [flatR_app,getElem!_pos L k hk]
 rfl
theorem flatR_set (he:Enc enc K) {L:List α} {k:Nat} (hk:k<L.length) (x:α):flatR enc (L.set k x)=flatR enc (L.take k)++(enc x++flatR enc (L.drop (k+1))):=by
 rw [List.set_eq_take_append_cons_drop,if_pos hk,flatR_app]
 rfl
theorem set_in {A B C:List Value} {p j:Nat} {u:Value} (hA:A.length=p) (hB:j<B.length):(A++(B++C)).set (p+j) u=A++(B.set j u++C):=by
 rw [List.set_append_right _ _ (by omega),hA,Nat.add_sub_cancel_left,List.set_append_left _ _ hB]
end
theorem listF {α:Type} {enc:α→List Value} {P:Program} {ops:Array Oper} {o:Oper} {a:Act} {w:World} {Q:Exit→Act→World→Prop} {rest:List Oper} (hg:o.guard=none) (s x:Operand) (t:TypeId) (hop:o.op=Op.call { callee:=Callee.builtin Builtin.append,args:=#[s,x],argTypes:=#[t,t] })
  (base:Nat) (e:TypeId) (i:TypeInfo) (z:Value) (size bytes:Nat) (he:Enc enc size) (ht:P.underlying t=some (.slice e)) (hi:P.info? e=some i) (hz:i.zero=some z) (hsize:i.size=size) (hby:i.bytes=bytes) (hzs:z.cells.size=size)
  (g:Nat) (hs:a.eval s=.slice (some ⟨g,0,none⟩) 0 0) (hown:w.ownsRow base e size (.slice (some ⟨g,0,none⟩) 0 0) 0 []) (s':Value) (L:List α) (hx:a.eval x=s') (hr:RecsAt enc w s' L)
  (h63:L.length≤maxLen) (hbytes:L.length*bytes≤140737488355328) (hbase:base≤w.heap.size)
  (hK:∀ v' w',w'.ownsRow base e size v' L.length (flatR enc L)→Below w.heap.size w w'→wpList P ops Q rest (a.put o.dst v') w') :
  wpList P ops Q (o::rest) a w:=
 wpList_plain hg fun _ hK'=>by
  obtain ⟨v',w',hrun,r1,r2,r3⟩:=run_append_fresh (P:=P) (w:=w) base t o.type e i z size bytes he ht hi hz hsize hby hzs g hown s' L hr h63 hbytes hbase
  unfold Oper.wp
  simp [execOp,hop,resolve,invoke,builtin,hs,hx,hrun,Result.andThen]
  exact hK' _ _ (hK v' w' r1 r2)
structure ROwn (base:Nat) (w:World) (bg:Nat) (at':Option Addr) (ba bf cg ct ca cf n m:Nat) (r:RSt):Prop where
 g:w.ownsRow base 53 2 (.slice (some ⟨bg,0,none⟩) n cg) n (flatR encG r.Gs)
 t:w.ownsRow base 131 5 (.slice at' m ct) m (flatR encTk r.T)
 a:w.ownsRow base 120 3 (.slice (some ⟨ba,0,none⟩) n ca) n (flatR encEn r.A)
 f:w.ownsRow base 25 1 (.slice (some ⟨bf,0,none⟩) n cf) n (flatR encU r.fl)
theorem own_recsN {α:Type} {enc:α→List Value} {K:Nat} (he:Enc enc K) {w:World} {base e n:Nat} {v:Value} {L:List α} (h:w.ownsRow base e K v n (flatR enc L)) (hn:L.length=n):RecsAt enc w v L:=by
 subst hn
 exact own_recs he h
section
variable {base:Nat} {w w':World} {bg:Nat} {at':Option Addr} {ba bf cg ct ca cf n m:Nat} {r:RSt}
theorem ROwn.rin (h:ROwn base w bg at' ba bf cg ct ca cf n m r) (hl:RLen r n m):RIn w (some ⟨bg,0,none⟩) at' (some ⟨ba,0,none⟩) (some ⟨bf,0,none⟩) cg ct ca cf n m r:=
 ⟨own_recsN encG_ok h.g hl.g,own_recsN encTk_ok h.t hl.t,own_recsN encEn_ok h.a hl.a,own_recsN encU_ok h.f hl.f⟩
theorem ROwn.later (h:ROwn base w bg at' ba bf cg ct ca cf n m r) (hb:Below w.heap.size w w'):ROwn base w' bg at' ba bf cg ct ca cf n m r:=⟨own_below h.g hb,own_below h.t hb,own_below h.a hb,own_below h.f hb⟩
theorem ROwn.toBase (h:ROwn base w bg at' ba bf cg ct ca cf n m r) {b':Nat} (hb:b'≤base):ROwn b' w bg at' ba bf cg ct ca cf n m r:=⟨own_base h.g hb,own_base h.t hb,own_base h.a hb,own_base h.f hb⟩
theorem ROwn.low (h:ROwn base w bg at' ba bf cg ct ca cf n m r) {a:Addr} (ha:a.block<base) (u:Value):ROwn base (w.setCell a u) bg at' ba bf cg ct ca cf n m r:=
 ⟨ownsRow_setCell_below h.g ha u,ownsRow_setCell_below h.t ha u,ownsRow_setCell_below h.a ha u,ownsRow_setCell_below h.f ha u⟩
theorem ROwn.ge (h:ROwn base w bg at' ba bf cg ct ca cf n m r):base≤bg∧base≤ba∧base≤bf:=⟨(h.g.lt bg rfl).1,(h.a.lt ba rfl).1,(h.f.lt bf rfl).1⟩
theorem other_set {b1 b2 e1 e2 k1 k2 n1 n2 c2 g2:Nat} {v1:Value} {x1 x2:List Value} (h1:w.ownsRow b1 e1 k1 v1 n1 x1) (h2:w.ownsRow b2 e2 k2 (.slice (some ⟨g2,0,none⟩) n2 c2) n2 x2) (he:e1≠e2) (i:Nat) (u:Value):(w.setCell ⟨g2,i,none⟩ u).ownsRow b1 e1 k1 v1 n1 x1:=
 ownsRow_setCell_other h1 (by
  rcases own_apart h1 h2 he with q | q
  ·rw [q];simp
  ·exact q) u
theorem ROwn.setF (h:ROwn base w bg at' ba bf cg ct ca cf n m r) (hl:RLen r n m) {k:Nat} (hk:k<n) (x:Int):ROwn base (w.setCell ⟨bf,k,none⟩ (.int .u64 x)) bg at' ba bf cg ct ca cf n m { r with fl:=r.fl.set k x }:=by
 refine ⟨other_set h.g h.f (by decide) _ _,other_set h.t h.f (by decide) _ _,other_set h.a h.f (by decide) _ _,?_⟩
 have e:=own_set h.f k (.int .u64 x)
 have hk':k<r.fl.length:=by rw [hl.f];exact hk
 have e2:(flatR encU r.fl).set k (.int .u64 x)=flatR encU (r.fl.set k x):=by
  rw [flatR_set encU_ok hk',flatR_cut encU_ok hk']
  have:=set_in (A:=flatR encU (r.fl.take k)) (B:=encU r.fl[k]!) (C:=flatR encU (r.fl.drop (k+1))) (p:=k) (j:=0) (u:=.int .u64 x) (by rw [flatR_len encU_ok,List.length_take];omega) (by simp [encU])
  exact this
 rw [e2] at e
 exact e
theorem setR3 {A B C:List Value} {p:Nat} {u0 u1 u2:Value} (hA:A.length=p) (j:Nat) (hB:j+3≤B.length):(((A++(B++C)).set (p+j) u0).set (p+j+1) u1).set (p+j+2) u2=A++(((B.set j u0).set (j+1) u1).set (j+2) u2++C):=by
 rw [set_in hA (by omega),show p+j+1=p+(j+1) by omega,set_in hA (by rw [List.length_set];omega),show p+j+2=p+(j+2) by omega,set_in hA (by rw [List.length_set,List.length_set];omega)]
theorem ROwn.setA (h:ROwn base w bg at' ba bf cg ct ca cf n m r) (hl:RLen r n m) {k:Nat} (hk:k<n) (x:Ent):ROwn base (((w.setCell ⟨ba,k*3,none⟩ (.int .u64 x.1)).setCell ⟨ba,k*3+1,none⟩ (.int .u32 x.2.1)).setCell ⟨ba,k*3+2,none⟩ (.int .u32 x.2.2)) bg at' ba bf cg ct ca cf n m { r with A:=r.A.set k x }:=by
 have h1:=own_set h.a (k*3) (.int .u64 x.1)
 have h2:=own_set h1 (k*3+1) (.int .u32 x.2.1)
 have h3:=own_set h2 (k*3+2) (.int .u32 x.2.2)
 refine ⟨other_set (other_set (other_set h.g h.a (by decide) _ _) h1 (by decide) _ _) h2 (by decide) _ _,other_set (other_set (other_set h.t h.a (by decide) _ _) h1 (by decide) _ _) h2 (by decide) _ _,?_,other_set (other_set (other_set h.f h.a (by decide) _ _) h1 (by decide) _ _) h2 (by decide) _ _⟩
 have hk':k<r.A.length:=by rw [hl.a];exact hk
 have e2:(((flatR encEn r.A).set (k*3) (.int .u64 x.1)).set (k*3+1) (.int .u32 x.2.1)).set (k*3+2) (.int .u32 x.2.2)=flatR encEn (r.A.set k x):=by
  rw [flatR_set encEn_ok hk',flatR_cut encEn_ok hk']
  exact setR3 (A:=flatR encEn (r.A.take k)) (B:=encEn r.A[k]!) (C:=flatR encEn (r.A.drop (k+1))) (p:=k*3) (by rw [flatR_len encEn_ok,List.length_take,Nat.min_eq_left (Nat.le_of_lt hk')]) 0 (by simp [encEn])
 rw [e2] at h3
 exact h3
theorem ROwn.setT {bT:Nat} (h:ROwn base w bg (some ⟨bT,0,none⟩) ba bf cg ct ca cf n m r) (hl:RLen r n m) {k:Nat} (hk:k<m) (x:Ent):ROwn base (((w.setCell ⟨bT,k*5+2,none⟩ (.int .u64 x.1)).setCell ⟨bT,k*5+3,none⟩ (.int .u32 x.2.1)).setCell ⟨bT,k*5+4,none⟩ (.int .u32 x.2.2)) bg (some ⟨bT,0,none⟩) ba bf cg ct ca cf n m { r with T:=r.T.set k (r.T[k]!.1,r.T[k]!.2.1,x) }:=by
 have h1:=own_set h.t (k*5+2) (.int .u64 x.1)
 have h2:=own_set h1 (k*5+3) (.int .u32 x.2.1)
 have h3:=own_set h2 (k*5+4) (.int .u32 x.2.2)
 refine ⟨other_set (other_set (other_set h.g h.t (by decide) _ _) h1 (by decide) _ _) h2 (by decide) _ _,?_,other_set (other_set (other_set h.a h.t (by decide) _ _) h1 (by decide) _ _) h2 (by decide) _ _,other_set (other_set (other_set h.f h.t (by decide) _ _) h1 (by decide) _ _) h2 (by decide) _ _⟩
 have hk':k<r.T.length:=by rw [hl.t];exact hk
 have e2:(((flatR encTk r.T).set (k*5+2) (.int .u64 x.1)).set (k*5+3) (.int .u32 x.2.1)).set (k*5+4) (.int .u32 x.2.2)=flatR encTk (r.T.set k (r.T[k]!.1,r.T[k]!.2.1,x)):=by
  rw [flatR_set encTk_ok hk',flatR_cut encTk_ok hk']
  exact setR3 (A:=flatR encTk (r.T.take k)) (B:=encTk r.T[k]!) (C:=flatR encTk (r.T.drop (k+1))) (p:=k*5) (by rw [flatR_len encTk_ok,List.length_take,Nat.min_eq_left (Nat.le_of_lt hk')]) 2 (by simp [encTk])
 rw [e2] at h3
 exact h3
theorem ROwn.setW (h:ROwn base w bg at' ba bf cg ct ca cf n m r) (hl:RLen r n m) {k:Nat} (hk:k<n) (x:Int):ROwn base (w.setCell ⟨bg,k*2+1,none⟩ (.int .i64 x)) bg at' ba bf cg ct ca cf n m { r with Gs:=r.Gs.set k (r.Gs[k]!.1,x) }:=by
 refine ⟨?_,other_set h.t h.g (by decide) _ _,other_set h.a h.g (by decide) _ _,other_set h.f h.g (by decide) _ _⟩
 have e:=own_set h.g (k*2+1) (.int .i64 x)
 have hk':k<r.Gs.length:=by rw [hl.g];exact hk
 have e2:(flatR encG r.Gs).set (k*2+1) (.int .i64 x)=flatR encG (r.Gs.set k (r.Gs[k]!.1,x)):=by
  rw [flatR_set encG_ok hk',flatR_cut encG_ok hk']
  rw [set_in (A:=flatR encG (r.Gs.take k)) (B:=encG r.Gs[k]!) (C:=flatR encG (r.Gs.drop (k+1))) (p:=k*2) (j:=1) (by rw [flatR_len encG_ok,List.length_take,Nat.min_eq_left (Nat.le_of_lt hk')]) (by simp [encG])]
  rfl
 rw [e2] at e
 exact e
end
end Go.Proofs.YtfgmglghlapbcaaGreat
