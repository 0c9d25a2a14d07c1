/-
  The walk of SchedRound.
-/
import Derived.Test.YtapnaocdehahdaaSchRun
import Derived.Test.YtapnaocdehahdaaSchAw
import Derived.Test.YtapnaocdehahdaaSchSc
namespace Go.Proofs.Ytapnaocdehahdaa
open Go.RowKit Go.Maps Go.IntWalk Go.Lib
set_option linter.unusedVariables false
set_option linter.unusedSimpArgs false
def rdGs:Grps:=[(0,1),(0,7)]
theorem right_rdGs:RightG rdGs:=by
 have h1:upL (parG rdGs) 1=[1,0]:=by rw [upL_pos (by decide) (by decide),show parG rdGs 1=0 from rfl,upL_zero]
 refine ⟨by decide,by decide,rfl,fun g h0 hl=>?_⟩
 have hl':g<2:=hl
 obtain rfl:g=1:=by omega
 unfold gErr;rw [h1];rfl
theorem rd_recs (w:World):RecsAt encG (w.alloc (.cells #[.int .i64 0,.int .i64 1,.int .i64 0,.int .i64 7] 48)) (.slice (some ⟨w.heap.size,0,none⟩) 2 2) rdGs:=lit_recs encG_ok w rdGs 48 (by decide)
set_option maxRecDepth 100000 in
set_option maxHeartbeats 8000000 in
theorem SchedRound_true (a0 a1 a2 a3:Int) (a4:Bool) (g0:(Lit.int .u8 a0).wf=true) (g1:(Lit.int .u8 a1).wf=true) (g2:(Lit.int .u16 a2).wf=true) (g3:(Lit.int .u32 a3).wf=true) (w:World) :
  Calls Try.prog 4 #[.int .u8 a0,.int .u8 a1,.int .u16 a2,.int .u32 a3,.bool a4] w fun e w'=>e=.returned (.bool true)∧Below w.heap.size w w':=by
 have b0:=wf_u8 g0
 have b1:=wf_u8 g1
 have b2:=xf16 g2
 have b3:=xf32 g3
 obtain ⟨k,hk⟩:∃ k:Nat,k=a0.toNat % 30+1:=⟨_,rfl⟩
 obtain ⟨r,hr⟩:∃ r:Nat,r=a1.toNat % 4:=⟨_,rfl⟩
 obtain ⟨d,hd⟩:∃ d:Int,d=a3 % 1048576+1:=⟨_,rfl⟩
 obtain ⟨g,hg⟩:∃ g:Nat,g=if a4 then 1 else 0:=⟨_,rfl⟩
 obtain ⟨wt,hwt⟩:∃ wt:Int,wt=1+a2:=⟨_,rfl⟩
 have hk30:1≤k∧k≤30:=by omega
 have hr4:r≤3:=by omega
 have hd1:1≤d∧d≤1048576:=by omega
 have hg2:g<2:=by rw [hg];cases a4 <;> decide
 have hw:wgOk wt:=by unfold wgOk;omega
 have t0:Int.tmod a0 30=(k:Int) - 1:=by rw [Int.tmod_eq_emod_of_nonneg b0.1,hk];omega
 have t1:Int.tmod a1 4=(r:Int):=by rw [Int.tmod_eq_emod_of_nonneg b1.1,hr];omega
 have t3:Int.tmod a3 1048576=d - 1:=by rw [Int.tmod_eq_emod_of_nonneg b3.1,hd];omega
 have q0:IntKind.i64.wrap a0=a0:=IntWalk.i64_in _ (by omega)
 have q1:IntKind.i64.wrap a1=a1:=IntWalk.i64_in _ (by omega)
 have q2:IntKind.i64.wrap a2=a2:=IntWalk.i64_in _ (by omega)
 have q3:IntKind.i64.wrap ((k:Int) - 1)=(k:Int) - 1:=IntWalk.i64_in _ (by omega)
 have q4:IntKind.i64.wrap (1+((k:Int) - 1))=(k:Int):=by rw [show 1+((k:Int) - 1)=(k:Int) by omega];exact IntWalk.i64_in _ (by omega)
 have q5:IntKind.i64.wrap (1+a2)=1+a2:=IntWalk.i64_in _ (by omega)
 have q6:IntKind.u32.wrap (d - 1)=d - 1:=IntWalk.u32_in _ (by omega)
 have q7:IntKind.i64.wrap (d - 1)=d - 1:=IntWalk.i64_in _ (by omega)
 have q8:IntKind.i64.wrap (1+(d - 1))=d:=by rw [show 1+(d - 1)=d by omega];exact IntWalk.i64_in _ (by omega)
 have q9:IntKind.i64.wrap (r:Int)=(r:Int):=IntWalk.i64_in _ (by omega)
 have A1:=Lib.hid fun W v (hb:Below w.heap.size w W) (hV:RecsAt encG W v rdGs)=>NewX_at (base:=w) (w:=W) (C:=1) (cr:=0) hb hV right_rdGs ⟨by decide,by decide⟩ ⟨by decide,by decide⟩
 have AW:=Lib.hid sawake_at
 have HD:=Lib.hid hd1
 have HWT:=Lib.hid hw
 have HK:=Lib.hid hk30
 have HR:=Lib.hid hr4
 have HG2:=Lib.hid hg2
 have HWTE:=Lib.hid hwt
 have HGE:=Lib.hid hg
 clear g0 g1 g2 g3 hk hr hd hw hd1 hwt hg
 go_enter Try.func4,Try.ntmps4
 go_wp2_with fail
 refine (A1.out _ _ (Below.allocS (Below.allocS (Below.refl _ _) _) _) ((rd_recs w).later (below_a _ _))).mono ?_
 clear A1;rintro e w1 ⟨x,F0,rfl,hX,hb1,hF⟩
 have hb2:=below_a w1 (.cells #[.pointer (some ⟨x,0,none⟩)] 34)
 have hb3:=below_a (w1.alloc (.cells #[.pointer (some ⟨x,0,none⟩)] 34)) (.cells #[.int .i64 d] 3)
 obtain ⟨W2,hW2⟩:∃ W,W=(w1.alloc (.cells #[.pointer (some ⟨x,0,none⟩)] 34)).alloc (.cells #[.int .i64 d] 3):=⟨_,rfl⟩
 have cx:W2.cell? ⟨w1.heap.size,0,none⟩=some (.pointer (some ⟨x,0,none⟩)):=by rw [hW2];exact cell_al _ (cell_nw _ _ _ 0 _ rfl)
 have cd:W2.cell? ⟨w1.heap.size+1,0,none⟩=some (.int .i64 d):=by rw [hW2];exact cell_nwE (by simp) _ _ 0 _ rfl
 have NX:=Lib.hid (show w1.heap.size∉F0 from fun m=>by have:=hX.lt _ m;omega)
 have ND:=Lib.hid (show w1.heap.size+1∉F0 from fun m=>by have:=hX.lt _ m;omega)
 have HX:=Lib.hid (show XW w x (firstS rdGs 1 0) W2 F0 by rw [hW2];exact (hX.later hb2).later hb3)
 have HW2:=Lib.hid hW2
 clear hX hb1 hF hb2 hb3 hW2
 go_upto_if 50 with fail
 rw [← HW2.out]
 go_cut [15] (fun s15 wx=>s15=.int .i64 (g:Nat)∧wx=W2)
 case first =>
  have hg:=HGE.out
  cases a4 with
  | true =>
   rw [if_pos rfl] at hg
   subst hg
   go_wp2_with fail
   go_meet
   case rel=>exact ⟨rfl,rfl⟩
  | false =>
   rw [if_neg (by simp)] at hg
   subst hg
   go_wp2_with fail
   go_meet
   case rel=>exact ⟨rfl,rfl⟩
 case rest =>
  obtain ⟨rfl,rfl⟩:=hcut
  obtain ⟨bx,hbx⟩:∃ b,b=w1.heap.size:=⟨_,rfl⟩
  obtain ⟨bd,hbd⟩:∃ b,b=w1.heap.size+1:=⟨_,rfl⟩
  rw [← hbd] at cd ND ⊢
  rw [← hbx] at cx NX ⊢
  have H0:=Lib.hid (Rs.start (d:=d) (wt:=wt) (k:=k) right_rdGs rfl rfl HG2.out)
  clear hbx hbd HW2
  go_wp2_with fail
  go_loopw [52] (fun iv wr=>∃ (i:Nat) (s:SSt) (F:List Nat),i≤k∧iv=.int .i64 i∧Hid (Rs s g d wt k (k - i))∧Hid (XW w x s wr F)∧Hid (bx∉F)∧Hid (bd∉F)∧wr.cell? ⟨bx,0,none⟩=some (.pointer (some ⟨x,0,none⟩))∧wr.cell? ⟨bd,0,none⟩=some (.int .i64 d)) (fun i _=>k - (intOf i).toNat)
  case atStart=>exact ⟨0,_,F0,Nat.zero_le _,rfl,H0,HX,NX,ND,cx,cd⟩
  case round =>
   clear H0 HX NX ND cx cd
   obtain ⟨i,s,F,hi,rfl,hS,HX,NX,ND,cx,cd⟩:=hrel
   by_cases hlt:i<k
   ·have hki:(i:Int)<(k:Int):=by omega
    have z0:decide ((i:Int)<(k:Int))=true:=decide_eq_true hki
    obtain ⟨j,hj⟩:∃ j,k - i=j+1:=⟨k - i - 1,by omega⟩
    rw [hj] at hS
    have hk30:=HK.out
    obtain ⟨s',e1,hS'⟩:=hS.out.next HWT.out (by omega) (by omega)
    have hsub:IntKind.i64.wrap ((k:Int) - (i:Int))=(j:Int)+1:=by rw [show (k:Int) - (i:Int)=(j:Int)+1 by omega];exact IntWalk.i64_in _ (by omega)
    have hsub2:wrap64 ((k:Int) - (i:Int))=(j:Int)+1:=by rw [show (k:Int) - (i:Int)=(j:Int)+1 by omega];exact IntWalk.wrap64_in _ (by omega)
    have A2:Calls Try.prog 9 #[.pointer (some ⟨x,0,none⟩),.agg #[.int .u8 1,.int .i64 0,.int .i64 ((j:Int)+1),.int .i64 (g:Nat),.int .i64 (1+a2),.int .i64 0,.int .i64 0,.int .u64 1]] wr fun e w'=>e=.returned (.tuple #[.int .i64 0,.int .i64 0])∧SAfter wr x F s' w':=by
     have:=DoX_at HX.out.inn hS.out.rd.ok (spO_wf (id:=(j:Int)+1) (wt:=wt) ⟨by omega,by omega⟩ HG2.out HWT.out)
     rw [e1] at this
     rw [← HWTE.out]
     exact this
    replace A2:=Lib.hid A2
    have HS':=Lib.hid (show Rs s' g d wt k (k - (i+1)) by rw [show k - (i+1)=j by omega];exact hS')
    have LX:=Lib.hid (lt_of_cell cx)
    have LD:=Lib.hid (lt_of_cell cd)
    clear hS hS' e1
    go_wp2_with fail
    refine A2.out.mono ?_;clear A2;rintro e w4 ⟨rfl,hA⟩
    obtain ⟨F1,x1,t1⟩:=HX.out.step hA
    replace cx:=t1.cell NX.out cx
    replace cd:=t1.cell ND.out cd
    replace NX:=Lib.hid (t1.off NX.out LX.out)
    replace ND:=Lib.hid (t1.off ND.out LD.out)
    replace LX:=Lib.hid (lt_of_cell cx)
    replace LD:=Lib.hid (lt_of_cell cd)
    replace HX:=Lib.hid (show XW w x s' w4 F1 from x1)
    clear x1 t1 hA
    go_wp2_with fail
    go_roundw
    case rel=>exact ⟨i+1,s',_,by omega,by go_num,HS',HX,NX,ND,cx,cd⟩
    case measure=>simp [intOf];omega
   ·obtain rfl:k=i:=by omega
    have z0:decide ((k:Int)<(k:Int))=false:=decide_eq_false (by omega)
    have hk30:=HK.out
    have hr4:=HR.out
    have H1:=Lib.hid (show Rd s g wt (PR d wt 1 k (QI 1 k 0 0) (RI 1 k 0)) 0 by
     have:=hS.out.rd
     rw [Nat.sub_self] at this
     have e1:QI 1 k 0 0=0:=by unfold QI;rw [Nat.zero_div]
     have e2:RI 1 k 0=0:=by unfold RI;rw [Nat.zero_mod]
     rw [e1,e2];exact this)
    obtain ⟨m,hm⟩:∃ m:Nat,m=k*r:=⟨_,rfl⟩
    have hm90:m≤90:=by rw [hm];exact Nat.le_trans (Nat.mul_le_mul hk30.2 hr4) (by decide)
    have hmul:IntKind.i64.wrap ((k:Int)*(r:Int))=(m:Int):=by rw [show (k:Int)*(r:Int)=(m:Int) by rw [hm];push_cast;rfl];exact IntWalk.i64_in _ (by omega)
    have hmul2:wrap64 ((k:Int)*(r:Int))=(m:Int):=by rw [show (k:Int)*(r:Int)=(m:Int) by rw [hm];push_cast;rfl];exact IntWalk.wrap64_in _ (by omega)
    have HM:=Lib.hid hm
    clear hS hm
    go_wp2_with fail
    clear hmul hmul2
    go_loopw [77] (fun iv wr=>∃ (i:Nat) (s:SSt) (F:List Nat),i≤m∧iv=.int .i64 i∧Hid (Rd s g wt (PR d wt 1 k (QI 1 k 0 i) (RI 1 k i)) i)∧Hid (XW w x s wr F)∧Hid (bx∉F)∧Hid (bd∉F)∧wr.cell? ⟨bx,0,none⟩=some (.pointer (some ⟨x,0,none⟩))∧wr.cell? ⟨bd,0,none⟩=some (.int .i64 d)) (fun i _=>m - (intOf i).toNat)
    case atStart=>exact ⟨0,s,F,Nat.zero_le _,rfl,H1,HX,NX,ND,cx,cd⟩
    case round =>
     clear H1 HX NX ND cx cd
     obtain ⟨i,s,F,hi,rfl,hS,HX,NX,ND,cx,cd⟩:=hrel
     have LX:=Lib.hid (lt_of_cell cx)
     have LD:=Lib.hid (lt_of_cell cd)
     by_cases hlt:i<m
     ·have hki:(i:Int)<(m:Int):=by omega
      have z1:decide ((i:Int)<(m:Int))=true:=decide_eq_true hki
      obtain ⟨s1,s2,e1,o1,e2,h2,-,-⟩:=hS.out.turns HD.out HWT.out (by omega) (by omega) (Nat.le_refl _) hk30.1
      have hid:((1:Nat):Int)+((i % (k+1 - 1):Nat):Int)=1+((i % k:Nat):Int):=by rw [Nat.add_sub_cancel];rfl
      rw [hid] at e1 e2
      have A2:=Lib.hid (run_at (HX.out.later (show Below wr.heap.size wr wr.drew from (Below.refl _ _).drew)).inn hS.out.ok o1 e1 e2 HD.out NX.out ND.out (cell_dr cx) (cell_dr cd))
      have hil:i % k<k:=Nat.mod_lt _ (by omega)
      have ht1:Int.tmod (i:Int) (k:Int)=((i % k:Nat):Int):=by rw [Int.tmod_eq_emod_of_nonneg (by omega)];push_cast;rfl
      obtain ⟨q,hq⟩:∃ q:Nat,q=i % k:=⟨_,rfl⟩
      rw [← hq] at A2 ht1 hil
      have w1q:IntKind.i64.wrap (q:Int)=(q:Int):=IntWalk.i64_in _ (by omega)
      have w2q:IntKind.i64.wrap (1+(q:Int))=1+(q:Int):=IntWalk.i64_in _ (by omega)
      have hkz:((k:Int)=0)=False:=by simp;omega
      have hkz':(k=0)=False:=by simp;omega
      have H2:=Lib.hid h2
      clear hS h2 e1 e2 hid hq
      go_wp2_with fail
      have hS0:(fun w':World=>True) (wr.drew):=trivial
      refine wp_region_held_drew (S:=fun w':World=>True) (by kernel_rfl) hS0 (fun hHeld=>?_)
      refine takeA 0 ?_
      refine takeA 2 ?_
      refine takeA 3 ?_
      refine takeA 4 ?_
      refine takeA 5 ?_
      refine readyA [1] (consA (fun K hK=>?_) .nil)
      go_simp
      refine A2.out.mono ?_
      rintro e w4 ⟨rfl,hA0⟩
      have hA:=SAfter.drewn hA0
      clear hA0
      go_wp2_with fail
      refine outA hK (by trivial) (fun hHeld1=>?_)
      clear hK K
      refine takeA 6 ?_
      refine doneA ?_
      skip
      obtain ⟨F2,x2,t2⟩:=HX.out.step hA
      replace cx:=t2.cell NX.out cx
      replace cd:=t2.cell ND.out cd
      replace NX:=Lib.hid (t2.off NX.out LX.out)
      replace ND:=Lib.hid (t2.off ND.out LD.out)
      replace LX:=Lib.hid (lt_of_cell cx)
      replace LD:=Lib.hid (lt_of_cell cd)
      replace HX:=Lib.hid (show XW w x s2 w4 F2 from x2)
      clear x2 t2 hA
      go_wp2_with fail
      go_roundw
      case rel=>exact ⟨i+1,s2,_,by omega,by go_num,H2,HX,NX,ND,cx,cd⟩
      case measure=>simp [intOf];omega
     ·obtain rfl:m=i:=by omega
      have z1:decide ((m:Int)<(m:Int))=false:=decide_eq_false (by omega)
      have e1:QI 1 k 0 m=r:=by unfold QI;rw [HM.out,Nat.add_sub_cancel,Nat.mul_div_cancel_left _ (by omega),Nat.zero_add]
      have e2:RI 1 k m=0:=by unfold RI;rw [HM.out,Nat.add_sub_cancel,Nat.mul_mod_right]
      rw [e1,e2] at hS
      obtain ⟨s1,s2,d1,o1,d2,h2,hcu,-⟩:=hS.out.turn HD.out HWT.out (by omega) (by omega) (by omega) (by omega)
      rw [show ((0:Nat):Int)+1=1 from rfl] at d1 d2 hcu
      obtain ⟨s3,t,d3,h3,hT3,hr3,hrun3⟩:=h2.sleeps hcu hk30.1
      have A2:=Lib.hid (run_at HX.out.inn hS.out.ok o1 d1 d2 HD.out NX.out ND.out cx cd)
      have A3:=Lib.hid fun W F' (hX:SIn W x F' s2)=>(show Calls Try.prog 9 #[.pointer (some ⟨x,0,none⟩),.agg #[.int .u8 3,.int .i64 0,.int .i64 0,.int .i64 0,.int .i64 0,.int .i64 0,.int .i64 0,.int .u64 0]] W fun e w'=>e=.returned (.tuple #[.int .i64 1,.int .i64 0])∧SAfter W x F' s3 w' by
       have:=DoX_at hX h2.ok blO_wf
       rw [d3] at this
       exact this)
      have H3:=Lib.hid (show Rd s3 g wt (PR d wt 2 k (QI 2 k r 0) (RI 2 k 0)) (m+1) from h3)
      have HT3:=Lib.hid (show s3.T 1=some t∧t.rdy=false∧t.run=runN d (0,0,wt) (r+1) from ⟨hT3,hr3,hrun3⟩)
      have HM2:=Lib.hid (show m≤90∧r≤3∧1≤k∧k≤30 from ⟨hm90,hr4,hk30.1,hk30.2⟩)
      clear hS d1 d2 d3 h2 h3 hcu hT3 hr3 hrun3 e1 e2
      go_wp2_with fail
      refine A2.out.mono ?_;clear A2;rintro e w4 ⟨rfl,hA⟩
      obtain ⟨F3,x3,t3⟩:=HX.out.step hA
      replace cx:=t3.cell NX.out cx
      replace cd:=t3.cell ND.out cd
      replace NX:=Lib.hid (t3.off NX.out LX.out)
      replace ND:=Lib.hid (t3.off ND.out LD.out)
      replace LX:=Lib.hid (lt_of_cell cx)
      replace LD:=Lib.hid (lt_of_cell cd)
      replace HX:=Lib.hid (show XW w x s2 w4 F3 from x3)
      clear x3 t3 hA
      go_wp2_with fail
      refine (A3.out _ _ HX.out.inn).mono ?_;clear A3;rintro e w5 ⟨rfl,hA⟩
      obtain ⟨F4,x4,t4⟩:=HX.out.step hA
      replace cx:=t4.cell NX.out cx
      replace cd:=t4.cell ND.out cd
      replace NX:=Lib.hid (t4.off NX.out LX.out)
      replace ND:=Lib.hid (t4.off ND.out LD.out)
      replace LX:=Lib.hid (lt_of_cell cx)
      replace LD:=Lib.hid (lt_of_cell cd)
      replace HX:=Lib.hid (show XW w x s3 w5 F4 from x4)
      clear x4 t4 hA
      obtain ⟨n2,hn2⟩:∃ n2:Nat,n2=2*(k - 1):=⟨_,rfl⟩
      have hn58:n2≤58:=by omega
      have hs1:IntKind.i64.wrap ((k:Int) - 1)=(k:Int) - 1:=IntWalk.i64_in _ (by omega)
      have hs2:IntKind.i64.wrap (2*((k:Int) - 1))=(n2:Int):=by rw [show 2*((k:Int) - 1)=(n2:Int) by omega];exact IntWalk.i64_in _ (by omega)
      have HN2:=Lib.hid hn2
      clear hn2
      go_wp2_with fail
      go_loopw [102] (fun iv wr=>∃ (i:Nat) (s:SSt) (F:List Nat),i≤n2∧iv=.int .i64 i∧Hid (Rd s g wt (PR d wt 2 k (QI 2 k r i) (RI 2 k i)) (m+1+i))∧Hid (s.T 1=some t∧t.rdy=false∧t.run=runN d (0,0,wt) (r+1))∧Hid (XW w x s wr F)∧Hid (bx∉F)∧Hid (bd∉F)∧wr.cell? ⟨bx,0,none⟩=some (.pointer (some ⟨x,0,none⟩))∧wr.cell? ⟨bd,0,none⟩=some (.int .i64 d)) (fun i _=>n2 - (intOf i).toNat)
      case atStart=>exact ⟨0,s3,_,Nat.zero_le _,rfl,H3,HT3,HX,NX,ND,cx,cd⟩
      case round =>
       clear H3 HT3 HX NX ND cx cd LX LD
       obtain ⟨i,s,F,hi,rfl,hS,HT3,HX,NX,ND,cx,cd⟩:=hrel
       have LX:=Lib.hid (lt_of_cell cx)
       have LD:=Lib.hid (lt_of_cell cd)
       have hM2:=HM2.out
       by_cases hlt:i<n2
       ·have hki:(i:Int)<(n2:Int):=by omega
        have z2:decide ((i:Int)<(n2:Int))=true:=decide_eq_true hki
        have hk2:2≤k:=by have:=HN2.out;omega
        obtain ⟨s4,s5,e1,o1,e2,h2,-,hT5⟩:=hS.out.turns HD.out HWT.out (by omega) (by omega) (by decide) hk2
        have hid:((2:Nat):Int)+((i % (k+1 - 2):Nat):Int)=2+((i % (k - 1):Nat):Int):=by rw [show k+1 - 2=k - 1 by omega];rfl
        rw [hid] at e1 e2
        have A2:=Lib.hid (run_at (HX.out.later (show Below wr.heap.size wr wr.drew from (Below.refl _ _).drew)).inn hS.out.ok o1 e1 e2 HD.out NX.out ND.out (cell_dr cx) (cell_dr cd))
        have hil:i % (k - 1)<k - 1:=Nat.mod_lt _ (by omega)
        have ht1:Int.tmod (i:Int) ((k:Int) - 1)=((i % (k - 1):Nat):Int):=by rw [Int.tmod_eq_emod_of_nonneg (by omega),show (k:Int) - 1=((k - 1:Nat):Int) by omega];push_cast;rfl
        obtain ⟨q,hq⟩:∃ q:Nat,q=i % (k - 1):=⟨_,rfl⟩
        rw [← hq] at A2 ht1 hil
        have w1q:IntKind.i64.wrap (q:Int)=(q:Int):=IntWalk.i64_in _ (by omega)
        have w2q:IntKind.i64.wrap (2+(q:Int))=2+(q:Int):=IntWalk.i64_in _ (by omega)
        have w3q:IntKind.i64.wrap ((q:Int)+2)=(q:Int)+2:=IntWalk.i64_in _ (by omega)
        have hkz1:((k:Int) - 1=0)=False:=by simp;omega
        have hkz2:((k:Int)=1)=False:=by simp;omega
        have hkz3:(k=1)=False:=by simp;omega
        have H2:=Lib.hid (show Rd s5 g wt (PR d wt 2 k (QI 2 k r (i+1)) (RI 2 k (i+1))) (m+1+(i+1)) from h2)
        have HT5:=Lib.hid (show s5.T 1=some t∧t.rdy=false∧t.run=runN d (0,0,wt) (r+1) by rw [hT5];exact HT3.out)
        clear hS h2 e1 e2 hid hq hT5
        go_wp2_with fail
        have hS0:(fun w':World=>True) (wr.drew):=trivial
        refine wp_region_held_drew (S:=fun w':World=>True) (by kernel_rfl) hS0 (fun hHeld=>?_)
        refine takeA 0 ?_
        refine takeA 2 ?_
        refine takeA 3 ?_
        refine takeA 4 ?_
        refine takeA 5 ?_
        refine takeA 6 ?_
        refine readyA [1] (consA (fun K hK=>?_) .nil)
        go_simp
        refine A2.out.mono ?_
        rintro e w4 ⟨rfl,hA0⟩
        have hA:=SAfter.drewn hA0
        clear hA0
        go_wp2_with fail
        refine outA hK (by trivial) (fun hHeld1=>?_)
        clear hK K
        refine takeA 7 ?_
        refine doneA ?_
        skip
        obtain ⟨F5,x5,t5⟩:=HX.out.step hA
        replace cx:=t5.cell NX.out cx
        replace cd:=t5.cell ND.out cd
        replace NX:=Lib.hid (t5.off NX.out LX.out)
        replace ND:=Lib.hid (t5.off ND.out LD.out)
        replace LX:=Lib.hid (lt_of_cell cx)
        replace LD:=Lib.hid (lt_of_cell cd)
        replace HX:=Lib.hid (show XW w x s5 w4 F5 from x5)
        clear x5 t5 hA
        go_wp2_with fail
        go_roundw
        case rel=>exact ⟨i+1,s5,_,by omega,by go_num,H2,HT5,HX,NX,ND,cx,cd⟩
        case measure=>simp [intOf];omega
       ·obtain rfl:n2=i:=by omega
        have z2:decide ((n2:Int)<(n2:Int))=false:=decide_eq_false (by omega)
        have hPR:PR d wt 2 k (QI 2 k r n2) (RI 2 k n2)=PR d wt 2 k (r+2) 1:=by
         by_cases hk1:k=1
         ·subst hk1
          funext id
          unfold PR
          rw [if_neg (by omega),if_neg (by omega)]
         ·have e1:QI 2 k r n2=r+2:=by unfold QI;rw [HN2.out,show k+1 - 2=k - 1 by omega,Nat.mul_div_cancel _ (by omega)]
          have e2:RI 2 k n2=1:=by unfold RI;rw [HN2.out,show k+1 - 2=k - 1 by omega,Nat.mul_mod_left]
          rw [e1,e2]
        rw [hPR] at hS
        obtain ⟨hT,hr,hrun⟩:=HT3.out
        obtain ⟨s6,d1,o6,s7,s8,d2,o7,d3,o8,d4⟩:=hS.out.wakes HD.out HWT.out (by omega) (by omega) hM2.2.2.1 hT hr hrun
        have A2:=Lib.hid (show Calls Try.prog 9 #[.pointer (some ⟨x,0,none⟩),.agg #[.int .u8 2,.int .i64 0,.int .i64 1,.int .i64 0,.int .i64 0,.int .i64 0,.int .i64 0,.int .u64 0]] wr fun e w'=>e=.returned (.tuple #[.int .i64 0,.int .i64 0])∧SAfter wr x F s6 w' by
         have:=DoX_at HX.out.inn hS.out.ok (wkO_wf (d:=1) ⟨by decide,by decide⟩)
         rw [d1] at this
         exact this)
        have A3:=Lib.hid fun W F' (hX:SIn W x F' s6) (n1:bx∉F') (n2:bd∉F') (c1:W.cell? ⟨bx,0,none⟩=some (.pointer (some ⟨x,0,none⟩))) (c2:W.cell? ⟨bd,0,none⟩=some (.int .i64 d))=>run_at hX o6 o7 d2 d3 HD.out n1 n2 c1 c2
        have O8:=Lib.hid o8
        have D4:=Lib.hid d4
        clear hS hT hr hrun d1 o6 d2 o7 d3 o8 d4 hPR
        go_wp2_with fail
        refine A2.out.mono ?_;clear A2;rintro e w4 ⟨rfl,hA⟩
        obtain ⟨F6,x6,t6⟩:=HX.out.step hA
        replace cx:=t6.cell NX.out cx
        replace cd:=t6.cell ND.out cd
        replace NX:=Lib.hid (t6.off NX.out LX.out)
        replace ND:=Lib.hid (t6.off ND.out LD.out)
        replace LX:=Lib.hid (lt_of_cell cx)
        replace LD:=Lib.hid (lt_of_cell cd)
        replace HX:=Lib.hid (show XW w x s6 w4 F6 from x6)
        clear x6 t6 hA
        go_wp2_with fail
        refine (A3.out _ _ HX.out.inn NX.out ND.out cx cd).mono ?_;clear A3;rintro e w5 ⟨rfl,hA⟩
        obtain ⟨F7,x7,t7⟩:=HX.out.step hA
        replace cx:=t7.cell NX.out cx
        replace cd:=t7.cell ND.out cd
        replace NX:=Lib.hid (t7.off NX.out LX.out)
        replace ND:=Lib.hid (t7.off ND.out LD.out)
        replace LX:=Lib.hid (lt_of_cell cx)
        replace LD:=Lib.hid (lt_of_cell cd)
        replace HX:=Lib.hid (show XW w x s8 w5 F7 from x7)
        clear x7 t7 hA
        by_cases hk1:k=1
        ·have y1:((k:Int) == 1)=true:=beq_iff_eq.2 (by omega)
         have y2:(k == 1)=true:=by simpa using hk1
         clear D4
         have HBL:=Lib.hid HX.out.bel
         clear hk1
         go_wp2_with fail
         refine (AW.out w5).mono ?_;rintro e w9 ⟨rfl,hb9⟩
         have HB9:=Lib.hid (Below.step HBL.out hb9)
         clear hb9
         go_wp2_with fail
         go_ret
         exact ⟨rfl,HB9.out⟩
        ·have y1:((k:Int) == 1)=false:=beq_eq_false_iff_ne.2 (by omega)
         have y2:(k == 1)=false:=by simpa using hk1
         obtain ⟨s9,s10,d1,o9,d2,o10⟩:=D4.out hk1
         have A4:=Lib.hid (run_at HX.out.inn O8.out o9 d1 d2 HD.out NX.out ND.out cx cd)
         clear D4 hk1 d1 o9 d2
         go_wp2_with fail
         refine A4.out.mono ?_;clear A4;rintro e w6 ⟨rfl,hA⟩
         obtain ⟨F8,x8,t8⟩:=HX.out.step hA
         replace cx:=t8.cell NX.out cx
         replace cd:=t8.cell ND.out cd
         replace NX:=Lib.hid (t8.off NX.out LX.out)
         replace ND:=Lib.hid (t8.off ND.out LD.out)
         replace LX:=Lib.hid (lt_of_cell cx)
         replace LD:=Lib.hid (lt_of_cell cd)
         replace HX:=Lib.hid (show XW w x s10 w6 F8 from x8)
         clear x8 t8 hA
         have HBL:=Lib.hid HX.out.bel
         go_wp2_with fail
         refine (AW.out w6).mono ?_;rintro e w9 ⟨rfl,hb9⟩
         have HB9:=Lib.hid (Below.step HBL.out hb9)
         clear hb9
         go_wp2_with fail
         go_ret
         exact ⟨rfl,HB9.out⟩
end Go.Proofs.Ytapnaocdehahdaa
