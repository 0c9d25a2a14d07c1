/-
  LagFair: the walk of near, rounded.
-/
import Derived.Test.YtapnaocdehahdaaGreatFrM
namespace Go.Proofs.YtapnaocdehahdaaGreat
open Go.RowKit Go.Maps Go.IntWalk Go.Lib Go.Sort
set_option linter.unusedVariables false
set_option maxRecDepth 100000 in
set_option maxHeartbeats 2000000 in
theorem near_rd (b off lcap:Nat) (l:List (Int×Int)) (p g bm cap:Nat) (L:List (Int×Int×Int)) (n:Nat) (q:Int) (w:World) (hl:L.map pw=l) (hn:l.length=n) (h0:0<n) (h12:n≤12) (hp:PairsAt w b off l) (hM:MeterAt w p g bm cap L n) (hN:NearR L (leastW l) q) :
  Calls Tryz.prog 43 #[.pointer (some ⟨p,0,none⟩),.slice (some ⟨b,off,none⟩) n lcap,.int .i64 q,.bool true] w fun e w'=>e=.returned (.bool true)∧Below w.heap.size w w':=by
 obtain ⟨⟨x1,x2⟩,hx⟩:∃ x,l[0]?=some x:=⟨_,List.getElem?_eq_getElem (by omega)⟩
 have q1:=(hp 0 _ hx).2
 simp only [Nat.zero_mul,Nat.add_zero] at q1
 have HE:=Lib.hid (show leastW l=leastK l x2 n by unfold leastW;rw [hx,hn];rfl)
 have HP:=Lib.hid hp
 have HL:=Lib.hid hl
 have HN:=Lib.hid hn
 have HM:=Lib.hid hM
 have HNr:=Lib.hid hN
 obtain ⟨n0,n1,n2,n3,_⟩:=hN
 clear hp hl hn hM hx
 go_enter Tryz.func43,Tryz.ntmps43
 go_wp2_with fail
 go_loopw [9,23] (fun m i wr=>∃ k:Nat,k≤n∧i=.int .i64 k∧m=.int .i64 (leastK l x2 k)∧Below w.heap.size w wr) (fun _ i _=>n - (RowKit.intOf i).toNat)
 case atStart=>exact ⟨0,Nat.zero_le _,rfl,rfl,Below.refl _ _⟩
 case round =>
  obtain ⟨k,hk,rfl,rfl,hb⟩:=hrel
  by_cases hlt:k<n
  ·obtain ⟨⟨y1,y2⟩,hy⟩:∃ x,l[k]?=some x:=⟨_,List.getElem?_eq_getElem (by rw [HN.out];exact hlt)⟩
   obtain ⟨r0,r1⟩:=HP.out k _ hy
   replace r0:=cell_later hb r0
   replace r1:=cell_later hb r1
   simp only at r0 r1
   have HS:=Lib.hid (leastK_succ (m:=x2) hy)
   have hk0:(0:Int)≤(k:Int):=by omega
   have hkn:(k:Int)<(n:Int):=by omega
   clear hy
   go_wp2_with fail
   go_roundw
   case rel=>exact ⟨k+1,by omega,by go_num,by rw [HS.out],Below.allocS hb _⟩
   case measure=>simp [RowKit.intOf];omega
  ·obtain rfl:k=n:=by omega
   rw [← HE.out]
   clear hk hlt
   obtain ⟨wo,rfl⟩:∃ wo:World,wo=wr:=⟨_,rfl⟩
   go_wp2_with fail
   go_loopw [34] (fun i wr=>∃ j:Nat,j≤k∧i=.int .i64 j∧Below w.heap.size w wr) (fun i _=>k - (RowKit.intOf i).toNat)
   case atStart=>exact ⟨0,Nat.zero_le _,rfl,hb⟩
   case round =>
    obtain ⟨j,hj,rfl,hbr⟩:=hrel
    by_cases hlt:j<k
    ·obtain ⟨⟨y1,y2,y3⟩,hy⟩:∃ x,L[j]?=some x:=⟨_,List.getElem?_eq_getElem (by rw [HM.out.len];exact hlt)⟩
     have hyl:l[j]?=some (y1,y2):=by rw [← HL.out,List.getElem?_map,hy];rfl
     obtain ⟨r0,r1⟩:=HP.out j _ hyl
     replace r0:=cell_later hbr r0
     replace r1:=cell_later hbr r1
     simp only at r0 r1
     have hB:=HM.out.good.bounds hy
     have hy2:=hB.w2
     have hy1:=hB.w1
     have hw4:=hB.w4
     have hw3:=hB.w3
     simp only at hy1 hy2 hw3
     obtain ⟨e1,e2,e3,e4⟩:=HNr.out.all _ (List.mem_of_getElem? hy)
     have hm:=HM.out.good.each _ (List.mem_of_getElem? hy)
     have hlag:lagR L y1=lagV L (y1,y2,y3):=by unfold lagR;rw [show tsk L y1=_ from tsk_at HM.out.good hy]
     have hid:=Lib.hid (hasId_iff.2 ⟨_,List.mem_of_getElem? hy,(rfl:(y1,y2,y3).1=y1)⟩)
     have HMr:=Lib.hid ((HM.out.below hbr).below (below_a wr (.cells #[.int .i64 y1,.int .i64 y2] 90)))
     have z0:=cell_nw wr #[.int .i64 y1,.int .i64 y2] 90 0 _ rfl
     have z1:=cell_nw wr #[.int .i64 y1,.int .i64 y2] 90 1 _ rfl
     have hba:=Below.allocS hbr (.cells #[.int .i64 y1,.int .i64 y2] 90)
     have hk0:(0:Int)≤(j:Int):=by omega
     have hkn:(j:Int)<(k:Int):=by omega
     rw [← hlag] at e1 e2 e3 e4
     clear hy hyl hB hlag hbr
     simp only at hm e3 e4
     go_wp2_with fail
     generalize wr.alloc (.cells #[.int .i64 y1,.int .i64 y2] 90)=wa at *
     refine (Lag_fn p g bm cap L k y1 wa HMr.out (WalkArith.wf_i64 (by omega))).mono ?_
     rintro e w5 ⟨rfl,hb5⟩
     rw [hid.out]
     replace z0:=cell_later hb5 z0
     replace z1:=cell_later hb5 z1
     have HM5:=Lib.hid (HMr.out.below hb5)
     have hba5:=Below.step hba hb5
     clear hba hb5
     generalize lagR L y1=own at *
     have hmx:0≤max own (-own)∧max own (-own)≤2199023255552:=by omega
     have b1:=mul_bounds (b:=leastW l) (B:=65536) hmx.1 hmx.2 (by omega) n1
     have b2:=mul_bounds (a:=q) (b:=y2) (A:=4096) (B:=65536) n2 n3 (by omega) hy2
     have b3:=mul_bounds (a:=q*y2) (b:=sumW L) (A:=268435456) (B:=67108864) b2.1 (by omega) (by omega) hw4
     have b4:=mul_bounds (a:=2*y2) (b:=sumW L) (A:=131072) (B:=67108864) (by omega) (by omega) (by omega) hw4
     have b5:=mul_bounds (a:=2*y2*sumW L / 1048576+1) (b:=leastW l) (A:=8388609) (B:=65536) (by omega) (by omega) (by omega) n1
     have hcmp:max own (-own)*leastW l≤q*y2*sumW L+(2*y2*sumW L / 1048576+1)*leastW l:=by
      rcases Int.lt_or_le own 0 with h | h
      ·rw [(max_neg own).2 h];exact e4
      ·rw [(max_neg own).1 h];exact e3
     have E0:IntKind.i64.wrap (-own)=-own:=i64_in _ (by omega)
     have E1:IntKind.i64.wrap (max own (-own)*leastW l)=max own (-own)*leastW l:=i64_in _ (by omega)
     have E2:IntKind.i64.wrap (q*y2)=q*y2:=i64_in _ (by omega)
     have E3:IntKind.i64.wrap (q*y2*sumW L)=q*y2*sumW L:=i64_in _ (by omega)
     have E5:IntKind.i64.wrap (2*y2)=2*y2:=i64_in _ (by omega)
     have E6:IntKind.i64.wrap (2*y2*sumW L)=2*y2*sumW L:=i64_in _ (by omega)
     have E7:(2*y2*sumW L).tdiv 1048576=2*y2*sumW L / 1048576:=Int.tdiv_eq_ediv_of_nonneg (by omega)
     have E8:IntKind.i64.wrap (2*y2*sumW L / 1048576)=2*y2*sumW L / 1048576:=i64_in _ (by omega)
     have E9:IntKind.i64.wrap (2*y2*sumW L / 1048576+1)=2*y2*sumW L / 1048576+1:=i64_in _ (by omega)
     have EA:IntKind.i64.wrap ((2*y2*sumW L / 1048576+1)*leastW l)=(2*y2*sumW L / 1048576+1)*leastW l:=i64_in _ (by omega)
     have EB:IntKind.i64.wrap (q*y2*sumW L+(2*y2*sumW L / 1048576+1)*leastW l)=q*y2*sumW L+(2*y2*sumW L / 1048576+1)*leastW l:=i64_in _ (by omega)
     have E4:decide (q*y2*sumW L+(2*y2*sumW L / 1048576+1)*leastW l<max own (-own)*leastW l)=false:=decide_eq_false (by omega)
     have A5:=Lib.hid fun nq=>(Weight_any p g bm cap L k (w5.drewN nq) (HM5.out.drewN nq)).mono fun e w' (h:e=_∧w5.drewN nq=w')=>(⟨h.1,h.2.symm⟩:e=_∧w'=w5.drewN nq)
     clear b1 b2 b3 b4 b5 hcmp e1 e2 e3 e4 hmx n0 n1 n2 n3 hw3 hw4 hy1 hy2 hm
     go_wp2_with fail
     go_quiet ((go_at_call 100;exact Calls.quiet_of_same (A5.out _)))
     go_wp2_with fail
     generalize hw6:w5.drewN _=w6
     have HM6:=Lib.hid (show MeterAt w6 p g bm cap L k by rw [← hw6];exact HM5.out.drewN _)
     have hcc:∀ a,w6.cell? a=w5.cell? a:=fun a=>by rw [← hw6];rfl
     rw [← hcc] at z0 z1
     have hba6:Below w.heap.size w w6:=by rw [← hw6];exact below_drewN hba5 _
     have A6:=Lib.hid fun nq=>(Weight_any p g bm cap L k (w6.drewN nq) (HM6.out.drewN nq)).mono fun e w' (h:e=_∧w6.drewN nq=w')=>(⟨h.1,h.2.symm⟩:e=_∧w'=w6.drewN nq)
     clear hw6 A5 hcc
     go_quiet ((go_at_call 100;exact Calls.quiet_of_same (A6.out _)))
     go_wp2_with fail
     go_roundw
     case rel=>exact ⟨j+1,by omega,by go_num,below_drewN hba6 _⟩
     case measure=>simp [RowKit.intOf];omega
    ·obtain rfl:j=k:=by omega
     go_wp2_with fail
     go_ret
     exact ⟨rfl,hbr⟩
end Go.Proofs.YtapnaocdehahdaaGreat
