/-
  Layer 31's statements: awake.
-/
import Derived.Test.YtapnaocdehahdaaSchO
import Derived.Test.YtapnaocdehahdaaSchEx
namespace Go.Proofs.Ytapnaocdehahdaa
open Go.RowKit Go.Maps Go.IntWalk Go.Lib
set_option linter.unusedVariables false
set_option linter.unusedSimpArgs false
theorem TaskX_at {w:World} {x:Nat} {F:List Nat} {s:SSt} (id:Int) (h:SIn w x F s) (ho:SOk s) (hid:(Lit.int .i64 id).wf=true) :
  Calls Try.prog 19 #[.pointer (some ⟨x,0,none⟩),.int .i64 id] w fun e w'=>e=.returned (.tuple #[taskV s id,.int .i64 (taskC s id)])∧Below w.heap.size w w':=h.elim fun L q=>xTask_at id q.1 ho hid
theorem built_ex (k c t g w d ti m got wk e:Int):Try.prog.built 77 [(0,.agg #[.int .u8 k,.int .i64 c,.int .i64 t,.int .i64 g,.int .i64 w,.int .i64 d,.int .i64 ti,.int .u64 m]),(1,.int .i64 got),(2,.int .i64 wk),(3,.int .i64 e)]=some #[.int .u8 k,.int .i64 c,.int .i64 t,.int .i64 g,.int .i64 w,.int .i64 d,.int .i64 ti,.int .u64 m,.int .i64 got,.int .i64 wk,.int .i64 e]:=by kernel_rfl
@[local go_sem high] theorem build_ex (k c t g w d ti m got wk e:Int) (W:World):(Instr.build 77 #[(0,.agg #[.int .u8 k,.int .i64 c,.int .i64 t,.int .i64 g,.int .i64 w,.int .i64 d,.int .i64 ti,.int .u64 m]),(1,.int .i64 got),(2,.int .i64 wk),(3,.int .i64 e)]).run Try.prog W=.ok (.agg #[.int .u8 k,.int .i64 c,.int .i64 t,.int .i64 g,.int .i64 w,.int .i64 d,.int .i64 ti,.int .u64 m,.int .i64 got,.int .i64 wk,.int .i64 e]) W:=run_build W _ _ _ (built_ex k c t g w d ti m got wk e)
set_option maxRecDepth 100000 in
set_option maxHeartbeats 8000000 in
theorem sawake_at (w:World):Calls Try.prog 11 #[] w fun e w'=>e=.returned (.bool true)∧Below w.heap.size w w':=by
 have A1:=Lib.hid fun W v (hb:Below w.heap.size w W) (hV:RecsAt encG W v exGs)=>NewX_at (base:=w) (w:=W) (C:=1) (cr:=0) hb hV right_exGs ⟨by decide,by decide⟩ ⟨by decide,by decide⟩
 have A0:=Lib.hid (Example_at w)
 go_enter Try.func11,Try.ntmps11
 go_wp2_with fail
 refine A0.out.mono ?_;clear A0;rintro e w1 ⟨v,rfl,hV,hb1⟩
 have HB1:=Lib.hid hb1
 have HV:=Lib.hid hV
 clear hb1 hV
 go_wp2_with fail
 refine (A1.out _ _ HB1.out HV.out).mono ?_;clear A1 HV;rintro e w2 ⟨x,F,rfl,hX,hb2,hF⟩
 have H2:=Lib.hid hX
 clear hX hb2 hF HB1
 go_upto_region 4 with fail
 go_cut [43,44,45] (fun s43 s44 s45 wx=>s43=.slice (some ⟨w2.heap.size,0,none⟩) 12 12∧s44=.int .i64 12∧s45=.int .i64 0∧wx=w2.alloc (.cells #[.int .u8 1,.int .i64 0,.int .i64 5,.int .i64 0,.int .i64 1024,.int .i64 0,.int .i64 0,.int .u64 1,.int .i64 0,.int .i64 1,.int .i64 0,.int .u8 1,.int .i64 0,.int .i64 6,.int .i64 1,.int .i64 1,.int .i64 0,.int .i64 0,.int .u64 1,.int .i64 0,.int .i64 2,.int .i64 0,.int .u8 6,.int .i64 0,.int .i64 0,.int .i64 0,.int .i64 0,.int .i64 0,.int .i64 0,.int .u64 0,.int .i64 5,.int .i64 1,.int .i64 0,.int .u8 5,.int .i64 0,.int .i64 0,.int .i64 0,.int .i64 0,.int .i64 0,.int .i64 1,.int .u64 0,.int .i64 5,.int .i64 1,.int .i64 0,.int .u8 6,.int .i64 0,.int .i64 0,.int .i64 0,.int .i64 0,.int .i64 0,.int .i64 0,.int .u64 0,.int .i64 6,.int .i64 2,.int .i64 0,.int .u8 5,.int .i64 0,.int .i64 0,.int .i64 0,.int .i64 0,.int .i64 0,.int .i64 1,.int .u64 0,.int .i64 6,.int .i64 2,.int .i64 0,.int .u8 6,.int .i64 0,.int .i64 0,.int .i64 0,.int .i64 0,.int .i64 0,.int .i64 0,.int .u64 0,.int .i64 5,.int .i64 1,.int .i64 0,.int .u8 3,.int .i64 0,.int .i64 0,.int .i64 0,.int .i64 0,.int .i64 0,.int .i64 0,.int .u64 0,.int .i64 5,.int .i64 1,.int .i64 0,.int .u8 6,.int .i64 0,.int .i64 0,.int .i64 0,.int .i64 0,.int .i64 0,.int .i64 0,.int .u64 0,.int .i64 6,.int .i64 2,.int .i64 0,.int .u8 5,.int .i64 0,.int .i64 0,.int .i64 0,.int .i64 0,.int .i64 0,.int .i64 2,.int .u64 0,.int .i64 6,.int .i64 2,.int .i64 0,.int .u8 2,.int .i64 0,.int .i64 5,.int .i64 0,.int .i64 0,.int .i64 0,.int .i64 0,.int .u64 0,.int .i64 0,.int .i64 1,.int .i64 0,.int .u8 9,.int .i64 0,.int .i64 6,.int .i64 0,.int .i64 0,.int .i64 1,.int .i64 0,.int .u64 0,.int .i64 0,.int .i64 0,.int .i64 300] 77))
 case first =>
  go_upto_region 5 with fail
  go_meet
  case rel=>exact ⟨rfl,rfl,rfl,rfl⟩
 case rest =>
  obtain ⟨rfl,rfl,rfl,hwc⟩:=hcut
  have hb3:Below w2.heap.size w2 wc:=by rw [hwc];exact below_a _ _
  have hR:RecsAt encX wc (.slice (some ⟨w2.heap.size,0,none⟩) 12 12) exL:=by rw [hwc];exact exL_recs w2
  have ht:w2.heap.size<wc.heap.size:=by rw [hwc];simp
  have hN:w2.heap.size∉F:=fun m=>by have:=H2.out.lt _ m;omega
  have H3:=Lib.hid (H2.out.later hb3)
  obtain ⟨b3,hb3e⟩:∃ b,b=w2.heap.size:=⟨_,rfl⟩
  rw [← hb3e] at hR ht hN ⊢
  have HR:=Lib.hid hR
  have HT:=Lib.hid ht
  have HN:=Lib.hid hN
  clear hwc hb3 H2 hb3e hR ht hN
  go_wp2_with fail
  go_loopw [45] (fun i wr=>∃ (k:Nat) (F:List Nat),k≤12∧i=.int .i64 k∧Hid (XW w x (exSt exS0 exL k) wr F)∧Hid (b3∉F)∧Hid (RecsAt encX wr (.slice (some ⟨b3,0,none⟩) 12 12) exL)∧Hid (b3<wr.heap.size)) (fun i _=>12 - (intOf i).toNat)
  case atStart=>exact ⟨0,F,Nat.zero_le _,rfl,H3,HN,HR,HT⟩
  case round =>
   clear H3 HN HR HT
   obtain ⟨k,F1,hk,rfl,hX,hN,hR,hT⟩:=hrel
   by_cases hlt:k<12
   ·have hki:(k:Int)<12:=by omega
    have z0:decide ((k:Int)<12)=true:=decide_eq_true hki
    have hkl:k<exL.length:=hlt
    obtain ⟨q1,q2⟩:=exRun_at exRun_ok k hkl
    have hwf:=ex_wf (exL[k]!) (by rw [getElem!_pos exL k hkl];exact List.getElem_mem hkl)
    have hok:=ex_ok k (by omega)
    have hok':=ex_ok (k+1) (by omega)
    have hx:exL[k]?=some exL[k]!:=by rw [getElem!_pos exL k hkl];exact List.getElem?_eq_getElem hkl
    obtain ⟨-,b,off,e0,hc⟩:=hR.out.at encX_ok hx
    cases e0
    obtain ⟨y,hy⟩:∃ y,y=exL[k]!:=⟨_,rfl⟩
    rw [← hy] at q1 q2 hwf hc
    obtain ⟨o,gt,wk,er⟩:=y
    obtain ⟨s,hs⟩:∃ s,s=exSt exS0 exL k:=⟨_,rfl⟩
    obtain ⟨s',hs'⟩:∃ s,s=exSt exS0 exL (k+1):=⟨_,rfl⟩
    have HX:=Lib.hid (show XW w x s wr F1 by rw [hs];exact hX.out)
    rw [← hs] at q1 hok
    rw [← hs'] at q1 q2 hok'
    have HS':=Lib.hid hs'
    replace q1:doR s o=(gt,er,s'):=q1
    replace q2:s'.wk=wk:=q2
    replace hwf:o.Wf:=hwf
    have HOK':=Lib.hid hok'
    have u0:wr.cell? ⟨b3,k*11+0,none⟩=some (.int .u8 o.kind):=by have:=hc 0 _ rfl;rwa [Nat.zero_add] at this
    have u1:wr.cell? ⟨b3,k*11+1,none⟩=some (.int .i64 o.cpu):=by have:=hc 1 _ rfl;rwa [Nat.zero_add] at this
    have u2:wr.cell? ⟨b3,k*11+2,none⟩=some (.int .i64 o.task):=by have:=hc 2 _ rfl;rwa [Nat.zero_add] at this
    have u3:wr.cell? ⟨b3,k*11+3,none⟩=some (.int .i64 o.group):=by have:=hc 3 _ rfl;rwa [Nat.zero_add] at this
    have u4:wr.cell? ⟨b3,k*11+4,none⟩=some (.int .i64 o.weight):=by have:=hc 4 _ rfl;rwa [Nat.zero_add] at this
    have u5:wr.cell? ⟨b3,k*11+5,none⟩=some (.int .i64 o.dst):=by have:=hc 5 _ rfl;rwa [Nat.zero_add] at this
    have u6:wr.cell? ⟨b3,k*11+6,none⟩=some (.int .i64 o.ticks):=by have:=hc 6 _ rfl;rwa [Nat.zero_add] at this
    have u7:wr.cell? ⟨b3,k*11+7,none⟩=some (.int .u64 o.mask):=by have:=hc 7 _ rfl;rwa [Nat.zero_add] at this
    have u8:wr.cell? ⟨b3,k*11+8,none⟩=some (.int .i64 gt):=by have:=hc 8 _ rfl;rwa [Nat.zero_add] at this
    have u9:wr.cell? ⟨b3,k*11+9,none⟩=some (.int .i64 wk):=by have:=hc 9 _ rfl;rwa [Nat.zero_add] at this
    have u10:wr.cell? ⟨b3,k*11+10,none⟩=some (.int .i64 er):=by have:=hc 10 _ rfl;rwa [Nat.zero_add] at this
    rw [Nat.add_zero] at u0
    obtain ⟨W4,hW4⟩:∃ W,W=wr.alloc (.cells #[.int .u8 o.kind,.int .i64 o.cpu,.int .i64 o.task,.int .i64 o.group,.int .i64 o.weight,.int .i64 o.dst,.int .i64 o.ticks,.int .u64 o.mask,.int .i64 gt,.int .i64 wk,.int .i64 er] 77):=⟨_,rfl⟩
    have y0:W4.cell? ⟨wr.heap.size,0,none⟩=some (.int .u8 o.kind):=by rw [hW4];exact cell_nw wr _ _ 0 _ rfl
    have y1:W4.cell? ⟨wr.heap.size,1,none⟩=some (.int .i64 o.cpu):=by rw [hW4];exact cell_nw wr _ _ 1 _ rfl
    have y2:W4.cell? ⟨wr.heap.size,2,none⟩=some (.int .i64 o.task):=by rw [hW4];exact cell_nw wr _ _ 2 _ rfl
    have y3:W4.cell? ⟨wr.heap.size,3,none⟩=some (.int .i64 o.group):=by rw [hW4];exact cell_nw wr _ _ 3 _ rfl
    have y4:W4.cell? ⟨wr.heap.size,4,none⟩=some (.int .i64 o.weight):=by rw [hW4];exact cell_nw wr _ _ 4 _ rfl
    have y5:W4.cell? ⟨wr.heap.size,5,none⟩=some (.int .i64 o.dst):=by rw [hW4];exact cell_nw wr _ _ 5 _ rfl
    have y6:W4.cell? ⟨wr.heap.size,6,none⟩=some (.int .i64 o.ticks):=by rw [hW4];exact cell_nw wr _ _ 6 _ rfl
    have y7:W4.cell? ⟨wr.heap.size,7,none⟩=some (.int .u64 o.mask):=by rw [hW4];exact cell_nw wr _ _ 7 _ rfl
    have y8:W4.cell? ⟨wr.heap.size,8,none⟩=some (.int .i64 gt):=by rw [hW4];exact cell_nw wr _ _ 8 _ rfl
    have y9:W4.cell? ⟨wr.heap.size,9,none⟩=some (.int .i64 wk):=by rw [hW4];exact cell_nw wr _ _ 9 _ rfl
    have y10:W4.cell? ⟨wr.heap.size,10,none⟩=some (.int .i64 er):=by rw [hW4];exact cell_nw wr _ _ 10 _ rfl
    have hb4:Below wr.heap.size wr W4:=by rw [hW4];exact below_a _ _
    have N4:=Lib.hid (show wr.heap.size∉F1 from fun m=>by have:=HX.out.lt _ m;omega)
    have L4:=Lib.hid (show wr.heap.size<W4.heap.size by rw [hW4];simp)
    have H4:=Lib.hid (HX.out.later hb4)
    have A1:=DoX_at H4.out.inn hok hwf
    rw [q1] at A1
    replace A1:=Lib.hid A1
    have HB4:=Lib.hid hb4
    have HW4:=Lib.hid hW4
    obtain ⟨b4,hb4e⟩:∃ b,b=wr.heap.size:=⟨_,rfl⟩
    rw [← hb4e] at y0 y1 y2 y3 y4 y5 y6 y7 y8 y9 y10 N4 L4
    have HB4E:=Lib.hid hb4e
    unfold encO at A1
    clear hc hx hy hs hs' q1 hwf hok hok' hW4 hb4 hb4e
    go_upto_region 7 with fail
    rw [← HW4.out,← HB4E.out]
    clear u0 u1 u2 u3 u4 u5 u6 u7 u8 u9 u10
    go_wp2_with fail
    refine A1.out.mono ?_;clear A1;rintro e w5 ⟨rfl,hA⟩
    obtain ⟨F5,h5,t5⟩:=H4.out.step hA
    have y8':=t5.cell N4.out y8
    have y9':=t5.cell N4.out y9
    have y10':=t5.cell N4.out y10
    have H5:=Lib.hid (show XW w x s' w5 F5 from h5)
    have N5:=Lib.hid (t5.off (show b3∉F1 from hN.out) (show b3<W4.heap.size from Nat.lt_of_lt_of_le hT.out HB4.out.size))
    have R5:=Lib.hid (show RecsAt encX w5 (.slice (some ⟨b3,0,none⟩) 12 12) exL by
     obtain ⟨a,cap,r1,r2,r3,r4,r5⟩:=hR.out.later HB4.out
     cases r1
     refine ⟨_,_,rfl,r2,r3,r4,r5.imp_right fun ⟨b,off,e,hcc⟩=>⟨b,off,e,fun j u hj=>?_⟩⟩
     cases e
     exact t5.cell hN.out (hcc j u hj))
    have T5:=Lib.hid (show b3<w5.heap.size from Nat.lt_of_lt_of_le (Nat.lt_of_lt_of_le hT.out HB4.out.size) t5.kept.size)
    have A2:=WorkX_at (H5.out.later (show Below w5.heap.size w5 w5.drew from (Below.refl _ _).drew)).inn HOK'.out
    rw [q2] at A2
    replace A2:=Lib.hid A2
    clear hA h5 t5 y0 y1 y2 y3 y4 y5 y6 y7 y8 y9 y10 H4 hN hR hT HX hX q2
    go_wp2_with fail
    refine startA (S:=fun w'=>Below w5.heap.size w5 w'∧w'.cell? ⟨b4,8,none⟩=some (.int .i64 gt)∧w'.cell? ⟨b4,9,none⟩=some (.int .i64 wk)∧w'.cell? ⟨b4,10,none⟩=some (.int .i64 er)) ⟨Below.refl _ _,y8',y9',y10'⟩ (held_3 (below_dr _)) (fun hS0 hHeld=>?_)
    refine takeA 0 ?_
    refine takeA 1 ?_
    refine takeA 2 ?_
    refine takeA 3 ?_
    refine takeA 4 ?_
    refine takeA 5 ?_
    refine takeA 6 ?_
    refine takeA 7 ?_
    refine takeA 8 ?_
    refine takeA 9 ?_
    refine takeA 10 ?_
    refine takeA 11 ?_
    refine takeA 13 ?_
    refine takeA 14 ?_
    refine readyA [12] (consA (fun K hK=>?_) .nil)
    go_simp
    refine A2.out.mono ?_
    rintro e w6 ⟨rfl,rfl⟩
    go_wp2_with fail
    refine outA hK kp_3 (fun hHeld12=>?_)
    clear hK K
    refine takeA 15 ?_
    refine takeA 16 ?_
    refine doneA ?_
    clear hS0 hHeld hHeld12
    have hd:=(Below.refl w5.heap.size w5).drew
    have H6:=Lib.hid (show XW w x (exSt exS0 exL (k+1)) w5.drew F5 by rw [← HS'.out];exact H5.out.later hd)
    have R6:=Lib.hid (R5.out.later hd)
    have T6:=Lib.hid (Nat.lt_of_lt_of_le T5.out hd.size)
    clear hd
    go_wp2_with fail
    go_roundw
    case rel=>exact ⟨k+1,F5,by omega,by go_num,H6,N5,R6,T6⟩
    case measure=>simp [intOf];omega
   ·obtain rfl:k=12:=by omega
    obtain ⟨t,hT5,hr5,hv5⟩:=ex_last
    have hok:=ex_ok 12 (by decide)
    have hc2:=ex_len
    have hs12:exSt exS0 exL 12=exSt exS0 exL 12:=rfl
    revert hX hT5 hr5 hv5 hok hc2
    generalize exSt exS0 exL 12=s
    intro hX hT5 hr5 hv5 hok hc2
    have A1:=TaskX_at 5 hX.out.inn hok (by decide)
    have e1:taskV s 5=encTv 5 t (ranX s 5 t):=by unfold taskV;rw [hT5];exact if_pos (by decide)
    have e2:taskC s 5=0:=by unfold taskC;rw [hT5];rfl
    rw [e1,e2] at A1
    unfold encTv at A1
    obtain ⟨xe,hxe⟩:∃ xe,xe=ranX s 5 t:=⟨_,rfl⟩
    rw [← hxe] at A1 hv5
    rw [hr5,hv5] at A1
    replace A1:=Lib.hid A1
    have A2:=Lib.hid fun w' (hb:Below wr.heap.size wr w')=>(show Calls Try.prog 10 #[.pointer (some ⟨x,0,none⟩)] w' fun e w2=>e=.returned (.int .i64 2)∧w'=w2 by
     have:=LenX_at (hX.out.later hb).inn hok
     rw [hc2] at this
     exact this)
    have HX:=Lib.hid hX.out.bel
    clear hX hT5 hr5 hv5 hok hc2 e1 e2 hxe hN hR hT hs12
    go_wp2_with fail
    refine A1.out.mono ?_;clear A1;rintro e w6 ⟨rfl,hb6⟩
    have hb7:=Below.step hb6 (below_a w6 (.cells #[.int .i64 5,.int .i64 t.g,.int .i64 t.w,.int .i64 t.cpu,.int .u64 t.mask,.bool true,.int .u64 3072,.int .u32 xe.2.1] 80))
    have A3:=Lib.hid (A2.out _ hb7)
    have HB7:=Lib.hid (Below.step HX.out hb7)
    clear hb6 hb7 A2
    go_wp2_with fail
    refine A3.out.mono ?_;clear A3;rintro e w8 ⟨rfl,rfl⟩
    go_wp2_with fail
    go_ret
    exact ⟨rfl,HB7.out⟩
end Go.Proofs.Ytapnaocdehahdaa
