/-
  Layer 25 (pick): up.
  Layer 25 (pick): a walk up the groups, and what it keeps.
  Layer 25 (pick): Charge.
  Layer 25 (pick): the map of tasks, the spots that lie aside.
-/
import Derived.Test.YtfgmglghlapbcaaGreatPkA
namespace Go.Proofs.YtfgmglghlapbcaaGreat
open Go.RowKit Go.Maps Go.IntWalk Go.Lib Go.Sort Go.Shelf
set_option linter.unusedVariables false
set_option linter.unusedSimpArgs false
attribute [local go_sem] Oper.semAt_some
def pathT (P:Nat→Nat) (g:Nat):List Nat:=if h:0<g∧P g<g then g::pathT P (P g) else []
termination_by g
decreasing_by exact h.2
theorem pathT_zero (P:Nat→Nat):pathT P 0=[]:=by rw [pathT];simp
theorem pathT_pos {P:Nat→Nat} {g:Nat} (h:0<g) (hp:P g<g):pathT P g=g::pathT P (P g):=by rw [pathT,dif_pos ⟨h,hp⟩]
theorem pathT_mem {P:Nat→Nat}:∀ (g:Nat) {x:Nat},x∈pathT P g→0<x∧x≤g∧P x<x:=by
 intro g
 induction g using Nat.strongRecOn with
 | ind g ih =>
  intro x hx
  rw [pathT] at hx
  split at hx
  ·rename_i h
   rcases List.mem_cons.1 hx with rfl | hx
   ·exact ⟨h.1,Nat.le_refl _,h.2⟩
   ·have:=ih _ h.2 hx
    omega
  ·cases hx
def KpS (S:List Nat) (A B:World):Prop:=A.heap.size≤B.heap.size∧∀ x∈S,x<A.heap.size→B.heap[x]?=A.heap[x]?
theorem KpS.t {S:List Nat} {A B C:World} (h:KpS S A B) (k:KpS S B C):KpS S A C:=
 ⟨Nat.le_trans h.1 k.1,fun x hx hl=>(k.2 x hx (Nat.lt_of_lt_of_le hl h.1)).trans (h.2 x hx hl)⟩
theorem KpS.refl (S:List Nat) (A:World):KpS S A A:=⟨Nat.le_refl _,fun _ _ _=>rfl⟩
theorem KpS.kept {S G:List Nat} {A B:World} (h:Kept G A B) (hd:∀ x∈S,x∉G):KpS S A B:=⟨h.size,fun x hx hl=>h.block x hl (hd x hx)⟩
theorem KpS.cell {S:List Nat} {A B:World} (h:KpS S A B) {b o:Nat} {v:Value} (hb:b∈S) (hc:A.cell? ⟨b,o,none⟩=some v):B.cell? ⟨b,o,none⟩=some v:=(World.cell?_of_block (w:=A) (w':=B) (a:=⟨b,o,none⟩) (h.2 b hb (lt_of_cell hc))).trans hc
theorem KpS.boxed {S:List Nat} {A B:World} (h:KpS S A B) {K:Nat} {t:TypeId} {v:Value} (hb:K∈S) (hc:Boxed A K t v):Boxed B K t v:=(h.2 K hb hc.lt).trans hc
theorem kps_b {S:List Nat} {w:World} (hS:∀ x∈S,x<w.heap.size) (W:World) (l:Nat) (o o':Obj) (hw:w.heap.size≤l) (h:W.heap[l]?=some o) (hc:o.isCells=false) (hk:o.isWalk=false):KpS S W (W.putObj l o'):=by
 have hgr:=grownBy_putObj' W l o'
 exact ⟨hgr.size,fun x hx q=>hgr.block _ q (fun e=>by cases e;have:=hS _ hx;omega)⟩
set_option maxRecDepth 100000 in
set_option maxHeartbeats 2000000 in
theorem pupF_in (n:Nat) (hn:1≤n) (l Bg Bt t bg len cap g0:Nat) (P:Nat→Nat) (hP:Befores P g0) (hg0:g0<len) (hlen:len≤1000000) (hne:Bg≠Bt) (hnt:t≠Bg) (hnb:bg≠Bg) (J Jx:List Nat→World→Prop) (hJb:BoxFree Bg J)
  (hJd:∀ s A,J s A→J s A.drew)
  (hY:∀ pre x W,J pre W→pre++[x] <+: pathT P g0→YieldAt Fence.wide (n - 1) Tryz.prog l #[.int .i64 (x:Nat),.int .i64 (P x:Nat)] W fun e W' =>
   (e=.returned (.bool true)∧J (pre++[x]) W'∧KpS [t,bg,Bg,Bt] W W')∨(e=.returned (.bool false)∧Jx (pre++[x]) W'))
  (W:World) (hBG:Boxed W Bg 3 (.int .i64 (g0:Nat))) (hBT:Boxed W Bt 29 (.pointer (some ⟨t,0,none⟩))) (hT:W.cell? ⟨t,0,none⟩=some (.slice (some ⟨bg,0,none⟩) len cap)) (hc:∀ k,k≤g0→W.cell? ⟨bg,k*2,none⟩=some (.int .i64 (P k:Nat))) (h0:J [] W) :
  CallsIn Fence.wide n Tryz.prog 91 #[.func (.yield l) #[] #[],.pointer (some ⟨Bg,0,none⟩),.pointer (some ⟨Bt,0,none⟩)] W fun e W'=>(∃ v,e=.returned v) ∧
   ((∃ ys,ys=pathT P g0∧J ys W')∨(∃ pre,pre <+: pathT P g0∧Jx pre W')):=by
 have hf:Fence.wide.fn 91:=trivial
 have hro:Fence.wide.round=none:=rfl
 have hm:Tryz.prog.follows .mixedOrders=true:=by kernel_rfl
 have HY:=Lib.hid hY
 have HC:=Lib.hid hc
 have HP:=Lib.hid hP
 have HJB:=Lib.hid hJb
 have HJD:=Lib.hid hJd
 clear hY hc hP hJb hJd
 refine callsIn_of_wp Tryz.func91 rfl hf ?_ hro
 simp only [Tryz.ntmps91,List.size_toArray,List.length_cons,List.length_nil,Nat.reduceAdd,Nat.reduceSub,Array.replicate_succ,Array.replicate_zero,List.push_toArray,List.append_toArray,List.nil_append,List.cons_append]
 gi_wp2
 gi_loopg [] g0 (fun gx wr=>∃ pre,pre++pathT P gx=pathT P g0∧gx≤g0∧J pre wr∧Boxed wr Bg 3 (.int .i64 (gx:Nat))∧Boxed wr Bt 29 (.pointer (some ⟨t,0,none⟩))∧wr.cell? ⟨t,0,none⟩=some (.slice (some ⟨bg,0,none⟩) len cap)∧(∀ k,k≤g0→wr.cell? ⟨bg,k*2,none⟩=some (.int .i64 (P k:Nat))))
 case atStart=>exact ⟨[],by simp,Nat.le_refl _,h0,hBG,hBT,hT,HC.out⟩
 case round =>
  obtain ⟨pre,hpre,hle,hJ,hbg,hbt,ct,hcc⟩:=hrel
  have HPRE:=Lib.hid hpre
  have HCC:=Lib.hid hcc
  have cg:=hbg.cell
  have cb:=hbt.cell
  by_cases hz:0<gk
  ·have hlt:=HP.out gk hz hle
   have hlen2:pre++[gk] <+: pathT P g0:=by
    rw [← hpre,pathT_pos hz hlt]
    exact ⟨_,by rw [List.append_assoc];rfl⟩
   obtain ⟨fn,tmps,assign,body,hy,hR⟩:=HY.out pre gk wr.drew (HJD.out _ _ hJ) hlen2
   have HR:=Lib.hid hR
   have HBG:=Lib.hid (show Boxed wr.drew Bg 3 (.int .i64 (gk:Nat)) from hbg)
   have HBT:=Lib.hid (show Boxed wr.drew Bt 29 (.pointer (some ⟨t,0,none⟩)) from hbt)
   have cp:=hcc gk hle
   have hk0:(0:Int)≤(gk:Int):=by omega
   have hkm:(gk:Int)<(len:Int):=by omega
   have hzi:(0:Int)<(gk:Int):=by omega
   have HLT:=Lib.hid hlt
   clear hR hbg hbt hpre hlen2 hJ hcc hBG hBT h0 hT hlt
   gi_wp2
   refine startV [10,11] (fun w'=>w'.cell? ⟨Bg,0,none⟩=some (.int .i64 (gk:Nat))∧w'.cell? ⟨Bt,0,none⟩=some (.pointer (some ⟨t,0,none⟩))∧w'.cell? ⟨t,0,none⟩=some (.slice (some ⟨bg,0,none⟩) len cap)∧w'.cell? ⟨bg,gk*2,none⟩=some (.int .i64 (P gk:Nat))) hm ⟨cg,cb,ct,cp⟩ (fun hHeld=>?_)
   refine takeV (i:=0) (v:=?vv101) hro rfl (by kernel_rfl) (fun _ _ _ h=>h) (by rfl) ?hv101 (fun _=>rfl) (by assumption) ?rv101
   case hv101=>(intro w hSw;(try dsimp only at hSw);obtain ⟨s1,s2,s3,s4⟩:=hSw;go_simp;try with_reducible rfl)
   try simp only [Act.put,List.setIfInBounds_toArray,List.set_cons_zero,List.set_cons_succ]
   refine takeV (i:=1) (v:=?vv102) hro rfl (by kernel_rfl) (fun _ _ _ h=>h) (by rfl) ?hv102 (fun _=>rfl) (by assumption) ?rv102
   case hv102=>(intro w hSw;(try dsimp only at hSw);obtain ⟨s1,s2,s3,s4⟩:=hSw;go_simp;try with_reducible rfl)
   try simp only [Act.put,List.setIfInBounds_toArray,List.set_cons_zero,List.set_cons_succ]
   refine takeV (i:=2) (v:=?vv103) hro rfl (by kernel_rfl) (fun _ _ _ h=>h) (by rfl) ?hv103 (fun _=>rfl) (by assumption) ?rv103
   case hv103=>(intro w hSw;(try dsimp only at hSw);obtain ⟨s1,s2,s3,s4⟩:=hSw;go_simp;try with_reducible rfl)
   try simp only [Act.put,List.setIfInBounds_toArray,List.set_cons_zero,List.set_cons_succ]
   refine takeV (i:=3) (v:=?vv104) hro rfl (by kernel_rfl) (fun _ _ _ h=>h) (by rfl) ?hv104 (fun _=>rfl) (by assumption) ?rv104
   case hv104=>(intro w hSw;(try dsimp only at hSw);obtain ⟨s1,s2,s3,s4⟩:=hSw;go_simp;try with_reducible rfl)
   try simp only [Act.put,List.setIfInBounds_toArray,List.set_cons_zero,List.set_cons_succ]
   refine takeV (i:=4) (v:=?vv105) hro rfl (by kernel_rfl) (fun _ _ _ h=>h) (by rfl) ?hv105 (fun _=>rfl) (by assumption) ?rv105
   case hv105=>(intro w hSw;(try dsimp only at hSw);obtain ⟨s1,s2,s3,s4⟩:=hSw;go_simp;try with_reducible rfl)
   try simp only [Act.put,List.setIfInBounds_toArray,List.set_cons_zero,List.set_cons_succ]
   refine takeV (i:=5) (v:=?vv106) hro rfl (by kernel_rfl) (fun _ _ _ h=>h) (by rfl) ?hv106 (fun _=>rfl) (by assumption) ?rv106
   case hv106=>(intro w hSw;(try dsimp only at hSw);obtain ⟨s1,s2,s3,s4⟩:=hSw;go_simp;try with_reducible rfl)
   try simp only [Act.put,List.setIfInBounds_toArray,List.set_cons_zero,List.set_cons_succ]
   refine takeV (i:=6) (v:=?vv107) hro rfl (by kernel_rfl) (fun _ _ _ h=>h) (by rfl) ?hv107 (fun _=>rfl) (by assumption) ?rv107
   case hv107=>(intro w hSw;(try dsimp only at hSw);obtain ⟨s1,s2,s3,s4⟩:=hSw;go_simp;try with_reducible rfl)
   try simp only [Act.put,List.setIfInBounds_toArray,List.set_cons_zero,List.set_cons_succ]
   refine takeV (i:=7) (v:=?vv108) hro rfl (by kernel_rfl) (fun _ _ _ h=>h) (by rfl) ?hv108 (fun _=>rfl) (by assumption) ?rv108
   case hv108=>(intro w hSw;(try dsimp only at hSw);obtain ⟨s1,s2,s3,s4⟩:=hSw;go_simp;try with_reducible rfl)
   try simp only [Act.put,List.setIfInBounds_toArray,List.set_cons_zero,List.set_cons_succ]
   refine takeV (i:=8) (v:=?vv109) hro rfl (by kernel_rfl) (fun _ _ _ h=>h) (by rfl) ?hv109 (fun _=>rfl) (by assumption) ?rv109
   case hv109=>(intro w hSw;(try dsimp only at hSw);obtain ⟨s1,s2,s3,s4⟩:=hSw;go_simp;try with_reducible rfl)
   try simp only [Act.put,List.setIfInBounds_toArray,List.set_cons_zero,List.set_cons_succ]
   refine takeV (i:=9) (v:=?vv110) hro rfl (by kernel_rfl) (fun _ _ _ h=>h) (by rfl) ?hv110 (fun _=>rfl) (by assumption) ?rv110
   case hv110=>(intro w hSw;(try dsimp only at hSw);obtain ⟨s1,s2,s3,s4⟩:=hSw;go_simp;try with_reducible rfl)
   try simp only [Act.put,List.setIfInBounds_toArray,List.set_cons_zero,List.set_cons_succ]
   refine oneV (i:=10) (by kernel_rfl) rfl (by rfl) (fun K hK=>?_)
   go_simp
   gi_wp2
   refine HR.out.mono ?_
   rintro e W3 (⟨rfl,hJ3,hk3⟩ | ⟨rfl,hJx3⟩)
   ·have HJ3:=Lib.hid hJ3
    have HBG3:=Lib.hid (hk3.boxed (by simp) HBG.out)
    have HBT3:=Lib.hid (hk3.boxed (by simp) HBT.out)
    have cg3:=HBG3.out.cell
    have fg3:=HBG3.out.frozen
    have cb3:=HBT3.out.cell
    have ct3:=hk3.cell (by simp) (cell_dr ct)
    have HCC3:=Lib.hid fun k (hk:k≤g0)=>hk3.cell (b:=bg) (by simp) (cell_dr (HCC.out k hk))
    have cp3:=HCC3.out gk hle
    have HKP:=Lib.hid hk3
    clear hJ3 hk3 cg cb ct cp hHeld
    refine hK.out _ _ ?_
    clear hK K
    refine oneV (i:=11) (by kernel_rfl) rfl (by rfl) (fun K hK=>?_)
    go_simp
    refine hK.out _ _ ?_
    clear hK K
    refine doneV (by kernel_rfl) ?_ _
    gi_wp2
    refine startV [8] (fun w'=>w'.cell? ⟨Bg,0,none⟩=some (.int .i64 (gk:Nat))∧w'.cell? ⟨Bt,0,none⟩=some (.pointer (some ⟨t,0,none⟩))∧w'.cell? ⟨t,0,none⟩=some (.slice (some ⟨bg,0,none⟩) len cap)∧w'.cell? ⟨bg,gk*2,none⟩=some (.int .i64 (P gk:Nat))) hm ⟨cg3,cb3,ct3,cp3⟩ (fun hHeld=>?_)
    refine takeV (i:=0) (v:=?vv111) hro rfl (by kernel_rfl) (fun _ _ _ h=>h) (by rfl) ?hv111 (fun _=>rfl) (by assumption) ?rv111
    case hv111=>(intro w hSw;(try dsimp only at hSw);obtain ⟨s1,s2,s3,s4⟩:=hSw;go_simp;try with_reducible rfl)
    try simp only [Act.put,List.setIfInBounds_toArray,List.set_cons_zero,List.set_cons_succ]
    refine takeV (i:=1) (v:=?vv112) hro rfl (by kernel_rfl) (fun _ _ _ h=>h) (by rfl) ?hv112 (fun _=>rfl) (by assumption) ?rv112
    case hv112=>(intro w hSw;(try dsimp only at hSw);obtain ⟨s1,s2,s3,s4⟩:=hSw;go_simp;try with_reducible rfl)
    try simp only [Act.put,List.setIfInBounds_toArray,List.set_cons_zero,List.set_cons_succ]
    refine takeV (i:=2) (v:=?vv113) hro rfl (by kernel_rfl) (fun _ _ _ h=>h) (by rfl) ?hv113 (fun _=>rfl) (by assumption) ?rv113
    case hv113=>(intro w hSw;(try dsimp only at hSw);obtain ⟨s1,s2,s3,s4⟩:=hSw;go_simp;try with_reducible rfl)
    try simp only [Act.put,List.setIfInBounds_toArray,List.set_cons_zero,List.set_cons_succ]
    refine takeV (i:=3) (v:=?vv114) hro rfl (by kernel_rfl) (fun _ _ _ h=>h) (by rfl) ?hv114 (fun _=>rfl) (by assumption) ?rv114
    case hv114=>(intro w hSw;(try dsimp only at hSw);obtain ⟨s1,s2,s3,s4⟩:=hSw;go_simp;try with_reducible rfl)
    try simp only [Act.put,List.setIfInBounds_toArray,List.set_cons_zero,List.set_cons_succ]
    refine takeV (i:=4) (v:=?vv115) hro rfl (by kernel_rfl) (fun _ _ _ h=>h) (by rfl) ?hv115 (fun _=>rfl) (by assumption) ?rv115
    case hv115=>(intro w hSw;(try dsimp only at hSw);obtain ⟨s1,s2,s3,s4⟩:=hSw;go_simp;try with_reducible rfl)
    try simp only [Act.put,List.setIfInBounds_toArray,List.set_cons_zero,List.set_cons_succ]
    refine takeV (i:=5) (v:=?vv116) hro rfl (by kernel_rfl) (fun _ _ _ h=>h) (by rfl) ?hv116 (fun _=>rfl) (by assumption) ?rv116
    case hv116=>(intro w hSw;(try dsimp only at hSw);obtain ⟨s1,s2,s3,s4⟩:=hSw;go_simp;try with_reducible rfl)
    try simp only [Act.put,List.setIfInBounds_toArray,List.set_cons_zero,List.set_cons_succ]
    refine takeV (i:=6) (v:=?vv117) hro rfl (by kernel_rfl) (fun _ _ _ h=>h) (by rfl) ?hv117 (fun _=>rfl) (by assumption) ?rv117
    case hv117=>(intro w hSw;(try dsimp only at hSw);obtain ⟨s1,s2,s3,s4⟩:=hSw;go_simp;try with_reducible rfl)
    try simp only [Act.put,List.setIfInBounds_toArray,List.set_cons_zero,List.set_cons_succ]
    refine takeV (i:=7) (v:=?vv118) hro rfl (by kernel_rfl) (fun _ _ _ h=>h) (by rfl) ?hv118 (fun _=>rfl) (by assumption) ?rv118
    case hv118=>(intro w hSw;(try dsimp only at hSw);obtain ⟨s1,s2,s3,s4⟩:=hSw;go_simp;try with_reducible rfl)
    try simp only [Act.put,List.setIfInBounds_toArray,List.set_cons_zero,List.set_cons_succ]
    refine oneV (i:=8) (by kernel_rfl) rfl (by rfl) (fun K hK=>?_)
    go_simp
    refine hK.out _ _ ?_
    clear hK K
    refine doneV (by kernel_rfl) ?_ _
    gi_wp2
    gi_roundg (P gk)
    case rel =>
     refine ⟨pre++[gk],?_,by have:=HLT.out;omega,HJD.out _ _ (HJB.out _ _ _ HJ3.out),HBG3.out.set _,boxed_set_ne HBT3.out (fun e=>hne e.symm),cell_set_ne ct3 (Or.inl hnt),fun k hk=>cell_set_ne (HCC3.out k hk) (Or.inl hnb)⟩
     rw [List.append_assoc,List.singleton_append,← pathT_pos hz HLT.out]
     exact HPRE.out
    case measure=>exact HLT.out
   ·have HJX:=Lib.hid hJx3
    have HE:=Lib.hid (show pre++[gk] <+: pathT P g0 by
     rw [← HPRE.out,pathT_pos hz HLT.out]
     exact ⟨_,by rw [List.append_assoc];rfl⟩)
    clear hJx3 cg cb ct cp hHeld
    refine hK.out _ _ ?_
    clear hK K
    refine oneV (i:=11) (by kernel_rfl) rfl (by rfl) (fun K hK=>?_)
    go_simp
    refine hK.out _ _ ?_
    clear hK K
    refine doneV (by kernel_rfl) ?_ _
    gi_wp2
    refine bodyPost_ret (results_none rfl _ _ _) rfl ?_
    exact ⟨⟨_,rfl⟩,.inr ⟨_,HE.out,HJX.out⟩⟩
  ·obtain rfl:gk=0:=by omega
   have HE:=Lib.hid (show pre=pathT P g0 by rw [← HPRE.out,pathT_zero,List.append_nil])
   have HJ:=Lib.hid hJ
   clear hz hcc hJ
   gi_wp2
   go_end0
   exact ⟨⟨_,rfl⟩,.inl ⟨_,HE.out,HJ.out⟩⟩
theorem pup_at (t:Option Addr) (g:Int) (w:World):Calls Tryz.prog 52 #[.pointer t,.int .i64 g] w fun e w'=>e=.returned (.func (.func 91) #[] #[.pointer (some ⟨w.heap.size+1,0,none⟩),.pointer (some ⟨w.heap.size,0,none⟩)])∧w'=(w.alloc (.cells #[.pointer t] 29)).alloc (.cells #[.int .i64 g] 3):=by
 go_enter Tryz.func52,Tryz.ntmps52
 go_wp2
 go_ret
 simp
theorem pup_stops (n:Nat) (hn:1≤n) (Bg Bt t bg len cap g0:Nat) (P:Nat→Nat) (hP:Befores P g0) (hg0:g0<len) (hlen:len≤1000000) (hne:Bg≠Bt) (hnt:t≠Bg) (hnb:bg≠Bg) (w:World)
  (hBG:Boxed w Bg 3 (.int .i64 (g0:Nat))) (hBT:Boxed w Bt 29 (.pointer (some ⟨t,0,none⟩))) (hT:w.cell? ⟨t,0,none⟩=some (.slice (some ⟨bg,0,none⟩) len cap)) (hc:∀ k,k≤g0→w.cell? ⟨bg,k*2,none⟩=some (.int .i64 (P k:Nat))) :
  SeqBox Fence.wide n Tryz.prog 91 #[.pointer (some ⟨Bg,0,none⟩),.pointer (some ⟨Bt,0,none⟩)] (fun x:Nat=>#[.int .i64 (x:Nat),.int .i64 (P x:Nat)]) (KpS [t,bg,Bg,Bt]) Bg (fun ys=>ys=pathT P g0) (fun pre=>pre <+: pathT P g0) w:=fun l J Jx W hW hJb _ hJd hY h0 =>
 pupF_in n hn l Bg Bt t bg len cap g0 P hP hg0 hlen hne hnt hnb J Jx hJb hJd hY W ((hW.block _ hBG.lt).trans hBG) ((hW.block _ hBT.lt).trans hBT) (cell_later hW hT) (fun k hk=>cell_later hW (hc k hk)) h0
theorem TRaw.obj {w:World} {t bg bq ba bm:Nat} {qp:Nat→Nat} {Fq:Nat→List Nat} {s:TSt} (h:TRaw w t bg bq ba bm qp Fq s):∀ b∈TF t bg bq ba bm Fq s.n,∃ x:Obj,w.heap[b]?=some x∧(x.isCells=true∨x.isWalk=true):=
 TreeIn.obj (F:=TF t bg bq ba bm Fq s.n) (t:=t) ⟨bg,bq,ba,bm,qp,Fq,h,rfl⟩
def UpS (w0:World) (X Y:List Nat) (t bg bq ba bm:Nat) (qp:Nat→Nat) (F0:List Nat) (n:Nat) (s:TSt) (W:World):Prop:=
 (∀ b∈X,b<w0.heap.size∧b∉F0)∧(∀ b∈Y,w0.heap.size≤b∧b<W.heap.size)∧s.n=n∧Kept (X++F0) w0 W∧∃ Fq,TRaw W t bg bq ba bm qp Fq s∧(∀ b∈TF t bg bq ba bm Fq n,b∈F0∨w0.heap.size≤b)∧∀ b∈Y,b∉TF t bg bq ba bm Fq n
section
variable {w0 W W':World} {X Y:List Nat} {t bg bq ba bm:Nat} {qp:Nat→Nat} {F0:List Nat} {n:Nat} {s:TSt}
theorem UpS.turn {G:List Nat} (h:UpS w0 X Y t bg bq ba bm qp F0 n s W) (hk:Kept G W W') (hG:∀ b∈G,b∈Y∨b∈X∨(w0.heap.size≤b∧∃ o:Obj,W.heap[b]?=some o∧o.isCells=false∧o.isWalk=false)):UpS w0 X Y t bg bq ba bm qp F0 n s W':=by
 obtain ⟨hX,hY,rfl,hk0,Fq,hr,hF,hYF⟩:=h
 have hd:∀ b∈TF t bg bq ba bm Fq s.n,b∉G:=fun b hb m=>by
  rcases hG b m with q | q | ⟨_,o,ho,hc,hw⟩
  ·exact hYF b q hb
  ·rcases hF b hb with e | e
   ·exact (hX b q).2 e
   ·have:=(hX b q).1;omega
  ·obtain ⟨x,h1,h2⟩:=hr.obj b hb
   rw [ho] at h1
   cases h1
   rw [hc,hw] at h2
   simp at h2
 refine ⟨hX,fun b hb=>⟨(hY b hb).1,Nat.lt_of_lt_of_le (hY b hb).2 hk.size⟩,rfl,⟨hk.os.trans hk0.os,hk.tape.trans hk0.tape,hk.output.trans hk0.output,Nat.le_trans hk0.size hk.size,fun i hi hn=>?_⟩,Fq,hr.kept hk hd,hF,hYF⟩
 refine (hk.block i (Nat.lt_of_lt_of_le hi hk0.size) fun m=>?_).trans (hk0.block i hi hn)
 rcases hG i m with q | q | ⟨q,_⟩
 ·have:=(hY i q).1;omega
 ·exact hn (List.mem_append_left _ q)
 ·omega
theorem UpS.below (h:UpS w0 X Y t bg bq ba bm qp F0 n s W) (hb:Below W.heap.size W W'):UpS w0 X Y t bg bq ba bm qp F0 n s W':=h.turn (G:=[]) (Kept.of hb) (fun _ _=>by simp at *)
theorem UpS.base (h:UpS w0 X Y t bg bq ba bm qp F0 n s W) {b o:Nat} {v:Value} (hb:b∉X) (hF:b∉F0) (hc:w0.cell? ⟨b,o,none⟩=some v):W.cell? ⟨b,o,none⟩=some v:=
 h.2.2.2.1.cellAt hc fun m=>by rcases List.mem_append.1 m with m | m;exact hb m;exact hF m
theorem UpS.baseF (h:UpS w0 X Y t bg bq ba bm qp F0 n s W) {b o:Nat} (hb:b∉X) (hF:b∉F0) (hl:b<w0.heap.size) (hc:w0.frozen? ⟨b,o,none⟩=false):W.frozen? ⟨b,o,none⟩=false:=
 h.2.2.2.1.frz hc hl fun m=>by rcases List.mem_append.1 m with m | m;exact hb m;exact hF m
theorem UpS.queue {g:Nat} (h:UpS w0 X Y t bg bq ba bm qp F0 n s W) (hg:g<n):∃ Fg,QIn W (qp g) Fg qN (s.M g) (s.fl g)∧(∀ b∈Fg,(b∈F0∨w0.heap.size≤b)∧b∉[t,bg,bq,ba,bm]∧b∉Y)∧∀ M fl W',QAfter W (qp g) Fg qN M fl W' →
  UpS w0 X Y t bg bq ba bm qp F0 n { s with M:=upd s.M g M,fl:=upd s.fl g fl } W'∧KpS (t::bg::Y) W W'∧∀ B,KeepsLoop B W W':=by
 obtain ⟨hX,hY,rfl,hk0,Fq,hr,hF,hYF⟩:=h
 refine ⟨Fq g,hr.q g hg,fun b hb=>⟨hF b (tf_queue hg hb),hr.off g hg b hb,fun m=>hYF b m (tf_queue hg hb)⟩,fun M fl W' ⟨F',hq,hs⟩=>?_⟩
 obtain ⟨hr',hs'⟩:=hr.queue hg hq hs
 have o:=hr.off g hg
 have e:∀ b∈[t,bg,bq,ba,bm],b∉Fq g:=fun b hb m=>o b m hb
 have hk:=hs.kept
 refine ⟨⟨hX,fun b hb=>⟨(hY b hb).1,Nat.lt_of_lt_of_le (hY b hb).2 hk.size⟩,rfl,⟨hk.os.trans hk0.os,hk.tape.trans hk0.tape,hk.output.trans hk0.output,Nat.le_trans hk0.size hk.size,fun i hi hn=>?_⟩,_,hr',fun b hb=>?_,fun b hb m=>?_⟩,KpS.kept hk fun x hx m=>?_,fun B=>KeepsLoop.kept hk (hr.q g hg).obj⟩
 ·refine (hk.block i (Nat.lt_of_lt_of_le hi hk0.size) fun m=>?_).trans (hk0.block i hi hn)
  rcases hF i (tf_queue hg m) with q | q
  ·exact hn (List.mem_append_right _ q)
  ·omega
 ·rcases hs'.new b hb with q | q
  ·exact hF b q
  ·exact Or.inr (Nat.le_trans hk0.size q)
 ·rcases hs'.new b m with q | q
  ·exact hYF b hb q
  ·have:=(hY b hb).2;omega
 ·simp only [List.mem_cons] at hx
  rcases hx with rfl | rfl | hx
  ·exact e _ (by simp) m
  ·exact e _ (by simp) m
  ·exact hYF x hx (tf_queue hg m)
theorem UpS.start {Fq:Nat→List Nat} (h:TRaw w0 t bg bq ba bm qp Fq s) (hB:Below w0.heap.size w0 W) (hY:∀ b∈Y,w0.heap.size≤b∧b<W.heap.size) (hX:∀ b∈X,b<w0.heap.size∧b∉TF t bg bq ba bm Fq s.n):UpS w0 X Y t bg bq ba bm qp (TF t bg bq ba bm Fq s.n) s.n s W:=
 ⟨hX,hY,rfl,Kept.of hB,Fq,h.below hB,fun b hb=>Or.inl hb,fun b hb m=>by have:=h.ltF b m;have:=(hY b hb).1;omega⟩
theorem UpS.cells (h:UpS w0 X Y t bg bq ba bm qp F0 n s W):(∃ c,W.cell? ⟨t,0,none⟩=some (.slice (some ⟨bg,0,none⟩) n c))∧(∃ c,W.cell? ⟨t,1,none⟩=some (.slice (some ⟨bq,0,none⟩) n c))∧(∃ c,W.cell? ⟨t,2,none⟩=some (.slice (some ⟨ba,0,none⟩) n c))∧W.cell? ⟨t,4,none⟩=some (.int .u64 s.cr)∧(∀ k,k<n→W.cell? ⟨bq,k,none⟩=some (.pointer (some ⟨qp k,0,none⟩))) ∧
  (∀ k,k<n→W.cell? ⟨ba,k*3,none⟩=some (.int .u64 (s.A k).1)∧W.cell? ⟨ba,k*3+1,none⟩=some (.int .u32 (s.A k).2.1)∧W.cell? ⟨ba,k*3+2,none⟩=some (.int .u32 (s.A k).2.2))∧∀ j,W.frozen? ⟨ba,j,none⟩=false:=by
 obtain ⟨_,_,rfl,_,Fq,hr,_,_⟩:=h
 exact ⟨hr.g0,hr.g1,hr.g2,hr.g4,hr.qc,hr.ac,hr.az⟩
theorem UpS.done {w:World} {F:List Nat} (h:UpS w0 X Y t bg bq ba bm qp F0 n s W) (hs:Step F w F0 w0) (hX:∀ b∈X,w.heap.size≤b):TAfter w t F s W:=by
 obtain ⟨_,hY,rfl,hk0,Fq,hr,hF,hYF⟩:=h
 have hk:=hs.kept
 refine ⟨_,⟨bg,bq,ba,bm,qp,Fq,hr,rfl⟩,⟨hk0.os.trans hk.os,hk0.tape.trans hk.tape,hk0.output.trans hk.output,Nat.le_trans hk.size hk0.size,fun i hi hn=>?_⟩,fun b hb=>?_⟩
 ·refine (hk0.block i (Nat.lt_of_lt_of_le hi hk.size) fun m=>?_).trans (hk.block i hi hn)
  rcases List.mem_append.1 m with q | q
  ·have:=hX i q;omega
  ·exact hs.off hn hi q
 ·rcases hF b hb with q | q
  ·exact hs.new b q
  ·exact Or.inr (Nat.le_trans hk.size q)
theorem UpS.fin {w:World} {F G:List Nat} (h:UpS w0 X Y t bg bq ba bm qp F0 n s W) (hs:Step F w F0 w0) (hX:∀ b∈X,w.heap.size≤b) (hk:Kept G W W') (hG:∀ b∈G,(w.heap.size≤b∧b<w0.heap.size∧b∉F0)∨(w0.heap.size≤b∧∃ o:Obj,W.heap[b]?=some o∧o.isCells=false∧o.isWalk=false)):TAfter w t F s W':=by
 have hsz:=hs.kept.size
 obtain ⟨F',hT,hS⟩:=h.done hs hX
 obtain ⟨_,hY,rfl,hk0,Fq,hr,hF,hYF⟩:=h
 have hd:∀ b∈TF t bg bq ba bm Fq s.n,b∉G:=fun b hb m=>by
  rcases hG b m with ⟨_,q,r⟩ | ⟨_,o,ho,hc,hw⟩
  ·rcases hF b hb with e | e
   ·exact r e
   ·omega
  ·obtain ⟨x,h1,h2⟩:=hr.obj b hb
   rw [ho] at h1
   cases h1
   rw [hc,hw] at h2
   simp at h2
 refine ⟨TF t bg bq ba bm Fq s.n,⟨bg,bq,ba,bm,qp,Fq,hr.kept hk hd,rfl⟩,⟨hk.os.trans hS.kept.os,hk.tape.trans hS.kept.tape,hk.output.trans hS.kept.output,Nat.le_trans hS.kept.size hk.size,fun i hi hn=>?_⟩,fun b hb=>?_⟩
 ·refine (hk.block i (Nat.lt_of_lt_of_le hi hS.kept.size) fun m=>?_).trans (hS.kept.block i hi hn)
  rcases hG i m with ⟨q,_⟩ | ⟨q,_⟩ <;> omega
 ·rcases hF b hb with q | q
  ·exact hs.new b q
  ·exact Or.inr (Nat.le_trans hsz q)
theorem putObj_kept (W:World) (l:Nat) (o:Obj):Kept [l] W (W.putObj l o):=by
 have hg:=grownBy_putObj' W l o
 exact ⟨hg.os,hg.tape,hg.output,hg.size,fun k hk hn=>hg.block k hk (fun e=>by cases e;exact hn (by simp))⟩
theorem ownLoop_up {β:Type} (f:β→TSt) {B:Nat} (hB:w0.heap.size≤B):OwnLoop B (fun x W=>UpS w0 X Y t bg bq ba bm qp F0 n (f x) W) where
 alloc:=fun o h=>h.below (below_a _ o)
 drew:=fun h=>h.below (Below.drew (Below.refl _ _))
 putObj:=fun {x W l o} o' h hl ho hc hw=>by
  have hg:=grownBy_putObj' W l o'
  have hk:Kept [l] W (W.putObj l o'):=⟨hg.os,hg.tape,hg.output,hg.size,fun k hk hn=>hg.block k hk (fun e=>by cases e;exact hn (by simp))⟩
  exact h.turn hk fun b hb=>by simp at hb;subst hb;exact .inr (.inr ⟨Nat.le_trans hB hl,o,ho,hc,hw⟩)
theorem ownLoop_upE {β:Type} (p:β→TSt→Prop) {B:Nat} (hB:w0.heap.size≤B):OwnLoop B (fun x W=>∃ sp,p x sp∧UpS w0 X Y t bg bq ba bm qp F0 n sp W) where
 alloc:=fun o ⟨sp,e,h⟩=>⟨sp,e,(ownLoop_up (β:=Unit) (fun _=>sp) hB).alloc (s:=()) o h⟩
 drew:=fun ⟨sp,e,h⟩=>⟨sp,e,(ownLoop_up (β:=Unit) (fun _=>sp) hB).drew (s:=()) h⟩
 putObj:=fun o' ⟨sp,e,h⟩ hl ho hc hw=>⟨sp,e,(ownLoop_up (β:=Unit) (fun _=>sp) hB).putObj (s:=()) o' h hl ho hc hw⟩
theorem ownLoop_boxed {β:Type} (f:β→Value) {B K:Nat} {ty:TypeId} (hK:K<B):OwnLoop B (fun x W=>Boxed W K ty (f x)):=
 OwnFrom.loop (fun s A B row hs hg hr=>hs.kept hg (fun e=>by have:=(hr _ e.symm).1;omega))
theorem UpS.put {l:Nat} {o:Obj} (h:UpS w0 X Y t bg bq ba bm qp F0 n s W) (o':Obj) (hl:w0.heap.size≤l) (ho:W.heap[l]?=some o) (hc:o.isCells=false) (hw:o.isWalk=false):UpS w0 X Y t bg bq ba bm qp F0 n s (W.putObj l o'):=
 (ownLoop_up (β:=Unit) (fun _=>s) (B:=w0.heap.size) (Nat.le_refl _)).putObj (s:=()) o' h hl ho hc hw
theorem UpS.setY {Bg:Nat} (h:UpS w0 X Y t bg bq ba bm qp F0 n s W) (hB:Bg∈Y) (v:Value):UpS w0 X Y t bg bq ba bm qp F0 n s (W.setCell ⟨Bg,0,none⟩ v):=
 h.turn (G:=[Bg]) ((Kept.refl _ _).setCell (Or.inl (by simp)) v) fun b hb=>by simp at hb;subst hb;exact .inl hB
theorem UpS.setX {b:Nat} (h:UpS w0 X Y t bg bq ba bm qp F0 n s W) (hB:b∈X) (v:Value):UpS w0 X Y t bg bq ba bm qp F0 n s (W.setCell ⟨b,0,none⟩ v):=
 h.turn (G:=[b]) ((Kept.refl _ _).setCell (Or.inl (by simp)) v) fun c hb=>by simp at hb;subst hb;exact .inr (.inl hB)
end
attribute [local go_sem] Oper.semAt_some
theorem wp_world {c:Code} {P:Program} {Q:Exit→Act→World→Prop} {a:Act} {W:World} (h:∀ W',W'=W→c.wp P Q a W'):c.wp P Q a W:=h _ rfl
theorem retColl {F:Fence} {n:Nat} {P:Program} {fn:Func} {R:Ending→World→Prop} {a:Act} {w:World} {v:Value} {D:Nat} (hd:a.defers=[{ target:=.collected D,args:=#[] }]) (hK:w.heap[D]?=some (.deferred (some [])))
  (hr:(results fn a.tmps).run P (w.putObj D (.deferred none))=.ok v (w.putObj D (.deferred none))) (hR:R (.returned v) (w.putObj D (.deferred none))):bodyPostM F n P fn R .ret a w:=by
 show LeavesInM F n P fn a.tmps R a.defers .returning w
 rw [hd]
 exact ⟨by simp,.inl ⟨_,_,rfl,run_takeDeferred hK,v,hr,hR⟩⟩
theorem wfI {x:Int} (h0:-9223372036854775808≤x) (h1:x≤9223372036854775807):(Lit.int .i64 x).wf=true:=by
 simp only [Lit.wf,Bool.and_eq_true,decide_eq_true_eq,IntKind.min,IntKind.max,IntKind.bits,IntKind.signed]
 simp
 omega
theorem RightG.par {Gs:Grps} (h:RightG Gs) {k:Nat} (hk:k<Gs.length):((parG Gs k:Nat):Int)=Gs[k]!.1∧(0<k→parG Gs k<k)∧parG Gs k≤k:=by
 by_cases hz:k=0
 ·subst hz
  unfold parG
  rw [h.root]
  simp
 ·have:=gErr_par (h.rest k (by omega) hk)
  unfold parG
  omega
theorem RightG.befores {Gs:Grps} (h:RightG Gs) {g:Nat} (hg:g<Gs.length):Befores (parG Gs) g:=fun k h0 hk=>(h.par (by omega)).2.1 h0
def chgQ (tk:Int) (s:TSt) (g:Nat) (id:Int):TSt:={ s with M:=upd s.M g (chS (decide (tkOk tk)) qN (s.M g) id (chgX tk)),fl:=upd s.fl g (chF (decide (tkOk tk)) qN (s.M g) id (chgX tk) (s.fl g)) }
def chgUp (tk:Int) (P:Nat→Nat) (s:TSt) (l:List Nat):TSt:=l.foldl (fun s own=>chgQ tk s (P own) (65536+own)) s
theorem chgUp_snoc (tk:Int) (P:Nat→Nat) (s:TSt) (l:List Nat) (x:Nat):chgUp tk P s (l++[x])=chgQ tk (chgUp tk P s l) (P x) (65536+x):=by
 unfold chgUp
 rw [List.foldl_append]
 rfl
theorem chgUp_n (tk:Int) (P:Nat→Nat) (s:TSt) (l:List Nat):(chgUp tk P s l).Gs=s.Gs:=by
 induction l generalizing s with
 | nil=>rfl
 | cons a l ih=>exact ih _
def pchgC (s:TSt) (id tk:Int):Int:=if tkOk tk then findC s id else 2
def pchgS (s:TSt) (id tk:Int):TSt:=if pchgC s id tk=0 then chgUp tk (parG s.Gs) (chgQ tk s (findG s id).toNat id) (pathT (parG s.Gs) (findG s id).toNat) else s
theorem findC_zero {s:TSt} {id:Int} (h:findC s id=0):∃ g,s.T id=some g∧findG s id=g:=by
 unfold findC at h
 unfold findG
 by_cases hn:nameV id=true
 ·rw [if_pos hn] at h ⊢
  cases ht:s.T id with
  | none=>rw [ht] at h;simp at h
  | some g=>exact ⟨g,rfl,rfl⟩
 ·rw [if_neg hn] at h
  cases h
theorem findC_one (s:TSt) (id:Int):findC s id≠1:=by
 unfold findC
 split
 ·split <;> decide
 ·decide
set_option maxRecDepth 100000 in
set_option maxHeartbeats 4000000 in
theorem pCharge_at {t:Nat} {F:List Nat} {s:TSt} (id tk:Int) (w:World) (h:TreeIn w t F s) (hid:(Lit.int .i64 id).wf=true) (htk:(Lit.int .i64 tk).wf=true) :
  Calls Tryz.prog 36 #[.pointer (some ⟨t,0,none⟩),.int .i64 id,.int .i64 tk] w (TDid w t F (.int .i64 (pchgC s id tk)) (pchgS s id tk)):=by
 have HT:=Lib.hid h
 obtain ⟨bg,bq,ba,bm,qp,Fq,hr,rfl⟩:=h
 have i:=hr.lt
 obtain ⟨W0,hW0⟩:∃ W0,W0=(w.alloc (.cells #[.pointer (some ⟨t,0,none⟩)] 29)).alloc (.cells #[.int .i64 tk] 3):=⟨_,rfl⟩
 have hB0:Below w.heap.size w W0:=by rw [hW0];exact Below.allocS (Below.allocS (Below.refl _ _) _) _
 have hsz0:W0.heap.size=w.heap.size+2:=by rw [hW0];simp
 have b0:W0.cell? ⟨w.heap.size,0,none⟩=some (.pointer (some ⟨t,0,none⟩)):=by rw [hW0];exact cell_al _ (cell_nw _ _ _ 0 _ rfl)
 have k0:W0.cell? ⟨w.heap.size+1,0,none⟩=some (.int .i64 tk):=by rw [hW0];exact cell_nwE (by simp) _ _ 0 _ rfl
 have hr0:=hr.below hB0
 have A1:=Lib.hid (pfind_at id hr0 hid)
 have HR0:=Lib.hid hr0
 have HB0:=Lib.hid hB0
 have HW0:=Lib.hid hW0
 have h1:=findC_one s id
 clear hW0 hB0 hr hr0
 by_cases hk:tkOk tk
 ·have HC:=Lib.hid (show pchgC s id tk=findC s id from if_pos hk)
  have A2:=Lib.hid fun W=>Add_ok 0 0 1 tk W (by unfold Ch.Ok;decide) hk
  have z1:(findC s id != 1)=true:=by simp [h1]
  by_cases hc:findC s id=0
  ·obtain ⟨g,hg,hfg⟩:=findC_zero hc
   obtain ⟨hg0,hg1⟩:=HR0.out.tok id g hg
   obtain ⟨gn,rfl⟩:∃ gn:Nat,g=gn:=⟨g.toNat,by omega⟩
   have hgn:gn<s.n:=by omega
   have HS:=Lib.hid (show pchgS s id tk=chgUp tk (parG s.Gs) (chgQ tk s gn id) (pathT (parG s.Gs) gn) by unfold pchgS;rw [HC.out,if_pos hc,hfg];rfl)
   have HFG:=Lib.hid hfg
   have HF0:=Lib.hid hc
   rw [HC.out,HS.out,hc]
   clear h1 hc hfg hg
   refine (callsIn_wide (n:=3)).1 ?_
   have hf:Fence.wide.fn 36:=trivial
   have hro:Fence.wide.round=none:=rfl
   refine callsIn_of_wp_marks Tryz.func36 rfl hf ?_ hro
   simp only [Tryz.ntmps36,List.size_toArray,List.length_cons,List.length_nil,Nat.reduceAdd,Nat.reduceSub,Array.replicate_succ,Array.replicate_zero,List.push_toArray,List.append_toArray,List.nil_append,List.cons_append]
   refine wpIn_wide.2 ?_
   go_wp2_with fail
   rw [← HW0.out]
   refine A1.out.mono ?_;rintro e w5 ⟨rfl,rfl⟩
   rw [HFG.out,HF0.out]
   clear z1
   go_wp2_with fail
   refine (A2.out _).mono ?_;rintro e w5 ⟨rfl,hb5⟩
   go_wp2_with fail
   refine wp_world (fun W6 hW6=>?_)
   have hb6:Below W0.heap.size W0 W6:=by rw [hW6];exact Below.allocS hb5 _
   have hr6:=HR0.out.below hb6
   have b6:=cell_later hb6 b0
   have k6:=cell_later hb6 k0
   obtain ⟨cq,q1⟩:=hr6.g1
   have q2:=hr6.qc gn hgn
   obtain ⟨bx,hbx⟩:∃ b,b=w.heap.size:=⟨_,rfl⟩
   rw [← hbx] at b6 k6 ⊢
   have HBX:=Lib.hid hbx
   have HR6:=Lib.hid hr6
   have HB6:=Lib.hid (Below.step HB0.out hb6)
   have hof:=hr6.off gn hgn
   have nt:t∉Fq gn:=fun m=>hof t m (by simp)
   have nq:bq∉Fq gn:=fun m=>hof bq m (by simp)
   have ltF:∀ b∈Fq gn,b<w.heap.size:=fun b hb=>HT.out.lt b (tf_queue hgn hb)
   have nx:bx∉Fq gn:=fun m=>by have:=ltF bx m;omega
   have nx1:bx+1∉Fq gn:=fun m=>by have:=ltF _ m;omega
   have HQ:=Lib.hid (show QIn W6.drew (qp gn) (Fq gn) qN (s.M gn) (s.fl gn) from (hr6.q gn hgn).below (Below.refl _ _).drew)
   have HID:=Lib.hid hid
   have HN:=Lib.hid hr6.pos
   clear hW6 hb6 hr6 hb5 hof ltF hbx b0 k0 hsz0
   have hS0:Kept (Fq gn) W6 W6.drew∧W6.drew.cell? ⟨bx,0,none⟩=some (.pointer (some ⟨t,0,none⟩))∧W6.drew.cell? ⟨bx+1,0,none⟩=some (.int .i64 tk)∧W6.drew.cell? ⟨t,1,none⟩=some (.slice (some ⟨bq,0,none⟩) s.n cq)∧W6.drew.cell? ⟨bq,gn,none⟩=some (.pointer (some ⟨qp gn,0,none⟩)):=⟨Kept.drew (Kept.refl _ _),cell_dr b6,cell_dr k6,cell_dr q1,cell_dr q2⟩
   refine wp_region_held_drew0 (S:=fun w'=>Kept (Fq gn) W6 w'∧w'.cell? ⟨bx,0,none⟩=some (.pointer (some ⟨t,0,none⟩))∧w'.cell? ⟨bx+1,0,none⟩=some (.int .i64 tk)∧w'.cell? ⟨t,1,none⟩=some (.slice (some ⟨bq,0,none⟩) s.n cq)∧w'.cell? ⟨bq,gn,none⟩=some (.pointer (some ⟨qp gn,0,none⟩))) (by kernel_rfl) hS0 (fun hHeld=>?_)
   refine takeA 0 ?_
   refine takeA 1 ?_
   refine takeA 2 ?_
   refine takeA 3 ?_
   refine takeA 4 ?_
   refine takeA 5 ?_
   refine takeA 6 ?_
   refine takeA 7 ?_
   refine takeA 8 ?_
   refine readyA [9] (consA (fun K hK=>?_) .nil)
   go_simp
   refine (Charge_at id tk _ HQ.out HID.out).mono ?_
   rintro e w9 ⟨rfl,hA9⟩
   obtain ⟨F9,h9,s9⟩:=hA9
   have hk9:Kept (Fq gn) W6.drew w9:=s9.kept
   go_wp2_with fail
   refine outA hK kpK_4 (fun hHeld9=>?_)
   clear hK K
   refine doneA ?_
   skip
   obtain ⟨hr9,hs9⟩:=(HR6.out.below (Below.refl W6.heap.size W6).drew).queue hgn h9 s9
   have b9:=hHeld9.2.1
   have k9:=hHeld9.2.2.1
   obtain ⟨F1,hF1⟩:∃ F1,F1=upd Fq gn F9:=⟨_,rfl⟩
   rw [← hF1] at hr9 hs9
   have HS9:=Lib.hid (show Step (TF t bg bq ba bm Fq s.n) w (TF t bg bq ba bm F1 s.n) w9 from (Step.of (HB6.out.drew)).trans hs9)
   have hr9':TRaw w9 t bg bq ba bm qp F1 (chgQ tk s gn id):=hr9
   have HR9:=Lib.hid hr9'
   have HB9:=Lib.hid b9
   have HK9:=Lib.hid k9
   have hbn:∀ b,w.heap.size≤b→b∉TF t bg bq ba bm Fq s.n:=fun b hb m=>by have:=HT.out.lt b m;omega
   have NB:=Lib.hid (show bx∉TF t bg bq ba bm F1 s.n∧bx+1∉TF t bg bq ba bm F1 s.n by
    have l0:=lt_of_cell b6
    have l1:=lt_of_cell k6
    exact ⟨fun m=>by
     rcases hs9.new _ m with q | q
     ·exact hbn _ (by have:=HBX.out;omega) q
     ·have e:W6.drew.heap.size=W6.heap.size:=rfl
      omega,fun m=>by
     rcases hs9.new _ m with q | q
     ·exact hbn _ (by have:=HBX.out;omega) q
     ·have e:W6.drew.heap.size=W6.heap.size:=rfl
      omega⟩)
   have e9:w9.heap.size=w9.heap.size:=rfl
   clear hS0 hHeld hHeld9 hk9 h9 s9 hr9 hs9 hr9' q1 q2 b6 k6 nt nq nx nx1 hbn hF1
   go_wp2_with fail
   refine (pup_at _ _ _).mono ?_;rintro e w10 ⟨rfl,rfl⟩
   go_wp2_with fail
   refine wp_world (fun W1 hW1=>?_)
   have hsz:W1.heap.size=w9.heap.size+2:=by rw [hW1];simp
   have hB1:Below w9.heap.size w9 W1:=by rw [hW1];exact Below.allocS (Below.allocS (Below.refl _ _) _) _
   have BT:Boxed W1 w9.heap.size 29 (.pointer (some ⟨t,0,none⟩)):=by rw [hW1];exact (Boxed.new _ _ _).alloc _
   have BG:Boxed W1 (w9.heap.size+1) 3 (.int .i64 (gn:Nat)):=by
    have:=Boxed.new (w9.alloc (.cells #[.pointer (some ⟨t,0,none⟩)] 29)) 3 (.int .i64 (gn:Nat))
    rw [← hW1] at this
    simpa using this
   have hr1:=HR9.out.below hB1
   obtain ⟨cg,g1⟩:=hr1.g0
   have hri:RightG s.Gs:=hr1.right
   have hgc:∀ k,k≤gn→W1.cell? ⟨bg,k*2,none⟩=some (.int .i64 (parG s.Gs k:Nat)):=fun k hk=>by
    have hkn:k<s.Gs.length:=Nat.lt_of_le_of_lt hk hgn
    rw [(hri.par hkn).1]
    exact (hr1.gc k hkn).1
   have lts:=hr1.lt
   have lt9:=HR9.out.lt
   have HRI:=Lib.hid hri
   have hU0:=UpS.start (X:=[]) (Y:=[w9.heap.size+1,w9.heap.size]) HR9.out hB1 (fun b hb=>by simp at hb;omega) (fun b hb=>by simp at hb)
   have b1:=cell_later hB1 b9
   have k1:=cell_later hB1 k9
   have lb:=lt_of_cell b9
   have lk:=lt_of_cell k9
   clear hW1
   refine wpIn_wide.1 (range_boxF (n:=3) hro (by decide) (gf:=91) (lb:=#[.pointer (some ⟨w9.heap.size+1,0,none⟩),.pointer (some ⟨w9.heap.size,0,none⟩)]) rfl trivial (enters_of Tryz.func91 (by kernel_rfl) rfl)
    (by omega) (pup_stops (3 - 1) (by decide) (w9.heap.size+1) w9.heap.size t bg s.n cg gn (parG s.Gs) (hri.befores hgn) hgn (by have:=hri.le;have:s.n=s.Gs.length:=rfl;omega) (by omega) (by omega) (by omega) W1 BG BT g1 hgc)
    (fun h k=>h.t k) (KpS.refl _) (kps_b (fun x hx=>by simp at hx;omega)) (Below.refl _ _) (fun _=>rfl)
    (fun pre W=>UpS w9 [] [w9.heap.size+1,w9.heap.size] t bg bq ba bm qp (TF t bg bq ba bm F1 s.n) s.n (chgUp tk (parG s.Gs) (chgQ tk s gn id) pre) W) (fun _ _ _=>False)
    (ownLoop_up _ (by omega)) (fun _=>ownLoop_pure _) (fun x A v h=>h.setY (by simp) v) (fun _ _ _ _ h=>h) hU0
    ?F ?assign ?body ?done ?stop)
   case assign =>
    rintro l pre x W K hI hK
    gi_wp2
    exact hK
   case body =>
    rintro l pre x W hl hlr hI hpx
    have hx:=pathT_mem gn (hpx.subset (List.mem_append_right pre (List.mem_singleton.2 rfl)))
    have hxn:x<s.n:=by omega
    have hpn:parG s.Gs x<s.n:=by omega
    have chgN:(chgUp tk (parG s.Gs) (chgQ tk s gn id) pre).n=s.n:=by unfold TSt.n;rw [chgUp_n];rfl
    have hI':=hI.below (Below.refl W.heap.size W).drew
    obtain ⟨Fp,hq,hFp,hgo⟩:=hI'.queue hpn
    have bW:=hI.base (by simp) NB.out.1 HB9.out
    have kW:=hI.base (by simp) NB.out.2 HK9.out
    obtain ⟨_,⟨cw,q1⟩,_,_,qc,_,_⟩:=hI.cells
    have q2:=qc (parG s.Gs x) hpn
    have nt:t∉Fp:=fun m=>(hFp t m).2.1 (by simp)
    have nq:bq∉Fp:=fun m=>(hFp bq m).2.1 (by simp)
    have nx:bx∉Fp:=fun m=>by
     rcases (hFp _ m).1 with q | q
     ·exact NB.out.1 q
     ·omega
    have nx1:bx+1∉Fp:=fun m=>by
     rcases (hFp _ m).1 with q | q
     ·exact NB.out.2 q
     ·omega
    have HQ:=Lib.hid hq
    have HGO:=Lib.hid hgo
    have z1:IntKind.i64.wrap (65536+(x:Int))=65536+(x:Int):=IntWalk.i64_in _ (by have:=HN.out;omega)
    have HID:=Lib.hid (show (Lit.int .i64 (65536+(x:Int))).wf=true from wfI (by omega) (by have:=HN.out;omega))
    have hpm:(parG s.Gs x:Int)<(s.n:Int):=by omega
    have HSN:=Lib.hid (chgUp_snoc tk (parG s.Gs) (chgQ tk s gn id) pre x)
    clear hI' hI hq hgo hFp qc hx hpx chgN hU0 hlr hl
    generalize chgUp tk (parG s.Gs) (chgQ tk s gn id) pre=sp at *
    generalize parG s.Gs x=px at *
    gi_wp2
    have hS0:Kept Fp W W.drew∧W.drew.cell? ⟨bx,0,none⟩=some (.pointer (some ⟨t,0,none⟩))∧W.drew.cell? ⟨bx+1,0,none⟩=some (.int .i64 tk)∧W.drew.cell? ⟨t,1,none⟩=some (.slice (some ⟨bq,0,none⟩) s.n cw)∧W.drew.cell? ⟨bq,px,none⟩=some (.pointer (some ⟨qp px,0,none⟩)):=⟨Kept.drew (Kept.refl _ _),cell_dr bW,cell_dr kW,cell_dr q1,cell_dr q2⟩
    refine wpIn_region_held_drew (by kernel_rfl) (S:=fun w'=>Kept Fp W w'∧w'.cell? ⟨bx,0,none⟩=some (.pointer (some ⟨t,0,none⟩))∧w'.cell? ⟨bx+1,0,none⟩=some (.int .i64 tk)∧w'.cell? ⟨t,1,none⟩=some (.slice (some ⟨bq,0,none⟩) s.n cw)∧w'.cell? ⟨bq,px,none⟩=some (.pointer (some ⟨qp px,0,none⟩))) (by kernel_rfl) hS0 (fun hHeld=>?_)
    refine takeA 0 ?_
    refine takeA 1 ?_
    refine takeA 2 ?_
    refine takeA 3 ?_
    refine takeA 4 ?_
    refine takeA 5 ?_
    refine takeA 6 ?_
    refine takeA 7 ?_
    refine takeA 8 ?_
    refine takeA 9 ?_
    refine readyA [10] (consA (fun K hK=>?_) .nil)
    go_simp
    refine (Charge_at (65536+(x:Int)) tk _ HQ.out HID.out).mono ?_
    rintro e w12 ⟨rfl,hA12⟩
    obtain ⟨F12,h12,s12⟩:=hA12
    have hk12:Kept Fp W.drew w12:=s12.kept
    go_wp2_with fail
    refine outA hK kpK_4 (fun hHeld10=>?_)
    clear hK K
    refine doneA ?_
    skip
    gi_wp2
    obtain ⟨u12,kp12,kl12⟩:=HGO.out _ _ _ ⟨F12,h12,s12⟩
    refine ⟨(KeepsLoop.below (Below.refl W.heap.size W).drew).trans (kl12 _),kp12,?_⟩
    dsimp only
    rw [HSN.out]
    exact u12
   case done =>
    rintro D ys W hD rfl hI hK
    go_wp2_with fail
    have hT:=(hI.put (.deferred none) (by omega) hK rfl rfl).done HS9.out (fun b hb=>by simp at hb)
    refine retColl rfl hK (results_tmp rfl _ _ _) ?_
    exact ⟨rfl,hT⟩
   case stop =>
    rintro D c pre W _ _ h _
    exact h.elim
  ·have HS:=Lib.hid (show pchgS s id tk=s by unfold pchgS;rw [HC.out,if_neg hc])
   have z2:(findC s id != 0)=true:=by simp [hc]
   rw [HC.out,HS.out]
   clear h1 hc
   go_enter Tryz.func36,Tryz.ntmps36
   go_wp2_with fail
   rw [← HW0.out]
   refine A1.out.mono ?_;rintro e w5 ⟨rfl,rfl⟩
   go_wp2_with fail
   refine (A2.out _).mono ?_;rintro e w5 ⟨rfl,hb5⟩
   go_wp2_with fail
   go_ret
   exact ⟨rfl,TAfter.same HT.out (Below.allocS (Below.step HB0.out hb5) _)⟩
 ·have HC:=Lib.hid (show pchgC s id tk=2 from if_neg hk)
  have HS:=Lib.hid (show pchgS s id tk=s by unfold pchgS;rw [HC.out];rfl)
  have A2:=Lib.hid fun W=>Add_bad 0 0 1 tk W (by unfold Ch.Fits;decide) (fun q=>hk q.2)
  have z1:(findC s id != 1)=true:=by simp [h1]
  rw [HC.out,HS.out]
  clear h1
  go_enter Tryz.func36,Tryz.ntmps36
  go_wp2_with fail
  rw [← HW0.out]
  refine A1.out.mono ?_;rintro e w5 ⟨rfl,rfl⟩
  go_wp2_with fail
  refine (A2.out _).mono ?_;rintro e w5 ⟨rfl,hb5⟩
  go_wp2_with fail
  go_ret
  exact ⟨rfl,TAfter.same HT.out (Below.allocS (Below.step HB0.out hb5) _)⟩
section
variable {w w':World} {t bg bq ba bm:Nat} {qp:Nat→Nat} {Fq:Nat→List Nat} {s:TSt}
theorem TRaw.mapped {T':Int→Option Int} {c':Nat} (h:TRaw w t bg bq ba bm qp Fq s) (hg:w.grownBy w' (some bm)) (hm:MapF w' bm T' c') (htok:∀ id g,T' id=some g→0≤g∧g<(s.n:Int)) (hkeys:∃ L:List Int,L.Nodup∧L.length=c'∧∀ id,id∈L↔T' id≠none) (htid:∀ id,T' id≠none→1≤id∧id≤65535) :
  TRaw w' t bg bq ba bm qp Fq { s with T:=T',c:=c' }∧Kept [bm] w w':=by
 have hk:Kept [bm] w w':=(Kept.refl [bm] w).grown hg (fun k e=>by cases e;exact Or.inl (by simp))
 have i:=h.lt
 have ne:=h.ne
 have e0:t∉[bm]:=by simp;omega
 have e1:bg∉[bm]:=by simp;omega
 have e2:bq∉[bm]:=by simp;omega
 have e3:ba∉[bm]:=by simp;omega
 exact ⟨{ h with
  g0:=h.g0.imp fun c q=>hk.cellAt q e0,g1:=h.g1.imp fun c q=>hk.cellAt q e0,g2:=h.g2.imp fun c q=>hk.cellAt q e0,g3:=hk.cellAt h.g3 e0,g4:=hk.cellAt h.g4 e0
  gc:=fun k hl=>⟨hk.cellAt (h.gc k hl).1 e1,hk.cellAt (h.gc k hl).2 e1⟩,gz:=fun j=>hk.frz (h.gz j) i.2.1 e1
  qc:=fun k hl=>hk.cellAt (h.qc k hl) e2,qz:=fun j=>hk.frz (h.qz j) i.2.2.1 e2
  ac:=fun k hl=>⟨hk.cellAt (h.ac k hl).1 e3,hk.cellAt (h.ac k hl).2.1 e3,hk.cellAt (h.ac k hl).2.2 e3⟩,az:=fun j=>hk.frz (h.az j) i.2.2.2.1 e3
  map:=hm
  q:=fun k hl=>(h.q k hl).kept hk fun b hb m=>by simp at m;subst m;exact h.off k hl _ hb (by simp)
  tok:=htok,keys:=hkeys,tid:=htid },hk⟩
theorem keys_put {T:Int→Option Int} {c:Nat} {id:Int} {g:Int} (h:∃ L:List Int,L.Nodup∧L.length=c∧∀ id,id∈L↔T id≠none):∃ L:List Int,L.Nodup∧L.length=putC (T id) c∧∀ j,j∈L↔setF T id (some g) j≠none:=by
 obtain ⟨L,h1,h2,h3⟩:=h
 unfold putC
 by_cases e:(T id).isSome=true
 ·rw [if_pos e]
  refine ⟨L,h1,h2,fun j=>?_⟩
  by_cases q:j=id
  ·subst q
   rw [setF_same,h3]
   exact ⟨fun _=>by simp,fun _ q=>by rw [q] at e;cases e⟩
  ·rw [setF_other _ _ q];exact h3 j
 ·rw [if_neg e]
  have en:T id=none:=by simpa using e
  refine ⟨id::L,List.nodup_cons.2 ⟨fun m=>(h3 id).1 m en,h1⟩,by rw [List.length_cons,h2],fun j=>?_⟩
  by_cases q:j=id
  ·subst q;rw [setF_same];simp
  ·rw [setF_other _ _ q,List.mem_cons]
   exact ⟨fun m=>(h3 j).1 (m.resolve_left q),fun m=>Or.inr ((h3 j).2 m)⟩
theorem keys_del {T:Int→Option Int} {c:Nat} {id:Int} (h:∃ L:List Int,L.Nodup∧L.length=c∧∀ id,id∈L↔T id≠none):∃ L:List Int,L.Nodup∧L.length=delC (T id) c∧∀ j,j∈L↔setF T id none j≠none:=by
 obtain ⟨L,h1,h2,h3⟩:=h
 unfold delC
 by_cases e:(T id).isSome=true
 ·rw [if_pos e]
  have hm:id∈L:=(h3 id).2 (fun q=>by rw [q] at e;cases e)
  refine ⟨L.erase id,h1.erase id,by rw [List.length_erase_of_mem hm,h2],fun j=>?_⟩
  by_cases q:j=id
  ·subst q
   rw [setF_same]
   exact ⟨fun m=>absurd m (by rw [h1.mem_erase_iff];simp),fun m=>absurd rfl m⟩
  ·rw [setF_other _ _ q,h1.mem_erase_iff]
   exact ⟨fun m=>(h3 j).1 m.2,fun m=>⟨q,(h3 j).2 m⟩⟩
 ·rw [if_neg e]
  have en:T id=none:=by simpa using e
  refine ⟨L,h1,h2,fun j=>?_⟩
  by_cases q:j=id
  ·subst q
   rw [setF_same,h3,en]
  ·rw [setF_other _ _ q];exact h3 j
theorem TRaw.put {id:Int} {g:Nat} (h:TRaw w t bg bq ba bm qp Fq s) (hg:w.grownBy w' (some bm)) (hm:MapF w' bm (setF s.T id (some (g:Int))) (putC (s.T id) s.c)) (hgn:g<s.n) (hid:1≤id∧id≤65535) :
  TRaw w' t bg bq ba bm qp Fq { s with T:=setF s.T id (some (g:Int)),c:=putC (s.T id) s.c }∧Kept [bm] w w':=
 h.mapped hg hm (fun j k hj=>by
  by_cases q:j=id
  ·subst q;rw [setF_same] at hj;cases hj;omega
  ·rw [setF_other _ _ q] at hj;exact h.tok j k hj) (keys_put h.keys) (fun j hj=>by
  by_cases q:j=id
  ·subst q;exact hid
  ·rw [setF_other _ _ q] at hj;exact h.tid j hj)
theorem TRaw.del {id:Int} (h:TRaw w t bg bq ba bm qp Fq s) (hg:w.grownBy w' (some bm)) (hm:MapF w' bm (setF s.T id none) (delC (s.T id) s.c)) :
  TRaw w' t bg bq ba bm qp Fq { s with T:=setF s.T id none,c:=delC (s.T id) s.c }∧Kept [bm] w w':=
 h.mapped hg hm (fun j k hj=>by
  by_cases q:j=id
  ·subst q;rw [setF_same] at hj;cases hj
  ·rw [setF_other _ _ q] at hj;exact h.tok j k hj) (keys_del h.keys) (fun j hj=>by
  by_cases q:j=id
  ·subst q;rw [setF_same] at hj;exact absurd rfl hj
  ·rw [setF_other _ _ q] at hj;exact h.tid j hj)
def set3 (w:World) (b o:Nat) (x:Ent):World:=((w.setCell ⟨b,o,none⟩ (.int .u64 x.1)).setCell ⟨b,o+1,none⟩ (.int .u32 x.2.1)).setCell ⟨b,o+2,none⟩ (.int .u32 x.2.2)
theorem set3_kept (w:World) (b o:Nat) (x:Ent):Kept [b] w (set3 w b o x):=(((Kept.refl _ _).setCell (Or.inl (by simp)) _).setCell (Or.inl (by simp)) _).setCell (Or.inl (by simp)) _
theorem TRaw.aside {k:Nat} {x:Ent} (h:TRaw w t bg bq ba bm qp Fq s) (hk:k<s.n) (hx:Ch.Fits x.1 x.2.1 x.2.2):TRaw (set3 w ba (k*3) x) t bg bq ba bm qp Fq { s with A:=upd s.A k x }:=by
 have hkp:=set3_kept w ba (k*3) x
 have i:=h.lt
 have ne:=h.ne
 have e0:t∉[ba]:=by simp;omega
 have e1:bg∉[ba]:=by simp;omega
 have e2:bq∉[ba]:=by simp;omega
 have e4:bm∉[ba]:=by simp;omega
 exact { h with
  g0:=h.g0.imp fun c q=>hkp.cellAt q e0,g1:=h.g1.imp fun c q=>hkp.cellAt q e0,g2:=h.g2.imp fun c q=>hkp.cellAt q e0,g3:=hkp.cellAt h.g3 e0,g4:=hkp.cellAt h.g4 e0
  gc:=fun k hl=>⟨hkp.cellAt (h.gc k hl).1 e1,hkp.cellAt (h.gc k hl).2 e1⟩,gz:=fun j=>hkp.frz (h.gz j) i.2.1 e1
  qc:=fun k hl=>hkp.cellAt (h.qc k hl) e2,qz:=fun j=>hkp.frz (h.qz j) i.2.2.1 e2
  ac:=fun j hl=>by
   obtain ⟨c0,c1,c2⟩:=h.ac j hl
   by_cases q:j=k
   ·subst q
    simp only [upd_same]
    exact ⟨cell_set_ne (cell_set_ne (cell_set_eq c0) (Or.inr (by omega))) (Or.inr (by omega)),cell_set_ne (cell_set_eq (cell_set_ne c1 (Or.inr (by omega)))) (Or.inr (by omega)),cell_set_eq (cell_set_ne (cell_set_ne c2 (Or.inr (by omega))) (Or.inr (by omega)))⟩
   ·simp only [upd_other _ _ q]
    exact ⟨cell_set_ne (cell_set_ne (cell_set_ne c0 (Or.inr (by omega))) (Or.inr (by omega))) (Or.inr (by omega)),cell_set_ne (cell_set_ne (cell_set_ne c1 (Or.inr (by omega))) (Or.inr (by omega))) (Or.inr (by omega)),cell_set_ne (cell_set_ne (cell_set_ne c2 (Or.inr (by omega))) (Or.inr (by omega))) (Or.inr (by omega))⟩
  az:=fun j=>by unfold set3;rw [World.frozen?_setCell,World.frozen?_setCell,World.frozen?_setCell];exact h.az j
  map:=h.map.kept hkp e4
  q:=fun k hl=>(h.q k hl).kept hkp fun b hb m=>by simp at m;subst m;exact h.off k hl _ hb (by simp)
  aok:=fun j hl=>by
   by_cases q:j=k
   ·subst q;simp only [upd_same];exact hx
   ·simp only [upd_other _ _ q];exact h.aok j hl }
end
section
variable {w0 W W':World} {X Y:List Nat} {t bg bq ba bm:Nat} {qp:Nat→Nat} {F0:List Nat} {n:Nat} {s:TSt}
theorem UpS.aside {k:Nat} {x:Ent} (h:UpS w0 X Y t bg bq ba bm qp F0 n s W) (hk:k<n) (hx:Ch.Fits x.1 x.2.1 x.2.2):UpS w0 X Y t bg bq ba bm qp F0 n { s with A:=upd s.A k x } (set3 W ba (k*3) x)∧KpS (t::bg::Y) W (set3 W ba (k*3) x)∧∀ B,KeepsLoop B W (set3 W ba (k*3) x):=by
 obtain ⟨hX,hY,rfl,hk0,Fq,hr,hF,hYF⟩:=h
 have hkp:=set3_kept W ba (k*3) x
 have ne:=hr.ne
 refine ⟨⟨hX,fun b hb=>⟨(hY b hb).1,Nat.lt_of_lt_of_le (hY b hb).2 hkp.size⟩,rfl,⟨hkp.os.trans hk0.os,hkp.tape.trans hk0.tape,hkp.output.trans hk0.output,Nat.le_trans hk0.size hkp.size,fun i hi hn=>?_⟩,Fq,hr.aside hk hx,hF,hYF⟩,KpS.kept hkp fun y hy m=>?_,fun B=>KeepsLoop.kept hkp fun b hb=>?_⟩
 ·refine (hkp.block i (Nat.lt_of_lt_of_le hi hk0.size) fun m=>?_).trans (hk0.block i hi hn)
  simp at m
  subst m
  rcases hF i (tf_own (by simp)) with q | q
  ·exact hn (List.mem_append_right _ q)
  ·omega
 ·simp at m
  subst m
  simp only [List.mem_cons] at hy
  rcases hy with q | q | q
  ·omega
  ·omega
  ·exact hYF _ q (tf_own (by simp))
 ·simp at hb
  subst hb
  exact cells_not (hr.ac 0 hr.pos.1).1
end
attribute [local go_sem] Oper.semAt_some
def lvQ (s:TSt) (g:Nat) (id:Int):TSt:={ s with M:=upd s.M g (leaveM qN (s.M g) id),fl:=upd s.fl g (leaveF qN (s.M g) id (s.fl g)) }
def lvA (s:TSt) (own p:Nat):TSt:={ lvQ s p (65536+own) with A:=upd s.A own (leaveE qN (s.M p) (65536+own)) }
def lvStep (P:Nat→Nat) (q:TSt×Bool) (own:Nat):TSt×Bool:=if q.2 then q else if (q.1.M own).isEmpty then (lvA q.1 own (P own),false) else (q.1,true)
def lvUp (P:Nat→Nat) (s:TSt) (l:List Nat):TSt×Bool:=l.foldl (lvStep P) (s,false)
theorem lvUp_snoc (P:Nat→Nat) (s:TSt) (l:List Nat) (x:Nat):lvUp P s (l++[x])=lvStep P (lvUp P s l) x:=by
 unfold lvUp
 rw [List.foldl_append]
 rfl
theorem lv_stop (P:Nat→Nat) (s:TSt) (l:List Nat):l.foldl (lvStep P) (s,true)=(s,true):=by
 induction l with
 | nil=>rfl
 | cons a l ih=>exact ih
theorem lvUp_pre {P:Nat→Nat} {s s':TSt} {pre l:List Nat} (hp:pre <+: l) (h:lvUp P s pre=(s',true)):lvUp P s l=(s',true):=by
 obtain ⟨r,rfl⟩:=hp
 unfold lvUp at h ⊢
 rw [List.foldl_append,h]
 exact lv_stop P s' r
def plvX (s:TSt) (id:Int):Ent:=if findC s id=0 then leaveE qN (s.M (findG s id).toNat) id else (0,0,0)
def lvT (s:TSt) (id:Int):TSt:={ s with T:=setF s.T id none,c:=delC (s.T id) s.c }
def plvS (s:TSt) (id:Int):TSt:=if findC s id=0 then (lvUp (parG s.Gs) (lvT (lvQ s (findG s id).toNat id) id) (pathT (parG s.Gs) (findG s id).toNat)).1 else s
theorem leaveE_fits {w:World} {q:Nat} {F:List Nat} {n:Int} {M:Mems} {fl:Int} (h:QIn w q F n M fl) (id:Int):Ch.Fits (leaveE n M id).1 (leaveE n M id).2.1 (leaveE n M id).2.2:=by
 unfold leaveE
 split
 ·cases hm:entM M id with
  | none=>unfold Ch.Fits;simp
  | some x =>
   have:=h.ids.1.ok _ ((ent_some h.ids.1.nod).1 hm)
   exact Ch.Ok.fits this
 ·unfold Ch.Fits;simp
set_option maxRecDepth 100000 in
set_option maxHeartbeats 4000000 in
theorem pLeave_at {t:Nat} {F:List Nat} {s:TSt} (id:Int) (w:World) (h:TreeIn w t F s) (hid:(Lit.int .i64 id).wf=true) :
  Calls Tryz.prog 18 #[.pointer (some ⟨t,0,none⟩),.int .i64 id] w (TDid w t F (.tuple #[.agg #[.int .u64 (plvX s id).1,.int .u32 (plvX s id).2.1,.int .u32 (plvX s id).2.2],.int .i64 (findC s id)]) (plvS s id)):=by
 have HT:=Lib.hid h
 obtain ⟨bg,bq,ba,bm,qp,Fq,hr,rfl⟩:=h
 have i:=hr.lt
 obtain ⟨W0,hW0⟩:∃ W0,W0=(w.alloc (.cells #[.pointer (some ⟨t,0,none⟩)] 29)).alloc (.cells #[.int .u64 0,.int .u32 0,.int .u32 0] 40):=⟨_,rfl⟩
 have hB0:Below w.heap.size w W0:=by rw [hW0];exact Below.allocS (Below.allocS (Below.refl _ _) _) _
 have hsz0:W0.heap.size=w.heap.size+2:=by rw [hW0];simp
 have b0:W0.cell? ⟨w.heap.size,0,none⟩=some (.pointer (some ⟨t,0,none⟩)):=by rw [hW0];exact cell_al _ (cell_nw _ _ _ 0 _ rfl)
 have z0:W0.cell? ⟨w.heap.size+1,0,none⟩=some (.int .u64 0):=by rw [hW0];exact cell_nwE (by simp) _ _ 0 _ rfl
 have z1:W0.cell? ⟨w.heap.size+1,1,none⟩=some (.int .u32 0):=by rw [hW0];exact cell_nwE (by simp) _ _ 1 _ rfl
 have z2:W0.cell? ⟨w.heap.size+1,2,none⟩=some (.int .u32 0):=by rw [hW0];exact cell_nwE (by simp) _ _ 2 _ rfl
 have f0:∀ j,W0.frozen? ⟨w.heap.size+1,j,none⟩=false:=fun j=>by rw [hW0];exact frz_nwE (by simp) _ _ j
 have hr0:=hr.below hB0
 have A1:=Lib.hid (pfind_at id hr0 hid)
 have HR0:=Lib.hid hr0
 have HB0:=Lib.hid hB0
 have HW0:=Lib.hid hW0
 clear hW0 hB0 hr hr0
 by_cases hc:findC s id=0
 ·obtain ⟨g,hg,hfg⟩:=findC_zero hc
  obtain ⟨hg0,hg1⟩:=HR0.out.tok id g hg
  obtain ⟨gn,rfl⟩:∃ gn:Nat,g=gn:=⟨g.toNat,by omega⟩
  have hgn:gn<s.n:=by omega
  have HS:=Lib.hid (show plvS s id=(lvUp (parG s.Gs) (lvT (lvQ s gn id) id) (pathT (parG s.Gs) gn)).1 by unfold plvS;rw [if_pos hc,hfg];rfl)
  have HX:=Lib.hid (show plvX s id=leaveE qN (s.M gn) id by unfold plvX;rw [if_pos hc,hfg];rfl)
  have HFG:=Lib.hid hfg
  have HF0:=Lib.hid hc
  have HTG:=Lib.hid hg
  rw [HS.out,HX.out,hc]
  clear hc hfg hg
  have hof:=HR0.out.off gn hgn
  have ltF:∀ b∈Fq gn,b<w.heap.size:=fun b hb=>HT.out.lt b (tf_queue hgn hb)
  have nx:w.heap.size∉Fq gn:=fun m=>by have:=ltF _ m;omega
  have nx1:w.heap.size+1∉Fq gn:=fun m=>by have:=ltF _ m;omega
  have HQ:=Lib.hid (HR0.out.q gn hgn)
  obtain ⟨cq,q1⟩:=HR0.out.g1
  have q2:=HR0.out.qc gn hgn
  have HLE:=Lib.hid (leaveE_fits HQ.out id)
  obtain ⟨x,hx⟩:∃ x,x=leaveE qN (s.M gn) id:=⟨_,rfl⟩
  have HN:=Lib.hid HR0.out.pos
  have HX0:=Lib.hid hx
  refine (callsIn_wide (n:=3)).1 ?_
  have hf:Fence.wide.fn 18:=trivial
  have hro:Fence.wide.round=none:=rfl
  rw [← hx]
  clear hof ltF hx
  refine callsIn_of_wp_marks Tryz.func18 rfl hf ?_ hro
  simp only [Tryz.ntmps18,List.size_toArray,List.length_cons,List.length_nil,Nat.reduceAdd,Nat.reduceSub,Array.replicate_succ,Array.replicate_zero,List.push_toArray,List.append_toArray,List.nil_append,List.cons_append]
  refine wpIn_wide.2 ?_
  go_wp2_with fail
  rw [← HW0.out]
  refine A1.out.mono ?_;rintro e w5 ⟨rfl,rfl⟩
  rw [HFG.out,HF0.out]
  go_wp2_with fail
  have A2:=Leave_at id W0 HQ.out hid
  rw [← HX0.out] at A2
  refine A2.mono ?_;rintro e w5 ⟨rfl,hA5⟩
  clear A2
  obtain ⟨F5,h5,s5⟩:=hA5
  obtain ⟨hr5,hs5⟩:=HR0.out.queue hgn h5 s5
  replace b0:=s5.cell nx b0
  replace z0:=s5.cell nx1 z0
  replace z1:=s5.cell nx1 z1
  replace z2:=s5.cell nx1 z2
  have l1:=lt_of_cell z0
  replace f0:=fun j=>s5.kept.frz (f0 j) (by omega) nx1
  have g3:=hr5.g3
  have lt5:=h5.lt
  have H5:=Lib.hid (show w.heap.size∉F5∧w.heap.size+1∉F5∧w5.heap.size∉F5 from ⟨s5.off nx (by omega),s5.off nx1 (by omega),fun m=>by have:=lt5 _ m;omega⟩)
  clear lt5
  have HR5:=Lib.hid hr5
  have HS5:=Lib.hid ((Step.of (F:=TF t bg bq ba bm Fq s.n) HB0.out).trans hs5)
  clear h5 s5 hr5 hs5 q1 q2
  have hr6:=HR5.out.below (below_a w5 (.cells #[.int .u64 x.1,.int .u32 x.2.1,.int .u32 x.2.2] 40))
  have b6:=cell_al (.cells #[.int .u64 x.1,.int .u32 x.2.1,.int .u32 x.2.2] 40) b0
  have g6:=hr6.g3
  have l5:w.heap.size+2≤w5.heap.size:=by omega
  obtain ⟨w7,hrun,hm7,hg7⟩:=hr6.map.del hid 0
  obtain ⟨hr7,hk7⟩:=hr6.del hg7 hm7
  have nbm:bm<w.heap.size:=i.2.2.2.2
  have m0:∀ b,w.heap.size≤b→b∉[bm]:=fun b hb m=>by simp at m;omega
  have b7:=hk7.cellAt b6 (m0 _ (Nat.le_refl _))
  have B7:=Lib.hid b7
  have Z7:=Lib.hid (show w7.cell? ⟨w.heap.size+1,0,none⟩=some (.int .u64 0)∧w7.cell? ⟨w.heap.size+1,1,none⟩=some (.int .u32 0)∧w7.cell? ⟨w.heap.size+1,2,none⟩=some (.int .u32 0) from ⟨hk7.cellAt (cell_al _ z0) (m0 _ (by omega)),hk7.cellAt (cell_al _ z1) (m0 _ (by omega)),hk7.cellAt (cell_al _ z2) (m0 _ (by omega))⟩)
  have Y7:=Lib.hid (show w7.cell? ⟨w5.heap.size,0,none⟩=some (.int .u64 x.1)∧w7.cell? ⟨w5.heap.size,1,none⟩=some (.int .u32 x.2.1)∧w7.cell? ⟨w5.heap.size,2,none⟩=some (.int .u32 x.2.2) from ⟨hk7.cellAt (cell_nw w5 _ _ 0 _ rfl) (m0 _ (by omega)),hk7.cellAt (cell_nw w5 _ _ 1 _ rfl) (m0 _ (by omega)),hk7.cellAt (cell_nw w5 _ _ 2 _ rfl) (m0 _ (by omega))⟩)
  have FZ7:=Lib.hid (show ∀ j,w7.frozen? ⟨w.heap.size+1,j,none⟩=false from fun j=>hk7.frz (frz_later (below_a w5 _) (f0 j) (by omega)) (by simp;omega) (m0 _ (by omega)))
  have HR7:=Lib.hid (show TRaw w7 t bg bq ba bm qp (upd Fq gn F5) (lvT (lvQ s gn id) id) from hr7)
  have HS7:=Lib.hid (show Step (TF t bg bq ba bm Fq s.n) w (TF t bg bq ba bm (upd Fq gn F5) s.n) w7 from HS5.out.trans ((Step.of (below_a w5 _)).trans (Step.inn hk7 (fun b hb=>by simp at hb;subst hb;exact tf_own (by simp)))))
  have l7:=hk7.size
  have L7:=Lib.hid (show w5.heap.size<w7.heap.size by simp at l7;omega)
  clear hr6 hm7 hg7 hr7 hk7 b0 z0 z1 z2 f0 l7 g3 nbm m0
  go_wp2_with fail
  refine (pup_at _ _ _).mono ?_;rintro e w10 ⟨rfl,rfl⟩
  go_wp2_with fail
  refine wp_world (fun W1 hW1=>?_)
  have hsz:W1.heap.size=w7.heap.size+2:=by rw [hW1];simp
  have hB1:Below w7.heap.size w7 W1:=by rw [hW1];exact Below.allocS (Below.allocS (Below.refl _ _) _) _
  have BT:Boxed W1 w7.heap.size 29 (.pointer (some ⟨t,0,none⟩)):=by rw [hW1];exact (Boxed.new _ _ _).alloc _
  have BG:Boxed W1 (w7.heap.size+1) 3 (.int .i64 (gn:Nat)):=by
   have:=Boxed.new (w7.alloc (.cells #[.pointer (some ⟨t,0,none⟩)] 29)) 3 (.int .i64 (gn:Nat))
   rw [← hW1] at this
   simpa using this
  have hr1:=HR7.out.below hB1
  obtain ⟨cg,g1⟩:=hr1.g0
  have hri:RightG s.Gs:=hr1.right
  have hgc:∀ k,k≤gn→W1.cell? ⟨bg,k*2,none⟩=some (.int .i64 (parG s.Gs k:Nat)):=fun k hk=>by
   have hkn:k<s.Gs.length:=Nat.lt_of_le_of_lt hk hgn
   rw [(hri.par hkn).1]
   exact (hr1.gc k hkn).1
  have lts:=hr1.lt
  have lt9:=HR7.out.lt
  have HRI:=Lib.hid hri
  have hU0:UpS w7 [] [w7.heap.size+1,w7.heap.size] t bg bq ba bm qp (TF t bg bq ba bm (upd Fq gn F5) s.n) s.n (lvT (lvQ s gn id) id) W1:=UpS.start (X:=[]) (Y:=[w7.heap.size+1,w7.heap.size]) HR7.out hB1 (fun b hb=>by simp at hb;omega) (fun b hb=>by simp at hb)
  have lb:=lt_of_cell b7
  have hne:=hr1.ne
  have hbf:∀ b,w.heap.size≤b→b<w5.heap.size+1→b∉F5→b∉TF t bg bq ba bm (upd Fq gn F5) s.n:=fun b h0 h1 h5 m=>by
   rcases tf_mem m with q | ⟨k,hk,q⟩
   ·simp only [List.mem_cons,List.not_mem_nil,or_false] at q;omega
   ·by_cases e:k=gn
    ·subst e;rw [upd_same] at q;exact h5 q
    ·rw [upd_other _ _ e] at q
     have:=HT.out.lt b (tf_queue hk q)
     omega
  have hbn:=hbf w.heap.size (by omega) (by omega) H5.out.1
  have hbz:=hbf (w.heap.size+1) (by omega) (by omega) H5.out.2.1
  have hby:=hbf w5.heap.size (by omega) (by omega) H5.out.2.2
  clear hbf
  obtain ⟨s7,hs7⟩:∃ s7,s7=lvT (lvQ s gn id) id:=⟨_,rfl⟩
  rw [← hs7] at hU0 ⊢
  have e7:s7.Gs=s.Gs:=by rw [hs7];rfl
  have HL7:=Lib.hid hs7
  clear hW1 hs7 hr1
  refine wpIn_wide.1 (range_boxF (n:=3) hro (by decide) (gf:=91) (lb:=#[.pointer (some ⟨w7.heap.size+1,0,none⟩),.pointer (some ⟨w7.heap.size,0,none⟩)]) rfl trivial (enters_of Tryz.func91 (by kernel_rfl) rfl)
   (by omega) (pup_stops (3 - 1) (by decide) (w7.heap.size+1) w7.heap.size t bg s.n cg gn (parG s.Gs) (hri.befores hgn) hgn (by have:=hri.le;have:s.n=s.Gs.length:=rfl;omega) (by omega) (by omega) (by omega) W1 BG BT g1 hgc)
   (fun h k=>h.t k) (KpS.refl _) (kps_b (fun x hx=>by simp at hx;omega)) (Below.refl _ _) (fun _=>rfl)
   (fun pre W=>∃ sp,lvUp (parG s.Gs) s7 pre=(sp,false)∧UpS w7 [] [w7.heap.size+1,w7.heap.size] t bg bq ba bm qp (TF t bg bq ba bm (upd Fq gn F5) s.n) s.n sp W)
   (fun c pre W=>∃ sp,(c=.exit 0∧lvUp (parG s.Gs) s7 pre=(sp,true))∧UpS w7 [] [w7.heap.size+1,w7.heap.size] t bg bq ba bm qp (TF t bg bq ba bm (upd Fq gn F5) s.n) s.n sp W)
   (ownLoop_upE (fun pre sp=>lvUp (parG s.Gs) s7 pre=(sp,false)) (by omega)) (fun c=>ownLoop_upE (fun pre sp=>c=.exit 0∧lvUp (parG s.Gs) s7 pre=(sp,true)) (by omega)) (fun x A v ⟨sp,e,h⟩=>⟨sp,e,h.setY (by simp) v⟩) (fun c x A v ⟨sp,e,h⟩=>⟨sp,e,h.setY (by simp) v⟩) ⟨_,rfl,hU0⟩
   ?F ?assign ?body ?done ?stop)
  case assign =>
   rintro l pre x W K hI hK
   gi_wp2
   exact hK
  case body =>
   rintro l pre x W hl hlr ⟨sp,hsp,hI⟩ hpx
   have hx:=pathT_mem gn (hpx.subset (List.mem_append_right pre (List.mem_singleton.2 rfl)))
   have hxn:x<s.n:=by omega
   have hpn:parG s.Gs x<s.n:=by omega
   have HSN:=Lib.hid (lvUp_snoc (parG s.Gs) s7 pre x)
   obtain ⟨_,⟨cw,q1⟩,⟨ca,q3⟩,_,qc,_,faz⟩:=hI.cells
   have q2:=qc x hxn
   have q4:=qc _ hpn
   have bW:=hI.base (by simp) hbn B7.out
   obtain ⟨Fx,hqx,_,_⟩:=hI.queue hxn
   have hxm:(x:Int)<(s.n:Int):=by omega
   have A9':=Len_at' W hqx
   clear hqx
   by_cases hm:(sp.M x).isEmpty=true
   ·rw [List.isEmpty_iff.1 hm] at A9'
    have A9:=Lib.hid (show Calls Tryz.prog 43 #[.pointer (some ⟨qp x,0,none⟩)] W fun e w'=>e=.returned (.int .i64 0)∧W=w' from A9')
    clear A9'
    gi_wp2
    refine ⟨trivial,callsIn_round (A9.out.mono ?_)⟩;rintro e w5 ⟨rfl,rfl⟩
    gi_wp2
    have hI':=hI.below (Below.refl W.heap.size W).drew
    obtain ⟨Fp,hq,hFp,hgo⟩:=hI'.queue hpn
    have nt:t∉ba::Fp:=fun m=>by
     rcases List.mem_cons.1 m with q | q
     ·exact hne.2.2.1 q
     ·exact (hFp t q).2.1 (by simp)
    have nq:bq∉ba::Fp:=fun m=>by
     rcases List.mem_cons.1 m with q | q
     ·exact hne.2.2.2.2.2.2.2.1 q
     ·exact (hFp bq q).2.1 (by simp)
    have nx:w.heap.size∉ba::Fp:=fun m=>by
     rcases List.mem_cons.1 m with q | q
     ·omega
     ·rcases (hFp _ q).1 with q | q
      ·exact hbn q
      ·omega
    have nba:ba∉Fp:=fun m=>(hFp ba m).2.1 (by simp)
    have fa0:=faz (x*3)
    have fa1:=faz (x*3+1)
    have fa2:=faz (x*3+2)
    have HQ:=Lib.hid hq
    have HGO:=Lib.hid hgo
    have z1:IntKind.i64.wrap (65536+(x:Int))=65536+(x:Int):=IntWalk.i64_in _ (by have:=HN.out;omega)
    have HID:=Lib.hid (show (Lit.int .i64 (65536+(x:Int))).wf=true from wfI (by omega) (by have:=HN.out;omega))
    have hpm:(parG s.Gs x:Int)<(s.n:Int):=by omega
    have HAC:=Lib.hid (hI.cells.2.2.2.2.2.1 x hxn)
    have HXN:=Lib.hid hxn
    have HM:=Lib.hid (show lvUp (parG s.Gs) s7 (pre++[x])=(lvA sp x (parG s.Gs x),false) by rw [HSN.out,hsp];unfold lvStep;rw [if_neg (by simp),if_pos hm])
    have HFE:=Lib.hid (leaveE_fits hq (65536+(x:Int)))
    clear hI' hI hq hgo hFp qc hx hpx hU0 hlr hl faz hm hsp A9
    generalize parG s.Gs x=px at *
    have hS0:Kept (ba::Fp) W W.drew∧W.drew.cell? ⟨w.heap.size,0,none⟩=some (.pointer (some ⟨t,0,none⟩))∧W.drew.cell? ⟨t,2,none⟩=some (.slice (some ⟨ba,0,none⟩) s.n ca)∧W.drew.cell? ⟨t,1,none⟩=some (.slice (some ⟨bq,0,none⟩) s.n cw)∧W.drew.cell? ⟨bq,px,none⟩=some (.pointer (some ⟨qp px,0,none⟩)):=⟨Kept.drew (Kept.refl _ _),cell_dr bW,cell_dr q3,cell_dr q1,cell_dr q4⟩
    refine wpIn_region_held_drew (by kernel_rfl) (S:=fun w'=>Kept (ba::Fp) W w'∧w'.cell? ⟨w.heap.size,0,none⟩=some (.pointer (some ⟨t,0,none⟩))∧w'.cell? ⟨t,2,none⟩=some (.slice (some ⟨ba,0,none⟩) s.n ca)∧w'.cell? ⟨t,1,none⟩=some (.slice (some ⟨bq,0,none⟩) s.n cw)∧w'.cell? ⟨bq,px,none⟩=some (.pointer (some ⟨qp px,0,none⟩))) (by kernel_rfl) hS0 (fun hHeld=>?_)
    refine takeA 0 ?_
    refine takeA 1 ?_
    refine takeA 2 ?_
    refine takeA 3 ?_
    refine takeA 4 ?_
    refine takeA 5 ?_
    refine takeA 6 ?_
    refine takeA 7 ?_
    refine takeA 8 ?_
    refine takeA 9 ?_
    refine takeA 10 ?_
    refine takeA 11 ?_
    refine takeA 12 ?_
    refine takeA 13 ?_
    refine readyA [14] (consA (fun K hK=>?_) .nil)
    go_simp
    refine (Leave_at (65536+(x:Int)) _ HQ.out HID.out).mono ?_
    rintro e w12 ⟨rfl,hA12⟩
    obtain ⟨F12,h12,s12⟩:=hA12
    have hk12:Kept (ba::Fp) W.drew w12:=s12.kept.mono (fun b hb=>List.mem_cons_of_mem _ hb)
    have e0:=s12.cell nba (cell_dr HAC.out.1)
    have e1:=s12.cell nba (cell_dr HAC.out.2.1)
    have e2:=s12.cell nba (cell_dr HAC.out.2.2)
    have lba:ba<W.drew.heap.size:=lt_of_cell (cell_dr HAC.out.1)
    have fz0:=s12.kept.frz (show W.drew.frozen? ⟨ba,x*3,none⟩=false from fa0) lba nba
    have fz1:=s12.kept.frz (show W.drew.frozen? ⟨ba,x*3+1,none⟩=false from fa1) lba nba
    have fz2:=s12.kept.frz (show W.drew.frozen? ⟨ba,x*3+2,none⟩=false from fa2) lba nba
    generalize hle:leaveE qN (sp.M px) (65536+(x:Int))=xe at *
    go_wp2_with fail
    refine outA hK kpK_4 (fun hHeld14=>?_)
    clear hK K
    refine takeA 15 ?_
    refine takeA 16 ?_
    refine takeA 17 ?_
    refine takeA 18 ?_
    refine readyA [19] (consA (fun K hK=>?_) .nil)
    go_simp
    have hk19:=(set3_kept w12 ba (x*3) xe).mono (T:=ba::Fp) (fun b hb=>by simp at hb;subst hb;simp)
    unfold set3 at hk19
    refine outA hK kpK_4 (fun hHeld19=>?_)
    clear hK K
    refine doneA ?_
    skip
    gi_wp2
    obtain ⟨u12,kp12,kl12⟩:=HGO.out _ _ _ ⟨F12,h12,s12⟩
    subst hle
    obtain ⟨u13,kp13,kl13⟩:=u12.aside HXN.out HFE.out
    exact ⟨((KeepsLoop.below (Below.refl W.heap.size W).drew).trans (kl12 _)).trans (kl13 _),KpS.t kp12 kp13,_,HM.out,u13⟩
   ·obtain ⟨m,hm0⟩:∃ m,m=(sp.M x).length:=⟨_,rfl⟩
    have hm1:0<m:=by
     rw [hm0]
     exact List.length_pos_iff.2 (fun e=>hm (by rw [e];rfl))
    rw [← hm0] at A9'
    have A9:=Lib.hid A9'
    have y9:decide ((m:Int) > 0)=true:=decide_eq_true (by omega)
    have HM:=Lib.hid (show lvUp (parG s.Gs) s7 (pre++[x])=(sp,true) by rw [HSN.out,hsp];unfold lvStep;rw [if_neg (by simp),if_neg hm])
    clear A9' hm0 hm
    gi_wp2
    refine ⟨trivial,callsIn_round (A9.out.mono ?_)⟩;rintro e w5 ⟨rfl,rfl⟩
    gi_wp2
    exact ⟨KeepsLoop.refl _ _,sp,⟨rfl,HM.out⟩,hI⟩
  case done =>
   rintro D ys W hD rfl ⟨sp,hsp,hI⟩ hK
   have z0:=hI.base (by simp) hbz Z7.out.1
   have z1:=hI.base (by simp) hbz Z7.out.2.1
   have z2:=hI.base (by simp) hbz Z7.out.2.2
   have y0:=hI.base (by simp) hby Y7.out.1
   have y1:=hI.base (by simp) hby Y7.out.2.1
   have y2:=hI.base (by simp) hby Y7.out.2.2
   have l7:w.heap.size+1<w7.heap.size:=by have:=L7.out;omega
   have fz0:=hI.baseF (by simp) hbz l7 (FZ7.out 0)
   have fz1:=hI.baseF (by simp) hbz l7 (FZ7.out 1)
   have fz2:=hI.baseF (by simp) hbz l7 (FZ7.out 2)
   gi_wp2
   go_wp2_with fail
   rw [show (lvUp (parG s.Gs) (lvT (lvQ s gn id) id) (pathT (parG s.Gs) gn)).1=sp by rw [← HL7.out,hsp]]
   have hDn:w.heap.size+1≠D:=by omega
   have hpk:=putObj_kept (((W.setCell ⟨w.heap.size+1,0,none⟩ (.int .u64 x.1)).setCell ⟨w.heap.size+1,1,none⟩ (.int .u32 x.2.1)).setCell ⟨w.heap.size+1,2,none⟩ (.int .u32 x.2.2)) D (.deferred none)
   have r0:=hpk.cellAt (cell_set_ne (cell_set_ne (cell_set_eq z0) (Or.inr (by omega))) (Or.inr (by omega))) (by simpa using hDn)
   have r1:=hpk.cellAt (cell_set_ne (cell_set_eq (cell_set_ne z1 (Or.inr (by omega)))) (Or.inr (by omega))) (by simpa using hDn)
   have r2:=hpk.cellAt (cell_set_eq (cell_set_ne (cell_set_ne z2 (Or.inr (by omega))) (Or.inr (by omega)))) (by simpa using hDn)
   refine retColl (D:=D) (v:=.tuple #[.agg #[.int .u64 x.1,.int .u32 x.2.1,.int .u32 x.2.2],.int .i64 0]) rfl ?_ (by simp [results,Tryz.results18,go_sem,r0,r1,r2]) ⟨rfl,?_⟩
   ·exact (heap_set_ne (Ne.symm hDn)).trans ((heap_set_ne (Ne.symm hDn)).trans ((heap_set_ne (Ne.symm hDn)).trans hK))
   ·refine hI.fin (G:=[w.heap.size+1,D]) HS7.out (fun b hb=>by simp at hb) (Kept.trans (Kept.mono ((((Kept.refl [w.heap.size+1] W).setCell (Or.inl (by simp)) _).setCell (Or.inl (by simp)) _).setCell (Or.inl (by simp)) _) (fun b hb=>by simp at hb;subst hb;simp)) (hpk.mono (fun b hb=>by simp at hb;subst hb;simp))) (fun b hb=>?_)
    simp only [List.mem_cons,List.not_mem_nil,or_false] at hb
    rcases hb with rfl | rfl
    ·exact .inl ⟨by omega,l7,hbz⟩
    ·exact .inr ⟨by omega,_,hK,rfl,rfl⟩
  case stop =>
   rintro D c pre W hD hpx ⟨sp,⟨rfl,hsp⟩,hI⟩ hK
   have hsp:=lvUp_pre hpx hsp
   have z0:=hI.base (by simp) hbz Z7.out.1
   have z1:=hI.base (by simp) hbz Z7.out.2.1
   have z2:=hI.base (by simp) hbz Z7.out.2.2
   have y0:=hI.base (by simp) hby Y7.out.1
   have y1:=hI.base (by simp) hby Y7.out.2.1
   have y2:=hI.base (by simp) hby Y7.out.2.2
   have l7:w.heap.size+1<w7.heap.size:=by have:=L7.out;omega
   have fz0:=hI.baseF (by simp) hbz l7 (FZ7.out 0)
   have fz1:=hI.baseF (by simp) hbz l7 (FZ7.out 1)
   have fz2:=hI.baseF (by simp) hbz l7 (FZ7.out 2)
   gi_wp2
   go_wp2_with fail
   rw [show (lvUp (parG s.Gs) (lvT (lvQ s gn id) id) (pathT (parG s.Gs) gn)).1=sp by rw [← HL7.out,hsp]]
   have hDn:w.heap.size+1≠D:=by omega
   have hpk:=putObj_kept (((W.setCell ⟨w.heap.size+1,0,none⟩ (.int .u64 x.1)).setCell ⟨w.heap.size+1,1,none⟩ (.int .u32 x.2.1)).setCell ⟨w.heap.size+1,2,none⟩ (.int .u32 x.2.2)) D (.deferred none)
   have r0:=hpk.cellAt (cell_set_ne (cell_set_ne (cell_set_eq z0) (Or.inr (by omega))) (Or.inr (by omega))) (by simpa using hDn)
   have r1:=hpk.cellAt (cell_set_ne (cell_set_eq (cell_set_ne z1 (Or.inr (by omega)))) (Or.inr (by omega))) (by simpa using hDn)
   have r2:=hpk.cellAt (cell_set_eq (cell_set_ne (cell_set_ne z2 (Or.inr (by omega))) (Or.inr (by omega)))) (by simpa using hDn)
   refine retColl (D:=D) (v:=.tuple #[.agg #[.int .u64 x.1,.int .u32 x.2.1,.int .u32 x.2.2],.int .i64 0]) rfl ?_ (by simp [results,Tryz.results18,go_sem,r0,r1,r2]) ⟨rfl,?_⟩
   ·exact (heap_set_ne (Ne.symm hDn)).trans ((heap_set_ne (Ne.symm hDn)).trans ((heap_set_ne (Ne.symm hDn)).trans hK))
   ·refine hI.fin (G:=[w.heap.size+1,D]) HS7.out (fun b hb=>by simp at hb) (Kept.trans (Kept.mono ((((Kept.refl [w.heap.size+1] W).setCell (Or.inl (by simp)) _).setCell (Or.inl (by simp)) _).setCell (Or.inl (by simp)) _) (fun b hb=>by simp at hb;subst hb;simp)) (hpk.mono (fun b hb=>by simp at hb;subst hb;simp))) (fun b hb=>?_)
    simp only [List.mem_cons,List.not_mem_nil,or_false] at hb
    rcases hb with rfl | rfl
    ·exact .inl ⟨by omega,l7,hbz⟩
    ·exact .inr ⟨by omega,_,hK,rfl,rfl⟩
 ·have HS:=Lib.hid (show plvS s id=s by unfold plvS;rw [if_neg hc])
  have HX:=Lib.hid (show plvX s id=(0,0,0) by unfold plvX;rw [if_neg hc])
  have y1:(findC s id != 0)=true:=by simp [hc]
  rw [HS.out,HX.out]
  clear hc
  go_enter Tryz.func18,Tryz.ntmps18
  go_wp2_with fail
  rw [← HW0.out]
  refine A1.out.mono ?_;rintro e w5 ⟨rfl,rfl⟩
  have fa:=f0 0
  have fb:=f0 1
  have fc:=f0 2
  go_wp2_with fail
  refine bodyPost_ret (v:=.tuple #[.agg #[.int .u64 0,.int .u32 0,.int .u32 0],.int .i64 (findC s id)]) (by simp [results,Tryz.results18,go_sem, *]) rfl ⟨rfl,TAfter.same HT.out ?_⟩
  exact ((HB0.out.setCell (by simp) _).setCell (by simp) _).setCell (by simp) _
theorem SpawnF_at (fl k:Int) (bk:Nat) (w:World) (hf:0≤fl∧fl≤18446744073709551615) (hk:(Lit.int .i64 k).wf=true) (c:w.cell? ⟨bk,0,none⟩=some (.int .i64 k)) :
  Calls Tryz.prog 72 #[.int .u64 fl,.pointer (some ⟨bk,0,none⟩)] w (PlP w (newX fl k) (newC k)):=by
 have A1:=Lib.hid fun W=>plNew_at fl k W hf hk
 have c1:=cell_al (.cells #[.int .u64 0,.int .u32 0,.int .u32 0] 40) c
 generalize newX fl k=x at *
 generalize newC k=cc at *
 clear hf hk
 go_enter Tryz.func72,Tryz.ntmps72
 go_wp2_with fail
 refine (A1.out _).mono ?_;rintro e w5 ⟨rfl,hb5⟩
 have z0:w5.cell? ⟨w.heap.size,0,none⟩=some (.int .u64 0):=cell_later hb5 (cell_nw w #[.int .u64 0,.int .u32 0,.int .u32 0] 40 0 _ rfl)
 have f0:w5.frozen? ⟨w.heap.size,0,none⟩=false:=frz_later hb5 (frz_nw w #[.int .u64 0,.int .u32 0,.int .u32 0] 40 0) (by simp)
 have z1:w5.cell? ⟨w.heap.size,1,none⟩=some (.int .u32 0):=cell_later hb5 (cell_nw w #[.int .u64 0,.int .u32 0,.int .u32 0] 40 1 _ rfl)
 have f1:w5.frozen? ⟨w.heap.size,1,none⟩=false:=frz_later hb5 (frz_nw w #[.int .u64 0,.int .u32 0,.int .u32 0] 40 1) (by simp)
 have z2:w5.cell? ⟨w.heap.size,2,none⟩=some (.int .u32 0):=cell_later hb5 (cell_nw w #[.int .u64 0,.int .u32 0,.int .u32 0] 40 2 _ rfl)
 have f2:w5.frozen? ⟨w.heap.size,2,none⟩=false:=frz_later hb5 (frz_nw w #[.int .u64 0,.int .u32 0,.int .u32 0] 40 2) (by simp)
 have HB5:=Lib.hid (Below.step (below_a w (.cells #[.int .u64 0,.int .u32 0,.int .u32 0] 40)) hb5)
 clear hb5
 go_wp2_with fail
 refine bodyPost_ret (v:=.tuple #[.agg #[.int .u64 (x).1,.int .u32 (x).2.1,.int .u32 (x).2.2],.int .i64 cc]) (by simp [results,Tryz.results72,go_sem,z0,z1,z2,f0,f1,f2]) rfl ⟨rfl,?_⟩
 exact ((HB5.out.setCell (by simp) _).setCell (by simp) _).setCell (by simp) _
def comeX (x:Ent):Ent:=if Ch.Ok x.1 x.2.1 x.2.2 then x else (0,0,0)
def comeC (x:Ent):Int:=if Ch.Ok x.1 x.2.1 x.2.2 then 0 else 2
theorem add_nothing {v r c:Int} (h:Ch.Ok v r c):Ch.addV v r c 0=v∧Ch.addR v r c 0=r:=by
 unfold Ch.Ok at h
 have e:(0*1048576+r) / c=0:=by rw [Int.zero_mul,Int.zero_add];exact Int.ediv_eq_zero_of_lt (by omega) (by omega)
 have m:(0*1048576+r) % c=r:=by rw [Int.zero_mul,Int.zero_add];exact Int.emod_eq_of_lt (by omega) (by omega)
 unfold Ch.addV Ch.addR Ch.atEnd
 simp only [e,m]
 by_cases q:18446744073709551615 - v≤0
 ·rw [if_pos q,if_pos q];omega
 ·rw [if_neg q,if_neg q];omega
theorem Come_any (v r c:Int) (w:World) (hx:Ch.Fits v r c):Calls Tryz.prog 49 #[.agg #[.int .u64 v,.int .u32 r,.int .u32 c],.int .i64 0] w (PlP w (comeX (v,r,c)) (comeC (v,r,c))):=by
 unfold comeX comeC
 by_cases h:Ch.Ok v r c
 ·rw [if_pos h,if_pos h]
  have:=Add_ok v r c 0 w h (by decide)
  rw [(add_nothing h).1,(add_nothing h).2] at this
  exact this
 ·rw [if_neg h,if_neg h]
  exact Add_bad v r c 0 w hx (fun q=>h q.1)
theorem ComeF_at (fl v r k:Int) (bx:Nat) (w:World) (hx:Ch.Fits v r k) (c0:w.cell? ⟨bx,0,none⟩=some (.int .u64 v)) (c1:w.cell? ⟨bx,1,none⟩=some (.int .u32 r)) (c2:w.cell? ⟨bx,2,none⟩=some (.int .u32 k)) :
  Calls Tryz.prog 48 #[.int .u64 fl,.pointer (some ⟨bx,0,none⟩)] w (PlP w (comeX (v,r,k)) (comeC (v,r,k))):=by
 have A1:=Lib.hid fun W=>Come_any v r k W hx
 have d0:=cell_al (.cells #[.int .u64 0,.int .u32 0,.int .u32 0] 40) c0
 have d1:=cell_al (.cells #[.int .u64 0,.int .u32 0,.int .u32 0] 40) c1
 have d2:=cell_al (.cells #[.int .u64 0,.int .u32 0,.int .u32 0] 40) c2
 generalize comeX (v,r,k)=x at *
 generalize comeC (v,r,k)=cc at *
 clear hx
 go_enter Tryz.func48,Tryz.ntmps48
 go_wp2_with fail
 refine (A1.out _).mono ?_;rintro e w5 ⟨rfl,hb5⟩
 have z0:w5.cell? ⟨w.heap.size,0,none⟩=some (.int .u64 0):=cell_later hb5 (cell_nw w #[.int .u64 0,.int .u32 0,.int .u32 0] 40 0 _ rfl)
 have f0:w5.frozen? ⟨w.heap.size,0,none⟩=false:=frz_later hb5 (frz_nw w #[.int .u64 0,.int .u32 0,.int .u32 0] 40 0) (by simp)
 have z1:w5.cell? ⟨w.heap.size,1,none⟩=some (.int .u32 0):=cell_later hb5 (cell_nw w #[.int .u64 0,.int .u32 0,.int .u32 0] 40 1 _ rfl)
 have f1:w5.frozen? ⟨w.heap.size,1,none⟩=false:=frz_later hb5 (frz_nw w #[.int .u64 0,.int .u32 0,.int .u32 0] 40 1) (by simp)
 have z2:w5.cell? ⟨w.heap.size,2,none⟩=some (.int .u32 0):=cell_later hb5 (cell_nw w #[.int .u64 0,.int .u32 0,.int .u32 0] 40 2 _ rfl)
 have f2:w5.frozen? ⟨w.heap.size,2,none⟩=false:=frz_later hb5 (frz_nw w #[.int .u64 0,.int .u32 0,.int .u32 0] 40 2) (by simp)
 have HB5:=Lib.hid (Below.step (below_a w (.cells #[.int .u64 0,.int .u32 0,.int .u32 0] 40)) hb5)
 clear hb5
 go_wp2_with fail
 refine bodyPost_ret (v:=.tuple #[.agg #[.int .u64 (x).1,.int .u32 (x).2.1,.int .u32 (x).2.2],.int .i64 cc]) (by simp [results,Tryz.results48,go_sem,z0,z1,z2,f0,f1,f2]) rfl ⟨rfl,?_⟩
 exact ((HB5.out.setCell (by simp) _).setCell (by simp) _).setCell (by simp) _
set_option maxRecDepth 100000 in
theorem WakeF_at {t:Nat} {F:List Nat} {s:TSt} (fl v r k:Int) (bx bt:Nat) (w:World) (h:TreeIn w t F s) (hx:Ch.Fits v r k) (hf:0≤fl∧fl≤18446744073709551615) (c0:w.cell? ⟨bx,0,none⟩=some (.int .u64 v)) (c1:w.cell? ⟨bx,1,none⟩=some (.int .u32 r)) (c2:w.cell? ⟨bx,2,none⟩=some (.int .u32 k))
  (ct:w.cell? ⟨bt,0,none⟩=some (.pointer (some ⟨t,0,none⟩))) :
  Calls Tryz.prog 74 #[.int .u64 fl,.pointer (some ⟨bx,0,none⟩),.pointer (some ⟨bt,0,none⟩)] w (PlP w (wokenX (v,r,k) fl s.cr) (wokenC (v,r,k))):=by
 obtain ⟨bg,bq,ba,bm,qp,Fq,hr,rfl⟩:=h
 have A1:=Lib.hid fun W=>plWoken_at v r k fl s.cr W hx hf hr.cr0
 obtain ⟨W0,hW0⟩:∃ W0,W0=w.alloc (.cells #[.int .u64 0,.int .u32 0,.int .u32 0] 40):=⟨_,rfl⟩
 have hB0:Below w.heap.size w W0:=by rw [hW0];exact below_a _ _
 have d0:=cell_later hB0 c0
 have d1:=cell_later hB0 c1
 have d2:=cell_later hB0 c2
 have dt:=cell_later hB0 ct
 have d4:=cell_later hB0 hr.g4
 have y0:W0.cell? ⟨w.heap.size,0,none⟩=some (.int .u64 0):=by rw [hW0];exact cell_nw _ _ _ 0 _ rfl
 have y1:W0.cell? ⟨w.heap.size,1,none⟩=some (.int .u32 0):=by rw [hW0];exact cell_nw _ _ _ 1 _ rfl
 have y2:W0.cell? ⟨w.heap.size,2,none⟩=some (.int .u32 0):=by rw [hW0];exact cell_nw _ _ _ 2 _ rfl
 have yf:∀ j,W0.frozen? ⟨w.heap.size,j,none⟩=false:=fun j=>by rw [hW0];exact frz_nw _ _ _ j
 generalize wokenX (v,r,k) fl s.cr=x at *
 generalize wokenC (v,r,k)=cc at *
 have HW0:=Lib.hid hW0
 have HB0:=Lib.hid hB0
 have YF:=Lib.hid yf
 have nx:bx∉[w.heap.size]:=by have:=lt_of_cell c0;simp;omega
 have nb:bt∉[w.heap.size]:=by have:=lt_of_cell ct;simp;omega
 have nt:t∉[w.heap.size]:=by have:=hr.lt;simp;omega
 clear hx hf hr hW0 hB0 c0 c1 c2 ct yf
 go_enter Tryz.func74,Tryz.ntmps74
 go_wp2_with fail
 rw [← HW0.out]
 refine startA (S:=fun w'=>Kept [w.heap.size] W0 w'∧w'.cell? ⟨bx,0,none⟩=some (.int .u64 v)∧w'.cell? ⟨bx,1,none⟩=some (.int .u32 r)∧w'.cell? ⟨bx,2,none⟩=some (.int .u32 k)∧w'.cell? ⟨bt,0,none⟩=some (.pointer (some ⟨t,0,none⟩))∧w'.cell? ⟨t,4,none⟩=some (.int .u64 s.cr)) ⟨Kept.refl _ _,d0,d1,d2,dt,d4⟩ (fun h=>heldK_5 (kept_dr _ _) h) (fun hS0 hHeld=>?_)
 refine takeA 0 ?_
 refine takeA 1 ?_
 refine takeA 2 ?_
 refine takeA 3 ?_
 refine takeA 4 ?_
 refine takeA 5 ?_
 refine readyA [6] (consA (fun K hK=>?_) .nil)
 go_simp
 refine (A1.out _).mono ?_
 rintro e w5 ⟨rfl,hb5⟩
 have hk5:Kept [w.heap.size] W0.drew w5:=Kept.of hb5
 have lw:=lt_of_cell y0
 have z0:=cell_later hb5 (cell_dr y0)
 have z1:=cell_later hb5 (cell_dr y1)
 have z2:=cell_later hb5 (cell_dr y2)
 have f0:=frz_later hb5 (show W0.drew.frozen? ⟨w.heap.size,0,none⟩=false from YF.out 0) lw
 have f1:=frz_later hb5 (show W0.drew.frozen? ⟨w.heap.size,1,none⟩=false from YF.out 1) lw
 have f2:=frz_later hb5 (show W0.drew.frozen? ⟨w.heap.size,2,none⟩=false from YF.out 2) lw
 have HB5:=Lib.hid (Below.step (HB0.out.drew) hb5)
 go_wp2_with fail
 refine outA hK kpK_5 (fun hHeld6=>?_)
 clear hK K
 refine takeA 7 ?_
 refine takeA 8 ?_
 refine readyA [9] (consA (fun K hK=>?_) .nil)
 go_simp
 have hk9:=(((Kept.refl [w.heap.size] w5).setCell (p:=⟨w.heap.size,0,none⟩) (Or.inl (by simp)) (.int .u64 x.1)).setCell (p:=⟨w.heap.size,1,none⟩) (Or.inl (by simp)) (.int .u32 x.2.1)).setCell (p:=⟨w.heap.size,2,none⟩) (Or.inl (by simp)) (.int .u32 x.2.2)
 refine outA hK kpK_5 (fun hHeld9=>?_)
 clear hK K
 refine takeA 10 ?_
 refine doneA ?_
 skip
 go_wp2_with fail
 refine bodyPost_ret (v:=.tuple #[.agg #[.int .u64 (x).1,.int .u32 (x).2.1,.int .u32 (x).2.2],.int .i64 cc]) (by simp [results,Tryz.results74,go_sem,z0,z1,z2,f0,f1,f2]) rfl ⟨rfl,?_⟩
 exact ((HB5.out.setCell (by simp) _).setCell (by simp) _).setCell (by simp) _
end Go.Proofs.YtfgmglghlapbcaaGreat
