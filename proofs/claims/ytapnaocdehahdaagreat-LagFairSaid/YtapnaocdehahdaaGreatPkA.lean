/-
  Layer 19 (group): a group and all above it (up), depth.
-/
import Derived.Test.YtapnaocdehahdaaGreatQuB
import Derived.Test.YtapnaocdehahdaaGreatKtB
import Derived.RangeFuncCalls
import Derived.RangeFuncLeaves
import Derived.Shelf.RegionOpen
import Derived.OwnWalkIn
import Derived.TacticsInMore
import Derived.LoopIn
import Derived.Sort.LoopGhostIn
import Derived.Stop.RegionWithIn
namespace Go.Proofs.YtapnaocdehahdaaGreat
open Go.RowKit Go.Maps Go.IntWalk Go.Lib Go.Sort Go.Shelf
set_option linter.unusedVariables false
set_option linter.unusedSimpArgs false
attribute [local go_sem] Oper.semAt_some
def upL (P:Nat→Nat) (g:Nat):List Nat:=g::if h:0<g∧P g<g then upL P (P g) else []
termination_by g
decreasing_by exact h.2
theorem upL_zero (P:Nat→Nat):upL P 0=[0]:=by rw [upL];simp
theorem upL_pos {P:Nat→Nat} {g:Nat} (h:0<g) (hp:P g<g):upL P g=g::upL P (P g):=by rw [upL,dif_pos ⟨h,hp⟩]
theorem upL_len {P:Nat→Nat}:∀ g,(upL P g).length≤g+1:=by
 intro g
 induction g using Nat.strongRecOn with
 | ind g ih =>
  rw [upL]
  split
  ·rename_i h
   have:=ih _ h.2
   rw [List.length_cons]
   omega
  ·simp
def Befores (P:Nat→Nat) (g:Nat):Prop:=∀ h,0<h→h≤g→P h<h
def KpG (n₀ Bg Bl:Nat) (A B:World):Prop:=Below n₀ A B∧(Bg<A.heap.size→B.heap[Bg]?=A.heap[Bg]?)∧(Bl<A.heap.size→B.heap[Bl]?=A.heap[Bl]?)
theorem KpG.t {n₀ Bg Bl:Nat} {A B C:World} (h:KpG n₀ Bg Bl A B) (k:KpG n₀ Bg Bl B C):KpG n₀ Bg Bl A C:=
 ⟨h.1.trans k.1,fun q=>(k.2.1 (Nat.lt_of_lt_of_le q h.1.size)).trans (h.2.1 q),fun q=>(k.2.2 (Nat.lt_of_lt_of_le q h.1.size)).trans (h.2.2 q)⟩
theorem boxed_kpg {A B:World} {K:Nat} {t:TypeId} {v:Value} (h:Boxed A K t v) (e:K<A.heap.size→B.heap[K]?=A.heap[K]?):Boxed B K t v:=(e h.lt).trans h
theorem boxed_set_ne {A:World} {K K':Nat} {t:TypeId} {v u:Value} (h:Boxed A K t v) (hne:K≠K'):Boxed (A.setCell ⟨K',0,none⟩ u) K t v:=(heap_set_ne hne).trans h
set_option maxRecDepth 100000 in
set_option maxHeartbeats 2000000 in
theorem gupF_in (n:Nat) (hn:1≤n) (l Bg Bl n₀ b off len cap g0:Nat) (P:Nat→Nat) (hP:Befores P g0) (hg0:g0<len) (hlen:len≤1000000) (hb:b<n₀) (hne:Bg≠Bl) (hBg:n₀≤Bg) (J Jx:List Nat→World→Prop) (hJb:BoxFree Bg J)
  (hY:∀ pre x W,J pre W→pre++[x] <+: upL P g0→YieldAt Fence.wide (n - 1) Tryz.prog l #[.int .i64 (x:Nat)] W fun e W' =>
   (e=.returned (.bool true)∧J (pre++[x]) W'∧KpG n₀ Bg Bl W W')∨(e=.returned (.bool false)∧Jx (pre++[x]) W'))
  (W:World) (hBG:Boxed W Bg 3 (.int .i64 (g0:Nat))) (hBL:Boxed W Bl 35 (.slice (some ⟨b,off,none⟩) len cap)) (hc:∀ k,k≤g0→W.cell? ⟨b,off+k*2,none⟩=some (.int .i64 (P k:Nat))) (h0:J [] W) :
  CallsIn Fence.wide n Tryz.prog 275 #[.func (.yield l) #[] #[],.pointer (some ⟨Bg,0,none⟩),.pointer (some ⟨Bl,0,none⟩)] W fun e W'=>(∃ v,e=.returned v) ∧
   ((∃ ys,ys=upL P g0∧J ys W')∨(∃ pre,pre <+: upL P g0∧Jx pre W')):=by
 have hf:Fence.wide.fn 275:=trivial
 have hro:Fence.wide.round=none:=rfl
 have HY:=Lib.hid hY
 have HC:=Lib.hid hc
 have HP:=Lib.hid hP
 have HJB:=Lib.hid hJb
 clear hY hc hP hJb
 refine callsIn_of_wp Tryz.func275 rfl hf ?_ hro
 simp only [Tryz.ntmps275,List.size_toArray,List.length_cons,List.length_nil,Nat.reduceAdd,Nat.reduceSub,Array.replicate_succ,Array.replicate_zero,List.push_toArray,List.append_toArray,List.nil_append,List.cons_append]
 gi_wp2
 gi_loopg [] g0 (fun gx wr=>∃ pre,pre++upL P gx=upL P g0∧gx≤g0∧J pre wr∧Boxed wr Bg 3 (.int .i64 (gx:Nat))∧Boxed wr Bl 35 (.slice (some ⟨b,off,none⟩) len cap)∧Below n₀ W wr)
 case atStart=>exact ⟨[],by simp,Nat.le_refl _,h0,hBG,hBL,Below.refl _ _⟩
 case round =>
  obtain ⟨pre,hpre,hle,hJ,hbg,hbl,hB⟩:=hrel
  have hlen2:pre++[gk] <+: upL P g0:=by
   rw [← hpre,upL]
   exact ⟨_,by rw [List.append_assoc];rfl⟩
  obtain ⟨fn,tmps,assign,body,hy,hR⟩:=HY.out pre gk wr hJ hlen2
  have HR:=Lib.hid hR
  have HBG:=Lib.hid hbg
  have HBL:=Lib.hid hbl
  have HB:=Lib.hid hB
  have HPRE:=Lib.hid hpre
  have cg:=hbg.cell
  clear hR hbg hbl hB hpre hlen2 hJ hBG hBL h0
  gi_wp2
  refine HR.out.mono ?_
  rintro e W3 (⟨rfl,hJ3,hk3⟩ | ⟨rfl,hJx3⟩)
  ·have HJ3:=Lib.hid hJ3
   have bg3:=boxed_kpg HBG.out hk3.2.1
   have bl3:=boxed_kpg HBL.out hk3.2.2
   have cg3:=bg3.cell
   have cl3:=bl3.cell
   have fg3:=bg3.frozen
   have HBG3:=Lib.hid bg3
   have HBL3:=Lib.hid bl3
   have HB3:=Lib.hid (HB.out.trans hk3.1)
   clear hJ3 bg3 bl3 cg
   by_cases hz:0<gk
   ·have c3:=(hk3.1.cell (p:=⟨b,off+gk*2,none⟩) hb).trans ((HB.out.cell (p:=⟨b,off+gk*2,none⟩) hb).trans (HC.out gk hle))
    have hk0:(0:Int)≤(gk:Int):=by omega
    have hkm:(gk:Int)<(len:Int):=by omega
    have hzi:(0:Int)<(gk:Int):=by omega
    have hlt:=HP.out gk hz hle
    have HLT:=Lib.hid hlt
    clear hk3 hlt
    gi_wp2
    gi_roundg (P gk)
    case rel=>exact ⟨pre++[gk],by rw [List.append_assoc,List.singleton_append,← upL_pos hz HLT.out];exact HPRE.out,by have:=HLT.out;omega,HJB.out _ _ _ HJ3.out,HBG3.out.set _,boxed_set_ne HBL3.out (fun e=>hne e.symm),Below.setCell HB3.out hBg _⟩
    case measure=>exact HLT.out
   ·obtain rfl:gk=0:=by omega
    have HE:=Lib.hid (show pre++[0]=upL P g0 by rw [← HPRE.out,upL_zero])
    clear hk3 hz
    gi_wp2
    go_end0
    exact ⟨⟨_,rfl⟩,.inl ⟨_,HE.out,HJ3.out⟩⟩
  ·have HJX:=Lib.hid hJx3
   have HE:=Lib.hid (show pre++[gk] <+: upL P g0 by
    rw [← HPRE.out,upL]
    exact ⟨_,by rw [List.append_assoc];rfl⟩)
   clear hJx3
   gi_wp2
   go_end0
   exact ⟨⟨_,rfl⟩,.inr ⟨_,HE.out,HJX.out⟩⟩
attribute [local go_sem] Oper.semAt_some
theorem gup_at (b:Option Addr) (len cap:Nat) (g:Int) (w:World):Calls Tryz.prog 258 #[.slice b len cap,.int .i64 g] w fun e w'=>e=.returned (.func (.func 275) #[] #[.pointer (some ⟨w.heap.size+1,0,none⟩),.pointer (some ⟨w.heap.size,0,none⟩)])∧w'=(w.alloc (.cells #[.slice b len cap] 35)).alloc (.cells #[.int .i64 g] 3):=by
 go_enter Tryz.func258,Tryz.ntmps258
 go_wp2
 go_ret
 simp
theorem kpg_t {n₀ Bg Bl:Nat} {A B C:World} (h:KpG n₀ Bg Bl A B) (k:KpG n₀ Bg Bl B C):KpG n₀ Bg Bl A C:=h.t k
theorem kpg_b {n₀ Bg Bl:Nat} {w:World} (hn:n₀≤w.heap.size) (hg:Bg<w.heap.size) (hl:Bl<w.heap.size) (W:World) (l:Nat) (o o':Obj) (hw:w.heap.size≤l) (h:W.heap[l]?=some o) (hc:o.isCells=false) (hk:o.isWalk=false):KpG n₀ Bg Bl W (W.putObj l o'):=by
 have hgr:=grownBy_putObj' W l o'
 exact ⟨belowK_b hn W l o o' hw h hc hk,fun q=>hgr.block _ q (fun e=>by cases e;omega),fun q=>hgr.block _ q (fun e=>by cases e;omega)⟩
theorem up_stops (n:Nat) (hn:1≤n) (Bg Bl n₀ b off len cap g0:Nat) (P:Nat→Nat) (hP:Befores P g0) (hg0:g0<len) (hlen:len≤1000000) (hb:b<n₀) (hne:Bg≠Bl) (hBg:n₀≤Bg) (w:World) (hn0:n₀≤w.heap.size)
  (hBG:Boxed w Bg 3 (.int .i64 (g0:Nat))) (hBL:Boxed w Bl 35 (.slice (some ⟨b,off,none⟩) len cap)) (hc:∀ k,k≤g0→w.cell? ⟨b,off+k*2,none⟩=some (.int .i64 (P k:Nat))) :
  SeqBox Fence.wide n Tryz.prog 275 #[.pointer (some ⟨Bg,0,none⟩),.pointer (some ⟨Bl,0,none⟩)] (fun x:Nat=>#[.int .i64 (x:Nat)]) (KpG n₀ Bg Bl) Bg (fun ys=>ys=upL P g0) (fun pre=>pre <+: upL P g0) w:=fun l J Jx W hW hJb _ _ hY h0 =>
 gupF_in n hn l Bg Bl n₀ b off len cap g0 P hP hg0 hlen hb hne hBg J Jx hJb hY W ((hW.block _ hBG.lt).trans hBG) ((hW.block _ hBL.lt).trans hBL) (fun k hk=>cell_later hW (hc k hk)) h0
set_option maxRecDepth 100000 in
set_option maxHeartbeats 4000000 in
theorem gdepth_at (b off len cap g0:Nat) (P:Nat→Nat) (w:World) (hP:Befores P g0) (hg0:g0<len) (hlen:len≤1000000) (hc:∀ k,k≤g0→w.cell? ⟨b,off+k*2,none⟩=some (.int .i64 (P k:Nat))) :
  Calls Tryz.prog 222 #[.slice (some ⟨b,off,none⟩) len cap,.int .i64 (g0:Nat)] w fun e w'=>e=.returned (.int .i64 ((upL P g0).length - 1:Int))∧Below w.heap.size w w':=by
 refine (callsIn_wide (n:=3)).1 ?_
 have hf:Fence.wide.fn 222:=trivial
 have hro:Fence.wide.round=none:=rfl
 have hbl:b<w.heap.size:=lt_of_cell (hc 0 (by omega))
 have HC:=Lib.hid hc
 have hul:(upL P g0).length≤1000001:=by have:=upL_len (P:=P) g0;omega
 clear hc
 refine callsIn_of_wp_marks Tryz.func222 rfl hf ?_ hro
 simp only [Tryz.ntmps222,List.size_toArray,List.length_cons,List.length_nil,Nat.reduceAdd,Nat.reduceSub,Array.replicate_succ,Array.replicate_zero,List.push_toArray,List.append_toArray,List.nil_append,List.cons_append]
 gi_wp2
 refine ⟨trivial,callsIn_wide.2 ((gup_at (some ⟨b,off,none⟩) len cap (g0:Nat) _).mono ?_)⟩
 rintro e w2 ⟨rfl,rfl⟩
 gi_wp2
 have bO:Boxed _ w.heap.size 3 (.int .i64 (-1)):=((Boxed.new w 3 (.int .i64 (-1))).alloc (.cells #[.slice (some ⟨b,off,none⟩) len cap] 35)).alloc (.cells #[.int .i64 (g0:Nat)] 3)
 obtain ⟨W0,hW0⟩:∃ W0,W0=((w.alloc (.cells #[.int .i64 (-1)] 3)).alloc (.cells #[.slice (some ⟨b,off,none⟩) len cap] 35)).alloc (.cells #[.int .i64 (g0:Nat)] 3):=⟨_,rfl⟩
 have hsz:W0.heap.size=w.heap.size+3:=by rw [hW0];simp
 have hB0:Below w.heap.size w W0:=by rw [hW0];exact Below.allocS (Below.allocS (Below.allocS (Below.refl _ _) _) _) _
 have hL:Boxed W0 (w.heap.size+1) 35 (.slice (some ⟨b,off,none⟩) len cap):=by
  have:=(Boxed.new (w.alloc (.cells #[.int .i64 (-1)] 3)) 35 (.slice (some ⟨b,off,none⟩) len cap)).alloc (.cells #[.int .i64 (g0:Nat)] 3)
  rw [← hW0] at this
  simpa using this
 have hG:Boxed W0 (w.heap.size+1+1) 3 (.int .i64 (g0:Nat)):=by
  have:=Boxed.new ((w.alloc (.cells #[.int .i64 (-1)] 3)).alloc (.cells #[.slice (some ⟨b,off,none⟩) len cap] 35)) 3 (.int .i64 (g0:Nat))
  rw [← hW0] at this
  simpa using this
 rw [← hW0] at bO ⊢
 clear hW0
 have c0:∀ k,k≤g0→W0.cell? ⟨b,off+k*2,none⟩=some (.int .i64 (P k:Nat)):=fun k hk=>(hB0.cell (p:=⟨b,off+k*2,none⟩) hbl).trans (HC.out k hk)
 refine range_box hro (by decide) (gf:=275) (lb:=#[.pointer (some ⟨w.heap.size+1+1,0,none⟩),.pointer (some ⟨w.heap.size+1,0,none⟩)]) rfl trivial (enters_of Tryz.func275 (by kernel_rfl) rfl)
  (by omega) (up_stops (3 - 1) (by decide) (w.heap.size+1+1) (w.heap.size+1) w.heap.size b off len cap g0 P hP hg0 hlen hbl (by omega) (by omega) W0 (by omega) hG hL c0) kpg_t (kpg_b (by omega) (by omega) (by omega)) (Below.refl _ _) (fun _=>rfl)
  (fun pre W=>Boxed W w.heap.size 3 (.int .i64 ((pre.length:Int) - 1))∧Below w.heap.size w W)
  (fun _ _ _=>False)
  (OwnFrom.loop (OwnFrom.and (fun s A B row hs hg hr=>hs.kept hg (fun e=>by have:=(hr _ e.symm).1;omega)) (ownFrom_below (Nat.le_refl _) (by omega))))
  (fun _=>ownLoop_pure _)
  (fun s A v hs=>⟨boxed_set_ne hs.1 (by omega),Below.setCell hs.2 (by simp;omega) _⟩)
  (fun _ _ _ _ hs=>hs)
  ⟨bO,hB0⟩
  (fun x a' W=>a'={ tmps:=#[.slice (some ⟨b,off,none⟩) len cap,.int .i64 (g0:Nat),undef,undef,.int .i64 0,.pointer (some ⟨w.heap.size,0,none⟩),.slice (some ⟨b,off,none⟩) len cap,.int .i64 (g0:Nat),.func (.func 275) #[] #[.pointer (some ⟨w.heap.size+1+1,0,none⟩),.pointer (some ⟨w.heap.size+1,0,none⟩)],.int .i64 (x:Nat),undef,undef,undef],defers:=[] })
  (fun x a'=>ownLoop_pure _)
  ?assign ?body ?done ?stop
 case assign =>
  rintro l pre x W K ⟨hv,hB⟩ hK
  gi_wp2
  exact hK _ _ (KeepsLoop.refl _ _) ⟨Below.refl _ _,fun _=>rfl,fun _=>rfl⟩ ⟨hv,hB⟩ (by simp)
 case body =>
  rintro l pre x a' W hl hr ⟨hv,hB⟩ rfl hpx
  have hlt:pre.length<(upL P g0).length:=by have:=hpx.length_le;simp at this;omega
  have hc:=hv.cell
  have hf:=hv.frozen
  have hwr:IntKind.i64.wrap ((pre.length:Int) - 1+1)=(pre.length:Int):=by rw [show (pre.length:Int) - 1+1=pre.length by omega];exact IntWalk.i64_in _ (by omega)
  gi_wp2
  refine ⟨keeps_loop ((KeepsOthers.setCell _ _ _).from _),⟨Below.setCell (Below.refl w.heap.size W) (Nat.le_refl _) _,fun _=>heap_set_ne (by omega),fun _=>heap_set_ne (by omega)⟩,?_,hB.setCell (Nat.le_refl _) _⟩
  have:=hv.set (.int .i64 (pre.length:Int))
  rw [List.length_append]
  simpa using this
 case done =>
  rintro D ys W hD rfl ⟨hv,hB⟩ hK
  have hc:=hv.cell
  gi_wp2
  refine ⟨by simp,.inl ⟨_,_,rfl,run_takeDeferred hK,?_⟩⟩
  exact ⟨_,results_tmp rfl _ _ _,rfl,hB.trans (belowK_b (w:=w) (Nat.le_refl _) W D _ _ (by omega) hK rfl rfl)⟩
 case stop =>
  rintro D c pre W _ _ h _
  exact h.elim
end Go.Proofs.YtapnaocdehahdaaGreat
namespace Go.Proofs.YtapnaocdehahdaaGreat
open Go.RowKit Go.Maps Go.IntWalk Go.Lib
set_option linter.unusedVariables false
set_option linter.unusedSimpArgs false
abbrev Grps:=List (Int×Int)
def encG (g:Int×Int):List Value:=[.int .i64 g.1,.int .i64 g.2]
theorem encG_ok:Enc encG 2:=⟨fun _=>rfl,fun x u hu=>by simp [encG] at hu;rcases hu with rfl | rfl <;> rfl,by decide⟩
theorem infoGroup:(Tryz.prog.info? 72).map (fun i=>(i.zero,i.size,i.bytes))=some (some (.agg #[.int .i64 0,.int .i64 0]),2,16):=by kernel_rfl
def parG (Gs:Grps) (k:Nat):Nat:=Gs[k]!.1.toNat
def gErr (Gs:Grps) (g:Nat):Int:=if Gs[g]!.1<0∨(g:Int)≤Gs[g]!.1 then 191 else if ¬ (1≤Gs[g]!.2∧Gs[g]!.2≤65536) then 192 else if 4<((upL (parG Gs) g).length:Int) - 1 then 193 else 0
def checkFrom (Gs:Grps) (g:Nat):Int×Int:=if g<Gs.length then (if gErr Gs g=0 then checkFrom Gs (g+1) else ((g:Int),gErr Gs g)) else (-1,0)
termination_by Gs.length - g
def checkG (Gs:Grps):Int×Int:=if 256<Gs.length then (-1,5) else if Gs.length=0∨Gs[0]!≠(0,1) then (0,190) else checkFrom Gs 1
structure RightG (Gs:Grps):Prop where
 le:Gs.length≤256
 pos:0<Gs.length
 root:Gs[0]! = (0,1)
 rest:∀ g,1≤g→g<Gs.length→gErr Gs g=0
theorem checkFrom_zero {Gs:Grps} (g:Nat):(checkFrom Gs g).2=0↔∀ k,g≤k→k<Gs.length→gErr Gs k=0:=by
 induction h:Gs.length - g generalizing g with
 | zero =>
  rw [checkFrom,if_neg (by omega)]
  exact ⟨fun _ k h1 h2=>by omega,fun _=>rfl⟩
 | succ n ih =>
  rw [checkFrom,if_pos (by omega)]
  by_cases e:gErr Gs g=0
  ·rw [if_pos e,ih (g+1) (by omega)]
   refine ⟨fun q k h1 h2=>?_,fun q k h1 h2=>q k (by omega) h2⟩
   by_cases hk:k=g
   ·rw [hk];exact e
   ·exact q k (by omega) h2
  ·rw [if_neg e]
   exact ⟨fun q=>absurd q e,fun q=>absurd (q g (Nat.le_refl _) (by omega)) e⟩
theorem checkFrom_step {Gs:Grps} {g:Nat} (h:g<Gs.length) (e:gErr Gs g=0):checkFrom Gs g=checkFrom Gs (g+1):=by rw [checkFrom,if_pos h,if_pos e]
theorem checkFrom_bad {Gs:Grps} {g:Nat} (h:g<Gs.length) (e:gErr Gs g≠0):checkFrom Gs g=((g:Int),gErr Gs g):=by rw [checkFrom,if_pos h,if_neg e]
theorem checkFrom_end {Gs:Grps} {g:Nat} (h:¬ g<Gs.length):checkFrom Gs g=(-1,0):=by rw [checkFrom,if_neg h]
theorem checkG_right {Gs:Grps}:(checkG Gs).2=0↔RightG Gs:=by
 unfold checkG
 by_cases h1:256<Gs.length
 ·rw [if_pos h1];exact ⟨fun q=>absurd q (by decide),fun q=>by have:=q.le;omega⟩
 ·rw [if_neg h1]
  by_cases h2:Gs.length=0∨Gs[0]!≠(0,1)
  ·rw [if_pos h2]
   exact ⟨fun q=>absurd q (by decide),fun q=>by
    rcases h2 with h | h
    ·have:=q.pos;omega
    ·exact absurd q.root h⟩
  ·rw [if_neg h2,checkFrom_zero]
   have h3:Gs.length≠0:=fun e=>h2 (Or.inl e)
   exact ⟨fun q=>⟨by omega,by omega,Decidable.byContradiction fun e=>h2 (Or.inr e),q⟩,fun q=>q.rest⟩
theorem gErr_par {Gs:Grps} {g:Nat} (h:gErr Gs g=0):0≤Gs[g]!.1∧Gs[g]!.1<(g:Int)∧1≤Gs[g]!.2∧Gs[g]!.2≤65536∧((upL (parG Gs) g).length:Int)≤5:=by
 unfold gErr at h
 by_cases h1:Gs[g]!.1<0∨(g:Int)≤Gs[g]!.1
 ·rw [if_pos h1] at h;cases h
 ·rw [if_neg h1] at h
  by_cases h2:¬ (1≤Gs[g]!.2∧Gs[g]!.2≤65536)
  ·rw [if_pos h2] at h;cases h
  ·rw [if_neg h2] at h
   by_cases h3:4<((upL (parG Gs) g).length:Int) - 1
   ·rw [if_pos h3] at h;cases h
   ·have:=Decidable.byContradiction h2
    omega
theorem gweighs_at (a:Int) (w:World):Calls Tryz.prog 221 #[.int .i64 a] w fun e w'=>e=.returned (.bool (decide (1≤a∧a≤65536)))∧w=w':=by
 by_cases h1:1≤a
 ·have z1:decide (a ≥ 1)=true:=decide_eq_true h1
  have z1':decide (1≤a)=true:=decide_eq_true h1
  have z2:decide (1≤a∧a≤65536)=decide (a≤65536):=by simp [h1]
  rw [z2]
  clear z2
  go_enter Tryz.func221,Tryz.ntmps221
  go_wp2_with fail
  go_ret
  exact ⟨rfl,rfl⟩
 ·have z1:decide (a ≥ 1)=false:=decide_eq_false h1
  have z1':decide (1≤a)=false:=decide_eq_false h1
  have z2:decide (1≤a∧a≤65536)=false:=by simp [h1]
  rw [z2]
  clear z2
  go_enter Tryz.func221,Tryz.ntmps221
  go_wp2_with fail
  go_ret
  exact ⟨rfl,rfl⟩
def eq2 (b c b' c':Int):Bool:=decide (b=b'∧c=c')
@[go_sem] theorem eg_group:Tryz.prog.eqGuardType Tryz.prog.depth 72=false:=by kernel_rfl
@[go_sem high] theorem run_neq_group (w:World) (b c b' c':Int):(binOp .neq 72 (.agg #[.int .i64 b,.int .i64 c]) (.agg #[.int .i64 b',.int .i64 c'])).run Tryz.prog w=.ok (.bool (!(eq2 b c b' c'))) w:=by
 rw [run_neq_struct,run_equalIn_agg w 9999 _ _ _ (by kernel_rfl) (by kernel_rfl)]
 simp [go_sem,Tryz.underlying72]
 unfold eq2
 by_cases h1:b=b' <;> by_cases h2:c=c' <;> simp [h1,h2]
set_option maxRecDepth 100000 in
set_option maxHeartbeats 4000000 in
theorem gCheck_at (v:Value) (Gs:Grps) (w:World) (h:RecsAt encG w v Gs):Calls Tryz.prog 185 #[v] w fun e w'=>e=.returned (.tuple #[.int .i64 (checkG Gs).1,.int .i64 (checkG Gs).2])∧Below w.heap.size w w':=by
 obtain ⟨a,cap,rfl,hl1,hl2,hl3,hcells⟩:=id h
 have HG:=Lib.hid h
 clear h hl3
 by_cases h1:256<Gs.length
 ·have z1:decide ((Gs.length:Int) > 256)=true:=decide_eq_true (by omega)
  have z1':decide (256<(Gs.length:Int))=true:=decide_eq_true (by omega)
  have hE:checkG Gs=(-1,5):=by unfold checkG;rw [if_pos h1]
  rw [hE]
  clear hcells h1 hE
  go_enter Tryz.func185,Tryz.ntmps185
  go_wp2_with fail
  exact bodyPost_ret (v:=.tuple #[.int .i64 (-1),.int .i64 5]) (by simp [results,Tryz.results185,go_sem]) rfl ⟨rfl,Below.refl _ _⟩
 have z1:decide ((Gs.length:Int) > 256)=false:=decide_eq_false (by omega)
 have z1':decide (256<(Gs.length:Int))=false:=decide_eq_false (by omega)
 by_cases h2:Gs.length=0
 ·have z2:((Gs.length:Int) == 0)=true:=by rw [h2];rfl
  have hE:checkG Gs=(0,190):=by unfold checkG;rw [if_neg h1,if_pos (Or.inl h2)]
  rw [hE]
  clear hcells h1 hE
  go_enter Tryz.func185,Tryz.ntmps185
  go_wp2_with fail
  exact bodyPost_ret (v:=.tuple #[.int .i64 0,.int .i64 190]) (by simp [results,Tryz.results185,go_sem]) rfl ⟨rfl,Below.refl _ _⟩
 have z2:((Gs.length:Int) == 0)=false:=by simpa using h2
 obtain ⟨b,off,rfl,hc⟩:=hcells.resolve_left fun e=>h2 (by rw [e];rfl)
 have hc':∀ k,k<Gs.length→w.cell? ⟨b,off+k*2,none⟩=some (.int .i64 Gs[k]!.1)∧w.cell? ⟨b,off+k*2+1,none⟩=some (.int .i64 Gs[k]!.2):=fun k hk=>by
  have hx:Gs[k]?=some Gs[k]!:=by rw [getElem!_pos Gs k hk];exact List.getElem?_eq_getElem hk
  have q0:=flatR_at encG_ok hx 0 (by decide)
  have q1:=flatR_at encG_ok hx 1 (by decide)
  exact ⟨hc _ _ (q0.trans rfl),by rw [Nat.add_assoc];exact hc _ _ (q1.trans rfl)⟩
 have hbl:b<w.heap.size:=lt_of_cell (hc' 0 (by omega)).1
 obtain ⟨g00,g01⟩:=hc' 0 (by omega)
 rw [Nat.zero_mul,Nat.add_zero] at g00 g01
 have HC:=Lib.hid hc'
 clear hc hc' hcells
 obtain ⟨p0,q0,hpq⟩:∃ p q,Gs[0]! = (p,q):=⟨_,_,rfl⟩
 rw [hpq] at g00 g01
 simp only at g00 g01
 by_cases h3:p0=0∧q0=1
 ·have z3:eq2 p0 q0 0 1=true:=by rw [h3.1,h3.2];rfl
  have hE:checkG Gs=checkFrom Gs 1:=by unfold checkG;rw [if_neg h1,if_neg fun e=>e.elim h2 fun q=>q (by rw [hpq,h3.1,h3.2])]
  rw [hE]
  have HR:=Lib.hid (show Gs[0]! = (0,1) by rw [hpq,h3.1,h3.2])
  clear hE h3 hpq
  have hlN:Gs.length≤256:=by omega
  have hlp:1≤Gs.length:=by omega
  clear h1 h2
  go_enter Tryz.func185,Tryz.ntmps185
  go_wp2_with fail
  go_loopw [4] (fun s wr=>∃ k:Nat,1≤k∧k≤Gs.length∧s=.int .i64 k∧(∀ j,1≤j→j<k→gErr Gs j=0)∧checkFrom Gs 1=checkFrom Gs k∧Below w.heap.size w wr) (fun s _=>Gs.length - (RowKit.intOf s).toNat)
  case atStart=>exact ⟨1,Nat.le_refl _,hlp,rfl,fun j h1 h2=>by omega,rfl,Below.refl _ _⟩
  case round =>
   clear z1 z1' z2 z3 g00 g01
   obtain ⟨k,hk1,hk,rfl,hgood,hEk,hB⟩:=hrel
   have HB:=Lib.hid hB
   have HE:=Lib.hid hEk
   have HGood:=Lib.hid hgood
   clear hEk hgood
   by_cases hlt:k<Gs.length
   ·have hk0:(0:Int)≤(k:Int):=by omega
    have hkl:(k:Int)<(Gs.length:Int):=by omega
    obtain ⟨p,q,hpq⟩:∃ p q,Gs[k]! = (p,q):=⟨_,_,rfl⟩
    obtain ⟨a0,a1⟩:=HC.out k hlt
    rw [hpq] at a0 a1
    have d0:=below_nat hB hbl a0
    have d1:=below_nat hB hbl a1
    simp only at d0 d1
    have HPQ:=Lib.hid hpq
    have HA:=Lib.hid (fun (o:Nat) (x:Value) (q:w.cell? ⟨b,o,none⟩=some x)=>below_nat hB hbl q)
    clear hB a0 a1 hpq
    by_cases c1:p<0∨(k:Int)≤p
    ·have hg:gErr Gs k=191:=by unfold gErr;rw [HPQ.out,if_pos c1]
     have HF:=Lib.hid (show checkFrom Gs k=((k:Int),191) by rw [checkFrom_bad hlt (by rw [hg];decide),hg])
     by_cases c2:p<0
     ·clear hg c1
      go_wp2_with fail
      refine bodyPost_ret (v:=.tuple #[.int .i64 (k:Nat),.int .i64 191]) (by simp [results,Tryz.results185,go_sem]) rfl ⟨?_,HB.out⟩
      rw [HE.out,HF.out]
     ·have c3:(k:Int)≤p:=by omega
      clear hg c1
      go_wp2_with fail
      refine bodyPost_ret (v:=.tuple #[.int .i64 (k:Nat),.int .i64 191]) (by simp [results,Tryz.results185,go_sem]) rfl ⟨?_,HB.out⟩
      rw [HE.out,HF.out]
    ·have c2:decide (p<0)=false:=decide_eq_false (by omega)
     have c3:decide (p ≥ (k:Int))=false:=decide_eq_false (by omega)
     have c3':decide ((k:Int)≤p)=false:=decide_eq_false (by omega)
     have A1:=Lib.hid (gweighs_at q)
     by_cases c4:1≤q∧q≤65536
     ·have e4:=Lib.hid (show decide (1≤q∧q≤65536)=true from decide_eq_true c4)
      have hbef:Befores (parG Gs) k:=fun h h0 hh=>by
       rcases Nat.lt_or_ge h k with hk' | hk'
       ·have:=gErr_par (HGood.out h h0 hk')
        unfold parG;omega
       ·obtain rfl:h=k:=by omega
        unfold parG;rw [HPQ.out];omega
      have A2:=Lib.hid fun (W:World) (hW:∀ j,j≤k→W.cell? ⟨b,off+j*2,none⟩=some (.int .i64 (parG Gs j:Nat)))=>gdepth_at b off Gs.length cap k (parG Gs) W hbef hlt (by omega) hW
      have hz:∀ j,1≤j→j≤k→((parG Gs j:Nat):Int)=Gs[j]!.1:=fun j hj1 hj2=>by
       rcases Nat.lt_or_ge j k with hk' | hk'
       ·have:=gErr_par (HGood.out j hj1 hk')
        unfold parG;omega
       ·obtain rfl:j=k:=by omega
        unfold parG;rw [HPQ.out];simp only;omega
      have HW:=Lib.hid (show ∀ j,j≤k→wr.cell? ⟨b,off+j*2,none⟩=some (.int .i64 (parG Gs j:Nat)) from fun j hj=>by
       have:=HA.out _ _ (HC.out j (by omega)).1
       by_cases hj0:j=0
       ·subst hj0
        rw [HR.out] at this
        rw [this]
        unfold parG
        rw [HR.out]
        rfl
       ·rw [this,hz j (by omega) hj])
      clear hbef hz
      by_cases c5:4<((upL (parG Gs) k).length:Int) - 1
      ·have hg:gErr Gs k=193:=by unfold gErr;rw [HPQ.out,if_neg c1,if_neg (fun e=>e c4),if_pos c5]
       have HF:=Lib.hid (show checkFrom Gs k=((k:Int),193) by rw [checkFrom_bad hlt (by rw [hg];decide),hg])
       have e5:decide (((upL (parG Gs) k).length:Int) - 1 > 4)=true:=decide_eq_true c5
       have e5':decide (4<((upL (parG Gs) k).length:Int) - 1)=true:=decide_eq_true c5
       clear hg c1 c4 c5
       generalize ((upL (parG Gs) k).length:Int) - 1=D at *
       go_wp2_with fail
       refine (A1.out _).mono ?_;rintro e w5 ⟨rfl,rfl⟩;rw [e4.out]
       go_wp2_with fail
       refine (A2.out _ HW.out).mono ?_;rintro e w5 ⟨rfl,hb5⟩
       have HB:=Lib.hid (Below.step HB.out hb5)
       clear hb5
       go_wp2_with fail
       refine bodyPost_ret (v:=.tuple #[.int .i64 (k:Nat),.int .i64 193]) (by simp [results,Tryz.results185,go_sem]) rfl ⟨?_,HB.out⟩
       rw [HE.out,HF.out]
      ·have hg:gErr Gs k=0:=by unfold gErr;rw [HPQ.out,if_neg c1,if_neg (fun e=>e c4),if_neg c5]
       have HF:=Lib.hid (And.intro hg (checkFrom_step hlt hg))
       have e5:decide (((upL (parG Gs) k).length:Int) - 1 > 4)=false:=decide_eq_false c5
       have e5':decide (4<((upL (parG Gs) k).length:Int) - 1)=false:=decide_eq_false c5
       clear hg c1 c4 c5
       generalize ((upL (parG Gs) k).length:Int) - 1=D at *
       go_wp2_with fail
       refine (A1.out _).mono ?_;rintro e w5 ⟨rfl,rfl⟩;rw [e4.out]
       go_wp2_with fail
       refine (A2.out _ HW.out).mono ?_;rintro e w5 ⟨rfl,hb5⟩
       have HB:=Lib.hid (Below.step HB.out hb5)
       clear hb5
       go_wp2_with fail
       go_roundw
       case rel=>exact ⟨k+1,by omega,by omega,by go_num,fun j h1 h2=>by
        by_cases e:j=k
        ·rw [e];exact HF.out.1
        ·exact HGood.out j h1 (by omega),by rw [HE.out,HF.out.2],HB.out⟩
       case measure=>simp [RowKit.intOf];omega
     ·have e4:=Lib.hid (show decide (1≤q∧q≤65536)=false from decide_eq_false c4)
      have hg:gErr Gs k=192:=by unfold gErr;rw [HPQ.out,if_neg c1,if_pos c4]
      have HF:=Lib.hid (show checkFrom Gs k=((k:Int),192) by rw [checkFrom_bad hlt (by rw [hg];decide),hg])
      clear hg c1 c4
      go_wp2_with fail
      refine (A1.out _).mono ?_;rintro e w5 ⟨rfl,rfl⟩;rw [e4.out]
      go_wp2_with fail
      refine bodyPost_ret (v:=.tuple #[.int .i64 (k:Nat),.int .i64 192]) (by simp [results,Tryz.results185,go_sem]) rfl ⟨?_,HB.out⟩
      rw [HE.out,HF.out]
   ·have zz:decide ((k:Int)<(Gs.length:Int))=false:=decide_eq_false (by omega)
    have HF:=Lib.hid (checkFrom_end hlt)
    clear hB
    go_wp2_with fail
    refine bodyPost_ret (v:=.tuple #[.int .i64 (-1),.int .i64 0]) (by simp [results,Tryz.results185,go_sem]) rfl ⟨?_,HB.out⟩
    rw [HE.out,HF.out]
 ·have z3:eq2 p0 q0 0 1=false:=decide_eq_false h3
  have hE:checkG Gs=(0,190):=by
   unfold checkG
   rw [if_neg h1,if_pos (Or.inr ?_)]
   rw [hpq]
   exact fun e=>h3 ⟨congrArg Prod.fst e,congrArg Prod.snd e⟩
  rw [hE]
  have hlp:1≤Gs.length:=by omega
  clear hE h3 hpq h1 h2
  go_enter Tryz.func185,Tryz.ntmps185
  go_wp2_with fail
  exact bodyPost_ret (v:=.tuple #[.int .i64 0,.int .i64 190]) (by simp [results,Tryz.results185,go_sem]) rfl ⟨rfl,Below.refl _ _⟩
theorem gRight_at (v:Value) (Gs:Grps) (w:World) (h:RecsAt encG w v Gs):Calls Tryz.prog 106 #[v] w fun e w'=>e=.returned (.bool (decide ((checkG Gs).2=0)))∧Below w.heap.size w w':=by
 have A1:=Lib.hid (gCheck_at v Gs w h)
 have z:(((checkG Gs).2:Int) == 0)=decide ((checkG Gs).2=0):=rfl
 clear h
 generalize checkG Gs=c at *
 go_enter Tryz.func106,Tryz.ntmps106
 go_wp2_with fail
 refine A1.out.mono ?_;rintro e w1 ⟨rfl,hb⟩
 go_wp2_with fail
 go_ret
 exact ⟨rfl,hb⟩
end Go.Proofs.YtapnaocdehahdaaGreat
