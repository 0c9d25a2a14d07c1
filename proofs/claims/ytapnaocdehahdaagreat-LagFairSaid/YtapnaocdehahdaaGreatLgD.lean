/-
  The walk of layer 39 (lag): awake.
-/
import Derived.Test.YtapnaocdehahdaaGreatLgC
import Derived.Test.YtapnaocdehahdaaGreatKtA
namespace Go.Proofs.YtapnaocdehahdaaGreat
open Go.RowKit Go.Maps Go.IntWalk Go.Lib Go.Sort
set_option linter.unusedVariables false
theorem awake_lists:newCL [(1,1),(2,2),(3,3)]=0∧runC (ran0 [(1,1),(2,2),(3,3)]) 3 4=0∧runL (ran0 [(1,1),(2,2),(3,3)]) 3 4=[(1,1,0),(2,2,0),(3,3,4)] ∧
  runC [(1,1,0),(2,2,0),(3,3,4)] 1 1=0∧runL [(1,1,0),(2,2,0),(3,3,4)] 1 1=[(1,1,1),(2,2,0),(3,3,4)]:=by decide
theorem awake_order:IdsOrder (lagR [(1,1,0),(2,2,0),(3,3,4)]) (idsL [(1,1,0),(2,2,0),(3,3,4)]) [2,1,3]:=⟨by decide,by decide⟩
theorem awake_spread:mostV [(1,1,0),(2,2,0),(3,3,4)] (lagV [(1,1,0),(2,2,0),(3,3,4)] (1,1,0)) ([(1,1,0),(2,2,0),(3,3,4)]:List (Int×Int×Int)).length=8∧leastVL [(1,1,0),(2,2,0),(3,3,4)] (lagV [(1,1,0),(2,2,0),(3,3,4)] (1,1,0)) ([(1,1,0),(2,2,0),(3,3,4)]:List (Int×Int×Int)).length=-12:=by decide
theorem awake_next:(minV [(1,1,0),(2,2,0),(3,3,4)] (1,1,0) ([(1,1,0),(2,2,0),(3,3,4)]:List (Int×Int×Int)).length).1=1:=by decide +kernel
theorem awake_lags:lagR [(1,1,1),(2,2,0),(3,3,4)] 1=-1∧hasId [(1,1,1),(2,2,0),(3,3,4)] 1=true∧lagR [(1,1,1),(2,2,0),(3,3,4)] 2=10∧hasId [(1,1,1),(2,2,0),(3,3,4)] 2=true∧lagR [(1,1,1),(2,2,0),(3,3,4)] 3=-9∧hasId [(1,1,1),(2,2,0),(3,3,4)] 3=true∧untilR [(1,1,1),(2,2,0),(3,3,4)] 2=3∧hasId [(1,1,1),(2,2,0),(3,3,4)] 2=true:=by decide
theorem RowAt.kept {K:IntKind} {w w':World} {a:Option Addr} {n:Nat} {xs:List Int} {S:List Nat} (h:RowAt K w a n xs) (hk:Kept S w w') (hS:∀ b off,a=some ⟨b,off,none⟩→b∉S):RowAt K w' a n xs:=by
 refine ⟨h.1,fun h0=>?_⟩
 obtain ⟨b,off,e,hc⟩:=h.2 h0
 exact ⟨b,off,e,fun i x hx=>hk.cellAt (hc i x hx) (hS b off e)⟩
set_option maxRecDepth 100000 in
set_option maxHeartbeats 2000000 in
theorem awake_true (w:World):Calls Tryz.prog 44 #[] w fun e w'=>e=.returned (.bool true)∧Below w.heap.size w w':=by
 go_enter Tryz.func44,Tryz.ntmps44
 go_wp2_with fail
 have hp:PairsIn (w.alloc (.cells #[.int .i64 1,.int .i64 1,.int .i64 2,.int .i64 2,.int .i64 3,.int .i64 3] 90)) (.slice (some ⟨w.heap.size,0,none⟩) 3 3) [(1,1),(2,2),(3,3)]:=by
  refine ⟨_,3,rfl,Or.inr ⟨w.heap.size,0,rfl,fun k x hx=>?_⟩⟩
  match k,hx with
  | 0,hx=>cases hx;exact ⟨cell_nw _ _ _ 0 _ rfl,cell_nw _ _ _ 1 _ rfl⟩
  | 1,hx=>cases hx;exact ⟨cell_nw _ _ _ 2 _ rfl,cell_nw _ _ _ 3 _ rfl⟩
  | 2,hx=>cases hx;exact ⟨cell_nw _ _ _ 4 _ rfl,cell_nw _ _ _ 5 _ rfl⟩
  | k+3,hx=>simp at hx
 have hb0:=below_a w (.cells #[.int .i64 1,.int .i64 1,.int .i64 2,.int .i64 2,.int .i64 3,.int .i64 3] 90)
 generalize w.alloc (.cells #[.int .i64 1,.int .i64 1,.int .i64 2,.int .i64 2,.int .i64 3,.int .i64 3] 90)=w0 at *
 refine (New_any _ [(1,1),(2,2),(3,3)] w0 hp (by decide)).mono ?_
 rintro e w1 ⟨hb1,⟨h,_⟩ | ⟨_,p,g,bm,cap,rfl,hM,hp1,hg1,hm1⟩⟩
 ·exact absurd awake_lists.1 h
 clear hp
 have hbw1:=Below.step hb0 hb1
 have HM1:=Lib.hid hM
 clear hM
 go_wp2_with fail
 refine (Run_any p g bm cap _ 3 3 4 w1 HM1.out (by decide) (by decide)).mono ?_
 rintro e w2 ⟨he,hM2,hk2⟩
 rw [awake_lists.2.1] at he
 rw [awake_lists.2.2.1] at hM2
 subst he
 have hpg:∀ k∈[p,g],w.heap.size≤k:=fun k hk=>by
  have:=hb0.size
  simp only [List.mem_cons,List.not_mem_nil,or_false] at hk
  omega
 have HPG:=Lib.hid hpg
 have hbw2:=Kept.stepB hbw1 (Nat.le_refl _) hk2 hpg
 have HM2:=Lib.hid hM2
 clear hM2 hk2 hpg
 go_wp2_with fail
 refine (Spread_any p g bm cap _ 3 w2 HM2.out).mono ?_
 rintro e w3 ⟨hb3,x,hx,rfl⟩
 cases hx
 rw [awake_spread.1,awake_spread.2]
 have hM3:=HM2.out.below hb3
 have hbw3:=Below.step hbw2 hb3
 have HM3:=Lib.hid hM3
 clear hM3
 go_wp2_with fail
 refine (Order_fn p g bm cap _ 3 w3 HM3.out).mono ?_
 rintro e w4 ⟨bo,out,rfl,ho,hio,hb4⟩
 obtain rfl:=ids_unique hio awake_order
 have hr4:=own_row ho
 have hM4:=HM3.out.below hb4
 have hbw4:=Below.step hbw3 hb4
 have HM4:=Lib.hid hM4
 have hbo:w3.heap.size≤bo:=(ho.lt bo rfl).1
 clear hM4 hio ho
 go_wp2_with fail
 refine (Next_any p g bm cap _ 3 w4 HM4.out).mono ?_
 rintro e w5 ⟨hb5,x,hx,rfl⟩
 cases hx
 rw [awake_next]
 have hM5:=HM4.out.below hb5
 have hbw5:=Below.step hbw4 hb5
 have hr5:=hr4.later hb5
 have HM5:=Lib.hid hM5
 clear hM5
 go_wp2_with fail
 refine (Run_any p g bm cap _ 3 1 1 w5 HM5.out (by decide) (by decide)).mono ?_
 rintro e w6 ⟨he,hM6,hk6⟩
 rw [awake_lists.2.2.2.1] at he
 rw [awake_lists.2.2.2.2] at hM6
 subst he
 have hbw6:=Kept.stepB hbw5 (Nat.le_refl _) hk6 HPG.out
 have hr6:=hr5.kept hk6 (fun b off hb=>by
  have:=HM3.out.lts
  cases hb
  simp only [List.mem_cons,List.not_mem_nil,or_false]
  omega)
 have HM6:=Lib.hid hM6
 clear hM6 hk6
 go_wp2_with fail
 refine (Lag_fn p g bm cap _ 3 1 w6 HM6.out (by decide)).mono ?_
 rintro e w7 ⟨rfl,hb7⟩
 rw [awake_lags.1,awake_lags.2.1]
 have HM7:=Lib.hid (HM6.out.below hb7)
 go_wp2_with fail
 refine (Lag_fn p g bm cap _ 3 2 w7 HM7.out (by decide)).mono ?_
 rintro e w8 ⟨rfl,hb8⟩
 rw [awake_lags.2.2.1,awake_lags.2.2.2.1]
 have HM8:=Lib.hid (HM7.out.below hb8)
 go_wp2_with fail
 refine (Lag_fn p g bm cap _ 3 3 w8 HM8.out (by decide)).mono ?_
 rintro e w9 ⟨rfl,hb9⟩
 rw [awake_lags.2.2.2.2.1,awake_lags.2.2.2.2.2.1]
 have HM9:=Lib.hid (HM8.out.below hb9)
 go_wp2_with fail
 refine (Until_fn p g bm cap _ 3 2 w9 HM9.out (by decide)).mono ?_
 rintro e w10 ⟨rfl,hb10⟩
 rw [awake_lags.2.2.2.2.2.2.1,if_pos awake_lags.2.2.2.2.2.2.2]
 have HM10:=Lib.hid (HM9.out.below hb10)
 have hbw10:=Below.step (Below.step (Below.step (Below.step hbw6 hb7) hb8) hb9) hb10
 have hr10:=(((hr6.later hb7).later hb8).later hb9).later hb10
 clear hr4 hr5 hr6 hb7 hb8 hb9 hb10 hbw6
 go_wp2_with fail
 have hrn:RowAt .i64 (w10.alloc (.cells #[.int .i64 2,.int .i64 1,.int .i64 3] 3)) (some ⟨w10.heap.size,0,none⟩) 3 [2,1,3]:=by
  refine ⟨rfl,fun _=>⟨w10.heap.size,0,rfl,fun i x hx=>?_⟩⟩
  match i,hx with
  | 0,hx=>cases hx;exact cell_nw _ _ _ 0 _ rfl
  | 1,hx=>cases hx;exact cell_nw _ _ _ 1 _ rfl
  | 2,hx=>cases hx;exact cell_nw _ _ _ 2 _ rfl
  | i+3,hx=>simp at hx
 have hro:=hr10.later (below_a w10 (.cells #[.int .i64 2,.int .i64 1,.int .i64 3] 3))
 have hbn:=below_a w10 (.cells #[.int .i64 2,.int .i64 1,.int .i64 3] 3)
 generalize w10.alloc (.cells #[.int .i64 2,.int .i64 1,.int .i64 3] 3)=w11 at *
 have HM11:=Lib.hid (HM10.out.below hbn)
 refine (SameInts_any _ _ 3 3 3 3 [2,1,3] [2,1,3] w11 hro hrn (by decide) (by decide)).mono ?_
 rintro e w12 ⟨rfl,hg12⟩
 rw [show decide (([2,1,3]:List Int)=[2,1,3])=true by decide]
 have hb12:=hg12.below
 have HM12:=Lib.hid (HM11.out.below hb12)
 have hbw12:=Below.step (Below.step hbw10 hbn) hb12
 clear hro hrn hr10 hg12
 go_wp2_with fail
 refine (Total_any p g bm cap _ 3 w12 HM12.out).mono ?_
 rintro e w13 ⟨rfl,rfl⟩
 rw [show sumR [(1,1,1),(2,2,0),(3,3,4)]=5 by decide]
 go_wp2_with fail
 refine (Weight_any p g bm cap _ 3 w12 HM12.out).mono ?_
 rintro e w13 ⟨rfl,rfl⟩
 rw [show sumW [(1,1,1),(2,2,0),(3,3,4)]=6 by decide]
 go_wp2_with fail
 go_ret
 exact ⟨rfl,hbw12⟩
structure WordsIn (w:World) (a:Option Addr) (n cap:Nat) (ws:List Int):Prop where
 row:RowAt .u16 w a n ws
 le:n≤cap
 max:cap≤9223372036854775807
 none:a=none→cap=0
 fit:∀ x∈ws,0≤x∧x≤65535
def shK (ws:List Int) (k:Nat):List (Int×Int):=if k=0 then [(1,1)] else (ws.take k).mapIdx fun i x=>((i:Int)+1,1+x)
def shV (ws:List Int):List (Int×Int):=shK ws (min ws.length 12)
def flatP (l:List (Int×Int)):List Value:=l.flatMap fun x=>[.int .i64 x.1,.int .i64 x.2]
theorem flatP_append (a b:List (Int×Int)):flatP (a++b)=flatP a++flatP b:=by simp [flatP]
theorem shK_len (ws:List Int) (k:Nat) (h:k≤ws.length):(shK ws k).length=max k 1:=by
 unfold shK;split
 ·rename_i h0;subst h0;rfl
 ·rw [List.length_mapIdx,List.length_take];omega
theorem shK_zero {ws:List Int} {x:Int} (hx:ws[0]?=some x):shK ws 1=[(1,1+x)]:=by
 unfold shK
 rw [if_neg (by omega),List.take_add_one,hx];rfl
theorem shK_succ {ws:List Int} {k:Nat} {x:Int} (hx:ws[k]?=some x) (hk:0<k):shK ws (k+1)=shK ws k++[((k:Int)+1,1+x)]:=by
 have hl:k<ws.length:=(List.getElem?_eq_some_iff.1 hx).1
 unfold shK
 rw [if_neg (by omega),if_neg (by omega),List.take_add_one,hx,Option.toList_some,List.mapIdx_append]
 simp [List.length_take,Nat.min_eq_left (Nat.le_of_lt hl)]
theorem infoShare:(Tryz.prog.info? 90).map (fun i=>(i.zero,i.size,i.bytes))=some (some (.agg #[.int .i64 0,.int .i64 0]),2,16):=by kernel_rfl
def SharesP (ws:List Int) (w:World) (e:Ending) (w':World):Prop:=
 ∃ b cap,e=.returned (.slice (some ⟨b,0,none⟩) (shV ws).length cap)∧w'.ownsRow w.heap.size 90 2 (.slice (some ⟨b,0,none⟩) (shV ws).length cap) (shV ws).length (flatP (shV ws))∧Below w.heap.size w w'
set_option maxRecDepth 100000 in
set_option maxHeartbeats 1000000 in
theorem Shares_nil (a:Option Addr) (cap:Nat) (w:World) (h:WordsIn w a 0 cap []):Calls Tryz.prog 40 #[.slice a 0 cap] w (SharesP [] w):=by
 have hm:=h.max
 have hr:∀ W:World,W.alloc (.cells #[.int .i64 1,.int .i64 1] 90)=W.alloc (.cells #[.int .i64 1,.int .i64 1] 90):=fun _=>rfl
 clear hr
 rcases a with _ | a
 ·have hc:=h.none rfl
  subst hc
  clear h
  go_enter Tryz.func40,Tryz.ntmps40
  go_wp2_with fail
  refine wp_loop_rounds 1 ?_
  rw [rounds_succ]
  go_wp2_with fail
  go_ret
  exact ⟨w.heap.size,1,rfl,World.ownsRow_lit w #[.int .i64 1,.int .i64 1] 1 (Nat.le_refl _) (by decide) rfl,below_a _ _⟩
 ·clear h
  have e0:min (0:Int) 12=0:=by decide
  go_enter Tryz.func40,Tryz.ntmps40
  go_wp2_with fail
  refine wp_loop_rounds 1 ?_
  rw [rounds_succ]
  go_wp2_with fail
  go_ret
  exact ⟨w.heap.size,1,rfl,World.ownsRow_lit w #[.int .i64 1,.int .i64 1] 1 (Nat.le_refl _) (by decide) rfl,below_a _ _⟩
structure ShI (ws:List Int) (w:World) (k:Nat) (v:Value) (wr:World):Prop where
 own:wr.ownsRow w.heap.size 90 2 v (shK ws k).length (flatP (shK ws k))
 bel:Below w.heap.size w wr
set_option maxRecDepth 100000 in
set_option maxHeartbeats 1000000 in
theorem Shares_some (a:Option Addr) (n cap:Nat) (ws:List Int) (w:World) (h:WordsIn w a n cap ws) (h0:0<n):Calls Tryz.prog 40 #[.slice a n cap] w (SharesP ws w):=by
 obtain ⟨i0,hi,hz0,hz1,hz2⟩:=info_parts infoShare
 have hmax:=h.max
 have hle:=h.le
 obtain ⟨b,off,rfl,hc⟩:=h.row.2 h0
 obtain ⟨m,hm⟩:∃ m:Nat,m=min n 12:=⟨_,rfl⟩
 have e0:min (n:Int) 12=(m:Int):=by omega
 have hmn:m≤n:=by omega
 have hm12:m≤12:=by omega
 have hm0:0<m:=by omega
 have HM:=Lib.hid hm
 have HL:=Lib.hid h.row.1
 have HC:=Lib.hid hc
 have HF:=Lib.hid h.fit
 clear h hc hm
 go_enter Tryz.func40,Tryz.ntmps40
 go_wp2_with fail
 have hI0:ShI ws w 0 (.slice (some ⟨w.heap.size,0,none⟩) 1 1) (w.alloc (.cells #[.int .i64 1,.int .i64 1] 90)):=⟨World.ownsRow_lit w #[.int .i64 1,.int .i64 1] 1 (Nat.le_refl _) (by decide) rfl,below_a _ _⟩
 generalize w.alloc (.cells #[.int .i64 1,.int .i64 1] 90)=wo at *
 go_loopw [3,15] (fun v i wr=>∃ k:Nat,k≤m∧i=.int .i64 k∧ShI ws w k v wr) (fun _ i _=>m - (RowKit.intOf i).toNat)
 case atStart=>exact ⟨0,Nat.zero_le _,rfl,hI0⟩
 case round =>
  obtain ⟨k,hk,rfl,hI⟩:=hrel
  clear hI0
  by_cases hlt:k<m
  ·obtain ⟨x,hx⟩:∃ x,ws[k]?=some x:=⟨_,List.getElem?_eq_getElem (by rw [HL.out];omega)⟩
   have q0:=cell_later hI.bel (HC.out k x hx)
   have hfx:=HF.out x (List.mem_of_getElem? hx)
   have hk0:(0:Int)≤(k:Int):=by omega
   have hkm:(k:Int)<(m:Int):=by omega
   have HX:=Lib.hid hx
   have HI:=Lib.hid hI
   have hbase:=hI.bel.size
   have hlen:=shK_len ws k (by rw [HL.out];omega)
   have hown:=hI.own
   obtain ⟨L,hL⟩:∃ L,(shK ws k).length=L+1:=⟨(shK ws k).length - 1,by omega⟩
   have hLm:L≤12:=by omega
   rw [hL] at hown
   obtain ⟨g,capv,rfl⟩:=own_someL hown
   have hgl:=hown.lt g rfl
   have HO:=Lib.hid hown
   clear hx hI hown
   by_cases hz:k=0
   ·subst hz
    have hL1:L=0:=by simp at hlen;omega
    subst hL1
    simp only [Nat.add_zero] at q0
    have o0:=HO.out.cellAt 0 (by decide)
    have o1:=HO.out.cellAt 1 (by decide)
    have f0:=HO.out.frozenAt 0
    have f1:=HO.out.frozenAt 1
    rw [show flatP (shK ws 0)=[.int .i64 1,.int .i64 1] from rfl] at o0 o1
    simp only [List.getElem?_cons_zero,List.getElem?_cons_succ] at o0 o1
    have o0':=cell_al (.cells #[.int .i64 1,.int .i64 (1+x)] 90) o0
    have o1':=cell_al (.cells #[.int .i64 1,.int .i64 (1+x)] 90) o1
    have HFI:=Lib.hid (show flatP (shK ws 1)=[.int .i64 1,.int .i64 (1+x)] by rw [shK_zero HX.out];rfl)
    clear hk0 hlen hL
    go_wp2_with fail
    go_roundw
    case rel =>
     have s1:=(HO.out.stored 0 (.int .i64 1)).1
     have s2:=((s1.stored 1 (.int .i64 (1+x))).1).alloc (.cells #[.int .i64 1,.int .i64 (1+x)] 90)
     refine ⟨1,by omega,rfl,⟨?_,?_⟩⟩
     ·rw [HFI.out,shK_zero HX.out];exact s2
     ·exact Below.allocS ((HI.out.bel.setCell (p:=⟨g,0,none⟩) hgl.1 _).setCell (p:=⟨g,1,none⟩) hgl.1 _) _
    case measure=>simp [RowKit.intOf];omega
   ·have e1:((k:Int) == 0)=false:=by simp;omega
    have hs:=shK_succ HX.out (by omega)
    have HS:=Lib.hid hs
    clear hs hlen
    go_wp2_with (at_builtin;refine wpList_append_own _ rfl (.tmp 31) (.tmp 33) 85 rfl w.heap.size 90 i0 (.agg #[.int .i64 0,.int .i64 0]) 2 16 Tryz.underlying85 hi hz0 hz1 hz2 rfl (by decide) _ _ _ rfl ((HO.out.alloc _).alloc _) ⟨wr.heap.size+1,0,none⟩ 1 1 [.int .i64 ((k:Int)+1),.int .i64 (1+x)] rfl rfl ?c1 ?c2 ?c3 ?c4 ?c5 ?_)
    case c1 =>
     intro j u hj
     match j,hj with
     | 0,hj=>simp at hj;subst hj;go_simp
     | 1,hj=>simp at hj;subst hj;go_simp
     | j+2,hj=>simp at hj
    case c2=>intro u hu;simp at hu;rcases hu with rfl | rfl <;> rfl
    case c3=>unfold maxLen;omega
    case c4=>omega
    case c5=>simp;omega
    intro v' w1 hown1 hgrow1 _
    obtain ⟨g',cap',rfl⟩:=own_someL hown1
    have hb1:Below w.heap.size w w1:=(Below.allocS (Below.allocS HI.out.bel _) _).grown hgrow1 (by simp;omega) (fun i hi=>by cases hi;exact hgl.1)
    have HO1:=Lib.hid hown1
    clear hown1 hgrow1
    go_wp2_with fail
    go_roundw
    case rel =>
     refine ⟨k+1,by omega,by go_num,⟨?_,hb1⟩⟩
     rw [HS.out,flatP_append,List.length_append,hL]
     exact HO1.out
    case measure=>simp [RowKit.intOf];omega
  ·obtain rfl:k=m:=by omega
   have hlen:=shK_len ws k (by rw [HL.out];omega)
   have hown:=hI.own
   have hV:shK ws k=shV ws:=by unfold shV;rw [HL.out,← HM.out]
   obtain ⟨L,hL⟩:∃ L,(shK ws k).length=L+1:=⟨(shK ws k).length - 1,by omega⟩
   rw [hL] at hown
   obtain ⟨g,capv,rfl⟩:=own_someL hown
   rw [← hL,hV] at hown
   rw [hV] at hL
   have hb:=hI.bel
   have HO:=Lib.hid hown
   have HLL:=Lib.hid hL
   clear hown hI hlen hV hL
   go_wp2_with fail
   go_ret
   refine ⟨g,capv,?_,HO.out,hb⟩
   rw [HLL.out];rfl
theorem Shares_any (a:Option Addr) (n cap:Nat) (ws:List Int) (w:World) (h:WordsIn w a n cap ws):Calls Tryz.prog 40 #[.slice a n cap] w (SharesP ws w):=by
 by_cases h0:n=0
 ·subst h0
  have:ws=[]:=List.eq_nil_of_length_eq_zero h.row.1
  subst this
  exact Shares_nil a cap w h
 ·exact Shares_some a n cap ws w h (by omega)
theorem flatP_at:∀ (l:List (Int×Int)) (k:Nat) (x:Int×Int),l[k]?=some x→(flatP l)[k*2]?=some (.int .i64 x.1)∧(flatP l)[k*2+1]?=some (.int .i64 x.2)
 | [],k,x,h=>by simp at h
 | y::r,0,x,h=>by simp at h;subst h;exact ⟨rfl,rfl⟩
 | y::r,k+1,x,h=>by
  have:=flatP_at r k x (by simpa using h)
  have e:flatP (y::r)=.int .i64 y.1::.int .i64 y.2::flatP r:=rfl
  rw [e,show (k+1)*2=k*2+1+1 by omega]
  exact this
theorem own_pairs {w:World} {base g cap:Nat} {l:List (Int×Int)} (h:w.ownsRow base 90 2 (.slice (some ⟨g,0,none⟩) l.length cap) l.length (flatP l)):PairsIn w (.slice (some ⟨g,0,none⟩) l.length cap) l:=by
 refine ⟨_,cap,rfl,Or.inr ⟨g,0,rfl,fun k x hx=>?_⟩⟩
 have hk:k<l.length:=(List.getElem?_eq_some_iff.1 hx).1
 obtain ⟨a,b⟩:=flatP_at l k x hx
 rw [Nat.zero_add,h.cellAt _ (by omega),h.cellAt _ (by omega)]
 exact ⟨a,b⟩
def turnId (l:List (Int×Int)) (k:Nat):Int:=(l[k % l.length]?.getD (0,0)).1
def madeK (l:List (Int×Int)) (rs:List Int):Nat→List (Int×Int×Int)
 | 0=>ran0 l
 | k+1=>runL (madeK l rs k) (turnId l k) (rs[k]?.getD 0)
def madeV (l:List (Int×Int)) (rs:List Int):List (Int×Int×Int):=madeK l rs (min rs.length 60)
theorem newC_zero {l:List (Int×Int)} (h:newCL l=0):l≠[]∧okFrom 0 l=true∧l.length≤1024:=by
 unfold newCL at h
 split at h
 ·cases h
 ·rename_i h1
  split at h
  ·cases h
  ·rename_i h2
   split at h
   ·cases h
   ·exact ⟨h1,by simpa using h2,by omega⟩
theorem turnId_mem {l:List (Int×Int)} (h:l≠[]) (k:Nat):∃ x∈l,x.1=turnId l k:=by
 have hk:k % l.length<l.length:=Nat.mod_lt _ (List.length_pos_iff.2 h)
 refine ⟨l[k % l.length],List.getElem_mem hk,?_⟩
 unfold turnId
 rw [List.getElem?_eq_getElem hk];rfl
theorem runC_zero {l:List (Int×Int×Int)} {id t:Int} (h0:0≤t) (h1:t≤68719476736) (hi:∃ x∈l,x.1=id) (h2:sumR l+t≤68719476736):runC l id t=0:=by
 unfold runC
 rw [if_neg (by omega),if_neg (by rw [hasId_iff.2 hi];decide),if_neg (by omega)]
theorem ids_mem {l:List (Int×Int×Int)} {id:Int}:(∃ x∈l,x.1=id)↔id∈idsL l:=by simp [idsL]
theorem runL_ids (l:List (Int×Int×Int)) (id t:Int):idsL (runL l id t)=idsL l:=by
 unfold runL;split
 ·exact bump_ids l id t
 ·rfl
theorem ran0_ids (l:List (Int×Int)):idsL (ran0 l)=l.map (·.1):=by simp [idsL,ran0]
structure MadeOk (l:List (Int×Int)) (rs:List Int) (k:Nat):Prop where
 good:GoodL (madeK l rs k)
 ids:idsL (madeK l rs k)=l.map (·.1)
 sum:0≤sumR (madeK l rs k)∧sumR (madeK l rs k)≤65535*k
theorem made_step {l:List (Int×Int)} {rs:List Int} (hl:newCL l=0) (hf:∀ x∈rs,0≤x∧x≤65535) {k:Nat} {x:Int} (hx:rs[k]?=some x) (hk:k<60) (h:MadeOk l rs k) :
  runC (madeK l rs k) (turnId l k) x=0∧madeK l rs (k+1)=runL (madeK l rs k) (turnId l k) x∧MadeOk l rs (k+1):=by
 have h1:=(newC_zero hl).1
 have hb:=hf x (List.mem_of_getElem? hx)
 obtain ⟨h2,h3,h4⟩:=h
 have hi:∃ y∈madeK l rs k,y.1=turnId l k:=by
  rw [ids_mem,h3,List.mem_map]
  exact turnId_mem h1 k
 have hc:runC (madeK l rs k) (turnId l k) x=0:=runC_zero hb.1 (by omega) hi (by omega)
 have he:madeK l rs (k+1)=runL (madeK l rs k) (turnId l k) x:=by rw [madeK,hx];rfl
 have hr:madeK l rs (k+1)=bump (madeK l rs k) (turnId l k) x:=by rw [he,runL,if_pos hc]
 refine ⟨hc,he,?_,?_,?_⟩
 ·rw [hr];exact h2.bump hi hb.1 (by omega)
 ·rw [he,runL_ids];exact h3
 ·rw [hr,bump_R _ _ _ h2.ids hi];omega
theorem made_start {l:List (Int×Int)} (hl:newCL l=0) (rs:List Int):MadeOk l rs 0:=by
 obtain ⟨h1,h2,h3⟩:=newC_zero hl
 exact ⟨okFrom_good h2 h1 h3,ran0_ids l,by rw [show madeK l rs 0=ran0 l from rfl,ran0_R];omega⟩
def MadeP (l:List (Int×Int)) (rs:List Int) (w:World) (e:Ending) (w':World):Prop:=
 ∃ p g bm cap,e=.returned (.pointer (some ⟨p,0,none⟩))∧MeterAt w' p g bm cap (madeV l rs) l.length∧MadeOk l rs (min rs.length 60)∧w.heap.size≤p∧w.heap.size≤g∧w.heap.size≤bm∧Below w.heap.size w w'
set_option maxRecDepth 100000 in
set_option maxHeartbeats 1000000 in
theorem made_any (b off lcap:Nat) (l:List (Int×Int)) (a:Option Addr) (n cap:Nat) (rs:List Int) (w:World) (hl:newCL l=0) (hp:PairsAt w b off l) (h:WordsIn w a n cap rs) :
  Calls Tryz.prog 41 #[.slice (some ⟨b,off,none⟩) l.length lcap,.slice a n cap] w (MadeP l rs w):=by
 have hmax:=h.max
 have hle:=h.le
 obtain ⟨hl1,hl2,hl3⟩:=newC_zero hl
 have hlp:=List.length_pos_iff.2 hl1
 obtain ⟨m,hm⟩:∃ m:Nat,m=min n 60:=⟨_,rfl⟩
 have e0:min (n:Int) 60=(m:Int):=by omega
 have hmn:m≤n:=by omega
 have hm60:m≤60:=by omega
 have HM:=Lib.hid hm
 have HW:=Lib.hid h
 have HP:=Lib.hid hp
 have A1:=Lib.hid (New_any (.slice (some ⟨b,off,none⟩) l.length lcap) l w ⟨_,lcap,rfl,Or.inr ⟨b,off,rfl,hp⟩⟩ (by omega))
 have HLZ:=Lib.hid hl
 have HOK:=Lib.hid (made_start hl rs)
 have HL1:=Lib.hid hl1
 clear h hp hm hl hl1 hl2
 go_enter Tryz.func41,Tryz.ntmps41
 go_wp2_with fail
 refine A1.out.mono ?_
 rintro e w1 ⟨hb1,⟨h,_⟩ | ⟨_,p,g,bm,capm,rfl,hM,hp1,hg1,hm1⟩⟩
 ·exact absurd HLZ.out h
 have HMt:=Lib.hid hM
 clear hM
 rcases a with _ | ad
 ·have hc0:=HW.out.none rfl
  subst hc0
  have hn0:n=0:=by omega
  subst hn0
  have hm0:m=0:=by omega
  subst hm0
  have e1:min (0:Int) 60=0:=by decide
  have hrs:rs=[]:=List.eq_nil_of_length_eq_zero HW.out.row.1
  clear e0
  go_wp2_with fail
  refine wp_loop_rounds 1 ?_
  rw [rounds_succ]
  go_wp2_with fail
  go_ret
  refine ⟨p,g,bm,capm,rfl,?_,?_,hp1,hg1,hm1,hb1⟩
  ·rw [hrs];exact HMt.out
  ·rw [hrs];exact made_start HLZ.out []
 ·go_wp2_with fail
  go_loopw [26] (fun i wr=>∃ k:Nat,k≤m∧i=.int .i64 k∧MeterAt wr p g bm capm (madeK l rs k) l.length∧MadeOk l rs k∧Below w.heap.size w wr) (fun i _=>m - (RowKit.intOf i).toNat)
  case atStart=>exact ⟨0,Nat.zero_le _,rfl,HMt.out,HOK.out,hb1⟩
  case round =>
   obtain ⟨k,hk,rfl,hM,hO,hb⟩:=hrel
   by_cases hlt:k<m
   ·obtain ⟨br,offr,hadr,hcr⟩:=HW.out.row.2 (by omega)
    obtain rfl:=Option.some.inj hadr
    obtain ⟨x,hx⟩:∃ x,rs[k]?=some x:=⟨_,List.getElem?_eq_getElem (by rw [HW.out.row.1];omega)⟩
    have q0:=cell_later hb (hcr k x hx)
    have hfx:=HW.out.fit x (List.mem_of_getElem? hx)
    obtain ⟨hc,he,hO'⟩:=made_step HLZ.out HW.out.fit hx (by omega) hO
    have hmod:k % l.length<l.length:=Nat.mod_lt _ hlp
    have hq:=(HP.out (k % l.length) l[k % l.length] (List.getElem?_eq_getElem hmod)).1
    replace hq:=cell_later hb hq
    have htid:l[k % l.length].1=turnId l k:=by unfold turnId;rw [List.getElem?_eq_getElem hmod];rfl
    rw [htid] at hq
    have hwf:(Lit.int .i64 (turnId l k)).wf=true:=by
     obtain ⟨y,hy,hye⟩:=turnId_mem HL1.out k
     have:=okFrom_mem (newC_zero HLZ.out).2.1 y hy
     exact WalkArith.wf_i64 (by omega)
    have A2:=Lib.hid (Run_any p g bm capm (madeK l rs k) l.length (turnId l k) x wr hM hwf (WalkArith.wf_i64 (by omega)))
    have HC:=Lib.hid hc
    have HE:=Lib.hid he
    have HO:=Lib.hid hO'
    have hk0:(0:Int)≤(k:Int):=by omega
    have hkm:(k:Int)<(m:Int):=by omega
    have hm0:(0:Int)≤(k:Int) % (l.length:Int):=Int.emod_nonneg _ (by omega)
    have hm1':(k:Int) % (l.length:Int)<(l.length:Int):=Int.emod_lt_of_pos _ (by omega)
    have hmt:((k:Int) % (l.length:Int)).toNat=k % l.length:=by rw [← Int.natCast_emod];exact Int.toNat_natCast _
    have hnz:¬ ((l.length:Int)=0):=by omega
    clear hc he hO' hcr hx htid hM hO hadr
    generalize turnId l k=tid at *
    go_wp2_with fail
    refine A2.out.mono ?_
    rintro e w5 ⟨he,hM5,hk5⟩
    rw [HC.out] at he
    subst he
    rw [← HE.out] at hM5
    have hb5:=Kept.stepB hb (Nat.le_refl _) hk5 (fun i hi=>by simp only [List.mem_cons,List.not_mem_nil,or_false] at hi;have:=hb1.size;omega)
    have HM5:=Lib.hid hM5
    clear hM5 hk5 A2
    go_wp2_with fail
    go_roundw
    case rel=>exact ⟨k+1,by omega,by go_num,HM5.out,HO.out,hb5⟩
    case measure=>simp [RowKit.intOf];omega
   ·obtain rfl:k=m:=by omega
    have hkm:k=min rs.length 60:=by rw [HW.out.row.1];exact HM.out
    have HKM:=Lib.hid hkm
    have HMM:=Lib.hid hM
    have HOO:=Lib.hid hO
    clear hkm hM hO
    go_wp2_with fail
    go_ret
    refine ⟨p,g,bm,capm,rfl,?_,?_,hp1,hg1,hm1,hb⟩
    ·unfold madeV;rw [← HKM.out];exact HMM.out
    ·rw [← HKM.out];exact HOO.out
theorem shV_last (ws:List Int) (hf:∀ x∈ws,0≤x∧x≤65535):newCL (shV ws)=0∧0<(shV ws).length∧(shV ws).length≤12∧lastOf 0 (shV ws)=(shV ws).length:=by
 have hlen:=shK_len ws (min ws.length 12) (by omega)
 have hok:∀ k,k≤ws.length→k≤12→okFrom 0 (shK ws k)=true∧lastOf 0 (shK ws k)=if k=0 then 1 else (k:Int):=by
  intro k
  induction k with
  | zero=>intro _ _;exact ⟨rfl,rfl⟩
  | succ k ih =>
   intro h1 h2
   obtain ⟨i1,i2⟩:=ih (by omega) (by omega)
   have hx:ws[k]?=some ws[k]:=List.getElem?_eq_getElem (by omega)
   have hb:=hf ws[k] (List.getElem_mem _)
   by_cases hk:k=0
   ·subst hk
    rw [shK_zero hx]
    generalize ws[0]=x at *
    simp only [okFrom,okOne,lastOf]
    refine ⟨?_,rfl⟩
    simp
    omega
   ·rw [shK_succ hx (by omega)]
    generalize ws[k]=x at *
    rw [okFrom_append,i1,i2,lastOf_snoc]
    simp only [okFrom,okOne,if_neg hk,Bool.true_and]
    refine ⟨?_,by simp⟩
    simp
    omega
 obtain ⟨h1,h2⟩:=hok (min ws.length 12) (by omega) (by omega)
 have hl:(shV ws).length=max (min ws.length 12) 1:=hlen
 refine ⟨?_,by omega,by omega,?_⟩
 rotate_left
 ·rw [show lastOf 0 (shV ws)=_ from h2]
  split <;> omega
 unfold newCL
 rw [if_neg (fun e=>by rw [e] at hl;simp at hl;omega),if_neg (by show ¬ okFrom 0 (shV ws)=false;rw [show okFrom 0 (shV ws)=true from h1];decide),if_neg (by omega)]
theorem shV_ok (ws:List Int) (hf:∀ x∈ws,0≤x∧x≤65535):newCL (shV ws)=0∧0<(shV ws).length∧(shV ws).length≤12:=
 have h:=shV_last ws hf
 ⟨h.1,h.2.1,h.2.2.1⟩
theorem u16_of {a:Int} (h:(Lit.int .u16 a).wf=true):0≤a∧a≤65535:=bounds_u16 h
theorem words_of {w:World} {s:Option Addr} {l c:Nat} {F:Nat→Nat→Value} (h:PlainRow [some .u16] w s l c F):∃ ws,WordsIn w s l c ws:=by
 rcases h with ⟨rfl,rfl,rfl⟩ | ⟨rfl,hc,x,rfl⟩ | ⟨h0,hl,hm,b,off,rfl,hc⟩
 ·exact ⟨[],⟨rfl,fun h=>absurd h (by omega)⟩,Nat.le_refl _,by omega,fun _=>rfl,fun x hx=>by cases hx⟩
 ·exact ⟨[],⟨rfl,fun h=>absurd h (by omega)⟩,Nat.zero_le _,hc,(fun h=>by cases h),fun x hx=>by cases hx⟩
 ·refine ⟨(List.range l).map fun i=>RowKit.intOf (F i 0),⟨by simp,fun _=>⟨b,off,rfl,fun i x hx=>?_⟩⟩,hl,hm,(fun h=>by cases h),fun x hx=>?_⟩
  ·simp only [List.getElem?_map,Option.map_eq_some_iff] at hx
   obtain ⟨j,hj,rfl⟩:=hx
   obtain ⟨hj1,hj2⟩:=List.getElem?_eq_some_iff.1 hj
   simp only [List.length_range] at hj1
   simp only [List.getElem_range] at hj2
   subst hj2
   obtain ⟨h1,a,ha,hw⟩:=hc i hj1 0 (some .u16) rfl
   rw [ha] at h1 ⊢
   have e:off+i*([some IntKind.u16]:List (Option IntKind)).length+0=off+i:=by simp
   rw [e] at h1
   exact h1
  ·simp only [List.mem_map,List.mem_range] at hx
   obtain ⟨i,hi,rfl⟩:=hx
   obtain ⟨h1,a,ha,hw⟩:=hc i hi 0 (some .u16) rfl
   rw [ha]
   exact u16_of hw
end Go.Proofs.YtapnaocdehahdaaGreat
