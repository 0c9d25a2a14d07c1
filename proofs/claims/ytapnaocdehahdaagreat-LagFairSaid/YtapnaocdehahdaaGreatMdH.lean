/-
  Layer 30 (model): the parts of spawn, for a task of the root whose ID is the greatest.
-/
import Derived.Test.YtapnaocdehahdaaGreatMdF
import Derived.Test.YtapnaocdehahdaaGreatSchKb
namespace Go.Proofs.YtapnaocdehahdaaGreat
open Go.RowKit Go.Maps Go.IntWalk Go.Lib
set_option linter.unusedVariables false
set_option linter.unusedSimpArgs false
theorem mwide_at (mk:Int) (C:Nat) (w:World) (hC:1≤C∧C≤64):Calls Tryz.prog 147 #[.int .u64 mk,.int .i64 C] w fun e w'=>e=.returned (.bool (wideM mk C))∧w=w':=by
 obtain ⟨v1,v2,s1,s2,s3⟩:=wide_shift (m:=mk) hC.1 hC.2
 have zw:IntKind.i64.wrap ((C:Int) - 1)=(C:Int) - 1:=IntWalk.i64_in _ (by omega)
 have zw':wrap64 ((C:Int) - 1)=(C:Int) - 1:=IntWalk.wrap64_in _ (by omega)
 rw [← s3]
 clear s3 hC
 go_enter Tryz.func147,Tryz.ntmps147
 go_wp2_with fail
 go_ret
 exact ⟨rfl,rfl⟩
theorem mempty0_at (x c:Nat) (w:World):Calls Tryz.prog 148 #[.pointer (some ⟨x,0,none⟩),.int .i64 0,.int .i64 c] w fun e w'=>e=.returned (.slice none 0 0)∧w=w':=by
 go_enter Tryz.func148,Tryz.ntmps148
 go_wp2_with fail
 refine wp_loop_rounds 1 ?_
 rw [rounds_succ]
 go_wp2_with fail
 go_ret
 exact ⟨rfl,rfl⟩
theorem mwake0_at (x c:Nat) (w:World):Calls Tryz.prog 154 #[.pointer (some ⟨x,0,none⟩),.slice none 0 0,.int .i64 c] w fun e w'=>e=.returned (.tuple #[])∧w=w':=by
 go_enter Tryz.func154,Tryz.ntmps154
 go_wp2_with fail
 refine wp_loop_rounds 1 ?_
 rw [rounds_succ]
 go_wp2_with fail
 exact bodyPost_end (v:=.tuple #[]) (by simp [results,Tryz.results154,go_sem]) rfl ⟨rfl,rfl⟩
theorem spC_at {w:World} {b8:Nat} {id:Int} (y:TVw) (c8:w.cell? ⟨b8,0,none⟩=some (.int .i64 id)):Calls Tryz.prog 152 #[valTl y,.pointer (some ⟨b8,0,none⟩)] w fun e w'=>e=.returned (.bool (decide (y.id > id)))∧Below w.heap.size w w':=by
 unfold valTl
 have hlt:=lt_of_cell c8
 have c9:=cell_al (.cells #[.int .i64 y.id,.int .i64 y.g,.int .i64 y.w,.int .i64 y.cpu,.int .u64 y.mask,.bool y.rdy,.int .u64 y.v,.int .u32 y.r] 59) c8
 go_enter Tryz.func152,Tryz.ntmps152
 go_wp2_with fail
 go_ret
 exact ⟨rfl,below_a _ _⟩
set_option maxRecDepth 100000 in
set_option maxHeartbeats 1000000 in
theorem ixf_none {w:World} {v:Value} {tb:Option Nat} {ts:List TVw} {b8:Nat} {id:Int} (h:TsAt w v tb ts) (hid:∀ y∈ts,y.id<id) (hn:ts.length≤1000000) (c8:w.cell? ⟨b8,0,none⟩=some (.int .i64 id)) :
  Calls Tryz.prog 151 #[v,.func (.func 152) #[] #[.pointer (some ⟨b8,0,none⟩)]] w fun e w'=>e=.returned (.int .i64 (-1))∧Below w.heap.size w w':=by
 obtain ⟨a,c,rfl⟩:=h.shape
 have HT:=Lib.hid h
 have HID:=Lib.hid hid
 have HC8:=Lib.hid c8
 obtain ⟨n,hnn⟩:∃ n,n=ts.length:=⟨_,rfl⟩
 rw [← hnn] at hn ⊢
 have HN:=Lib.hid hnn
 have HB0:=Lib.hid (Below.refl w.heap.size w)
 clear h hid c8 hnn
 go_enter Tryz.func151,Tryz.ntmps151
 go_wp2_with fail
 go_loopw [8] (fun i wr=>∃ k:Nat,k≤n∧i=.int .i64 k∧Hid (Below w.heap.size w wr)) (fun i _=>n - (RowKit.intOf i).toNat)
 case atStart=>exact ⟨0,Nat.zero_le _,rfl,HB0⟩
 case round =>
  clear HB0
  obtain ⟨k,hk,rfl,HB⟩:=hrel
  by_cases hlt:k<n
  ·as_aux_lemma =>
   obtain ⟨y,hy⟩:∃ y,ts[k]?=some y:=⟨_,List.getElem?_eq_getElem (by rw [← HN.out];exact hlt)⟩
   obtain ⟨bt,ct,_,e⟩:=HT.out.some hy
   cases e
   have hki:(k:Int)<(n:Int):=by omega
   have u0:wr.cell? ⟨bt,k*8,none⟩=some (.int .i64 y.id):=cell_later HB.out (HT.out.cell hy (j:=0) (by decide)).1
   have u1:wr.cell? ⟨bt,k*8+1,none⟩=some (.int .i64 y.g):=cell_later HB.out (HT.out.cell hy (j:=1) (by decide)).1
   have u2:wr.cell? ⟨bt,k*8+2,none⟩=some (.int .i64 y.w):=cell_later HB.out (HT.out.cell hy (j:=2) (by decide)).1
   have u3:wr.cell? ⟨bt,k*8+3,none⟩=some (.int .i64 y.cpu):=cell_later HB.out (HT.out.cell hy (j:=3) (by decide)).1
   have u4:wr.cell? ⟨bt,k*8+4,none⟩=some (.int .u64 y.mask):=cell_later HB.out (HT.out.cell hy (j:=4) (by decide)).1
   have u5:wr.cell? ⟨bt,k*8+5,none⟩=some (.bool y.rdy):=cell_later HB.out (HT.out.cell hy (j:=5) (by decide)).1
   have u6:wr.cell? ⟨bt,k*8+6,none⟩=some (.int .u64 y.v):=cell_later HB.out (HT.out.cell hy (j:=6) (by decide)).1
   have u7:wr.cell? ⟨bt,k*8+7,none⟩=some (.int .u32 y.r):=cell_later HB.out (HT.out.cell hy (j:=7) (by decide)).1
   have hlt2:y.id<id:=HID.out y (List.mem_of_getElem? hy)
   have AF:=Lib.hid (spC_at y (cell_later HB.out HC8.out))
   rw [show decide (y.id > id)=false from decide_eq_false (by omega)] at AF
   unfold valTl at AF
   clear hlt2 hy
   go_wp2_with fail
   refine AF.out.mono ?_;clear AF;rintro e w5 ⟨rfl,hb5⟩
   go_wp2_with fail
   go_roundw
   case rel=>exact ⟨k+1,by omega,by go_num,Lib.hid (Below.step HB.out hb5)⟩
   case measure=>simp [RowKit.intOf];omega
  ·as_aux_lemma =>
   obtain rfl:k=n:=by omega
   have hki:¬ (k:Int)<(k:Int):=by omega
   go_wp2_with fail
   go_ret
   exact ⟨rfl,HB.out⟩
set_option maxRecDepth 100000 in
set_option maxHeartbeats 1000000 in
theorem ins_end {w:World} {v:Value} {tb:Option Nat} {ts:List TVw} {bn:Nat} {y:TVw} (h:TsAt w v tb ts) (hn:ts.length≤1000000) (cy:∀ j u,(encTl y)[j]?=some u→w.cell? ⟨bn,j,none⟩=some u) :
  Calls Tryz.prog 153 #[v,.int .i64 ts.length,.slice (some ⟨bn,0,none⟩) 1 1] w fun e w'=>∃ v' tb',e=.returned v'∧TsAt w' v' tb' (ts++[y])∧Kept tb.toList w w'∧∀ b,tb'=some b→tb=some b∨w.heap.size≤b:=by
 obtain ⟨i0,hi,hz0,hz1,hz2⟩:=info_parts infoTk
 obtain ⟨a,c,rfl⟩:=h.shape
 have HT:=Lib.hid h
 have HCY:=Lib.hid cy
 have hcap:ts.length≤c:=by
  obtain ⟨_,_,e,q,_⟩:=h.held (F:=[]) (by simp)
  cases e
  exact q
 have HO1:=Lib.hid (show ∀ u∈encTl y,u.oneCell'=true from fun u hu=>encTl_ok.one y u hu)
 have hbk:=h.blk
 obtain ⟨n,hnn⟩:∃ n,n=ts.length:=⟨_,rfl⟩
 rw [← hnn] at hn hcap hbk ⊢
 have HN:=Lib.hid hnn
 have HBK:=Lib.hid hbk
 clear h cy hnn hbk
 by_cases hcn:c=n
 ·subst c
  go_enter Tryz.func153,Tryz.ntmps153
  have hown:=HT.out.own
  rw [← HN.out] at hown
  go_wp2_with (at_builtin;refine wpList_append_own2 rfl _ _ 43 rfl 0 59 i0 (.agg #[.int .i64 0,.int .i64 0,.int .i64 0,.int .i64 0,.int .u64 0,.bool false,.int .u64 0,.int .u32 0]) 8 64 Tryz.underlying43 hi hz0 hz1 hz2 rfl (by decide) _ n (flatR encTl ts) rfl hown ⟨bn,0,none⟩ 1 1 (encTl y) rfl ?c1 ?c2 HO1.out ?c3 ?c4 ?c5 (by decide) ?_)
  case c1=>rfl
  case c2=>exact fun j u hu=>by rw [addN,Nat.zero_add];exact HCY.out j u hu
  case c3=>unfold maxLen;omega
  case c4=>omega
  case c5=>omega
  intro v' w1 hown1 hgrow hblk
  have HP:=Lib.hid (show TsAt w1 v' v'.ownBlock (ts++[y])∧Kept tb.toList w w1∧∀ b,v'.ownBlock=some b→tb=some b∨w.heap.size≤b by
   refine ⟨⟨?_,rfl⟩,?_,fun b hb=>?_⟩
   ·rw [List.length_append,flatR_app,← HN.out]
    have e:flatR encTl [y]=encTl y:=by simp [flatR]
    rw [e];exact hown1
   ·have:=grown_kept hgrow
    rw [HBK.out] at this
    exact this
   ·rcases hblk with q | q
    ·exact Or.inl (by rw [← HBK.out,← q];exact hb)
    ·rw [q] at hb;cases hb;exact Or.inr (Nat.le_refl _))
  clear hown hown1 hgrow hblk
  go_wp2_with fail
  go_ret
  exact ⟨v',v'.ownBlock,rfl,HP.out⟩
 ·go_enter Tryz.func153,Tryz.ntmps153
  have hown:=HT.out.own
  rw [← HN.out] at hown
  go_wp2_with (at_builtin;refine wpList_append_own2 rfl _ _ 43 rfl 0 59 i0 (.agg #[.int .i64 0,.int .i64 0,.int .i64 0,.int .i64 0,.int .u64 0,.bool false,.int .u64 0,.int .u32 0]) 8 64 Tryz.underlying43 hi hz0 hz1 hz2 rfl (by decide) _ n (flatR encTl ts) rfl hown ⟨bn,0,none⟩ 1 1 (encTl y) rfl ?c1 ?c2 HO1.out ?c3 ?c4 ?c5 (by decide) ?_)
  case c1=>rfl
  case c2=>exact fun j u hu=>by rw [addN,Nat.zero_add];exact HCY.out j u hu
  case c3=>unfold maxLen;omega
  case c4=>omega
  case c5=>omega
  intro v' w1 hown1 hgrow hblk
  have HP:=Lib.hid (show TsAt w1 v' v'.ownBlock (ts++[y])∧Kept tb.toList w w1∧∀ b,v'.ownBlock=some b→tb=some b∨w.heap.size≤b by
   refine ⟨⟨?_,rfl⟩,?_,fun b hb=>?_⟩
   ·rw [List.length_append,flatR_app,← HN.out]
    have e:flatR encTl [y]=encTl y:=by simp [flatR]
    rw [e];exact hown1
   ·have:=grown_kept hgrow
    rw [HBK.out] at this
    exact this
   ·rcases hblk with q | q
    ·exact Or.inl (by rw [← HBK.out,← q];exact hb)
    ·rw [q] at hb;cases hb;exact Or.inr (Nat.le_refl _))
  clear hown hown1 hgrow hblk
  go_wp2_with fail
  go_ret
  exact ⟨v',v'.ownBlock,rfl,HP.out⟩
end Go.Proofs.YtapnaocdehahdaaGreat
