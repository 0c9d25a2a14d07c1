/-
  The walks of layer 39 (lag): Clone, Order.
-/
import Derived.Test.YtapnaocdehahdaaGreatLgB
import Derived.Test.YtapnaocdehahdaaGreatKitS
import Derived.Laws.OwnMore
import Derived.OwnWalk
import Derived.ProofKit
import Derived.Shelf.SlSortFuncK.HeapSortK
import Derived.Shelf.SlSortFuncK.ComposeK
namespace Go.Proofs.YtapnaocdehahdaaGreat
open Go.RowKit Go.Maps Go.IntWalk Go.Lib Go.Sort
set_option linter.unusedVariables false
theorem infoRun:(Tryz.prog.info? 174).map (fun i=>(i.zero,i.size,i.bytes))=some (some (.agg #[.int .i64 0,.int .i64 0,.int .i64 0]),3,24):=by kernel_rfl
theorem infoInt:(Tryz.prog.info? 3).map (fun i=>(i.zero,i.size,i.bytes))=some (some (.int .i64 0),1,8):=by kernel_rfl
def flatRL (l:List (Int×Int×Int)):List Value:=(flatK encR 3 l.toArray).toList
theorem flatR_lenL (l:List (Int×Int×Int)):(flatRL l).length=l.length*3:=by simp [flatRL]
theorem flatR_get {l:List (Int×Int×Int)} {j:Nat} {u:Value} (h:(flatRL l)[j]?=some u):∃ x,l[j / 3]?=some x∧u=(encR x)[j % 3]!:=by
 have hj:j<l.length*3:=by
  rcases Nat.lt_or_ge j (l.length*3) with h1 | h1
  ·exact h1
  ·rw [List.getElem?_eq_none (by rw [flatR_lenL];exact h1)] at h;cases h
 have hd:j / 3<l.length:=by omega
 refine ⟨l[j / 3],List.getElem?_eq_getElem hd,?_⟩
 have e:=get_flatK encR 3 l.toArray j (by simpa using hj)
 unfold flatRL at h
 rw [Array.getElem?_toList] at h
 have h2:(flatK encR 3 l.toArray)[j]! = u:=by rw [getElem!_def,h]
 rw [← h2,e]
 congr 2
 simp [hd]
theorem flatR_cell {w:World} {g:Nat} {l:List (Int×Int×Int)} (h:RunsAt w g l) {j:Nat} {u:Value} (hj:(flatRL l)[j]?=some u):w.cell? ((⟨g,0,none⟩:Addr).add j)=some u:=by
 obtain ⟨x,hx,rfl⟩:=flatR_get hj
 obtain ⟨a,b,c⟩:=h _ x hx
 have e:((⟨g,0,none⟩:Addr).add j)=⟨g,j,none⟩:=by unfold Addr.add;by_cases h:j=0 <;> simp [h]
 rw [e]
 have h3:j % 3=0∨j % 3=1∨j % 3=2:=by omega
 rcases h3 with h3 | h3 | h3
 ·rw [h3,show j=j / 3*3 by omega];exact a
 ·rw [h3,show j=j / 3*3+1 by omega];exact b
 ·rw [h3,show j=j / 3*3+2 by omega];exact c
theorem flatR_oneL {l:List (Int×Int×Int)}:∀ u∈flatRL l,u.oneCell'=true:=by
 intro u hu
 obtain ⟨j,hj⟩:=List.getElem?_of_mem hu
 obtain ⟨x,_,rfl⟩:=flatR_get hj
 have h3:j % 3=0∨j % 3=1∨j % 3=2:=by omega
 rcases h3 with h3 | h3 | h3 <;> rw [h3] <;> rfl
def CloneP (l:List (Int×Int×Int)) (n:Nat) (w:World) (e:Ending) (w':World):Prop:=
 ∃ g cap,e=.returned (.slice (some ⟨g,0,none⟩) n cap)∧w'.ownsRow w.heap.size 174 3 (.slice (some ⟨g,0,none⟩) n cap) n (flatRL l)∧Below w.heap.size w w'
set_option maxRecDepth 100000 in
set_option maxHeartbeats 1000000 in
theorem Clone_any (g cap n:Nat) (l:List (Int×Int×Int)) (w:World) (h:RunsAt w g l) (hn:l.length=n) (h1:n≤1024) (h0:0<n) :
  Calls Tryz.prog 178 #[.slice (some ⟨g,0,none⟩) n cap] w (CloneP l n w):=by
 obtain ⟨i0,hi,hz0,hz1,hz2⟩:=info_parts infoRun
 have hs:=@Lib.run_eql_slice_nil Tryz.prog
 have H:=Lib.hid h
 have HN:=Lib.hid hn
 clear h hn
 go_enter Tryz.func178,Tryz.ntmps178
 go_wp2_with (at_builtin;refine wpList_append_own _ rfl _ _ 169 rfl w.heap.size 174 i0 (.agg #[.int .i64 0,.int .i64 0,.int .i64 0]) 3 24 Tryz.underlying169 hi hz0 hz1 hz2 rfl (by decide) _ 0 [] rfl (World.ownsRow_lit w #[] 0 (Nat.le_refl _) (by unfold maxLen;omega) rfl) ⟨g,0,none⟩ n cap (flatRL l) rfl ?c1 ?c2 flatR_oneL ?c3 ?c4 ?c5 ?_)
 case c1=>rw [flatR_lenL,HN.out]
 case c2=>exact fun j u hu=>cell_al _ (flatR_cell H.out hu)
 case c3=>unfold maxLen;omega
 case c4=>omega
 case c5=>simp
 intro v' w1 hown hgrow _
 have hbw:Below w.heap.size w w1:=(Below.allocS (Below.refl _ _) _).grown hgrow (by simp) (fun k hk=>by cases hk;exact Nat.le_refl _)
 obtain ⟨g',cap',rfl⟩:∃ g' cap',v'=.slice (some ⟨g',0,none⟩) n cap':=by
  rcases hown.2 with ⟨_,h⟩ | ⟨g',cap',_,rfl,_⟩
  ·omega
  ·exact ⟨g',cap',rfl⟩
 have HO:=Lib.hid hown
 clear hown hgrow
 go_wp2_with fail
 go_ret
 exact ⟨g',cap',rfl,HO.out,hbw⟩
theorem isAggRun (w:World):(isAgg 174).run Tryz.prog w=.ok true w:=by kernel_rfl
theorem sizeOfRun (w:World):(Go.sizeOf 174).run Tryz.prog w=.ok 3 w:=by kernel_rfl
def SortPL (g:Nat) (lt:(Int×Int×Int)→(Int×Int×Int)→Bool) (l:List (Int×Int×Int)) (w:World) (e:Ending) (w':World):Prop:=
 e=.returned (.tuple #[])∧∃ d,d.Perm l∧(d.Pairwise fun x y=>lt y x=false)∧RunsAt w' g d∧Kept [g] w w'
theorem orV_ltL (a b:Int):orVL a b<0↔a<0∨a=0∧b<0:=by unfold orVL;split <;> omega
theorem cmpI_lt (a b:Int):(Lib.compareInt a b<0↔a<b)∧(Lib.compareInt a b=0↔a=b):=by
 unfold Lib.compareInt;repeat' split
 all_goals omega
theorem orderC_lt (tot wt:Int) (x y:Int×Int×Int):ltOf (orderC tot wt) x y=decide (lagW tot wt y<lagW tot wt x∨lagW tot wt x=lagW tot wt y∧x.1<y.1):=by
 unfold ltOf
 rw [decide_eq_decide]
 unfold orderC
 rw [orV_ltL,(cmpI_lt _ _).1,(cmpI_lt _ _).2,(cmpI_lt _ _).1]
 omega
theorem orderC_swo (tot wt:Int):SWO (ltOf (orderC tot wt)) where
 irrefl x:=by rw [orderC_lt];simp
 trans x y z h1 h2:=by
  rw [orderC_lt] at *
  simp only [decide_eq_true_eq] at *
  generalize lagW tot wt x=a at *
  generalize lagW tot wt y=b at *
  generalize lagW tot wt z=c at *
  omega
 ntrans x y z h1 h2:=by
  rw [orderC_lt] at *
  simp only [decide_eq_false_iff_not] at *
  generalize lagW tot wt x=a at *
  generalize lagW tot wt y=b at *
  generalize lagW tot wt z=c at *
  omega
theorem holds_runs {w:World} {g:Nat} {d:List (Int×Int×Int)} (h:HoldsK encR 3 w g 0 d.toArray):RunsAt w g d:=by
 intro k x hx
 have hk:k<d.length:=(List.getElem?_eq_some_iff.1 hx).1
 have hd:d.toArray[k]! = x:=by
  rw [getElem!_pos d.toArray k (by simpa using hk)]
  simpa using (List.getElem?_eq_some_iff.1 hx).2
 have key:∀ j,j<3→w.cell? ⟨g,k*3+j,none⟩=some (encR x)[j]!:=by
  intro j hj
  have h1:=(h (k*3+j) (by simp only [size_flatK,List.size_toArray];omega)).1
  rw [Nat.zero_add] at h1
  rw [h1,get_flatK _ _ _ _ (by simp only [List.size_toArray];omega),show (k*3+j) / 3=k by omega,show (k*3+j) % 3=j by omega,hd]
  rfl
 exact ⟨key 0 (by omega),key 1 (by omega),key 2 (by omega)⟩
theorem own_holds {w:World} {base g cap:Nat} {l:List (Int×Int×Int)} (h:w.ownsRow base 174 3 (.slice (some ⟨g,0,none⟩) l.length cap) l.length (flatRL l)):HoldsK encR 3 w g 0 l.toArray:=by
 intro j hj
 simp only [size_flatK,List.size_toArray] at hj
 rw [Nat.zero_add]
 refine ⟨?_,h.frozenAt j⟩
 rw [h.cellAt j hj]
 unfold flatRL
 rw [Array.getElem?_toList,getElem!_pos (flatK encR 3 l.toArray) j (by simpa using hj),Array.getElem?_eq_getElem (by simpa using hj)]
 rfl
theorem Sort_anyL (p Bm g cap base:Nat) (tot wt:Int) (l:List (Int×Int×Int)) (w:World) (h:w.ownsRow base 174 3 (.slice (some ⟨g,0,none⟩) l.length cap) l.length (flatRL l))
  (cm:w.cell? ⟨Bm,0,none⟩=some (.pointer (some ⟨p,0,none⟩))) (c2:w.cell? ⟨p,2,none⟩=some (.int .i64 tot)) (c3:w.cell? ⟨p,3,none⟩=some (.int .i64 wt)) (h1:Bm≠g) (h2:p≠g) (hl:l.length<4611686018427387904) :
  Calls Tryz.prog 179 #[.slice (some ⟨g,0,none⟩) l.length cap,.func (.func 180) #[] #[.pointer (some ⟨Bm,0,none⟩)]] w (SortPL g (ltOf (orderC tot wt)) l w):=by
 have eg:∀ args w,(callFunc 180 args).run Tryz.prog w=.ok (.enter 180 args) w:=enters_of Tryz.func180 (by kernel_rfl) rfl
 have hg:g<w.heap.size:=(h.lt g rfl).2
 have hH:=own_holds h
 have hcon:=AnyQ.slices_SortFunc YtapnaocdehahdaaGreat.sortRun 3 isAggRun sizeOfRun encR (fun _=>rfl) (fun x v hv=>by simp [encR] at hv;rcases hv with rfl | rfl | rfl <;> rfl) (orderC tot wt) (orderC_swo tot wt) 180 #[.pointer (some ⟨Bm,0,none⟩)] g 0 cap l.toArray w eg
  (fun m os dk hs x y=>by
   have c:∀ (b o:Nat) (v:Value),b≠g→w.cell? ⟨b,o,none⟩=some v→(sortWorldK encR 3 w g 0 m dk os).cell? ⟨b,o,none⟩=some v:=fun b o v hb hc=>(cell?_sortWorldK_other encR 3 w g 0 m dk os ⟨b,o,none⟩ hb (lt_of_cell hc)).trans hc
   exact OrderF_any p Bm tot wt x.1 x.2.1 x.2.2 y.1 y.2.1 y.2.2 _ (c _ _ _ h1 cm) (c _ _ _ h2 c2) (c _ _ _ h2 c3)) hH hg (by simpa using hl)
 change Calls Tryz.prog 179 _ _ _ at hcon
 refine hcon.mono ?_
 rintro e w' ⟨rfl,d',n,os,hp,hs,rfl⟩
 refine ⟨rfl,d'.toList,perm_of _ _ hp,sorted_of _ _ _ hp.1.symm hs,holds_runs ?_,sortWorldK_kept _ _ _ _ _ _ _ _⟩
 have:=holdsK_sortWorldK encR 3 w g 0 n l.toArray d' os hg hH hp.1
 simpa using this
def IsOrder (l d:List (Int×Int×Int)):Prop:=d.Perm l∧d.Pairwise fun x y=>ltOf (orderC (sumR l) (sumW l)) y x=false
def idsV (d:List (Int×Int×Int)):List Value:=d.map fun x=>.int .i64 x.1
def OrderP (l:List (Int×Int×Int)) (n:Nat) (w:World) (e:Ending) (w':World):Prop:=
 ∃ b d,e=.returned (.slice (some ⟨b,0,none⟩) n n)∧w'.ownsRow w.heap.size 3 1 (.slice (some ⟨b,0,none⟩) n n) n (idsV d)∧IsOrder l d∧Below w.heap.size w w'
theorem RunsAt.later {w w':World} {g:Nat} {d:List (Int×Int×Int)} (h:RunsAt w g d) (hb:Below w.heap.size w w'):RunsAt w' g d:=fun k x hx=>by
 obtain ⟨a,b,c⟩:=h k x hx
 exact ⟨cell_later hb a,cell_later hb b,cell_later hb c⟩
theorem RunsAt.set {w:World} {g b o:Nat} {u:Value} {d:List (Int×Int×Int)} (h:RunsAt w g d) (hb:g≠b):RunsAt (w.setCell ⟨b,o,none⟩ u) g d:=fun k x hx=>by
 obtain ⟨a,b,c⟩:=h k x hx
 exact ⟨cell_set_ne a (Or.inl hb),cell_set_ne b (Or.inl hb),cell_set_ne c (Or.inl hb)⟩
def outV (d:List (Int×Int×Int)) (n k:Nat):List Value:=(idsV d).take k++List.replicate (n - k) (.int .i64 0)
theorem outV_set {d:List (Int×Int×Int)} {n k:Nat} {x:Int×Int×Int} (hx:d[k]?=some x) (hk:k<n):(outV d n k).set k (.int .i64 x.1)=outV d n (k+1):=by
 have hkd:k<d.length:=(List.getElem?_eq_some_iff.1 hx).1
 unfold outV
 have hl:((idsV d).take k).length=k:=by simp [idsV];omega
 have hr:List.replicate (n - k) (Value.int .i64 0)=.int .i64 0::List.replicate (n - (k+1)) (.int .i64 0):=by
  rw [show n - k=(n - (k+1))+1 by omega];rfl
 rw [List.set_append_right _ _ (by omega),hl,Nat.sub_self,hr,List.set_cons_zero,List.take_add_one]
 simp [idsV,hx]
theorem outV_end {d:List (Int×Int×Int)} {n:Nat} (h:d.length=n):outV d n n=idsV d:=by
 unfold outV idsV;subst h;simp [List.take_of_length_le]
theorem outV_start (d:List (Int×Int×Int)) (n:Nat):outV d n 0=List.replicate n (.int .i64 0):=by simp [outV]
set_option maxRecDepth 100000 in
set_option maxHeartbeats 1000000 in
theorem Order_any (p g bm cap:Nat) (l:List (Int×Int×Int)) (n:Nat) (w:World) (h:MeterAt w p g bm cap l n) :
  Calls Tryz.prog 102 #[.pointer (some ⟨p,0,none⟩)] w (OrderP l n w):=by
 obtain ⟨i0,hi,hz0,hz1,hz2⟩:=info_parts infoInt
 have A0:=Lib.hid fun W=>some_any p g bm cap l n W
 obtain rfl:=h.len
 have hmany:=h.good.many
 have hpos:=h.good.pos
 have H1:=Lib.hid (h.below (below_a w (.cells #[.pointer (some ⟨p,0,none⟩)] 87)))
 have cm:=cell_nw w #[.pointer (some ⟨p,0,none⟩)] 87 0 _ rfl
 have c0:=H1.out.c0
 have hlt:=h.lts
 have hb0:=below_a w (.cells #[.pointer (some ⟨p,0,none⟩)] 87)
 have hsz:w.heap.size<(w.alloc (.cells #[.pointer (some ⟨p,0,none⟩)] 87)).heap.size:=by simp
 have hz:(l.length:Int).toNat=l.length:=by omega
 have H:=Lib.hid h
 clear h
 go_enter Tryz.func102,Tryz.ntmps102
 go_wp2_with fail
 generalize w.alloc (.cells #[.pointer (some ⟨p,0,none⟩)] 87)=wa at *
 refine (A0.out _ H1.out).mono ?_;rintro e w1 ⟨rfl,rfl⟩
 have A1:=Lib.hid (Clone_any g cap l.length l wa H1.out.runs rfl hmany hpos)
 go_wp2_with fail
 refine A1.out.mono ?_;rintro e w1 ⟨gc,capc,rfl,hown,hb1⟩
 have hgc:=(hown.lt gc rfl).1
 have hgc2:=(hown.lt gc rfl).2
 have A2:=Lib.hid (Sort_anyL p w.heap.size gc capc wa.heap.size (sumR l) (sumW l) l w1 hown (cell_later hb1 cm) (cell_later hb1 H1.out.c2) (cell_later hb1 H1.out.c3) (by omega) (by omega) (by omega))
 replace cm:=cell_later hb1 cm
 clear hown c0 A1
 go_wp2_with fail
 refine A2.out.mono ?_;rintro e w2 ⟨rfl,d,hperm,hsorted,hruns,hk2⟩
 have hb2:Below w.heap.size w w2:=Kept.stepB (Below.step hb0 hb1) (Nat.le_refl _) hk2 (fun k hk=>by simp only [List.mem_singleton] at hk;omega)
 have hlen:d.length=l.length:=hperm.length_eq
 have HD:=Lib.hid (show IsOrder l d from ⟨hperm,hsorted⟩)
 have HR:=Lib.hid hruns
 have HL:=Lib.hid hlen
 clear hperm hsorted hruns A2 hk2 hlen
 go_wp2_with (at_make;refine wpList_make_full _ rfl _ _ 42 rfl w.heap.size 3 i0 (.int .i64 0) 1 Tryz.underlying42 hi hz0 hz1 _ _ _ _ l.length rfl rfl rfl rfl ?c1 ?c2 ?c3 ?_)
 case c1=>rw [hz2];omega
 case c2=>unfold maxLen;omega
 case c3=>exact hb2.size
 intro w3 hown hgrow
 have hb3':Below w2.heap.size w2 w3:=(Below.refl _ _).grown hgrow (Nat.le_refl _) (fun k hk=>by cases hk)
 have hb3:Below w.heap.size w w3:=Below.step hb2 hb3'
 have hR3:=HR.out.later hb3'
 have hgb:gc≠w2.heap.size:=by 
  obtain ⟨x0,hx0⟩:∃ x,d[0]?=some x:=⟨_,List.getElem?_eq_getElem (by rw [HL.out];exact hpos)⟩
  have:=lt_of_cell (HR.out 0 x0 hx0).1
  omega
 have hbw:w.heap.size≤w2.heap.size:=hb2.size
 simp only [toList_madeCells_one] at hown
 rw [← outV_start d] at hown
 generalize w2.heap.size=b at *
 clear hgrow hb3' hb2 hb1 cm hgc hgc2
 go_wp2_with fail
 go_loopw [23] (fun i wr=>∃ k:Nat,k≤l.length∧i=.int .i64 k∧wr.ownsRow w.heap.size 3 1 (.slice (some ⟨b,0,none⟩) l.length l.length) l.length (outV d l.length k)∧RunsAt wr gc d∧Below w.heap.size w wr) (fun i _=>l.length - (RowKit.intOf i).toNat)
 case atStart=>exact ⟨0,Nat.zero_le _,rfl,hown,hR3,hb3⟩
 case round =>
  obtain ⟨k,hk,rfl,ho,hr,hb⟩:=hrel
  clear hown hR3 hb3
  by_cases hlt:k<l.length
  ·obtain ⟨⟨y1,y2,y3⟩,hy⟩:∃ x,d[k]?=some x:=⟨_,List.getElem?_eq_getElem (by rw [HL.out];exact hlt)⟩
   obtain ⟨q0,q1,q2⟩:=hr k _ hy
   simp only at q0 q1 q2
   have HS:=Lib.hid (outV_set hy hlt)
   have HO:=Lib.hid ho
   have HRR:=Lib.hid hr
   have hk0:(0:Int)≤(k:Int):=by omega
   have hkn:(k:Int)<(l.length:Int):=by omega
   have hbl:b<wr.heap.size:=(ho.lt b rfl).2
   have oc:wr.cell? ⟨b,k,none⟩=some ((outV d l.length k)[k]?.getD undef):=by
    rw [ho.cellAt k (by omega)]
    have:k<(outV d l.length k).length:=by rw [ho.1];omega
    rw [List.getElem?_eq_getElem this];rfl
   have of:wr.frozen? ⟨b,k,none⟩=false:=ho.frozenAt k
   generalize (outV d l.length k)[k]?.getD undef=ov at oc
   have oc':=cell_al (.cells #[.int .i64 y1,.int .i64 y2,.int .i64 y3] 174) oc
   clear ho hr hy
   go_wp2_with fail
   go_roundw
   case rel =>
    exact ⟨k+1,by omega,by go_num,by rw [← HS.out];exact (HO.out.stored k (.int .i64 y1)).1.alloc _,(HRR.out.set hgb).later (below_a _ _),Below.allocS (hb.setCell (p:=⟨b,k,none⟩) hbw _) _⟩
   case measure=>simp [RowKit.intOf];omega
  ·obtain rfl:k=l.length:=by omega
   rw [outV_end HL.out] at ho
   have HO:=Lib.hid ho
   clear ho hr
   go_wp2_with fail
   go_ret
   exact ⟨b,d,rfl,HO.out,HD.out,hb⟩
end Go.Proofs.YtapnaocdehahdaaGreat
