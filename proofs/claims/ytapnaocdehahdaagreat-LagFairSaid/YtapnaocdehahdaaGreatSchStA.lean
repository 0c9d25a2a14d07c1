/-
  Layers 30 and 31: a whole state, in plain words and in memory; slices.Clone; a state's box.
-/
import Derived.Test.YtapnaocdehahdaaGreatSchS
import Derived.Test.YtapnaocdehahdaaGreatKtB
namespace Go.Proofs.YtapnaocdehahdaaGreat
open Go.RowKit Go.Maps Go.IntWalk Go.Lib
set_option linter.unusedVariables false
set_option linter.unusedSimpArgs false
structure TVw where
 id:Int
 g:Int
 w:Int
 cpu:Int
 mask:Int
 rdy:Bool
 v:Int
 r:Int
structure Sta where
 C:Int
 cr:Int
 Gs:Grps
 cl:List Int
 cu:List Int
 ts:List TVw
 sp:List (List (Int×Int×Int))
def encTl (t:TVw):List Value:=[.int .i64 t.id,.int .i64 t.g,.int .i64 t.w,.int .i64 t.cpu,.int .u64 t.mask,.bool t.rdy,.int .u64 t.v,.int .u32 t.r]
def encSp (x:Int×Int×Int):List Value:=[.int .u64 x.1,.int .u32 x.2.1,.int .u64 x.2.2]
def encZ1 (x:Int):List Value:=[.int .i64 x]
def encSl (x:Option Addr×Nat×Nat):List Value:=[.slice x.1 x.2.1 x.2.2]
theorem encTl_ok:Enc encTl 8:=⟨fun _=>rfl,fun x u hu=>by simp [encTl] at hu;rcases hu with rfl | rfl | rfl | rfl | rfl | rfl | rfl | rfl <;> rfl,by decide⟩
theorem encSp_ok:Enc encSp 3:=⟨fun _=>rfl,fun x u hu=>by simp [encSp] at hu;rcases hu with rfl | rfl | rfl <;> rfl,by decide⟩
theorem encZ1_ok:Enc encZ1 1:=⟨fun _=>rfl,fun x u hu=>by simp [encZ1] at hu;subst hu;rfl,by decide⟩
theorem encSl_ok:Enc encSl 1:=⟨fun _=>rfl,fun x u hu=>by simp [encSl] at hu;subst hu;rfl,by decide⟩
structure SpotsH (F:List Nat) (w:World) (v:Value) (sp:List (List (Int×Int×Int))):Prop where
 rows:∃ l:List (Option Addr×Nat×Nat),l.length=sp.length∧HeldR encSl F w v l∧∀ (i:Nat) (a:Option Addr×Nat×Nat) (x:List (Int×Int×Int)),l[i]?=some a→sp[i]?=some x→HeldR encSp F w (.slice a.1 a.2.1 a.2.2) x
section
variable {F F':List Nat} {w w':World} {v:Value} {σ:Sta}
theorem SpotsH.step {sp:List (List (Int×Int×Int))} (h:SpotsH F w v sp) (hk:Kept F w w') (hn:∀ b∈F',b∈F∨w.heap.size≤b):SpotsH F' w' v sp:=by
 obtain ⟨l,h1,h2,h3⟩:=h.rows
 exact ⟨l,h1,h2.step hk hn,fun i a x q r=>(h3 i a x q r).step hk hn⟩
end
theorem cells_held {α:Type} {enc:α→List Value} {k n c:Nat} (he:Enc enc k) {F:List Nat} {w:World} {a:Option Addr} {l:List α} (h:HeldR enc F w (.slice a n c) l) {i:Nat} {y:α} (hy:l[i]?=some y):∃ b off,a=some ⟨b,off,none⟩∧(b∉F∧b<w.heap.size)∧∀ j u,(enc y)[j]?=some u→w.cell? ⟨b,off+i*k+j,none⟩=some u:=by
 obtain ⟨a',c',e,_,_,_,q⟩:=h
 cases e
 have hi:=(List.getElem?_eq_some_iff.1 hy).1
 rcases q with q | ⟨b,off,rfl,hb,hc⟩
 ·rw [q] at hi;simp at hi
 ·refine ⟨b,off,rfl,hb,fun j u hj=>?_⟩
  have hjk:j<k:=by rw [← he.len y];exact (List.getElem?_eq_some_iff.1 hj).1
  have:=hc (i*k+j) u ((flatR_at he hy j hjk).trans hj)
  rwa [← Nat.add_assoc] at this
theorem ints_recs {w:World} {b n:Nat} {f:Nat→Int} (h:IntsAt w b n f):∀ j u,(flatR encZ1 ((List.range n).map f))[j]?=some u→w.cell? ⟨b,j,none⟩=some u:=fun j u hu=>by
 have hj:j<n:=by
  have:=(List.getElem?_eq_some_iff.1 hu).1
  rw [flatR_len encZ1_ok] at this
  simpa using this
 have h1:=flatR_at encZ1_ok (L:=(List.range n).map f) (i:=j) (x:=f j) (by rw [List.getElem?_map,List.getElem?_range hj];rfl) 0 (by decide)
 rw [Nat.mul_one,Nat.add_zero,hu] at h1
 cases h1
 exact h.c j hj
theorem grps_recs {w:World} {b:Nat} {Gs:Grps} (h:GrpsAt w b Gs):∀ j u,(flatR encG Gs)[j]?=some u→w.cell? ⟨b,j,none⟩=some u:=fun j u hu=>by
 have hj:j<Gs.length*2:=by rw [← flatR_len encG_ok];exact (List.getElem?_eq_some_iff.1 hu).1
 have hi:j / 2<Gs.length:=by omega
 have hx:Gs[j / 2]?=some Gs[j / 2]!:=by rw [getElem!_pos Gs _ hi];exact List.getElem?_eq_getElem hi
 have h1:=flatR_at encG_ok hx (j % 2) (by omega)
 rw [show j / 2*2+j % 2=j by omega,hu] at h1
 obtain ⟨c0,c1⟩:=h.c _ hi
 rcases (show j % 2=0∨j % 2=1 by omega) with q | q
 ·rw [q] at h1
  cases h1
  rw [show j / 2*2=j by omega] at c0
  exact c0
 ·rw [q] at h1
  cases h1
  rw [show j / 2*2+1=j by omega] at c1
  exact c1
def ClonP (enc:List Value) (t:TypeId) (k n:Nat) (w:World) (e:Ending) (w':World):Prop:=∃ g c,e=.returned (.slice (some ⟨g,0,none⟩) n c)∧w'.ownsRow w.heap.size t k (.slice (some ⟨g,0,none⟩) n c) n enc∧Below w.heap.size w w'
set_option maxRecDepth 100000 in
set_option maxHeartbeats 1000000 in
theorem IClone_at {w:World} {b c:Nat} {f:Nat→Int} {n:Nat} (h:IntsAt w b n f) (h0:0<n) (h1:n≤64):Calls Tryz.prog 49 #[.slice (some ⟨b,0,none⟩) n c] w (ClonP (flatR encZ1 ((List.range n).map f)) 3 1 n w):=by
 obtain ⟨i0,hi,hz0,hz1,hz2⟩:=info_parts infoI
 have hs:=@Lib.run_eql_slice_nil Tryz.prog
 have HC:=Lib.hid (ints_recs h)
 have HL:=Lib.hid (show (flatR encZ1 ((List.range n).map f)).length=n*1 by rw [flatR_len encZ1_ok];first | done | simp)
 have HO1:=Lib.hid (flatR_one encZ1_ok)
 obtain ⟨xs,hxs⟩:∃ xs,xs=flatR encZ1 ((List.range n).map f):=⟨_,rfl⟩
 have HO2:=Lib.hid (show ∀ u∈xs,u.oneCell'=true by rw [hxs];exact HO1.out _)
 rw [← hxs] at HC HL ⊢
 obtain ⟨N,hn⟩:∃ N,N=n:=⟨_,rfl⟩
 rw [← hn] at HL h0 h1 ⊢
 clear h hn hxs HO1
 go_enter Tryz.func49,Tryz.ntmps49
 go_wp2_with (at_builtin;refine wpList_append_own _ rfl _ _ 42 rfl w.heap.size 3 i0 (.int .i64 0) 1 8 Tryz.underlying42 hi hz0 hz1 hz2 rfl (by decide) _ 0 [] rfl (World.ownsRow_lit w #[] 0 (Nat.le_refl _) (by unfold maxLen;omega) rfl) ⟨b,0,none⟩ N c xs rfl ?c1 ?c2 HO2.out ?c3 ?c4 ?c5 ?_)
 case c1=>exact HL.out
 case c2=>exact fun j u hu=>by rw [addN,Nat.zero_add];exact cell_al _ (HC.out j u hu)
 case c3=>unfold maxLen;omega
 case c4=>omega
 case c5=>simp
 intro v' w1 hown hgrow _
 have hbw:Below w.heap.size w w1:=(Below.allocS (Below.refl _ _) _).grown hgrow (by simp) (fun k hk=>by cases hk;exact Nat.le_refl _)
 obtain ⟨g',cap',rfl⟩:∃ g' cap',v'=.slice (some ⟨g',0,none⟩) N cap':=by
  rcases hown.2 with ⟨_,h⟩ | ⟨g',cap',_,rfl,_⟩
  ·omega
  ·exact ⟨g',cap',rfl⟩
 have HOW:=Lib.hid hown
 clear hown hgrow
 go_wp2_with fail
 go_ret
 exact ⟨g',cap',rfl,HOW.out,hbw⟩
set_option maxRecDepth 100000 in
set_option maxHeartbeats 1000000 in
theorem GpClone_at {w:World} {b c:Nat} {f:Grps} (h:GrpsAt w b f) (h0:0<f.length) (h1:f.length≤256):Calls Tryz.prog 46 #[.slice (some ⟨b,0,none⟩) f.length c] w (ClonP (flatR encG f) 72 2 f.length w):=by
 obtain ⟨i0,hi,hz0,hz1,hz2⟩:=info_parts infoGroup
 have hs:=@Lib.run_eql_slice_nil Tryz.prog
 have HC:=Lib.hid (grps_recs h)
 have HL:=Lib.hid (show (flatR encG f).length=f.length*2 by rw [flatR_len encG_ok];first | done | simp)
 have HO1:=Lib.hid (flatR_one encG_ok)
 obtain ⟨xs,hxs⟩:∃ xs,xs=flatR encG f:=⟨_,rfl⟩
 have HO2:=Lib.hid (show ∀ u∈xs,u.oneCell'=true by rw [hxs];exact HO1.out _)
 rw [← hxs] at HC HL ⊢
 obtain ⟨N,hn⟩:∃ N,N=f.length:=⟨_,rfl⟩
 rw [← hn] at HL h0 h1 ⊢
 clear h hn hxs HO1
 go_enter Tryz.func46,Tryz.ntmps46
 go_wp2_with (at_builtin;refine wpList_append_own _ rfl _ _ 35 rfl w.heap.size 72 i0 (.agg #[.int .i64 0,.int .i64 0]) 2 16 Tryz.underlying35 hi hz0 hz1 hz2 rfl (by decide) _ 0 [] rfl (World.ownsRow_lit w #[] 0 (Nat.le_refl _) (by unfold maxLen;omega) rfl) ⟨b,0,none⟩ N c xs rfl ?c1 ?c2 HO2.out ?c3 ?c4 ?c5 ?_)
 case c1=>exact HL.out
 case c2=>exact fun j u hu=>by rw [addN,Nat.zero_add];exact cell_al _ (HC.out j u hu)
 case c3=>unfold maxLen;omega
 case c4=>omega
 case c5=>simp
 intro v' w1 hown hgrow _
 have hbw:Below w.heap.size w w1:=(Below.allocS (Below.refl _ _) _).grown hgrow (by simp) (fun k hk=>by cases hk;exact Nat.le_refl _)
 obtain ⟨g',cap',rfl⟩:∃ g' cap',v'=.slice (some ⟨g',0,none⟩) N cap':=by
  rcases hown.2 with ⟨_,h⟩ | ⟨g',cap',_,rfl,_⟩
  ·omega
  ·exact ⟨g',cap',rfl⟩
 have HOW:=Lib.hid hown
 clear hown hgrow
 go_wp2_with fail
 go_ret
 exact ⟨g',cap',rfl,HOW.out,hbw⟩
structure StB (w:World) (b:Nat) (C cr:Int) (vg vl vu vt vs:Value):Prop where
 c0:w.cell? ⟨b,0,none⟩=some (.int .i64 C)
 c1:w.cell? ⟨b,1,none⟩=some (.int .u64 cr)
 c2:w.cell? ⟨b,2,none⟩=some vg
 c3:w.cell? ⟨b,3,none⟩=some vl
 c4:w.cell? ⟨b,4,none⟩=some vu
 c5:w.cell? ⟨b,5,none⟩=some vt
 c6:w.cell? ⟨b,6,none⟩=some vs
 z:∀ j,w.frozen? ⟨b,j,none⟩=false
section
variable {w w':World} {b:Nat} {C cr C' cr':Int} {vg vl vu vt vs vg' vl' vu' vt' vs':Value} {G:List Nat}
theorem StB.lt (h:StB w b C cr vg vl vu vt vs):b<w.heap.size:=lt_of_cell h.c0
theorem StB.kept (h:StB w b C cr vg vl vu vt vs) (hk:Kept G w w') (hb:b∉G):StB w' b C cr vg vl vu vt vs:=⟨hk.cellAt h.c0 hb,hk.cellAt h.c1 hb,hk.cellAt h.c2 hb,hk.cellAt h.c3 hb,hk.cellAt h.c4 hb,hk.cellAt h.c5 hb,hk.cellAt h.c6 hb,fun j=>hk.frz (h.z j) h.lt hb⟩
theorem StB.later (h:StB w b C cr vg vl vu vt vs) (hb:Below w.heap.size w w'):StB w' b C cr vg vl vu vt vs:=h.kept (G:=[]) (Kept.of hb) (by simp)
theorem StB.made (w:World) (t:TypeId) (C cr:Int) (vg vl vu vt vs:Value):StB (w.alloc (.cells #[.int .i64 C,.int .u64 cr,vg,vl,vu,vt,vs] t)) w.heap.size C cr vg vl vu vt vs:=⟨cell_nw w _ _ 0 _ rfl,cell_nw w _ _ 1 _ rfl,cell_nw w _ _ 2 _ rfl,cell_nw w _ _ 3 _ rfl,cell_nw w _ _ 4 _ rfl,cell_nw w _ _ 5 _ rfl,cell_nw w _ _ 6 _ rfl,fun j=>frz_nw w _ _ j⟩
theorem StB.grps (h:StB w b C cr vg vl vu vt vs) (v:Value):StB (w.setCell ⟨b,2,none⟩ v) b C cr v vl vu vt vs:=⟨cell_set_ne h.c0 (Or.inr (by decide)),cell_set_ne h.c1 (Or.inr (by decide)),cell_set_eq h.c2,cell_set_ne h.c3 (Or.inr (by decide)),cell_set_ne h.c4 (Or.inr (by decide)),cell_set_ne h.c5 (Or.inr (by decide)),cell_set_ne h.c6 (Or.inr (by decide)),fun j=>by rw [World.frozen?_setCell];exact h.z j⟩
theorem StB.spots (h:StB w b C cr vg vl vu vt vs) (v:Value):StB (w.setCell ⟨b,6,none⟩ v) b C cr vg vl vu vt v:=⟨cell_set_ne h.c0 (Or.inr (by decide)),cell_set_ne h.c1 (Or.inr (by decide)),cell_set_ne h.c2 (Or.inr (by decide)),cell_set_ne h.c3 (Or.inr (by decide)),cell_set_ne h.c4 (Or.inr (by decide)),cell_set_ne h.c5 (Or.inr (by decide)),cell_set_eq h.c6,fun j=>by rw [World.frozen?_setCell];exact h.z j⟩
def fillB (w:World) (b:Nat) (C cr:Int) (vg vl vu vt vs:Value):World:=((((((w.setCell ⟨b,0,none⟩ (.int .i64 C)).setCell ⟨b,1,none⟩ (.int .u64 cr)).setCell ⟨b,2,none⟩ vg).setCell ⟨b,3,none⟩ vl).setCell ⟨b,4,none⟩ vu).setCell ⟨b,5,none⟩ vt).setCell ⟨b,6,none⟩ vs
theorem fillB_below {B:Nat} {w0:World} (h:Below B w0 w) (hb:B≤b):Below B w0 (fillB w b C cr vg vl vu vt vs):=((((((h.setCell hb _).setCell hb _).setCell hb _).setCell hb _).setCell hb _).setCell hb _).setCell hb _
theorem fillB_kept:Kept [b] w (fillB w b C cr vg vl vu vt vs):=(((((((Kept.refl [b] w).setCell (Or.inl (by simp)) _).setCell (Or.inl (by simp)) _).setCell (Or.inl (by simp)) _).setCell (Or.inl (by simp)) _).setCell (Or.inl (by simp)) _).setCell (Or.inl (by simp)) _).setCell (Or.inl (by simp)) _
theorem StB.fill (h:StB w b C' cr' vg' vl' vu' vt' vs'):StB (fillB w b C cr vg vl vu vt vs) b C cr vg vl vu vt vs:=by
 unfold fillB
 refine ⟨?_,?_,?_,?_,?_,?_,?_,fun j=>by simp only [World.frozen?_setCell];exact h.z j⟩
 ·exact cell_set_ne (cell_set_ne (cell_set_ne (cell_set_ne (cell_set_ne (cell_set_ne (cell_set_eq (h.c0)) (Or.inr (by decide))) (Or.inr (by decide))) (Or.inr (by decide))) (Or.inr (by decide))) (Or.inr (by decide))) (Or.inr (by decide))
 ·exact cell_set_ne (cell_set_ne (cell_set_ne (cell_set_ne (cell_set_ne (cell_set_eq (cell_set_ne (h.c1) (Or.inr (by decide)))) (Or.inr (by decide))) (Or.inr (by decide))) (Or.inr (by decide))) (Or.inr (by decide))) (Or.inr (by decide))
 ·exact cell_set_ne (cell_set_ne (cell_set_ne (cell_set_ne (cell_set_eq (cell_set_ne (cell_set_ne (h.c2) (Or.inr (by decide))) (Or.inr (by decide)))) (Or.inr (by decide))) (Or.inr (by decide))) (Or.inr (by decide))) (Or.inr (by decide))
 ·exact cell_set_ne (cell_set_ne (cell_set_ne (cell_set_eq (cell_set_ne (cell_set_ne (cell_set_ne (h.c3) (Or.inr (by decide))) (Or.inr (by decide))) (Or.inr (by decide)))) (Or.inr (by decide))) (Or.inr (by decide))) (Or.inr (by decide))
 ·exact cell_set_ne (cell_set_ne (cell_set_eq (cell_set_ne (cell_set_ne (cell_set_ne (cell_set_ne (h.c4) (Or.inr (by decide))) (Or.inr (by decide))) (Or.inr (by decide))) (Or.inr (by decide)))) (Or.inr (by decide))) (Or.inr (by decide))
 ·exact cell_set_ne (cell_set_eq (cell_set_ne (cell_set_ne (cell_set_ne (cell_set_ne (cell_set_ne (h.c5) (Or.inr (by decide))) (Or.inr (by decide))) (Or.inr (by decide))) (Or.inr (by decide))) (Or.inr (by decide)))) (Or.inr (by decide))
 ·exact cell_set_eq (cell_set_ne (cell_set_ne (cell_set_ne (cell_set_ne (cell_set_ne (cell_set_ne (h.c6) (Or.inr (by decide))) (Or.inr (by decide))) (Or.inr (by decide))) (Or.inr (by decide))) (Or.inr (by decide))) (Or.inr (by decide)))
end
theorem infoTk:(Tryz.prog.info? 59).map (fun i=>(i.zero,i.size,i.bytes))=some (some (.agg #[.int .i64 0,.int .i64 0,.int .i64 0,.int .i64 0,.int .u64 0,.bool false,.int .u64 0,.int .u32 0]),8,64):=by kernel_rfl
theorem infoSpt:(Tryz.prog.info? 121).map (fun i=>(i.zero,i.size,i.bytes))=some (some (.agg #[.int .u64 0,.int .u32 0,.int .u64 0]),3,24):=by kernel_rfl
theorem infoSptR:(Tryz.prog.info? 69).map (fun i=>(i.zero,i.size,i.bytes))=some (some (.slice none 0 0),1,24):=by kernel_rfl
theorem mRC_at {C cr:Int} {v:Value} {Gs:Grps} (w:World) (h:RecsAt encG w v Gs) (hC:1≤C∧C≤64) (hc:0≤cr∧cr≤1099511627776) (hr:RightG Gs) :
  Calls Tryz.prog 45 #[.agg #[.int .i64 C,.int .u64 cr,v]] w fun e w'=>e=.returned (.bool true)∧Below w.heap.size w w':=by
 have z1:decide (C ≥ 1)=true:=decide_eq_true hC.1
 have z1':decide (1≤C)=true:=z1
 have z2:decide (C≤64)=true:=decide_eq_true hC.2
 have z3:decide (cr≤1099511627776)=true:=decide_eq_true hc.2
 have A1:=Lib.hid fun W (hb:Below w.heap.size w W)=>(show Calls Tryz.prog 106 #[v] W fun e w'=>e=.returned (.bool true)∧Below W.heap.size W w' by
  have:=gRight_at v Gs W (h.later hb)
  rw [show decide ((checkG Gs).2=0)=true from decide_eq_true (checkG_right.2 hr)] at this
  exact this)
 clear h hC hc hr
 go_enter Tryz.func45,Tryz.ntmps45
 go_wp2_with fail
 refine (A1.out _ (below_a w _)).mono ?_;rintro e w5 ⟨rfl,hb5⟩
 go_wp2_with fail
 go_ret
 exact ⟨rfl,Below.step (below_a w _) hb5⟩
end Go.Proofs.YtapnaocdehahdaaGreat
