/-
  Layer 31 (sched): view, Task.
-/
import Derived.Test.YtapnaocdehahdaaGreatSchQ
namespace Go.Proofs.YtapnaocdehahdaaGreat
open Go.RowKit Go.Maps Go.IntWalk Go.Lib
set_option linter.unusedVariables false
set_option linter.unusedSimpArgs false
def encTv (id:Int) (t:Tsk) (y:Ent):Value:=.agg #[.int .i64 id,.int .i64 t.g,.int .i64 t.w,.int .i64 t.cpu,.int .u64 t.mask,.bool t.rdy,.int .u64 y.1,.int .u32 y.2.1]
theorem lit_run {P:Program} {ty:TypeId} {parts:Array (Nat×Operand)} {dst:Option Nat} {tt:TypeId} {pos:String} {after:Array Edge} {gd:Option (Nat×Bool)} {ev:Operand→Value} {w:World} (vs:Array (Nat×Value)) (cells:Array Value)
  (he:parts.map (fun p=>(p.1,ev p.2))=vs) (hb:P.built ty vs.toList=some cells):(execOp ev ⟨dst,.build ty parts,tt,pos,after,gd⟩).run P w=.ok (.value (.agg cells)) w:=by
 have h:=run_build w ty vs cells hb
 rw [← he] at h
 show Sem.run P (do pure (Next.value (← Instr.build ty (parts.map (fun p=>(p.1,ev p.2)))))) w=_
 simp [h]
set_option maxRecDepth 100000 in
set_option maxHeartbeats 4000000 in
theorem xview_at {w:World} {x:Nat} {L:SLay} {s:SSt} {id:Int} {t:Tsk} (h:SRaw w x L s) (ho:SOk s) (hT:s.T id=some t) :
  Calls Tryz.prog 52 #[.pointer (some ⟨x,0,none⟩),.int .i64 id] w fun e w'=>e=.returned (encTv id t (ranX s id t))∧Below w.heap.size w w':=by
 have hid:=wfTask ho hT
 obtain ⟨W0,hW0⟩:∃ W0,W0=w.alloc (.cells #[.int .i64 0,.int .i64 0,.int .i64 0,.int .i64 0,.int .u64 0,.bool false,.int .u64 0,.int .u32 0] 59):=⟨_,rfl⟩
 have HB0:=Lib.hid (show Below w.heap.size w W0 by rw [hW0];exact below_a _ _)
 have h0:=h.below HB0.out
 have x5:W0.cell? ⟨x,5,none⟩=some (.map (some L.bm)):=h0.head.c5
 have hlk:=h0.look hid
 rw [hT] at hlk
 have hlk2:(Instr.lookup 96 (.map (some L.bm)) (.int .i64 id) false).run Tryz.prog W0=.ok (.pointer (some ⟨L.tp id,0,none⟩)) W0:=hlk
 have A1:=Lib.hid (xran_at h0 ho hT)
 have tk:=h0.tk id t hT
 have z0:W0.cell? ⟨w.heap.size,0,none⟩=some (.int .i64 0):=by rw [hW0];exact cell_nw _ _ _ 0 _ rfl
 have g0:W0.frozen? ⟨w.heap.size,0,none⟩=false:=by rw [hW0];exact frz_nw _ _ _ 0
 have z1:W0.cell? ⟨w.heap.size,1,none⟩=some (.int .i64 0):=by rw [hW0];exact cell_nw _ _ _ 1 _ rfl
 have g1:W0.frozen? ⟨w.heap.size,1,none⟩=false:=by rw [hW0];exact frz_nw _ _ _ 1
 have z2:W0.cell? ⟨w.heap.size,2,none⟩=some (.int .i64 0):=by rw [hW0];exact cell_nw _ _ _ 2 _ rfl
 have g2:W0.frozen? ⟨w.heap.size,2,none⟩=false:=by rw [hW0];exact frz_nw _ _ _ 2
 have z3:W0.cell? ⟨w.heap.size,3,none⟩=some (.int .i64 0):=by rw [hW0];exact cell_nw _ _ _ 3 _ rfl
 have g3:W0.frozen? ⟨w.heap.size,3,none⟩=false:=by rw [hW0];exact frz_nw _ _ _ 3
 have z4:W0.cell? ⟨w.heap.size,4,none⟩=some (.int .u64 0):=by rw [hW0];exact cell_nw _ _ _ 4 _ rfl
 have g4:W0.frozen? ⟨w.heap.size,4,none⟩=false:=by rw [hW0];exact frz_nw _ _ _ 4
 have z5:W0.cell? ⟨w.heap.size,5,none⟩=some (.bool false):=by rw [hW0];exact cell_nw _ _ _ 5 _ rfl
 have g5:W0.frozen? ⟨w.heap.size,5,none⟩=false:=by rw [hW0];exact frz_nw _ _ _ 5
 have z6:W0.cell? ⟨w.heap.size,6,none⟩=some (.int .u64 0):=by rw [hW0];exact cell_nw _ _ _ 6 _ rfl
 have g6:W0.frozen? ⟨w.heap.size,6,none⟩=false:=by rw [hW0];exact frz_nw _ _ _ 6
 have z7:W0.cell? ⟨w.heap.size,7,none⟩=some (.int .u32 0):=by rw [hW0];exact cell_nw _ _ _ 7 _ rfl
 have g7:W0.frozen? ⟨w.heap.size,7,none⟩=false:=by rw [hW0];exact frz_nw _ _ _ 7
 have LT:=Lib.hid (show w.heap.size<W0.heap.size by rw [hW0];simp)
 obtain ⟨xe,hxe⟩:∃ xe,xe=ranX s id t:=⟨_,rfl⟩
 rw [← hxe] at A1 ⊢
 have HNB:=Lib.hid (show L.tp id≠w.heap.size by have:=(h.tk id t hT).lt;omega)
 obtain ⟨bx,hbx⟩:∃ b,b=w.heap.size:=⟨_,rfl⟩
 rw [← hbx] at z0 z1 z2 z3 z4 z5 z6 z7 g0 g1 g2 g3 g4 g5 g6 g7 LT HNB
 have HBX:=Lib.hid hbx
 have HW0:=Lib.hid hW0
 have HTK:=Lib.hid tk
 obtain ⟨bt,hbt⟩:∃ b,b=L.tp id:=⟨_,rfl⟩
 rw [← hbt] at hlk2 A1 HTK HNB
 clear h ho hT hid h0 hlk tk hxe hbx hW0 hbt
 go_enter Tryz.func52,Tryz.ntmps52
 go_upto_region 1 with fail
 rw [← HW0.out,← HBX.out]
 go_wp2_with fail
 refine A1.out.mono ?_;rintro e w5 ⟨rfl,hb5⟩
 have hb6:=Below.step hb5 (below_a w5 (.cells #[.int .u64 xe.1,.int .u32 xe.2.1,.int .u32 xe.2.2] 107))
 have x0:=cell_nw w5 #[.int .u64 xe.1,.int .u32 xe.2.1,.int .u32 xe.2.2] 107 0 _ rfl
 have x1:=cell_nw w5 #[.int .u64 xe.1,.int .u32 xe.2.1,.int .u32 xe.2.2] 107 1 _ rfl
 have HTK6:=Lib.hid (HTK.out.kept (G:=[]) (Kept.of hb6) (by simp))
 obtain ⟨W6,hW6⟩:∃ W,W=w5.alloc (.cells #[.int .u64 xe.1,.int .u32 xe.2.1,.int .u32 xe.2.2] 107):=⟨_,rfl⟩
 rw [← hW6] at hb6 x0 x1 HTK6
 replace z0:=cell_later hb6 z0
 replace g0:=frz_later hb6 g0 LT.out
 replace z1:=cell_later hb6 z1
 replace g1:=frz_later hb6 g1 LT.out
 replace z2:=cell_later hb6 z2
 replace g2:=frz_later hb6 g2 LT.out
 replace z3:=cell_later hb6 z3
 replace g3:=frz_later hb6 g3 LT.out
 replace z4:=cell_later hb6 z4
 replace g4:=frz_later hb6 g4 LT.out
 replace z5:=cell_later hb6 z5
 replace g5:=frz_later hb6 g5 LT.out
 replace z6:=cell_later hb6 z6
 replace g6:=frz_later hb6 g6 LT.out
 replace z7:=cell_later hb6 z7
 replace g7:=frz_later hb6 g7 LT.out
 have c0:=HTK6.out.c0
 have c1:=HTK6.out.c1
 have c2:=HTK6.out.c2
 have c3:=HTK6.out.c3
 have c4:=HTK6.out.c4
 have HW6:=Lib.hid hW6
 have HB6:=Lib.hid (Below.step HB0.out hb6)
 obtain ⟨b6,hb6'⟩:∃ b,b=w5.heap.size:=⟨_,rfl⟩
 rw [← hb6'] at x0 x1
 have HB6':=Lib.hid hb6'
 have HB6N:=Lib.hid (show bx<b6 by have:=LT.out;have:=hb5.size;omega)
 have HWS:=Lib.hid hb6.size
 clear hb5 hb6 hW6 hb6'
 go_upto_region 3 with fail
 rw [← HW6.out,← HB6'.out]
 clear HW6 HB6'
 have n1:bt∉[bx]:=by have:=HNB.out;simpa using this
 have n2:b6∉[bx]:=by have:=HB6N.out;simp;omega
 go_wp2_with fail
 have hbn:w.heap.size≤bx:=by have:=HBX.out;omega
 refine startB (S:=fun w'=>Kept [bx] W6 w'∧w'.cell? ⟨bt,0,none⟩=some (.int .i64 t.g)∧w'.cell? ⟨bt,1,none⟩=some (.int .i64 t.w)∧w'.cell? ⟨bt,2,none⟩=some (.int .i64 t.cpu)∧w'.cell? ⟨bt,3,none⟩=some (.int .u64 t.mask)∧w'.cell? ⟨bt,4,none⟩=some (.bool t.rdy)∧w'.cell? ⟨b6,0,none⟩=some (.int .u64 xe.1)∧w'.cell? ⟨b6,1,none⟩=some (.int .u32 xe.2.1)) ⟨Kept.refl _ _,c0,c1,c2,c3,c4,x0,x1⟩ (fun h=>heldK_7 (kept_dr _ _) h) (fun hS00 hS0 hHeld=>?_)
 obtain ⟨wc101,hwc101⟩:∃ X,X=W6.drew:=⟨_,rfl⟩
 rw [← hwc101] at hHeld ⊢
 have hWc101:Below W6.heap.size W6 wc101:=by rw [hwc101];exact (Below.refl _ _).drew
 clear hwc101
 refine takeA 0 ?_
 refine takeA 1 ?_
 refine takeA 2 ?_
 refine takeA 3 ?_
 refine takeA 4 ?_
 refine takeA 5 ?_
 refine takeA 6 ?_
 refine takeA 7 ?_
 refine takeA 8 ?_
 refine takeA 9 ?_
 refine takeA 10 ?_
 refine takeA 11 ?_
 refine takeA 12 ?_
 refine takeA 13 ?_
 refine takeA 14 ?_
 refine takeA 15 ?_
 refine takeA 16 ?_
 refine takeA 17 ?_
 refine takeA 18 ?_
 refine takeA 19 ?_
 refine takeA 20 ?_
 refine takeA 21 ?_
 refine takeA 22 ?_
 refine takeA 23 ?_
 refine takeA 24 ?_
 refine takeH (i:=25) (v:=.agg #[.int .i64 id,.int .i64 t.g,.int .i64 t.w,.int .i64 t.cpu,.int .u64 t.mask,.bool t.rdy,.int .u64 xe.1,.int .u32 xe.2.1]) rfl (by kernel_rfl) (fun _ _ _ h=>h) (by rfl) (fun w _=>lit_run #[(0,.int .i64 id),(1,.int .i64 t.g),(2,.int .i64 t.w),(3,.int .i64 t.cpu),(4,.int .u64 t.mask),(5,.bool t.rdy),(6,.int .u64 xe.1),(7,.int .u32 xe.2.1)] #[.int .i64 id,.int .i64 t.g,.int .i64 t.w,.int .i64 t.cpu,.int .u64 t.mask,.bool t.rdy,.int .u64 xe.1,.int .u32 xe.2.1] (by kernel_rfl) (by kernel_rfl)) (by assumption) ?_
 try simp only [Act.put,List.setIfInBounds_toArray,List.set_cons_zero,List.set_cons_succ]
 refine readyA [26] (consA (fun K hK=>?_) .nil)
 have hbl:W0.heap.size≤W6.heap.size:=HWS.out
 replace z0:=cell_later hWc101 z0
 replace g0:=frz_later hWc101 g0 (Nat.lt_of_lt_of_le LT.out hbl)
 replace z1:=cell_later hWc101 z1
 replace g1:=frz_later hWc101 g1 (Nat.lt_of_lt_of_le LT.out hbl)
 replace z2:=cell_later hWc101 z2
 replace g2:=frz_later hWc101 g2 (Nat.lt_of_lt_of_le LT.out hbl)
 replace z3:=cell_later hWc101 z3
 replace g3:=frz_later hWc101 g3 (Nat.lt_of_lt_of_le LT.out hbl)
 replace z4:=cell_later hWc101 z4
 replace g4:=frz_later hWc101 g4 (Nat.lt_of_lt_of_le LT.out hbl)
 replace z5:=cell_later hWc101 z5
 replace g5:=frz_later hWc101 g5 (Nat.lt_of_lt_of_le LT.out hbl)
 replace z6:=cell_later hWc101 z6
 replace g6:=frz_later hWc101 g6 (Nat.lt_of_lt_of_le LT.out hbl)
 replace z7:=cell_later hWc101 z7
 replace g7:=frz_later hWc101 g7 (Nat.lt_of_lt_of_le LT.out hbl)
 go_simp
 have hk26:=(((((((((Kept.of (S:=[bx]) hWc101).setCell (p:=⟨bx,0,none⟩) (Or.inl (by simp)) (.int .i64 id)).setCell (p:=⟨bx,1,none⟩) (Or.inl (by simp)) (.int .i64 t.g)).setCell (p:=⟨bx,2,none⟩) (Or.inl (by simp)) (.int .i64 t.w)).setCell (p:=⟨bx,3,none⟩) (Or.inl (by simp)) (.int .i64 t.cpu)).setCell (p:=⟨bx,4,none⟩) (Or.inl (by simp)) (.int .u64 t.mask)).setCell (p:=⟨bx,5,none⟩) (Or.inl (by simp)) (.bool t.rdy)).setCell (p:=⟨bx,6,none⟩) (Or.inl (by simp)) (.int .u64 xe.1)).setCell (p:=⟨bx,7,none⟩) (Or.inl (by simp)) (.int .u32 xe.2.1))
 have HBZ:=Lib.hid (((((((((Below.step HB6.out hWc101).setCell (p:=⟨bx,0,none⟩) hbn (.int .i64 id)).setCell (p:=⟨bx,1,none⟩) hbn (.int .i64 t.g)).setCell (p:=⟨bx,2,none⟩) hbn (.int .i64 t.w)).setCell (p:=⟨bx,3,none⟩) hbn (.int .i64 t.cpu)).setCell (p:=⟨bx,4,none⟩) hbn (.int .u64 t.mask)).setCell (p:=⟨bx,5,none⟩) hbn (.bool t.rdy)).setCell (p:=⟨bx,6,none⟩) hbn (.int .u64 xe.1)).setCell (p:=⟨bx,7,none⟩) hbn (.int .u32 xe.2.1))
 refine outA hK (heldK_7 hk26 hS00) (fun hHeld26=>?_)
 clear hK K
 refine doneA ?_
 have EZ:=Lib.hid hHeld26
 clear hHeld26 hHeld hk26 c0 c1 c2 c3 c4 x0 x1 HTK HTK6
 go_wp2_with fail
 refine bodyPost_ret (v:=encTv id t xe) (by simp [results,Tryz.results52,go_sem,encTv,z0,z1,z2,z3,z4,z5,z6,z7]) rfl ⟨rfl,HBZ.out⟩
def taskC (s:SSt) (id:Int):Int:=if nameV id=true then (if (s.T id).isSome then 0 else 6) else 301
def taskV (s:SSt) (id:Int):Value:=match s.T id with
 | some t=>if nameV id=true then encTv id t (ranX s id t) else .agg #[.int .i64 0,.int .i64 0,.int .i64 0,.int .i64 0,.int .u64 0,.bool false,.int .u64 0,.int .u32 0]
 | none=>.agg #[.int .i64 0,.int .i64 0,.int .i64 0,.int .i64 0,.int .u64 0,.bool false,.int .u64 0,.int .u32 0]
set_option maxRecDepth 100000 in
set_option maxHeartbeats 4000000 in
theorem xTask_at {w:World} {x:Nat} {L:SLay} {s:SSt} (id:Int) (h:SRaw w x L s) (ho:SOk s) (hid:(Lit.int .i64 id).wf=true) :
  Calls Tryz.prog 24 #[.pointer (some ⟨x,0,none⟩),.int .i64 id] w fun e w'=>e=.returned (.tuple #[taskV s id,.int .i64 (taskC s id)])∧Below w.heap.size w w':=by
 obtain ⟨W0,hW0⟩:∃ W0,W0=w.alloc (.cells #[.int .i64 0,.int .i64 0,.int .i64 0,.int .i64 0,.int .u64 0,.bool false,.int .u64 0,.int .u32 0] 59):=⟨_,rfl⟩
 have HB0:=Lib.hid (show Below w.heap.size w W0 by rw [hW0];exact below_a _ _)
 have h0:=h.below HB0.out
 have x5:W0.cell? ⟨x,5,none⟩=some (.map (some L.bm)):=h0.head.c5
 have hlk:=h0.look hid
 have A1:=Lib.hid (xsome_at h0 ho.cpus.1)
 have A2:=Lib.hid (snamed_at id W0)
 have z0:W0.cell? ⟨w.heap.size,0,none⟩=some (.int .i64 0):=by rw [hW0];exact cell_nw _ _ _ 0 _ rfl
 have g0:W0.frozen? ⟨w.heap.size,0,none⟩=false:=by rw [hW0];exact frz_nw _ _ _ 0
 have z1:W0.cell? ⟨w.heap.size,1,none⟩=some (.int .i64 0):=by rw [hW0];exact cell_nw _ _ _ 1 _ rfl
 have g1:W0.frozen? ⟨w.heap.size,1,none⟩=false:=by rw [hW0];exact frz_nw _ _ _ 1
 have z2:W0.cell? ⟨w.heap.size,2,none⟩=some (.int .i64 0):=by rw [hW0];exact cell_nw _ _ _ 2 _ rfl
 have g2:W0.frozen? ⟨w.heap.size,2,none⟩=false:=by rw [hW0];exact frz_nw _ _ _ 2
 have z3:W0.cell? ⟨w.heap.size,3,none⟩=some (.int .i64 0):=by rw [hW0];exact cell_nw _ _ _ 3 _ rfl
 have g3:W0.frozen? ⟨w.heap.size,3,none⟩=false:=by rw [hW0];exact frz_nw _ _ _ 3
 have z4:W0.cell? ⟨w.heap.size,4,none⟩=some (.int .u64 0):=by rw [hW0];exact cell_nw _ _ _ 4 _ rfl
 have g4:W0.frozen? ⟨w.heap.size,4,none⟩=false:=by rw [hW0];exact frz_nw _ _ _ 4
 have z5:W0.cell? ⟨w.heap.size,5,none⟩=some (.bool false):=by rw [hW0];exact cell_nw _ _ _ 5 _ rfl
 have g5:W0.frozen? ⟨w.heap.size,5,none⟩=false:=by rw [hW0];exact frz_nw _ _ _ 5
 have z6:W0.cell? ⟨w.heap.size,6,none⟩=some (.int .u64 0):=by rw [hW0];exact cell_nw _ _ _ 6 _ rfl
 have g6:W0.frozen? ⟨w.heap.size,6,none⟩=false:=by rw [hW0];exact frz_nw _ _ _ 6
 have z7:W0.cell? ⟨w.heap.size,7,none⟩=some (.int .u32 0):=by rw [hW0];exact cell_nw _ _ _ 7 _ rfl
 have g7:W0.frozen? ⟨w.heap.size,7,none⟩=false:=by rw [hW0];exact frz_nw _ _ _ 7
 have LT:=Lib.hid (show w.heap.size<W0.heap.size by rw [hW0];simp)
 have HW0:=Lib.hid hW0
 have HS0:=Lib.hid h0
 have HO:=Lib.hid ho
 obtain ⟨bx,hbx⟩:∃ b,b=w.heap.size:=⟨_,rfl⟩
 rw [← hbx] at z0 z1 z2 z3 z4 z5 z6 z7 g0 g1 g2 g3 g4 g5 g6 g7 LT
 have HBX:=Lib.hid hbx
 have hbn:w.heap.size≤bx:=by omega
 clear h ho h0 hW0 hbx hid
 cases hn:nameV id with
 | false =>
  have EC:=Lib.hid (show taskC s id=301 by unfold taskC;rw [hn];rfl)
  have EV:=Lib.hid (show taskV s id=.agg #[.int .i64 0,.int .i64 0,.int .i64 0,.int .i64 0,.int .u64 0,.bool false,.int .u64 0,.int .u32 0] by unfold taskV;rw [hn];cases s.T id <;> rfl)
  rw [hn] at A2
  clear hn hlk x5
  go_enter Tryz.func24,Tryz.ntmps24
  go_wp2_with fail
  rw [← HW0.out,← HBX.out]
  refine A1.out.mono ?_;rintro e w5 ⟨rfl,rfl⟩
  go_wp2_with fail
  refine A2.out.mono ?_;rintro e w5 ⟨rfl,rfl⟩
  go_wp2_with fail
  refine bodyPost_ret (v:=.tuple #[.agg #[.int .i64 0,.int .i64 0,.int .i64 0,.int .i64 0,.int .u64 0,.bool false,.int .u64 0,.int .u32 0],.int .i64 301]) (by simp [results,Tryz.results24,go_sem,z0,z1,z2,z3,z4,z5,z6,z7]) rfl ⟨by rw [EV.out,EC.out],((((((((HB0.out.setCell (p:=⟨bx,0,none⟩) hbn _).setCell (p:=⟨bx,1,none⟩) hbn _).setCell (p:=⟨bx,2,none⟩) hbn _).setCell (p:=⟨bx,3,none⟩) hbn _).setCell (p:=⟨bx,4,none⟩) hbn _).setCell (p:=⟨bx,5,none⟩) hbn _).setCell (p:=⟨bx,6,none⟩) hbn _).setCell (p:=⟨bx,7,none⟩) hbn _)⟩
 | true =>
  rw [hn] at A2
  cases hT:s.T id with
  | none =>
   have EC:=Lib.hid (show taskC s id=6 by unfold taskC;rw [hn,hT];rfl)
   have EV:=Lib.hid (show taskV s id=.agg #[.int .i64 0,.int .i64 0,.int .i64 0,.int .i64 0,.int .u64 0,.bool false,.int .u64 0,.int .u32 0] by unfold taskV;rw [hT])
   rw [hT] at hlk
   have hlk2:(Instr.lookup 96 (.map (some L.bm)) (.int .i64 id) false).run Tryz.prog W0=.ok (.pointer none) W0:=hlk
   clear hn hlk hT
   go_enter Tryz.func24,Tryz.ntmps24
   go_wp2_with fail
   rw [← HW0.out,← HBX.out]
   refine A1.out.mono ?_;rintro e w5 ⟨rfl,rfl⟩
   go_wp2_with fail
   refine A2.out.mono ?_;rintro e w5 ⟨rfl,rfl⟩
   go_wp2_with fail
   refine bodyPost_ret (v:=.tuple #[.agg #[.int .i64 0,.int .i64 0,.int .i64 0,.int .i64 0,.int .u64 0,.bool false,.int .u64 0,.int .u32 0],.int .i64 6]) (by simp [results,Tryz.results24,go_sem,z0,z1,z2,z3,z4,z5,z6,z7]) rfl ⟨by rw [EV.out,EC.out],((((((((HB0.out.setCell (p:=⟨bx,0,none⟩) hbn _).setCell (p:=⟨bx,1,none⟩) hbn _).setCell (p:=⟨bx,2,none⟩) hbn _).setCell (p:=⟨bx,3,none⟩) hbn _).setCell (p:=⟨bx,4,none⟩) hbn _).setCell (p:=⟨bx,5,none⟩) hbn _).setCell (p:=⟨bx,6,none⟩) hbn _).setCell (p:=⟨bx,7,none⟩) hbn _)⟩
  | some t =>
   have EC:=Lib.hid (show taskC s id=0 by unfold taskC;rw [hn,hT];rfl)
   have EV:=Lib.hid (show taskV s id=encTv id t (ranX s id t) by unfold taskV;rw [hn,hT];rfl)
   have A3:=Lib.hid (xview_at HS0.out HO.out hT)
   rw [hT] at hlk
   have hlk2:(Instr.lookup 96 (.map (some L.bm)) (.int .i64 id) false).run Tryz.prog W0=.ok (.pointer (some ⟨L.tp id,0,none⟩)) W0:=hlk
   obtain ⟨xe,hxe⟩:∃ xe,xe=ranX s id t:=⟨_,rfl⟩
   rw [← hxe] at A3 EV
   clear hn hlk hT hxe
   unfold encTv at A3 EV
   go_enter Tryz.func24,Tryz.ntmps24
   go_wp2_with fail
   rw [← HW0.out,← HBX.out]
   refine A1.out.mono ?_;rintro e w5 ⟨rfl,rfl⟩
   go_wp2_with fail
   refine A2.out.mono ?_;rintro e w5 ⟨rfl,rfl⟩
   go_wp2_with fail
   refine A3.out.mono ?_;rintro e w6 ⟨rfl,hb6⟩
   replace z0:=cell_later hb6 z0
   replace g0:=frz_later hb6 g0 LT.out
   replace z1:=cell_later hb6 z1
   replace g1:=frz_later hb6 g1 LT.out
   replace z2:=cell_later hb6 z2
   replace g2:=frz_later hb6 g2 LT.out
   replace z3:=cell_later hb6 z3
   replace g3:=frz_later hb6 g3 LT.out
   replace z4:=cell_later hb6 z4
   replace g4:=frz_later hb6 g4 LT.out
   replace z5:=cell_later hb6 z5
   replace g5:=frz_later hb6 g5 LT.out
   replace z6:=cell_later hb6 z6
   replace g6:=frz_later hb6 g6 LT.out
   replace z7:=cell_later hb6 z7
   replace g7:=frz_later hb6 g7 LT.out
   have HB6:=Lib.hid (Below.step HB0.out hb6)
   go_wp2_with fail
   refine bodyPost_ret (v:=.tuple #[.agg #[.int .i64 id,.int .i64 t.g,.int .i64 t.w,.int .i64 t.cpu,.int .u64 t.mask,.bool t.rdy,.int .u64 xe.1,.int .u32 xe.2.1],.int .i64 0]) (by simp [results,Tryz.results24,go_sem,z0,z1,z2,z3,z4,z5,z6,z7]) rfl ⟨by rw [EV.out,EC.out],((((((((HB6.out.setCell (p:=⟨bx,0,none⟩) hbn _).setCell (p:=⟨bx,1,none⟩) hbn _).setCell (p:=⟨bx,2,none⟩) hbn _).setCell (p:=⟨bx,3,none⟩) hbn _).setCell (p:=⟨bx,4,none⟩) hbn _).setCell (p:=⟨bx,5,none⟩) hbn _).setCell (p:=⟨bx,6,none⟩) hbn _).setCell (p:=⟨bx,7,none⟩) hbn _)⟩
end Go.Proofs.YtapnaocdehahdaaGreat
