/-
  Layer 25 (pick), the reference: copied.
-/
import Derived.Test.YtfgmglghlapbcaaGreatRfA
import Derived.BigRegion
import Derived.Deep.QuietTactic
import Derived.BigQuiet
import Derived.Test.YtfgmglghlapbcaaGreatChA
namespace Go.Proofs.YtfgmglghlapbcaaGreat
open Go.RowKit Go.Maps Go.IntWalk Go.Lib Go.Sort Go.Shelf
set_option linter.unusedVariables false
set_option linter.unusedSimpArgs false
theorem infoTk:(Tryz.prog.info? 131).map (fun i=>(i.zero,i.size,i.bytes))=some (some (.agg #[.int .i64 0,.int .i64 0,.int .u64 0,.int .u32 0,.int .u32 0]),5,32):=by kernel_rfl
theorem infoRE:(Tryz.prog.info? 120).map (fun i=>(i.zero,i.size,i.bytes))=some (some (.agg #[.int .u64 0,.int .u32 0,.int .u32 0]),3,16):=by kernel_rfl
theorem infoU64:(Tryz.prog.info? 25).map (fun i=>(i.zero,i.size,i.bytes))=some (some (.int .u64 0),1,8):=by kernel_rfl
def CopP (w:World) (r:RSt) (n m:Nat) (e:Ending) (w':World):Prop:=∃ bg at' ba bf cg ct ca cf,e=.returned (.agg #[.slice (some ⟨bg,0,none⟩) n cg,.int .u64 r.cr,.slice at' m ct,.slice (some ⟨ba,0,none⟩) n ca,.slice (some ⟨bf,0,none⟩) n cf])∧ROwn w.heap.size w' bg at' ba bf cg ct ca cf n m r∧Below w.heap.size w w'
set_option maxRecDepth 100000 in
set_option maxHeartbeats 4000000 in
theorem tcopied_at (r:RSt) (n m:Nat) (hl:RLen r n m) (ag at' aa af:Option Addr) (cg ct ca cf:Nat) (w:World) (hin:RIn w ag at' aa af cg ct ca cf n m r) :
  Calls Tryz.prog 101 #[.agg #[.slice ag n cg,.int .u64 r.cr,.slice at' m ct,.slice aa n ca,.slice af n cf]] w (CopP w r n m):=by
 obtain ⟨ig,gi,gz0,gz1,gz2⟩:=info_parts infoGroup
 obtain ⟨it,ti,tz0,tz1,tz2⟩:=info_parts infoTk
 obtain ⟨ie,ei,ez0,ez1,ez2⟩:=info_parts infoRE
 obtain ⟨iu,ui,uz0,uz1,uz2⟩:=info_parts infoU64
 have hn:=hl.pos
 have hfew:=hl.few
 have HL:=Lib.hid hl
 have HIN:=Lib.hid hin
 clear hin hl
 obtain ⟨W0,hW0⟩:∃ W0,W0=((w.alloc (.cells #[.slice ag n cg,.int .u64 r.cr,.slice at' m ct,.slice aa n ca,.slice af n cf] 74)).alloc (.cells #[.slice none 0 0,.int .u64 0,.slice none 0 0,.slice none 0 0,.slice none 0 0] 74)):=⟨_,rfl⟩
 have HB0:=Lib.hid (show Below w.heap.size w W0 by rw [hW0];exact (Below.allocS (Below.allocS (Below.refl _ _) _) _))
 obtain ⟨c0,fc0,c1,fc1,c2,fc2,c3,fc3,c4,fc4⟩:=uc5 (show CellsF W0 (w.heap.size) [.slice ag n cg,.int .u64 r.cr,.slice at' m ct,.slice aa n ca,.slice af n cf] by rw [hW0];exact (CellsF.new (by simp)).later (below_a _ _))
 obtain ⟨r0,fr0,r1,fr1,r2,fr2,r3,fr3,r4,fr4⟩:=uc5 (show CellsF W0 (w.heap.size+1) [.slice none 0 0,.int .u64 0,.slice none 0 0,.slice none 0 0,.slice none 0 0] by rw [hW0];exact CellsF.new (by simp))
 have HSZ:=Lib.hid (show W0.heap.size=w.heap.size+1+1 by rw [hW0];simp)
 have HW0:=Lib.hid hW0
 clear hW0
 go_enter Tryz.func101,Tryz.ntmps101
 go_upto_region 1 with fail
 rw [← HW0.out]
 generalize hbx:w.heap.size=bx at c0 c1 c2 c3 c4 r0 r1 r2 r3 r4 fc0 fc1 fc2 fc3 fc4 fr0 fr1 fr2 fr3 fr4 HSZ  ⊢
 have HBX:=Lib.hid hbx
 clear hbx HW0
 have HBW:=HB0
 have HBS:=Lib.hid (Nat.le_refl W0.heap.size)
 have OL0:(W0.alloc (.cells #[] 53)).ownsRow W0.heap.size 53 2 (.slice (some ⟨W0.heap.size,0,none⟩) 0 0) 0 []:=World.ownsRow_lit _ #[] 0 HBS.out (by unfold maxLen;omega) rfl
 have SR0:=(HIN.out.g.later HBW.out).later (below_a W0 (.cells #[] 53))
 have hln0:r.Gs.length=n:=HL.out.g
 have HO0:=Lib.hid OL0
 have HS0:=Lib.hid SR0
 have HN0:=Lib.hid hln0
 clear OL0 SR0 hln0
 have ca:=cell_al (.cells #[] 53) c0
 go_wp2_with (at_builtin;refine listF rfl (.tmp 3) (.tmp 5) 27 rfl W0.heap.size 53 ig (.agg #[.int .i64 0,.int .i64 0]) 2 16 encG_ok Tryz.underlying27 gi gz0 gz1 gz2 rfl W0.heap.size rfl HO0.out _ _ rfl HS0.out (by have:=HN0.out;unfold maxLen;omega) (by have:=HN0.out;omega) (Nat.le_trans HBS.out (below_a W0 _).size) ?_)
 clear ca
 intro v0 w1 ho0 hb0
 rw [HN0.out] at ho0
 obtain ⟨x0,y0,rfl⟩:=own_pos ho0 hn.1
 have hbb:Below W0.heap.size W0 w1:=Below.step (below_a W0 (.cells #[] 53)) (by simpa using hb0)
 replace fc0:=frz_later hbb fc0 (lt_of_cell c0)
 replace c0:=cell_later hbb c0
 replace fc1:=frz_later hbb fc1 (lt_of_cell c1)
 replace c1:=cell_later hbb c1
 replace fc2:=frz_later hbb fc2 (lt_of_cell c2)
 replace c2:=cell_later hbb c2
 replace fc3:=frz_later hbb fc3 (lt_of_cell c3)
 replace c3:=cell_later hbb c3
 replace fc4:=frz_later hbb fc4 (lt_of_cell c4)
 replace c4:=cell_later hbb c4
 replace fr0:=frz_later hbb fr0 (lt_of_cell r0)
 replace r0:=cell_later hbb r0
 replace fr1:=frz_later hbb fr1 (lt_of_cell r1)
 replace r1:=cell_later hbb r1
 replace fr2:=frz_later hbb fr2 (lt_of_cell r2)
 replace r2:=cell_later hbb r2
 replace fr3:=frz_later hbb fr3 (lt_of_cell r3)
 replace r3:=cell_later hbb r3
 replace fr4:=frz_later hbb fr4 (lt_of_cell r4)
 replace r4:=cell_later hbb r4
 have Rg:=Lib.hid ho0
 replace HBW:=Lib.hid (Below.step HBW.out hbb)
 replace HBS:=Lib.hid (Nat.le_trans HBS.out hbb.size)
 clear HO0 HS0 ho0 hb0 hbb
 have d0:(w1.setCell ⟨bx,0,none⟩ (.slice (some ⟨x0,0,none⟩) n y0)).cell? ⟨bx,0,none⟩=some (.slice (some ⟨x0,0,none⟩) n y0):=cell_set_eq c0
 have s0:(w1.setCell ⟨bx,0,none⟩ (.slice (some ⟨x0,0,none⟩) n y0)).cell? ⟨bx+1,0,none⟩=some (.slice none 0 0):=cell_set_ne r0 (Or.inl (by simp))
 have gc0:(w1.setCell ⟨bx,0,none⟩ (.slice (some ⟨x0,0,none⟩) n y0)).frozen? ⟨bx,0,none⟩=false:=by rw [World.frozen?_setCell];exact fc0
 have gr0:(w1.setCell ⟨bx,0,none⟩ (.slice (some ⟨x0,0,none⟩) n y0)).frozen? ⟨bx+1,0,none⟩=false:=by rw [World.frozen?_setCell];exact fr0
 have d1:(w1.setCell ⟨bx,0,none⟩ (.slice (some ⟨x0,0,none⟩) n y0)).cell? ⟨bx,1,none⟩=some (.int .u64 r.cr):=cell_set_ne c1 (Or.inr (by decide))
 have s1:(w1.setCell ⟨bx,0,none⟩ (.slice (some ⟨x0,0,none⟩) n y0)).cell? ⟨bx+1,1,none⟩=some (.int .u64 0):=cell_set_ne r1 (Or.inl (by simp))
 have gc1:(w1.setCell ⟨bx,0,none⟩ (.slice (some ⟨x0,0,none⟩) n y0)).frozen? ⟨bx,1,none⟩=false:=by rw [World.frozen?_setCell];exact fc1
 have gr1:(w1.setCell ⟨bx,0,none⟩ (.slice (some ⟨x0,0,none⟩) n y0)).frozen? ⟨bx+1,1,none⟩=false:=by rw [World.frozen?_setCell];exact fr1
 have d2:(w1.setCell ⟨bx,0,none⟩ (.slice (some ⟨x0,0,none⟩) n y0)).cell? ⟨bx,2,none⟩=some (.slice at' m ct):=cell_set_ne c2 (Or.inr (by decide))
 have s2:(w1.setCell ⟨bx,0,none⟩ (.slice (some ⟨x0,0,none⟩) n y0)).cell? ⟨bx+1,2,none⟩=some (.slice none 0 0):=cell_set_ne r2 (Or.inl (by simp))
 have gc2:(w1.setCell ⟨bx,0,none⟩ (.slice (some ⟨x0,0,none⟩) n y0)).frozen? ⟨bx,2,none⟩=false:=by rw [World.frozen?_setCell];exact fc2
 have gr2:(w1.setCell ⟨bx,0,none⟩ (.slice (some ⟨x0,0,none⟩) n y0)).frozen? ⟨bx+1,2,none⟩=false:=by rw [World.frozen?_setCell];exact fr2
 have d3:(w1.setCell ⟨bx,0,none⟩ (.slice (some ⟨x0,0,none⟩) n y0)).cell? ⟨bx,3,none⟩=some (.slice aa n ca):=cell_set_ne c3 (Or.inr (by decide))
 have s3:(w1.setCell ⟨bx,0,none⟩ (.slice (some ⟨x0,0,none⟩) n y0)).cell? ⟨bx+1,3,none⟩=some (.slice none 0 0):=cell_set_ne r3 (Or.inl (by simp))
 have gc3:(w1.setCell ⟨bx,0,none⟩ (.slice (some ⟨x0,0,none⟩) n y0)).frozen? ⟨bx,3,none⟩=false:=by rw [World.frozen?_setCell];exact fc3
 have gr3:(w1.setCell ⟨bx,0,none⟩ (.slice (some ⟨x0,0,none⟩) n y0)).frozen? ⟨bx+1,3,none⟩=false:=by rw [World.frozen?_setCell];exact fr3
 have d4:(w1.setCell ⟨bx,0,none⟩ (.slice (some ⟨x0,0,none⟩) n y0)).cell? ⟨bx,4,none⟩=some (.slice af n cf):=cell_set_ne c4 (Or.inr (by decide))
 have s4:(w1.setCell ⟨bx,0,none⟩ (.slice (some ⟨x0,0,none⟩) n y0)).cell? ⟨bx+1,4,none⟩=some (.slice none 0 0):=cell_set_ne r4 (Or.inl (by simp))
 have gc4:(w1.setCell ⟨bx,0,none⟩ (.slice (some ⟨x0,0,none⟩) n y0)).frozen? ⟨bx,4,none⟩=false:=by rw [World.frozen?_setCell];exact fc4
 have gr4:(w1.setCell ⟨bx,0,none⟩ (.slice (some ⟨x0,0,none⟩) n y0)).frozen? ⟨bx+1,4,none⟩=false:=by rw [World.frozen?_setCell];exact fr4
 have hbl:bx<W0.heap.size:=by rw [HSZ.out];omega
 have ZRg:=Lib.hid (ownsRow_setCell_below Rg.out (a:=⟨bx,0,none⟩) hbl (.slice (some ⟨x0,0,none⟩) n y0))
 have ZBW:=Lib.hid (show Below w.heap.size w (w1.setCell ⟨bx,0,none⟩ (.slice (some ⟨x0,0,none⟩) n y0)) from HBW.out.setCell (by show w.heap.size≤bx;rw [HBX.out];exact Nat.le_refl _) _)
 have ZBS:=Lib.hid (show W0.heap.size≤(w1.setCell ⟨bx,0,none⟩ (.slice (some ⟨x0,0,none⟩) n y0)).heap.size by rw [World.size_setCell];exact HBS.out)
 clear HBW HBS hbl Rg
 go_upto_region 2 with fail
 clear c0 r0 fc0 fr0 c1 r1 fc1 fr1 c2 r2 fc2 fr2 c3 r3 fc3 fr3 c4 r4 fc4 fr4
 generalize hW3:(w1.setCell ⟨bx,0,none⟩ (.slice (some ⟨x0,0,none⟩) n y0))=W1 at *
 clear hW3
 have c0:=d0
 have r0:=s0
 have fc0:=gc0
 have fr0:=gr0
 have c1:=d1
 have r1:=s1
 have fc1:=gc1
 have fr1:=gr1
 have c2:=d2
 have r2:=s2
 have fc2:=gc2
 have fr2:=gr2
 have c3:=d3
 have r3:=s3
 have fc3:=gc3
 have fr3:=gr3
 have c4:=d4
 have r4:=s4
 have fc4:=gc4
 have fr4:=gr4
 clear d0 s0 gc0 gr0 d1 s1 gc1 gr1 d2 s2 gc2 gr2 d3 s3 gc3 gr3 d4 s4 gc4 gr4
 have Rg:=ZRg
 have HBW:=ZBW
 have HBS:=ZBS
 clear ZBW ZBS ZRg
 have OL1:(W1.alloc (.cells #[] 131)).ownsRow W0.heap.size 131 5 (.slice (some ⟨W1.heap.size,0,none⟩) 0 0) 0 []:=World.ownsRow_lit _ #[] 0 HBS.out (by unfold maxLen;omega) rfl
 have SR1:=(HIN.out.t.later HBW.out).later (below_a W1 (.cells #[] 131))
 have hln1:r.T.length=m:=HL.out.t
 have HO1:=Lib.hid OL1
 have HS1:=Lib.hid SR1
 have HN1:=Lib.hid hln1
 clear OL1 SR1 hln1
 have ca:=cell_al (.cells #[] 131) c2
 go_wp2_with (at_builtin;refine listF rfl (.tmp 8) (.tmp 10) 71 rfl W0.heap.size 131 it (.agg #[.int .i64 0,.int .i64 0,.int .u64 0,.int .u32 0,.int .u32 0]) 5 32 encTk_ok Tryz.underlying71 ti tz0 tz1 tz2 rfl W1.heap.size rfl HO1.out _ _ rfl HS1.out (by have:=HN1.out;unfold maxLen;omega) (by have:=HN1.out;omega) (Nat.le_trans HBS.out (below_a W1 _).size) ?_)
 clear ca
 intro v1 w2 ho1 hb1
 rw [HN1.out] at ho1
 obtain ⟨x1,y1,rfl⟩:=own_shapeI ho1
 have hbb:Below W1.heap.size W1 w2:=Below.step (below_a W1 (.cells #[] 131)) (by simpa using hb1)
 replace fc0:=frz_later hbb fc0 (lt_of_cell c0)
 replace c0:=cell_later hbb c0
 replace fc1:=frz_later hbb fc1 (lt_of_cell c1)
 replace c1:=cell_later hbb c1
 replace fc2:=frz_later hbb fc2 (lt_of_cell c2)
 replace c2:=cell_later hbb c2
 replace fc3:=frz_later hbb fc3 (lt_of_cell c3)
 replace c3:=cell_later hbb c3
 replace fc4:=frz_later hbb fc4 (lt_of_cell c4)
 replace c4:=cell_later hbb c4
 replace fr0:=frz_later hbb fr0 (lt_of_cell r0)
 replace r0:=cell_later hbb r0
 replace fr1:=frz_later hbb fr1 (lt_of_cell r1)
 replace r1:=cell_later hbb r1
 replace fr2:=frz_later hbb fr2 (lt_of_cell r2)
 replace r2:=cell_later hbb r2
 replace fr3:=frz_later hbb fr3 (lt_of_cell r3)
 replace r3:=cell_later hbb r3
 replace fr4:=frz_later hbb fr4 (lt_of_cell r4)
 replace r4:=cell_later hbb r4
 replace Rg:=Lib.hid (own_below Rg.out hbb)
 have Rt:=Lib.hid ho1
 replace HBW:=Lib.hid (Below.step HBW.out hbb)
 replace HBS:=Lib.hid (Nat.le_trans HBS.out hbb.size)
 clear HO1 HS1 ho1 hb1 hbb
 have d0:(w2.setCell ⟨bx,2,none⟩ (.slice x1 m y1)).cell? ⟨bx,0,none⟩=some (.slice (some ⟨x0,0,none⟩) n y0):=cell_set_ne c0 (Or.inr (by decide))
 have s0:(w2.setCell ⟨bx,2,none⟩ (.slice x1 m y1)).cell? ⟨bx+1,0,none⟩=some (.slice none 0 0):=cell_set_ne r0 (Or.inl (by simp))
 have gc0:(w2.setCell ⟨bx,2,none⟩ (.slice x1 m y1)).frozen? ⟨bx,0,none⟩=false:=by rw [World.frozen?_setCell];exact fc0
 have gr0:(w2.setCell ⟨bx,2,none⟩ (.slice x1 m y1)).frozen? ⟨bx+1,0,none⟩=false:=by rw [World.frozen?_setCell];exact fr0
 have d1:(w2.setCell ⟨bx,2,none⟩ (.slice x1 m y1)).cell? ⟨bx,1,none⟩=some (.int .u64 r.cr):=cell_set_ne c1 (Or.inr (by decide))
 have s1:(w2.setCell ⟨bx,2,none⟩ (.slice x1 m y1)).cell? ⟨bx+1,1,none⟩=some (.int .u64 0):=cell_set_ne r1 (Or.inl (by simp))
 have gc1:(w2.setCell ⟨bx,2,none⟩ (.slice x1 m y1)).frozen? ⟨bx,1,none⟩=false:=by rw [World.frozen?_setCell];exact fc1
 have gr1:(w2.setCell ⟨bx,2,none⟩ (.slice x1 m y1)).frozen? ⟨bx+1,1,none⟩=false:=by rw [World.frozen?_setCell];exact fr1
 have d2:(w2.setCell ⟨bx,2,none⟩ (.slice x1 m y1)).cell? ⟨bx,2,none⟩=some (.slice x1 m y1):=cell_set_eq c2
 have s2:(w2.setCell ⟨bx,2,none⟩ (.slice x1 m y1)).cell? ⟨bx+1,2,none⟩=some (.slice none 0 0):=cell_set_ne r2 (Or.inl (by simp))
 have gc2:(w2.setCell ⟨bx,2,none⟩ (.slice x1 m y1)).frozen? ⟨bx,2,none⟩=false:=by rw [World.frozen?_setCell];exact fc2
 have gr2:(w2.setCell ⟨bx,2,none⟩ (.slice x1 m y1)).frozen? ⟨bx+1,2,none⟩=false:=by rw [World.frozen?_setCell];exact fr2
 have d3:(w2.setCell ⟨bx,2,none⟩ (.slice x1 m y1)).cell? ⟨bx,3,none⟩=some (.slice aa n ca):=cell_set_ne c3 (Or.inr (by decide))
 have s3:(w2.setCell ⟨bx,2,none⟩ (.slice x1 m y1)).cell? ⟨bx+1,3,none⟩=some (.slice none 0 0):=cell_set_ne r3 (Or.inl (by simp))
 have gc3:(w2.setCell ⟨bx,2,none⟩ (.slice x1 m y1)).frozen? ⟨bx,3,none⟩=false:=by rw [World.frozen?_setCell];exact fc3
 have gr3:(w2.setCell ⟨bx,2,none⟩ (.slice x1 m y1)).frozen? ⟨bx+1,3,none⟩=false:=by rw [World.frozen?_setCell];exact fr3
 have d4:(w2.setCell ⟨bx,2,none⟩ (.slice x1 m y1)).cell? ⟨bx,4,none⟩=some (.slice af n cf):=cell_set_ne c4 (Or.inr (by decide))
 have s4:(w2.setCell ⟨bx,2,none⟩ (.slice x1 m y1)).cell? ⟨bx+1,4,none⟩=some (.slice none 0 0):=cell_set_ne r4 (Or.inl (by simp))
 have gc4:(w2.setCell ⟨bx,2,none⟩ (.slice x1 m y1)).frozen? ⟨bx,4,none⟩=false:=by rw [World.frozen?_setCell];exact fc4
 have gr4:(w2.setCell ⟨bx,2,none⟩ (.slice x1 m y1)).frozen? ⟨bx+1,4,none⟩=false:=by rw [World.frozen?_setCell];exact fr4
 have hbl:bx<W0.heap.size:=by rw [HSZ.out];omega
 have ZRg:=Lib.hid (ownsRow_setCell_below Rg.out (a:=⟨bx,2,none⟩) hbl (.slice x1 m y1))
 have ZRt:=Lib.hid (ownsRow_setCell_below Rt.out (a:=⟨bx,2,none⟩) hbl (.slice x1 m y1))
 have ZBW:=Lib.hid (show Below w.heap.size w (w2.setCell ⟨bx,2,none⟩ (.slice x1 m y1)) from HBW.out.setCell (by show w.heap.size≤bx;rw [HBX.out];exact Nat.le_refl _) _)
 have ZBS:=Lib.hid (show W0.heap.size≤(w2.setCell ⟨bx,2,none⟩ (.slice x1 m y1)).heap.size by rw [World.size_setCell];exact HBS.out)
 clear HBW HBS hbl Rg Rt
 go_upto_region 3 with fail
 clear c0 r0 fc0 fr0 c1 r1 fc1 fr1 c2 r2 fc2 fr2 c3 r3 fc3 fr3 c4 r4 fc4 fr4
 generalize hW3:(w2.setCell ⟨bx,2,none⟩ (.slice x1 m y1))=W2 at *
 clear hW3
 have c0:=d0
 have r0:=s0
 have fc0:=gc0
 have fr0:=gr0
 have c1:=d1
 have r1:=s1
 have fc1:=gc1
 have fr1:=gr1
 have c2:=d2
 have r2:=s2
 have fc2:=gc2
 have fr2:=gr2
 have c3:=d3
 have r3:=s3
 have fc3:=gc3
 have fr3:=gr3
 have c4:=d4
 have r4:=s4
 have fc4:=gc4
 have fr4:=gr4
 clear d0 s0 gc0 gr0 d1 s1 gc1 gr1 d2 s2 gc2 gr2 d3 s3 gc3 gr3 d4 s4 gc4 gr4
 have Rg:=ZRg
 have Rt:=ZRt
 have HBW:=ZBW
 have HBS:=ZBS
 clear ZBW ZBS ZRg ZRt
 have OL2:(W2.alloc (.cells #[] 120)).ownsRow W0.heap.size 120 3 (.slice (some ⟨W2.heap.size,0,none⟩) 0 0) 0 []:=World.ownsRow_lit _ #[] 0 HBS.out (by unfold maxLen;omega) rfl
 have SR2:=(HIN.out.a.later HBW.out).later (below_a W2 (.cells #[] 120))
 have hln2:r.A.length=n:=HL.out.a
 have HO2:=Lib.hid OL2
 have HS2:=Lib.hid SR2
 have HN2:=Lib.hid hln2
 clear OL2 SR2 hln2
 have ca:=cell_al (.cells #[] 120) c3
 go_wp2_with (at_builtin;refine listF rfl (.tmp 13) (.tmp 15) 72 rfl W0.heap.size 120 ie (.agg #[.int .u64 0,.int .u32 0,.int .u32 0]) 3 16 encEn_ok Tryz.underlying72 ei ez0 ez1 ez2 rfl W2.heap.size rfl HO2.out _ _ rfl HS2.out (by have:=HN2.out;unfold maxLen;omega) (by have:=HN2.out;omega) (Nat.le_trans HBS.out (below_a W2 _).size) ?_)
 clear ca
 intro v2 w3 ho2 hb2
 rw [HN2.out] at ho2
 obtain ⟨x2,y2,rfl⟩:=own_pos ho2 hn.1
 have hbb:Below W2.heap.size W2 w3:=Below.step (below_a W2 (.cells #[] 120)) (by simpa using hb2)
 replace fc0:=frz_later hbb fc0 (lt_of_cell c0)
 replace c0:=cell_later hbb c0
 replace fc1:=frz_later hbb fc1 (lt_of_cell c1)
 replace c1:=cell_later hbb c1
 replace fc2:=frz_later hbb fc2 (lt_of_cell c2)
 replace c2:=cell_later hbb c2
 replace fc3:=frz_later hbb fc3 (lt_of_cell c3)
 replace c3:=cell_later hbb c3
 replace fc4:=frz_later hbb fc4 (lt_of_cell c4)
 replace c4:=cell_later hbb c4
 replace fr0:=frz_later hbb fr0 (lt_of_cell r0)
 replace r0:=cell_later hbb r0
 replace fr1:=frz_later hbb fr1 (lt_of_cell r1)
 replace r1:=cell_later hbb r1
 replace fr2:=frz_later hbb fr2 (lt_of_cell r2)
 replace r2:=cell_later hbb r2
 replace fr3:=frz_later hbb fr3 (lt_of_cell r3)
 replace r3:=cell_later hbb r3
 replace fr4:=frz_later hbb fr4 (lt_of_cell r4)
 replace r4:=cell_later hbb r4
 replace Rg:=Lib.hid (own_below Rg.out hbb)
 replace Rt:=Lib.hid (own_below Rt.out hbb)
 have Re:=Lib.hid ho2
 replace HBW:=Lib.hid (Below.step HBW.out hbb)
 replace HBS:=Lib.hid (Nat.le_trans HBS.out hbb.size)
 clear HO2 HS2 ho2 hb2 hbb
 have d0:(w3.setCell ⟨bx,3,none⟩ (.slice (some ⟨x2,0,none⟩) n y2)).cell? ⟨bx,0,none⟩=some (.slice (some ⟨x0,0,none⟩) n y0):=cell_set_ne c0 (Or.inr (by decide))
 have s0:(w3.setCell ⟨bx,3,none⟩ (.slice (some ⟨x2,0,none⟩) n y2)).cell? ⟨bx+1,0,none⟩=some (.slice none 0 0):=cell_set_ne r0 (Or.inl (by simp))
 have gc0:(w3.setCell ⟨bx,3,none⟩ (.slice (some ⟨x2,0,none⟩) n y2)).frozen? ⟨bx,0,none⟩=false:=by rw [World.frozen?_setCell];exact fc0
 have gr0:(w3.setCell ⟨bx,3,none⟩ (.slice (some ⟨x2,0,none⟩) n y2)).frozen? ⟨bx+1,0,none⟩=false:=by rw [World.frozen?_setCell];exact fr0
 have d1:(w3.setCell ⟨bx,3,none⟩ (.slice (some ⟨x2,0,none⟩) n y2)).cell? ⟨bx,1,none⟩=some (.int .u64 r.cr):=cell_set_ne c1 (Or.inr (by decide))
 have s1:(w3.setCell ⟨bx,3,none⟩ (.slice (some ⟨x2,0,none⟩) n y2)).cell? ⟨bx+1,1,none⟩=some (.int .u64 0):=cell_set_ne r1 (Or.inl (by simp))
 have gc1:(w3.setCell ⟨bx,3,none⟩ (.slice (some ⟨x2,0,none⟩) n y2)).frozen? ⟨bx,1,none⟩=false:=by rw [World.frozen?_setCell];exact fc1
 have gr1:(w3.setCell ⟨bx,3,none⟩ (.slice (some ⟨x2,0,none⟩) n y2)).frozen? ⟨bx+1,1,none⟩=false:=by rw [World.frozen?_setCell];exact fr1
 have d2:(w3.setCell ⟨bx,3,none⟩ (.slice (some ⟨x2,0,none⟩) n y2)).cell? ⟨bx,2,none⟩=some (.slice x1 m y1):=cell_set_ne c2 (Or.inr (by decide))
 have s2:(w3.setCell ⟨bx,3,none⟩ (.slice (some ⟨x2,0,none⟩) n y2)).cell? ⟨bx+1,2,none⟩=some (.slice none 0 0):=cell_set_ne r2 (Or.inl (by simp))
 have gc2:(w3.setCell ⟨bx,3,none⟩ (.slice (some ⟨x2,0,none⟩) n y2)).frozen? ⟨bx,2,none⟩=false:=by rw [World.frozen?_setCell];exact fc2
 have gr2:(w3.setCell ⟨bx,3,none⟩ (.slice (some ⟨x2,0,none⟩) n y2)).frozen? ⟨bx+1,2,none⟩=false:=by rw [World.frozen?_setCell];exact fr2
 have d3:(w3.setCell ⟨bx,3,none⟩ (.slice (some ⟨x2,0,none⟩) n y2)).cell? ⟨bx,3,none⟩=some (.slice (some ⟨x2,0,none⟩) n y2):=cell_set_eq c3
 have s3:(w3.setCell ⟨bx,3,none⟩ (.slice (some ⟨x2,0,none⟩) n y2)).cell? ⟨bx+1,3,none⟩=some (.slice none 0 0):=cell_set_ne r3 (Or.inl (by simp))
 have gc3:(w3.setCell ⟨bx,3,none⟩ (.slice (some ⟨x2,0,none⟩) n y2)).frozen? ⟨bx,3,none⟩=false:=by rw [World.frozen?_setCell];exact fc3
 have gr3:(w3.setCell ⟨bx,3,none⟩ (.slice (some ⟨x2,0,none⟩) n y2)).frozen? ⟨bx+1,3,none⟩=false:=by rw [World.frozen?_setCell];exact fr3
 have d4:(w3.setCell ⟨bx,3,none⟩ (.slice (some ⟨x2,0,none⟩) n y2)).cell? ⟨bx,4,none⟩=some (.slice af n cf):=cell_set_ne c4 (Or.inr (by decide))
 have s4:(w3.setCell ⟨bx,3,none⟩ (.slice (some ⟨x2,0,none⟩) n y2)).cell? ⟨bx+1,4,none⟩=some (.slice none 0 0):=cell_set_ne r4 (Or.inl (by simp))
 have gc4:(w3.setCell ⟨bx,3,none⟩ (.slice (some ⟨x2,0,none⟩) n y2)).frozen? ⟨bx,4,none⟩=false:=by rw [World.frozen?_setCell];exact fc4
 have gr4:(w3.setCell ⟨bx,3,none⟩ (.slice (some ⟨x2,0,none⟩) n y2)).frozen? ⟨bx+1,4,none⟩=false:=by rw [World.frozen?_setCell];exact fr4
 have hbl:bx<W0.heap.size:=by rw [HSZ.out];omega
 have ZRg:=Lib.hid (ownsRow_setCell_below Rg.out (a:=⟨bx,3,none⟩) hbl (.slice (some ⟨x2,0,none⟩) n y2))
 have ZRt:=Lib.hid (ownsRow_setCell_below Rt.out (a:=⟨bx,3,none⟩) hbl (.slice (some ⟨x2,0,none⟩) n y2))
 have ZRe:=Lib.hid (ownsRow_setCell_below Re.out (a:=⟨bx,3,none⟩) hbl (.slice (some ⟨x2,0,none⟩) n y2))
 have ZBW:=Lib.hid (show Below w.heap.size w (w3.setCell ⟨bx,3,none⟩ (.slice (some ⟨x2,0,none⟩) n y2)) from HBW.out.setCell (by show w.heap.size≤bx;rw [HBX.out];exact Nat.le_refl _) _)
 have ZBS:=Lib.hid (show W0.heap.size≤(w3.setCell ⟨bx,3,none⟩ (.slice (some ⟨x2,0,none⟩) n y2)).heap.size by rw [World.size_setCell];exact HBS.out)
 clear HBW HBS hbl Rg Rt Re
 go_upto_region 4 with fail
 clear c0 r0 fc0 fr0 c1 r1 fc1 fr1 c2 r2 fc2 fr2 c3 r3 fc3 fr3 c4 r4 fc4 fr4
 generalize hW3:(w3.setCell ⟨bx,3,none⟩ (.slice (some ⟨x2,0,none⟩) n y2))=W3 at *
 clear hW3
 have c0:=d0
 have r0:=s0
 have fc0:=gc0
 have fr0:=gr0
 have c1:=d1
 have r1:=s1
 have fc1:=gc1
 have fr1:=gr1
 have c2:=d2
 have r2:=s2
 have fc2:=gc2
 have fr2:=gr2
 have c3:=d3
 have r3:=s3
 have fc3:=gc3
 have fr3:=gr3
 have c4:=d4
 have r4:=s4
 have fc4:=gc4
 have fr4:=gr4
 clear d0 s0 gc0 gr0 d1 s1 gc1 gr1 d2 s2 gc2 gr2 d3 s3 gc3 gr3 d4 s4 gc4 gr4
 have Rg:=ZRg
 have Rt:=ZRt
 have Re:=ZRe
 have HBW:=ZBW
 have HBS:=ZBS
 clear ZBW ZBS ZRg ZRt ZRe
 have OL3:(W3.alloc (.cells #[] 25)).ownsRow W0.heap.size 25 1 (.slice (some ⟨W3.heap.size,0,none⟩) 0 0) 0 []:=World.ownsRow_lit _ #[] 0 HBS.out (by unfold maxLen;omega) rfl
 have SR3:=(HIN.out.f.later HBW.out).later (below_a W3 (.cells #[] 25))
 have hln3:r.fl.length=n:=HL.out.f
 have HO3:=Lib.hid OL3
 have HS3:=Lib.hid SR3
 have HN3:=Lib.hid hln3
 clear OL3 SR3 hln3
 have ca:=cell_al (.cells #[] 25) c4
 go_wp2_with (at_builtin;refine listF rfl (.tmp 18) (.tmp 20) 61 rfl W0.heap.size 25 iu (.int .u64 0) 1 8 encU_ok Tryz.underlying61 ui uz0 uz1 uz2 rfl W3.heap.size rfl HO3.out _ _ rfl HS3.out (by have:=HN3.out;unfold maxLen;omega) (by have:=HN3.out;omega) (Nat.le_trans HBS.out (below_a W3 _).size) ?_)
 clear ca
 intro v3 w4 ho3 hb3
 rw [HN3.out] at ho3
 obtain ⟨x3,y3,rfl⟩:=own_pos ho3 hn.1
 have hbb:Below W3.heap.size W3 w4:=Below.step (below_a W3 (.cells #[] 25)) (by simpa using hb3)
 replace fc0:=frz_later hbb fc0 (lt_of_cell c0)
 replace c0:=cell_later hbb c0
 replace fc1:=frz_later hbb fc1 (lt_of_cell c1)
 replace c1:=cell_later hbb c1
 replace fc2:=frz_later hbb fc2 (lt_of_cell c2)
 replace c2:=cell_later hbb c2
 replace fc3:=frz_later hbb fc3 (lt_of_cell c3)
 replace c3:=cell_later hbb c3
 replace fc4:=frz_later hbb fc4 (lt_of_cell c4)
 replace c4:=cell_later hbb c4
 replace fr0:=frz_later hbb fr0 (lt_of_cell r0)
 replace r0:=cell_later hbb r0
 replace fr1:=frz_later hbb fr1 (lt_of_cell r1)
 replace r1:=cell_later hbb r1
 replace fr2:=frz_later hbb fr2 (lt_of_cell r2)
 replace r2:=cell_later hbb r2
 replace fr3:=frz_later hbb fr3 (lt_of_cell r3)
 replace r3:=cell_later hbb r3
 replace fr4:=frz_later hbb fr4 (lt_of_cell r4)
 replace r4:=cell_later hbb r4
 replace Rg:=Lib.hid (own_below Rg.out hbb)
 replace Rt:=Lib.hid (own_below Rt.out hbb)
 replace Re:=Lib.hid (own_below Re.out hbb)
 have Ru:=Lib.hid ho3
 replace HBW:=Lib.hid (Below.step HBW.out hbb)
 replace HBS:=Lib.hid (Nat.le_trans HBS.out hbb.size)
 clear HO3 HS3 ho3 hb3 hbb
 have d0:(w4.setCell ⟨bx,4,none⟩ (.slice (some ⟨x3,0,none⟩) n y3)).cell? ⟨bx,0,none⟩=some (.slice (some ⟨x0,0,none⟩) n y0):=cell_set_ne c0 (Or.inr (by decide))
 have s0:(w4.setCell ⟨bx,4,none⟩ (.slice (some ⟨x3,0,none⟩) n y3)).cell? ⟨bx+1,0,none⟩=some (.slice none 0 0):=cell_set_ne r0 (Or.inl (by simp))
 have gc0:(w4.setCell ⟨bx,4,none⟩ (.slice (some ⟨x3,0,none⟩) n y3)).frozen? ⟨bx,0,none⟩=false:=by rw [World.frozen?_setCell];exact fc0
 have gr0:(w4.setCell ⟨bx,4,none⟩ (.slice (some ⟨x3,0,none⟩) n y3)).frozen? ⟨bx+1,0,none⟩=false:=by rw [World.frozen?_setCell];exact fr0
 have d1:(w4.setCell ⟨bx,4,none⟩ (.slice (some ⟨x3,0,none⟩) n y3)).cell? ⟨bx,1,none⟩=some (.int .u64 r.cr):=cell_set_ne c1 (Or.inr (by decide))
 have s1:(w4.setCell ⟨bx,4,none⟩ (.slice (some ⟨x3,0,none⟩) n y3)).cell? ⟨bx+1,1,none⟩=some (.int .u64 0):=cell_set_ne r1 (Or.inl (by simp))
 have gc1:(w4.setCell ⟨bx,4,none⟩ (.slice (some ⟨x3,0,none⟩) n y3)).frozen? ⟨bx,1,none⟩=false:=by rw [World.frozen?_setCell];exact fc1
 have gr1:(w4.setCell ⟨bx,4,none⟩ (.slice (some ⟨x3,0,none⟩) n y3)).frozen? ⟨bx+1,1,none⟩=false:=by rw [World.frozen?_setCell];exact fr1
 have d2:(w4.setCell ⟨bx,4,none⟩ (.slice (some ⟨x3,0,none⟩) n y3)).cell? ⟨bx,2,none⟩=some (.slice x1 m y1):=cell_set_ne c2 (Or.inr (by decide))
 have s2:(w4.setCell ⟨bx,4,none⟩ (.slice (some ⟨x3,0,none⟩) n y3)).cell? ⟨bx+1,2,none⟩=some (.slice none 0 0):=cell_set_ne r2 (Or.inl (by simp))
 have gc2:(w4.setCell ⟨bx,4,none⟩ (.slice (some ⟨x3,0,none⟩) n y3)).frozen? ⟨bx,2,none⟩=false:=by rw [World.frozen?_setCell];exact fc2
 have gr2:(w4.setCell ⟨bx,4,none⟩ (.slice (some ⟨x3,0,none⟩) n y3)).frozen? ⟨bx+1,2,none⟩=false:=by rw [World.frozen?_setCell];exact fr2
 have d3:(w4.setCell ⟨bx,4,none⟩ (.slice (some ⟨x3,0,none⟩) n y3)).cell? ⟨bx,3,none⟩=some (.slice (some ⟨x2,0,none⟩) n y2):=cell_set_ne c3 (Or.inr (by decide))
 have s3:(w4.setCell ⟨bx,4,none⟩ (.slice (some ⟨x3,0,none⟩) n y3)).cell? ⟨bx+1,3,none⟩=some (.slice none 0 0):=cell_set_ne r3 (Or.inl (by simp))
 have gc3:(w4.setCell ⟨bx,4,none⟩ (.slice (some ⟨x3,0,none⟩) n y3)).frozen? ⟨bx,3,none⟩=false:=by rw [World.frozen?_setCell];exact fc3
 have gr3:(w4.setCell ⟨bx,4,none⟩ (.slice (some ⟨x3,0,none⟩) n y3)).frozen? ⟨bx+1,3,none⟩=false:=by rw [World.frozen?_setCell];exact fr3
 have d4:(w4.setCell ⟨bx,4,none⟩ (.slice (some ⟨x3,0,none⟩) n y3)).cell? ⟨bx,4,none⟩=some (.slice (some ⟨x3,0,none⟩) n y3):=cell_set_eq c4
 have s4:(w4.setCell ⟨bx,4,none⟩ (.slice (some ⟨x3,0,none⟩) n y3)).cell? ⟨bx+1,4,none⟩=some (.slice none 0 0):=cell_set_ne r4 (Or.inl (by simp))
 have gc4:(w4.setCell ⟨bx,4,none⟩ (.slice (some ⟨x3,0,none⟩) n y3)).frozen? ⟨bx,4,none⟩=false:=by rw [World.frozen?_setCell];exact fc4
 have gr4:(w4.setCell ⟨bx,4,none⟩ (.slice (some ⟨x3,0,none⟩) n y3)).frozen? ⟨bx+1,4,none⟩=false:=by rw [World.frozen?_setCell];exact fr4
 have hbl:bx<W0.heap.size:=by rw [HSZ.out];omega
 have ZRg:=Lib.hid (ownsRow_setCell_below Rg.out (a:=⟨bx,4,none⟩) hbl (.slice (some ⟨x3,0,none⟩) n y3))
 have ZRt:=Lib.hid (ownsRow_setCell_below Rt.out (a:=⟨bx,4,none⟩) hbl (.slice (some ⟨x3,0,none⟩) n y3))
 have ZRe:=Lib.hid (ownsRow_setCell_below Re.out (a:=⟨bx,4,none⟩) hbl (.slice (some ⟨x3,0,none⟩) n y3))
 have ZRu:=Lib.hid (ownsRow_setCell_below Ru.out (a:=⟨bx,4,none⟩) hbl (.slice (some ⟨x3,0,none⟩) n y3))
 have ZBW:=Lib.hid (show Below w.heap.size w (w4.setCell ⟨bx,4,none⟩ (.slice (some ⟨x3,0,none⟩) n y3)) from HBW.out.setCell (by show w.heap.size≤bx;rw [HBX.out];exact Nat.le_refl _) _)
 have ZBS:=Lib.hid (show W0.heap.size≤(w4.setCell ⟨bx,4,none⟩ (.slice (some ⟨x3,0,none⟩) n y3)).heap.size by rw [World.size_setCell];exact HBS.out)
 clear HBW HBS hbl Rg Rt Re Ru
 go_upto_region 5 with fail
 clear c0 r0 fc0 fr0 c1 r1 fc1 fr1 c2 r2 fc2 fr2 c3 r3 fc3 fr3 c4 r4 fc4 fr4
 generalize hW3:(w4.setCell ⟨bx,4,none⟩ (.slice (some ⟨x3,0,none⟩) n y3))=W4 at *
 clear hW3
 have c0:=d0
 have r0:=s0
 have fc0:=gc0
 have fr0:=gr0
 have c1:=d1
 have r1:=s1
 have fc1:=gc1
 have fr1:=gr1
 have c2:=d2
 have r2:=s2
 have fc2:=gc2
 have fr2:=gr2
 have c3:=d3
 have r3:=s3
 have fc3:=gc3
 have fr3:=gr3
 have c4:=d4
 have r4:=s4
 have fc4:=gc4
 have fr4:=gr4
 clear d0 s0 gc0 gr0 d1 s1 gc1 gr1 d2 s2 gc2 gr2 d3 s3 gc3 gr3 d4 s4 gc4 gr4
 have Rg:=ZRg
 have Rt:=ZRt
 have Re:=ZRe
 have Ru:=ZRu
 have HBW:=ZBW
 have HBS:=ZBS
 clear ZBW ZBS ZRg ZRt ZRe ZRu
 go_wp2_with fail
 refine bodyPost_ret (v:=.agg #[.slice (some ⟨x0,0,none⟩) n y0,.int .u64 r.cr,.slice x1 m y1,.slice (some ⟨x2,0,none⟩) n y2,.slice (some ⟨x3,0,none⟩) n y3]) (by simp [results,Tryz.results101,go_sem, *]) rfl ?_
 have hR:=ROwn.mk Rg.out Rt.out Re.out Ru.out
 have hlow:bx+1<W0.heap.size:=by rw [HSZ.out];omega
 have hle:w.heap.size≤bx+1:=by rw [HBX.out];omega
 refine ⟨x0,x1,x2,x3,y0,y1,y2,y3,rfl,?_,?_⟩
 ·refine ROwn.toBase (base:=W0.heap.size) ?_ (by rw [HSZ.out,HBX.out];omega)
  exact ((((hR.low (a:=⟨bx+1,0,none⟩) hlow _).low (a:=⟨bx+1,1,none⟩) hlow _).low (a:=⟨bx+1,2,none⟩) hlow _).low (a:=⟨bx+1,3,none⟩) hlow _).low (a:=⟨bx+1,4,none⟩) hlow _
 ·exact ((((HBW.out.setCell hle _).setCell hle _).setCell hle _).setCell hle _).setCell hle _
theorem mR_fl (r:RSt) (fl:List Int):∀ f g,mR { r with fl:=fl } f g=mR r f g:=by
 intro f
 induction f with
 | zero=>intro g;rfl
 | succ f ih =>
  intro g
  show memG (parG r.Gs) r.A (mR { r with fl:=fl } f) g (memT r.T g) r.Gs.length=memG (parG r.Gs) r.A (mR r f) g (memT r.T g) r.Gs.length
  rw [show mR { r with fl:=fl } f=mR r f from funext ih]
def flTo (r:RSt) (n h:Nat):List Int:=(List.range n).map fun k=>if k<h then riseF (mR r n k) r.fl[k]! else r.fl[k]!
def raisedR (r:RSt) (n:Nat):RSt:={ r with fl:=flTo r n n }
theorem flTo_at {r:RSt} {n h k:Nat} (hk:k<n):(flTo r n h)[k]! = if k<h then riseF (mR r n k) r.fl[k]! else r.fl[k]!:=by
 unfold flTo
 rw [getElem!_pos _ k (by simpa using hk)]
 simp
theorem flTo_get {r:RSt} {n h i:Nat}:(flTo r n h)[i]?=if i<n then some (if i<h then riseF (mR r n i) r.fl[i]! else r.fl[i]!) else none:=by
 unfold flTo
 rw [List.getElem?_map]
 by_cases q:i<n
 ·rw [List.getElem?_range q,if_pos q];rfl
 ·rw [List.getElem?_eq_none (by simpa using q),if_neg q];rfl
theorem flTo_zero {r:RSt} {n m:Nat} (hl:RLen r n m):flTo r n 0=r.fl:=by
 refine List.ext_getElem? fun i=>?_
 rw [flTo_get,if_neg (Nat.not_lt_zero i)]
 by_cases q:i<n
 ·rw [if_pos q,List.getElem?_eq_getElem (by rw [hl.f];exact q),getElem!_pos r.fl i (by rw [hl.f];exact q)]
 ·rw [if_neg q,List.getElem?_eq_none (by rw [hl.f];omega)]
theorem flTo_same {r:RSt} {n h:Nat} (hh:h<n) (hr:riseF (mR r n h) r.fl[h]! = r.fl[h]!):flTo r n (h+1)=flTo r n h:=by
 unfold flTo
 refine List.map_congr_left fun k hk=>?_
 by_cases q:k=h
 ·subst q;rw [if_pos (Nat.lt_succ_self _),if_neg (Nat.lt_irrefl _),hr]
 ·by_cases q2:k<h
  ·rw [if_pos q2,if_pos (by omega)]
  ·rw [if_neg q2,if_neg (by omega)]
theorem flTo_set {r:RSt} {n h:Nat} (hh:h<n):flTo r n (h+1)=(flTo r n h).set h (riseF (mR r n h) r.fl[h]!):=by
 refine List.ext_getElem? fun i=>?_
 rw [List.getElem?_set,flTo_get,flTo_get]
 have hl:(flTo r n h).length=n:=by unfold flTo;simp
 by_cases q:h=i
 ·subst q;rw [if_pos hh,if_pos (Nat.lt_succ_self _),if_pos rfl,if_pos (by rw [hl];exact hh)]
 ·rw [if_neg q]
  by_cases q3:i<n
  ·rw [if_pos q3,if_pos q3]
   by_cases q2:i<h
   ·rw [if_pos q2,if_pos (by omega)]
   ·rw [if_neg q2,if_neg (by omega)]
  ·rw [if_neg q3,if_neg q3]
theorem RLen.withF {r:RSt} {n m:Nat} (hl:RLen r n m) (h:Nat):RLen { r with fl:=flTo r n h } n m:=⟨hl.g,hl.t,hl.a,by unfold flTo;simp,hl.right,hl.few⟩
theorem rise_cons (x:Int×Int) (q:Items) (f:Int):riseF (x::q) f=max f x.2:=rfl
structure InB (B bg:Nat) (at':Option Addr) (ba bf m ct:Nat):Prop where
 g:bg<B
 t:∀ k,(Value.slice at' m ct).ownBlock=some k→k<B
 a:ba<B
 f:bf<B
theorem ROwn.asideC {base B:Nat} {w:World} {bg:Nat} {at':Option Addr} {ba bf cg ct ca cf n m:Nat} {r:RSt} (h:ROwn base w bg at' ba bf cg ct ca cf n m r) (hB:InB B bg at' ba bf m ct) {a:Addr} (ha:B≤a.block) (u:Value):ROwn base (w.setCell a u) bg at' ba bf cg ct ca cf n m r:=
 ⟨ownsRow_setCell_other h.g (fun e=>by have:=hB.g;simp [Value.ownBlock] at e;omega) u,ownsRow_setCell_other h.t (fun e=>by have:=hB.t _ e;omega) u,ownsRow_setCell_other h.a (fun e=>by have:=hB.a;simp [Value.ownBlock] at e;omega) u,ownsRow_setCell_other h.f (fun e=>by have:=hB.f;simp [Value.ownBlock] at e;omega) u⟩
def RaiP (base:Nat) (w:World) (bg:Nat) (at':Option Addr) (ba bf cg ct ca cf n m:Nat) (r:RSt) (e:Ending) (w':World):Prop:=
 e=.returned (.agg #[.slice (some ⟨bg,0,none⟩) n cg,.int .u64 r.cr,.slice at' m ct,.slice (some ⟨ba,0,none⟩) n ca,.slice (some ⟨bf,0,none⟩) n cf])∧ROwn base w' bg at' ba bf cg ct ca cf n m (raisedR r n)∧Kept [bf] w w'
set_option maxRecDepth 100000 in
set_option maxHeartbeats 4000000 in
theorem traised_at (r:RSt) (n m:Nat) (hl:RLen r n m) (base bg:Nat) (at':Option Addr) (ba bf cg ct ca cf:Nat) (w:World) (h:ROwn base w bg at' ba bf cg ct ca cf n m r) :
  Calls Tryz.prog 102 #[.agg #[.slice (some ⟨bg,0,none⟩) n cg,.int .u64 r.cr,.slice at' m ct,.slice (some ⟨ba,0,none⟩) n ca,.slice (some ⟨bf,0,none⟩) n cf]] w (RaiP base w bg at' ba bf cg ct ca cf n m r):=by
 have hn:=hl.pos
 obtain ⟨hcg,hct,hca,hcf⟩:=(h.rin hl).caps
 have HL:=Lib.hid hl
 have hbf:=(h.f.lt bf rfl).2
 obtain ⟨W0,hW0⟩:∃ W0,W0=((w.alloc (.cells #[.slice (some ⟨bg,0,none⟩) n cg,.int .u64 r.cr,.slice at' m ct,.slice (some ⟨ba,0,none⟩) n ca,.slice (some ⟨bf,0,none⟩) n cf] 74)).alloc (.cells #[.slice none 0 0,.int .u64 0,.slice none 0 0,.slice none 0 0,.slice none 0 0] 74)):=⟨_,rfl⟩
 have HB0:=Lib.hid (show Below w.heap.size w W0 by rw [hW0];exact (Below.allocS (Below.allocS (Below.refl _ _) _) _))
 obtain ⟨c0,fc0,c1,fc1,c2,fc2,c3,fc3,c4,fc4⟩:=uc5 (show CellsF W0 (w.heap.size) [.slice (some ⟨bg,0,none⟩) n cg,.int .u64 r.cr,.slice at' m ct,.slice (some ⟨ba,0,none⟩) n ca,.slice (some ⟨bf,0,none⟩) n cf] by rw [hW0];exact (CellsF.new (by simp)).later (below_a _ _))
 obtain ⟨r0,fr0,r1,fr1,r2,fr2,r3,fr3,r4,fr4⟩:=uc5 (show CellsF W0 (w.heap.size+1) [.slice none 0 0,.int .u64 0,.slice none 0 0,.slice none 0 0,.slice none 0 0] by rw [hW0];exact CellsF.new (by simp))
 have HSZ:=Lib.hid (show W0.heap.size=w.heap.size+1+1 by rw [hW0];simp)
 have HW0:=Lib.hid hW0
 clear hW0
 have HNB0:=Lib.hid (show InB w.heap.size bg at' ba bf m ct from ⟨(h.g.lt bg rfl).2,fun k hk=>(h.t.lt k hk).2,(h.a.lt ba rfl).2,hbf⟩)
 have HR:=Lib.hid (h.later HB0.out)
 clear h hl
 go_enter Tryz.func102,Tryz.ntmps102
 go_upto_region 1 with fail
 rw [← HW0.out]
 generalize hbx:w.heap.size=bx at c0 c1 c2 c3 c4 r0 r1 r2 r3 r4 fc0 fc1 fc2 fc3 fc4 fr0 fr1 fr2 fr3 fr4 HSZ  ⊢
 have HBX:=Lib.hid hbx
 clear hbx HW0
 have HNB:=Lib.hid (show InB bx bg at' ba bf m ct by have:=HNB0.out;rw [HBX.out] at this;exact this)
 have hne:bf≠bx:=by have:=HBX.out;omega
 have hne1:bf≠bx+1:=by have:=HBX.out;omega
 have HBF:=Lib.hid (show bf<W0.heap.size by have:=HSZ.out;have:=HBX.out;omega)
 clear hbf
 go_wp2_with fail
 go_loopw [3] (fun i wr=>∃ g:Nat,g≤n∧i=.int .i64 g∧ROwn base wr bg at' ba bf cg ct ca cf n m { r with fl:=flTo r n g }∧Kept [bf] W0 wr) (fun i _=>n - (intOf i).toNat)
 case atStart=>exact ⟨0,Nat.zero_le _,rfl,by rw [flTo_zero HL.out];exact HR.out,Kept.refl _ _⟩
 case round =>
  clear HR
  obtain ⟨g,hg,rfl,hO,hK⟩:=hrel
  obtain ⟨dc0,gc0,dc1,gc1,dc2,gc2,dc3,gc3,dc4,gc4⟩:=uc5 ((pc5 c0 fc0 c1 fc1 c2 fc2 c3 fc3 c4 fc4).kept hK (by simp;omega))
  obtain ⟨dr0,gr0,dr1,gr1,dr2,gr2,dr3,gr3,dr4,gr4⟩:=uc5 ((pc5 r0 fr0 r1 fr1 r2 fr2 r3 fr3 r4 fr4).kept hK (by simp;omega))
  have HO:=Lib.hid hO
  have HK:=Lib.hid hK
  clear hO hK
  have hg0:(0:Int)≤(g:Int):=by omega
  by_cases hlt:g<n
  ·have hgi:(g:Int)<(n:Int):=by omega
   have z1:decide ((g:Int)<(n:Int))=true:=decide_eq_true hgi
   have z2:decide (g<n)=true:=decide_eq_true hlt
   have HLW:=Lib.hid (HL.out.withF g)
   have A1:=tMembers_at { r with fl:=flTo r n g } n m HLW.out n g (some ⟨bg,0,none⟩) at' (some ⟨ba,0,none⟩) (some ⟨bf,0,none⟩) cg ct ca cf wr hlt (by omega) (HO.out.rin HLW.out)
   rw [mR_fl] at A1
   dsimp only at A1
   have q0:=HO.out.f.cellAt g (by omega)
   obtain ⟨fo,hfo⟩:∃ x,x=r.fl[g]!:=⟨_,rfl⟩
   replace q0:wr.cell? ⟨bf,g,none⟩=some (.int .u64 fo):=by
    rw [q0,hfo]
    have:=flatR_at encU_ok (L:=flTo r n g) (i:=g) (x:=(flTo r n g)[g]!) (by have hl:=HLW.out.f;dsimp only at hl;rw [List.getElem?_eq_getElem (by omega),getElem!_pos _ g (by omega)]) 0 (by decide)
    rw [Nat.mul_one,Nat.add_zero] at this
    rw [this,flTo_at hlt,if_neg (Nat.lt_irrefl _)]
    rfl
   have qf:=HO.out.f.frozenAt g
   have HST:=Lib.hid (flTo_set (r:=r) hlt)
   have HSM:=Lib.hid fun q=>flTo_same (r:=r) hlt q
   obtain ⟨S,hS⟩:∃ S,S=mR r n g:=⟨_,rfl⟩
   rw [← hS] at A1 HST HSM
   rw [← hfo] at HST HSM
   replace A1:=Lib.hid A1
   clear hS hfo
   go_wp2_with fail
   refine A1.out.mono ?_;clear A1;rintro e w6 ⟨v6,rfl,ho6,hb6⟩
   have HO6:=Lib.hid (own_recs encMb_ok ho6)
   obtain ⟨mn,hmn⟩:∃ k,k=S.length:=⟨_,rfl⟩
   rw [← hmn] at ho6
   obtain ⟨a6,c6,rfl⟩:=own_shapeI ho6
   have HMN:=Lib.hid hmn
   have q:=uc5 ((pc5 dc0 gc0 dc1 gc1 dc2 gc2 dc3 gc3 dc4 gc4).later hb6)
   clear dc0 gc0 dc1 gc1 dc2 gc2 dc3 gc3 dc4 gc4
   obtain ⟨dc0,gc0,dc1,gc1,dc2,gc2,dc3,gc3,dc4,gc4⟩:=q
   have q:=uc5 ((pc5 dr0 gr0 dr1 gr1 dr2 gr2 dr3 gr3 dr4 gr4).later hb6)
   clear dr0 gr0 dr1 gr1 dr2 gr2 dr3 gr3 dr4 gr4
   obtain ⟨dr0,gr0,dr1,gr1,dr2,gr2,dr3,gr3,dr4,gr4⟩:=q
   replace qf:=frz_later hb6 qf (lt_of_cell q0)
   replace q0:=cell_later hb6 q0
   replace HO:=Lib.hid (HO.out.later hb6)
   replace HK:=Lib.hid (HK.out.trans (Kept.of hb6))
   clear ho6 hb6 hmn
   cases S with
   | nil =>
    obtain rfl:mn=0:=HMN.out
    go_wp2_with fail
    go_quiet (fail)
    first | refine wp_world (fun W7 hW7=>?_) | refine q_world (fun W7 hW7=>?_)
    have hb7:Below w6.heap.size w6 W7:=by rw [hW7];exact below_drewN (Below.refl _ _) _
    have q:=uc5 ((pc5 dc0 gc0 dc1 gc1 dc2 gc2 dc3 gc3 dc4 gc4).later hb7)
    clear dc0 gc0 dc1 gc1 dc2 gc2 dc3 gc3 dc4 gc4
    obtain ⟨dc0,gc0,dc1,gc1,dc2,gc2,dc3,gc3,dc4,gc4⟩:=q
    have q:=uc5 ((pc5 dr0 gr0 dr1 gr1 dr2 gr2 dr3 gr3 dr4 gr4).later hb7)
    clear dr0 gr0 dr1 gr1 dr2 gr2 dr3 gr3 dr4 gr4
    obtain ⟨dr0,gr0,dr1,gr1,dr2,gr2,dr3,gr3,dr4,gr4⟩:=q
    replace qf:=frz_later hb7 qf (lt_of_cell q0)
    replace q0:=cell_later hb7 q0
    replace HO:=Lib.hid (HO.out.later hb7)
    replace HK:=Lib.hid (HK.out.trans (Kept.of hb7))
    clear hb7 hW7
    go_wp2_with fail
    go_roundw
    case rel=>exact ⟨g+1,by omega,by go_num,by rw [HSM.out rfl];exact HO.out,HK.out⟩
    case measure=>simp [intOf];omega
   | cons x rest =>
    have hmp:0<mn:=by have:=HMN.out;rw [List.length_cons] at this;omega
    have v0:decide ((mn:Int) > 0)=true:=decide_eq_true (by omega)
    have v1:decide (0<mn)=true:=decide_eq_true hmp
    have v2:(0:Int)<(mn:Int):=by omega
    obtain ⟨b,off,rfl,y0,-⟩:=HO6.out.memI (k:=0) (by simp)
    rw [Nat.zero_mul,Nat.add_zero] at y0
    obtain ⟨xv,hxv⟩:∃ i,i=x.2:=⟨_,rfl⟩
    replace y0:w6.cell? ⟨b,off,none⟩=some (.int .u64 xv):=by rw [hxv];exact y0
    have HXV:=Lib.hid hxv
    clear hxv
    by_cases hgt:fo<xv
    ·have e1:decide (xv > fo)=true:=decide_eq_true hgt
     have e2:decide (fo<xv)=true:=decide_eq_true hgt
     go_wp2_with fail
     go_quiet (fail)
     first | refine wp_world (fun W7 hW7=>?_) | refine q_world (fun W7 hW7=>?_)
     have hb7:Below w6.heap.size w6 W7:=by rw [hW7];exact below_drewN (Below.refl _ _) _
     have q:=uc5 ((pc5 dc0 gc0 dc1 gc1 dc2 gc2 dc3 gc3 dc4 gc4).later hb7)
     clear dc0 gc0 dc1 gc1 dc2 gc2 dc3 gc3 dc4 gc4
     obtain ⟨dc0,gc0,dc1,gc1,dc2,gc2,dc3,gc3,dc4,gc4⟩:=q
     have q:=uc5 ((pc5 dr0 gr0 dr1 gr1 dr2 gr2 dr3 gr3 dr4 gr4).later hb7)
     clear dr0 gr0 dr1 gr1 dr2 gr2 dr3 gr3 dr4 gr4
     obtain ⟨dr0,gr0,dr1,gr1,dr2,gr2,dr3,gr3,dr4,gr4⟩:=q
     replace qf:=frz_later hb7 qf (lt_of_cell q0)
     replace q0:=cell_later hb7 q0
     replace HO:=Lib.hid (HO.out.later hb7)
     replace HK:=Lib.hid (HK.out.trans (Kept.of hb7))
     replace y0:=cell_later hb7 y0
     clear hb7 hW7
     go_wp2_with fail
     go_region
     have HFE:=Lib.hid (show flTo r n (g+1)=(flTo r n g).set g xv by rw [HST.out,rise_cons,← HXV.out,show max fo xv=xv by omega])
     have HO8:=Lib.hid ((HO.out.setF HLW.out hlt xv).later (Below.refl _ _).drew)
     have HK8:=Lib.hid ((HK.out.setCell (p:=⟨bf,g,none⟩) (Or.inl (by simp)) (.int .u64 xv)).drew)
     go_wp2_with fail
     go_roundw
     case rel=>exact ⟨g+1,by omega,by go_num,by rw [HFE.out];exact HO8.out,HK8.out⟩
     case measure=>simp [intOf];omega
    ·have e1:decide (xv > fo)=false:=decide_eq_false (by omega)
     have e2:decide (fo<xv)=false:=decide_eq_false hgt
     go_wp2_with fail
     go_quiet (fail)
     first | refine wp_world (fun W7 hW7=>?_) | refine q_world (fun W7 hW7=>?_)
     have hb7:Below w6.heap.size w6 W7:=by rw [hW7];exact below_drewN (Below.refl _ _) _
     have q:=uc5 ((pc5 dc0 gc0 dc1 gc1 dc2 gc2 dc3 gc3 dc4 gc4).later hb7)
     clear dc0 gc0 dc1 gc1 dc2 gc2 dc3 gc3 dc4 gc4
     obtain ⟨dc0,gc0,dc1,gc1,dc2,gc2,dc3,gc3,dc4,gc4⟩:=q
     have q:=uc5 ((pc5 dr0 gr0 dr1 gr1 dr2 gr2 dr3 gr3 dr4 gr4).later hb7)
     clear dr0 gr0 dr1 gr1 dr2 gr2 dr3 gr3 dr4 gr4
     obtain ⟨dr0,gr0,dr1,gr1,dr2,gr2,dr3,gr3,dr4,gr4⟩:=q
     replace qf:=frz_later hb7 qf (lt_of_cell q0)
     replace q0:=cell_later hb7 q0
     replace HO:=Lib.hid (HO.out.later hb7)
     replace HK:=Lib.hid (HK.out.trans (Kept.of hb7))
     clear hb7 hW7
     go_wp2_with fail
     go_roundw
     case rel=>exact ⟨g+1,by omega,by go_num,by rw [HSM.out (by rw [rise_cons,← HXV.out];omega)];exact HO.out,HK.out⟩
     case measure=>simp [intOf];omega
  ·have HGN:=Lib.hid (show g=n by omega)
   have z1:decide ((g:Int)<(n:Int))=false:=decide_eq_false (by omega)
   have z2:decide (g<n)=false:=decide_eq_false hlt
   have z3:¬ (g:Int)<(n:Int):=by omega
   clear hg hlt
   go_wp2_with fail
   refine bodyPost_ret (v:=.agg #[.slice (some ⟨bg,0,none⟩) n cg,.int .u64 r.cr,.slice at' m ct,.slice (some ⟨ba,0,none⟩) n ca,.slice (some ⟨bf,0,none⟩) n cf]) (by simp [results,Tryz.results102,go_sem, *]) rfl ?_
   have hgn:g=n:=HGN.out
   subst hgn
   refine ⟨rfl,?_,?_⟩
   ·have hle:bx≤bx+1:=Nat.le_succ _
    exact ((((HO.out.asideC HNB.out (a:=⟨bx+1,0,none⟩) hle _).asideC HNB.out (a:=⟨bx+1,1,none⟩) hle _).asideC HNB.out (a:=⟨bx+1,2,none⟩) hle _).asideC HNB.out (a:=⟨bx+1,3,none⟩) hle _).asideC HNB.out (a:=⟨bx+1,4,none⟩) hle _
   ·have hle:w.heap.size≤bx+1:=by rw [HBX.out];omega
    have hk:=(Kept.of (S:=[bf]) HB0.out).trans HK.out
    exact ((((hk.setCell (p:=⟨bx+1,0,none⟩) (Or.inr hle) _).setCell (p:=⟨bx+1,1,none⟩) (Or.inr hle) _).setCell (p:=⟨bx+1,2,none⟩) (Or.inr hle) _).setCell (p:=⟨bx+1,3,none⟩) (Or.inr hle) _).setCell (p:=⟨bx+1,4,none⟩) (Or.inr hle) _
theorem eless_at (a b:Int) (w:World) (ha:0≤a∧a≤18446744073709551615) (hb:0≤b):Calls Tryz.prog 117 #[.int .u64 a,.int .u64 b] w fun e w'=>e=.returned (.int .u64 (a - min a b))∧w=w':=by
 by_cases h:b > a
 ·have z1:decide (b > a)=true:=decide_eq_true h
  rw [show a - min a b=0 by omega]
  have z2:decide (a<b)=true:=decide_eq_true h
  clear h
  go_enter Tryz.func117,Tryz.ntmps117
  go_wp2_with fail
  go_ret
  exact ⟨rfl,rfl⟩
 ·have z1:decide (b > a)=false:=decide_eq_false h
  have z2:decide (a<b)=false:=decide_eq_false h
  rw [show a - min a b=a - b by omega]
  have w1:IntKind.u64.wrap (a - b)=a - b:=IntWalk.u64_in _ (by omega)
  clear h
  go_enter Tryz.func117,Tryz.ntmps117
  go_wp2_with fail
  go_ret
  exact ⟨rfl,rfl⟩
set_option maxRecDepth 100000 in
set_option maxHeartbeats 1000000 in
theorem eWoken_at (v r k fl cr:Int) (w:World) (hx:Ch.Fits v r k) (hf:0≤fl∧fl≤18446744073709551615) (hc:0≤cr∧cr≤18446744073709551615) :
  Calls Tryz.prog 99 #[.agg #[.int .u64 v,.int .u32 r,.int .u32 k],.int .u64 fl,.int .u64 cr] w fun e w'=>e=.returned (.tuple #[.agg #[.int .u64 (wokenX (v,r,k) fl cr).1,.int .u32 (wokenX (v,r,k) fl cr).2.1,.int .u32 (wokenX (v,r,k) fl cr).2.2],.int .i64 (wokenC (v,r,k))])∧Below w.heap.size w w':=by
 have A1:=Lib.hid fun W=>rRight_any v r k W hx
 have A2:=Lib.hid fun W=>eless_at fl cr W hf hc.1
 unfold wokenX wokenC
 obtain ⟨W0,hW0⟩:∃ W0,W0=((w.alloc (.cells #[.int .u64 v,.int .u32 r,.int .u32 k] 120)).alloc (.cells #[.int .u64 0,.int .u32 0,.int .u32 0] 120)):=⟨_,rfl⟩
 have HB0:=Lib.hid (show Below w.heap.size w W0 by rw [hW0];exact (Below.allocS (Below.allocS (Below.refl _ _) _) _))
 obtain ⟨x0,fx0,x1,fx1,x2,fx2⟩:=uc3 (show CellsF W0 (w.heap.size) [.int .u64 v,.int .u32 r,.int .u32 k] by rw [hW0];exact (CellsF.new (by simp)).later (below_a _ _))
 obtain ⟨q0,fq0,q1,fq1,q2,fq2⟩:=uc3 (show CellsF W0 (w.heap.size+1) [.int .u64 0,.int .u32 0,.int .u32 0] by rw [hW0];exact CellsF.new (by simp))
 have HSZ:=Lib.hid (show W0.heap.size=w.heap.size+1+1 by rw [hW0];simp)
 have HW0:=Lib.hid hW0
 clear hW0
 by_cases h1:Ch.Ok v r k
 ·have HO:=Lib.hid (Ch.okB_t h1)
  rw [if_pos h1,if_pos h1]
  clear h1 hf hc hx
  generalize fl - min fl cr=d at *
  by_cases h2:v<d
  ·rw [if_pos h2]
   have z1:decide (d > v)=true:=decide_eq_true h2
   have z2:decide (v<d)=true:=decide_eq_true h2
   clear h2
   go_enter Tryz.func99,Tryz.ntmps99
   go_upto_region 1 with fail
   rw [← HW0.out]
   generalize hbx:w.heap.size=bx at x0 x1 x2 q0 q1 q2 fx0 fx1 fx2 fq0 fq1 fq2 HSZ  ⊢
   have HBX:=Lib.hid hbx
   clear hbx HW0
   have hle:w.heap.size≤bx:=Nat.le_of_eq HBX.out
   have hle1:w.heap.size≤bx+1:=Nat.le_succ_of_le hle
   go_wp2_with fail
   refine (A1.out W0).mono ?_;rintro e w1 ⟨rfl,hb1⟩
   have q:=uc3 ((pc3 x0 fx0 x1 fx1 x2 fx2).later hb1)
   clear x0 fx0 x1 fx1 x2 fx2
   obtain ⟨x0,fx0,x1,fx1,x2,fx2⟩:=q
   have q:=uc3 ((pc3 q0 fq0 q1 fq1 q2 fq2).later hb1)
   clear q0 fq0 q1 fq1 q2 fq2
   obtain ⟨q0,fq0,q1,fq1,q2,fq2⟩:=q
   have HB1:=Lib.hid (Below.step HB0.out hb1)
   clear hb1
   rw [HO.out]
   go_wp2_with fail
   refine (A2.out w1).mono ?_;rintro e w2 ⟨rfl,rfl⟩
   go_wp2_with fail
   refine bodyPost_ret (v:=.tuple #[.agg #[.int .u64 d,.int .u32 0,.int .u32 k],.int .i64 0]) (by simp [results,Tryz.results99,go_sem, *]) rfl ⟨rfl,?_⟩
   repeat (first | exact HB1.out | refine Below.setCell ?_ (by first | exact hle | exact hle1) _)
  ·rw [if_neg h2]
   have z1:decide (d > v)=false:=decide_eq_false h2
   have z2:decide (v<d)=false:=decide_eq_false h2
   clear h2
   go_enter Tryz.func99,Tryz.ntmps99
   go_upto_region 1 with fail
   rw [← HW0.out]
   generalize hbx:w.heap.size=bx at x0 x1 x2 q0 q1 q2 fx0 fx1 fx2 fq0 fq1 fq2 HSZ  ⊢
   have HBX:=Lib.hid hbx
   clear hbx HW0
   have hle:w.heap.size≤bx:=Nat.le_of_eq HBX.out
   have hle1:w.heap.size≤bx+1:=Nat.le_succ_of_le hle
   go_wp2_with fail
   refine (A1.out W0).mono ?_;rintro e w1 ⟨rfl,hb1⟩
   have q:=uc3 ((pc3 x0 fx0 x1 fx1 x2 fx2).later hb1)
   clear x0 fx0 x1 fx1 x2 fx2
   obtain ⟨x0,fx0,x1,fx1,x2,fx2⟩:=q
   have q:=uc3 ((pc3 q0 fq0 q1 fq1 q2 fq2).later hb1)
   clear q0 fq0 q1 fq1 q2 fq2
   obtain ⟨q0,fq0,q1,fq1,q2,fq2⟩:=q
   have HB1:=Lib.hid (Below.step HB0.out hb1)
   clear hb1
   rw [HO.out]
   go_wp2_with fail
   refine (A2.out w1).mono ?_;rintro e w2 ⟨rfl,rfl⟩
   go_wp2_with fail
   refine bodyPost_ret (v:=.tuple #[.agg #[.int .u64 v,.int .u32 r,.int .u32 k],.int .i64 0]) (by simp [results,Tryz.results99,go_sem, *]) rfl ⟨rfl,?_⟩
   repeat (first | exact HB1.out | refine Below.setCell ?_ (by first | exact hle | exact hle1) _)
 ·have HO:=Lib.hid (Ch.okB_f h1)
  rw [if_neg h1,if_neg h1]
  clear h1 hf hc hx
  go_enter Tryz.func99,Tryz.ntmps99
  go_upto_region 1 with fail
  rw [← HW0.out]
  generalize hbx:w.heap.size=bx at x0 x1 x2 q0 q1 q2 fx0 fx1 fx2 fq0 fq1 fq2 HSZ  ⊢
  have HBX:=Lib.hid hbx
  clear hbx HW0
  have hle:w.heap.size≤bx:=Nat.le_of_eq HBX.out
  have hle1:w.heap.size≤bx+1:=Nat.le_succ_of_le hle
  go_wp2_with fail
  refine (A1.out W0).mono ?_;rintro e w1 ⟨rfl,hb1⟩
  have q:=uc3 ((pc3 x0 fx0 x1 fx1 x2 fx2).later hb1)
  clear x0 fx0 x1 fx1 x2 fx2
  obtain ⟨x0,fx0,x1,fx1,x2,fx2⟩:=q
  have q:=uc3 ((pc3 q0 fq0 q1 fq1 q2 fq2).later hb1)
  clear q0 fq0 q1 fq1 q2 fq2
  obtain ⟨q0,fq0,q1,fq1,q2,fq2⟩:=q
  have HB1:=Lib.hid (Below.step HB0.out hb1)
  clear hb1
  rw [HO.out]
  go_wp2_with fail
  refine bodyPost_ret (v:=.tuple #[.agg #[.int .u64 0,.int .u32 0,.int .u32 0],.int .i64 2]) (by simp [results,Tryz.results99,go_sem, *]) rfl ⟨rfl,?_⟩
  repeat (first | exact HB1.out | refine Below.setCell ?_ (by first | exact hle | exact hle1) _)
def wrongC (r:RSt) (n:Nat) (id g:Int) (ok:Bool):Int:=if nameV id && hasV (n:Int) g && ok then (if 0≤findT r.T id then 250 else 0) else 2
def thereC (r:RSt) (id:Int) (ok:Bool):Int:=if nameV id && ok then (if 0≤findT r.T id then 0 else 6) else 2
def thereI (r:RSt) (id:Int) (ok:Bool):Int:=if nameV id && ok then (if 0≤findT r.T id then findT r.T id else 0) else 0
theorem name_no {id:Int} (h:id<1∨65535<id):nameV id=false:=decide_eq_false (by omega)
theorem name_yes {id:Int} (h:1≤id) (h':id≤65535):nameV id=true:=decide_eq_true ⟨h,h'⟩
set_option maxRecDepth 100000 in
set_option maxHeartbeats 2000000 in
theorem twrong_at (r:RSt) (n m:Nat) (hl:RLen r n m) (id g:Int) (ok:Bool) (ag at' aa af:Option Addr) (cg ct ca cf:Nat) (w:World) (hin:RIn w ag at' aa af cg ct ca cf n m r) :
  Calls Tryz.prog 95 #[.agg #[.slice ag n cg,.int .u64 r.cr,.slice at' m ct,.slice aa n ca,.slice af n cf],.int .i64 id,.int .i64 g,.bool ok] w fun e w'=>e=.returned (.int .i64 (wrongC r n id g ok))∧Below w.heap.size w w':=by
 have A1:=Lib.hid fun W (q:RIn W ag at' aa af cg ct ca cf n m r)=>tFind_at r n m hl id ag at' aa af cg ct ca cf W q
 have hn:=hl.pos
 obtain ⟨W0,hW0⟩:∃ W0,W0=(w.alloc (.cells #[.slice ag n cg,.int .u64 r.cr,.slice at' m ct,.slice aa n ca,.slice af n cf] 74)):=⟨_,rfl⟩
 have HB0:=Lib.hid (show Below w.heap.size w W0 by rw [hW0];exact (Below.allocS (Below.refl _ _) _))
 obtain ⟨c0,fc0,c1,fc1,c2,fc2,c3,fc3,c4,fc4⟩:=uc5 (show CellsF W0 (w.heap.size) [.slice ag n cg,.int .u64 r.cr,.slice at' m ct,.slice aa n ca,.slice af n cf] by rw [hW0];exact CellsF.new (by simp))
 have HSZ:=Lib.hid (show W0.heap.size=w.heap.size+1 by rw [hW0];simp)
 have HW0:=Lib.hid hW0
 clear hW0
 have HIN:=Lib.hid (hin.later HB0.out)
 clear hin fc0 fc1 fc2 fc3 fc4
 clear hl
 unfold wrongC
 by_cases h0:id<1
 ·have z0:decide (id<1)=true:=decide_eq_true h0
  rw [name_no (Or.inl h0)]
  clear h0
  go_enter Tryz.func95,Tryz.ntmps95
  go_wp2_with fail
  rw [← HW0.out]
  obtain ⟨bt,hbt⟩:∃ b,b=w.heap.size:=⟨_,rfl⟩
  rw [← hbt] at c0 c1 c2 c3 c4 ⊢
  have HBT:=Lib.hid hbt
  clear hbt HW0 HSZ
  go_ret
  exact ⟨rfl,by first | exact HB0.out | (rw [HBT.out];exact HB0.out)⟩
 have z0:decide (id<1)=false:=decide_eq_false h0
 by_cases h1:65535<id
 ·have z1:decide (id > 65535)=true:=decide_eq_true h1
  rw [name_no (Or.inr h1)]
  clear h0 h1
  go_enter Tryz.func95,Tryz.ntmps95
  go_wp2_with fail
  rw [← HW0.out]
  obtain ⟨bt,hbt⟩:∃ b,b=w.heap.size:=⟨_,rfl⟩
  rw [← hbt] at c0 c1 c2 c3 c4 ⊢
  have HBT:=Lib.hid hbt
  clear hbt HW0 HSZ
  go_ret
  exact ⟨rfl,by first | exact HB0.out | (rw [HBT.out];exact HB0.out)⟩
 have z1:decide (id > 65535)=false:=decide_eq_false h1
 rw [name_yes (by omega) (by omega)]
 clear h0 h1
 by_cases h2:g<0
 ·have z2:decide (g<0)=true:=decide_eq_true h2
  rw [show hasV (n:Int) g=false from decide_eq_false (by omega)]
  clear h2
  go_enter Tryz.func95,Tryz.ntmps95
  go_wp2_with fail
  rw [← HW0.out]
  obtain ⟨bt,hbt⟩:∃ b,b=w.heap.size:=⟨_,rfl⟩
  rw [← hbt] at c0 c1 c2 c3 c4 ⊢
  have HBT:=Lib.hid hbt
  clear hbt HW0 HSZ
  go_ret
  exact ⟨rfl,by first | exact HB0.out | (rw [HBT.out];exact HB0.out)⟩
 have z2:decide (g<0)=false:=decide_eq_false h2
 obtain ⟨k,rfl⟩:∃ k:Nat,g=k:=⟨g.toNat,by omega⟩
 by_cases h3:n≤k
 ·have z3:decide ((k:Int) ≥ (n:Int))=true:=decide_eq_true (by omega)
  have z4:decide (n≤k)=true:=decide_eq_true h3
  have z5:(n:Int)≤(k:Int):=by omega
  rw [show hasV (n:Int) (k:Int)=false from decide_eq_false (by omega)]
  clear h2 h3
  go_enter Tryz.func95,Tryz.ntmps95
  go_wp2_with fail
  rw [← HW0.out]
  obtain ⟨bt,hbt⟩:∃ b,b=w.heap.size:=⟨_,rfl⟩
  rw [← hbt] at c0 c1 c2 c3 c4 ⊢
  have HBT:=Lib.hid hbt
  clear hbt HW0 HSZ
  go_ret
  exact ⟨rfl,by first | exact HB0.out | (rw [HBT.out];exact HB0.out)⟩
 have z3:decide ((k:Int) ≥ (n:Int))=false:=decide_eq_false (by omega)
 have z4:decide (n≤k)=false:=decide_eq_false h3
 have z5:¬ (n:Int)≤(k:Int):=by omega
 have z6:¬ n≤k:=h3
 rw [show hasV (n:Int) (k:Int)=true from decide_eq_true (by omega)]
 clear h2 h3
 cases ok with
 | false =>
  go_enter Tryz.func95,Tryz.ntmps95
  go_wp2_with fail
  rw [← HW0.out]
  obtain ⟨bt,hbt⟩:∃ b,b=w.heap.size:=⟨_,rfl⟩
  rw [← hbt] at c0 c1 c2 c3 c4 ⊢
  have HBT:=Lib.hid hbt
  clear hbt HW0 HSZ
  go_ret
  exact ⟨rfl,by first | exact HB0.out | (rw [HBT.out];exact HB0.out)⟩
 | true =>
  rw [if_pos (show (true && true && true)=true from rfl)]
  by_cases hf:0≤findT r.T id
  ·have v1:decide (findT r.T id ≥ 0)=true:=decide_eq_true hf
   rw [if_pos hf]
   generalize findT r.T id=fi at *
   go_enter Tryz.func95,Tryz.ntmps95
   go_wp2_with fail
   rw [← HW0.out]
   obtain ⟨bt,hbt⟩:∃ b,b=w.heap.size:=⟨_,rfl⟩
   rw [← hbt] at c0 c1 c2 c3 c4 ⊢
   have HBT:=Lib.hid hbt
   clear hbt HW0 HSZ
   refine (A1.out W0 HIN.out).mono ?_;rintro e w1 ⟨rfl,hb1⟩
   have HB1:=Lib.hid (Below.step HB0.out hb1)
   clear hb1
   go_wp2_with fail
   go_ret
   exact ⟨rfl,by first | exact HB1.out | (rw [HBT.out];exact HB1.out)⟩
  ·have v1:decide (findT r.T id ≥ 0)=false:=decide_eq_false hf
   rw [if_neg hf]
   generalize findT r.T id=fi at *
   go_enter Tryz.func95,Tryz.ntmps95
   go_wp2_with fail
   rw [← HW0.out]
   obtain ⟨bt,hbt⟩:∃ b,b=w.heap.size:=⟨_,rfl⟩
   rw [← hbt] at c0 c1 c2 c3 c4 ⊢
   have HBT:=Lib.hid hbt
   clear hbt HW0 HSZ
   refine (A1.out W0 HIN.out).mono ?_;rintro e w1 ⟨rfl,hb1⟩
   have HB1:=Lib.hid (Below.step HB0.out hb1)
   clear hb1
   go_wp2_with fail
   go_ret
   exact ⟨rfl,by first | exact HB1.out | (rw [HBT.out];exact HB1.out)⟩
set_option maxRecDepth 100000 in
set_option maxHeartbeats 2000000 in
theorem tthere_at (r:RSt) (n m:Nat) (hl:RLen r n m) (id:Int) (ok:Bool) (ag at' aa af:Option Addr) (cg ct ca cf:Nat) (w:World) (hin:RIn w ag at' aa af cg ct ca cf n m r) :
  Calls Tryz.prog 100 #[.agg #[.slice ag n cg,.int .u64 r.cr,.slice at' m ct,.slice aa n ca,.slice af n cf],.int .i64 id,.bool ok] w fun e w'=>e=.returned (.tuple #[.int .i64 (thereI r id ok),.int .i64 (thereC r id ok)])∧Below w.heap.size w w':=by
 have A1:=Lib.hid fun W (q:RIn W ag at' aa af cg ct ca cf n m r)=>tFind_at r n m hl id ag at' aa af cg ct ca cf W q
 have hn:=hl.pos
 obtain ⟨W0,hW0⟩:∃ W0,W0=(w.alloc (.cells #[.slice ag n cg,.int .u64 r.cr,.slice at' m ct,.slice aa n ca,.slice af n cf] 74)):=⟨_,rfl⟩
 have HB0:=Lib.hid (show Below w.heap.size w W0 by rw [hW0];exact (Below.allocS (Below.refl _ _) _))
 obtain ⟨c0,fc0,c1,fc1,c2,fc2,c3,fc3,c4,fc4⟩:=uc5 (show CellsF W0 (w.heap.size) [.slice ag n cg,.int .u64 r.cr,.slice at' m ct,.slice aa n ca,.slice af n cf] by rw [hW0];exact CellsF.new (by simp))
 have HSZ:=Lib.hid (show W0.heap.size=w.heap.size+1 by rw [hW0];simp)
 have HW0:=Lib.hid hW0
 clear hW0
 have HIN:=Lib.hid (hin.later HB0.out)
 clear hin fc0 fc1 fc2 fc3 fc4
 clear hl
 unfold thereC thereI
 by_cases h0:id<1
 ·have z0:decide (id<1)=true:=decide_eq_true h0
  rw [name_no (Or.inl h0)]
  clear h0
  go_enter Tryz.func100,Tryz.ntmps100
  go_wp2_with fail
  rw [← HW0.out]
  obtain ⟨bt,hbt⟩:∃ b,b=w.heap.size:=⟨_,rfl⟩
  rw [← hbt] at c0 c1 c2 c3 c4 ⊢
  have HBT:=Lib.hid hbt
  clear hbt HW0 HSZ
  go_ret2
  exact ⟨rfl,by first | exact HB0.out | (rw [HBT.out];exact HB0.out)⟩
 have z0:decide (id<1)=false:=decide_eq_false h0
 by_cases h1:65535<id
 ·have z1:decide (id > 65535)=true:=decide_eq_true h1
  rw [name_no (Or.inr h1)]
  clear h0 h1
  go_enter Tryz.func100,Tryz.ntmps100
  go_wp2_with fail
  rw [← HW0.out]
  obtain ⟨bt,hbt⟩:∃ b,b=w.heap.size:=⟨_,rfl⟩
  rw [← hbt] at c0 c1 c2 c3 c4 ⊢
  have HBT:=Lib.hid hbt
  clear hbt HW0 HSZ
  go_ret2
  exact ⟨rfl,by first | exact HB0.out | (rw [HBT.out];exact HB0.out)⟩
 have z1:decide (id > 65535)=false:=decide_eq_false h1
 rw [name_yes (by omega) (by omega)]
 clear h0 h1
 cases ok with
 | false =>
  go_enter Tryz.func100,Tryz.ntmps100
  go_wp2_with fail
  rw [← HW0.out]
  obtain ⟨bt,hbt⟩:∃ b,b=w.heap.size:=⟨_,rfl⟩
  rw [← hbt] at c0 c1 c2 c3 c4 ⊢
  have HBT:=Lib.hid hbt
  clear hbt HW0 HSZ
  go_ret2
  exact ⟨rfl,by first | exact HB0.out | (rw [HBT.out];exact HB0.out)⟩
 | true =>
  rw [if_pos (show (true && true)=true from rfl),if_pos (show (true && true)=true from rfl)]
  by_cases hf:0≤findT r.T id
  ·have v1:decide (findT r.T id<0)=false:=decide_eq_false (by omega)
   rw [if_pos hf,if_pos hf]
   generalize findT r.T id=fi at *
   go_enter Tryz.func100,Tryz.ntmps100
   go_wp2_with fail
   rw [← HW0.out]
   obtain ⟨bt,hbt⟩:∃ b,b=w.heap.size:=⟨_,rfl⟩
   rw [← hbt] at c0 c1 c2 c3 c4 ⊢
   have HBT:=Lib.hid hbt
   clear hbt HW0 HSZ
   refine (A1.out W0 HIN.out).mono ?_;rintro e w1 ⟨rfl,hb1⟩
   have HB1:=Lib.hid (Below.step HB0.out hb1)
   clear hb1
   go_wp2_with fail
   go_ret2
   exact ⟨rfl,by first | exact HB1.out | (rw [HBT.out];exact HB1.out)⟩
  ·have v1:decide (findT r.T id<0)=true:=decide_eq_true (by omega)
   rw [if_neg hf,if_neg hf]
   generalize findT r.T id=fi at *
   go_enter Tryz.func100,Tryz.ntmps100
   go_wp2_with fail
   rw [← HW0.out]
   obtain ⟨bt,hbt⟩:∃ b,b=w.heap.size:=⟨_,rfl⟩
   rw [← hbt] at c0 c1 c2 c3 c4 ⊢
   have HBT:=Lib.hid hbt
   clear hbt HW0 HSZ
   refine (A1.out W0 HIN.out).mono ?_;rintro e w1 ⟨rfl,hb1⟩
   have HB1:=Lib.hid (Below.step HB0.out hb1)
   clear hb1
   go_wp2_with fail
   go_ret2
   exact ⟨rfl,by first | exact HB1.out | (rw [HBT.out];exact HB1.out)⟩
end Go.Proofs.YtfgmglghlapbcaaGreat
