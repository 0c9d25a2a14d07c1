/-
  Layer 30 (model): New.
-/
import Derived.Test.YtapnaocdehahdaaGreatMdM
import Derived.Test.YtapnaocdehahdaaGreatMdL
namespace Go.Proofs.YtapnaocdehahdaaGreat
open Go.RowKit Go.Maps Go.IntWalk Go.Lib
set_option linter.unusedVariables false
set_option linter.unusedSimpArgs false
theorem lit_runM {P:Program} {ty:TypeId} {parts:Array (Nat×Operand)} {dst:Option Nat} {tt:TypeId} {pos:String} {after:Array Edge} {gd:Option (Nat×Bool)} {ev:Operand→Value} {w:World} (vs:Array (Nat×Value)) (cells:Array Value)
  (he:parts.map (fun p=>(p.1,ev p.2))=vs) (hb:P.built ty vs.toList=some cells):(execOp ev ⟨dst,.build ty parts,tt,pos,after,gd⟩).run P w=.ok (.value (.agg cells)) w:=by
 have h:=run_build w ty vs cells hb
 rw [← he] at h
 show Sem.run P (do pure (Next.value (← Instr.build ty (parts.map (fun p=>(p.1,ev p.2)))))) w=_
 simp [h]
theorem makeSp (W:World) {C:Nat} (h:C≤64):(Instr.makeSlice 69 (.int .i64 (C:Int)) (.int .i64 (C:Int))).run Tryz.prog W=.ok (.slice (some ⟨W.heap.size,0,none⟩) C C) (W.alloc (.cells (madeCells #[.int .u64 0,.int .u32 0,.int .u64 0] (C*3)) 121)):=by
 obtain ⟨i0,hi,hz0,hz1,hz2⟩:=info_parts infoSpt
 have hb:(i0.bytes:Int)*(C:Int)≤281474976710656:=by rw [hz2];omega
 have hr:=run_make (P:=Tryz.prog) W 69 121 i0 _ Tryz.underlying69 hi hz0 .i64 .i64 C C (by omega) (Int.le_refl _) hb (by omega)
 simp only [Int.toNat_natCast,hz1] at hr
 exact hr
set_option maxRecDepth 100000 in
set_option maxHeartbeats 4000000 in
theorem mnew_at {w:World} {vb cg C:Nat} {cr:Int} {Gs:Grps} (hg:GrpsAt w vb Gs) (hcap:Gs.length≤cg∧cg≤9223372036854775807) (hr:RightG Gs) (hC:1≤C∧C≤64) (hc:0≤cr∧cr≤1099511627776) :
  Calls Tryz.prog 38 #[.agg #[.int .i64 C,.int .u64 cr,.slice (some ⟨vb,0,none⟩) Gs.length cg]] w fun e w'=>∃ x L,e=.returned (.tuple #[.pointer (some ⟨x,0,none⟩),.int .i64 0])∧MIn w' x L (freshM Gs C cr)∧(∀ b,L.lab b≠(0,0)→w.heap.size≤b)∧Below w.heap.size w w':=by
 obtain ⟨ii,ji,jz0,jz1,jz2⟩:=info_parts infoI
 obtain ⟨ip,pi,pz0,pz1,pz2⟩:=info_parts infoSpt
 obtain ⟨iq,qi,qz0,qz1,qz2⟩:=info_parts infoSptR
 obtain ⟨n,hnn⟩:∃ n,n=Gs.length:=⟨_,rfl⟩
 have hn:0<n∧n≤256:=by rw [hnn];exact ⟨hr.pos,hr.le⟩
 rw [← hnn] at hcap ⊢
 obtain ⟨W0,hW0⟩:∃ W,W=w.alloc (.cells #[.int .i64 C,.int .u64 cr,.slice (some ⟨vb,0,none⟩) n cg] 37):=⟨_,rfl⟩
 have hb0:Below w.heap.size w W0:=by rw [hW0];exact below_a _ _
 have y0:W0.cell? ⟨w.heap.size,0,none⟩=some (.int .i64 C):=by rw [hW0];exact cell_nw w _ _ 0 _ rfl
 have y1:W0.cell? ⟨w.heap.size,1,none⟩=some (.int .u64 cr):=by rw [hW0];exact cell_nw w _ _ 1 _ rfl
 have y2:W0.cell? ⟨w.heap.size,2,none⟩=some (.slice (some ⟨vb,0,none⟩) n cg):=by rw [hW0];exact cell_nw w _ _ 2 _ rfl
 have hg0:=hg.kept (G:=[]) (Kept.of hb0) (by simp)
 have A1:=Lib.hid (mRC_at (C:=C) (cr:=cr) (v:=.slice (some ⟨vb,0,none⟩) n cg) (Gs:=Gs) W0 ⟨_,cg,by rw [hnn],by rw [← hnn];exact hcap.1,hcap.2,(fun q=>by cases q),Or.inr ⟨vb,0,rfl,fun j u hu=>by rw [Nat.zero_add];exact grps_recs hg0 j u hu⟩⟩ (by omega) hc hr)
 have HW0:=Lib.hid hW0
 have HB0:=Lib.hid hb0
 have HG:=Lib.hid hg
 have HCAP:=Lib.hid hcap
 have HNN:=Lib.hid hnn
 have HN:=Lib.hid hn
 have HC:=Lib.hid hC
 have M1:∀ W:World,(Instr.makeSlice 42 (.int .i64 (C:Int)) (.int .i64 (C:Int))).run Tryz.prog W=.ok (.slice (some ⟨W.heap.size,0,none⟩) C C) (W.alloc (.cells (madeCells #[.int .i64 0] (C*1)) 3)):=fun W=>makes W hC.2 _ _ ii _ 1 8 Tryz.underlying42 ji jz0 jz1 jz2 (by decide)
 have hbv:vb<w.heap.size:=hg.lt
 clear hb0 hW0 hg0 hg hcap hr hc hnn
 go_enter Tryz.func38,Tryz.ntmps38
 go_upto_region 1 with fail
 rw [← HW0.out]
 go_wp2_with fail
 refine A1.out.mono ?_;rintro e w1 ⟨rfl,hb1⟩
 go_upto_region 3 with fail
 obtain ⟨W1,rfl⟩:∃ W:World,W=w1:=⟨_,rfl⟩
 replace y0:=cell_later hb1 y0
 replace y1:=cell_later hb1 y1
 replace y2:=cell_later hb1 y2
 have HB1:=Lib.hid (Below.step HB0.out hb1)
 clear hb1 A1
 go_cut [4] (fun v wx=>∃ bs gl gu,v=.pointer (some ⟨bs,0,none⟩)∧Hid (StB wx bs C cr (.slice (some ⟨vb,0,none⟩) n cg) (.slice (some ⟨gl,0,none⟩) C C) (.slice (some ⟨gu,0,none⟩) C C) (.slice none 0 0) (.slice none 0 0))∧Hid (IntsAt wx gl C (fun _=>0))∧Hid (IntsAt wx gu C (fun _=>0))∧Hid (W1.heap.size≤bs∧gl≠bs∧gu≠bs∧W1.heap.size≤gl∧W1.heap.size≤gu)∧Hid (Below W1.heap.size W1 wx))
 case first =>
  refine startB (S:=fun w'=>Below W1.heap.size W1 w'∧w'.cell? ⟨w.heap.size,0,none⟩=some (.int .i64 C)∧w'.cell? ⟨w.heap.size,1,none⟩=some (.int .u64 cr)∧w'.cell? ⟨w.heap.size,2,none⟩=some (.slice (some ⟨vb,0,none⟩) n cg)) ⟨Below.refl _ _,y0,y1,y2⟩ (held_3 (below_dr _)) (fun hS00 hS0 hHeld=>?_)
  obtain ⟨wc101,hwc101⟩:∃ X,X=W1.drew:=⟨_,rfl⟩
  rw [← hwc101] at hHeld ⊢
  have hWc101:Below W1.heap.size W1 wc101:=by rw [hwc101];exact (Below.refl _ _).drew
  clear hwc101
  refine takeA 0 ?_
  refine takeA 1 ?_
  refine takeA 2 ?_
  refine takeA 4 ?_
  refine takeA 5 ?_
  refine readyA [3,6,8] (consA (fun K hK=>?_) (consA (fun K hK=>?_) (consA (fun K hK=>?_) .nil)))
  ·skip
   go_simp
   obtain ⟨w102,hw102⟩:∃ X,X=wc101.alloc (.cells (madeCells #[.int .i64 0] C) 3):=⟨_,rfl⟩
   obtain ⟨gl,hgl⟩:∃ b,b=wc101.heap.size:=⟨_,rfl⟩
   rw [← hw102,← hgl]
   have hv102:Below wc101.heap.size wc101 w102:=by rw [hw102];exact below_a _ _
   have i_gl:IntsAt w102 gl C (fun _=>0):=by rw [hw102];exact IntsAt.made' _ _ _ hgl
   have s_gl:=Lib.hid (show w102.heap.size=gl+1 by rw [hw102,hgl];simp)
   have g_gl:W1.heap.size≤gl:=by rw [hgl];exact hWc101.size
   have hB102:=Below.step hWc101 hv102
   clear hw102 hgl hv102
   refine outA hK (held_3 hB102 hS00) (fun hHeld3=>?_)
   clear hK K
   refine readyA [6,8] (consA (fun K hK=>?_) (consA (fun K hK=>?_) .nil))
   ·skip
    go_simp
    obtain ⟨w103,hw103⟩:∃ X,X=w102.alloc (.cells (madeCells #[.int .i64 0] C) 3):=⟨_,rfl⟩
    obtain ⟨gu,hgu⟩:∃ b,b=w102.heap.size:=⟨_,rfl⟩
    rw [← hw103,← hgu]
    have hv103:Below w102.heap.size w102 w103:=by rw [hw103];exact below_a _ _
    replace i_gl:=i_gl.later hv103
    have i_gu:IntsAt w103 gu C (fun _=>0):=by rw [hw103];exact IntsAt.made' _ _ _ hgu
    have s_gu:=Lib.hid (show w103.heap.size=gu+1 by rw [hw103,hgu];simp)
    have g_gu:W1.heap.size≤gu:=by rw [hgu];exact hB102.size
    have hB103:=Below.step hB102 hv103
    have o_gu:gl<gu:=by have:=s_gl.out;omega
    clear hw103 hgu hv103
    refine outA hK (held_3 hB103 hS00) (fun hHeld6=>?_)
    clear hK K
    refine takeH (i:=7) (v:=.agg #[.int .i64 (C:Int),.int .u64 cr,.slice (some ⟨vb,0,none⟩) n cg,.slice (some ⟨gl,0,none⟩) C C,.slice (some ⟨gu,0,none⟩) C C,.slice none 0 0,.slice none 0 0]) rfl (by kernel_rfl) (fun _ _ _ h=>h) (by rfl) (fun w _=>lit_runM #[(0,.agg #[.int .i64 (C:Int),.int .u64 cr,.slice (some ⟨vb,0,none⟩) n cg]),(1,.slice (some ⟨gl,0,none⟩) C C),(2,.slice (some ⟨gu,0,none⟩) C C)] #[.int .i64 (C:Int),.int .u64 cr,.slice (some ⟨vb,0,none⟩) n cg,.slice (some ⟨gl,0,none⟩) C C,.slice (some ⟨gu,0,none⟩) C C,.slice none 0 0,.slice none 0 0] (by kernel_rfl) (by kernel_rfl)) (by assumption) ?_
    try simp only [Act.put,List.setIfInBounds_toArray,List.set_cons_zero,List.set_cons_succ]
    refine readyA [8] (consA (fun K hK=>?_) .nil)
    go_simp
    obtain ⟨w104,hw104⟩:∃ X,X=w103.alloc (.cells #[.int .i64 0,.int .u64 0,.slice none 0 0,.slice none 0 0,.slice none 0 0,.slice none 0 0,.slice none 0 0] 46):=⟨_,rfl⟩
    obtain ⟨bs,hbs⟩:∃ b,b=w103.heap.size:=⟨_,rfl⟩
    rw [← hw104,← hbs]
    have hv104:Below w103.heap.size w103 w104:=by rw [hw104];exact below_a _ _
    replace i_gl:=i_gl.later hv104
    replace i_gu:=i_gu.later hv104
    have hz:StB w104 bs 0 0 (.slice none 0 0) (.slice none 0 0) (.slice none 0 0) (.slice none 0 0) (.slice none 0 0):=by rw [hw104,hbs];exact StB.made _ _ _ _ _ _ _ _ _
    have s_bs:=Lib.hid (show w104.heap.size=bs+1 by rw [hw104,hbs];simp)
    have g_bs:W1.heap.size≤bs:=by rw [hbs];exact hB103.size
    have hB104:=Below.step hB103 hv104
    have o_bs:gu<bs:=by have:=s_gu.out;omega
    have o_glbs:gl<bs:=by omega
    clear hw104 hbs hv104
    refine outA hK (held_3 hB104 hS00) (fun hHeld8=>?_)
    clear hK K
    refine readyA [9] (consA (fun K hK=>?_) .nil)
    have hBz:Below W1.heap.size W1 (fillB w104 bs C cr (.slice (some ⟨vb,0,none⟩) n cg) (.slice (some ⟨gl,0,none⟩) C C) (.slice (some ⟨gu,0,none⟩) C C) (.slice none 0 0) (.slice none 0 0)):=fillB_below hB104 g_bs
    have e0:=hz.c0
    have e1:=hz.c1
    have e2:=hz.c2
    have e3:=hz.c3
    have e4:=hz.c4
    have e5:=hz.c5
    have e6:=hz.c6
    have f0:=hz.z 0
    have f1:=hz.z 1
    have f2:=hz.z 2
    have f3:=hz.z 3
    have f4:=hz.z 4
    have f5:=hz.z 5
    have f6:=hz.z 6
    go_simp
    refine outA hK (held_3 hBz hS00) (fun hHeld9=>?_)
    clear hK K
    refine doneA ?_
    have n1:gl≠bs:=by omega
    have n2:gu≠bs:=by omega
    obtain ⟨WX,hWX⟩:∃ X,X=fillB w104 bs C cr (.slice (some ⟨vb,0,none⟩) n cg) (.slice (some ⟨gl,0,none⟩) C C) (.slice (some ⟨gu,0,none⟩) C C) (.slice none 0 0) (.slice none 0 0):=⟨_,rfl⟩
    have hs:=Lib.hid (show StB WX bs C cr (.slice (some ⟨vb,0,none⟩) n cg) (.slice (some ⟨gl,0,none⟩) C C) (.slice (some ⟨gu,0,none⟩) C C) (.slice none 0 0) (.slice none 0 0) by rw [hWX];exact hz.fill)
    have kx:Kept [bs] w104 WX:=by rw [hWX];exact fillB_kept
    have il:=Lib.hid (i_gl.kept kx (by simp;exact n1))
    have iu:=Lib.hid (i_gu.kept kx (by simp;exact n2))
    rw [← hWX] at hBz
    unfold fillB at hWX
    rw [← hWX]
    have hBz:=Lib.hid hBz
    clear hS0 hHeld hWX kx hz i_gl i_gu e0 e1 e2 e3 e4 e5 e6 f0 f1 f2 f3 f4 f5 f6
    go_wp2_with fail
    go_meet
    case rel=>exact ⟨bs,gl,gu,rfl,hs,il,iu,Lib.hid ⟨g_bs,n1,n2,g_gl,g_gu⟩,hBz⟩
   ·skip
    go_simp
    obtain ⟨w105,hw105⟩:∃ X,X=w102.alloc (.cells #[.int .i64 0,.int .u64 0,.slice none 0 0,.slice none 0 0,.slice none 0 0,.slice none 0 0,.slice none 0 0] 46):=⟨_,rfl⟩
    obtain ⟨bs,hbs⟩:∃ b,b=w102.heap.size:=⟨_,rfl⟩
    rw [← hw105,← hbs]
    have hv105:Below w102.heap.size w102 w105:=by rw [hw105];exact below_a _ _
    replace i_gl:=i_gl.later hv105
    have hz:StB w105 bs 0 0 (.slice none 0 0) (.slice none 0 0) (.slice none 0 0) (.slice none 0 0) (.slice none 0 0):=by rw [hw105,hbs];exact StB.made _ _ _ _ _ _ _ _ _
    have s_bs:=Lib.hid (show w105.heap.size=bs+1 by rw [hw105,hbs];simp)
    have g_bs:W1.heap.size≤bs:=by rw [hbs];exact hB102.size
    have hB105:=Below.step hB102 hv105
    have o_bs:gl<bs:=by have:=s_gl.out;omega
    clear hw105 hbs hv105
    refine outA hK (held_3 hB105 hS00) (fun hHeld8=>?_)
    clear hK K
    refine readyA [6] (consA (fun K hK=>?_) .nil)
    go_simp
    obtain ⟨w106,hw106⟩:∃ X,X=w105.alloc (.cells (madeCells #[.int .i64 0] C) 3):=⟨_,rfl⟩
    obtain ⟨gu,hgu⟩:∃ b,b=w105.heap.size:=⟨_,rfl⟩
    rw [← hw106,← hgu]
    have hv106:Below w105.heap.size w105 w106:=by rw [hw106];exact below_a _ _
    replace i_gl:=i_gl.later hv106
    replace hz:=hz.later hv106
    have i_gu:IntsAt w106 gu C (fun _=>0):=by rw [hw106];exact IntsAt.made' _ _ _ hgu
    have s_gu:=Lib.hid (show w106.heap.size=gu+1 by rw [hw106,hgu];simp)
    have g_gu:W1.heap.size≤gu:=by rw [hgu];exact hB105.size
    have hB106:=Below.step hB105 hv106
    have o_gu:bs<gu:=by have:=s_bs.out;omega
    have o_glgu:gl<gu:=by omega
    clear hw106 hgu hv106
    refine outA hK (held_3 hB106 hS00) (fun hHeld6=>?_)
    clear hK K
    refine takeH (i:=7) (v:=.agg #[.int .i64 (C:Int),.int .u64 cr,.slice (some ⟨vb,0,none⟩) n cg,.slice (some ⟨gl,0,none⟩) C C,.slice (some ⟨gu,0,none⟩) C C,.slice none 0 0,.slice none 0 0]) rfl (by kernel_rfl) (fun _ _ _ h=>h) (by rfl) (fun w _=>lit_runM #[(0,.agg #[.int .i64 (C:Int),.int .u64 cr,.slice (some ⟨vb,0,none⟩) n cg]),(1,.slice (some ⟨gl,0,none⟩) C C),(2,.slice (some ⟨gu,0,none⟩) C C)] #[.int .i64 (C:Int),.int .u64 cr,.slice (some ⟨vb,0,none⟩) n cg,.slice (some ⟨gl,0,none⟩) C C,.slice (some ⟨gu,0,none⟩) C C,.slice none 0 0,.slice none 0 0] (by kernel_rfl) (by kernel_rfl)) (by assumption) ?_
    try simp only [Act.put,List.setIfInBounds_toArray,List.set_cons_zero,List.set_cons_succ]
    refine readyA [9] (consA (fun K hK=>?_) .nil)
    have hBz:Below W1.heap.size W1 (fillB w106 bs C cr (.slice (some ⟨vb,0,none⟩) n cg) (.slice (some ⟨gl,0,none⟩) C C) (.slice (some ⟨gu,0,none⟩) C C) (.slice none 0 0) (.slice none 0 0)):=fillB_below hB106 g_bs
    have e0:=hz.c0
    have e1:=hz.c1
    have e2:=hz.c2
    have e3:=hz.c3
    have e4:=hz.c4
    have e5:=hz.c5
    have e6:=hz.c6
    have f0:=hz.z 0
    have f1:=hz.z 1
    have f2:=hz.z 2
    have f3:=hz.z 3
    have f4:=hz.z 4
    have f5:=hz.z 5
    have f6:=hz.z 6
    go_simp
    refine outA hK (held_3 hBz hS00) (fun hHeld9=>?_)
    clear hK K
    refine doneA ?_
    have n1:gl≠bs:=by omega
    have n2:gu≠bs:=by omega
    obtain ⟨WX,hWX⟩:∃ X,X=fillB w106 bs C cr (.slice (some ⟨vb,0,none⟩) n cg) (.slice (some ⟨gl,0,none⟩) C C) (.slice (some ⟨gu,0,none⟩) C C) (.slice none 0 0) (.slice none 0 0):=⟨_,rfl⟩
    have hs:=Lib.hid (show StB WX bs C cr (.slice (some ⟨vb,0,none⟩) n cg) (.slice (some ⟨gl,0,none⟩) C C) (.slice (some ⟨gu,0,none⟩) C C) (.slice none 0 0) (.slice none 0 0) by rw [hWX];exact hz.fill)
    have kx:Kept [bs] w106 WX:=by rw [hWX];exact fillB_kept
    have il:=Lib.hid (i_gl.kept kx (by simp;exact n1))
    have iu:=Lib.hid (i_gu.kept kx (by simp;exact n2))
    rw [← hWX] at hBz
    unfold fillB at hWX
    rw [← hWX]
    have hBz:=Lib.hid hBz
    clear hS0 hHeld hWX kx hz i_gl i_gu e0 e1 e2 e3 e4 e5 e6 f0 f1 f2 f3 f4 f5 f6
    go_wp2_with fail
    go_meet
    case rel=>exact ⟨bs,gl,gu,rfl,hs,il,iu,Lib.hid ⟨g_bs,n1,n2,g_gl,g_gu⟩,hBz⟩
  ·skip
   go_simp
   obtain ⟨w107,hw107⟩:∃ X,X=wc101.alloc (.cells (madeCells #[.int .i64 0] C) 3):=⟨_,rfl⟩
   obtain ⟨gu,hgu⟩:∃ b,b=wc101.heap.size:=⟨_,rfl⟩
   rw [← hw107,← hgu]
   have hv107:Below wc101.heap.size wc101 w107:=by rw [hw107];exact below_a _ _
   have i_gu:IntsAt w107 gu C (fun _=>0):=by rw [hw107];exact IntsAt.made' _ _ _ hgu
   have s_gu:=Lib.hid (show w107.heap.size=gu+1 by rw [hw107,hgu];simp)
   have g_gu:W1.heap.size≤gu:=by rw [hgu];exact hWc101.size
   have hB107:=Below.step hWc101 hv107
   clear hw107 hgu hv107
   refine outA hK (held_3 hB107 hS00) (fun hHeld6=>?_)
   clear hK K
   refine readyA [3,8] (consA (fun K hK=>?_) (consA (fun K hK=>?_) .nil))
   ·skip
    go_simp
    obtain ⟨w108,hw108⟩:∃ X,X=w107.alloc (.cells (madeCells #[.int .i64 0] C) 3):=⟨_,rfl⟩
    obtain ⟨gl,hgl⟩:∃ b,b=w107.heap.size:=⟨_,rfl⟩
    rw [← hw108,← hgl]
    have hv108:Below w107.heap.size w107 w108:=by rw [hw108];exact below_a _ _
    replace i_gu:=i_gu.later hv108
    have i_gl:IntsAt w108 gl C (fun _=>0):=by rw [hw108];exact IntsAt.made' _ _ _ hgl
    have s_gl:=Lib.hid (show w108.heap.size=gl+1 by rw [hw108,hgl];simp)
    have g_gl:W1.heap.size≤gl:=by rw [hgl];exact hB107.size
    have hB108:=Below.step hB107 hv108
    have o_gl:gu<gl:=by have:=s_gu.out;omega
    clear hw108 hgl hv108
    refine outA hK (held_3 hB108 hS00) (fun hHeld3=>?_)
    clear hK K
    refine takeH (i:=7) (v:=.agg #[.int .i64 (C:Int),.int .u64 cr,.slice (some ⟨vb,0,none⟩) n cg,.slice (some ⟨gl,0,none⟩) C C,.slice (some ⟨gu,0,none⟩) C C,.slice none 0 0,.slice none 0 0]) rfl (by kernel_rfl) (fun _ _ _ h=>h) (by rfl) (fun w _=>lit_runM #[(0,.agg #[.int .i64 (C:Int),.int .u64 cr,.slice (some ⟨vb,0,none⟩) n cg]),(1,.slice (some ⟨gl,0,none⟩) C C),(2,.slice (some ⟨gu,0,none⟩) C C)] #[.int .i64 (C:Int),.int .u64 cr,.slice (some ⟨vb,0,none⟩) n cg,.slice (some ⟨gl,0,none⟩) C C,.slice (some ⟨gu,0,none⟩) C C,.slice none 0 0,.slice none 0 0] (by kernel_rfl) (by kernel_rfl)) (by assumption) ?_
    try simp only [Act.put,List.setIfInBounds_toArray,List.set_cons_zero,List.set_cons_succ]
    refine readyA [8] (consA (fun K hK=>?_) .nil)
    go_simp
    obtain ⟨w109,hw109⟩:∃ X,X=w108.alloc (.cells #[.int .i64 0,.int .u64 0,.slice none 0 0,.slice none 0 0,.slice none 0 0,.slice none 0 0,.slice none 0 0] 46):=⟨_,rfl⟩
    obtain ⟨bs,hbs⟩:∃ b,b=w108.heap.size:=⟨_,rfl⟩
    rw [← hw109,← hbs]
    have hv109:Below w108.heap.size w108 w109:=by rw [hw109];exact below_a _ _
    replace i_gu:=i_gu.later hv109
    replace i_gl:=i_gl.later hv109
    have hz:StB w109 bs 0 0 (.slice none 0 0) (.slice none 0 0) (.slice none 0 0) (.slice none 0 0) (.slice none 0 0):=by rw [hw109,hbs];exact StB.made _ _ _ _ _ _ _ _ _
    have s_bs:=Lib.hid (show w109.heap.size=bs+1 by rw [hw109,hbs];simp)
    have g_bs:W1.heap.size≤bs:=by rw [hbs];exact hB108.size
    have hB109:=Below.step hB108 hv109
    have o_bs:gl<bs:=by have:=s_gl.out;omega
    have o_gubs:gu<bs:=by omega
    clear hw109 hbs hv109
    refine outA hK (held_3 hB109 hS00) (fun hHeld8=>?_)
    clear hK K
    refine readyA [9] (consA (fun K hK=>?_) .nil)
    have hBz:Below W1.heap.size W1 (fillB w109 bs C cr (.slice (some ⟨vb,0,none⟩) n cg) (.slice (some ⟨gl,0,none⟩) C C) (.slice (some ⟨gu,0,none⟩) C C) (.slice none 0 0) (.slice none 0 0)):=fillB_below hB109 g_bs
    have e0:=hz.c0
    have e1:=hz.c1
    have e2:=hz.c2
    have e3:=hz.c3
    have e4:=hz.c4
    have e5:=hz.c5
    have e6:=hz.c6
    have f0:=hz.z 0
    have f1:=hz.z 1
    have f2:=hz.z 2
    have f3:=hz.z 3
    have f4:=hz.z 4
    have f5:=hz.z 5
    have f6:=hz.z 6
    go_simp
    refine outA hK (held_3 hBz hS00) (fun hHeld9=>?_)
    clear hK K
    refine doneA ?_
    have n1:gl≠bs:=by omega
    have n2:gu≠bs:=by omega
    obtain ⟨WX,hWX⟩:∃ X,X=fillB w109 bs C cr (.slice (some ⟨vb,0,none⟩) n cg) (.slice (some ⟨gl,0,none⟩) C C) (.slice (some ⟨gu,0,none⟩) C C) (.slice none 0 0) (.slice none 0 0):=⟨_,rfl⟩
    have hs:=Lib.hid (show StB WX bs C cr (.slice (some ⟨vb,0,none⟩) n cg) (.slice (some ⟨gl,0,none⟩) C C) (.slice (some ⟨gu,0,none⟩) C C) (.slice none 0 0) (.slice none 0 0) by rw [hWX];exact hz.fill)
    have kx:Kept [bs] w109 WX:=by rw [hWX];exact fillB_kept
    have il:=Lib.hid (i_gl.kept kx (by simp;exact n1))
    have iu:=Lib.hid (i_gu.kept kx (by simp;exact n2))
    rw [← hWX] at hBz
    unfold fillB at hWX
    rw [← hWX]
    have hBz:=Lib.hid hBz
    clear hS0 hHeld hWX kx hz i_gl i_gu e0 e1 e2 e3 e4 e5 e6 f0 f1 f2 f3 f4 f5 f6
    go_wp2_with fail
    go_meet
    case rel=>exact ⟨bs,gl,gu,rfl,hs,il,iu,Lib.hid ⟨g_bs,n1,n2,g_gl,g_gu⟩,hBz⟩
   ·skip
    go_simp
    obtain ⟨w110,hw110⟩:∃ X,X=w107.alloc (.cells #[.int .i64 0,.int .u64 0,.slice none 0 0,.slice none 0 0,.slice none 0 0,.slice none 0 0,.slice none 0 0] 46):=⟨_,rfl⟩
    obtain ⟨bs,hbs⟩:∃ b,b=w107.heap.size:=⟨_,rfl⟩
    rw [← hw110,← hbs]
    have hv110:Below w107.heap.size w107 w110:=by rw [hw110];exact below_a _ _
    replace i_gu:=i_gu.later hv110
    have hz:StB w110 bs 0 0 (.slice none 0 0) (.slice none 0 0) (.slice none 0 0) (.slice none 0 0) (.slice none 0 0):=by rw [hw110,hbs];exact StB.made _ _ _ _ _ _ _ _ _
    have s_bs:=Lib.hid (show w110.heap.size=bs+1 by rw [hw110,hbs];simp)
    have g_bs:W1.heap.size≤bs:=by rw [hbs];exact hB107.size
    have hB110:=Below.step hB107 hv110
    have o_bs:gu<bs:=by have:=s_gu.out;omega
    clear hw110 hbs hv110
    refine outA hK (held_3 hB110 hS00) (fun hHeld8=>?_)
    clear hK K
    refine readyA [3] (consA (fun K hK=>?_) .nil)
    go_simp
    obtain ⟨w111,hw111⟩:∃ X,X=w110.alloc (.cells (madeCells #[.int .i64 0] C) 3):=⟨_,rfl⟩
    obtain ⟨gl,hgl⟩:∃ b,b=w110.heap.size:=⟨_,rfl⟩
    rw [← hw111,← hgl]
    have hv111:Below w110.heap.size w110 w111:=by rw [hw111];exact below_a _ _
    replace i_gu:=i_gu.later hv111
    replace hz:=hz.later hv111
    have i_gl:IntsAt w111 gl C (fun _=>0):=by rw [hw111];exact IntsAt.made' _ _ _ hgl
    have s_gl:=Lib.hid (show w111.heap.size=gl+1 by rw [hw111,hgl];simp)
    have g_gl:W1.heap.size≤gl:=by rw [hgl];exact hB110.size
    have hB111:=Below.step hB110 hv111
    have o_gl:bs<gl:=by have:=s_bs.out;omega
    have o_gugl:gu<gl:=by omega
    clear hw111 hgl hv111
    refine outA hK (held_3 hB111 hS00) (fun hHeld3=>?_)
    clear hK K
    refine takeH (i:=7) (v:=.agg #[.int .i64 (C:Int),.int .u64 cr,.slice (some ⟨vb,0,none⟩) n cg,.slice (some ⟨gl,0,none⟩) C C,.slice (some ⟨gu,0,none⟩) C C,.slice none 0 0,.slice none 0 0]) rfl (by kernel_rfl) (fun _ _ _ h=>h) (by rfl) (fun w _=>lit_runM #[(0,.agg #[.int .i64 (C:Int),.int .u64 cr,.slice (some ⟨vb,0,none⟩) n cg]),(1,.slice (some ⟨gl,0,none⟩) C C),(2,.slice (some ⟨gu,0,none⟩) C C)] #[.int .i64 (C:Int),.int .u64 cr,.slice (some ⟨vb,0,none⟩) n cg,.slice (some ⟨gl,0,none⟩) C C,.slice (some ⟨gu,0,none⟩) C C,.slice none 0 0,.slice none 0 0] (by kernel_rfl) (by kernel_rfl)) (by assumption) ?_
    try simp only [Act.put,List.setIfInBounds_toArray,List.set_cons_zero,List.set_cons_succ]
    refine readyA [9] (consA (fun K hK=>?_) .nil)
    have hBz:Below W1.heap.size W1 (fillB w111 bs C cr (.slice (some ⟨vb,0,none⟩) n cg) (.slice (some ⟨gl,0,none⟩) C C) (.slice (some ⟨gu,0,none⟩) C C) (.slice none 0 0) (.slice none 0 0)):=fillB_below hB111 g_bs
    have e0:=hz.c0
    have e1:=hz.c1
    have e2:=hz.c2
    have e3:=hz.c3
    have e4:=hz.c4
    have e5:=hz.c5
    have e6:=hz.c6
    have f0:=hz.z 0
    have f1:=hz.z 1
    have f2:=hz.z 2
    have f3:=hz.z 3
    have f4:=hz.z 4
    have f5:=hz.z 5
    have f6:=hz.z 6
    go_simp
    refine outA hK (held_3 hBz hS00) (fun hHeld9=>?_)
    clear hK K
    refine doneA ?_
    have n1:gl≠bs:=by omega
    have n2:gu≠bs:=by omega
    obtain ⟨WX,hWX⟩:∃ X,X=fillB w111 bs C cr (.slice (some ⟨vb,0,none⟩) n cg) (.slice (some ⟨gl,0,none⟩) C C) (.slice (some ⟨gu,0,none⟩) C C) (.slice none 0 0) (.slice none 0 0):=⟨_,rfl⟩
    have hs:=Lib.hid (show StB WX bs C cr (.slice (some ⟨vb,0,none⟩) n cg) (.slice (some ⟨gl,0,none⟩) C C) (.slice (some ⟨gu,0,none⟩) C C) (.slice none 0 0) (.slice none 0 0) by rw [hWX];exact hz.fill)
    have kx:Kept [bs] w111 WX:=by rw [hWX];exact fillB_kept
    have il:=Lib.hid (i_gl.kept kx (by simp;exact n1))
    have iu:=Lib.hid (i_gu.kept kx (by simp;exact n2))
    rw [← hWX] at hBz
    unfold fillB at hWX
    rw [← hWX]
    have hBz:=Lib.hid hBz
    clear hS0 hHeld hWX kx hz i_gl i_gu e0 e1 e2 e3 e4 e5 e6 f0 f1 f2 f3 f4 f5 f6
    go_wp2_with fail
    go_meet
    case rel=>exact ⟨bs,gl,gu,rfl,hs,il,iu,Lib.hid ⟨g_bs,n1,n2,g_gl,g_gu⟩,hBz⟩
  ·skip
   go_simp
   obtain ⟨w112,hw112⟩:∃ X,X=wc101.alloc (.cells #[.int .i64 0,.int .u64 0,.slice none 0 0,.slice none 0 0,.slice none 0 0,.slice none 0 0,.slice none 0 0] 46):=⟨_,rfl⟩
   obtain ⟨bs,hbs⟩:∃ b,b=wc101.heap.size:=⟨_,rfl⟩
   rw [← hw112,← hbs]
   have hv112:Below wc101.heap.size wc101 w112:=by rw [hw112];exact below_a _ _
   have hz:StB w112 bs 0 0 (.slice none 0 0) (.slice none 0 0) (.slice none 0 0) (.slice none 0 0) (.slice none 0 0):=by rw [hw112,hbs];exact StB.made _ _ _ _ _ _ _ _ _
   have s_bs:=Lib.hid (show w112.heap.size=bs+1 by rw [hw112,hbs];simp)
   have g_bs:W1.heap.size≤bs:=by rw [hbs];exact hWc101.size
   have hB112:=Below.step hWc101 hv112
   clear hw112 hbs hv112
   refine outA hK (held_3 hB112 hS00) (fun hHeld8=>?_)
   clear hK K
   refine readyA [3,6] (consA (fun K hK=>?_) (consA (fun K hK=>?_) .nil))
   ·skip
    go_simp
    obtain ⟨w113,hw113⟩:∃ X,X=w112.alloc (.cells (madeCells #[.int .i64 0] C) 3):=⟨_,rfl⟩
    obtain ⟨gl,hgl⟩:∃ b,b=w112.heap.size:=⟨_,rfl⟩
    rw [← hw113,← hgl]
    have hv113:Below w112.heap.size w112 w113:=by rw [hw113];exact below_a _ _
    replace hz:=hz.later hv113
    have i_gl:IntsAt w113 gl C (fun _=>0):=by rw [hw113];exact IntsAt.made' _ _ _ hgl
    have s_gl:=Lib.hid (show w113.heap.size=gl+1 by rw [hw113,hgl];simp)
    have g_gl:W1.heap.size≤gl:=by rw [hgl];exact hB112.size
    have hB113:=Below.step hB112 hv113
    have o_gl:bs<gl:=by have:=s_bs.out;omega
    clear hw113 hgl hv113
    refine outA hK (held_3 hB113 hS00) (fun hHeld3=>?_)
    clear hK K
    refine readyA [6] (consA (fun K hK=>?_) .nil)
    go_simp
    obtain ⟨w114,hw114⟩:∃ X,X=w113.alloc (.cells (madeCells #[.int .i64 0] C) 3):=⟨_,rfl⟩
    obtain ⟨gu,hgu⟩:∃ b,b=w113.heap.size:=⟨_,rfl⟩
    rw [← hw114,← hgu]
    have hv114:Below w113.heap.size w113 w114:=by rw [hw114];exact below_a _ _
    replace i_gl:=i_gl.later hv114
    replace hz:=hz.later hv114
    have i_gu:IntsAt w114 gu C (fun _=>0):=by rw [hw114];exact IntsAt.made' _ _ _ hgu
    have s_gu:=Lib.hid (show w114.heap.size=gu+1 by rw [hw114,hgu];simp)
    have g_gu:W1.heap.size≤gu:=by rw [hgu];exact hB113.size
    have hB114:=Below.step hB113 hv114
    have o_gu:gl<gu:=by have:=s_gl.out;omega
    have o_bsgu:bs<gu:=by omega
    clear hw114 hgu hv114
    refine outA hK (held_3 hB114 hS00) (fun hHeld6=>?_)
    clear hK K
    refine takeH (i:=7) (v:=.agg #[.int .i64 (C:Int),.int .u64 cr,.slice (some ⟨vb,0,none⟩) n cg,.slice (some ⟨gl,0,none⟩) C C,.slice (some ⟨gu,0,none⟩) C C,.slice none 0 0,.slice none 0 0]) rfl (by kernel_rfl) (fun _ _ _ h=>h) (by rfl) (fun w _=>lit_runM #[(0,.agg #[.int .i64 (C:Int),.int .u64 cr,.slice (some ⟨vb,0,none⟩) n cg]),(1,.slice (some ⟨gl,0,none⟩) C C),(2,.slice (some ⟨gu,0,none⟩) C C)] #[.int .i64 (C:Int),.int .u64 cr,.slice (some ⟨vb,0,none⟩) n cg,.slice (some ⟨gl,0,none⟩) C C,.slice (some ⟨gu,0,none⟩) C C,.slice none 0 0,.slice none 0 0] (by kernel_rfl) (by kernel_rfl)) (by assumption) ?_
    try simp only [Act.put,List.setIfInBounds_toArray,List.set_cons_zero,List.set_cons_succ]
    refine readyA [9] (consA (fun K hK=>?_) .nil)
    have hBz:Below W1.heap.size W1 (fillB w114 bs C cr (.slice (some ⟨vb,0,none⟩) n cg) (.slice (some ⟨gl,0,none⟩) C C) (.slice (some ⟨gu,0,none⟩) C C) (.slice none 0 0) (.slice none 0 0)):=fillB_below hB114 g_bs
    have e0:=hz.c0
    have e1:=hz.c1
    have e2:=hz.c2
    have e3:=hz.c3
    have e4:=hz.c4
    have e5:=hz.c5
    have e6:=hz.c6
    have f0:=hz.z 0
    have f1:=hz.z 1
    have f2:=hz.z 2
    have f3:=hz.z 3
    have f4:=hz.z 4
    have f5:=hz.z 5
    have f6:=hz.z 6
    go_simp
    refine outA hK (held_3 hBz hS00) (fun hHeld9=>?_)
    clear hK K
    refine doneA ?_
    have n1:gl≠bs:=by omega
    have n2:gu≠bs:=by omega
    obtain ⟨WX,hWX⟩:∃ X,X=fillB w114 bs C cr (.slice (some ⟨vb,0,none⟩) n cg) (.slice (some ⟨gl,0,none⟩) C C) (.slice (some ⟨gu,0,none⟩) C C) (.slice none 0 0) (.slice none 0 0):=⟨_,rfl⟩
    have hs:=Lib.hid (show StB WX bs C cr (.slice (some ⟨vb,0,none⟩) n cg) (.slice (some ⟨gl,0,none⟩) C C) (.slice (some ⟨gu,0,none⟩) C C) (.slice none 0 0) (.slice none 0 0) by rw [hWX];exact hz.fill)
    have kx:Kept [bs] w114 WX:=by rw [hWX];exact fillB_kept
    have il:=Lib.hid (i_gl.kept kx (by simp;exact n1))
    have iu:=Lib.hid (i_gu.kept kx (by simp;exact n2))
    rw [← hWX] at hBz
    unfold fillB at hWX
    rw [← hWX]
    have hBz:=Lib.hid hBz
    clear hS0 hHeld hWX kx hz i_gl i_gu e0 e1 e2 e3 e4 e5 e6 f0 f1 f2 f3 f4 f5 f6
    go_wp2_with fail
    go_meet
    case rel=>exact ⟨bs,gl,gu,rfl,hs,il,iu,Lib.hid ⟨g_bs,n1,n2,g_gl,g_gu⟩,hBz⟩
   ·skip
    go_simp
    obtain ⟨w115,hw115⟩:∃ X,X=w112.alloc (.cells (madeCells #[.int .i64 0] C) 3):=⟨_,rfl⟩
    obtain ⟨gu,hgu⟩:∃ b,b=w112.heap.size:=⟨_,rfl⟩
    rw [← hw115,← hgu]
    have hv115:Below w112.heap.size w112 w115:=by rw [hw115];exact below_a _ _
    replace hz:=hz.later hv115
    have i_gu:IntsAt w115 gu C (fun _=>0):=by rw [hw115];exact IntsAt.made' _ _ _ hgu
    have s_gu:=Lib.hid (show w115.heap.size=gu+1 by rw [hw115,hgu];simp)
    have g_gu:W1.heap.size≤gu:=by rw [hgu];exact hB112.size
    have hB115:=Below.step hB112 hv115
    have o_gu:bs<gu:=by have:=s_bs.out;omega
    clear hw115 hgu hv115
    refine outA hK (held_3 hB115 hS00) (fun hHeld6=>?_)
    clear hK K
    refine readyA [3] (consA (fun K hK=>?_) .nil)
    go_simp
    obtain ⟨w116,hw116⟩:∃ X,X=w115.alloc (.cells (madeCells #[.int .i64 0] C) 3):=⟨_,rfl⟩
    obtain ⟨gl,hgl⟩:∃ b,b=w115.heap.size:=⟨_,rfl⟩
    rw [← hw116,← hgl]
    have hv116:Below w115.heap.size w115 w116:=by rw [hw116];exact below_a _ _
    replace i_gu:=i_gu.later hv116
    replace hz:=hz.later hv116
    have i_gl:IntsAt w116 gl C (fun _=>0):=by rw [hw116];exact IntsAt.made' _ _ _ hgl
    have s_gl:=Lib.hid (show w116.heap.size=gl+1 by rw [hw116,hgl];simp)
    have g_gl:W1.heap.size≤gl:=by rw [hgl];exact hB115.size
    have hB116:=Below.step hB115 hv116
    have o_gl:gu<gl:=by have:=s_gu.out;omega
    have o_bsgl:bs<gl:=by omega
    clear hw116 hgl hv116
    refine outA hK (held_3 hB116 hS00) (fun hHeld3=>?_)
    clear hK K
    refine takeH (i:=7) (v:=.agg #[.int .i64 (C:Int),.int .u64 cr,.slice (some ⟨vb,0,none⟩) n cg,.slice (some ⟨gl,0,none⟩) C C,.slice (some ⟨gu,0,none⟩) C C,.slice none 0 0,.slice none 0 0]) rfl (by kernel_rfl) (fun _ _ _ h=>h) (by rfl) (fun w _=>lit_runM #[(0,.agg #[.int .i64 (C:Int),.int .u64 cr,.slice (some ⟨vb,0,none⟩) n cg]),(1,.slice (some ⟨gl,0,none⟩) C C),(2,.slice (some ⟨gu,0,none⟩) C C)] #[.int .i64 (C:Int),.int .u64 cr,.slice (some ⟨vb,0,none⟩) n cg,.slice (some ⟨gl,0,none⟩) C C,.slice (some ⟨gu,0,none⟩) C C,.slice none 0 0,.slice none 0 0] (by kernel_rfl) (by kernel_rfl)) (by assumption) ?_
    try simp only [Act.put,List.setIfInBounds_toArray,List.set_cons_zero,List.set_cons_succ]
    refine readyA [9] (consA (fun K hK=>?_) .nil)
    have hBz:Below W1.heap.size W1 (fillB w116 bs C cr (.slice (some ⟨vb,0,none⟩) n cg) (.slice (some ⟨gl,0,none⟩) C C) (.slice (some ⟨gu,0,none⟩) C C) (.slice none 0 0) (.slice none 0 0)):=fillB_below hB116 g_bs
    have e0:=hz.c0
    have e1:=hz.c1
    have e2:=hz.c2
    have e3:=hz.c3
    have e4:=hz.c4
    have e5:=hz.c5
    have e6:=hz.c6
    have f0:=hz.z 0
    have f1:=hz.z 1
    have f2:=hz.z 2
    have f3:=hz.z 3
    have f4:=hz.z 4
    have f5:=hz.z 5
    have f6:=hz.z 6
    go_simp
    refine outA hK (held_3 hBz hS00) (fun hHeld9=>?_)
    clear hK K
    refine doneA ?_
    have n1:gl≠bs:=by omega
    have n2:gu≠bs:=by omega
    obtain ⟨WX,hWX⟩:∃ X,X=fillB w116 bs C cr (.slice (some ⟨vb,0,none⟩) n cg) (.slice (some ⟨gl,0,none⟩) C C) (.slice (some ⟨gu,0,none⟩) C C) (.slice none 0 0) (.slice none 0 0):=⟨_,rfl⟩
    have hs:=Lib.hid (show StB WX bs C cr (.slice (some ⟨vb,0,none⟩) n cg) (.slice (some ⟨gl,0,none⟩) C C) (.slice (some ⟨gu,0,none⟩) C C) (.slice none 0 0) (.slice none 0 0) by rw [hWX];exact hz.fill)
    have kx:Kept [bs] w116 WX:=by rw [hWX];exact fillB_kept
    have il:=Lib.hid (i_gl.kept kx (by simp;exact n1))
    have iu:=Lib.hid (i_gu.kept kx (by simp;exact n2))
    rw [← hWX] at hBz
    unfold fillB at hWX
    rw [← hWX]
    have hBz:=Lib.hid hBz
    clear hS0 hHeld hWX kx hz i_gl i_gu e0 e1 e2 e3 e4 e5 e6 f0 f1 f2 f3 f4 f5 f6
    go_wp2_with fail
    go_meet
    case rel=>exact ⟨bs,gl,gu,rfl,hs,il,iu,Lib.hid ⟨g_bs,n1,n2,g_gl,g_gu⟩,hBz⟩
 case rest =>
  obtain ⟨bs,gl,gu,rfl,HS,IL,IU,HNE,HBX⟩:=hcut
  obtain ⟨W3,rfl⟩:∃ W:World,W=wc:=⟨_,rfl⟩
  replace y0:=cell_later HBX.out y0
  replace y2:=cell_later HBX.out y2
  have hls:=HB1.out.size
  have hlx:w.heap.size<W1.heap.size:=by have:=HW0.out;have:=lt_of_cell y1;omega
  have hwb:w.heap.size<W3.heap.size:=lt_of_cell y0
  have hbs:bs<W3.heap.size:=HS.out.lt
  have hne:w.heap.size≠bs:=by have:=HNE.out;omega
  have I0:=Lib.hid (show MNewI W3 W3 bs C 0 cr (.slice (some ⟨vb,0,none⟩) n cg) (.slice (some ⟨gl,0,none⟩) C C) (.slice (some ⟨gu,0,none⟩) C C) (.slice none 0 0) (fun _=>0) from ⟨Kept.refl _ _,HS.out,World.ownsRow_nil _ _ _ _,fun i q=>absurd q (Nat.not_lt_zero _)⟩)
  have HY0:=Lib.hid y0
  have MS:∀ W:World,(Instr.makeSlice 69 (.int .i64 (C:Int)) (.int .i64 (C:Int))).run Tryz.prog W=.ok (.slice (some ⟨W.heap.size,0,none⟩) C C) (W.alloc (.cells (madeCells #[.int .u64 0,.int .u32 0,.int .u64 0] (C*3)) 121)):=fun W=>makeSp W HC.out.2
  have hn256:=HN.out.2
  have hC64:=HC.out.2
  clear M1 y1
  go_wp2_with fail
  clear y0 y2
  go_loopw [19] (fun v wr=>∃ (k:Nat) (a2:Option Addr) (c':Nat) (rr:Nat→Nat),k≤n∧v=.int .i64 k∧Hid (MNewI W3 wr bs C k cr (.slice (some ⟨vb,0,none⟩) n cg) (.slice (some ⟨gl,0,none⟩) C C) (.slice (some ⟨gu,0,none⟩) C C) (.slice a2 k c') rr)) (fun v _=>n - (RowKit.intOf v).toNat)
  case atStart=>exact ⟨0,none,0,_,Nat.zero_le _,rfl,I0⟩
  case round =>
   clear I0
   obtain ⟨k,a2,c',rr,hk,rfl,HI⟩:=hrel
   have hks:=HI.out.kp.size
   have e6:=HI.out.st.c6
   have z6:=HI.out.st.z 6
   by_cases hlt:k<n
   ·have hki:(k:Int)<(n:Int):=by omega
    have y0r:=HI.out.kp.cellAt HY0.out (by simp;exact hne)
    have hown:=Lib.hid HI.out.own
    have hbl:bs<wr.heap.size:=by omega
    go_wp2_with fail
    have hS0:(fun w':World=>w'.cell? ⟨bs,6,none⟩=some (.slice a2 k c')∧w'.cell? ⟨w.heap.size,0,none⟩=some (.int .i64 C)) (wr.drew):=⟨cell_dr e6,cell_dr y0r⟩
    refine startU [8] (fun w':World=>w'.cell? ⟨bs,6,none⟩=some (.slice a2 k c')∧w'.cell? ⟨w.heap.size,0,none⟩=some (.int .i64 C)) (by kernel_rfl) hS0 (fun hHeld=>?_)
    have hS00:Below wr.heap.size wr wr:=Below.refl _ _
    obtain ⟨wc117,hwc117⟩:∃ X,X=wr.drew:=⟨_,rfl⟩
    rw [← hwc117] at hHeld ⊢
    have hWc117:Below wr.heap.size wr wc117:=by rw [hwc117];exact (Below.refl _ _).drew
    clear hwc117
    refine takeUw (i:=0) (v:=?v0_118) rfl (by kernel_rfl) (fun _ _ _ h=>h) (by rfl) ?hy0_118 (by assumption) ?rest0_118
    case hy0_118=>(intro w hSw;(try dsimp only at hSw);go_simp;try with_reducible rfl)
    try simp only [Act.put,List.setIfInBounds_toArray,List.set_cons_zero,List.set_cons_succ]
    refine takeUw (i:=1) (v:=?v1_119) rfl (by kernel_rfl) (fun _ _ _ h=>h) (by rfl) ?hy1_119 (by assumption) ?rest1_119
    case hy1_119=>(intro w hSw;(try dsimp only at hSw);go_simp;try with_reducible rfl)
    try simp only [Act.put,List.setIfInBounds_toArray,List.set_cons_zero,List.set_cons_succ]
    refine takeUw (i:=2) (v:=?v2_120) rfl (by kernel_rfl) (fun _ _ _ h=>h) (by rfl) ?hy2_120 (by assumption) ?rest2_120
    case hy2_120=>(intro w hSw;(try dsimp only at hSw);go_simp;try with_reducible rfl)
    try simp only [Act.put,List.setIfInBounds_toArray,List.set_cons_zero,List.set_cons_succ]
    refine takeUw (i:=3) (v:=?v3_121) rfl (by kernel_rfl) (fun _ _ _ h=>h) (by rfl) ?hy3_121 (by assumption) ?rest3_121
    case hy3_121=>(intro w hSw;(try dsimp only at hSw);go_simp;try with_reducible rfl)
    try simp only [Act.put,List.setIfInBounds_toArray,List.set_cons_zero,List.set_cons_succ]
    refine readyU (rs:=[4]) (by kernel_rfl) (by simp) ?_
    refine consU rfl (fun K hK=>?_) (nilU)
    go_simp
    obtain ⟨w122,hw122⟩:∃ X,X=wc117.alloc (.cells (madeCells #[.int .u64 0,.int .u32 0,.int .u64 0] (C*3)) 121):=⟨_,rfl⟩
    obtain ⟨q,hq⟩:∃ b,b=wc117.heap.size:=⟨_,rfl⟩
    rw [← hw122,← hq]
    have hb122:Below wc117.heap.size wc117 w122:=by rw [hw122];exact below_a _ _
    have hW122:=Below.step hWc117 hb122
    have hle122:W3.heap.size≤wc117.heap.size:=by have:=hWc117.size;omega
    have oq:w122.ownsRow W3.heap.size 121 3 (.slice (some ⟨q,0,none⟩) C C) C (flatR encSp ((List.range C).map zSp)):=by
     rw [hw122,hq]
     have:=World.ownsRow_lit (base:=W3.heap.size) (e:=121) (size:=3) wc117 (madeCells #[.int .u64 0,.int .u32 0,.int .u64 0] (C*3)) C hle122 (by unfold maxLen;omega) (by simp [madeCells])
     rw [made_flat] at this
     exact this
    have ks:w122.cell? ⟨bs,6,none⟩=some (.slice a2 k c')∧w122.cell? ⟨w.heap.size,0,none⟩=some (.int .i64 C):=⟨cell_later hW122 e6,cell_later hW122 y0r⟩
    have h1:=own_below hown.out hW122
    clear hw122 hq hle122
    refine hK.out _ _ (ks) (fun hHeld4=>?_)
    clear hK K
    try simp only [Act.put,List.setIfInBounds_toArray,List.set_cons_zero,List.set_cons_succ]
    refine readyU (rs:=[5]) (by kernel_rfl) (by simp) ?_
    refine consU rfl (fun K hK=>?_) (nilU)
    go_simp
    obtain ⟨w123,hw123⟩:∃ X,X=w122.alloc (.cells #[.slice (some ⟨q,0,none⟩) C C] 69):=⟨_,rfl⟩
    rw [← hw123]
    have hb123:Below w122.heap.size w122 w123:=by rw [hw123];exact below_a _ _
    have hW123:=Below.step hW122 hb123
    replace h1:=own_below h1 hb123
    replace oq:=own_below oq hb123
    replace ks:w123.cell? ⟨bs,6,none⟩=some (.slice a2 k c')∧w123.cell? ⟨w.heap.size,0,none⟩=some (.int .i64 C):=⟨cell_later hb123 ks.1,cell_later hb123 ks.2⟩
    have l1:∀ j q2,([.slice (some ⟨q,0,none⟩) C C]:List Value)[j]?=some q2→w123.cell? ⟨w122.heap.size,j,none⟩=some q2:=fun j q2 h=>by rw [hw123];exact cellN rfl (by simpa using h)
    clear hw123 hb123
    refine hK.out _ _ (ks) (fun hHeld5=>?_)
    clear hK K
    try simp only [Act.put,List.setIfInBounds_toArray,List.set_cons_zero,List.set_cons_succ]
    refine readyU (rs:=[6]) (by kernel_rfl) (by simp) ?_
    refine consU rfl (fun K hK=>?_) (nilU)
    have hsz:W3.heap.size≤w123.heap.size:=by have:=hW123.size;omega
    refine step_append_own2 rfl (.tmp 22) (.tmp 26) 44 rfl W3.heap.size 69 iq (.slice none 0 0) 1 24 Tryz.underlying44 qi qz0 qz1 qz2 rfl (by decide) _ k (rowsM rr C k) rfl h1 _ 1 1 [.slice (some ⟨q,0,none⟩) C C] rfl rfl (fun j q2 h=>by rw [addN,Nat.zero_add];exact l1 j q2 h) (fun q2 hq=>by simp at hq;rw [hq];rfl) (by unfold maxLen;omega) (by omega) hsz (by decide) ?_
    intro v124 w124 oa ga pa
    obtain ⟨gv,cv,rfl⟩:=own_some oa
    have hke:=grown_kept ga
    have hnb:bs∉(Value.slice a2 k c').ownBlock.toList:=fun m=>by have h8:=(h1.lt bs (Option.mem_toList.1 m)).1;omega
    have hnw:w.heap.size∉(Value.slice a2 k c').ownBlock.toList:=fun m=>by have h8:=(h1.lt w.heap.size (Option.mem_toList.1 m)).1;omega
    have ks2:w124.cell? ⟨bs,6,none⟩=some (.slice a2 k c')∧w124.cell? ⟨w.heap.size,0,none⟩=some (.int .i64 C):=⟨hke.cellAt ks.1 hnb,hke.cellAt ks.2 hnw⟩
    have f6b:=hke.frz (frz_later hW123 z6 hbl) (lt_of_cell ks.1) hnb
    have HI2:=Lib.hid (HI.out.step hbs hW123 oq oa ga)
    clear ga pa hke l1 h1 ks oq oa
    refine hK.out _ _ (ks2) (fun hHeld6=>?_)
    clear hK K
    try simp only [Act.put,List.setIfInBounds_toArray,List.set_cons_zero,List.set_cons_succ]
    refine takeUw (i:=7) (v:=?v7_125) rfl (by kernel_rfl) (fun _ _ _ h=>h) (by rfl) ?hy7_125 (by assumption) ?rest7_125
    case hy7_125=>(intro w hSw;(try dsimp only at hSw);go_simp;try with_reducible rfl)
    try simp only [Act.put,List.setIfInBounds_toArray,List.set_cons_zero,List.set_cons_succ]
    refine readyU (rs:=[8]) (by kernel_rfl) (by simp) ?_
    refine consV rfl (by kernel_rfl) (fun K hK=>?_) (nilU)
    have e6b:=ks2.1
    go_simp
    refine hK.out _ _ ?_
    clear hK K
    try simp only [Act.put,List.setIfInBounds_toArray,List.set_cons_zero,List.set_cons_succ]
    refine doneU (by kernel_rfl) ?_ _
    obtain ⟨WZ,hWZ⟩:∃ X,X=w124.setCell ⟨bs,6,none⟩ (.slice (some ⟨gv,0,none⟩) (k+1:Nat) cv):=⟨_,rfl⟩
    rw [← hWZ] at HI2 ⊢
    clear hWZ ks2 e6b f6b e6 z6 y0r MS
    go_wp2_with fail
    go_roundw
    case rel=>exact ⟨k+1,some ⟨gv,0,none⟩,cv,_,by omega,by go_num,HI2⟩
    case measure=>simp [RowKit.intOf];omega
   ·obtain rfl:k=n:=by omega
    have hki:¬ (k:Int)<(k:Int):=by omega
    have hown:=HI.out.own
    obtain ⟨sg,c2,hac⟩:∃ g c2,(Value.slice a2 k c')=.slice (some ⟨g,0,none⟩) k c2:=by
     obtain ⟨q,hq⟩:∃ q,k=q+1:=⟨k - 1,by have:=HN.out;omega⟩
     rw [hq] at hown ⊢
     exact own_some hown
    cases hac
    have hsg:=hown.lt sg rfl
    have hcap2:=own_cap hown
    have kf:Kept [bs] W1 wr:=(Kept.of HBX.out).trans ⟨HI.out.kp.os,HI.out.kp.tape,HI.out.kp.output,HI.out.kp.size,HI.out.kp.block⟩
    have hgw:=(HG.out.kept (G:=[]) (Kept.of HB1.out) (by simp)).kept kf (by have:=HNE.out;simp;omega)
    have hlw:=IL.out.kept HI.out.kp (by have:=HNE.out;simp;omega)
    have huw:=IU.out.kept HI.out.kp (by have:=HNE.out;simp;omega)
    have hrw:RwsAt wr sg k C rr:=⟨fun i hi=>⟨C,Nat.le_refl _,by omega,by rw [hown.cellAt i (by omega)];exact rowsM_at hi⟩,hsg.2⟩
    have hsw:∀ i,i<k→SpsAt wr (rr i) C zSp:=fun i hi=>own_sps (HI.out.row i hi)
    have AC:=Lib.hid (show Calls Tryz.prog 86 #[.agg #[.int .i64 C,.int .u64 cr,.slice (some ⟨vb,0,none⟩) k cg,.slice (some ⟨gl,0,none⟩) C C,.slice (some ⟨gu,0,none⟩) C C,.slice none 0 0,.slice (some ⟨sg,0,none⟩) k c']] wr (CopP (freshM Gs C cr) wr) from by
     have e:=HNN.out
     subst e
     exact mcopied_at (m:=freshM Gs C cr) (tb:=none) hgw hlw huw ⟨World.ownsRow_nil _ _ _ _,rfl⟩ hrw hsw HN.out HC.out (by show 0≤65535;omega))
    have hbw:Below w.heap.size w wr:=Kept.stepB HB1.out (Nat.le_refl _) kf fun b q=>by have:=HNE.out;simp at q;omega
    have HBW:=Lib.hid hbw
    have x0:=HI.out.st.c0
    have x1:=HI.out.st.c1
    have x2:=HI.out.st.c2
    have x3:=HI.out.st.c3
    have x4:=HI.out.st.c4
    have x5:=HI.out.st.c5
    have x6:=HI.out.st.c6
    clear hown hsg hcap2 kf hgw hlw huw hrw hsw hbw e6 z6 MS
    go_wp2_with fail
    refine AC.out.mono ?_;clear AC;rintro e w5 ⟨g,l,u,s2,tb,r2,cg2,cl2,cu2,cs2,vt,rfl,hq⟩
    have HQ:=Lib.hid hq
    clear hq x0 x1 x2 x3 x4 x5 x6
    go_wp2_with fail
    obtain ⟨q1,q2,q3,q4,hg5,hl5,hu5,ht5,hs5,hp5,hch,hge,hb5⟩:=HQ.out
    have hM:=MIn.of (m:=freshM Gs C cr) (w:=w5) (x:=w5.heap.size) (Nat.le_refl _) _ rfl rfl q1 q2 q3 q4 hg5 hl5 hu5 ht5 hs5 hp5 hch
    have hsz1:=HBW.out.size
    have hsz2:=hb5.size
    refine bodyPost_ret (v:=.tuple #[.pointer (some ⟨w5.heap.size,0,none⟩),.int .i64 0]) (by simp [results,Tryz.results38,go_sem]) rfl ⟨w5.heap.size,_,rfl,hM,fun b q=>?_,Below.step (Below.step HBW.out hb5) (below_a _ _)⟩
    by_cases e:b=w5.heap.size
    ·omega
    ·replace q:(if b=w5.heap.size then ((1:Nat),(0:Nat)) else labOf g l u tb s2 (freshM Gs C cr).n r2 b)≠(0,0):=q
     rw [if_neg e] at q
     exact labOf_ge hch q (by omega)
end Go.Proofs.YtapnaocdehahdaaGreat
