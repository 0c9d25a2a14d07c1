/-
  Layer 31 (sched): New.
-/
import Derived.Test.YtapnaocdehahdaaGreatSchU
import Derived.Test.YtapnaocdehahdaaGreatSchG
import Derived.WalkSmall
namespace Go.Proofs.YtapnaocdehahdaaGreat
open Go.RowKit Go.Maps Go.IntWalk Go.Lib
set_option linter.unusedVariables false
set_option linter.unusedSimpArgs false
set_option maxRecDepth 100000 in
set_option maxHeartbeats 1000000 in
theorem GClone_at (v:Value) (Gs:Grps) (w:World) (h:RecsAt encG w v Gs) (h0:0<Gs.length) (h1:Gs.length≤256):Calls Tryz.prog 46 #[v] w (GCloneP Gs w):=by
 obtain ⟨i0,hi,hz0,hz1,hz2⟩:=info_parts infoGroup
 have hs:=@Lib.run_eql_slice_nil Tryz.prog
 obtain ⟨a,cap,rfl,hl1,hl2,hl3,hcells⟩:=h
 obtain ⟨b,off,rfl,hc⟩:∃ b off,a=some ⟨b,off,none⟩∧∀ j u,(flatR encG Gs)[j]?=some u→w.cell? ⟨b,off+j,none⟩=some u:=by
  rcases hcells with q | q
  ·rw [q] at h0;simp at h0
  ·exact q
 have HC:=Lib.hid hc
 clear hcells hc
 obtain ⟨n,hn⟩:∃ n,n=Gs.length:=⟨_,rfl⟩
 have HN:=Lib.hid hn
 unfold GCloneP
 rw [← hn] at h0 h1 hl1 ⊢
 clear hn
 go_enter Tryz.func46,Tryz.ntmps46
 go_wp2_with (at_builtin;refine wpList_append_own _ rfl _ _ 35 rfl w.heap.size 72 i0 (.agg #[.int .i64 0,.int .i64 0]) 2 16 Tryz.underlying35 hi hz0 hz1 hz2 rfl (by decide) _ 0 [] rfl (World.ownsRow_lit w #[] 0 (Nat.le_refl _) (by unfold maxLen;omega) rfl) ⟨b,off,none⟩ n cap (flatR encG Gs) rfl ?c1 ?c2 (flatR_one encG_ok Gs) ?c3 ?c4 ?c5 ?_)
 case c1=>rw [flatR_len encG_ok,HN.out]
 case c2=>exact fun j u hu=>by first | exact cell_al _ (HC.out j u hu) | (rw [addN];exact cell_al _ (HC.out j u hu))
 case c3=>unfold maxLen;omega
 case c4=>omega
 case c5=>simp
 intro v' w1 hown hgrow _
 have hbw:Below w.heap.size w w1:=(Below.allocS (Below.refl _ _) _).grown hgrow (by simp) (fun k hk=>by cases hk;exact Nat.le_refl _)
 obtain ⟨g',cap',rfl⟩:∃ g' cap',v'=.slice (some ⟨g',0,none⟩) n cap':=by
  rcases hown.2 with ⟨_,h⟩ | ⟨g',cap',_,rfl,_⟩
  ·omega
  ·exact ⟨g',cap',rfl⟩
 have HO:=Lib.hid hown
 clear hown hgrow
 go_wp2_with fail
 go_ret
 exact ⟨g',cap',rfl,HO.out,hbw⟩
def XNewP (Gs:Grps) (C:Nat) (cr:Int) (w:World) (e:Ending) (w':World):Prop:=∃ x L,e=.returned (.tuple #[.pointer (some ⟨x,0,none⟩),.int .i64 0])∧SRaw w' x L (firstS Gs C cr)∧(∀ b,L.lab b≠(0,0,0)→w.heap.size≤b)∧Below w.heap.size w w'
theorem infoQp:(Tryz.prog.info? 103).map (fun i=>(i.zero,i.size,i.bytes))=some (some (.pointer none),1,8):=by kernel_rfl
theorem infoEn:(Tryz.prog.info? 107).map (fun i=>(i.zero,i.size,i.bytes))=some (some (.agg #[.int .u64 0,.int .u32 0,.int .u32 0]),3,16):=by kernel_rfl
theorem made1_at {C k:Nat} (z:Value) (h:k<C):(madeCells #[z] (C*1))[k]?=some z:=by
 simp [madeCells,h,Nat.mod_one]
theorem made3_at {C k i:Nat} (z0 z1 z2:Value) (h:k<C) (hi:i<3):(madeCells #[z0,z1,z2] (C*3))[k*3+i]?=some (#[z0,z1,z2][i]!):=by
 have h1:k*3+i<C*3:=by omega
 have h2:(k*3+i) % 3=i:=by omega
 simp [madeCells,h1,h2]
theorem makes (W:World) {C:Nat} (hC:C≤64) (t e:TypeId) (i:TypeInfo) (z:Value) (size bytes:Nat) (ht:Tryz.prog.underlying t=some (.slice e)) (hi:Tryz.prog.info? e=some i) (hz:i.zero=some z) (h1:i.size=size) (h2:i.bytes=bytes) (h3:bytes≤16) :
  (Instr.makeSlice t (.int .i64 (C:Int)) (.int .i64 (C:Int))).run Tryz.prog W=.ok (.slice (some ⟨W.heap.size,0,none⟩) C C) (W.alloc (.cells (madeCells z.cells (C*size)) e)):=by
 have hb:(i.bytes:Int)*(C:Int)≤281474976710656:=by
  have:i.bytes*C≤16*64:=Nat.mul_le_mul (by omega) hC
  have h:((i.bytes*C:Nat):Int)≤281474976710656:=by omega
  rwa [Int.natCast_mul] at h
 have hr:=run_make (P:=Tryz.prog) W t e i z ht hi hz .i64 .i64 C C (by omega) (Int.le_refl _) hb (by omega)
 simp only [Int.toNat_natCast,h1] at hr
 exact hr
theorem IntsAt.made (W:World) (C:Nat) (t:TypeId):IntsAt (W.alloc (.cells (madeCells #[.int .i64 0] (C*1)) t)) W.heap.size C (fun _=>0):=
 ⟨fun k hk=>cell_nw W _ t k _ (made1_at _ hk),fun j=>frz_nw W _ t j,by simp⟩
theorem IntsAt.made' (W:World) (C:Nat) (t:TypeId) {b:Nat} (hb:b=W.heap.size):IntsAt (W.alloc (.cells (madeCells #[.int .i64 0] C) t)) b C (fun _=>0):=by
 subst hb
 have:=IntsAt.made W C t
 rw [Nat.mul_one] at this
 exact this
theorem IntsAt.al {W:World} {b n:Nat} {f:Nat→Int} (h:IntsAt W b n f) (o:Obj):IntsAt (W.alloc o) b n f:=h.kept (G:=[]) (Kept.of (below_a W o)) (by simp)
theorem mapP_made' (W:World) {b:Nat} (hb:b=W.heap.size):MapP (W.alloc (.map #[] 0)) b (fun _=>none) 0:=by
 subst hb
 exact MapG.made W
theorem mapP_al {W:World} {b:Nat} {f:Int→Option (Option Nat)} {c:Nat} (h:MapP W b f c) (o:Obj):MapP (W.alloc o) b f c:=h.below (below_a W o)
theorem GrpsAt.al {W:World} {b:Nat} {f:Grps} (h:GrpsAt W b f) (o:Obj):GrpsAt (W.alloc o) b f:=h.kept (G:=[]) (Kept.of (below_a W o)) (by simp)
theorem XRaw.start {base:Nat} {W:World} {x bg bl bu bm bo gcap:Nat} {Gs:Grps} {C:Nat} {cr:Int} {bx:Nat} (hx:x=W.heap.size) (hg:GrpsAt W bg Gs) (hl:IntsAt W bl C (fun _=>0)) (hu:IntsAt W bu C (fun _=>0)) (hm:MapP W bm (fun _=>none) 0) (ho:IntsAt W bo C (fun _=>0))
  (n1:bg≠bl∧bg≠bu∧bg≠bm∧bg≠bo) (n2:bl≠bu∧bl≠bm∧bl≠bo) (n3:bu≠bm∧bu≠bo∧bm≠bo) (g:base≤bg∧base≤bl∧base≤bu∧base≤bm∧base≤bo) (hbx:bx≠bg∧bx≠bl∧bx≠bu∧bx≠bm∧bx≠bo∧bx<W.heap.size) :
  ∃ L,XRaw base (W.alloc (.cells #[.int .i64 (C:Int),.int .u64 cr,.slice (some ⟨bg,0,none⟩) Gs.length gcap,.slice (some ⟨bl,0,none⟩) C C,.slice (some ⟨bu,0,none⟩) C C,.map (some bm),.slice none 0 0,.slice none 0 0,.slice (some ⟨bo,0,none⟩) C C,.int .i64 0] 100)) x L (.slice none 0 0) (.slice none 0 0) Gs C cr 0 0 0∧L.lab bx=(0,0,0)∧L.bg=bg:=by
 subst hx
 have a1:=hg.lt
 have a2:=hl.lt
 have a3:=hu.lt
 have a4:=hm.lt
 have a5:=ho.lt
 refine ⟨⟨bg,bl,bu,bm,0,0,bo,fun _=>0,fun _=>0,fun _=>0,fun _ _=>0,fun _ _=>[],fun b=>if b=W.heap.size then (1,0,0) else if b=bg then (1,1,0) else if b=bl then (1,2,0) else if b=bu then (1,3,0) else if b=bm then (1,4,0) else if b=bo then (1,7,0) else (0,0,0)⟩,?_,?_,rfl⟩
 ·exact {
   c0:=cell_nw W _ _ 0 _ rfl,c1:=cell_nw W _ _ 1 _ rfl,c2:=⟨gcap,cell_nw W _ _ 2 _ rfl⟩,c3:=⟨C,cell_nw W _ _ 3 _ rfl⟩,c4:=⟨C,cell_nw W _ _ 4 _ rfl⟩,c5:=cell_nw W _ _ 5 _ rfl,c8:=⟨C,cell_nw W _ _ 8 _ rfl⟩,c9:=cell_nw W _ _ 9 _ rfl
   z:=fun j=>frz_nw W _ _ j
   gr:=hg.al _
   cl:=hl.al _
   cu:=hu.al _
   ld:=ho.al _
   oq:=World.ownsRow_nil _ _ _ _
   oa:=World.ownsRow_nil _ _ _ _
   qc:=fun g hg=>by omega
   ac:=fun g hg=>by omega
   map:=mapP_al hm _
   q:=fun g k hg=>by omega
   lx:=if_pos rfl
   lg:=by show (if bg=W.heap.size then _ else if bg=bg then _ else _)=_;rw [if_neg (by omega),if_pos rfl]
   ll:=by show (if bl=W.heap.size then _ else if bl=bg then _ else if bl=bl then _ else _)=_;rw [if_neg (by omega),if_neg (by omega),if_pos rfl]
   lu:=by show (if bu=W.heap.size then _ else if bu=bg then _ else if bu=bl then _ else if bu=bu then _ else _)=_;rw [if_neg (by omega),if_neg (by omega),if_neg (by omega),if_pos rfl]
   lm:=by show (if bm=W.heap.size then _ else if bm=bg then _ else if bm=bl then _ else if bm=bu then _ else if bm=bm then _ else _)=_;rw [if_neg (by omega),if_neg (by omega),if_neg (by omega),if_neg (by omega),if_pos rfl]
   lo:=by show (if bo=W.heap.size then _ else if bo=bg then _ else if bo=bl then _ else if bo=bu then _ else if bo=bm then _ else if bo=bo then _ else _)=_;rw [if_neg (by omega),if_neg (by omega),if_neg (by omega),if_neg (by omega),if_neg (by omega),if_pos rfl]
   lq:=fun b q=>by cases q
   la:=fun b q=>by cases q
   lrq:=fun g hg=>by omega
   lra:=fun g hg=>by omega
   lF:=fun g k hg=>by omega
   lt:=fun b hb=>by
    simp only [World.alloc,Array.size_push]
    refine Decidable.byContradiction fun q=>hb ?_
    show (if b=W.heap.size then _ else if b=bg then _ else if b=bl then _ else if b=bu then _ else if b=bm then _ else if b=bo then _ else _)=_
    rw [if_neg (by omega),if_neg (by omega),if_neg (by omega),if_neg (by omega),if_neg (by omega),if_neg (by omega)]
   ge:=fun b hb=>by
    refine Decidable.byContradiction fun q=>hb ?_
    show (if b=W.heap.size then _ else if b=bg then _ else if b=bl then _ else if b=bu then _ else if b=bm then _ else if b=bo then _ else _)=_
    rw [if_neg (by omega),if_neg (by omega),if_neg (by omega),if_neg (by omega),if_neg (by omega),if_neg (by omega)] }
 ·show (if bx=W.heap.size then _ else if bx=bg then _ else if bx=bl then _ else if bx=bu then _ else if bx=bm then _ else if bx=bo then _ else _)=_
  rw [if_neg (by omega),if_neg (by omega),if_neg (by omega),if_neg (by omega),if_neg (by omega),if_neg (by omega)]
theorem XRaw.leaf {base:Nat} {W7 W:World} {x bg bl bu bm bo gcap:Nat} {Gs:Grps} {C:Nat} {cr:Int} {bx:Nat} (hb:Below W7.heap.size W7 W) (hG:GrpsAt W7 bg Gs) (h0:base≤bg) (hbx:bx<bg) (hx:x=W.heap.size) (hl:IntsAt W bl C (fun _=>0)) (hu:IntsAt W bu C (fun _=>0)) (hm:MapP W bm (fun _=>none) 0) (ho:IntsAt W bo C (fun _=>0))
  (nd:W7.heap.size≤bl∧W7.heap.size≤bu∧W7.heap.size≤bm∧W7.heap.size≤bo∧bl≠bu∧bl≠bm∧bl≠bo∧bu≠bm∧bu≠bo∧bm≠bo) :
  ∃ (x':Nat) (L:SLay),Value.pointer (some ⟨x,0,none⟩)=.pointer (some ⟨x',0,none⟩)∧XRaw base (W.alloc (.cells #[.int .i64 (C:Int),.int .u64 cr,.slice (some ⟨bg,0,none⟩) Gs.length gcap,.slice (some ⟨bl,0,none⟩) C C,.slice (some ⟨bu,0,none⟩) C C,.map (some bm),.slice none 0 0,.slice none 0 0,.slice (some ⟨bo,0,none⟩) C C,.int .i64 0] 100)) x' L (.slice none 0 0) (.slice none 0 0) Gs C cr 0 0 0 ∧
   (W.alloc (.cells #[.int .i64 (C:Int),.int .u64 cr,.slice (some ⟨bg,0,none⟩) Gs.length gcap,.slice (some ⟨bl,0,none⟩) C C,.slice (some ⟨bu,0,none⟩) C C,.map (some bm),.slice none 0 0,.slice none 0 0,.slice (some ⟨bo,0,none⟩) C C,.int .i64 0] 100)).cell? ⟨x',6,none⟩=some (.slice none 0 0) ∧
   (W.alloc (.cells #[.int .i64 (C:Int),.int .u64 cr,.slice (some ⟨bg,0,none⟩) Gs.length gcap,.slice (some ⟨bl,0,none⟩) C C,.slice (some ⟨bu,0,none⟩) C C,.map (some bm),.slice none 0 0,.slice none 0 0,.slice (some ⟨bo,0,none⟩) C C,.int .i64 0] 100)).cell? ⟨x',7,none⟩=some (.slice none 0 0) ∧
   Below W7.heap.size W7 (W.alloc (.cells #[.int .i64 (C:Int),.int .u64 cr,.slice (some ⟨bg,0,none⟩) Gs.length gcap,.slice (some ⟨bl,0,none⟩) C C,.slice (some ⟨bu,0,none⟩) C C,.map (some bm),.slice none 0 0,.slice none 0 0,.slice (some ⟨bo,0,none⟩) C C,.int .i64 0] 100))∧L.lab bx=(0,0,0)∧L.bg=bg:=by
 have l1:=hG.lt
 have l2:=hb.size
 have hGW:GrpsAt W bg Gs:=hG.kept (G:=[]) (Kept.of hb) (by simp)
 obtain ⟨L,hX,hl0,hl1⟩:=XRaw.start (cr:=cr) (gcap:=gcap) (bx:=bx) (base:=base) hx hGW hl hu hm ho (by omega) (by omega) (by omega) (by omega) (by omega)
 subst hx
 exact ⟨_,L,rfl,hX,cell_nw W _ _ 6 _ rfl,cell_nw W _ _ 7 _ rfl,Below.allocS hb _,hl0,hl1⟩
theorem wpAnyH_of_U {P:Program} {md:Region.Mode} {ops:Array Oper} {Q:Exit→Act→World→Prop} (S:World→Prop) (U:List Nat):∀ (fuel:Nat) (listed:Array Bool) (a:Act) (w:World),wpAnyU P md ops Q S U fuel listed a w→wpAnyH P md ops Q (fun _=>True) fuel listed a w
 | 0,_,_,_,h=>h
 | fuel+1,_,_,_,h=>⟨h.1,fun i hi=>wpOp_mono (fun a' w' h'=>⟨trivial,wpAnyH_of_U S U fuel _ a' w' h'.2⟩) (h.2 i hi)⟩
theorem lit_runZ {P:Program} {ty:TypeId} {parts:Array (Nat×Operand)} {dst:Option Nat} {tt:TypeId} {pos:String} {after:Array Edge} {gd:Option (Nat×Bool)} {ev:Operand→Value} {w:World} (vs:Array (Nat×Value)) (cells:Array Value)
  (he:parts.map (fun p=>(p.1,ev p.2))=vs) (hb:P.built ty vs.toList=some cells):(execOp ev ⟨dst,.build ty parts,tt,pos,after,gd⟩).run P w=.ok (.value (.agg cells)) w:=by
 have h:=run_build w ty vs cells hb
 rw [← he] at h
 show Sem.run P (do pure (Next.value (← Instr.build ty (parts.map (fun p=>(p.1,ev p.2)))))) w=_
 simp [h]
theorem built_sched (C cr:Int) (p q r t:Option Addr) (n n' k k' l l' m m':Nat) (b:Option Nat):Tryz.prog.built 100 [(0,.agg #[.int .i64 C,.int .u64 cr,.slice p n n']),(1,.slice q k k'),(2,.slice r l l'),(3,.map b),(6,.slice t m m')]=some #[.int .i64 C,.int .u64 cr,.slice p n n',.slice q k k',.slice r l l',.map b,.slice none 0 0,.slice none 0 0,.slice t m m',.int .i64 0]:=by kernel_rfl
theorem infoSq:(Tryz.prog.info? 101).map (fun i=>(i.zero,i.size,i.bytes))=some (some (.slice none 0 0),1,24):=by kernel_rfl
theorem infoSe:(Tryz.prog.info? 102).map (fun i=>(i.zero,i.size,i.bytes))=some (some (.slice none 0 0),1,24):=by kernel_rfl
theorem SLay.row_lab {L:SLay} {base m rq ra C:Nat} {qp:Nat→Nat} {F:Nat→List Nat} {b:Nat} (hb:b<base) (h:base≤rq∧base≤ra) (hF:∀ k,k<C→∀ b∈F k,base≤b):(L.row m rq ra C qp F).lab b=L.lab b:=by
 show (if b=rq then _ else if b=ra then _ else _)=_
 rw [if_neg (by omega),if_neg (by omega)]
 have hnone:(List.range C).find? (fun k=>decide (b∈F k))=none:=List.find?_eq_none.2 fun k hk q=>by
  have:=hF k (List.mem_range.1 hk) b (by simpa using q)
  omega
 rw [hnone]
theorem XRow.mono {base base':Nat} {wr:World} {rq ra C j:Nat} {wg:Int} {qp:Nat→Nat} {F:Nat→List Nat} (h:XRow base wr rq ra C j wg qp F) (hb:base'≤base):XRow base' wr rq ra C j wg qp F:=
 { h with ge:=⟨Nat.le_trans hb h.ge.1,Nat.le_trans hb h.ge.2⟩,off:=fun k hk b m=>⟨Nat.le_trans hb (h.off k hk b m).1,(h.off k hk b m).2⟩ }
theorem row_a (W:World) (C:Nat) (wg:Int) (tq te:TypeId):XRow W.heap.size ((W.alloc (.cells (madeCells #[.pointer none] C) tq)).alloc (.cells (madeCells #[.int .u64 0,.int .u32 0,.int .u32 0] (C*3)) te)).drew W.heap.size (W.heap.size+1) C 0 wg (fun _=>0) (fun _=>[]):=by
 have e1:W.heap.size+1=(W.alloc (.cells (madeCells #[.pointer none] C) tq)).heap.size:=by simp
 refine ⟨fun k hk=>?_,fun i=>?_,fun k hk=>?_,fun i=>?_,?_,⟨Nat.le_refl _,by omega⟩,by omega,fun k hk=>by omega,fun k hk=>by omega,fun i k hi=>by omega⟩
 ·have:=made1_at (.pointer none) hk
  rw [Nat.mul_one] at this
  exact cell_al _ (cell_nw W _ tq k _ this)
 ·exact frz_later (below_a _ _).drew (frz_nw W _ tq i) (by simp)
 ·exact ⟨cell_nwE e1 _ te _ _ (made3_at (i:=0) _ _ _ hk (by decide)),cell_nwE e1 _ te _ _ (made3_at (i:=1) _ _ _ hk (by decide)),cell_nwE e1 _ te _ _ (made3_at (i:=2) _ _ _ hk (by decide))⟩
 ·exact frz_nwE e1 _ te i
 ·simp;omega
theorem row_b (W:World) (C:Nat) (wg:Int) (tq te:TypeId):XRow W.heap.size ((W.alloc (.cells (madeCells #[.int .u64 0,.int .u32 0,.int .u32 0] (C*3)) te)).alloc (.cells (madeCells #[.pointer none] C) tq)).drew (W.heap.size+1) W.heap.size C 0 wg (fun _=>0) (fun _=>[]):=by
 have e1:W.heap.size+1=(W.alloc (.cells (madeCells #[.int .u64 0,.int .u32 0,.int .u32 0] (C*3)) te)).heap.size:=by simp
 refine ⟨fun k hk=>?_,fun i=>?_,fun k hk=>?_,fun i=>?_,?_,⟨by omega,Nat.le_refl _⟩,by omega,fun k hk=>by omega,fun k hk=>by omega,fun i k hi=>by omega⟩
 ·have:=made1_at (.pointer none) hk
  rw [Nat.mul_one] at this
  exact cell_nwE e1 _ tq k _ this
 ·exact frz_nwE e1 _ tq i
 ·exact ⟨cell_al _ (cell_nw W _ te _ _ (made3_at (i:=0) _ _ _ hk (by decide))),cell_al _ (cell_nw W _ te _ _ (made3_at (i:=1) _ _ _ hk (by decide))),cell_al _ (cell_nw W _ te _ _ (made3_at (i:=2) _ _ _ hk (by decide)))⟩
 ·exact frz_later (below_a _ _).drew (frz_nw W _ te i) (by simp)
 ·simp;omega
theorem one_cell {W:World} {b:Nat} {v:Value} (h:W.cell? ⟨b,0,none⟩=some v):∀ (k:Nat) (u:Value),([v]:List Value)[k]?=some u→W.cell? ((⟨b,0,none⟩:Addr).add k)=some u:=fun k u hk=>by
 cases k with
 | zero=>simp at hk;subst hk;rw [addN];exact h
 | succ k=>simp at hk
theorem one_slice {a:Option Addr} {n c:Nat}:∀ u∈([.slice a n c]:List Value),u.oneCell'=true:=fun u hu=>by simp at hu;subst hu;rfl
theorem XRaw.none_at {base:Nat} {wr:World} {x:Nat} {L:SLay} {vq va:Value} {Gs:Grps} {C:Nat} {cr:Int} {m kq ka b:Nat} (h:XRaw base wr x L vq va Gs C cr m kq ka) (hb:wr.heap.size≤b):L.lab b=(0,0,0):=Decidable.byContradiction fun n=>by
 have:=h.lt b n;omega
structure Pk (w:World) (x:Nat) (Gs:Grps) (C:Nat) (cr:Int) (m bx bg n gcap rq ra:Nat) (W:World) (L:SLay) (vq va:Value) (kq ka:Nat):Prop where
 raw:XRaw w.heap.size W x L vq va Gs C cr (m+1) kq ka
 b0:W.cell? ⟨bx,0,none⟩=some (.int .i64 (C:Int))
 b2:W.cell? ⟨bx,2,none⟩=some (.slice (some ⟨bg,0,none⟩) n gcap)
 lab:L.lab bx=(0,0,0)
 lbg:L.bg=bg
 bel:Below w.heap.size w W
 rqm:L.rq m=rq
 ram:L.ra m=ra
section
variable {w:World} {x:Nat} {Gs:Grps} {C:Nat} {cr:Int} {m bx bg n gcap rq ra:Nat} {W W':World} {L:SLay} {vq va:Value} {kq ka:Nat}
theorem Pk.below (h:Pk w x Gs C cr m bx bg n gcap rq ra W L vq va kq ka) (hb:Below W.heap.size W W'):Pk w x Gs C cr m bx bg n gcap rq ra W' L vq va kq ka:=
 ⟨h.raw.below hb,cell_later hb h.b0,cell_later hb h.b2,h.lab,h.lbg,Below.step h.bel hb,h.rqm,h.ram⟩
theorem Pk.field (h:Pk w x Gs C cr m bx bg n gcap rq ra W L vq va kq ka) {o:Nat} (ho:o=6∨o=7) (v:Value):Pk w x Gs C cr m bx bg n gcap rq ra (W.setCell ⟨x,o,none⟩ v) L vq va kq ka:=by
 have ne:bx≠x:=fun e=>by have:=h.raw.lx;rw [← e,h.lab] at this;cases this
 have hx:w.heap.size≤x:=h.raw.ge x (by rw [h.raw.lx];simp)
 exact ⟨h.raw.field ho v,cell_set_ne h.b0 (Or.inl ne),cell_set_ne h.b2 (Or.inl ne),h.lab,h.lbg,h.bel.setCell hx _,h.rqm,h.ram⟩
theorem Pk.appq {vq':Value} (h:Pk w x Gs C cr m bx bg n gcap rq ra W L vq va m ka) (hg:W.grownBy W' vq.ownBlock) (ho:W'.ownsRow w.heap.size 101 1 vq' (m+1) (rowsN L.rq C m++[.slice (some ⟨rq,0,none⟩) C C])) (hp:vq'.ownBlock=vq.ownBlock∨vq'.ownBlock=some W.heap.size) :
  ∃ L',Pk w x Gs C cr m bx bg n gcap rq ra W' L' vq' va (m+1) ka∧(∀ b o v,L.lab b=(0,0,0)∨b=x→W.cell? ⟨b,o,none⟩=some v→W'.cell? ⟨b,o,none⟩=some v):=by
 rw [← h.rqm,← rows_snoc] at ho
 have hk:=grown_kept hg
 have nb:bx∉vq.ownBlock.toList:=fun q=>by have:=h.raw.lq bx (by simpa using q);rw [h.lab] at this;cases this
 have nb':vq'.ownBlock≠some bx:=fun q=>by
  rcases hp with e | e
  ·rw [e] at q;exact nb (by simpa using q)
  ·rw [e] at q;have:=lt_of_cell h.b0;cases q;omega
 refine ⟨_,⟨h.raw.appq h.bel.size hg ho hp,hk.cellAt h.b0 nb,hk.cellAt h.b2 nb,?_,h.lbg,h.bel.grown hg h.bel.size (fun k e=>(h.raw.oq.lt k e).1),h.rqm,h.ram⟩,fun b o v hb hc=>hk.cellAt hc fun q=>?_⟩
 rotate_left
 ·have q2:=h.raw.lq b (by simpa using q)
  rcases hb with e | e
  ·rw [e] at q2;cases q2
  ·subst e;rw [h.raw.lx] at q2;cases q2
 show (if vq'.ownBlock=some bx then _ else L.lab bx)=_
 rw [if_neg nb']
 exact h.lab
theorem Pk.appa {va':Value} (h:Pk w x Gs C cr m bx bg n gcap rq ra W L vq va kq m) (hg:W.grownBy W' va.ownBlock) (ho:W'.ownsRow w.heap.size 102 1 va' (m+1) (rowsN L.ra C m++[.slice (some ⟨ra,0,none⟩) C C])) (hp:va'.ownBlock=va.ownBlock∨va'.ownBlock=some W.heap.size) :
  ∃ L',Pk w x Gs C cr m bx bg n gcap rq ra W' L' vq va' kq (m+1)∧(∀ b o v,L.lab b=(0,0,0)∨b=x→W.cell? ⟨b,o,none⟩=some v→W'.cell? ⟨b,o,none⟩=some v):=by
 rw [← h.ram,← rows_snoc] at ho
 have hk:=grown_kept hg
 have nb:bx∉va.ownBlock.toList:=fun q=>by have:=h.raw.la bx (by simpa using q);rw [h.lab] at this;cases this
 have nb':va'.ownBlock≠some bx:=fun q=>by
  rcases hp with e | e
  ·rw [e] at q;exact nb (by simpa using q)
  ·rw [e] at q;have:=lt_of_cell h.b0;cases q;omega
 refine ⟨_,⟨h.raw.appa h.bel.size hg ho hp,hk.cellAt h.b0 nb,hk.cellAt h.b2 nb,?_,h.lbg,h.bel.grown hg h.bel.size (fun k e=>(h.raw.oa.lt k e).1),h.rqm,h.ram⟩,fun b o v hb hc=>hk.cellAt hc fun q=>?_⟩
 rotate_left
 ·have q2:=h.raw.la b (by simpa using q)
  rcases hb with e | e
  ·rw [e] at q2;cases q2
  ·subst e;rw [h.raw.lx] at q2;cases q2
 show (if va'.ownBlock=some bx then _ else L.lab bx)=_
 rw [if_neg nb']
 exact h.lab
end
set_option maxRecDepth 100000 in
set_option maxHeartbeats 20000000 in
theorem xNew_at {C:Nat} {cr:Int} {v:Value} {Gs:Grps} (w:World) (h:RecsAt encG w v Gs) (hC:1≤C∧C≤64) (hc:0≤cr∧cr≤1099511627776) (hr:RightG Gs) :
  Calls Tryz.prog 13 #[.agg #[.int .i64 C,.int .u64 cr,v]] w (XNewP Gs C cr w):=by
 have hl:=hr.le
 have hp:=hr.pos
 have A1:=Lib.hid fun W (hb:Below w.heap.size w W)=>mRC_at (C:=(C:Int)) W (h.later hb) (by omega) hc hr
 have A2:=Lib.hid fun W (hb:Below w.heap.size w W)=>GClone_at v Gs W (h.later hb) hp hl
 have HRI:=Lib.hid hr
 obtain ⟨a,cap,rfl,hl1,hl2,hl3,hcells⟩:=h
 clear hcells hl1 hl2 hl3 hr
 go_enter Tryz.func13,Tryz.ntmps13
 go_wp2_with fail
 refine (A1.out _ (below_a w _)).mono ?_;rintro e w5 ⟨rfl,hb5⟩
 have q0:=cell_later hb5 (cell_nw w #[.int .i64 (C:Int),.int .u64 cr,.slice a Gs.length cap] 37 0 _ rfl)
 have q1:=cell_later hb5 (cell_nw w #[.int .i64 (C:Int),.int .u64 cr,.slice a Gs.length cap] 37 1 _ rfl)
 have q2:=cell_later hb5 (cell_nw w #[.int .i64 (C:Int),.int .u64 cr,.slice a Gs.length cap] 37 2 _ rfl)
 have hb5':=Below.step (below_a w (.cells #[.int .i64 (C:Int),.int .u64 cr,.slice a Gs.length cap] 37)) hb5
 have fz:=fun j=>frz_later hb5 (frz_nw w #[.int .i64 (C:Int),.int .u64 cr,.slice a Gs.length cap] 37 j) (by simp)
 have hlx:w.heap.size<w5.heap.size:=lt_of_cell q0
 have HB5:=Lib.hid hb5'
 clear hb5 hb5'
 go_wp2_with fail
 refine (A2.out _ HB5.out).mono ?_;rintro e w6 ⟨bg,gcap,rfl,hown,hb6⟩
 have r0:=cell_later hb6 q0
 have r1:=cell_later hb6 q1
 have r2:=cell_later hb6 q2
 have f2:=frz_later hb6 (fz 2) hlx
 obtain ⟨W7,hW7⟩:∃ W,W=w6.setCell ⟨w.heap.size,2,none⟩ (.slice (some ⟨bg,0,none⟩) Gs.length gcap):=⟨_,rfl⟩
 have hbg:bg<w6.heap.size:=(hown.lt bg rfl).2
 have hgb:w5.heap.size≤bg:=(hown.lt bg rfl).1
 have k7:Kept [w.heap.size] w6 W7:=by rw [hW7];exact (Kept.refl _ _).setCell (Or.inl (by simp)) _
 have s0:W7.cell? ⟨w.heap.size,0,none⟩=some (.int .i64 (C:Int)):=by rw [hW7];exact cell_set_ne r0 (Or.inr (by decide))
 have s1:W7.cell? ⟨w.heap.size,1,none⟩=some (.int .u64 cr):=by rw [hW7];exact cell_set_ne r1 (Or.inr (by decide))
 have s2:W7.cell? ⟨w.heap.size,2,none⟩=some (.slice (some ⟨bg,0,none⟩) Gs.length gcap):=by rw [hW7];exact cell_set_eq r2
 have hG7:GrpsAt W7 bg Gs:=by
  have hg:bg∉[w.heap.size]:=by simp;omega
  exact ⟨fun k hk=>by
   have hx:Gs[k]?=some Gs[k]!:=by rw [List.getElem?_eq_getElem hk,getElem!_pos Gs k hk]
   exact ⟨k7.cellAt ((hown.cellAt (k*2) (by omega)).trans (flatR_at encG_ok hx 0 (by decide))) hg,k7.cellAt ((hown.cellAt (k*2+1) (by omega)).trans (flatR_at encG_ok hx 1 (by decide))) hg⟩,fun j=>k7.frz (hown.frozenAt j) hbg hg,Nat.lt_of_lt_of_le hbg k7.size⟩
 have hB7:Below w.heap.size w W7:=by
  rw [hW7]
  exact Below.setCell (Below.step HB5.out hb6) (Nat.le_refl _) _
 have G7:=Lib.hid hG7
 have B7:=Lib.hid hB7
 have HW7:=Lib.hid hW7
 have hwb:w.heap.size≤bg:=Nat.le_trans HB5.out.size hgb
 have lbg:bg<W7.heap.size:=hG7.lt
 have hxg:w.heap.size<bg:=by omega
 clear q0 q1 q2 hown hb6 k7 hG7 hB7 hbg hgb hlx A1 A2
 go_upto_region 4 with fail
 rw [← HW7.out]
 obtain ⟨bx,hbx⟩:∃ b,b=w.heap.size:=⟨_,rfl⟩
 rw [← hbx] at s0 s1 s2 hxg ⊢
 have HBX:=Lib.hid hbx
 clear r0 r1 r2 f2 hW7 fz hbx
 obtain ⟨ii,hi,hz0,hz1,hz2⟩:=info_parts infoI
 have M1:∀ W:World,(Instr.makeSlice 42 (.int .i64 (C:Int)) (.int .i64 (C:Int))).run Tryz.prog W=.ok (.slice (some ⟨W.heap.size,0,none⟩) C C) (W.alloc (.cells (madeCells #[.int .i64 0] (C*1)) 3)):=fun W=>makes W hC.2 _ _ ii _ 1 8 Tryz.underlying42 hi hz0 hz1 hz2 (by decide)
 have M2:=@run_makeMap Tryz.prog
 clear hi hz0 hz1 hz2
 go_cut [4] (fun s4 wx=>∃ (x:Nat) (L:SLay),s4=.pointer (some ⟨x,0,none⟩)∧XRaw w.heap.size wx x L (.slice none 0 0) (.slice none 0 0) Gs C cr 0 0 0∧wx.cell? ⟨x,6,none⟩=some (.slice none 0 0)∧wx.cell? ⟨x,7,none⟩=some (.slice none 0 0)∧Below W7.heap.size W7 wx∧L.lab bx=(0,0,0)∧L.bg=bg)
 case first =>
  as_aux_lemma =>
   refine startB (S:=fun w'=>Below W7.heap.size W7 w'∧w'.cell? ⟨bx,0,none⟩=some (.int .i64 (C:Int))∧w'.cell? ⟨bx,1,none⟩=some (.int .u64 cr)∧w'.cell? ⟨bx,2,none⟩=some (.slice (some ⟨bg,0,none⟩) Gs.length gcap)) ⟨Below.refl _ _,s0,s1,s2⟩ (held_3 (below_dr _)) (fun hS00 hS0 hHeld=>?_)
   obtain ⟨wc101,hwc101⟩:∃ X,X=W7.drew:=⟨_,rfl⟩
   rw [← hwc101] at hHeld ⊢
   have hWc101:Below W7.heap.size W7 wc101:=by rw [hwc101];exact (Below.refl _ _).drew
   clear hwc101
   refine takeA 0 ?_
   refine takeA 1 ?_
   refine takeA 2 ?_
   refine takeA 4 ?_
   refine takeA 5 ?_
   refine takeA 8 ?_
   refine takeA 9 ?_
   refine readyA [3,6,7,10] (consA (fun K hK=>?_) (consA (fun K hK=>?_) (consA (fun K hK=>?_) (consA (fun K hK=>?_) .nil))))
   ·skip
    go_simp
    obtain ⟨w102,hw102⟩:∃ X,X=wc101.alloc (.cells (madeCells #[.int .i64 0] C) 3):=⟨_,rfl⟩
    obtain ⟨bil,hbil⟩:∃ b,b=wc101.heap.size:=⟨_,rfl⟩
    rw [← hw102,← hbil]
    have hv102:Below wc101.heap.size wc101 w102:=by rw [hw102];exact below_a _ _
    have fil:IntsAt w102 bil C (fun _=>0):=by rw [hw102];exact IntsAt.made' _ _ _ hbil
    have geil:W7.heap.size≤bil:=by rw [hbil];exact hWc101.size
    have ltil:bil<w102.heap.size:=by rw [hw102,hbil];simp
    have hB102:=Below.step hWc101 hv102
    clear hw102 hbil hv102
    refine outA hK (held_3 hB102 hS00) (fun hHeld3=>?_)
    clear hK K
    refine readyA [6,7,10] (consA (fun K hK=>?_) (consA (fun K hK=>?_) (consA (fun K hK=>?_) .nil)))
    ·skip
     go_simp
     obtain ⟨w103,hw103⟩:∃ X,X=w102.alloc (.cells (madeCells #[.int .i64 0] C) 3):=⟨_,rfl⟩
     obtain ⟨biu,hbiu⟩:∃ b,b=w102.heap.size:=⟨_,rfl⟩
     rw [← hw103,← hbiu]
     have hv103:Below w102.heap.size w102 w103:=by rw [hw103];exact below_a _ _
     have fiu:IntsAt w103 biu C (fun _=>0):=by rw [hw103];exact IntsAt.made' _ _ _ hbiu
     have geiu:W7.heap.size≤biu:=by rw [hbiu];exact hB102.size
     have ltiu:biu<w103.heap.size:=by rw [hw103,hbiu];simp
     replace fil:=fil.kept (G:=[]) (Kept.of hv103) (by simp)
     have niliu:bil≠biu:=by omega
     replace ltil:bil<w103.heap.size:=Nat.lt_of_lt_of_le ltil hv103.size
     have hB103:=Below.step hB102 hv103
     clear hw103 hbiu hv103
     refine outA hK (held_3 hB103 hS00) (fun hHeld6=>?_)
     clear hK K
     refine readyA [7,10] (consA (fun K hK=>?_) (consA (fun K hK=>?_) .nil))
     ·skip
      go_simp
      obtain ⟨w104,hw104⟩:∃ X,X=w103.alloc (.map #[] 0):=⟨_,rfl⟩
      obtain ⟨bim,hbim⟩:∃ b,b=w103.heap.size:=⟨_,rfl⟩
      rw [← hw104,← hbim]
      have hv104:Below w103.heap.size w103 w104:=by rw [hw104];exact below_a _ _
      have fim:MapP w104 bim (fun _=>none) 0:=by rw [hw104];exact mapP_made' _ hbim
      have geim:W7.heap.size≤bim:=by rw [hbim];exact hB103.size
      have ltim:bim<w104.heap.size:=by rw [hw104,hbim];simp
      replace fil:=fil.kept (G:=[]) (Kept.of hv104) (by simp)
      have nilim:bil≠bim:=by omega
      replace ltil:bil<w104.heap.size:=Nat.lt_of_lt_of_le ltil hv104.size
      replace fiu:=fiu.kept (G:=[]) (Kept.of hv104) (by simp)
      have niuim:biu≠bim:=by omega
      replace ltiu:biu<w104.heap.size:=Nat.lt_of_lt_of_le ltiu hv104.size
      have hB104:=Below.step hB103 hv104
      clear hw104 hbim hv104
      refine outA hK (held_3 hB104 hS00) (fun hHeld7=>?_)
      clear hK K
      refine readyA [10] (consA (fun K hK=>?_) .nil)
      go_simp
      obtain ⟨w105,hw105⟩:∃ X,X=w104.alloc (.cells (madeCells #[.int .i64 0] C) 3):=⟨_,rfl⟩
      obtain ⟨bio,hbio⟩:∃ b,b=w104.heap.size:=⟨_,rfl⟩
      rw [← hw105,← hbio]
      have hv105:Below w104.heap.size w104 w105:=by rw [hw105];exact below_a _ _
      have fio:IntsAt w105 bio C (fun _=>0):=by rw [hw105];exact IntsAt.made' _ _ _ hbio
      have geio:W7.heap.size≤bio:=by rw [hbio];exact hB104.size
      have ltio:bio<w105.heap.size:=by rw [hw105,hbio];simp
      replace fil:=fil.kept (G:=[]) (Kept.of hv105) (by simp)
      have nilio:bil≠bio:=by omega
      replace ltil:bil<w105.heap.size:=Nat.lt_of_lt_of_le ltil hv105.size
      replace fiu:=fiu.kept (G:=[]) (Kept.of hv105) (by simp)
      have niuio:biu≠bio:=by omega
      replace ltiu:biu<w105.heap.size:=Nat.lt_of_lt_of_le ltiu hv105.size
      replace fim:=fim.below hv105
      have nimio:bim≠bio:=by omega
      replace ltim:bim<w105.heap.size:=Nat.lt_of_lt_of_le ltim hv105.size
      have hB105:=Below.step hB104 hv105
      clear hw105 hbio hv105
      refine outA hK (held_3 hB105 hS00) (fun hHeld10=>?_)
      clear hK K
      refine takeH (i:=11) (v:=.agg #[.int .i64 (C:Int),.int .u64 cr,.slice (some ⟨bg,0,none⟩) Gs.length gcap,.slice (some ⟨bil,0,none⟩) C C,.slice (some ⟨biu,0,none⟩) C C,.map (some bim),.slice none 0 0,.slice none 0 0,.slice (some ⟨bio,0,none⟩) C C,.int .i64 0]) rfl (by kernel_rfl) (fun _ _ _ h=>h) (by rfl) (fun w _=>lit_runZ #[(0,.agg #[.int .i64 (C:Int),.int .u64 cr,.slice (some ⟨bg,0,none⟩) Gs.length gcap]),(1,.slice (some ⟨bil,0,none⟩) C C),(2,.slice (some ⟨biu,0,none⟩) C C),(3,.map (some bim)),(6,.slice (some ⟨bio,0,none⟩) C C)] #[.int .i64 (C:Int),.int .u64 cr,.slice (some ⟨bg,0,none⟩) Gs.length gcap,.slice (some ⟨bil,0,none⟩) C C,.slice (some ⟨biu,0,none⟩) C C,.map (some bim),.slice none 0 0,.slice none 0 0,.slice (some ⟨bio,0,none⟩) C C,.int .i64 0] (by kernel_rfl) (built_sched _ _ _ _ _ _ _ _ _ _ _ _ _ _ _)) (by assumption) ?_
      try simp only [Act.put,List.setIfInBounds_toArray,List.set_cons_zero,List.set_cons_succ]
      refine readyA [12] (consA (fun K hK=>?_) .nil)
      go_simp
      have HLF:=Lib.hid (XRaw.leaf (W7:=W7) (W:=w105) (x:=w105.heap.size) (bx:=bx) (cr:=cr) (gcap:=gcap) hB105 G7.out hwb hxg rfl fil fiu fim fio ⟨geil,geiu,geim,geio,niliu,nilim,nilio,niuim,niuio,nimio⟩)
      have hBz:Below W7.heap.size W7 (w105.alloc (.cells #[.int .i64 (C:Int),.int .u64 cr,.slice (some ⟨bg,0,none⟩) Gs.length gcap,.slice (some ⟨bil,0,none⟩) C C,.slice (some ⟨biu,0,none⟩) C C,.map (some bim),.slice none 0 0,.slice none 0 0,.slice (some ⟨bio,0,none⟩) C C,.int .i64 0] 100)):=Below.allocS hB105 _
      refine outA hK (held_3 hBz hS00) (fun hHeld12=>?_)
      clear hK K
      refine takeA 13 ?_
      refine doneA ?_
      go_wp2_with fail
      go_meet
      case rel=>exact HLF.out
     ·skip
      go_simp
      obtain ⟨w106,hw106⟩:∃ X,X=w103.alloc (.cells (madeCells #[.int .i64 0] C) 3):=⟨_,rfl⟩
      obtain ⟨bio,hbio⟩:∃ b,b=w103.heap.size:=⟨_,rfl⟩
      rw [← hw106,← hbio]
      have hv106:Below w103.heap.size w103 w106:=by rw [hw106];exact below_a _ _
      have fio:IntsAt w106 bio C (fun _=>0):=by rw [hw106];exact IntsAt.made' _ _ _ hbio
      have geio:W7.heap.size≤bio:=by rw [hbio];exact hB103.size
      have ltio:bio<w106.heap.size:=by rw [hw106,hbio];simp
      replace fil:=fil.kept (G:=[]) (Kept.of hv106) (by simp)
      have nilio:bil≠bio:=by omega
      replace ltil:bil<w106.heap.size:=Nat.lt_of_lt_of_le ltil hv106.size
      replace fiu:=fiu.kept (G:=[]) (Kept.of hv106) (by simp)
      have niuio:biu≠bio:=by omega
      replace ltiu:biu<w106.heap.size:=Nat.lt_of_lt_of_le ltiu hv106.size
      have hB106:=Below.step hB103 hv106
      clear hw106 hbio hv106
      refine outA hK (held_3 hB106 hS00) (fun hHeld10=>?_)
      clear hK K
      refine readyA [7] (consA (fun K hK=>?_) .nil)
      go_simp
      obtain ⟨w107,hw107⟩:∃ X,X=w106.alloc (.map #[] 0):=⟨_,rfl⟩
      obtain ⟨bim,hbim⟩:∃ b,b=w106.heap.size:=⟨_,rfl⟩
      rw [← hw107,← hbim]
      have hv107:Below w106.heap.size w106 w107:=by rw [hw107];exact below_a _ _
      have fim:MapP w107 bim (fun _=>none) 0:=by rw [hw107];exact mapP_made' _ hbim
      have geim:W7.heap.size≤bim:=by rw [hbim];exact hB106.size
      have ltim:bim<w107.heap.size:=by rw [hw107,hbim];simp
      replace fil:=fil.kept (G:=[]) (Kept.of hv107) (by simp)
      have nilim:bil≠bim:=by omega
      replace ltil:bil<w107.heap.size:=Nat.lt_of_lt_of_le ltil hv107.size
      replace fiu:=fiu.kept (G:=[]) (Kept.of hv107) (by simp)
      have niuim:biu≠bim:=by omega
      replace ltiu:biu<w107.heap.size:=Nat.lt_of_lt_of_le ltiu hv107.size
      replace fio:=fio.kept (G:=[]) (Kept.of hv107) (by simp)
      have nioim:bio≠bim:=by omega
      replace ltio:bio<w107.heap.size:=Nat.lt_of_lt_of_le ltio hv107.size
      have hB107:=Below.step hB106 hv107
      clear hw107 hbim hv107
      refine outA hK (held_3 hB107 hS00) (fun hHeld7=>?_)
      clear hK K
      refine takeH (i:=11) (v:=.agg #[.int .i64 (C:Int),.int .u64 cr,.slice (some ⟨bg,0,none⟩) Gs.length gcap,.slice (some ⟨bil,0,none⟩) C C,.slice (some ⟨biu,0,none⟩) C C,.map (some bim),.slice none 0 0,.slice none 0 0,.slice (some ⟨bio,0,none⟩) C C,.int .i64 0]) rfl (by kernel_rfl) (fun _ _ _ h=>h) (by rfl) (fun w _=>lit_runZ #[(0,.agg #[.int .i64 (C:Int),.int .u64 cr,.slice (some ⟨bg,0,none⟩) Gs.length gcap]),(1,.slice (some ⟨bil,0,none⟩) C C),(2,.slice (some ⟨biu,0,none⟩) C C),(3,.map (some bim)),(6,.slice (some ⟨bio,0,none⟩) C C)] #[.int .i64 (C:Int),.int .u64 cr,.slice (some ⟨bg,0,none⟩) Gs.length gcap,.slice (some ⟨bil,0,none⟩) C C,.slice (some ⟨biu,0,none⟩) C C,.map (some bim),.slice none 0 0,.slice none 0 0,.slice (some ⟨bio,0,none⟩) C C,.int .i64 0] (by kernel_rfl) (built_sched _ _ _ _ _ _ _ _ _ _ _ _ _ _ _)) (by assumption) ?_
      try simp only [Act.put,List.setIfInBounds_toArray,List.set_cons_zero,List.set_cons_succ]
      refine readyA [12] (consA (fun K hK=>?_) .nil)
      go_simp
      have HLF:=Lib.hid (XRaw.leaf (W7:=W7) (W:=w107) (x:=w107.heap.size) (bx:=bx) (cr:=cr) (gcap:=gcap) hB107 G7.out hwb hxg rfl fil fiu fim fio ⟨geil,geiu,geim,geio,niliu,nilim,nilio,niuim,niuio,nioim.symm⟩)
      have hBz:Below W7.heap.size W7 (w107.alloc (.cells #[.int .i64 (C:Int),.int .u64 cr,.slice (some ⟨bg,0,none⟩) Gs.length gcap,.slice (some ⟨bil,0,none⟩) C C,.slice (some ⟨biu,0,none⟩) C C,.map (some bim),.slice none 0 0,.slice none 0 0,.slice (some ⟨bio,0,none⟩) C C,.int .i64 0] 100)):=Below.allocS hB107 _
      refine outA hK (held_3 hBz hS00) (fun hHeld12=>?_)
      clear hK K
      refine takeA 13 ?_
      refine doneA ?_
      go_wp2_with fail
      go_meet
      case rel=>exact HLF.out
    ·skip
     go_simp
     obtain ⟨w108,hw108⟩:∃ X,X=w102.alloc (.map #[] 0):=⟨_,rfl⟩
     obtain ⟨bim,hbim⟩:∃ b,b=w102.heap.size:=⟨_,rfl⟩
     rw [← hw108,← hbim]
     have hv108:Below w102.heap.size w102 w108:=by rw [hw108];exact below_a _ _
     have fim:MapP w108 bim (fun _=>none) 0:=by rw [hw108];exact mapP_made' _ hbim
     have geim:W7.heap.size≤bim:=by rw [hbim];exact hB102.size
     have ltim:bim<w108.heap.size:=by rw [hw108,hbim];simp
     replace fil:=fil.kept (G:=[]) (Kept.of hv108) (by simp)
     have nilim:bil≠bim:=by omega
     replace ltil:bil<w108.heap.size:=Nat.lt_of_lt_of_le ltil hv108.size
     have hB108:=Below.step hB102 hv108
     clear hw108 hbim hv108
     refine outA hK (held_3 hB108 hS00) (fun hHeld7=>?_)
     clear hK K
     refine readyA [6,10] (consA (fun K hK=>?_) (consA (fun K hK=>?_) .nil))
     ·skip
      go_simp
      obtain ⟨w109,hw109⟩:∃ X,X=w108.alloc (.cells (madeCells #[.int .i64 0] C) 3):=⟨_,rfl⟩
      obtain ⟨biu,hbiu⟩:∃ b,b=w108.heap.size:=⟨_,rfl⟩
      rw [← hw109,← hbiu]
      have hv109:Below w108.heap.size w108 w109:=by rw [hw109];exact below_a _ _
      have fiu:IntsAt w109 biu C (fun _=>0):=by rw [hw109];exact IntsAt.made' _ _ _ hbiu
      have geiu:W7.heap.size≤biu:=by rw [hbiu];exact hB108.size
      have ltiu:biu<w109.heap.size:=by rw [hw109,hbiu];simp
      replace fil:=fil.kept (G:=[]) (Kept.of hv109) (by simp)
      have niliu:bil≠biu:=by omega
      replace ltil:bil<w109.heap.size:=Nat.lt_of_lt_of_le ltil hv109.size
      replace fim:=fim.below hv109
      have nimiu:bim≠biu:=by omega
      replace ltim:bim<w109.heap.size:=Nat.lt_of_lt_of_le ltim hv109.size
      have hB109:=Below.step hB108 hv109
      clear hw109 hbiu hv109
      refine outA hK (held_3 hB109 hS00) (fun hHeld6=>?_)
      clear hK K
      refine readyA [10] (consA (fun K hK=>?_) .nil)
      go_simp
      obtain ⟨w110,hw110⟩:∃ X,X=w109.alloc (.cells (madeCells #[.int .i64 0] C) 3):=⟨_,rfl⟩
      obtain ⟨bio,hbio⟩:∃ b,b=w109.heap.size:=⟨_,rfl⟩
      rw [← hw110,← hbio]
      have hv110:Below w109.heap.size w109 w110:=by rw [hw110];exact below_a _ _
      have fio:IntsAt w110 bio C (fun _=>0):=by rw [hw110];exact IntsAt.made' _ _ _ hbio
      have geio:W7.heap.size≤bio:=by rw [hbio];exact hB109.size
      have ltio:bio<w110.heap.size:=by rw [hw110,hbio];simp
      replace fil:=fil.kept (G:=[]) (Kept.of hv110) (by simp)
      have nilio:bil≠bio:=by omega
      replace ltil:bil<w110.heap.size:=Nat.lt_of_lt_of_le ltil hv110.size
      replace fim:=fim.below hv110
      have nimio:bim≠bio:=by omega
      replace ltim:bim<w110.heap.size:=Nat.lt_of_lt_of_le ltim hv110.size
      replace fiu:=fiu.kept (G:=[]) (Kept.of hv110) (by simp)
      have niuio:biu≠bio:=by omega
      replace ltiu:biu<w110.heap.size:=Nat.lt_of_lt_of_le ltiu hv110.size
      have hB110:=Below.step hB109 hv110
      clear hw110 hbio hv110
      refine outA hK (held_3 hB110 hS00) (fun hHeld10=>?_)
      clear hK K
      refine takeH (i:=11) (v:=.agg #[.int .i64 (C:Int),.int .u64 cr,.slice (some ⟨bg,0,none⟩) Gs.length gcap,.slice (some ⟨bil,0,none⟩) C C,.slice (some ⟨biu,0,none⟩) C C,.map (some bim),.slice none 0 0,.slice none 0 0,.slice (some ⟨bio,0,none⟩) C C,.int .i64 0]) rfl (by kernel_rfl) (fun _ _ _ h=>h) (by rfl) (fun w _=>lit_runZ #[(0,.agg #[.int .i64 (C:Int),.int .u64 cr,.slice (some ⟨bg,0,none⟩) Gs.length gcap]),(1,.slice (some ⟨bil,0,none⟩) C C),(2,.slice (some ⟨biu,0,none⟩) C C),(3,.map (some bim)),(6,.slice (some ⟨bio,0,none⟩) C C)] #[.int .i64 (C:Int),.int .u64 cr,.slice (some ⟨bg,0,none⟩) Gs.length gcap,.slice (some ⟨bil,0,none⟩) C C,.slice (some ⟨biu,0,none⟩) C C,.map (some bim),.slice none 0 0,.slice none 0 0,.slice (some ⟨bio,0,none⟩) C C,.int .i64 0] (by kernel_rfl) (built_sched _ _ _ _ _ _ _ _ _ _ _ _ _ _ _)) (by assumption) ?_
      try simp only [Act.put,List.setIfInBounds_toArray,List.set_cons_zero,List.set_cons_succ]
      refine readyA [12] (consA (fun K hK=>?_) .nil)
      go_simp
      have HLF:=Lib.hid (XRaw.leaf (W7:=W7) (W:=w110) (x:=w110.heap.size) (bx:=bx) (cr:=cr) (gcap:=gcap) hB110 G7.out hwb hxg rfl fil fiu fim fio ⟨geil,geiu,geim,geio,niliu,nilim,nilio,nimiu.symm,niuio,nimio⟩)
      have hBz:Below W7.heap.size W7 (w110.alloc (.cells #[.int .i64 (C:Int),.int .u64 cr,.slice (some ⟨bg,0,none⟩) Gs.length gcap,.slice (some ⟨bil,0,none⟩) C C,.slice (some ⟨biu,0,none⟩) C C,.map (some bim),.slice none 0 0,.slice none 0 0,.slice (some ⟨bio,0,none⟩) C C,.int .i64 0] 100)):=Below.allocS hB110 _
      refine outA hK (held_3 hBz hS00) (fun hHeld12=>?_)
      clear hK K
      refine takeA 13 ?_
      refine doneA ?_
      go_wp2_with fail
      go_meet
      case rel=>exact HLF.out
     ·skip
      go_simp
      obtain ⟨w111,hw111⟩:∃ X,X=w108.alloc (.cells (madeCells #[.int .i64 0] C) 3):=⟨_,rfl⟩
      obtain ⟨bio,hbio⟩:∃ b,b=w108.heap.size:=⟨_,rfl⟩
      rw [← hw111,← hbio]
      have hv111:Below w108.heap.size w108 w111:=by rw [hw111];exact below_a _ _
      have fio:IntsAt w111 bio C (fun _=>0):=by rw [hw111];exact IntsAt.made' _ _ _ hbio
      have geio:W7.heap.size≤bio:=by rw [hbio];exact hB108.size
      have ltio:bio<w111.heap.size:=by rw [hw111,hbio];simp
      replace fil:=fil.kept (G:=[]) (Kept.of hv111) (by simp)
      have nilio:bil≠bio:=by omega
      replace ltil:bil<w111.heap.size:=Nat.lt_of_lt_of_le ltil hv111.size
      replace fim:=fim.below hv111
      have nimio:bim≠bio:=by omega
      replace ltim:bim<w111.heap.size:=Nat.lt_of_lt_of_le ltim hv111.size
      have hB111:=Below.step hB108 hv111
      clear hw111 hbio hv111
      refine outA hK (held_3 hB111 hS00) (fun hHeld10=>?_)
      clear hK K
      refine readyA [6] (consA (fun K hK=>?_) .nil)
      go_simp
      obtain ⟨w112,hw112⟩:∃ X,X=w111.alloc (.cells (madeCells #[.int .i64 0] C) 3):=⟨_,rfl⟩
      obtain ⟨biu,hbiu⟩:∃ b,b=w111.heap.size:=⟨_,rfl⟩
      rw [← hw112,← hbiu]
      have hv112:Below w111.heap.size w111 w112:=by rw [hw112];exact below_a _ _
      have fiu:IntsAt w112 biu C (fun _=>0):=by rw [hw112];exact IntsAt.made' _ _ _ hbiu
      have geiu:W7.heap.size≤biu:=by rw [hbiu];exact hB111.size
      have ltiu:biu<w112.heap.size:=by rw [hw112,hbiu];simp
      replace fil:=fil.kept (G:=[]) (Kept.of hv112) (by simp)
      have niliu:bil≠biu:=by omega
      replace ltil:bil<w112.heap.size:=Nat.lt_of_lt_of_le ltil hv112.size
      replace fim:=fim.below hv112
      have nimiu:bim≠biu:=by omega
      replace ltim:bim<w112.heap.size:=Nat.lt_of_lt_of_le ltim hv112.size
      replace fio:=fio.kept (G:=[]) (Kept.of hv112) (by simp)
      have nioiu:bio≠biu:=by omega
      replace ltio:bio<w112.heap.size:=Nat.lt_of_lt_of_le ltio hv112.size
      have hB112:=Below.step hB111 hv112
      clear hw112 hbiu hv112
      refine outA hK (held_3 hB112 hS00) (fun hHeld6=>?_)
      clear hK K
      refine takeH (i:=11) (v:=.agg #[.int .i64 (C:Int),.int .u64 cr,.slice (some ⟨bg,0,none⟩) Gs.length gcap,.slice (some ⟨bil,0,none⟩) C C,.slice (some ⟨biu,0,none⟩) C C,.map (some bim),.slice none 0 0,.slice none 0 0,.slice (some ⟨bio,0,none⟩) C C,.int .i64 0]) rfl (by kernel_rfl) (fun _ _ _ h=>h) (by rfl) (fun w _=>lit_runZ #[(0,.agg #[.int .i64 (C:Int),.int .u64 cr,.slice (some ⟨bg,0,none⟩) Gs.length gcap]),(1,.slice (some ⟨bil,0,none⟩) C C),(2,.slice (some ⟨biu,0,none⟩) C C),(3,.map (some bim)),(6,.slice (some ⟨bio,0,none⟩) C C)] #[.int .i64 (C:Int),.int .u64 cr,.slice (some ⟨bg,0,none⟩) Gs.length gcap,.slice (some ⟨bil,0,none⟩) C C,.slice (some ⟨biu,0,none⟩) C C,.map (some bim),.slice none 0 0,.slice none 0 0,.slice (some ⟨bio,0,none⟩) C C,.int .i64 0] (by kernel_rfl) (built_sched _ _ _ _ _ _ _ _ _ _ _ _ _ _ _)) (by assumption) ?_
      try simp only [Act.put,List.setIfInBounds_toArray,List.set_cons_zero,List.set_cons_succ]
      refine readyA [12] (consA (fun K hK=>?_) .nil)
      go_simp
      have HLF:=Lib.hid (XRaw.leaf (W7:=W7) (W:=w112) (x:=w112.heap.size) (bx:=bx) (cr:=cr) (gcap:=gcap) hB112 G7.out hwb hxg rfl fil fiu fim fio ⟨geil,geiu,geim,geio,niliu,nilim,nilio,nimiu.symm,nioiu.symm,nimio⟩)
      have hBz:Below W7.heap.size W7 (w112.alloc (.cells #[.int .i64 (C:Int),.int .u64 cr,.slice (some ⟨bg,0,none⟩) Gs.length gcap,.slice (some ⟨bil,0,none⟩) C C,.slice (some ⟨biu,0,none⟩) C C,.map (some bim),.slice none 0 0,.slice none 0 0,.slice (some ⟨bio,0,none⟩) C C,.int .i64 0] 100)):=Below.allocS hB112 _
      refine outA hK (held_3 hBz hS00) (fun hHeld12=>?_)
      clear hK K
      refine takeA 13 ?_
      refine doneA ?_
      go_wp2_with fail
      go_meet
      case rel=>exact HLF.out
    ·skip
     go_simp
     obtain ⟨w113,hw113⟩:∃ X,X=w102.alloc (.cells (madeCells #[.int .i64 0] C) 3):=⟨_,rfl⟩
     obtain ⟨bio,hbio⟩:∃ b,b=w102.heap.size:=⟨_,rfl⟩
     rw [← hw113,← hbio]
     have hv113:Below w102.heap.size w102 w113:=by rw [hw113];exact below_a _ _
     have fio:IntsAt w113 bio C (fun _=>0):=by rw [hw113];exact IntsAt.made' _ _ _ hbio
     have geio:W7.heap.size≤bio:=by rw [hbio];exact hB102.size
     have ltio:bio<w113.heap.size:=by rw [hw113,hbio];simp
     replace fil:=fil.kept (G:=[]) (Kept.of hv113) (by simp)
     have nilio:bil≠bio:=by omega
     replace ltil:bil<w113.heap.size:=Nat.lt_of_lt_of_le ltil hv113.size
     have hB113:=Below.step hB102 hv113
     clear hw113 hbio hv113
     refine outA hK (held_3 hB113 hS00) (fun hHeld10=>?_)
     clear hK K
     refine readyA [6,7] (consA (fun K hK=>?_) (consA (fun K hK=>?_) .nil))
     ·skip
      go_simp
      obtain ⟨w114,hw114⟩:∃ X,X=w113.alloc (.cells (madeCells #[.int .i64 0] C) 3):=⟨_,rfl⟩
      obtain ⟨biu,hbiu⟩:∃ b,b=w113.heap.size:=⟨_,rfl⟩
      rw [← hw114,← hbiu]
      have hv114:Below w113.heap.size w113 w114:=by rw [hw114];exact below_a _ _
      have fiu:IntsAt w114 biu C (fun _=>0):=by rw [hw114];exact IntsAt.made' _ _ _ hbiu
      have geiu:W7.heap.size≤biu:=by rw [hbiu];exact hB113.size
      have ltiu:biu<w114.heap.size:=by rw [hw114,hbiu];simp
      replace fil:=fil.kept (G:=[]) (Kept.of hv114) (by simp)
      have niliu:bil≠biu:=by omega
      replace ltil:bil<w114.heap.size:=Nat.lt_of_lt_of_le ltil hv114.size
      replace fio:=fio.kept (G:=[]) (Kept.of hv114) (by simp)
      have nioiu:bio≠biu:=by omega
      replace ltio:bio<w114.heap.size:=Nat.lt_of_lt_of_le ltio hv114.size
      have hB114:=Below.step hB113 hv114
      clear hw114 hbiu hv114
      refine outA hK (held_3 hB114 hS00) (fun hHeld6=>?_)
      clear hK K
      refine readyA [7] (consA (fun K hK=>?_) .nil)
      go_simp
      obtain ⟨w115,hw115⟩:∃ X,X=w114.alloc (.map #[] 0):=⟨_,rfl⟩
      obtain ⟨bim,hbim⟩:∃ b,b=w114.heap.size:=⟨_,rfl⟩
      rw [← hw115,← hbim]
      have hv115:Below w114.heap.size w114 w115:=by rw [hw115];exact below_a _ _
      have fim:MapP w115 bim (fun _=>none) 0:=by rw [hw115];exact mapP_made' _ hbim
      have geim:W7.heap.size≤bim:=by rw [hbim];exact hB114.size
      have ltim:bim<w115.heap.size:=by rw [hw115,hbim];simp
      replace fil:=fil.kept (G:=[]) (Kept.of hv115) (by simp)
      have nilim:bil≠bim:=by omega
      replace ltil:bil<w115.heap.size:=Nat.lt_of_lt_of_le ltil hv115.size
      replace fio:=fio.kept (G:=[]) (Kept.of hv115) (by simp)
      have nioim:bio≠bim:=by omega
      replace ltio:bio<w115.heap.size:=Nat.lt_of_lt_of_le ltio hv115.size
      replace fiu:=fiu.kept (G:=[]) (Kept.of hv115) (by simp)
      have niuim:biu≠bim:=by omega
      replace ltiu:biu<w115.heap.size:=Nat.lt_of_lt_of_le ltiu hv115.size
      have hB115:=Below.step hB114 hv115
      clear hw115 hbim hv115
      refine outA hK (held_3 hB115 hS00) (fun hHeld7=>?_)
      clear hK K
      refine takeH (i:=11) (v:=.agg #[.int .i64 (C:Int),.int .u64 cr,.slice (some ⟨bg,0,none⟩) Gs.length gcap,.slice (some ⟨bil,0,none⟩) C C,.slice (some ⟨biu,0,none⟩) C C,.map (some bim),.slice none 0 0,.slice none 0 0,.slice (some ⟨bio,0,none⟩) C C,.int .i64 0]) rfl (by kernel_rfl) (fun _ _ _ h=>h) (by rfl) (fun w _=>lit_runZ #[(0,.agg #[.int .i64 (C:Int),.int .u64 cr,.slice (some ⟨bg,0,none⟩) Gs.length gcap]),(1,.slice (some ⟨bil,0,none⟩) C C),(2,.slice (some ⟨biu,0,none⟩) C C),(3,.map (some bim)),(6,.slice (some ⟨bio,0,none⟩) C C)] #[.int .i64 (C:Int),.int .u64 cr,.slice (some ⟨bg,0,none⟩) Gs.length gcap,.slice (some ⟨bil,0,none⟩) C C,.slice (some ⟨biu,0,none⟩) C C,.map (some bim),.slice none 0 0,.slice none 0 0,.slice (some ⟨bio,0,none⟩) C C,.int .i64 0] (by kernel_rfl) (built_sched _ _ _ _ _ _ _ _ _ _ _ _ _ _ _)) (by assumption) ?_
      try simp only [Act.put,List.setIfInBounds_toArray,List.set_cons_zero,List.set_cons_succ]
      refine readyA [12] (consA (fun K hK=>?_) .nil)
      go_simp
      have HLF:=Lib.hid (XRaw.leaf (W7:=W7) (W:=w115) (x:=w115.heap.size) (bx:=bx) (cr:=cr) (gcap:=gcap) hB115 G7.out hwb hxg rfl fil fiu fim fio ⟨geil,geiu,geim,geio,niliu,nilim,nilio,niuim,nioiu.symm,nioim.symm⟩)
      have hBz:Below W7.heap.size W7 (w115.alloc (.cells #[.int .i64 (C:Int),.int .u64 cr,.slice (some ⟨bg,0,none⟩) Gs.length gcap,.slice (some ⟨bil,0,none⟩) C C,.slice (some ⟨biu,0,none⟩) C C,.map (some bim),.slice none 0 0,.slice none 0 0,.slice (some ⟨bio,0,none⟩) C C,.int .i64 0] 100)):=Below.allocS hB115 _
      refine outA hK (held_3 hBz hS00) (fun hHeld12=>?_)
      clear hK K
      refine takeA 13 ?_
      refine doneA ?_
      go_wp2_with fail
      go_meet
      case rel=>exact HLF.out
     ·skip
      go_simp
      obtain ⟨w116,hw116⟩:∃ X,X=w113.alloc (.map #[] 0):=⟨_,rfl⟩
      obtain ⟨bim,hbim⟩:∃ b,b=w113.heap.size:=⟨_,rfl⟩
      rw [← hw116,← hbim]
      have hv116:Below w113.heap.size w113 w116:=by rw [hw116];exact below_a _ _
      have fim:MapP w116 bim (fun _=>none) 0:=by rw [hw116];exact mapP_made' _ hbim
      have geim:W7.heap.size≤bim:=by rw [hbim];exact hB113.size
      have ltim:bim<w116.heap.size:=by rw [hw116,hbim];simp
      replace fil:=fil.kept (G:=[]) (Kept.of hv116) (by simp)
      have nilim:bil≠bim:=by omega
      replace ltil:bil<w116.heap.size:=Nat.lt_of_lt_of_le ltil hv116.size
      replace fio:=fio.kept (G:=[]) (Kept.of hv116) (by simp)
      have nioim:bio≠bim:=by omega
      replace ltio:bio<w116.heap.size:=Nat.lt_of_lt_of_le ltio hv116.size
      have hB116:=Below.step hB113 hv116
      clear hw116 hbim hv116
      refine outA hK (held_3 hB116 hS00) (fun hHeld7=>?_)
      clear hK K
      refine readyA [6] (consA (fun K hK=>?_) .nil)
      go_simp
      obtain ⟨w117,hw117⟩:∃ X,X=w116.alloc (.cells (madeCells #[.int .i64 0] C) 3):=⟨_,rfl⟩
      obtain ⟨biu,hbiu⟩:∃ b,b=w116.heap.size:=⟨_,rfl⟩
      rw [← hw117,← hbiu]
      have hv117:Below w116.heap.size w116 w117:=by rw [hw117];exact below_a _ _
      have fiu:IntsAt w117 biu C (fun _=>0):=by rw [hw117];exact IntsAt.made' _ _ _ hbiu
      have geiu:W7.heap.size≤biu:=by rw [hbiu];exact hB116.size
      have ltiu:biu<w117.heap.size:=by rw [hw117,hbiu];simp
      replace fil:=fil.kept (G:=[]) (Kept.of hv117) (by simp)
      have niliu:bil≠biu:=by omega
      replace ltil:bil<w117.heap.size:=Nat.lt_of_lt_of_le ltil hv117.size
      replace fio:=fio.kept (G:=[]) (Kept.of hv117) (by simp)
      have nioiu:bio≠biu:=by omega
      replace ltio:bio<w117.heap.size:=Nat.lt_of_lt_of_le ltio hv117.size
      replace fim:=fim.below hv117
      have nimiu:bim≠biu:=by omega
      replace ltim:bim<w117.heap.size:=Nat.lt_of_lt_of_le ltim hv117.size
      have hB117:=Below.step hB116 hv117
      clear hw117 hbiu hv117
      refine outA hK (held_3 hB117 hS00) (fun hHeld6=>?_)
      clear hK K
      refine takeH (i:=11) (v:=.agg #[.int .i64 (C:Int),.int .u64 cr,.slice (some ⟨bg,0,none⟩) Gs.length gcap,.slice (some ⟨bil,0,none⟩) C C,.slice (some ⟨biu,0,none⟩) C C,.map (some bim),.slice none 0 0,.slice none 0 0,.slice (some ⟨bio,0,none⟩) C C,.int .i64 0]) rfl (by kernel_rfl) (fun _ _ _ h=>h) (by rfl) (fun w _=>lit_runZ #[(0,.agg #[.int .i64 (C:Int),.int .u64 cr,.slice (some ⟨bg,0,none⟩) Gs.length gcap]),(1,.slice (some ⟨bil,0,none⟩) C C),(2,.slice (some ⟨biu,0,none⟩) C C),(3,.map (some bim)),(6,.slice (some ⟨bio,0,none⟩) C C)] #[.int .i64 (C:Int),.int .u64 cr,.slice (some ⟨bg,0,none⟩) Gs.length gcap,.slice (some ⟨bil,0,none⟩) C C,.slice (some ⟨biu,0,none⟩) C C,.map (some bim),.slice none 0 0,.slice none 0 0,.slice (some ⟨bio,0,none⟩) C C,.int .i64 0] (by kernel_rfl) (built_sched _ _ _ _ _ _ _ _ _ _ _ _ _ _ _)) (by assumption) ?_
      try simp only [Act.put,List.setIfInBounds_toArray,List.set_cons_zero,List.set_cons_succ]
      refine readyA [12] (consA (fun K hK=>?_) .nil)
      go_simp
      have HLF:=Lib.hid (XRaw.leaf (W7:=W7) (W:=w117) (x:=w117.heap.size) (bx:=bx) (cr:=cr) (gcap:=gcap) hB117 G7.out hwb hxg rfl fil fiu fim fio ⟨geil,geiu,geim,geio,niliu,nilim,nilio,nimiu.symm,nioiu.symm,nioim.symm⟩)
      have hBz:Below W7.heap.size W7 (w117.alloc (.cells #[.int .i64 (C:Int),.int .u64 cr,.slice (some ⟨bg,0,none⟩) Gs.length gcap,.slice (some ⟨bil,0,none⟩) C C,.slice (some ⟨biu,0,none⟩) C C,.map (some bim),.slice none 0 0,.slice none 0 0,.slice (some ⟨bio,0,none⟩) C C,.int .i64 0] 100)):=Below.allocS hB117 _
      refine outA hK (held_3 hBz hS00) (fun hHeld12=>?_)
      clear hK K
      refine takeA 13 ?_
      refine doneA ?_
      go_wp2_with fail
      go_meet
      case rel=>exact HLF.out
   ·skip
    go_simp
    obtain ⟨w118,hw118⟩:∃ X,X=wc101.alloc (.cells (madeCells #[.int .i64 0] C) 3):=⟨_,rfl⟩
    obtain ⟨biu,hbiu⟩:∃ b,b=wc101.heap.size:=⟨_,rfl⟩
    rw [← hw118,← hbiu]
    have hv118:Below wc101.heap.size wc101 w118:=by rw [hw118];exact below_a _ _
    have fiu:IntsAt w118 biu C (fun _=>0):=by rw [hw118];exact IntsAt.made' _ _ _ hbiu
    have geiu:W7.heap.size≤biu:=by rw [hbiu];exact hWc101.size
    have ltiu:biu<w118.heap.size:=by rw [hw118,hbiu];simp
    have hB118:=Below.step hWc101 hv118
    clear hw118 hbiu hv118
    refine outA hK (held_3 hB118 hS00) (fun hHeld6=>?_)
    clear hK K
    refine readyA [3,7,10] (consA (fun K hK=>?_) (consA (fun K hK=>?_) (consA (fun K hK=>?_) .nil)))
    ·skip
     go_simp
     obtain ⟨w119,hw119⟩:∃ X,X=w118.alloc (.cells (madeCells #[.int .i64 0] C) 3):=⟨_,rfl⟩
     obtain ⟨bil,hbil⟩:∃ b,b=w118.heap.size:=⟨_,rfl⟩
     rw [← hw119,← hbil]
     have hv119:Below w118.heap.size w118 w119:=by rw [hw119];exact below_a _ _
     have fil:IntsAt w119 bil C (fun _=>0):=by rw [hw119];exact IntsAt.made' _ _ _ hbil
     have geil:W7.heap.size≤bil:=by rw [hbil];exact hB118.size
     have ltil:bil<w119.heap.size:=by rw [hw119,hbil];simp
     replace fiu:=fiu.kept (G:=[]) (Kept.of hv119) (by simp)
     have niuil:biu≠bil:=by omega
     replace ltiu:biu<w119.heap.size:=Nat.lt_of_lt_of_le ltiu hv119.size
     have hB119:=Below.step hB118 hv119
     clear hw119 hbil hv119
     refine outA hK (held_3 hB119 hS00) (fun hHeld3=>?_)
     clear hK K
     refine readyA [7,10] (consA (fun K hK=>?_) (consA (fun K hK=>?_) .nil))
     ·skip
      go_simp
      obtain ⟨w120,hw120⟩:∃ X,X=w119.alloc (.map #[] 0):=⟨_,rfl⟩
      obtain ⟨bim,hbim⟩:∃ b,b=w119.heap.size:=⟨_,rfl⟩
      rw [← hw120,← hbim]
      have hv120:Below w119.heap.size w119 w120:=by rw [hw120];exact below_a _ _
      have fim:MapP w120 bim (fun _=>none) 0:=by rw [hw120];exact mapP_made' _ hbim
      have geim:W7.heap.size≤bim:=by rw [hbim];exact hB119.size
      have ltim:bim<w120.heap.size:=by rw [hw120,hbim];simp
      replace fiu:=fiu.kept (G:=[]) (Kept.of hv120) (by simp)
      have niuim:biu≠bim:=by omega
      replace ltiu:biu<w120.heap.size:=Nat.lt_of_lt_of_le ltiu hv120.size
      replace fil:=fil.kept (G:=[]) (Kept.of hv120) (by simp)
      have nilim:bil≠bim:=by omega
      replace ltil:bil<w120.heap.size:=Nat.lt_of_lt_of_le ltil hv120.size
      have hB120:=Below.step hB119 hv120
      clear hw120 hbim hv120
      refine outA hK (held_3 hB120 hS00) (fun hHeld7=>?_)
      clear hK K
      refine readyA [10] (consA (fun K hK=>?_) .nil)
      go_simp
      obtain ⟨w121,hw121⟩:∃ X,X=w120.alloc (.cells (madeCells #[.int .i64 0] C) 3):=⟨_,rfl⟩
      obtain ⟨bio,hbio⟩:∃ b,b=w120.heap.size:=⟨_,rfl⟩
      rw [← hw121,← hbio]
      have hv121:Below w120.heap.size w120 w121:=by rw [hw121];exact below_a _ _
      have fio:IntsAt w121 bio C (fun _=>0):=by rw [hw121];exact IntsAt.made' _ _ _ hbio
      have geio:W7.heap.size≤bio:=by rw [hbio];exact hB120.size
      have ltio:bio<w121.heap.size:=by rw [hw121,hbio];simp
      replace fiu:=fiu.kept (G:=[]) (Kept.of hv121) (by simp)
      have niuio:biu≠bio:=by omega
      replace ltiu:biu<w121.heap.size:=Nat.lt_of_lt_of_le ltiu hv121.size
      replace fil:=fil.kept (G:=[]) (Kept.of hv121) (by simp)
      have nilio:bil≠bio:=by omega
      replace ltil:bil<w121.heap.size:=Nat.lt_of_lt_of_le ltil hv121.size
      replace fim:=fim.below hv121
      have nimio:bim≠bio:=by omega
      replace ltim:bim<w121.heap.size:=Nat.lt_of_lt_of_le ltim hv121.size
      have hB121:=Below.step hB120 hv121
      clear hw121 hbio hv121
      refine outA hK (held_3 hB121 hS00) (fun hHeld10=>?_)
      clear hK K
      refine takeH (i:=11) (v:=.agg #[.int .i64 (C:Int),.int .u64 cr,.slice (some ⟨bg,0,none⟩) Gs.length gcap,.slice (some ⟨bil,0,none⟩) C C,.slice (some ⟨biu,0,none⟩) C C,.map (some bim),.slice none 0 0,.slice none 0 0,.slice (some ⟨bio,0,none⟩) C C,.int .i64 0]) rfl (by kernel_rfl) (fun _ _ _ h=>h) (by rfl) (fun w _=>lit_runZ #[(0,.agg #[.int .i64 (C:Int),.int .u64 cr,.slice (some ⟨bg,0,none⟩) Gs.length gcap]),(1,.slice (some ⟨bil,0,none⟩) C C),(2,.slice (some ⟨biu,0,none⟩) C C),(3,.map (some bim)),(6,.slice (some ⟨bio,0,none⟩) C C)] #[.int .i64 (C:Int),.int .u64 cr,.slice (some ⟨bg,0,none⟩) Gs.length gcap,.slice (some ⟨bil,0,none⟩) C C,.slice (some ⟨biu,0,none⟩) C C,.map (some bim),.slice none 0 0,.slice none 0 0,.slice (some ⟨bio,0,none⟩) C C,.int .i64 0] (by kernel_rfl) (built_sched _ _ _ _ _ _ _ _ _ _ _ _ _ _ _)) (by assumption) ?_
      try simp only [Act.put,List.setIfInBounds_toArray,List.set_cons_zero,List.set_cons_succ]
      refine readyA [12] (consA (fun K hK=>?_) .nil)
      go_simp
      have HLF:=Lib.hid (XRaw.leaf (W7:=W7) (W:=w121) (x:=w121.heap.size) (bx:=bx) (cr:=cr) (gcap:=gcap) hB121 G7.out hwb hxg rfl fil fiu fim fio ⟨geil,geiu,geim,geio,niuil.symm,nilim,nilio,niuim,niuio,nimio⟩)
      have hBz:Below W7.heap.size W7 (w121.alloc (.cells #[.int .i64 (C:Int),.int .u64 cr,.slice (some ⟨bg,0,none⟩) Gs.length gcap,.slice (some ⟨bil,0,none⟩) C C,.slice (some ⟨biu,0,none⟩) C C,.map (some bim),.slice none 0 0,.slice none 0 0,.slice (some ⟨bio,0,none⟩) C C,.int .i64 0] 100)):=Below.allocS hB121 _
      refine outA hK (held_3 hBz hS00) (fun hHeld12=>?_)
      clear hK K
      refine takeA 13 ?_
      refine doneA ?_
      go_wp2_with fail
      go_meet
      case rel=>exact HLF.out
     ·skip
      go_simp
      obtain ⟨w122,hw122⟩:∃ X,X=w119.alloc (.cells (madeCells #[.int .i64 0] C) 3):=⟨_,rfl⟩
      obtain ⟨bio,hbio⟩:∃ b,b=w119.heap.size:=⟨_,rfl⟩
      rw [← hw122,← hbio]
      have hv122:Below w119.heap.size w119 w122:=by rw [hw122];exact below_a _ _
      have fio:IntsAt w122 bio C (fun _=>0):=by rw [hw122];exact IntsAt.made' _ _ _ hbio
      have geio:W7.heap.size≤bio:=by rw [hbio];exact hB119.size
      have ltio:bio<w122.heap.size:=by rw [hw122,hbio];simp
      replace fiu:=fiu.kept (G:=[]) (Kept.of hv122) (by simp)
      have niuio:biu≠bio:=by omega
      replace ltiu:biu<w122.heap.size:=Nat.lt_of_lt_of_le ltiu hv122.size
      replace fil:=fil.kept (G:=[]) (Kept.of hv122) (by simp)
      have nilio:bil≠bio:=by omega
      replace ltil:bil<w122.heap.size:=Nat.lt_of_lt_of_le ltil hv122.size
      have hB122:=Below.step hB119 hv122
      clear hw122 hbio hv122
      refine outA hK (held_3 hB122 hS00) (fun hHeld10=>?_)
      clear hK K
      refine readyA [7] (consA (fun K hK=>?_) .nil)
      go_simp
      obtain ⟨w123,hw123⟩:∃ X,X=w122.alloc (.map #[] 0):=⟨_,rfl⟩
      obtain ⟨bim,hbim⟩:∃ b,b=w122.heap.size:=⟨_,rfl⟩
      rw [← hw123,← hbim]
      have hv123:Below w122.heap.size w122 w123:=by rw [hw123];exact below_a _ _
      have fim:MapP w123 bim (fun _=>none) 0:=by rw [hw123];exact mapP_made' _ hbim
      have geim:W7.heap.size≤bim:=by rw [hbim];exact hB122.size
      have ltim:bim<w123.heap.size:=by rw [hw123,hbim];simp
      replace fiu:=fiu.kept (G:=[]) (Kept.of hv123) (by simp)
      have niuim:biu≠bim:=by omega
      replace ltiu:biu<w123.heap.size:=Nat.lt_of_lt_of_le ltiu hv123.size
      replace fil:=fil.kept (G:=[]) (Kept.of hv123) (by simp)
      have nilim:bil≠bim:=by omega
      replace ltil:bil<w123.heap.size:=Nat.lt_of_lt_of_le ltil hv123.size
      replace fio:=fio.kept (G:=[]) (Kept.of hv123) (by simp)
      have nioim:bio≠bim:=by omega
      replace ltio:bio<w123.heap.size:=Nat.lt_of_lt_of_le ltio hv123.size
      have hB123:=Below.step hB122 hv123
      clear hw123 hbim hv123
      refine outA hK (held_3 hB123 hS00) (fun hHeld7=>?_)
      clear hK K
      refine takeH (i:=11) (v:=.agg #[.int .i64 (C:Int),.int .u64 cr,.slice (some ⟨bg,0,none⟩) Gs.length gcap,.slice (some ⟨bil,0,none⟩) C C,.slice (some ⟨biu,0,none⟩) C C,.map (some bim),.slice none 0 0,.slice none 0 0,.slice (some ⟨bio,0,none⟩) C C,.int .i64 0]) rfl (by kernel_rfl) (fun _ _ _ h=>h) (by rfl) (fun w _=>lit_runZ #[(0,.agg #[.int .i64 (C:Int),.int .u64 cr,.slice (some ⟨bg,0,none⟩) Gs.length gcap]),(1,.slice (some ⟨bil,0,none⟩) C C),(2,.slice (some ⟨biu,0,none⟩) C C),(3,.map (some bim)),(6,.slice (some ⟨bio,0,none⟩) C C)] #[.int .i64 (C:Int),.int .u64 cr,.slice (some ⟨bg,0,none⟩) Gs.length gcap,.slice (some ⟨bil,0,none⟩) C C,.slice (some ⟨biu,0,none⟩) C C,.map (some bim),.slice none 0 0,.slice none 0 0,.slice (some ⟨bio,0,none⟩) C C,.int .i64 0] (by kernel_rfl) (built_sched _ _ _ _ _ _ _ _ _ _ _ _ _ _ _)) (by assumption) ?_
      try simp only [Act.put,List.setIfInBounds_toArray,List.set_cons_zero,List.set_cons_succ]
      refine readyA [12] (consA (fun K hK=>?_) .nil)
      go_simp
      have HLF:=Lib.hid (XRaw.leaf (W7:=W7) (W:=w123) (x:=w123.heap.size) (bx:=bx) (cr:=cr) (gcap:=gcap) hB123 G7.out hwb hxg rfl fil fiu fim fio ⟨geil,geiu,geim,geio,niuil.symm,nilim,nilio,niuim,niuio,nioim.symm⟩)
      have hBz:Below W7.heap.size W7 (w123.alloc (.cells #[.int .i64 (C:Int),.int .u64 cr,.slice (some ⟨bg,0,none⟩) Gs.length gcap,.slice (some ⟨bil,0,none⟩) C C,.slice (some ⟨biu,0,none⟩) C C,.map (some bim),.slice none 0 0,.slice none 0 0,.slice (some ⟨bio,0,none⟩) C C,.int .i64 0] 100)):=Below.allocS hB123 _
      refine outA hK (held_3 hBz hS00) (fun hHeld12=>?_)
      clear hK K
      refine takeA 13 ?_
      refine doneA ?_
      go_wp2_with fail
      go_meet
      case rel=>exact HLF.out
    ·skip
     go_simp
     obtain ⟨w124,hw124⟩:∃ X,X=w118.alloc (.map #[] 0):=⟨_,rfl⟩
     obtain ⟨bim,hbim⟩:∃ b,b=w118.heap.size:=⟨_,rfl⟩
     rw [← hw124,← hbim]
     have hv124:Below w118.heap.size w118 w124:=by rw [hw124];exact below_a _ _
     have fim:MapP w124 bim (fun _=>none) 0:=by rw [hw124];exact mapP_made' _ hbim
     have geim:W7.heap.size≤bim:=by rw [hbim];exact hB118.size
     have ltim:bim<w124.heap.size:=by rw [hw124,hbim];simp
     replace fiu:=fiu.kept (G:=[]) (Kept.of hv124) (by simp)
     have niuim:biu≠bim:=by omega
     replace ltiu:biu<w124.heap.size:=Nat.lt_of_lt_of_le ltiu hv124.size
     have hB124:=Below.step hB118 hv124
     clear hw124 hbim hv124
     refine outA hK (held_3 hB124 hS00) (fun hHeld7=>?_)
     clear hK K
     refine readyA [3,10] (consA (fun K hK=>?_) (consA (fun K hK=>?_) .nil))
     ·skip
      go_simp
      obtain ⟨w125,hw125⟩:∃ X,X=w124.alloc (.cells (madeCells #[.int .i64 0] C) 3):=⟨_,rfl⟩
      obtain ⟨bil,hbil⟩:∃ b,b=w124.heap.size:=⟨_,rfl⟩
      rw [← hw125,← hbil]
      have hv125:Below w124.heap.size w124 w125:=by rw [hw125];exact below_a _ _
      have fil:IntsAt w125 bil C (fun _=>0):=by rw [hw125];exact IntsAt.made' _ _ _ hbil
      have geil:W7.heap.size≤bil:=by rw [hbil];exact hB124.size
      have ltil:bil<w125.heap.size:=by rw [hw125,hbil];simp
      replace fiu:=fiu.kept (G:=[]) (Kept.of hv125) (by simp)
      have niuil:biu≠bil:=by omega
      replace ltiu:biu<w125.heap.size:=Nat.lt_of_lt_of_le ltiu hv125.size
      replace fim:=fim.below hv125
      have nimil:bim≠bil:=by omega
      replace ltim:bim<w125.heap.size:=Nat.lt_of_lt_of_le ltim hv125.size
      have hB125:=Below.step hB124 hv125
      clear hw125 hbil hv125
      refine outA hK (held_3 hB125 hS00) (fun hHeld3=>?_)
      clear hK K
      refine readyA [10] (consA (fun K hK=>?_) .nil)
      go_simp
      obtain ⟨w126,hw126⟩:∃ X,X=w125.alloc (.cells (madeCells #[.int .i64 0] C) 3):=⟨_,rfl⟩
      obtain ⟨bio,hbio⟩:∃ b,b=w125.heap.size:=⟨_,rfl⟩
      rw [← hw126,← hbio]
      have hv126:Below w125.heap.size w125 w126:=by rw [hw126];exact below_a _ _
      have fio:IntsAt w126 bio C (fun _=>0):=by rw [hw126];exact IntsAt.made' _ _ _ hbio
      have geio:W7.heap.size≤bio:=by rw [hbio];exact hB125.size
      have ltio:bio<w126.heap.size:=by rw [hw126,hbio];simp
      replace fiu:=fiu.kept (G:=[]) (Kept.of hv126) (by simp)
      have niuio:biu≠bio:=by omega
      replace ltiu:biu<w126.heap.size:=Nat.lt_of_lt_of_le ltiu hv126.size
      replace fim:=fim.below hv126
      have nimio:bim≠bio:=by omega
      replace ltim:bim<w126.heap.size:=Nat.lt_of_lt_of_le ltim hv126.size
      replace fil:=fil.kept (G:=[]) (Kept.of hv126) (by simp)
      have nilio:bil≠bio:=by omega
      replace ltil:bil<w126.heap.size:=Nat.lt_of_lt_of_le ltil hv126.size
      have hB126:=Below.step hB125 hv126
      clear hw126 hbio hv126
      refine outA hK (held_3 hB126 hS00) (fun hHeld10=>?_)
      clear hK K
      refine takeH (i:=11) (v:=.agg #[.int .i64 (C:Int),.int .u64 cr,.slice (some ⟨bg,0,none⟩) Gs.length gcap,.slice (some ⟨bil,0,none⟩) C C,.slice (some ⟨biu,0,none⟩) C C,.map (some bim),.slice none 0 0,.slice none 0 0,.slice (some ⟨bio,0,none⟩) C C,.int .i64 0]) rfl (by kernel_rfl) (fun _ _ _ h=>h) (by rfl) (fun w _=>lit_runZ #[(0,.agg #[.int .i64 (C:Int),.int .u64 cr,.slice (some ⟨bg,0,none⟩) Gs.length gcap]),(1,.slice (some ⟨bil,0,none⟩) C C),(2,.slice (some ⟨biu,0,none⟩) C C),(3,.map (some bim)),(6,.slice (some ⟨bio,0,none⟩) C C)] #[.int .i64 (C:Int),.int .u64 cr,.slice (some ⟨bg,0,none⟩) Gs.length gcap,.slice (some ⟨bil,0,none⟩) C C,.slice (some ⟨biu,0,none⟩) C C,.map (some bim),.slice none 0 0,.slice none 0 0,.slice (some ⟨bio,0,none⟩) C C,.int .i64 0] (by kernel_rfl) (built_sched _ _ _ _ _ _ _ _ _ _ _ _ _ _ _)) (by assumption) ?_
      try simp only [Act.put,List.setIfInBounds_toArray,List.set_cons_zero,List.set_cons_succ]
      refine readyA [12] (consA (fun K hK=>?_) .nil)
      go_simp
      have HLF:=Lib.hid (XRaw.leaf (W7:=W7) (W:=w126) (x:=w126.heap.size) (bx:=bx) (cr:=cr) (gcap:=gcap) hB126 G7.out hwb hxg rfl fil fiu fim fio ⟨geil,geiu,geim,geio,niuil.symm,nimil.symm,nilio,niuim,niuio,nimio⟩)
      have hBz:Below W7.heap.size W7 (w126.alloc (.cells #[.int .i64 (C:Int),.int .u64 cr,.slice (some ⟨bg,0,none⟩) Gs.length gcap,.slice (some ⟨bil,0,none⟩) C C,.slice (some ⟨biu,0,none⟩) C C,.map (some bim),.slice none 0 0,.slice none 0 0,.slice (some ⟨bio,0,none⟩) C C,.int .i64 0] 100)):=Below.allocS hB126 _
      refine outA hK (held_3 hBz hS00) (fun hHeld12=>?_)
      clear hK K
      refine takeA 13 ?_
      refine doneA ?_
      go_wp2_with fail
      go_meet
      case rel=>exact HLF.out
     ·skip
      go_simp
      obtain ⟨w127,hw127⟩:∃ X,X=w124.alloc (.cells (madeCells #[.int .i64 0] C) 3):=⟨_,rfl⟩
      obtain ⟨bio,hbio⟩:∃ b,b=w124.heap.size:=⟨_,rfl⟩
      rw [← hw127,← hbio]
      have hv127:Below w124.heap.size w124 w127:=by rw [hw127];exact below_a _ _
      have fio:IntsAt w127 bio C (fun _=>0):=by rw [hw127];exact IntsAt.made' _ _ _ hbio
      have geio:W7.heap.size≤bio:=by rw [hbio];exact hB124.size
      have ltio:bio<w127.heap.size:=by rw [hw127,hbio];simp
      replace fiu:=fiu.kept (G:=[]) (Kept.of hv127) (by simp)
      have niuio:biu≠bio:=by omega
      replace ltiu:biu<w127.heap.size:=Nat.lt_of_lt_of_le ltiu hv127.size
      replace fim:=fim.below hv127
      have nimio:bim≠bio:=by omega
      replace ltim:bim<w127.heap.size:=Nat.lt_of_lt_of_le ltim hv127.size
      have hB127:=Below.step hB124 hv127
      clear hw127 hbio hv127
      refine outA hK (held_3 hB127 hS00) (fun hHeld10=>?_)
      clear hK K
      refine readyA [3] (consA (fun K hK=>?_) .nil)
      go_simp
      obtain ⟨w128,hw128⟩:∃ X,X=w127.alloc (.cells (madeCells #[.int .i64 0] C) 3):=⟨_,rfl⟩
      obtain ⟨bil,hbil⟩:∃ b,b=w127.heap.size:=⟨_,rfl⟩
      rw [← hw128,← hbil]
      have hv128:Below w127.heap.size w127 w128:=by rw [hw128];exact below_a _ _
      have fil:IntsAt w128 bil C (fun _=>0):=by rw [hw128];exact IntsAt.made' _ _ _ hbil
      have geil:W7.heap.size≤bil:=by rw [hbil];exact hB127.size
      have ltil:bil<w128.heap.size:=by rw [hw128,hbil];simp
      replace fiu:=fiu.kept (G:=[]) (Kept.of hv128) (by simp)
      have niuil:biu≠bil:=by omega
      replace ltiu:biu<w128.heap.size:=Nat.lt_of_lt_of_le ltiu hv128.size
      replace fim:=fim.below hv128
      have nimil:bim≠bil:=by omega
      replace ltim:bim<w128.heap.size:=Nat.lt_of_lt_of_le ltim hv128.size
      replace fio:=fio.kept (G:=[]) (Kept.of hv128) (by simp)
      have nioil:bio≠bil:=by omega
      replace ltio:bio<w128.heap.size:=Nat.lt_of_lt_of_le ltio hv128.size
      have hB128:=Below.step hB127 hv128
      clear hw128 hbil hv128
      refine outA hK (held_3 hB128 hS00) (fun hHeld3=>?_)
      clear hK K
      refine takeH (i:=11) (v:=.agg #[.int .i64 (C:Int),.int .u64 cr,.slice (some ⟨bg,0,none⟩) Gs.length gcap,.slice (some ⟨bil,0,none⟩) C C,.slice (some ⟨biu,0,none⟩) C C,.map (some bim),.slice none 0 0,.slice none 0 0,.slice (some ⟨bio,0,none⟩) C C,.int .i64 0]) rfl (by kernel_rfl) (fun _ _ _ h=>h) (by rfl) (fun w _=>lit_runZ #[(0,.agg #[.int .i64 (C:Int),.int .u64 cr,.slice (some ⟨bg,0,none⟩) Gs.length gcap]),(1,.slice (some ⟨bil,0,none⟩) C C),(2,.slice (some ⟨biu,0,none⟩) C C),(3,.map (some bim)),(6,.slice (some ⟨bio,0,none⟩) C C)] #[.int .i64 (C:Int),.int .u64 cr,.slice (some ⟨bg,0,none⟩) Gs.length gcap,.slice (some ⟨bil,0,none⟩) C C,.slice (some ⟨biu,0,none⟩) C C,.map (some bim),.slice none 0 0,.slice none 0 0,.slice (some ⟨bio,0,none⟩) C C,.int .i64 0] (by kernel_rfl) (built_sched _ _ _ _ _ _ _ _ _ _ _ _ _ _ _)) (by assumption) ?_
      try simp only [Act.put,List.setIfInBounds_toArray,List.set_cons_zero,List.set_cons_succ]
      refine readyA [12] (consA (fun K hK=>?_) .nil)
      go_simp
      have HLF:=Lib.hid (XRaw.leaf (W7:=W7) (W:=w128) (x:=w128.heap.size) (bx:=bx) (cr:=cr) (gcap:=gcap) hB128 G7.out hwb hxg rfl fil fiu fim fio ⟨geil,geiu,geim,geio,niuil.symm,nimil.symm,nioil.symm,niuim,niuio,nimio⟩)
      have hBz:Below W7.heap.size W7 (w128.alloc (.cells #[.int .i64 (C:Int),.int .u64 cr,.slice (some ⟨bg,0,none⟩) Gs.length gcap,.slice (some ⟨bil,0,none⟩) C C,.slice (some ⟨biu,0,none⟩) C C,.map (some bim),.slice none 0 0,.slice none 0 0,.slice (some ⟨bio,0,none⟩) C C,.int .i64 0] 100)):=Below.allocS hB128 _
      refine outA hK (held_3 hBz hS00) (fun hHeld12=>?_)
      clear hK K
      refine takeA 13 ?_
      refine doneA ?_
      go_wp2_with fail
      go_meet
      case rel=>exact HLF.out
    ·skip
     go_simp
     obtain ⟨w129,hw129⟩:∃ X,X=w118.alloc (.cells (madeCells #[.int .i64 0] C) 3):=⟨_,rfl⟩
     obtain ⟨bio,hbio⟩:∃ b,b=w118.heap.size:=⟨_,rfl⟩
     rw [← hw129,← hbio]
     have hv129:Below w118.heap.size w118 w129:=by rw [hw129];exact below_a _ _
     have fio:IntsAt w129 bio C (fun _=>0):=by rw [hw129];exact IntsAt.made' _ _ _ hbio
     have geio:W7.heap.size≤bio:=by rw [hbio];exact hB118.size
     have ltio:bio<w129.heap.size:=by rw [hw129,hbio];simp
     replace fiu:=fiu.kept (G:=[]) (Kept.of hv129) (by simp)
     have niuio:biu≠bio:=by omega
     replace ltiu:biu<w129.heap.size:=Nat.lt_of_lt_of_le ltiu hv129.size
     have hB129:=Below.step hB118 hv129
     clear hw129 hbio hv129
     refine outA hK (held_3 hB129 hS00) (fun hHeld10=>?_)
     clear hK K
     refine readyA [3,7] (consA (fun K hK=>?_) (consA (fun K hK=>?_) .nil))
     ·skip
      go_simp
      obtain ⟨w130,hw130⟩:∃ X,X=w129.alloc (.cells (madeCells #[.int .i64 0] C) 3):=⟨_,rfl⟩
      obtain ⟨bil,hbil⟩:∃ b,b=w129.heap.size:=⟨_,rfl⟩
      rw [← hw130,← hbil]
      have hv130:Below w129.heap.size w129 w130:=by rw [hw130];exact below_a _ _
      have fil:IntsAt w130 bil C (fun _=>0):=by rw [hw130];exact IntsAt.made' _ _ _ hbil
      have geil:W7.heap.size≤bil:=by rw [hbil];exact hB129.size
      have ltil:bil<w130.heap.size:=by rw [hw130,hbil];simp
      replace fiu:=fiu.kept (G:=[]) (Kept.of hv130) (by simp)
      have niuil:biu≠bil:=by omega
      replace ltiu:biu<w130.heap.size:=Nat.lt_of_lt_of_le ltiu hv130.size
      replace fio:=fio.kept (G:=[]) (Kept.of hv130) (by simp)
      have nioil:bio≠bil:=by omega
      replace ltio:bio<w130.heap.size:=Nat.lt_of_lt_of_le ltio hv130.size
      have hB130:=Below.step hB129 hv130
      clear hw130 hbil hv130
      refine outA hK (held_3 hB130 hS00) (fun hHeld3=>?_)
      clear hK K
      refine readyA [7] (consA (fun K hK=>?_) .nil)
      go_simp
      obtain ⟨w131,hw131⟩:∃ X,X=w130.alloc (.map #[] 0):=⟨_,rfl⟩
      obtain ⟨bim,hbim⟩:∃ b,b=w130.heap.size:=⟨_,rfl⟩
      rw [← hw131,← hbim]
      have hv131:Below w130.heap.size w130 w131:=by rw [hw131];exact below_a _ _
      have fim:MapP w131 bim (fun _=>none) 0:=by rw [hw131];exact mapP_made' _ hbim
      have geim:W7.heap.size≤bim:=by rw [hbim];exact hB130.size
      have ltim:bim<w131.heap.size:=by rw [hw131,hbim];simp
      replace fiu:=fiu.kept (G:=[]) (Kept.of hv131) (by simp)
      have niuim:biu≠bim:=by omega
      replace ltiu:biu<w131.heap.size:=Nat.lt_of_lt_of_le ltiu hv131.size
      replace fio:=fio.kept (G:=[]) (Kept.of hv131) (by simp)
      have nioim:bio≠bim:=by omega
      replace ltio:bio<w131.heap.size:=Nat.lt_of_lt_of_le ltio hv131.size
      replace fil:=fil.kept (G:=[]) (Kept.of hv131) (by simp)
      have nilim:bil≠bim:=by omega
      replace ltil:bil<w131.heap.size:=Nat.lt_of_lt_of_le ltil hv131.size
      have hB131:=Below.step hB130 hv131
      clear hw131 hbim hv131
      refine outA hK (held_3 hB131 hS00) (fun hHeld7=>?_)
      clear hK K
      refine takeH (i:=11) (v:=.agg #[.int .i64 (C:Int),.int .u64 cr,.slice (some ⟨bg,0,none⟩) Gs.length gcap,.slice (some ⟨bil,0,none⟩) C C,.slice (some ⟨biu,0,none⟩) C C,.map (some bim),.slice none 0 0,.slice none 0 0,.slice (some ⟨bio,0,none⟩) C C,.int .i64 0]) rfl (by kernel_rfl) (fun _ _ _ h=>h) (by rfl) (fun w _=>lit_runZ #[(0,.agg #[.int .i64 (C:Int),.int .u64 cr,.slice (some ⟨bg,0,none⟩) Gs.length gcap]),(1,.slice (some ⟨bil,0,none⟩) C C),(2,.slice (some ⟨biu,0,none⟩) C C),(3,.map (some bim)),(6,.slice (some ⟨bio,0,none⟩) C C)] #[.int .i64 (C:Int),.int .u64 cr,.slice (some ⟨bg,0,none⟩) Gs.length gcap,.slice (some ⟨bil,0,none⟩) C C,.slice (some ⟨biu,0,none⟩) C C,.map (some bim),.slice none 0 0,.slice none 0 0,.slice (some ⟨bio,0,none⟩) C C,.int .i64 0] (by kernel_rfl) (built_sched _ _ _ _ _ _ _ _ _ _ _ _ _ _ _)) (by assumption) ?_
      try simp only [Act.put,List.setIfInBounds_toArray,List.set_cons_zero,List.set_cons_succ]
      refine readyA [12] (consA (fun K hK=>?_) .nil)
      go_simp
      have HLF:=Lib.hid (XRaw.leaf (W7:=W7) (W:=w131) (x:=w131.heap.size) (bx:=bx) (cr:=cr) (gcap:=gcap) hB131 G7.out hwb hxg rfl fil fiu fim fio ⟨geil,geiu,geim,geio,niuil.symm,nilim,nioil.symm,niuim,niuio,nioim.symm⟩)
      have hBz:Below W7.heap.size W7 (w131.alloc (.cells #[.int .i64 (C:Int),.int .u64 cr,.slice (some ⟨bg,0,none⟩) Gs.length gcap,.slice (some ⟨bil,0,none⟩) C C,.slice (some ⟨biu,0,none⟩) C C,.map (some bim),.slice none 0 0,.slice none 0 0,.slice (some ⟨bio,0,none⟩) C C,.int .i64 0] 100)):=Below.allocS hB131 _
      refine outA hK (held_3 hBz hS00) (fun hHeld12=>?_)
      clear hK K
      refine takeA 13 ?_
      refine doneA ?_
      go_wp2_with fail
      go_meet
      case rel=>exact HLF.out
     ·skip
      go_simp
      obtain ⟨w132,hw132⟩:∃ X,X=w129.alloc (.map #[] 0):=⟨_,rfl⟩
      obtain ⟨bim,hbim⟩:∃ b,b=w129.heap.size:=⟨_,rfl⟩
      rw [← hw132,← hbim]
      have hv132:Below w129.heap.size w129 w132:=by rw [hw132];exact below_a _ _
      have fim:MapP w132 bim (fun _=>none) 0:=by rw [hw132];exact mapP_made' _ hbim
      have geim:W7.heap.size≤bim:=by rw [hbim];exact hB129.size
      have ltim:bim<w132.heap.size:=by rw [hw132,hbim];simp
      replace fiu:=fiu.kept (G:=[]) (Kept.of hv132) (by simp)
      have niuim:biu≠bim:=by omega
      replace ltiu:biu<w132.heap.size:=Nat.lt_of_lt_of_le ltiu hv132.size
      replace fio:=fio.kept (G:=[]) (Kept.of hv132) (by simp)
      have nioim:bio≠bim:=by omega
      replace ltio:bio<w132.heap.size:=Nat.lt_of_lt_of_le ltio hv132.size
      have hB132:=Below.step hB129 hv132
      clear hw132 hbim hv132
      refine outA hK (held_3 hB132 hS00) (fun hHeld7=>?_)
      clear hK K
      refine readyA [3] (consA (fun K hK=>?_) .nil)
      go_simp
      obtain ⟨w133,hw133⟩:∃ X,X=w132.alloc (.cells (madeCells #[.int .i64 0] C) 3):=⟨_,rfl⟩
      obtain ⟨bil,hbil⟩:∃ b,b=w132.heap.size:=⟨_,rfl⟩
      rw [← hw133,← hbil]
      have hv133:Below w132.heap.size w132 w133:=by rw [hw133];exact below_a _ _
      have fil:IntsAt w133 bil C (fun _=>0):=by rw [hw133];exact IntsAt.made' _ _ _ hbil
      have geil:W7.heap.size≤bil:=by rw [hbil];exact hB132.size
      have ltil:bil<w133.heap.size:=by rw [hw133,hbil];simp
      replace fiu:=fiu.kept (G:=[]) (Kept.of hv133) (by simp)
      have niuil:biu≠bil:=by omega
      replace ltiu:biu<w133.heap.size:=Nat.lt_of_lt_of_le ltiu hv133.size
      replace fio:=fio.kept (G:=[]) (Kept.of hv133) (by simp)
      have nioil:bio≠bil:=by omega
      replace ltio:bio<w133.heap.size:=Nat.lt_of_lt_of_le ltio hv133.size
      replace fim:=fim.below hv133
      have nimil:bim≠bil:=by omega
      replace ltim:bim<w133.heap.size:=Nat.lt_of_lt_of_le ltim hv133.size
      have hB133:=Below.step hB132 hv133
      clear hw133 hbil hv133
      refine outA hK (held_3 hB133 hS00) (fun hHeld3=>?_)
      clear hK K
      refine takeH (i:=11) (v:=.agg #[.int .i64 (C:Int),.int .u64 cr,.slice (some ⟨bg,0,none⟩) Gs.length gcap,.slice (some ⟨bil,0,none⟩) C C,.slice (some ⟨biu,0,none⟩) C C,.map (some bim),.slice none 0 0,.slice none 0 0,.slice (some ⟨bio,0,none⟩) C C,.int .i64 0]) rfl (by kernel_rfl) (fun _ _ _ h=>h) (by rfl) (fun w _=>lit_runZ #[(0,.agg #[.int .i64 (C:Int),.int .u64 cr,.slice (some ⟨bg,0,none⟩) Gs.length gcap]),(1,.slice (some ⟨bil,0,none⟩) C C),(2,.slice (some ⟨biu,0,none⟩) C C),(3,.map (some bim)),(6,.slice (some ⟨bio,0,none⟩) C C)] #[.int .i64 (C:Int),.int .u64 cr,.slice (some ⟨bg,0,none⟩) Gs.length gcap,.slice (some ⟨bil,0,none⟩) C C,.slice (some ⟨biu,0,none⟩) C C,.map (some bim),.slice none 0 0,.slice none 0 0,.slice (some ⟨bio,0,none⟩) C C,.int .i64 0] (by kernel_rfl) (built_sched _ _ _ _ _ _ _ _ _ _ _ _ _ _ _)) (by assumption) ?_
      try simp only [Act.put,List.setIfInBounds_toArray,List.set_cons_zero,List.set_cons_succ]
      refine readyA [12] (consA (fun K hK=>?_) .nil)
      go_simp
      have HLF:=Lib.hid (XRaw.leaf (W7:=W7) (W:=w133) (x:=w133.heap.size) (bx:=bx) (cr:=cr) (gcap:=gcap) hB133 G7.out hwb hxg rfl fil fiu fim fio ⟨geil,geiu,geim,geio,niuil.symm,nimil.symm,nioil.symm,niuim,niuio,nioim.symm⟩)
      have hBz:Below W7.heap.size W7 (w133.alloc (.cells #[.int .i64 (C:Int),.int .u64 cr,.slice (some ⟨bg,0,none⟩) Gs.length gcap,.slice (some ⟨bil,0,none⟩) C C,.slice (some ⟨biu,0,none⟩) C C,.map (some bim),.slice none 0 0,.slice none 0 0,.slice (some ⟨bio,0,none⟩) C C,.int .i64 0] 100)):=Below.allocS hB133 _
      refine outA hK (held_3 hBz hS00) (fun hHeld12=>?_)
      clear hK K
      refine takeA 13 ?_
      refine doneA ?_
      go_wp2_with fail
      go_meet
      case rel=>exact HLF.out
   ·skip
    go_simp
    obtain ⟨w134,hw134⟩:∃ X,X=wc101.alloc (.map #[] 0):=⟨_,rfl⟩
    obtain ⟨bim,hbim⟩:∃ b,b=wc101.heap.size:=⟨_,rfl⟩
    rw [← hw134,← hbim]
    have hv134:Below wc101.heap.size wc101 w134:=by rw [hw134];exact below_a _ _
    have fim:MapP w134 bim (fun _=>none) 0:=by rw [hw134];exact mapP_made' _ hbim
    have geim:W7.heap.size≤bim:=by rw [hbim];exact hWc101.size
    have ltim:bim<w134.heap.size:=by rw [hw134,hbim];simp
    have hB134:=Below.step hWc101 hv134
    clear hw134 hbim hv134
    refine outA hK (held_3 hB134 hS00) (fun hHeld7=>?_)
    clear hK K
    refine readyA [3,6,10] (consA (fun K hK=>?_) (consA (fun K hK=>?_) (consA (fun K hK=>?_) .nil)))
    ·skip
     go_simp
     obtain ⟨w135,hw135⟩:∃ X,X=w134.alloc (.cells (madeCells #[.int .i64 0] C) 3):=⟨_,rfl⟩
     obtain ⟨bil,hbil⟩:∃ b,b=w134.heap.size:=⟨_,rfl⟩
     rw [← hw135,← hbil]
     have hv135:Below w134.heap.size w134 w135:=by rw [hw135];exact below_a _ _
     have fil:IntsAt w135 bil C (fun _=>0):=by rw [hw135];exact IntsAt.made' _ _ _ hbil
     have geil:W7.heap.size≤bil:=by rw [hbil];exact hB134.size
     have ltil:bil<w135.heap.size:=by rw [hw135,hbil];simp
     replace fim:=fim.below hv135
     have nimil:bim≠bil:=by omega
     replace ltim:bim<w135.heap.size:=Nat.lt_of_lt_of_le ltim hv135.size
     have hB135:=Below.step hB134 hv135
     clear hw135 hbil hv135
     refine outA hK (held_3 hB135 hS00) (fun hHeld3=>?_)
     clear hK K
     refine readyA [6,10] (consA (fun K hK=>?_) (consA (fun K hK=>?_) .nil))
     ·skip
      go_simp
      obtain ⟨w136,hw136⟩:∃ X,X=w135.alloc (.cells (madeCells #[.int .i64 0] C) 3):=⟨_,rfl⟩
      obtain ⟨biu,hbiu⟩:∃ b,b=w135.heap.size:=⟨_,rfl⟩
      rw [← hw136,← hbiu]
      have hv136:Below w135.heap.size w135 w136:=by rw [hw136];exact below_a _ _
      have fiu:IntsAt w136 biu C (fun _=>0):=by rw [hw136];exact IntsAt.made' _ _ _ hbiu
      have geiu:W7.heap.size≤biu:=by rw [hbiu];exact hB135.size
      have ltiu:biu<w136.heap.size:=by rw [hw136,hbiu];simp
      replace fim:=fim.below hv136
      have nimiu:bim≠biu:=by omega
      replace ltim:bim<w136.heap.size:=Nat.lt_of_lt_of_le ltim hv136.size
      replace fil:=fil.kept (G:=[]) (Kept.of hv136) (by simp)
      have niliu:bil≠biu:=by omega
      replace ltil:bil<w136.heap.size:=Nat.lt_of_lt_of_le ltil hv136.size
      have hB136:=Below.step hB135 hv136
      clear hw136 hbiu hv136
      refine outA hK (held_3 hB136 hS00) (fun hHeld6=>?_)
      clear hK K
      refine readyA [10] (consA (fun K hK=>?_) .nil)
      go_simp
      obtain ⟨w137,hw137⟩:∃ X,X=w136.alloc (.cells (madeCells #[.int .i64 0] C) 3):=⟨_,rfl⟩
      obtain ⟨bio,hbio⟩:∃ b,b=w136.heap.size:=⟨_,rfl⟩
      rw [← hw137,← hbio]
      have hv137:Below w136.heap.size w136 w137:=by rw [hw137];exact below_a _ _
      have fio:IntsAt w137 bio C (fun _=>0):=by rw [hw137];exact IntsAt.made' _ _ _ hbio
      have geio:W7.heap.size≤bio:=by rw [hbio];exact hB136.size
      have ltio:bio<w137.heap.size:=by rw [hw137,hbio];simp
      replace fim:=fim.below hv137
      have nimio:bim≠bio:=by omega
      replace ltim:bim<w137.heap.size:=Nat.lt_of_lt_of_le ltim hv137.size
      replace fil:=fil.kept (G:=[]) (Kept.of hv137) (by simp)
      have nilio:bil≠bio:=by omega
      replace ltil:bil<w137.heap.size:=Nat.lt_of_lt_of_le ltil hv137.size
      replace fiu:=fiu.kept (G:=[]) (Kept.of hv137) (by simp)
      have niuio:biu≠bio:=by omega
      replace ltiu:biu<w137.heap.size:=Nat.lt_of_lt_of_le ltiu hv137.size
      have hB137:=Below.step hB136 hv137
      clear hw137 hbio hv137
      refine outA hK (held_3 hB137 hS00) (fun hHeld10=>?_)
      clear hK K
      refine takeH (i:=11) (v:=.agg #[.int .i64 (C:Int),.int .u64 cr,.slice (some ⟨bg,0,none⟩) Gs.length gcap,.slice (some ⟨bil,0,none⟩) C C,.slice (some ⟨biu,0,none⟩) C C,.map (some bim),.slice none 0 0,.slice none 0 0,.slice (some ⟨bio,0,none⟩) C C,.int .i64 0]) rfl (by kernel_rfl) (fun _ _ _ h=>h) (by rfl) (fun w _=>lit_runZ #[(0,.agg #[.int .i64 (C:Int),.int .u64 cr,.slice (some ⟨bg,0,none⟩) Gs.length gcap]),(1,.slice (some ⟨bil,0,none⟩) C C),(2,.slice (some ⟨biu,0,none⟩) C C),(3,.map (some bim)),(6,.slice (some ⟨bio,0,none⟩) C C)] #[.int .i64 (C:Int),.int .u64 cr,.slice (some ⟨bg,0,none⟩) Gs.length gcap,.slice (some ⟨bil,0,none⟩) C C,.slice (some ⟨biu,0,none⟩) C C,.map (some bim),.slice none 0 0,.slice none 0 0,.slice (some ⟨bio,0,none⟩) C C,.int .i64 0] (by kernel_rfl) (built_sched _ _ _ _ _ _ _ _ _ _ _ _ _ _ _)) (by assumption) ?_
      try simp only [Act.put,List.setIfInBounds_toArray,List.set_cons_zero,List.set_cons_succ]
      refine readyA [12] (consA (fun K hK=>?_) .nil)
      go_simp
      have HLF:=Lib.hid (XRaw.leaf (W7:=W7) (W:=w137) (x:=w137.heap.size) (bx:=bx) (cr:=cr) (gcap:=gcap) hB137 G7.out hwb hxg rfl fil fiu fim fio ⟨geil,geiu,geim,geio,niliu,nimil.symm,nilio,nimiu.symm,niuio,nimio⟩)
      have hBz:Below W7.heap.size W7 (w137.alloc (.cells #[.int .i64 (C:Int),.int .u64 cr,.slice (some ⟨bg,0,none⟩) Gs.length gcap,.slice (some ⟨bil,0,none⟩) C C,.slice (some ⟨biu,0,none⟩) C C,.map (some bim),.slice none 0 0,.slice none 0 0,.slice (some ⟨bio,0,none⟩) C C,.int .i64 0] 100)):=Below.allocS hB137 _
      refine outA hK (held_3 hBz hS00) (fun hHeld12=>?_)
      clear hK K
      refine takeA 13 ?_
      refine doneA ?_
      go_wp2_with fail
      go_meet
      case rel=>exact HLF.out
     ·skip
      go_simp
      obtain ⟨w138,hw138⟩:∃ X,X=w135.alloc (.cells (madeCells #[.int .i64 0] C) 3):=⟨_,rfl⟩
      obtain ⟨bio,hbio⟩:∃ b,b=w135.heap.size:=⟨_,rfl⟩
      rw [← hw138,← hbio]
      have hv138:Below w135.heap.size w135 w138:=by rw [hw138];exact below_a _ _
      have fio:IntsAt w138 bio C (fun _=>0):=by rw [hw138];exact IntsAt.made' _ _ _ hbio
      have geio:W7.heap.size≤bio:=by rw [hbio];exact hB135.size
      have ltio:bio<w138.heap.size:=by rw [hw138,hbio];simp
      replace fim:=fim.below hv138
      have nimio:bim≠bio:=by omega
      replace ltim:bim<w138.heap.size:=Nat.lt_of_lt_of_le ltim hv138.size
      replace fil:=fil.kept (G:=[]) (Kept.of hv138) (by simp)
      have nilio:bil≠bio:=by omega
      replace ltil:bil<w138.heap.size:=Nat.lt_of_lt_of_le ltil hv138.size
      have hB138:=Below.step hB135 hv138
      clear hw138 hbio hv138
      refine outA hK (held_3 hB138 hS00) (fun hHeld10=>?_)
      clear hK K
      refine readyA [6] (consA (fun K hK=>?_) .nil)
      go_simp
      obtain ⟨w139,hw139⟩:∃ X,X=w138.alloc (.cells (madeCells #[.int .i64 0] C) 3):=⟨_,rfl⟩
      obtain ⟨biu,hbiu⟩:∃ b,b=w138.heap.size:=⟨_,rfl⟩
      rw [← hw139,← hbiu]
      have hv139:Below w138.heap.size w138 w139:=by rw [hw139];exact below_a _ _
      have fiu:IntsAt w139 biu C (fun _=>0):=by rw [hw139];exact IntsAt.made' _ _ _ hbiu
      have geiu:W7.heap.size≤biu:=by rw [hbiu];exact hB138.size
      have ltiu:biu<w139.heap.size:=by rw [hw139,hbiu];simp
      replace fim:=fim.below hv139
      have nimiu:bim≠biu:=by omega
      replace ltim:bim<w139.heap.size:=Nat.lt_of_lt_of_le ltim hv139.size
      replace fil:=fil.kept (G:=[]) (Kept.of hv139) (by simp)
      have niliu:bil≠biu:=by omega
      replace ltil:bil<w139.heap.size:=Nat.lt_of_lt_of_le ltil hv139.size
      replace fio:=fio.kept (G:=[]) (Kept.of hv139) (by simp)
      have nioiu:bio≠biu:=by omega
      replace ltio:bio<w139.heap.size:=Nat.lt_of_lt_of_le ltio hv139.size
      have hB139:=Below.step hB138 hv139
      clear hw139 hbiu hv139
      refine outA hK (held_3 hB139 hS00) (fun hHeld6=>?_)
      clear hK K
      refine takeH (i:=11) (v:=.agg #[.int .i64 (C:Int),.int .u64 cr,.slice (some ⟨bg,0,none⟩) Gs.length gcap,.slice (some ⟨bil,0,none⟩) C C,.slice (some ⟨biu,0,none⟩) C C,.map (some bim),.slice none 0 0,.slice none 0 0,.slice (some ⟨bio,0,none⟩) C C,.int .i64 0]) rfl (by kernel_rfl) (fun _ _ _ h=>h) (by rfl) (fun w _=>lit_runZ #[(0,.agg #[.int .i64 (C:Int),.int .u64 cr,.slice (some ⟨bg,0,none⟩) Gs.length gcap]),(1,.slice (some ⟨bil,0,none⟩) C C),(2,.slice (some ⟨biu,0,none⟩) C C),(3,.map (some bim)),(6,.slice (some ⟨bio,0,none⟩) C C)] #[.int .i64 (C:Int),.int .u64 cr,.slice (some ⟨bg,0,none⟩) Gs.length gcap,.slice (some ⟨bil,0,none⟩) C C,.slice (some ⟨biu,0,none⟩) C C,.map (some bim),.slice none 0 0,.slice none 0 0,.slice (some ⟨bio,0,none⟩) C C,.int .i64 0] (by kernel_rfl) (built_sched _ _ _ _ _ _ _ _ _ _ _ _ _ _ _)) (by assumption) ?_
      try simp only [Act.put,List.setIfInBounds_toArray,List.set_cons_zero,List.set_cons_succ]
      refine readyA [12] (consA (fun K hK=>?_) .nil)
      go_simp
      have HLF:=Lib.hid (XRaw.leaf (W7:=W7) (W:=w139) (x:=w139.heap.size) (bx:=bx) (cr:=cr) (gcap:=gcap) hB139 G7.out hwb hxg rfl fil fiu fim fio ⟨geil,geiu,geim,geio,niliu,nimil.symm,nilio,nimiu.symm,nioiu.symm,nimio⟩)
      have hBz:Below W7.heap.size W7 (w139.alloc (.cells #[.int .i64 (C:Int),.int .u64 cr,.slice (some ⟨bg,0,none⟩) Gs.length gcap,.slice (some ⟨bil,0,none⟩) C C,.slice (some ⟨biu,0,none⟩) C C,.map (some bim),.slice none 0 0,.slice none 0 0,.slice (some ⟨bio,0,none⟩) C C,.int .i64 0] 100)):=Below.allocS hB139 _
      refine outA hK (held_3 hBz hS00) (fun hHeld12=>?_)
      clear hK K
      refine takeA 13 ?_
      refine doneA ?_
      go_wp2_with fail
      go_meet
      case rel=>exact HLF.out
    ·skip
     go_simp
     obtain ⟨w140,hw140⟩:∃ X,X=w134.alloc (.cells (madeCells #[.int .i64 0] C) 3):=⟨_,rfl⟩
     obtain ⟨biu,hbiu⟩:∃ b,b=w134.heap.size:=⟨_,rfl⟩
     rw [← hw140,← hbiu]
     have hv140:Below w134.heap.size w134 w140:=by rw [hw140];exact below_a _ _
     have fiu:IntsAt w140 biu C (fun _=>0):=by rw [hw140];exact IntsAt.made' _ _ _ hbiu
     have geiu:W7.heap.size≤biu:=by rw [hbiu];exact hB134.size
     have ltiu:biu<w140.heap.size:=by rw [hw140,hbiu];simp
     replace fim:=fim.below hv140
     have nimiu:bim≠biu:=by omega
     replace ltim:bim<w140.heap.size:=Nat.lt_of_lt_of_le ltim hv140.size
     have hB140:=Below.step hB134 hv140
     clear hw140 hbiu hv140
     refine outA hK (held_3 hB140 hS00) (fun hHeld6=>?_)
     clear hK K
     refine readyA [3,10] (consA (fun K hK=>?_) (consA (fun K hK=>?_) .nil))
     ·skip
      go_simp
      obtain ⟨w141,hw141⟩:∃ X,X=w140.alloc (.cells (madeCells #[.int .i64 0] C) 3):=⟨_,rfl⟩
      obtain ⟨bil,hbil⟩:∃ b,b=w140.heap.size:=⟨_,rfl⟩
      rw [← hw141,← hbil]
      have hv141:Below w140.heap.size w140 w141:=by rw [hw141];exact below_a _ _
      have fil:IntsAt w141 bil C (fun _=>0):=by rw [hw141];exact IntsAt.made' _ _ _ hbil
      have geil:W7.heap.size≤bil:=by rw [hbil];exact hB140.size
      have ltil:bil<w141.heap.size:=by rw [hw141,hbil];simp
      replace fim:=fim.below hv141
      have nimil:bim≠bil:=by omega
      replace ltim:bim<w141.heap.size:=Nat.lt_of_lt_of_le ltim hv141.size
      replace fiu:=fiu.kept (G:=[]) (Kept.of hv141) (by simp)
      have niuil:biu≠bil:=by omega
      replace ltiu:biu<w141.heap.size:=Nat.lt_of_lt_of_le ltiu hv141.size
      have hB141:=Below.step hB140 hv141
      clear hw141 hbil hv141
      refine outA hK (held_3 hB141 hS00) (fun hHeld3=>?_)
      clear hK K
      refine readyA [10] (consA (fun K hK=>?_) .nil)
      go_simp
      obtain ⟨w142,hw142⟩:∃ X,X=w141.alloc (.cells (madeCells #[.int .i64 0] C) 3):=⟨_,rfl⟩
      obtain ⟨bio,hbio⟩:∃ b,b=w141.heap.size:=⟨_,rfl⟩
      rw [← hw142,← hbio]
      have hv142:Below w141.heap.size w141 w142:=by rw [hw142];exact below_a _ _
      have fio:IntsAt w142 bio C (fun _=>0):=by rw [hw142];exact IntsAt.made' _ _ _ hbio
      have geio:W7.heap.size≤bio:=by rw [hbio];exact hB141.size
      have ltio:bio<w142.heap.size:=by rw [hw142,hbio];simp
      replace fim:=fim.below hv142
      have nimio:bim≠bio:=by omega
      replace ltim:bim<w142.heap.size:=Nat.lt_of_lt_of_le ltim hv142.size
      replace fiu:=fiu.kept (G:=[]) (Kept.of hv142) (by simp)
      have niuio:biu≠bio:=by omega
      replace ltiu:biu<w142.heap.size:=Nat.lt_of_lt_of_le ltiu hv142.size
      replace fil:=fil.kept (G:=[]) (Kept.of hv142) (by simp)
      have nilio:bil≠bio:=by omega
      replace ltil:bil<w142.heap.size:=Nat.lt_of_lt_of_le ltil hv142.size
      have hB142:=Below.step hB141 hv142
      clear hw142 hbio hv142
      refine outA hK (held_3 hB142 hS00) (fun hHeld10=>?_)
      clear hK K
      refine takeH (i:=11) (v:=.agg #[.int .i64 (C:Int),.int .u64 cr,.slice (some ⟨bg,0,none⟩) Gs.length gcap,.slice (some ⟨bil,0,none⟩) C C,.slice (some ⟨biu,0,none⟩) C C,.map (some bim),.slice none 0 0,.slice none 0 0,.slice (some ⟨bio,0,none⟩) C C,.int .i64 0]) rfl (by kernel_rfl) (fun _ _ _ h=>h) (by rfl) (fun w _=>lit_runZ #[(0,.agg #[.int .i64 (C:Int),.int .u64 cr,.slice (some ⟨bg,0,none⟩) Gs.length gcap]),(1,.slice (some ⟨bil,0,none⟩) C C),(2,.slice (some ⟨biu,0,none⟩) C C),(3,.map (some bim)),(6,.slice (some ⟨bio,0,none⟩) C C)] #[.int .i64 (C:Int),.int .u64 cr,.slice (some ⟨bg,0,none⟩) Gs.length gcap,.slice (some ⟨bil,0,none⟩) C C,.slice (some ⟨biu,0,none⟩) C C,.map (some bim),.slice none 0 0,.slice none 0 0,.slice (some ⟨bio,0,none⟩) C C,.int .i64 0] (by kernel_rfl) (built_sched _ _ _ _ _ _ _ _ _ _ _ _ _ _ _)) (by assumption) ?_
      try simp only [Act.put,List.setIfInBounds_toArray,List.set_cons_zero,List.set_cons_succ]
      refine readyA [12] (consA (fun K hK=>?_) .nil)
      go_simp
      have HLF:=Lib.hid (XRaw.leaf (W7:=W7) (W:=w142) (x:=w142.heap.size) (bx:=bx) (cr:=cr) (gcap:=gcap) hB142 G7.out hwb hxg rfl fil fiu fim fio ⟨geil,geiu,geim,geio,niuil.symm,nimil.symm,nilio,nimiu.symm,niuio,nimio⟩)
      have hBz:Below W7.heap.size W7 (w142.alloc (.cells #[.int .i64 (C:Int),.int .u64 cr,.slice (some ⟨bg,0,none⟩) Gs.length gcap,.slice (some ⟨bil,0,none⟩) C C,.slice (some ⟨biu,0,none⟩) C C,.map (some bim),.slice none 0 0,.slice none 0 0,.slice (some ⟨bio,0,none⟩) C C,.int .i64 0] 100)):=Below.allocS hB142 _
      refine outA hK (held_3 hBz hS00) (fun hHeld12=>?_)
      clear hK K
      refine takeA 13 ?_
      refine doneA ?_
      go_wp2_with fail
      go_meet
      case rel=>exact HLF.out
     ·skip
      go_simp
      obtain ⟨w143,hw143⟩:∃ X,X=w140.alloc (.cells (madeCells #[.int .i64 0] C) 3):=⟨_,rfl⟩
      obtain ⟨bio,hbio⟩:∃ b,b=w140.heap.size:=⟨_,rfl⟩
      rw [← hw143,← hbio]
      have hv143:Below w140.heap.size w140 w143:=by rw [hw143];exact below_a _ _
      have fio:IntsAt w143 bio C (fun _=>0):=by rw [hw143];exact IntsAt.made' _ _ _ hbio
      have geio:W7.heap.size≤bio:=by rw [hbio];exact hB140.size
      have ltio:bio<w143.heap.size:=by rw [hw143,hbio];simp
      replace fim:=fim.below hv143
      have nimio:bim≠bio:=by omega
      replace ltim:bim<w143.heap.size:=Nat.lt_of_lt_of_le ltim hv143.size
      replace fiu:=fiu.kept (G:=[]) (Kept.of hv143) (by simp)
      have niuio:biu≠bio:=by omega
      replace ltiu:biu<w143.heap.size:=Nat.lt_of_lt_of_le ltiu hv143.size
      have hB143:=Below.step hB140 hv143
      clear hw143 hbio hv143
      refine outA hK (held_3 hB143 hS00) (fun hHeld10=>?_)
      clear hK K
      refine readyA [3] (consA (fun K hK=>?_) .nil)
      go_simp
      obtain ⟨w144,hw144⟩:∃ X,X=w143.alloc (.cells (madeCells #[.int .i64 0] C) 3):=⟨_,rfl⟩
      obtain ⟨bil,hbil⟩:∃ b,b=w143.heap.size:=⟨_,rfl⟩
      rw [← hw144,← hbil]
      have hv144:Below w143.heap.size w143 w144:=by rw [hw144];exact below_a _ _
      have fil:IntsAt w144 bil C (fun _=>0):=by rw [hw144];exact IntsAt.made' _ _ _ hbil
      have geil:W7.heap.size≤bil:=by rw [hbil];exact hB143.size
      have ltil:bil<w144.heap.size:=by rw [hw144,hbil];simp
      replace fim:=fim.below hv144
      have nimil:bim≠bil:=by omega
      replace ltim:bim<w144.heap.size:=Nat.lt_of_lt_of_le ltim hv144.size
      replace fiu:=fiu.kept (G:=[]) (Kept.of hv144) (by simp)
      have niuil:biu≠bil:=by omega
      replace ltiu:biu<w144.heap.size:=Nat.lt_of_lt_of_le ltiu hv144.size
      replace fio:=fio.kept (G:=[]) (Kept.of hv144) (by simp)
      have nioil:bio≠bil:=by omega
      replace ltio:bio<w144.heap.size:=Nat.lt_of_lt_of_le ltio hv144.size
      have hB144:=Below.step hB143 hv144
      clear hw144 hbil hv144
      refine outA hK (held_3 hB144 hS00) (fun hHeld3=>?_)
      clear hK K
      refine takeH (i:=11) (v:=.agg #[.int .i64 (C:Int),.int .u64 cr,.slice (some ⟨bg,0,none⟩) Gs.length gcap,.slice (some ⟨bil,0,none⟩) C C,.slice (some ⟨biu,0,none⟩) C C,.map (some bim),.slice none 0 0,.slice none 0 0,.slice (some ⟨bio,0,none⟩) C C,.int .i64 0]) rfl (by kernel_rfl) (fun _ _ _ h=>h) (by rfl) (fun w _=>lit_runZ #[(0,.agg #[.int .i64 (C:Int),.int .u64 cr,.slice (some ⟨bg,0,none⟩) Gs.length gcap]),(1,.slice (some ⟨bil,0,none⟩) C C),(2,.slice (some ⟨biu,0,none⟩) C C),(3,.map (some bim)),(6,.slice (some ⟨bio,0,none⟩) C C)] #[.int .i64 (C:Int),.int .u64 cr,.slice (some ⟨bg,0,none⟩) Gs.length gcap,.slice (some ⟨bil,0,none⟩) C C,.slice (some ⟨biu,0,none⟩) C C,.map (some bim),.slice none 0 0,.slice none 0 0,.slice (some ⟨bio,0,none⟩) C C,.int .i64 0] (by kernel_rfl) (built_sched _ _ _ _ _ _ _ _ _ _ _ _ _ _ _)) (by assumption) ?_
      try simp only [Act.put,List.setIfInBounds_toArray,List.set_cons_zero,List.set_cons_succ]
      refine readyA [12] (consA (fun K hK=>?_) .nil)
      go_simp
      have HLF:=Lib.hid (XRaw.leaf (W7:=W7) (W:=w144) (x:=w144.heap.size) (bx:=bx) (cr:=cr) (gcap:=gcap) hB144 G7.out hwb hxg rfl fil fiu fim fio ⟨geil,geiu,geim,geio,niuil.symm,nimil.symm,nioil.symm,nimiu.symm,niuio,nimio⟩)
      have hBz:Below W7.heap.size W7 (w144.alloc (.cells #[.int .i64 (C:Int),.int .u64 cr,.slice (some ⟨bg,0,none⟩) Gs.length gcap,.slice (some ⟨bil,0,none⟩) C C,.slice (some ⟨biu,0,none⟩) C C,.map (some bim),.slice none 0 0,.slice none 0 0,.slice (some ⟨bio,0,none⟩) C C,.int .i64 0] 100)):=Below.allocS hB144 _
      refine outA hK (held_3 hBz hS00) (fun hHeld12=>?_)
      clear hK K
      refine takeA 13 ?_
      refine doneA ?_
      go_wp2_with fail
      go_meet
      case rel=>exact HLF.out
    ·skip
     go_simp
     obtain ⟨w145,hw145⟩:∃ X,X=w134.alloc (.cells (madeCells #[.int .i64 0] C) 3):=⟨_,rfl⟩
     obtain ⟨bio,hbio⟩:∃ b,b=w134.heap.size:=⟨_,rfl⟩
     rw [← hw145,← hbio]
     have hv145:Below w134.heap.size w134 w145:=by rw [hw145];exact below_a _ _
     have fio:IntsAt w145 bio C (fun _=>0):=by rw [hw145];exact IntsAt.made' _ _ _ hbio
     have geio:W7.heap.size≤bio:=by rw [hbio];exact hB134.size
     have ltio:bio<w145.heap.size:=by rw [hw145,hbio];simp
     replace fim:=fim.below hv145
     have nimio:bim≠bio:=by omega
     replace ltim:bim<w145.heap.size:=Nat.lt_of_lt_of_le ltim hv145.size
     have hB145:=Below.step hB134 hv145
     clear hw145 hbio hv145
     refine outA hK (held_3 hB145 hS00) (fun hHeld10=>?_)
     clear hK K
     refine readyA [3,6] (consA (fun K hK=>?_) (consA (fun K hK=>?_) .nil))
     ·skip
      go_simp
      obtain ⟨w146,hw146⟩:∃ X,X=w145.alloc (.cells (madeCells #[.int .i64 0] C) 3):=⟨_,rfl⟩
      obtain ⟨bil,hbil⟩:∃ b,b=w145.heap.size:=⟨_,rfl⟩
      rw [← hw146,← hbil]
      have hv146:Below w145.heap.size w145 w146:=by rw [hw146];exact below_a _ _
      have fil:IntsAt w146 bil C (fun _=>0):=by rw [hw146];exact IntsAt.made' _ _ _ hbil
      have geil:W7.heap.size≤bil:=by rw [hbil];exact hB145.size
      have ltil:bil<w146.heap.size:=by rw [hw146,hbil];simp
      replace fim:=fim.below hv146
      have nimil:bim≠bil:=by omega
      replace ltim:bim<w146.heap.size:=Nat.lt_of_lt_of_le ltim hv146.size
      replace fio:=fio.kept (G:=[]) (Kept.of hv146) (by simp)
      have nioil:bio≠bil:=by omega
      replace ltio:bio<w146.heap.size:=Nat.lt_of_lt_of_le ltio hv146.size
      have hB146:=Below.step hB145 hv146
      clear hw146 hbil hv146
      refine outA hK (held_3 hB146 hS00) (fun hHeld3=>?_)
      clear hK K
      refine readyA [6] (consA (fun K hK=>?_) .nil)
      go_simp
      obtain ⟨w147,hw147⟩:∃ X,X=w146.alloc (.cells (madeCells #[.int .i64 0] C) 3):=⟨_,rfl⟩
      obtain ⟨biu,hbiu⟩:∃ b,b=w146.heap.size:=⟨_,rfl⟩
      rw [← hw147,← hbiu]
      have hv147:Below w146.heap.size w146 w147:=by rw [hw147];exact below_a _ _
      have fiu:IntsAt w147 biu C (fun _=>0):=by rw [hw147];exact IntsAt.made' _ _ _ hbiu
      have geiu:W7.heap.size≤biu:=by rw [hbiu];exact hB146.size
      have ltiu:biu<w147.heap.size:=by rw [hw147,hbiu];simp
      replace fim:=fim.below hv147
      have nimiu:bim≠biu:=by omega
      replace ltim:bim<w147.heap.size:=Nat.lt_of_lt_of_le ltim hv147.size
      replace fio:=fio.kept (G:=[]) (Kept.of hv147) (by simp)
      have nioiu:bio≠biu:=by omega
      replace ltio:bio<w147.heap.size:=Nat.lt_of_lt_of_le ltio hv147.size
      replace fil:=fil.kept (G:=[]) (Kept.of hv147) (by simp)
      have niliu:bil≠biu:=by omega
      replace ltil:bil<w147.heap.size:=Nat.lt_of_lt_of_le ltil hv147.size
      have hB147:=Below.step hB146 hv147
      clear hw147 hbiu hv147
      refine outA hK (held_3 hB147 hS00) (fun hHeld6=>?_)
      clear hK K
      refine takeH (i:=11) (v:=.agg #[.int .i64 (C:Int),.int .u64 cr,.slice (some ⟨bg,0,none⟩) Gs.length gcap,.slice (some ⟨bil,0,none⟩) C C,.slice (some ⟨biu,0,none⟩) C C,.map (some bim),.slice none 0 0,.slice none 0 0,.slice (some ⟨bio,0,none⟩) C C,.int .i64 0]) rfl (by kernel_rfl) (fun _ _ _ h=>h) (by rfl) (fun w _=>lit_runZ #[(0,.agg #[.int .i64 (C:Int),.int .u64 cr,.slice (some ⟨bg,0,none⟩) Gs.length gcap]),(1,.slice (some ⟨bil,0,none⟩) C C),(2,.slice (some ⟨biu,0,none⟩) C C),(3,.map (some bim)),(6,.slice (some ⟨bio,0,none⟩) C C)] #[.int .i64 (C:Int),.int .u64 cr,.slice (some ⟨bg,0,none⟩) Gs.length gcap,.slice (some ⟨bil,0,none⟩) C C,.slice (some ⟨biu,0,none⟩) C C,.map (some bim),.slice none 0 0,.slice none 0 0,.slice (some ⟨bio,0,none⟩) C C,.int .i64 0] (by kernel_rfl) (built_sched _ _ _ _ _ _ _ _ _ _ _ _ _ _ _)) (by assumption) ?_
      try simp only [Act.put,List.setIfInBounds_toArray,List.set_cons_zero,List.set_cons_succ]
      refine readyA [12] (consA (fun K hK=>?_) .nil)
      go_simp
      have HLF:=Lib.hid (XRaw.leaf (W7:=W7) (W:=w147) (x:=w147.heap.size) (bx:=bx) (cr:=cr) (gcap:=gcap) hB147 G7.out hwb hxg rfl fil fiu fim fio ⟨geil,geiu,geim,geio,niliu,nimil.symm,nioil.symm,nimiu.symm,nioiu.symm,nimio⟩)
      have hBz:Below W7.heap.size W7 (w147.alloc (.cells #[.int .i64 (C:Int),.int .u64 cr,.slice (some ⟨bg,0,none⟩) Gs.length gcap,.slice (some ⟨bil,0,none⟩) C C,.slice (some ⟨biu,0,none⟩) C C,.map (some bim),.slice none 0 0,.slice none 0 0,.slice (some ⟨bio,0,none⟩) C C,.int .i64 0] 100)):=Below.allocS hB147 _
      refine outA hK (held_3 hBz hS00) (fun hHeld12=>?_)
      clear hK K
      refine takeA 13 ?_
      refine doneA ?_
      go_wp2_with fail
      go_meet
      case rel=>exact HLF.out
     ·skip
      go_simp
      obtain ⟨w148,hw148⟩:∃ X,X=w145.alloc (.cells (madeCells #[.int .i64 0] C) 3):=⟨_,rfl⟩
      obtain ⟨biu,hbiu⟩:∃ b,b=w145.heap.size:=⟨_,rfl⟩
      rw [← hw148,← hbiu]
      have hv148:Below w145.heap.size w145 w148:=by rw [hw148];exact below_a _ _
      have fiu:IntsAt w148 biu C (fun _=>0):=by rw [hw148];exact IntsAt.made' _ _ _ hbiu
      have geiu:W7.heap.size≤biu:=by rw [hbiu];exact hB145.size
      have ltiu:biu<w148.heap.size:=by rw [hw148,hbiu];simp
      replace fim:=fim.below hv148
      have nimiu:bim≠biu:=by omega
      replace ltim:bim<w148.heap.size:=Nat.lt_of_lt_of_le ltim hv148.size
      replace fio:=fio.kept (G:=[]) (Kept.of hv148) (by simp)
      have nioiu:bio≠biu:=by omega
      replace ltio:bio<w148.heap.size:=Nat.lt_of_lt_of_le ltio hv148.size
      have hB148:=Below.step hB145 hv148
      clear hw148 hbiu hv148
      refine outA hK (held_3 hB148 hS00) (fun hHeld6=>?_)
      clear hK K
      refine readyA [3] (consA (fun K hK=>?_) .nil)
      go_simp
      obtain ⟨w149,hw149⟩:∃ X,X=w148.alloc (.cells (madeCells #[.int .i64 0] C) 3):=⟨_,rfl⟩
      obtain ⟨bil,hbil⟩:∃ b,b=w148.heap.size:=⟨_,rfl⟩
      rw [← hw149,← hbil]
      have hv149:Below w148.heap.size w148 w149:=by rw [hw149];exact below_a _ _
      have fil:IntsAt w149 bil C (fun _=>0):=by rw [hw149];exact IntsAt.made' _ _ _ hbil
      have geil:W7.heap.size≤bil:=by rw [hbil];exact hB148.size
      have ltil:bil<w149.heap.size:=by rw [hw149,hbil];simp
      replace fim:=fim.below hv149
      have nimil:bim≠bil:=by omega
      replace ltim:bim<w149.heap.size:=Nat.lt_of_lt_of_le ltim hv149.size
      replace fio:=fio.kept (G:=[]) (Kept.of hv149) (by simp)
      have nioil:bio≠bil:=by omega
      replace ltio:bio<w149.heap.size:=Nat.lt_of_lt_of_le ltio hv149.size
      replace fiu:=fiu.kept (G:=[]) (Kept.of hv149) (by simp)
      have niuil:biu≠bil:=by omega
      replace ltiu:biu<w149.heap.size:=Nat.lt_of_lt_of_le ltiu hv149.size
      have hB149:=Below.step hB148 hv149
      clear hw149 hbil hv149
      refine outA hK (held_3 hB149 hS00) (fun hHeld3=>?_)
      clear hK K
      refine takeH (i:=11) (v:=.agg #[.int .i64 (C:Int),.int .u64 cr,.slice (some ⟨bg,0,none⟩) Gs.length gcap,.slice (some ⟨bil,0,none⟩) C C,.slice (some ⟨biu,0,none⟩) C C,.map (some bim),.slice none 0 0,.slice none 0 0,.slice (some ⟨bio,0,none⟩) C C,.int .i64 0]) rfl (by kernel_rfl) (fun _ _ _ h=>h) (by rfl) (fun w _=>lit_runZ #[(0,.agg #[.int .i64 (C:Int),.int .u64 cr,.slice (some ⟨bg,0,none⟩) Gs.length gcap]),(1,.slice (some ⟨bil,0,none⟩) C C),(2,.slice (some ⟨biu,0,none⟩) C C),(3,.map (some bim)),(6,.slice (some ⟨bio,0,none⟩) C C)] #[.int .i64 (C:Int),.int .u64 cr,.slice (some ⟨bg,0,none⟩) Gs.length gcap,.slice (some ⟨bil,0,none⟩) C C,.slice (some ⟨biu,0,none⟩) C C,.map (some bim),.slice none 0 0,.slice none 0 0,.slice (some ⟨bio,0,none⟩) C C,.int .i64 0] (by kernel_rfl) (built_sched _ _ _ _ _ _ _ _ _ _ _ _ _ _ _)) (by assumption) ?_
      try simp only [Act.put,List.setIfInBounds_toArray,List.set_cons_zero,List.set_cons_succ]
      refine readyA [12] (consA (fun K hK=>?_) .nil)
      go_simp
      have HLF:=Lib.hid (XRaw.leaf (W7:=W7) (W:=w149) (x:=w149.heap.size) (bx:=bx) (cr:=cr) (gcap:=gcap) hB149 G7.out hwb hxg rfl fil fiu fim fio ⟨geil,geiu,geim,geio,niuil.symm,nimil.symm,nioil.symm,nimiu.symm,nioiu.symm,nimio⟩)
      have hBz:Below W7.heap.size W7 (w149.alloc (.cells #[.int .i64 (C:Int),.int .u64 cr,.slice (some ⟨bg,0,none⟩) Gs.length gcap,.slice (some ⟨bil,0,none⟩) C C,.slice (some ⟨biu,0,none⟩) C C,.map (some bim),.slice none 0 0,.slice none 0 0,.slice (some ⟨bio,0,none⟩) C C,.int .i64 0] 100)):=Below.allocS hB149 _
      refine outA hK (held_3 hBz hS00) (fun hHeld12=>?_)
      clear hK K
      refine takeA 13 ?_
      refine doneA ?_
      go_wp2_with fail
      go_meet
      case rel=>exact HLF.out
   ·skip
    go_simp
    obtain ⟨w150,hw150⟩:∃ X,X=wc101.alloc (.cells (madeCells #[.int .i64 0] C) 3):=⟨_,rfl⟩
    obtain ⟨bio,hbio⟩:∃ b,b=wc101.heap.size:=⟨_,rfl⟩
    rw [← hw150,← hbio]
    have hv150:Below wc101.heap.size wc101 w150:=by rw [hw150];exact below_a _ _
    have fio:IntsAt w150 bio C (fun _=>0):=by rw [hw150];exact IntsAt.made' _ _ _ hbio
    have geio:W7.heap.size≤bio:=by rw [hbio];exact hWc101.size
    have ltio:bio<w150.heap.size:=by rw [hw150,hbio];simp
    have hB150:=Below.step hWc101 hv150
    clear hw150 hbio hv150
    refine outA hK (held_3 hB150 hS00) (fun hHeld10=>?_)
    clear hK K
    refine readyA [3,6,7] (consA (fun K hK=>?_) (consA (fun K hK=>?_) (consA (fun K hK=>?_) .nil)))
    ·skip
     go_simp
     obtain ⟨w151,hw151⟩:∃ X,X=w150.alloc (.cells (madeCells #[.int .i64 0] C) 3):=⟨_,rfl⟩
     obtain ⟨bil,hbil⟩:∃ b,b=w150.heap.size:=⟨_,rfl⟩
     rw [← hw151,← hbil]
     have hv151:Below w150.heap.size w150 w151:=by rw [hw151];exact below_a _ _
     have fil:IntsAt w151 bil C (fun _=>0):=by rw [hw151];exact IntsAt.made' _ _ _ hbil
     have geil:W7.heap.size≤bil:=by rw [hbil];exact hB150.size
     have ltil:bil<w151.heap.size:=by rw [hw151,hbil];simp
     replace fio:=fio.kept (G:=[]) (Kept.of hv151) (by simp)
     have nioil:bio≠bil:=by omega
     replace ltio:bio<w151.heap.size:=Nat.lt_of_lt_of_le ltio hv151.size
     have hB151:=Below.step hB150 hv151
     clear hw151 hbil hv151
     refine outA hK (held_3 hB151 hS00) (fun hHeld3=>?_)
     clear hK K
     refine readyA [6,7] (consA (fun K hK=>?_) (consA (fun K hK=>?_) .nil))
     ·skip
      go_simp
      obtain ⟨w152,hw152⟩:∃ X,X=w151.alloc (.cells (madeCells #[.int .i64 0] C) 3):=⟨_,rfl⟩
      obtain ⟨biu,hbiu⟩:∃ b,b=w151.heap.size:=⟨_,rfl⟩
      rw [← hw152,← hbiu]
      have hv152:Below w151.heap.size w151 w152:=by rw [hw152];exact below_a _ _
      have fiu:IntsAt w152 biu C (fun _=>0):=by rw [hw152];exact IntsAt.made' _ _ _ hbiu
      have geiu:W7.heap.size≤biu:=by rw [hbiu];exact hB151.size
      have ltiu:biu<w152.heap.size:=by rw [hw152,hbiu];simp
      replace fio:=fio.kept (G:=[]) (Kept.of hv152) (by simp)
      have nioiu:bio≠biu:=by omega
      replace ltio:bio<w152.heap.size:=Nat.lt_of_lt_of_le ltio hv152.size
      replace fil:=fil.kept (G:=[]) (Kept.of hv152) (by simp)
      have niliu:bil≠biu:=by omega
      replace ltil:bil<w152.heap.size:=Nat.lt_of_lt_of_le ltil hv152.size
      have hB152:=Below.step hB151 hv152
      clear hw152 hbiu hv152
      refine outA hK (held_3 hB152 hS00) (fun hHeld6=>?_)
      clear hK K
      refine readyA [7] (consA (fun K hK=>?_) .nil)
      go_simp
      obtain ⟨w153,hw153⟩:∃ X,X=w152.alloc (.map #[] 0):=⟨_,rfl⟩
      obtain ⟨bim,hbim⟩:∃ b,b=w152.heap.size:=⟨_,rfl⟩
      rw [← hw153,← hbim]
      have hv153:Below w152.heap.size w152 w153:=by rw [hw153];exact below_a _ _
      have fim:MapP w153 bim (fun _=>none) 0:=by rw [hw153];exact mapP_made' _ hbim
      have geim:W7.heap.size≤bim:=by rw [hbim];exact hB152.size
      have ltim:bim<w153.heap.size:=by rw [hw153,hbim];simp
      replace fio:=fio.kept (G:=[]) (Kept.of hv153) (by simp)
      have nioim:bio≠bim:=by omega
      replace ltio:bio<w153.heap.size:=Nat.lt_of_lt_of_le ltio hv153.size
      replace fil:=fil.kept (G:=[]) (Kept.of hv153) (by simp)
      have nilim:bil≠bim:=by omega
      replace ltil:bil<w153.heap.size:=Nat.lt_of_lt_of_le ltil hv153.size
      replace fiu:=fiu.kept (G:=[]) (Kept.of hv153) (by simp)
      have niuim:biu≠bim:=by omega
      replace ltiu:biu<w153.heap.size:=Nat.lt_of_lt_of_le ltiu hv153.size
      have hB153:=Below.step hB152 hv153
      clear hw153 hbim hv153
      refine outA hK (held_3 hB153 hS00) (fun hHeld7=>?_)
      clear hK K
      refine takeH (i:=11) (v:=.agg #[.int .i64 (C:Int),.int .u64 cr,.slice (some ⟨bg,0,none⟩) Gs.length gcap,.slice (some ⟨bil,0,none⟩) C C,.slice (some ⟨biu,0,none⟩) C C,.map (some bim),.slice none 0 0,.slice none 0 0,.slice (some ⟨bio,0,none⟩) C C,.int .i64 0]) rfl (by kernel_rfl) (fun _ _ _ h=>h) (by rfl) (fun w _=>lit_runZ #[(0,.agg #[.int .i64 (C:Int),.int .u64 cr,.slice (some ⟨bg,0,none⟩) Gs.length gcap]),(1,.slice (some ⟨bil,0,none⟩) C C),(2,.slice (some ⟨biu,0,none⟩) C C),(3,.map (some bim)),(6,.slice (some ⟨bio,0,none⟩) C C)] #[.int .i64 (C:Int),.int .u64 cr,.slice (some ⟨bg,0,none⟩) Gs.length gcap,.slice (some ⟨bil,0,none⟩) C C,.slice (some ⟨biu,0,none⟩) C C,.map (some bim),.slice none 0 0,.slice none 0 0,.slice (some ⟨bio,0,none⟩) C C,.int .i64 0] (by kernel_rfl) (built_sched _ _ _ _ _ _ _ _ _ _ _ _ _ _ _)) (by assumption) ?_
      try simp only [Act.put,List.setIfInBounds_toArray,List.set_cons_zero,List.set_cons_succ]
      refine readyA [12] (consA (fun K hK=>?_) .nil)
      go_simp
      have HLF:=Lib.hid (XRaw.leaf (W7:=W7) (W:=w153) (x:=w153.heap.size) (bx:=bx) (cr:=cr) (gcap:=gcap) hB153 G7.out hwb hxg rfl fil fiu fim fio ⟨geil,geiu,geim,geio,niliu,nilim,nioil.symm,niuim,nioiu.symm,nioim.symm⟩)
      have hBz:Below W7.heap.size W7 (w153.alloc (.cells #[.int .i64 (C:Int),.int .u64 cr,.slice (some ⟨bg,0,none⟩) Gs.length gcap,.slice (some ⟨bil,0,none⟩) C C,.slice (some ⟨biu,0,none⟩) C C,.map (some bim),.slice none 0 0,.slice none 0 0,.slice (some ⟨bio,0,none⟩) C C,.int .i64 0] 100)):=Below.allocS hB153 _
      refine outA hK (held_3 hBz hS00) (fun hHeld12=>?_)
      clear hK K
      refine takeA 13 ?_
      refine doneA ?_
      go_wp2_with fail
      go_meet
      case rel=>exact HLF.out
     ·skip
      go_simp
      obtain ⟨w154,hw154⟩:∃ X,X=w151.alloc (.map #[] 0):=⟨_,rfl⟩
      obtain ⟨bim,hbim⟩:∃ b,b=w151.heap.size:=⟨_,rfl⟩
      rw [← hw154,← hbim]
      have hv154:Below w151.heap.size w151 w154:=by rw [hw154];exact below_a _ _
      have fim:MapP w154 bim (fun _=>none) 0:=by rw [hw154];exact mapP_made' _ hbim
      have geim:W7.heap.size≤bim:=by rw [hbim];exact hB151.size
      have ltim:bim<w154.heap.size:=by rw [hw154,hbim];simp
      replace fio:=fio.kept (G:=[]) (Kept.of hv154) (by simp)
      have nioim:bio≠bim:=by omega
      replace ltio:bio<w154.heap.size:=Nat.lt_of_lt_of_le ltio hv154.size
      replace fil:=fil.kept (G:=[]) (Kept.of hv154) (by simp)
      have nilim:bil≠bim:=by omega
      replace ltil:bil<w154.heap.size:=Nat.lt_of_lt_of_le ltil hv154.size
      have hB154:=Below.step hB151 hv154
      clear hw154 hbim hv154
      refine outA hK (held_3 hB154 hS00) (fun hHeld7=>?_)
      clear hK K
      refine readyA [6] (consA (fun K hK=>?_) .nil)
      go_simp
      obtain ⟨w155,hw155⟩:∃ X,X=w154.alloc (.cells (madeCells #[.int .i64 0] C) 3):=⟨_,rfl⟩
      obtain ⟨biu,hbiu⟩:∃ b,b=w154.heap.size:=⟨_,rfl⟩
      rw [← hw155,← hbiu]
      have hv155:Below w154.heap.size w154 w155:=by rw [hw155];exact below_a _ _
      have fiu:IntsAt w155 biu C (fun _=>0):=by rw [hw155];exact IntsAt.made' _ _ _ hbiu
      have geiu:W7.heap.size≤biu:=by rw [hbiu];exact hB154.size
      have ltiu:biu<w155.heap.size:=by rw [hw155,hbiu];simp
      replace fio:=fio.kept (G:=[]) (Kept.of hv155) (by simp)
      have nioiu:bio≠biu:=by omega
      replace ltio:bio<w155.heap.size:=Nat.lt_of_lt_of_le ltio hv155.size
      replace fil:=fil.kept (G:=[]) (Kept.of hv155) (by simp)
      have niliu:bil≠biu:=by omega
      replace ltil:bil<w155.heap.size:=Nat.lt_of_lt_of_le ltil hv155.size
      replace fim:=fim.below hv155
      have nimiu:bim≠biu:=by omega
      replace ltim:bim<w155.heap.size:=Nat.lt_of_lt_of_le ltim hv155.size
      have hB155:=Below.step hB154 hv155
      clear hw155 hbiu hv155
      refine outA hK (held_3 hB155 hS00) (fun hHeld6=>?_)
      clear hK K
      refine takeH (i:=11) (v:=.agg #[.int .i64 (C:Int),.int .u64 cr,.slice (some ⟨bg,0,none⟩) Gs.length gcap,.slice (some ⟨bil,0,none⟩) C C,.slice (some ⟨biu,0,none⟩) C C,.map (some bim),.slice none 0 0,.slice none 0 0,.slice (some ⟨bio,0,none⟩) C C,.int .i64 0]) rfl (by kernel_rfl) (fun _ _ _ h=>h) (by rfl) (fun w _=>lit_runZ #[(0,.agg #[.int .i64 (C:Int),.int .u64 cr,.slice (some ⟨bg,0,none⟩) Gs.length gcap]),(1,.slice (some ⟨bil,0,none⟩) C C),(2,.slice (some ⟨biu,0,none⟩) C C),(3,.map (some bim)),(6,.slice (some ⟨bio,0,none⟩) C C)] #[.int .i64 (C:Int),.int .u64 cr,.slice (some ⟨bg,0,none⟩) Gs.length gcap,.slice (some ⟨bil,0,none⟩) C C,.slice (some ⟨biu,0,none⟩) C C,.map (some bim),.slice none 0 0,.slice none 0 0,.slice (some ⟨bio,0,none⟩) C C,.int .i64 0] (by kernel_rfl) (built_sched _ _ _ _ _ _ _ _ _ _ _ _ _ _ _)) (by assumption) ?_
      try simp only [Act.put,List.setIfInBounds_toArray,List.set_cons_zero,List.set_cons_succ]
      refine readyA [12] (consA (fun K hK=>?_) .nil)
      go_simp
      have HLF:=Lib.hid (XRaw.leaf (W7:=W7) (W:=w155) (x:=w155.heap.size) (bx:=bx) (cr:=cr) (gcap:=gcap) hB155 G7.out hwb hxg rfl fil fiu fim fio ⟨geil,geiu,geim,geio,niliu,nilim,nioil.symm,nimiu.symm,nioiu.symm,nioim.symm⟩)
      have hBz:Below W7.heap.size W7 (w155.alloc (.cells #[.int .i64 (C:Int),.int .u64 cr,.slice (some ⟨bg,0,none⟩) Gs.length gcap,.slice (some ⟨bil,0,none⟩) C C,.slice (some ⟨biu,0,none⟩) C C,.map (some bim),.slice none 0 0,.slice none 0 0,.slice (some ⟨bio,0,none⟩) C C,.int .i64 0] 100)):=Below.allocS hB155 _
      refine outA hK (held_3 hBz hS00) (fun hHeld12=>?_)
      clear hK K
      refine takeA 13 ?_
      refine doneA ?_
      go_wp2_with fail
      go_meet
      case rel=>exact HLF.out
    ·skip
     go_simp
     obtain ⟨w156,hw156⟩:∃ X,X=w150.alloc (.cells (madeCells #[.int .i64 0] C) 3):=⟨_,rfl⟩
     obtain ⟨biu,hbiu⟩:∃ b,b=w150.heap.size:=⟨_,rfl⟩
     rw [← hw156,← hbiu]
     have hv156:Below w150.heap.size w150 w156:=by rw [hw156];exact below_a _ _
     have fiu:IntsAt w156 biu C (fun _=>0):=by rw [hw156];exact IntsAt.made' _ _ _ hbiu
     have geiu:W7.heap.size≤biu:=by rw [hbiu];exact hB150.size
     have ltiu:biu<w156.heap.size:=by rw [hw156,hbiu];simp
     replace fio:=fio.kept (G:=[]) (Kept.of hv156) (by simp)
     have nioiu:bio≠biu:=by omega
     replace ltio:bio<w156.heap.size:=Nat.lt_of_lt_of_le ltio hv156.size
     have hB156:=Below.step hB150 hv156
     clear hw156 hbiu hv156
     refine outA hK (held_3 hB156 hS00) (fun hHeld6=>?_)
     clear hK K
     refine readyA [3,7] (consA (fun K hK=>?_) (consA (fun K hK=>?_) .nil))
     ·skip
      go_simp
      obtain ⟨w157,hw157⟩:∃ X,X=w156.alloc (.cells (madeCells #[.int .i64 0] C) 3):=⟨_,rfl⟩
      obtain ⟨bil,hbil⟩:∃ b,b=w156.heap.size:=⟨_,rfl⟩
      rw [← hw157,← hbil]
      have hv157:Below w156.heap.size w156 w157:=by rw [hw157];exact below_a _ _
      have fil:IntsAt w157 bil C (fun _=>0):=by rw [hw157];exact IntsAt.made' _ _ _ hbil
      have geil:W7.heap.size≤bil:=by rw [hbil];exact hB156.size
      have ltil:bil<w157.heap.size:=by rw [hw157,hbil];simp
      replace fio:=fio.kept (G:=[]) (Kept.of hv157) (by simp)
      have nioil:bio≠bil:=by omega
      replace ltio:bio<w157.heap.size:=Nat.lt_of_lt_of_le ltio hv157.size
      replace fiu:=fiu.kept (G:=[]) (Kept.of hv157) (by simp)
      have niuil:biu≠bil:=by omega
      replace ltiu:biu<w157.heap.size:=Nat.lt_of_lt_of_le ltiu hv157.size
      have hB157:=Below.step hB156 hv157
      clear hw157 hbil hv157
      refine outA hK (held_3 hB157 hS00) (fun hHeld3=>?_)
      clear hK K
      refine readyA [7] (consA (fun K hK=>?_) .nil)
      go_simp
      obtain ⟨w158,hw158⟩:∃ X,X=w157.alloc (.map #[] 0):=⟨_,rfl⟩
      obtain ⟨bim,hbim⟩:∃ b,b=w157.heap.size:=⟨_,rfl⟩
      rw [← hw158,← hbim]
      have hv158:Below w157.heap.size w157 w158:=by rw [hw158];exact below_a _ _
      have fim:MapP w158 bim (fun _=>none) 0:=by rw [hw158];exact mapP_made' _ hbim
      have geim:W7.heap.size≤bim:=by rw [hbim];exact hB157.size
      have ltim:bim<w158.heap.size:=by rw [hw158,hbim];simp
      replace fio:=fio.kept (G:=[]) (Kept.of hv158) (by simp)
      have nioim:bio≠bim:=by omega
      replace ltio:bio<w158.heap.size:=Nat.lt_of_lt_of_le ltio hv158.size
      replace fiu:=fiu.kept (G:=[]) (Kept.of hv158) (by simp)
      have niuim:biu≠bim:=by omega
      replace ltiu:biu<w158.heap.size:=Nat.lt_of_lt_of_le ltiu hv158.size
      replace fil:=fil.kept (G:=[]) (Kept.of hv158) (by simp)
      have nilim:bil≠bim:=by omega
      replace ltil:bil<w158.heap.size:=Nat.lt_of_lt_of_le ltil hv158.size
      have hB158:=Below.step hB157 hv158
      clear hw158 hbim hv158
      refine outA hK (held_3 hB158 hS00) (fun hHeld7=>?_)
      clear hK K
      refine takeH (i:=11) (v:=.agg #[.int .i64 (C:Int),.int .u64 cr,.slice (some ⟨bg,0,none⟩) Gs.length gcap,.slice (some ⟨bil,0,none⟩) C C,.slice (some ⟨biu,0,none⟩) C C,.map (some bim),.slice none 0 0,.slice none 0 0,.slice (some ⟨bio,0,none⟩) C C,.int .i64 0]) rfl (by kernel_rfl) (fun _ _ _ h=>h) (by rfl) (fun w _=>lit_runZ #[(0,.agg #[.int .i64 (C:Int),.int .u64 cr,.slice (some ⟨bg,0,none⟩) Gs.length gcap]),(1,.slice (some ⟨bil,0,none⟩) C C),(2,.slice (some ⟨biu,0,none⟩) C C),(3,.map (some bim)),(6,.slice (some ⟨bio,0,none⟩) C C)] #[.int .i64 (C:Int),.int .u64 cr,.slice (some ⟨bg,0,none⟩) Gs.length gcap,.slice (some ⟨bil,0,none⟩) C C,.slice (some ⟨biu,0,none⟩) C C,.map (some bim),.slice none 0 0,.slice none 0 0,.slice (some ⟨bio,0,none⟩) C C,.int .i64 0] (by kernel_rfl) (built_sched _ _ _ _ _ _ _ _ _ _ _ _ _ _ _)) (by assumption) ?_
      try simp only [Act.put,List.setIfInBounds_toArray,List.set_cons_zero,List.set_cons_succ]
      refine readyA [12] (consA (fun K hK=>?_) .nil)
      go_simp
      have HLF:=Lib.hid (XRaw.leaf (W7:=W7) (W:=w158) (x:=w158.heap.size) (bx:=bx) (cr:=cr) (gcap:=gcap) hB158 G7.out hwb hxg rfl fil fiu fim fio ⟨geil,geiu,geim,geio,niuil.symm,nilim,nioil.symm,niuim,nioiu.symm,nioim.symm⟩)
      have hBz:Below W7.heap.size W7 (w158.alloc (.cells #[.int .i64 (C:Int),.int .u64 cr,.slice (some ⟨bg,0,none⟩) Gs.length gcap,.slice (some ⟨bil,0,none⟩) C C,.slice (some ⟨biu,0,none⟩) C C,.map (some bim),.slice none 0 0,.slice none 0 0,.slice (some ⟨bio,0,none⟩) C C,.int .i64 0] 100)):=Below.allocS hB158 _
      refine outA hK (held_3 hBz hS00) (fun hHeld12=>?_)
      clear hK K
      refine takeA 13 ?_
      refine doneA ?_
      go_wp2_with fail
      go_meet
      case rel=>exact HLF.out
     ·skip
      go_simp
      obtain ⟨w159,hw159⟩:∃ X,X=w156.alloc (.map #[] 0):=⟨_,rfl⟩
      obtain ⟨bim,hbim⟩:∃ b,b=w156.heap.size:=⟨_,rfl⟩
      rw [← hw159,← hbim]
      have hv159:Below w156.heap.size w156 w159:=by rw [hw159];exact below_a _ _
      have fim:MapP w159 bim (fun _=>none) 0:=by rw [hw159];exact mapP_made' _ hbim
      have geim:W7.heap.size≤bim:=by rw [hbim];exact hB156.size
      have ltim:bim<w159.heap.size:=by rw [hw159,hbim];simp
      replace fio:=fio.kept (G:=[]) (Kept.of hv159) (by simp)
      have nioim:bio≠bim:=by omega
      replace ltio:bio<w159.heap.size:=Nat.lt_of_lt_of_le ltio hv159.size
      replace fiu:=fiu.kept (G:=[]) (Kept.of hv159) (by simp)
      have niuim:biu≠bim:=by omega
      replace ltiu:biu<w159.heap.size:=Nat.lt_of_lt_of_le ltiu hv159.size
      have hB159:=Below.step hB156 hv159
      clear hw159 hbim hv159
      refine outA hK (held_3 hB159 hS00) (fun hHeld7=>?_)
      clear hK K
      refine readyA [3] (consA (fun K hK=>?_) .nil)
      go_simp
      obtain ⟨w160,hw160⟩:∃ X,X=w159.alloc (.cells (madeCells #[.int .i64 0] C) 3):=⟨_,rfl⟩
      obtain ⟨bil,hbil⟩:∃ b,b=w159.heap.size:=⟨_,rfl⟩
      rw [← hw160,← hbil]
      have hv160:Below w159.heap.size w159 w160:=by rw [hw160];exact below_a _ _
      have fil:IntsAt w160 bil C (fun _=>0):=by rw [hw160];exact IntsAt.made' _ _ _ hbil
      have geil:W7.heap.size≤bil:=by rw [hbil];exact hB159.size
      have ltil:bil<w160.heap.size:=by rw [hw160,hbil];simp
      replace fio:=fio.kept (G:=[]) (Kept.of hv160) (by simp)
      have nioil:bio≠bil:=by omega
      replace ltio:bio<w160.heap.size:=Nat.lt_of_lt_of_le ltio hv160.size
      replace fiu:=fiu.kept (G:=[]) (Kept.of hv160) (by simp)
      have niuil:biu≠bil:=by omega
      replace ltiu:biu<w160.heap.size:=Nat.lt_of_lt_of_le ltiu hv160.size
      replace fim:=fim.below hv160
      have nimil:bim≠bil:=by omega
      replace ltim:bim<w160.heap.size:=Nat.lt_of_lt_of_le ltim hv160.size
      have hB160:=Below.step hB159 hv160
      clear hw160 hbil hv160
      refine outA hK (held_3 hB160 hS00) (fun hHeld3=>?_)
      clear hK K
      refine takeH (i:=11) (v:=.agg #[.int .i64 (C:Int),.int .u64 cr,.slice (some ⟨bg,0,none⟩) Gs.length gcap,.slice (some ⟨bil,0,none⟩) C C,.slice (some ⟨biu,0,none⟩) C C,.map (some bim),.slice none 0 0,.slice none 0 0,.slice (some ⟨bio,0,none⟩) C C,.int .i64 0]) rfl (by kernel_rfl) (fun _ _ _ h=>h) (by rfl) (fun w _=>lit_runZ #[(0,.agg #[.int .i64 (C:Int),.int .u64 cr,.slice (some ⟨bg,0,none⟩) Gs.length gcap]),(1,.slice (some ⟨bil,0,none⟩) C C),(2,.slice (some ⟨biu,0,none⟩) C C),(3,.map (some bim)),(6,.slice (some ⟨bio,0,none⟩) C C)] #[.int .i64 (C:Int),.int .u64 cr,.slice (some ⟨bg,0,none⟩) Gs.length gcap,.slice (some ⟨bil,0,none⟩) C C,.slice (some ⟨biu,0,none⟩) C C,.map (some bim),.slice none 0 0,.slice none 0 0,.slice (some ⟨bio,0,none⟩) C C,.int .i64 0] (by kernel_rfl) (built_sched _ _ _ _ _ _ _ _ _ _ _ _ _ _ _)) (by assumption) ?_
      try simp only [Act.put,List.setIfInBounds_toArray,List.set_cons_zero,List.set_cons_succ]
      refine readyA [12] (consA (fun K hK=>?_) .nil)
      go_simp
      have HLF:=Lib.hid (XRaw.leaf (W7:=W7) (W:=w160) (x:=w160.heap.size) (bx:=bx) (cr:=cr) (gcap:=gcap) hB160 G7.out hwb hxg rfl fil fiu fim fio ⟨geil,geiu,geim,geio,niuil.symm,nimil.symm,nioil.symm,niuim,nioiu.symm,nioim.symm⟩)
      have hBz:Below W7.heap.size W7 (w160.alloc (.cells #[.int .i64 (C:Int),.int .u64 cr,.slice (some ⟨bg,0,none⟩) Gs.length gcap,.slice (some ⟨bil,0,none⟩) C C,.slice (some ⟨biu,0,none⟩) C C,.map (some bim),.slice none 0 0,.slice none 0 0,.slice (some ⟨bio,0,none⟩) C C,.int .i64 0] 100)):=Below.allocS hB160 _
      refine outA hK (held_3 hBz hS00) (fun hHeld12=>?_)
      clear hK K
      refine takeA 13 ?_
      refine doneA ?_
      go_wp2_with fail
      go_meet
      case rel=>exact HLF.out
    ·skip
     go_simp
     obtain ⟨w161,hw161⟩:∃ X,X=w150.alloc (.map #[] 0):=⟨_,rfl⟩
     obtain ⟨bim,hbim⟩:∃ b,b=w150.heap.size:=⟨_,rfl⟩
     rw [← hw161,← hbim]
     have hv161:Below w150.heap.size w150 w161:=by rw [hw161];exact below_a _ _
     have fim:MapP w161 bim (fun _=>none) 0:=by rw [hw161];exact mapP_made' _ hbim
     have geim:W7.heap.size≤bim:=by rw [hbim];exact hB150.size
     have ltim:bim<w161.heap.size:=by rw [hw161,hbim];simp
     replace fio:=fio.kept (G:=[]) (Kept.of hv161) (by simp)
     have nioim:bio≠bim:=by omega
     replace ltio:bio<w161.heap.size:=Nat.lt_of_lt_of_le ltio hv161.size
     have hB161:=Below.step hB150 hv161
     clear hw161 hbim hv161
     refine outA hK (held_3 hB161 hS00) (fun hHeld7=>?_)
     clear hK K
     refine readyA [3,6] (consA (fun K hK=>?_) (consA (fun K hK=>?_) .nil))
     ·skip
      go_simp
      obtain ⟨w162,hw162⟩:∃ X,X=w161.alloc (.cells (madeCells #[.int .i64 0] C) 3):=⟨_,rfl⟩
      obtain ⟨bil,hbil⟩:∃ b,b=w161.heap.size:=⟨_,rfl⟩
      rw [← hw162,← hbil]
      have hv162:Below w161.heap.size w161 w162:=by rw [hw162];exact below_a _ _
      have fil:IntsAt w162 bil C (fun _=>0):=by rw [hw162];exact IntsAt.made' _ _ _ hbil
      have geil:W7.heap.size≤bil:=by rw [hbil];exact hB161.size
      have ltil:bil<w162.heap.size:=by rw [hw162,hbil];simp
      replace fio:=fio.kept (G:=[]) (Kept.of hv162) (by simp)
      have nioil:bio≠bil:=by omega
      replace ltio:bio<w162.heap.size:=Nat.lt_of_lt_of_le ltio hv162.size
      replace fim:=fim.below hv162
      have nimil:bim≠bil:=by omega
      replace ltim:bim<w162.heap.size:=Nat.lt_of_lt_of_le ltim hv162.size
      have hB162:=Below.step hB161 hv162
      clear hw162 hbil hv162
      refine outA hK (held_3 hB162 hS00) (fun hHeld3=>?_)
      clear hK K
      refine readyA [6] (consA (fun K hK=>?_) .nil)
      go_simp
      obtain ⟨w163,hw163⟩:∃ X,X=w162.alloc (.cells (madeCells #[.int .i64 0] C) 3):=⟨_,rfl⟩
      obtain ⟨biu,hbiu⟩:∃ b,b=w162.heap.size:=⟨_,rfl⟩
      rw [← hw163,← hbiu]
      have hv163:Below w162.heap.size w162 w163:=by rw [hw163];exact below_a _ _
      have fiu:IntsAt w163 biu C (fun _=>0):=by rw [hw163];exact IntsAt.made' _ _ _ hbiu
      have geiu:W7.heap.size≤biu:=by rw [hbiu];exact hB162.size
      have ltiu:biu<w163.heap.size:=by rw [hw163,hbiu];simp
      replace fio:=fio.kept (G:=[]) (Kept.of hv163) (by simp)
      have nioiu:bio≠biu:=by omega
      replace ltio:bio<w163.heap.size:=Nat.lt_of_lt_of_le ltio hv163.size
      replace fim:=fim.below hv163
      have nimiu:bim≠biu:=by omega
      replace ltim:bim<w163.heap.size:=Nat.lt_of_lt_of_le ltim hv163.size
      replace fil:=fil.kept (G:=[]) (Kept.of hv163) (by simp)
      have niliu:bil≠biu:=by omega
      replace ltil:bil<w163.heap.size:=Nat.lt_of_lt_of_le ltil hv163.size
      have hB163:=Below.step hB162 hv163
      clear hw163 hbiu hv163
      refine outA hK (held_3 hB163 hS00) (fun hHeld6=>?_)
      clear hK K
      refine takeH (i:=11) (v:=.agg #[.int .i64 (C:Int),.int .u64 cr,.slice (some ⟨bg,0,none⟩) Gs.length gcap,.slice (some ⟨bil,0,none⟩) C C,.slice (some ⟨biu,0,none⟩) C C,.map (some bim),.slice none 0 0,.slice none 0 0,.slice (some ⟨bio,0,none⟩) C C,.int .i64 0]) rfl (by kernel_rfl) (fun _ _ _ h=>h) (by rfl) (fun w _=>lit_runZ #[(0,.agg #[.int .i64 (C:Int),.int .u64 cr,.slice (some ⟨bg,0,none⟩) Gs.length gcap]),(1,.slice (some ⟨bil,0,none⟩) C C),(2,.slice (some ⟨biu,0,none⟩) C C),(3,.map (some bim)),(6,.slice (some ⟨bio,0,none⟩) C C)] #[.int .i64 (C:Int),.int .u64 cr,.slice (some ⟨bg,0,none⟩) Gs.length gcap,.slice (some ⟨bil,0,none⟩) C C,.slice (some ⟨biu,0,none⟩) C C,.map (some bim),.slice none 0 0,.slice none 0 0,.slice (some ⟨bio,0,none⟩) C C,.int .i64 0] (by kernel_rfl) (built_sched _ _ _ _ _ _ _ _ _ _ _ _ _ _ _)) (by assumption) ?_
      try simp only [Act.put,List.setIfInBounds_toArray,List.set_cons_zero,List.set_cons_succ]
      refine readyA [12] (consA (fun K hK=>?_) .nil)
      go_simp
      have HLF:=Lib.hid (XRaw.leaf (W7:=W7) (W:=w163) (x:=w163.heap.size) (bx:=bx) (cr:=cr) (gcap:=gcap) hB163 G7.out hwb hxg rfl fil fiu fim fio ⟨geil,geiu,geim,geio,niliu,nimil.symm,nioil.symm,nimiu.symm,nioiu.symm,nioim.symm⟩)
      have hBz:Below W7.heap.size W7 (w163.alloc (.cells #[.int .i64 (C:Int),.int .u64 cr,.slice (some ⟨bg,0,none⟩) Gs.length gcap,.slice (some ⟨bil,0,none⟩) C C,.slice (some ⟨biu,0,none⟩) C C,.map (some bim),.slice none 0 0,.slice none 0 0,.slice (some ⟨bio,0,none⟩) C C,.int .i64 0] 100)):=Below.allocS hB163 _
      refine outA hK (held_3 hBz hS00) (fun hHeld12=>?_)
      clear hK K
      refine takeA 13 ?_
      refine doneA ?_
      go_wp2_with fail
      go_meet
      case rel=>exact HLF.out
     ·skip
      go_simp
      obtain ⟨w164,hw164⟩:∃ X,X=w161.alloc (.cells (madeCells #[.int .i64 0] C) 3):=⟨_,rfl⟩
      obtain ⟨biu,hbiu⟩:∃ b,b=w161.heap.size:=⟨_,rfl⟩
      rw [← hw164,← hbiu]
      have hv164:Below w161.heap.size w161 w164:=by rw [hw164];exact below_a _ _
      have fiu:IntsAt w164 biu C (fun _=>0):=by rw [hw164];exact IntsAt.made' _ _ _ hbiu
      have geiu:W7.heap.size≤biu:=by rw [hbiu];exact hB161.size
      have ltiu:biu<w164.heap.size:=by rw [hw164,hbiu];simp
      replace fio:=fio.kept (G:=[]) (Kept.of hv164) (by simp)
      have nioiu:bio≠biu:=by omega
      replace ltio:bio<w164.heap.size:=Nat.lt_of_lt_of_le ltio hv164.size
      replace fim:=fim.below hv164
      have nimiu:bim≠biu:=by omega
      replace ltim:bim<w164.heap.size:=Nat.lt_of_lt_of_le ltim hv164.size
      have hB164:=Below.step hB161 hv164
      clear hw164 hbiu hv164
      refine outA hK (held_3 hB164 hS00) (fun hHeld6=>?_)
      clear hK K
      refine readyA [3] (consA (fun K hK=>?_) .nil)
      go_simp
      obtain ⟨w165,hw165⟩:∃ X,X=w164.alloc (.cells (madeCells #[.int .i64 0] C) 3):=⟨_,rfl⟩
      obtain ⟨bil,hbil⟩:∃ b,b=w164.heap.size:=⟨_,rfl⟩
      rw [← hw165,← hbil]
      have hv165:Below w164.heap.size w164 w165:=by rw [hw165];exact below_a _ _
      have fil:IntsAt w165 bil C (fun _=>0):=by rw [hw165];exact IntsAt.made' _ _ _ hbil
      have geil:W7.heap.size≤bil:=by rw [hbil];exact hB164.size
      have ltil:bil<w165.heap.size:=by rw [hw165,hbil];simp
      replace fio:=fio.kept (G:=[]) (Kept.of hv165) (by simp)
      have nioil:bio≠bil:=by omega
      replace ltio:bio<w165.heap.size:=Nat.lt_of_lt_of_le ltio hv165.size
      replace fim:=fim.below hv165
      have nimil:bim≠bil:=by omega
      replace ltim:bim<w165.heap.size:=Nat.lt_of_lt_of_le ltim hv165.size
      replace fiu:=fiu.kept (G:=[]) (Kept.of hv165) (by simp)
      have niuil:biu≠bil:=by omega
      replace ltiu:biu<w165.heap.size:=Nat.lt_of_lt_of_le ltiu hv165.size
      have hB165:=Below.step hB164 hv165
      clear hw165 hbil hv165
      refine outA hK (held_3 hB165 hS00) (fun hHeld3=>?_)
      clear hK K
      refine takeH (i:=11) (v:=.agg #[.int .i64 (C:Int),.int .u64 cr,.slice (some ⟨bg,0,none⟩) Gs.length gcap,.slice (some ⟨bil,0,none⟩) C C,.slice (some ⟨biu,0,none⟩) C C,.map (some bim),.slice none 0 0,.slice none 0 0,.slice (some ⟨bio,0,none⟩) C C,.int .i64 0]) rfl (by kernel_rfl) (fun _ _ _ h=>h) (by rfl) (fun w _=>lit_runZ #[(0,.agg #[.int .i64 (C:Int),.int .u64 cr,.slice (some ⟨bg,0,none⟩) Gs.length gcap]),(1,.slice (some ⟨bil,0,none⟩) C C),(2,.slice (some ⟨biu,0,none⟩) C C),(3,.map (some bim)),(6,.slice (some ⟨bio,0,none⟩) C C)] #[.int .i64 (C:Int),.int .u64 cr,.slice (some ⟨bg,0,none⟩) Gs.length gcap,.slice (some ⟨bil,0,none⟩) C C,.slice (some ⟨biu,0,none⟩) C C,.map (some bim),.slice none 0 0,.slice none 0 0,.slice (some ⟨bio,0,none⟩) C C,.int .i64 0] (by kernel_rfl) (built_sched _ _ _ _ _ _ _ _ _ _ _ _ _ _ _)) (by assumption) ?_
      try simp only [Act.put,List.setIfInBounds_toArray,List.set_cons_zero,List.set_cons_succ]
      refine readyA [12] (consA (fun K hK=>?_) .nil)
      go_simp
      have HLF:=Lib.hid (XRaw.leaf (W7:=W7) (W:=w165) (x:=w165.heap.size) (bx:=bx) (cr:=cr) (gcap:=gcap) hB165 G7.out hwb hxg rfl fil fiu fim fio ⟨geil,geiu,geim,geio,niuil.symm,nimil.symm,nioil.symm,nimiu.symm,nioiu.symm,nioim.symm⟩)
      have hBz:Below W7.heap.size W7 (w165.alloc (.cells #[.int .i64 (C:Int),.int .u64 cr,.slice (some ⟨bg,0,none⟩) Gs.length gcap,.slice (some ⟨bil,0,none⟩) C C,.slice (some ⟨biu,0,none⟩) C C,.map (some bim),.slice none 0 0,.slice none 0 0,.slice (some ⟨bio,0,none⟩) C C,.int .i64 0] 100)):=Below.allocS hB165 _
      refine outA hK (held_3 hBz hS00) (fun hHeld12=>?_)
      clear hK K
      refine takeA 13 ?_
      refine doneA ?_
      go_wp2_with fail
      go_meet
      case rel=>exact HLF.out
 case rest =>
  as_aux_lemma =>
   obtain ⟨x,L,rfl,hX,x6,x7,hbc,hl0,hlbg⟩:=hcut
   obtain ⟨W8,rfl⟩:∃ W:World,W=wc:=⟨_,rfl⟩
   have s0':=cell_later hbc s0
   have s2':=cell_later hbc s2
   have hB8:=Below.step B7.out hbc
   have hC64:=hC.2
   clear M1 M2 s0 s1 s2 hbc G7 hxg lbg
   obtain ⟨n,hn⟩:∃ n,n=Gs.length:=⟨_,rfl⟩
   rw [← hn] at s2' hl hp
   have HNN:=Lib.hid hn
   clear hn
   go_wp2_with fail
   go_loopw [33] (fun iv wr=>∃ (m:Nat) (L:SLay) (vq va:Value),m≤n∧iv=.int .i64 m∧XRaw w.heap.size wr x L vq va Gs C cr m m m∧wr.cell? ⟨x,6,none⟩=some vq∧wr.cell? ⟨x,7,none⟩=some va∧wr.cell? ⟨bx,0,none⟩=some (.int .i64 (C:Int))∧wr.cell? ⟨bx,2,none⟩=some (.slice (some ⟨bg,0,none⟩) n gcap)∧L.lab bx=(0,0,0)∧L.bg=bg∧Below w.heap.size w wr) (fun i _=>n - (intOf i).toNat)
   case atStart=>exact ⟨0,L,_,_,Nat.zero_le _,rfl,hX,x6,x7,s0',s2',hl0,hlbg,hB8⟩
   case round =>
    clear hX x6 x7 s0' s2' hl0 hB8 hlbg
    obtain ⟨m,L1,vq,va,hm,rfl,hX,x6,x7,s0,s2,hl0,hbg,hB⟩:=hrel
    by_cases hlt:m<n
    ·have hmi:(m:Int)<(n:Int):=by omega
     have z0:decide ((m:Int)<(n:Int))=true:=decide_eq_true hmi
     have z0':decide (m<n)=true:=decide_eq_true hlt
     have hml:m<Gs.length:=by rw [← HNN.out];exact hlt
     obtain ⟨g0,g1⟩:=hX.gr.c m hml
     rw [hbg] at g0 g1
     have hw:1≤Gs[m]!.2∧Gs[m]!.2≤65536:=HRI.out.wt hml
     have HWT:=Lib.hid hw
     obtain ⟨⟨p,wg⟩,hpw⟩:∃ y,y=Gs[m]!:=⟨_,rfl⟩
     rw [← hpw] at g0 g1 hw
     simp only at g0 g1 hw
     have HPW:=Lib.hid hpw
     have HX:=Lib.hid hX
     have HB:=Lib.hid hB
     have X6:=Lib.hid x6
     have X7:=Lib.hid x7
     have HL0:=Lib.hid hl0
     have HBG:=Lib.hid hbg
     have S2:=Lib.hid s2
     obtain ⟨wo,hwo⟩:∃ wo,wo=wr:=⟨_,rfl⟩
     subst hwo
     clear hX hB hl0 hbg hpw x6 x7 s2
     go_wp2_with fail
     obtain ⟨W1,hW1⟩:∃ W,W=wo.alloc (.cells #[.int .i64 p,.int .i64 wg] 72):=⟨_,rfl⟩
     rw [← hW1]
     have hb1:Below wo.heap.size wo W1:=by rw [hW1];exact below_a _ _
     have b61:W1.cell? ⟨wo.heap.size,1,none⟩=some (.int .i64 wg):=by rw [hW1];exact cell_nw wo _ _ 1 _ rfl
     have s0':=cell_later hb1 s0
     obtain ⟨b6,hb6⟩:∃ b,b=wo.heap.size:=⟨_,rfl⟩
     rw [← hb6] at b61 ⊢
     have HB6:=Lib.hid hb6
     have HB1:=Lib.hid hb1
     obtain ⟨iq,hi,hz0,hz1,hz2⟩:=info_parts infoQp
     obtain ⟨ie,hj,hy0,hy1,hy2⟩:=info_parts infoEn
     have M3:∀ W:World,(Instr.makeSlice 101 (.int .i64 (C:Int)) (.int .i64 (C:Int))).run Tryz.prog W=.ok (.slice (some ⟨W.heap.size,0,none⟩) C C) (W.alloc (.cells (madeCells #[.pointer none] C) 103)):=fun W=>by
      have:=makes W hC64 _ _ iq _ 1 8 Tryz.underlying101 hi hz0 hz1 hz2 (by decide)
      rw [Nat.mul_one] at this
      exact this
     have M4:∀ W:World,(Instr.makeSlice 102 (.int .i64 (C:Int)) (.int .i64 (C:Int))).run Tryz.prog W=.ok (.slice (some ⟨W.heap.size,0,none⟩) C C) (W.alloc (.cells (madeCells #[.int .u64 0,.int .u32 0,.int .u32 0] (C*3)) 107)):=fun W=>makes W hC64 _ _ ie _ 3 16 Tryz.underlying102 hj hy0 hy1 hy2 (by decide)
     have S0:=Lib.hid s0
     clear hi hz0 hz1 hz2 hj hy0 hy1 hy2 hW1 hb1 hb6 s0 g0 g1
     go_cut [7,8] (fun s7 s8 wx=>∃ rq ra:Nat,s7=.slice (some ⟨rq,0,none⟩) C C∧s8=.slice (some ⟨ra,0,none⟩) C C∧XRow W1.heap.size wx rq ra C 0 wg (fun _=>0) (fun _=>[])∧Below W1.heap.size W1 wx)
     case first =>
      as_aux_lemma =>
       refine startA (S:=fun w'=>Below W1.heap.size W1 w'∧w'.cell? ⟨bx,0,none⟩=some (.int .i64 (C:Int))) ⟨Below.refl _ _,s0'⟩ (held_1 (below_dr _)) (fun hS0 hHeld=>?_)
       refine takeA 0 ?_
       refine takeA 1 ?_
       refine takeA 3 ?_
       refine takeA 4 ?_
       refine readyA [2,5] (consA (fun K hK=>?_) (consA (fun K hK=>?_) .nil))
       ·skip
        go_simp
        refine outA hK kp_1 (fun hHeld2=>?_)
        clear hK K
        refine takeA 6 ?_
        refine readyA [5] (consA (fun K hK=>?_) .nil)
        go_simp
        refine outA hK kp_1 (fun hHeld5=>?_)
        clear hK K
        refine takeA 7 ?_
        refine doneA ?_
        go_wp2_with fail
        go_meet
        case rel =>
         first
         | exact ⟨_,_,rfl,rfl,row_a W1 C wg _ _,(Below.allocS (Below.allocS (Below.refl _ _) _) _).drew⟩
         | exact ⟨_,_,rfl,rfl,row_b W1 C wg _ _,(Below.allocS (Below.allocS (Below.refl _ _) _) _).drew⟩
       ·skip
        go_simp
        refine outA hK kp_1 (fun hHeld5=>?_)
        clear hK K
        refine readyA [2] (consA (fun K hK=>?_) .nil)
        go_simp
        refine outA hK kp_1 (fun hHeld2=>?_)
        clear hK K
        refine takeA 6 ?_
        refine takeA 7 ?_
        refine doneA ?_
        go_wp2_with fail
        go_meet
        case rel =>
         first
         | exact ⟨_,_,rfl,rfl,row_a W1 C wg _ _,(Below.allocS (Below.allocS (Below.refl _ _) _) _).drew⟩
         | exact ⟨_,_,rfl,rfl,row_b W1 C wg _ _,(Below.allocS (Below.allocS (Below.refl _ _) _) _).drew⟩
     case rest =>
      as_aux_lemma =>
       obtain ⟨rq,ra,rfl,rfl,hR,hbc⟩:=hcut
       obtain ⟨W2,rfl⟩:∃ W:World,W=wc:=⟨_,rfl⟩
       have nb6:b6≠rq∧b6≠ra:=by have q1:=lt_of_cell b61;have q2:=hR.ge;omega
       replace b61:=cell_later hbc b61
       have hB2:Below wo.heap.size wo W2:=Below.step HB1.out hbc
       replace hR:=hR.mono HB1.out.size
       have wf1:IntKind.u32.wrap wg=wg:=IntWalk.u32_in _ (by omega)
       clear M3 M4 hbc s0'
       go_wp2_with fail
       go_loopw [45] (fun iv wr=>∃ (j:Nat) (qp:Nat→Nat) (F:Nat→List Nat),j≤C∧iv=.int .i64 j∧XRow wo.heap.size wr rq ra C j wg qp F∧wr.cell? ⟨b6,1,none⟩=some (.int .i64 wg)∧Below wo.heap.size wo wr) (fun i _=>C - (intOf i).toNat)
       case atStart=>exact ⟨0,_,_,Nat.zero_le _,rfl,hR,b61,hB2⟩
       case round =>
        clear hR b61 hB2
        obtain ⟨j,qp,F,hj,rfl,hR,b61,hB2⟩:=hrel
        by_cases hjC:j<C
        ·have hji:(j:Int)<(C:Int):=by omega
         have y0:decide ((j:Int)<(C:Int))=true:=decide_eq_true hji
         have y0':decide (j<C)=true:=decide_eq_true hjC
         have hwj:IntKind.i64.wrap ((j:Int)+1)=(j:Int)+1:=IntWalk.i64_in _ (by omega)
         have hwj':wrap64 ((j:Int)+1)=(j:Int)+1:=IntWalk.wrap64_in _ (by omega)
         have A3:=Lib.hid fun W=>New_at 65792 W (by decide) (by decide)
         have HR:=Lib.hid hR
         have HB2:=Lib.hid hB2
         obtain ⟨wi,hwi⟩:∃ wi,wi=wr:=⟨_,rfl⟩
         subst hwi
         clear hR hB2
         go_wp2_with fail
         refine (A3.out _).mono ?_;rintro e w7 ⟨q,F1,rfl,hq,hF,hb7⟩
         have p0:=cell_later hb7 (HR.out.pc j hjC)
         rw [if_neg (Nat.lt_irrefl j)] at p0
         have pz:=frz_later hb7 (HR.out.pz j) HR.out.lt.1
         have e2:=cell_later hb7 (HR.out.ec j hjC).2.2
         rw [if_neg (Nat.lt_irrefl j)] at e2
         have e2':=cell_set_ne (u:=.pointer (some ⟨q,0,none⟩)) (b':=rq) (o':=j) e2 (Or.inl (Ne.symm HR.out.ne))
         have ez:=frz_later hb7 (HR.out.ez (j*3+2)) HR.out.lt.2
         have b7:=cell_later hb7 b61
         have b7':=cell_set_ne (u:=.pointer (some ⟨q,0,none⟩)) (b':=rq) (o':=j) b7 (Or.inl nb6.1)
         have HR':=Lib.hid (HR.out.next hjC hq hF hb7)
         have HB':=Lib.hid (show Below wo.heap.size wo ((w7.setCell ⟨rq,j,none⟩ (.pointer (some ⟨q,0,none⟩))).setCell ⟨ra,j*3+2,none⟩ (.int .u32 wg)) from ((Below.step HB2.out hb7).setCell HR.out.ge.1 _).setCell HR.out.ge.2 _)
         have B7:=Lib.hid (cell_set_ne (u:=.int .u32 wg) (b':=ra) (o':=j*3+2) b7' (Or.inl nb6.2))
         clear hq hF hb7 b61 e2 b7
         go_wp2_with fail
         go_roundw
         case rel=>exact ⟨j+1,_,_,hjC,rfl,HR'.out,B7.out,HB'.out⟩
         case measure=>exact meas_lt hjC
        ·obtain rfl:j=C:=by omega
         have y0:decide ((j:Int)<(j:Int))=false:=by simp
         have hR2:XRow wo.heap.size wr rq ra j j Gs[m]!.2 qp F:=by rw [← HPW.out];exact hR
         have r2:=HX.out.row (Nat.le_refl m) (Nat.le_refl m) HB.out.size hB2 hR2 HWT.out
         have lbx:bx<wo.heap.size:=lt_of_cell S0.out
         have hl2:(L1.row m rq ra j qp F).lab bx=(0,0,0):=(SLay.row_lab lbx hR.ge fun k hk b hb=>(hR.off k hk b hb).1).trans HL0.out
         have hg2:(L1.row m rq ra j qp F).bg=bg:=HBG.out
         obtain ⟨L2,hL2⟩:∃ L,L=L1.row m rq ra j qp F:=⟨_,rfl⟩
         have hrqq:L2.rq m=rq∧L2.ra m=ra:=by rw [hL2];exact ⟨upd_same _ _ _,upd_same _ _ _⟩
         rw [← hL2] at r2 hl2 hg2
         have x6:=cell_later hB2 X6.out
         have x7:=cell_later hB2 X7.out
         have s0:=cell_later hB2 S0.out
         have s2:=cell_later hB2 S2.out
         have hB3:=Below.step HB.out hB2
         obtain ⟨W5,rfl⟩:∃ W:World,W=wr:=⟨_,rfl⟩
         clear hR hR2 b61 hB2 hL2 lbx
         go_upto_region 15 with fail
         refine wp_region_held_drew (S:=fun _=>True) (by kernel_rfl) trivial (fun hTr=>?_)
         refine takeH (i:=0) (v:=?v0) rfl (by kernel_rfl) (fun _ _ _ h=>h) (by rfl) ?hy0 trivial ?rest0
         case hy0=>(intro w hSw;go_simp;try with_reducible rfl)
         (try simp only [Act.put,List.setIfInBounds_toArray,List.set_cons_zero,List.set_cons_succ])
         refine takeH (i:=1) (v:=?v1) rfl (by kernel_rfl) (fun _ _ _ h=>h) (by rfl) ?hy1 trivial ?rest1
         case hy1=>(intro w hSw;go_simp;try with_reducible rfl)
         (try simp only [Act.put,List.setIfInBounds_toArray,List.set_cons_zero,List.set_cons_succ])
         refine takeH (i:=2) (v:=?v2) rfl (by kernel_rfl) (fun _ _ _ h=>h) (by rfl) ?hy2 trivial ?rest2
         case hy2=>(intro w hSw;go_simp;try with_reducible rfl)
         (try simp only [Act.put,List.setIfInBounds_toArray,List.set_cons_zero,List.set_cons_succ])
         refine takeH (i:=3) (v:=?v3) rfl (by kernel_rfl) (fun _ _ _ h=>h) (by rfl) ?hy3 trivial ?rest3
         case hy3=>(intro w hSw;go_simp;try with_reducible rfl)
         (try simp only [Act.put,List.setIfInBounds_toArray,List.set_cons_zero,List.set_cons_succ])
         refine takeH (i:=4) (v:=?v4) rfl (by kernel_rfl) (fun _ _ _ h=>h) (by rfl) ?hy4 trivial ?rest4
         case hy4=>(intro w hSw;go_simp;try with_reducible rfl)
         (try simp only [Act.put,List.setIfInBounds_toArray,List.set_cons_zero,List.set_cons_succ])
         refine takeH (i:=6) (v:=?v6) rfl (by kernel_rfl) (fun _ _ _ h=>h) (by rfl) ?hy6 trivial ?rest6
         case hy6=>(intro w hSw;go_simp;try with_reducible rfl)
         (try simp only [Act.put,List.setIfInBounds_toArray,List.set_cons_zero,List.set_cons_succ])
         refine takeH (i:=9) (v:=?v9) rfl (by kernel_rfl) (fun _ _ _ h=>h) (by rfl) ?hy9 trivial ?rest9
         case hy9=>(intro w hSw;go_simp;try with_reducible rfl)
         (try simp only [Act.put,List.setIfInBounds_toArray,List.set_cons_zero,List.set_cons_succ])
         refine takeH (i:=10) (v:=?v10) rfl (by kernel_rfl) (fun _ _ _ h=>h) (by rfl) ?hy10 trivial ?rest10
         case hy10=>(intro w hSw;go_simp;try with_reducible rfl)
         (try simp only [Act.put,List.setIfInBounds_toArray,List.set_cons_zero,List.set_cons_succ])
         refine takeH (i:=11) (v:=?v11) rfl (by kernel_rfl) (fun _ _ _ h=>h) (by rfl) ?hy11 trivial ?rest11
         case hy11=>(intro w hSw;go_simp;try with_reducible rfl)
         (try simp only [Act.put,List.setIfInBounds_toArray,List.set_cons_zero,List.set_cons_succ])
         refine takeH (i:=13) (v:=?v13) rfl (by kernel_rfl) (fun _ _ _ h=>h) (by rfl) ?hy13 trivial ?rest13
         case hy13=>(intro w hSw;go_simp;try with_reducible rfl)
         (try simp only [Act.put,List.setIfInBounds_toArray,List.set_cons_zero,List.set_cons_succ])
         have hSd:W5.drew.cell? ⟨x,6,none⟩=some vq∧W5.drew.cell? ⟨x,7,none⟩=some va:=⟨cell_dr x6,cell_dr x7⟩
         refine wpAnyH_of_U (fun w'=>w'.cell? ⟨x,6,none⟩=some vq∧w'.cell? ⟨x,7,none⟩=some va) [18,19,20,21] _ _ _ _ ?_
         refine takeUw (i:=5) (v:=?v5) rfl (by kernel_rfl) (fun _ _ _ h=>h) (by rfl) ?hy5 hSd ?rest5
         case hy5=>(intro w hSw;(try dsimp only at hSw);go_simp;try with_reducible rfl)
         (try simp only [Act.put,List.setIfInBounds_toArray,List.set_cons_zero,List.set_cons_succ])
         refine takeUw (i:=12) (v:=?v12) rfl (by kernel_rfl) (fun _ _ _ h=>h) (by rfl) ?hy12 hSd ?rest12
         case hy12=>(intro w hSw;(try dsimp only at hSw);go_simp;try with_reducible rfl)
         (try simp only [Act.put,List.setIfInBounds_toArray,List.set_cons_zero,List.set_cons_succ])
         obtain ⟨V0,hV0⟩:∃ X,X=W5.drew:=⟨_,rfl⟩
         rw [← hV0] at hSd ⊢
         have P0:Pk w x Gs j cr m bx bg n gcap rq ra V0 L2 vq va m m:=by rw [hV0];exact (show Pk w x Gs j cr m bx bg n gcap rq ra W5 L2 vq va m m from ⟨r2,s0,s2,hl2,hg2,hB3,hrqq.1,hrqq.2⟩).below (Below.refl _ _).drew
         clear hV0 x6 x7 s0 s2 r2 hl2 hg2 hB3 hrqq
         have le1:m+1≤maxLen:=by unfold maxLen;omega
         have le2:(m+1)*24≤140737488355328:=by omega
         obtain ⟨iq2,q1,q2,q3,q4⟩:=info_parts infoSq
         obtain ⟨ie2,e1,e2,e3,e4⟩:=info_parts infoSe
         refine readyU (rs:=[7,14]) (by kernel_rfl) (by simp) ?_
         refine consU rfl (fun K hK=>?_) (consU rfl (fun K hK=>?_) (nilU))
         ·skip
          go_simp
          obtain ⟨V1,hW1⟩:∃ X,X=V0.alloc (.cells #[.slice (some ⟨rq,0,none⟩) j j] 101):=⟨_,rfl⟩
          rw [← hW1]
          have hb1:Below V0.heap.size V0 V1:=by rw [hW1];exact below_a _ _
          have P1:=P0.below hb1
          have S1:V1.cell? ⟨x,6,none⟩=some vq∧V1.cell? ⟨x,7,none⟩=some va:=⟨cell_later hb1 hSd.1,cell_later hb1 hSd.2⟩
          have c1:V1.cell? ⟨V0.heap.size,0,none⟩=some (.slice (some ⟨rq,0,none⟩) j j):=by rw [hW1];exact cell_nw V0 _ _ 0 _ rfl
          have n1:=P0.raw.none_at (Nat.le_refl _)
          refine hK.out _ _ S1 (fun hH1=>?_)
          clear hK K hW1
          (try simp only [Act.put,List.setIfInBounds_toArray,List.set_cons_zero,List.set_cons_succ])
          refine readyU (rs:=[8,14]) (by kernel_rfl) (by simp) ?_
          refine consU rfl (fun K hK=>?_) (consU rfl (fun K hK=>?_) (nilU))
          ·skip
           refine step_append_own2 rfl (.tmp 68) (.tmp 70) 97 rfl w.heap.size 101 iq2 (.slice none 0 0) 1 24 Tryz.underlying97 q1 q2 q3 q4 rfl (by decide) vq m (rowsN L2.rq j m) rfl P1.raw.oq ⟨V0.heap.size,0,none⟩ 1 1 [.slice (some ⟨rq,0,none⟩) j j] rfl rfl (one_cell c1) one_slice le1 le2 P1.bel.size (by decide) ?_
           intro vq2 V2 hown2 hg2 hp2
           obtain ⟨gb2,cb2,rfl⟩:=own_some hown2
           obtain ⟨LL2,P2,kc2⟩:=P1.appq hg2 hown2 hp2
           have S2:V2.cell? ⟨x,6,none⟩=some vq∧V2.cell? ⟨x,7,none⟩=some va:=⟨kc2 _ _ _ (Or.inr rfl) S1.1,kc2 _ _ _ (Or.inr rfl) S1.2⟩
           refine hK.out _ _ S2 (fun hH2=>?_)
           clear hK K hown2 hg2 hp2 kc2
           (try simp only [Act.put,List.setIfInBounds_toArray,List.set_cons_zero,List.set_cons_succ])
           refine readyU (rs:=[14]) (by kernel_rfl) (by simp) ?_
           refine consU rfl (fun K hK=>?_) (nilU)
           go_simp
           obtain ⟨V3,hW3⟩:∃ X,X=V2.alloc (.cells #[.slice (some ⟨ra,0,none⟩) j j] 102):=⟨_,rfl⟩
           rw [← hW3]
           have hb3:Below V2.heap.size V2 V3:=by rw [hW3];exact below_a _ _
           have P3:=P2.below hb3
           have S3:V3.cell? ⟨x,6,none⟩=some vq∧V3.cell? ⟨x,7,none⟩=some va:=⟨cell_later hb3 S2.1,cell_later hb3 S2.2⟩
           have c3:V3.cell? ⟨V2.heap.size,0,none⟩=some (.slice (some ⟨ra,0,none⟩) j j):=by rw [hW3];exact cell_nw V2 _ _ 0 _ rfl
           have n3:=P2.raw.none_at (Nat.le_refl _)
           refine hK.out _ _ S3 (fun hH3=>?_)
           clear hK K hW3
           (try simp only [Act.put,List.setIfInBounds_toArray,List.set_cons_zero,List.set_cons_succ])
           refine readyU (rs:=[15]) (by kernel_rfl) (by simp) ?_
           refine consU rfl (fun K hK=>?_) (nilU)
           refine step_append_own2 rfl (.tmp 75) (.tmp 77) 98 rfl w.heap.size 102 ie2 (.slice none 0 0) 1 24 Tryz.underlying98 e1 e2 e3 e4 rfl (by decide) va m (rowsN LL2.ra j m) rfl P3.raw.oa ⟨V2.heap.size,0,none⟩ 1 1 [.slice (some ⟨ra,0,none⟩) j j] rfl rfl (one_cell c3) one_slice le1 le2 P3.bel.size (by decide) ?_
           intro va4 V4 hown4 hg4 hp4
           obtain ⟨gb4,cb4,rfl⟩:=own_some hown4
           obtain ⟨LL4,P4,kc4⟩:=P3.appa hg4 hown4 hp4
           have S4:V4.cell? ⟨x,6,none⟩=some vq∧V4.cell? ⟨x,7,none⟩=some va:=⟨kc4 _ _ _ (Or.inr rfl) S3.1,kc4 _ _ _ (Or.inr rfl) S3.2⟩
           refine hK.out _ _ S4 (fun hH4=>?_)
           clear hK K hown4 hg4 hp4 kc4
           (try simp only [Act.put,List.setIfInBounds_toArray,List.set_cons_zero,List.set_cons_succ])
           refine readyU (rs:=[16]) (by kernel_rfl) (by simp) ?_
           refine consU rfl (fun K hK=>?_) nilU
           go_simp
           refine hK.out _ _ S4 (fun hH5=>?_)
           clear hK K
           (try simp only [Act.put,List.setIfInBounds_toArray,List.set_cons_zero,List.set_cons_succ])
           refine readyU (rs:=[17]) (by kernel_rfl) (by simp) ?_
           refine consU rfl (fun K hK=>?_) nilU
           go_simp
           refine hK.out _ _ S4 (fun hH6=>?_)
           clear hK K
           (try simp only [Act.put,List.setIfInBounds_toArray,List.set_cons_zero,List.set_cons_succ])
           have g6:=P4.raw.z 6
           have g7:=P4.raw.z 7
           have y6:=S4.1
           have y7:=S4.2
           have y7s:(V4.setCell ⟨x,6,none⟩ (.slice (some ⟨gb2,0,none⟩) (m+1) cb2)).cell? ⟨x,7,none⟩=some va:=cell_set_ne y7 (Or.inr (by decide))
           have g7s:(V4.setCell ⟨x,6,none⟩ (.slice (some ⟨gb2,0,none⟩) (m+1) cb2)).frozen? ⟨x,7,none⟩=false:=by rw [World.frozen?_setCell];exact g7
           refine readyU (rs:=[18]) (by kernel_rfl) (by simp) ?_
           refine consV rfl (by kernel_rfl) (fun K hK=>?_) nilU
           go_simp
           refine hK.out _ _ ?_
           clear hK K
           (try simp only [Act.put,List.setIfInBounds_toArray,List.set_cons_zero,List.set_cons_succ])
           refine readyU (rs:=[19]) (by kernel_rfl) (by simp) ?_
           refine consV rfl (by kernel_rfl) (fun K hK=>?_) nilU
           go_simp
           refine hK.out _ _ ?_
           clear hK K
           (try simp only [Act.put,List.setIfInBounds_toArray,List.set_cons_zero,List.set_cons_succ])
           refine readyU (rs:=[20]) (by kernel_rfl) (by simp) ?_
           refine consV rfl (by kernel_rfl) (fun K hK=>?_) nilU
           go_simp
           refine hK.out _ _ ?_
           clear hK K
           (try simp only [Act.put,List.setIfInBounds_toArray,List.set_cons_zero,List.set_cons_succ])
           refine readyU (rs:=[21]) (by kernel_rfl) (by simp) ?_
           refine consV rfl (by kernel_rfl) (fun K hK=>?_) nilU
           go_simp
           refine hK.out _ _ ?_
           clear hK K
           (try simp only [Act.put,List.setIfInBounds_toArray,List.set_cons_zero,List.set_cons_succ])
           refine doneU (by kernel_rfl) ?_ _
           have hwm:IntKind.i64.wrap ((m:Int)+1)=(m:Int)+1:=IntWalk.i64_in _ (by omega)
           have hwm':wrap64 ((m:Int)+1)=(m:Int)+1:=IntWalk.wrap64_in _ (by omega)
           have PF:=Lib.hid ((P4.field (Or.inl rfl) (.slice (some ⟨gb2,0,none⟩) (m+1) cb2)).field (Or.inr rfl) (.slice (some ⟨gb4,0,none⟩) (m+1) cb4))
           have Y6:=Lib.hid (show ((V4.setCell ⟨x,6,none⟩ (.slice (some ⟨gb2,0,none⟩) (m+1) cb2)).setCell ⟨x,7,none⟩ (.slice (some ⟨gb4,0,none⟩) (m+1) cb4)).cell? ⟨x,6,none⟩=some (.slice (some ⟨gb2,0,none⟩) (m+1) cb2) from cell_set_ne (cell_set_eq y6) (Or.inr (by decide)))
           have Y7:=Lib.hid (show ((V4.setCell ⟨x,6,none⟩ (.slice (some ⟨gb2,0,none⟩) (m+1) cb2)).setCell ⟨x,7,none⟩ (.slice (some ⟨gb4,0,none⟩) (m+1) cb4)).cell? ⟨x,7,none⟩=some (.slice (some ⟨gb4,0,none⟩) (m+1) cb4) from cell_set_eq y7s)
           clear y6 y7 y7s g6 g7 g7s
           go_wp2_with fail
           go_roundw
           case rel=>exact ⟨m+1,_,(.slice (some ⟨gb2,0,none⟩) (m+1) cb2),(.slice (some ⟨gb4,0,none⟩) (m+1) cb4),hlt,rfl,PF.out.raw,Y6.out,Y7.out,PF.out.b0,PF.out.b2,PF.out.lab,PF.out.lbg,PF.out.bel⟩
           case measure=>exact meas_lt hlt
          ·skip
           go_simp
           obtain ⟨V7,hW7⟩:∃ X,X=V1.alloc (.cells #[.slice (some ⟨ra,0,none⟩) j j] 102):=⟨_,rfl⟩
           rw [← hW7]
           have hb7:Below V1.heap.size V1 V7:=by rw [hW7];exact below_a _ _
           have P7:=P1.below hb7
           have S7:V7.cell? ⟨x,6,none⟩=some vq∧V7.cell? ⟨x,7,none⟩=some va:=⟨cell_later hb7 S1.1,cell_later hb7 S1.2⟩
           have c7:V7.cell? ⟨V1.heap.size,0,none⟩=some (.slice (some ⟨ra,0,none⟩) j j):=by rw [hW7];exact cell_nw V1 _ _ 0 _ rfl
           have n7:=P1.raw.none_at (Nat.le_refl _)
           have c1_7:=cell_later hb7 c1
           refine hK.out _ _ S7 (fun hH7=>?_)
           clear hK K hW7
           (try simp only [Act.put,List.setIfInBounds_toArray,List.set_cons_zero,List.set_cons_succ])
           refine readyU (rs:=[8]) (by kernel_rfl) (by simp) ?_
           refine consU rfl (fun K hK=>?_) (nilU)
           refine step_append_own2 rfl (.tmp 68) (.tmp 70) 97 rfl w.heap.size 101 iq2 (.slice none 0 0) 1 24 Tryz.underlying97 q1 q2 q3 q4 rfl (by decide) vq m (rowsN L2.rq j m) rfl P7.raw.oq ⟨V0.heap.size,0,none⟩ 1 1 [.slice (some ⟨rq,0,none⟩) j j] rfl rfl (one_cell c1_7) one_slice le1 le2 P7.bel.size (by decide) ?_
           intro vq8 V8 hown8 hg8 hp8
           obtain ⟨gb8,cb8,rfl⟩:=own_some hown8
           obtain ⟨LL8,P8,kc8⟩:=P7.appq hg8 hown8 hp8
           have S8:V8.cell? ⟨x,6,none⟩=some vq∧V8.cell? ⟨x,7,none⟩=some va:=⟨kc8 _ _ _ (Or.inr rfl) S7.1,kc8 _ _ _ (Or.inr rfl) S7.2⟩
           have c7_8:=kc8 _ _ _ (Or.inl n7) c7
           refine hK.out _ _ S8 (fun hH8=>?_)
           clear hK K hown8 hg8 hp8 kc8
           (try simp only [Act.put,List.setIfInBounds_toArray,List.set_cons_zero,List.set_cons_succ])
           refine readyU (rs:=[15]) (by kernel_rfl) (by simp) ?_
           refine consU rfl (fun K hK=>?_) (nilU)
           refine step_append_own2 rfl (.tmp 75) (.tmp 77) 98 rfl w.heap.size 102 ie2 (.slice none 0 0) 1 24 Tryz.underlying98 e1 e2 e3 e4 rfl (by decide) va m (rowsN LL8.ra j m) rfl P8.raw.oa ⟨V1.heap.size,0,none⟩ 1 1 [.slice (some ⟨ra,0,none⟩) j j] rfl rfl (one_cell c7_8) one_slice le1 le2 P8.bel.size (by decide) ?_
           intro va9 V9 hown9 hg9 hp9
           obtain ⟨gb9,cb9,rfl⟩:=own_some hown9
           obtain ⟨LL9,P9,kc9⟩:=P8.appa hg9 hown9 hp9
           have S9:V9.cell? ⟨x,6,none⟩=some vq∧V9.cell? ⟨x,7,none⟩=some va:=⟨kc9 _ _ _ (Or.inr rfl) S8.1,kc9 _ _ _ (Or.inr rfl) S8.2⟩
           refine hK.out _ _ S9 (fun hH9=>?_)
           clear hK K hown9 hg9 hp9 kc9
           (try simp only [Act.put,List.setIfInBounds_toArray,List.set_cons_zero,List.set_cons_succ])
           refine readyU (rs:=[16]) (by kernel_rfl) (by simp) ?_
           refine consU rfl (fun K hK=>?_) nilU
           go_simp
           refine hK.out _ _ S9 (fun hH10=>?_)
           clear hK K
           (try simp only [Act.put,List.setIfInBounds_toArray,List.set_cons_zero,List.set_cons_succ])
           refine readyU (rs:=[17]) (by kernel_rfl) (by simp) ?_
           refine consU rfl (fun K hK=>?_) nilU
           go_simp
           refine hK.out _ _ S9 (fun hH11=>?_)
           clear hK K
           (try simp only [Act.put,List.setIfInBounds_toArray,List.set_cons_zero,List.set_cons_succ])
           have g6:=P9.raw.z 6
           have g7:=P9.raw.z 7
           have y6:=S9.1
           have y7:=S9.2
           have y7s:(V9.setCell ⟨x,6,none⟩ (.slice (some ⟨gb8,0,none⟩) (m+1) cb8)).cell? ⟨x,7,none⟩=some va:=cell_set_ne y7 (Or.inr (by decide))
           have g7s:(V9.setCell ⟨x,6,none⟩ (.slice (some ⟨gb8,0,none⟩) (m+1) cb8)).frozen? ⟨x,7,none⟩=false:=by rw [World.frozen?_setCell];exact g7
           refine readyU (rs:=[18]) (by kernel_rfl) (by simp) ?_
           refine consV rfl (by kernel_rfl) (fun K hK=>?_) nilU
           go_simp
           refine hK.out _ _ ?_
           clear hK K
           (try simp only [Act.put,List.setIfInBounds_toArray,List.set_cons_zero,List.set_cons_succ])
           refine readyU (rs:=[19]) (by kernel_rfl) (by simp) ?_
           refine consV rfl (by kernel_rfl) (fun K hK=>?_) nilU
           go_simp
           refine hK.out _ _ ?_
           clear hK K
           (try simp only [Act.put,List.setIfInBounds_toArray,List.set_cons_zero,List.set_cons_succ])
           refine readyU (rs:=[20]) (by kernel_rfl) (by simp) ?_
           refine consV rfl (by kernel_rfl) (fun K hK=>?_) nilU
           go_simp
           refine hK.out _ _ ?_
           clear hK K
           (try simp only [Act.put,List.setIfInBounds_toArray,List.set_cons_zero,List.set_cons_succ])
           refine readyU (rs:=[21]) (by kernel_rfl) (by simp) ?_
           refine consV rfl (by kernel_rfl) (fun K hK=>?_) nilU
           go_simp
           refine hK.out _ _ ?_
           clear hK K
           (try simp only [Act.put,List.setIfInBounds_toArray,List.set_cons_zero,List.set_cons_succ])
           refine doneU (by kernel_rfl) ?_ _
           have hwm:IntKind.i64.wrap ((m:Int)+1)=(m:Int)+1:=IntWalk.i64_in _ (by omega)
           have hwm':wrap64 ((m:Int)+1)=(m:Int)+1:=IntWalk.wrap64_in _ (by omega)
           have PF:=Lib.hid ((P9.field (Or.inl rfl) (.slice (some ⟨gb8,0,none⟩) (m+1) cb8)).field (Or.inr rfl) (.slice (some ⟨gb9,0,none⟩) (m+1) cb9))
           have Y6:=Lib.hid (show ((V9.setCell ⟨x,6,none⟩ (.slice (some ⟨gb8,0,none⟩) (m+1) cb8)).setCell ⟨x,7,none⟩ (.slice (some ⟨gb9,0,none⟩) (m+1) cb9)).cell? ⟨x,6,none⟩=some (.slice (some ⟨gb8,0,none⟩) (m+1) cb8) from cell_set_ne (cell_set_eq y6) (Or.inr (by decide)))
           have Y7:=Lib.hid (show ((V9.setCell ⟨x,6,none⟩ (.slice (some ⟨gb8,0,none⟩) (m+1) cb8)).setCell ⟨x,7,none⟩ (.slice (some ⟨gb9,0,none⟩) (m+1) cb9)).cell? ⟨x,7,none⟩=some (.slice (some ⟨gb9,0,none⟩) (m+1) cb9) from cell_set_eq y7s)
           clear y6 y7 y7s g6 g7 g7s
           go_wp2_with fail
           go_roundw
           case rel=>exact ⟨m+1,_,(.slice (some ⟨gb8,0,none⟩) (m+1) cb8),(.slice (some ⟨gb9,0,none⟩) (m+1) cb9),hlt,rfl,PF.out.raw,Y6.out,Y7.out,PF.out.b0,PF.out.b2,PF.out.lab,PF.out.lbg,PF.out.bel⟩
           case measure=>exact meas_lt hlt
         ·skip
          go_simp
          obtain ⟨V12,hW12⟩:∃ X,X=V0.alloc (.cells #[.slice (some ⟨ra,0,none⟩) j j] 102):=⟨_,rfl⟩
          rw [← hW12]
          have hb12:Below V0.heap.size V0 V12:=by rw [hW12];exact below_a _ _
          have P12:=P0.below hb12
          have S12:V12.cell? ⟨x,6,none⟩=some vq∧V12.cell? ⟨x,7,none⟩=some va:=⟨cell_later hb12 hSd.1,cell_later hb12 hSd.2⟩
          have c12:V12.cell? ⟨V0.heap.size,0,none⟩=some (.slice (some ⟨ra,0,none⟩) j j):=by rw [hW12];exact cell_nw V0 _ _ 0 _ rfl
          have n12:=P0.raw.none_at (Nat.le_refl _)
          refine hK.out _ _ S12 (fun hH12=>?_)
          clear hK K hW12
          (try simp only [Act.put,List.setIfInBounds_toArray,List.set_cons_zero,List.set_cons_succ])
          refine readyU (rs:=[7]) (by kernel_rfl) (by simp) ?_
          refine consU rfl (fun K hK=>?_) (nilU)
          go_simp
          obtain ⟨V13,hW13⟩:∃ X,X=V12.alloc (.cells #[.slice (some ⟨rq,0,none⟩) j j] 101):=⟨_,rfl⟩
          rw [← hW13]
          have hb13:Below V12.heap.size V12 V13:=by rw [hW13];exact below_a _ _
          have P13:=P12.below hb13
          have S13:V13.cell? ⟨x,6,none⟩=some vq∧V13.cell? ⟨x,7,none⟩=some va:=⟨cell_later hb13 S12.1,cell_later hb13 S12.2⟩
          have c13:V13.cell? ⟨V12.heap.size,0,none⟩=some (.slice (some ⟨rq,0,none⟩) j j):=by rw [hW13];exact cell_nw V12 _ _ 0 _ rfl
          have n13:=P12.raw.none_at (Nat.le_refl _)
          have c12_13:=cell_later hb13 c12
          refine hK.out _ _ S13 (fun hH13=>?_)
          clear hK K hW13
          (try simp only [Act.put,List.setIfInBounds_toArray,List.set_cons_zero,List.set_cons_succ])
          refine readyU (rs:=[8]) (by kernel_rfl) (by simp) ?_
          refine consU rfl (fun K hK=>?_) (nilU)
          refine step_append_own2 rfl (.tmp 68) (.tmp 70) 97 rfl w.heap.size 101 iq2 (.slice none 0 0) 1 24 Tryz.underlying97 q1 q2 q3 q4 rfl (by decide) vq m (rowsN L2.rq j m) rfl P13.raw.oq ⟨V12.heap.size,0,none⟩ 1 1 [.slice (some ⟨rq,0,none⟩) j j] rfl rfl (one_cell c13) one_slice le1 le2 P13.bel.size (by decide) ?_
          intro vq14 V14 hown14 hg14 hp14
          obtain ⟨gb14,cb14,rfl⟩:=own_some hown14
          obtain ⟨LL14,P14,kc14⟩:=P13.appq hg14 hown14 hp14
          have S14:V14.cell? ⟨x,6,none⟩=some vq∧V14.cell? ⟨x,7,none⟩=some va:=⟨kc14 _ _ _ (Or.inr rfl) S13.1,kc14 _ _ _ (Or.inr rfl) S13.2⟩
          have c12_13_14:=kc14 _ _ _ (Or.inl n12) c12_13
          refine hK.out _ _ S14 (fun hH14=>?_)
          clear hK K hown14 hg14 hp14 kc14
          (try simp only [Act.put,List.setIfInBounds_toArray,List.set_cons_zero,List.set_cons_succ])
          refine readyU (rs:=[15]) (by kernel_rfl) (by simp) ?_
          refine consU rfl (fun K hK=>?_) (nilU)
          refine step_append_own2 rfl (.tmp 75) (.tmp 77) 98 rfl w.heap.size 102 ie2 (.slice none 0 0) 1 24 Tryz.underlying98 e1 e2 e3 e4 rfl (by decide) va m (rowsN LL14.ra j m) rfl P14.raw.oa ⟨V0.heap.size,0,none⟩ 1 1 [.slice (some ⟨ra,0,none⟩) j j] rfl rfl (one_cell c12_13_14) one_slice le1 le2 P14.bel.size (by decide) ?_
          intro va15 V15 hown15 hg15 hp15
          obtain ⟨gb15,cb15,rfl⟩:=own_some hown15
          obtain ⟨LL15,P15,kc15⟩:=P14.appa hg15 hown15 hp15
          have S15:V15.cell? ⟨x,6,none⟩=some vq∧V15.cell? ⟨x,7,none⟩=some va:=⟨kc15 _ _ _ (Or.inr rfl) S14.1,kc15 _ _ _ (Or.inr rfl) S14.2⟩
          refine hK.out _ _ S15 (fun hH15=>?_)
          clear hK K hown15 hg15 hp15 kc15
          (try simp only [Act.put,List.setIfInBounds_toArray,List.set_cons_zero,List.set_cons_succ])
          refine readyU (rs:=[16]) (by kernel_rfl) (by simp) ?_
          refine consU rfl (fun K hK=>?_) nilU
          go_simp
          refine hK.out _ _ S15 (fun hH16=>?_)
          clear hK K
          (try simp only [Act.put,List.setIfInBounds_toArray,List.set_cons_zero,List.set_cons_succ])
          refine readyU (rs:=[17]) (by kernel_rfl) (by simp) ?_
          refine consU rfl (fun K hK=>?_) nilU
          go_simp
          refine hK.out _ _ S15 (fun hH17=>?_)
          clear hK K
          (try simp only [Act.put,List.setIfInBounds_toArray,List.set_cons_zero,List.set_cons_succ])
          have g6:=P15.raw.z 6
          have g7:=P15.raw.z 7
          have y6:=S15.1
          have y7:=S15.2
          have y7s:(V15.setCell ⟨x,6,none⟩ (.slice (some ⟨gb14,0,none⟩) (m+1) cb14)).cell? ⟨x,7,none⟩=some va:=cell_set_ne y7 (Or.inr (by decide))
          have g7s:(V15.setCell ⟨x,6,none⟩ (.slice (some ⟨gb14,0,none⟩) (m+1) cb14)).frozen? ⟨x,7,none⟩=false:=by rw [World.frozen?_setCell];exact g7
          refine readyU (rs:=[18]) (by kernel_rfl) (by simp) ?_
          refine consV rfl (by kernel_rfl) (fun K hK=>?_) nilU
          go_simp
          refine hK.out _ _ ?_
          clear hK K
          (try simp only [Act.put,List.setIfInBounds_toArray,List.set_cons_zero,List.set_cons_succ])
          refine readyU (rs:=[19]) (by kernel_rfl) (by simp) ?_
          refine consV rfl (by kernel_rfl) (fun K hK=>?_) nilU
          go_simp
          refine hK.out _ _ ?_
          clear hK K
          (try simp only [Act.put,List.setIfInBounds_toArray,List.set_cons_zero,List.set_cons_succ])
          refine readyU (rs:=[20]) (by kernel_rfl) (by simp) ?_
          refine consV rfl (by kernel_rfl) (fun K hK=>?_) nilU
          go_simp
          refine hK.out _ _ ?_
          clear hK K
          (try simp only [Act.put,List.setIfInBounds_toArray,List.set_cons_zero,List.set_cons_succ])
          refine readyU (rs:=[21]) (by kernel_rfl) (by simp) ?_
          refine consV rfl (by kernel_rfl) (fun K hK=>?_) nilU
          go_simp
          refine hK.out _ _ ?_
          clear hK K
          (try simp only [Act.put,List.setIfInBounds_toArray,List.set_cons_zero,List.set_cons_succ])
          refine doneU (by kernel_rfl) ?_ _
          have hwm:IntKind.i64.wrap ((m:Int)+1)=(m:Int)+1:=IntWalk.i64_in _ (by omega)
          have hwm':wrap64 ((m:Int)+1)=(m:Int)+1:=IntWalk.wrap64_in _ (by omega)
          have PF:=Lib.hid ((P15.field (Or.inl rfl) (.slice (some ⟨gb14,0,none⟩) (m+1) cb14)).field (Or.inr rfl) (.slice (some ⟨gb15,0,none⟩) (m+1) cb15))
          have Y6:=Lib.hid (show ((V15.setCell ⟨x,6,none⟩ (.slice (some ⟨gb14,0,none⟩) (m+1) cb14)).setCell ⟨x,7,none⟩ (.slice (some ⟨gb15,0,none⟩) (m+1) cb15)).cell? ⟨x,6,none⟩=some (.slice (some ⟨gb14,0,none⟩) (m+1) cb14) from cell_set_ne (cell_set_eq y6) (Or.inr (by decide)))
          have Y7:=Lib.hid (show ((V15.setCell ⟨x,6,none⟩ (.slice (some ⟨gb14,0,none⟩) (m+1) cb14)).setCell ⟨x,7,none⟩ (.slice (some ⟨gb15,0,none⟩) (m+1) cb15)).cell? ⟨x,7,none⟩=some (.slice (some ⟨gb15,0,none⟩) (m+1) cb15) from cell_set_eq y7s)
          clear y6 y7 y7s g6 g7 g7s
          go_wp2_with fail
          go_roundw
          case rel=>exact ⟨m+1,_,(.slice (some ⟨gb14,0,none⟩) (m+1) cb14),(.slice (some ⟨gb15,0,none⟩) (m+1) cb15),hlt,rfl,PF.out.raw,Y6.out,Y7.out,PF.out.b0,PF.out.b2,PF.out.lab,PF.out.lbg,PF.out.bel⟩
          case measure=>exact meas_lt hlt
    ·obtain rfl:m=n:=by omega
     have z0:decide ((m:Int)<(m:Int))=false:=decide_eq_false (by omega)
     obtain ⟨L',hS,hge⟩:=hX.done HNN.out hp x6 x7
     have HS:=Lib.hid hS
     have HGE:=Lib.hid hge
     have HB:=Lib.hid hB
     clear hX hS hge hB x6 x7 s0 s2 hl0 hbg
     go_wp2_with fail
     go_ret2
     exact ⟨x,L',rfl,HS.out,HGE.out,HB.out⟩
end Go.Proofs.YtapnaocdehahdaaGreat
