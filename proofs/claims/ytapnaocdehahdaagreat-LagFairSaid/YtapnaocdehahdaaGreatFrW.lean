/-
  The walk of LagFair.
-/
import Derived.Test.YtapnaocdehahdaaGreatFrV
import Derived.Test.YtapnaocdehahdaaGreatFrN
import Derived.Test.YtapnaocdehahdaaGreatMdN
namespace Go.Proofs.YtapnaocdehahdaaGreat
open Go.RowKit Go.Maps Go.IntWalk Go.Lib Go.Sort
set_option linter.unusedVariables false
theorem cellB {B:Nat} {w w':World} {b o:Nat} {v:Value} (hb:Below B w w') (hl:b<B) (h:w.cell? ⟨b,o,none⟩=some v):w'.cell? ⟨b,o,none⟩=some v:=(World.cell?_of_block (w:=w) (a:=⟨b,o,none⟩) (hb.block b hl)).trans h
structure FrI (B:Nat) (w wr:World) (x p g bm cap b:Nat) (l:List (Int×Int)) (m:MSt) (L:List (Int×Int×Int)):Prop where
 mb:MB B wr x m
 meter:MeterAt wr p g bm cap L l.length
 pairs:PairsAt wr b 0 l
 bel:Below w.heap.size w wr
 size:B≤wr.heap.size
section
variable {B:Nat} {w wr w':World} {x p g bm cap b:Nat} {l:List (Int×Int)} {m m':MSt} {L L':List (Int×Int×Int)}
theorem FrI.later (h:FrI B w wr x p g bm cap b l m L) (hb:Below wr.heap.size wr w'):FrI B w w' x p g bm cap b l m L:=
 ⟨h.mb.later hb,h.meter.below hb,h.pairs.later hb,Below.step h.bel hb,Nat.le_trans h.size hb.size⟩
theorem FrI.did (h:FrI B w wr x p g bm cap b l m L) (hm:MB B w' x m') (hb:Below B wr w') (hl:p<B∧g<B∧bm<B∧b<B∧w.heap.size≤B):FrI B w w' x p g bm cap b l m' L:=
 ⟨hm,h.meter.frame (hb.block p hl.1) (hb.block g hl.2.1) (hb.block bm hl.2.2.1),fun j y hy=>⟨cellB hb hl.2.2.2.1 (h.pairs j y hy).1,cellB hb hl.2.2.2.1 (h.pairs j y hy).2⟩,
  h.bel.trans ⟨hb.os,hb.tape,hb.output,hb.size,fun k hk=>hb.block k (by omega)⟩,Nat.le_trans h.size hb.size⟩
theorem FrI.ran (h:FrI B w wr x p g bm cap b l m L) (hM:MeterAt w' p g bm cap L' l.length) (hk:Kept [p,g] wr w') (hl:p<B∧g<B∧b≠p∧b≠g∧w.heap.size≤p∧w.heap.size≤g):FrI B w w' x p g bm cap b l m L':=
 ⟨h.mb.kept hk (fun c q=>by simp at q;omega),hM,fun j y hy=>⟨hk.cellAt (h.pairs j y hy).1 (by simp;omega),hk.cellAt (h.pairs j y hy).2 (by simp;omega)⟩,Kept.stepB h.bel (Nat.le_refl _) hk (fun c q=>by simp at q;omega),Nat.le_trans h.size hk.size⟩
end
theorem fz_start:FZ (freshM [(0,1)] 1 0) []:=
 ⟨⟨rfl,rfl,rfl,rfl,(fun i y x h=>by cases h),⟨rfl,rfl,(by show FlOk 0;unfold FlOk;omega)⟩,⟨Int.le_refl 0,(by decide:(0:Int)≤4194304)⟩,Or.inl rfl⟩,(fun x h=>by cases h),rfl⟩
theorem lok_take {L:List (Int×Int×Int)} (h:LOk L) (k:Nat):LOk (L.take k):=⟨fun x hx=>h.each x (List.mem_of_mem_take hx),h.ids.sublist (List.take_sublist _ _)⟩
theorem ran0_at {l:List (Int×Int)} {k:Nat} {y:Int×Int} (h:l[k]?=some y):(ran0 l)[k]?=some (y.1,y.2,0):=by unfold ran0;rw [List.getElem?_map,h];rfl
theorem take_ran0 {l:List (Int×Int)} {k:Nat} {y:Int×Int} (h:l[k]?=some y):(ran0 l).take (k+1)=(ran0 l).take k++[(y.1,y.2,0)]:=by rw [List.take_add_one,ran0_at h];rfl
theorem fr_spawn {l:List (Int×Int)} (hL:LOk (ran0 l)) {k:Nat} {y:Int×Int} (hy:l[k]?=some y) {m:MSt} (h:FZ m ((ran0 l).take k)):MOk2 m∧MOk2 (spawnM0 m 0 ⟨1,0,y.1,0,y.2,0,0,1⟩)∧(1≤y.1∧y.1≤65535)∧(1≤y.2∧y.2≤65536)∧(∀ z∈m.ts,z.id<y.1)∧FZ (riseM (spawnM0 m 0 ⟨1,0,y.1,0,y.2,0,0,1⟩)) ((ran0 l).take (k+1))∧m.C=1:=by
 have hy0:=ran0_at hy
 have he:=hL.each _ (List.mem_of_getElem? hy0)
 have hs:=FZ.spawn (o:=⟨1,0,y.1,0,y.2,0,0,1⟩) h rfl he.2.1
 rw [← take_ran0 hy] at hs
 refine ⟨h.fs.ok (lok_take hL k),hs.fs.ok (lok_take hL _),he.1,he.2.1,fun z hz=>?_,hs.rise (lok_take hL _),h.fs.C⟩
 obtain ⟨x,hx,t⟩:=h.fs.mem hz
 rw [t.id]
 obtain ⟨j,hj⟩:=List.getElem?_of_mem hx
 have hjk:j<k:=by
  have:=(List.getElem?_eq_some_iff.1 hj).1
  rw [List.length_take] at this
  omega
 rw [List.getElem?_take_of_lt hjk] at hj
 obtain ⟨l1,e1⟩:=List.getElem?_eq_some_iff.1 hj
 obtain ⟨l2,e2⟩:=List.getElem?_eq_some_iff.1 hy0
 have:=List.pairwise_iff_getElem.1 hL.ids j k l1 l2 hjk
 rw [e1,e2] at this
 exact this
theorem fr_turn {L:List (Int×Int×Int)} (hL:LOk L) (h0:L≠[]) {m:MSt} (h:FS m L) {d:Int} (hd:1≤d∧d≤4096) {k:Nat} (hk:k<120) (hc:m.cl 0≤4096*k) :
  ∃ (i:Nat) (y:TVw) (x:Int×Int×Int),L[i]?=some x∧(∀ x'∈L,(x.2.2*x'.2.1 - x'.2.2*x.2.1)*1048576≤x.2.1*x'.2.1)∧firstM m.sta 0=x.1∧MOk2 m∧MOk2 { m with cu:=upd m.cu 0 x.1 } ∧
   (let m1:=riseM { m with cu:=upd m.cu 0 x.1 }
   MOk2 m1∧m1.C=1∧m1.cu 0=x.1∧x.1≠0∧findM m1.ts x.1=(i:Int)∧m1.ts[i]?=some y∧y.g=0∧m1.cl 0+d≤281474976710656∧(LOk (bump L x.1 d)→MOk2 (tickM0 m1 0 i y d)∧FS (riseM (tickM0 m1 0 i y d)) (bump L x.1 d)∧(riseM (tickM0 m1 0 i y d)).cl 0≤4096*((k+1:Nat):Int))):=by
 obtain ⟨i,y,x,hy,hx,t,hf,hmin⟩:=h.first hL h0
 have hp:FS { m with cu:=upd m.cu 0 x.1 } L:=h.pick ⟨y,List.mem_of_getElem? hy,t.id⟩
 have hr:=hp.rise hL
 have he:=hL.each x (List.mem_of_getElem? hx)
 have hcl:=h.cl
 refine ⟨i,y,x,hx,hmin,by rw [hf,t.id],h.ok hL,hp.ok hL,hr.ok hL,hr.C,(show upd m.cu 0 x.1 0=x.1 from upd_same _ _ _),by omega,?_,hy,t.g,?_,fun hLb=>?_⟩
 ·rw [← t.id];exact findM_at (h.ids hL) hy
 ·show m.cl 0+d≤_;omega
 ·have htk:=hr.tick hL (i:=i) (y:=y) (x:=x) hy hx (d:=d) (by omega) (by show m.cl 0+d≤_;omega)
  rw [t.id] at htk
  refine ⟨htk.ok hLb,htk.rise hLb,?_⟩
  show upd m.cl 0 (m.cl 0+d) 0≤_
  rw [upd_same];omega
set_option maxRecDepth 100000 in
set_option maxHeartbeats 4000000 in
theorem LagFair_true (s0:Option Addr) (l0 c0:Nat) (F0:Nat→Nat→Value) (s1:Option Addr) (l1 c1:Nat) (F1:Nat→Nat→Value) (w:World) (r0:PlainRow [some .u16] w s0 l0 c0 F0) (r1:PlainRow [some .u16] w s1 l1 c1 F1) :
  Calls Tryz.prog 12 #[.slice s0 l0 c0,.slice s1 l1 c1] w fun e w'=>e=.returned (.bool true)∧Below w.heap.size w w':=by
 obtain ⟨ws,hws⟩:=words_of r0
 obtain ⟨rs,hrs⟩:=words_of r1
 obtain ⟨hsn,hsp,hs12⟩:=shV_ok ws hws.fit
 have A1:=Lib.hid (Shares_any s0 l0 c0 ws w hws)
 have hmax:=hrs.max
 have hle:=hrs.le
 obtain ⟨mm,hmm⟩:∃ m:Nat,m=min l1 120:=⟨_,rfl⟩
 have e0:min (l1:Int) 120=(mm:Int):=by omega
 have e9:min (0:Int) 120=0:=by decide
 have hmn:mm≤l1:=by omega
 have hm120:mm≤120:=by omega
 have HMM:=Lib.hid hmm
 have HR:=Lib.hid hrs
 have HSN:=Lib.hid hsn
 clear r0 r1 hws hrs hsn hmm
 go_enter Tryz.func12,Tryz.ntmps12
 go_wp2_with fail
 refine A1.out.mono ?_
 rintro e w1 ⟨b,cap,rfl,ho,hb1⟩
 obtain ⟨_,_,he,h⟩:=own_pairs ho
 have hpa:PairsAt w1 b 0 (shV ws):=by
  rcases h with h | ⟨_,_,e,h⟩
  ·rw [h] at hsp;simp at hsp
  ·cases he;cases e;exact h
 have HP:=Lib.hid hpa
 have A2:=Lib.hid (made_any b 0 cap (shV ws) none 0 0 [] w1 HSN.out hpa ⟨⟨rfl,fun h=>absurd h (by omega)⟩,Nat.le_refl _,by omega,fun _=>rfl,fun x hx=>by cases hx⟩)
 clear ho he h hpa A1
 go_wp2_with fail
 refine A2.out.mono ?_
 rintro e w2 ⟨p,g,bm,capm,rfl,hM,hok,hp1,hg1,hm1,hb2⟩
 have hM0:MeterAt w2 p g bm capm (ran0 (shV ws)) (shV ws).length:=hM
 have HN0:=Lib.hid (nxR_start HSN.out)
 have HM:=Lib.hid hM0
 have hbw2:=Below.step hb1 hb2
 have hb1s:=hb1.size
 have HP2:=Lib.hid (HP.out.later hb2)
 have hl:=hM0.lts
 have hbl:b<w2.heap.size:=by
  have:=HP2.out 0 (shV ws)[0] (List.getElem?_eq_getElem hsp)
  exact lt_of_cell this.1
 have hbb:b≠p∧b≠g:=by
  have:=HP.out 0 (shV ws)[0] (List.getElem?_eq_getElem hsp)
  have:=lt_of_cell this.1
  omega
 have hLL:=Lib.hid (lok_of HSN.out hM0.good (ran0_pw _) (by rw [ran0_R];omega))
 clear hM hM0 hok A2
 generalize shV ws=l at *
 obtain ⟨W3,hW3⟩:∃ W,W=w2.alloc (.cells #[.int .i64 0,.int .i64 1] 72):=⟨_,rfl⟩
 have hb3:Below w2.heap.size w2 W3:=by rw [hW3];exact below_a _ _
 have hs3:W3.heap.size=w2.heap.size+1:=by rw [hW3];simp
 have A3:=Lib.hid (show Calls Tryz.prog 38 #[.agg #[.int .i64 1,.int .u64 0,.slice (some ⟨w2.heap.size,0,none⟩) 1 1]] W3 fun e w'=>∃ x L,e=.returned (.tuple #[.pointer (some ⟨x,0,none⟩),.int .i64 0])∧MIn w' x L (freshM [(0,1)] 1 0)∧(∀ b,L.lab b≠(0,0)→W3.heap.size≤b)∧Below W3.heap.size W3 w' from
  mnew_at (w:=W3) (vb:=w2.heap.size) (cg:=1) (C:=1) (cr:=0) (Gs:=[(0,1)]) ⟨fun k hk=>by
   obtain rfl:k=0:=by simp at hk;omega
   rw [hW3]
   exact ⟨cell_nw w2 _ _ 0 _ rfl,cell_nw w2 _ _ 1 _ rfl⟩,fun j=>by rw [hW3];exact frz_nw _ _ _ _,by rw [hs3];omega⟩ (by decide) right1 (by decide) (by decide))
 have HW3:=Lib.hid hW3
 have HL3:=Lib.hid (show p<W3.heap.size∧g<W3.heap.size∧bm<W3.heap.size∧b<W3.heap.size∧w.heap.size≤W3.heap.size∧b≠p∧b≠g∧w.heap.size≤p∧w.heap.size≤g by have:=hb2.size;omega)
 have HM3:=Lib.hid (HM.out.below hb3)
 have HP3:=Lib.hid (HP2.out.later hb3)
 have HB3:=Lib.hid (Below.step hbw2 hb3)
 clear hb3 hs3 hW3 hbw2 hb1 hb2 hb1s hl hbl hbb hp1 hg1 hm1 HM HP2 HP
 go_wp2_with fail
 rw [← HW3.out]
 refine A3.out.mono ?_;rintro e w4 ⟨x,L0,rfl,hM4,hL4,hb4⟩
 obtain ⟨B,hB⟩:∃ B,B=W3.heap.size:=⟨_,rfl⟩
 rw [← hB] at hL4 HL3
 have I0:=Lib.hid (show FrI B w w4 x p g bm capm b l (freshM [(0,1)] 1 0) (ran0 l) from ⟨⟨L0,hM4,hL4⟩,HM3.out.below hb4,HP3.out.later hb4,Below.step HB3.out hb4,by rw [hB];exact hb4.size⟩)
 have Z0:=Lib.hid (show FZ (freshM [(0,1)] 1 0) ((ran0 l).take 0) from fz_start)
 have hl12:l.length≤12:=hs12
 clear hM4 hL4 hb4 A3 HM3 HP3 HB3 HW3 hB
 go_wp2_with fail
 go_loopw [44] (fun iv wr=>∃ (k:Nat) (m:MSt),k≤l.length∧iv=.int .i64 k∧Hid (FZ m ((ran0 l).take k))∧Hid (FrI B w wr x p g bm capm b l m (ran0 l))∧Hid (m.cl 0=0)) (fun iv _=>l.length - (RowKit.intOf iv).toNat)
 case atStart=>exact ⟨0,_,Nat.zero_le _,rfl,Z0,I0,Lib.hid rfl⟩
 case round =>
  clear I0 Z0
  obtain ⟨k,m,hk,rfl,HZ,HI,HC0⟩:=hrel
  by_cases hlt:k<l.length
  ·as_aux_lemma =>
   obtain ⟨⟨y1,y2⟩,hy⟩:∃ y,l[k]?=some y:=⟨_,List.getElem?_eq_getElem hlt⟩
   obtain ⟨c0',c1'⟩:=HI.out.pairs k _ hy
   simp only [Nat.zero_add] at c0' c1'
   have hki:(k:Int)<(l.length:Int):=by omega
   obtain ⟨o1,o2,o3,o4,o5,o6,o7⟩:=fr_spawn hLL.out hy HZ.out
   simp only at o3 o4 o5
   obtain ⟨W5,hW5⟩:∃ W,W=wr.alloc (.cells #[.int .i64 y1,.int .i64 y2] 90):=⟨_,rfl⟩
   have hb5:Below wr.heap.size wr W5:=by rw [hW5];exact below_a _ _
   have t0:W5.cell? ⟨wr.heap.size,0,none⟩=some (.int .i64 y1):=by rw [hW5];exact cell_nw wr _ _ 0 _ rfl
   have t1:W5.cell? ⟨wr.heap.size,1,none⟩=some (.int .i64 y2):=by rw [hW5];exact cell_nw wr _ _ 1 _ rfl
   have HI5:=Lib.hid (HI.out.later hb5)
   have AD:=Lib.hid (MB.spawn (o:=⟨1,0,y1,0,y2,0,0,1⟩) HI5.out.mb o1 o2 HI5.out.size rfl rfl o7 o3 rfl o4 rfl o5)
   have HZ6:=Lib.hid o6
   have HW5:=Lib.hid hW5
   unfold encO at AD
   simp only at AD
   clear o1 o2 o3 o4 o5 o6 o7 hb5 hW5 hy
   go_upto_region 9 with fail
   rw [← HW5.out]
   clear c0' c1'
   go_wp2_with fail
   refine AD.out.mono ?_;clear AD;rintro e w6 ⟨rfl,hm6,hb6⟩
   have HI6:=Lib.hid (HI5.out.did hm6 hb6 ⟨HL3.out.1,HL3.out.2.1,HL3.out.2.2.1,HL3.out.2.2.2.1,HL3.out.2.2.2.2.1⟩)
   clear hm6 hb6 t0 t1
   go_wp2_with fail
   go_roundw
   case rel=>exact ⟨k+1,_,by omega,by go_num,HZ6,HI6,Lib.hid HC0.out⟩
   case measure=>simp [RowKit.intOf];omega
  ·as_aux_lemma =>
   obtain rfl:k=l.length:=by omega
   have HF:=Lib.hid (show FS m (ran0 l) by have:=HZ.out.fs;rwa [List.take_of_length_le (by simp [ran0])] at this)
   have hki:¬ (l.length:Int)<(l.length:Int):=by omega
   clear HZ
   obtain ⟨w0,rfl⟩:∃ W:World,W=wr:=⟨_,rfl⟩
   have HIS:=HI
   have HMC:=Lib.hid (show m.cl 0≤4096*((0:Nat):Int) by have:=HC0.out;omega)
   clear HI
   rcases s1 with _ | ad
   ·have hc0:=HR.out.none rfl
    subst hc0
    have hn0:l1=0:=by omega
    subst hn0
    clear e0
    go_wp2_with fail
    refine wp_loop_rounds 1 ?_
    rw [rounds_succ]
    go_wp2_with fail
    refine (awake_true w0).mono ?_
    rintro e w3 ⟨rfl,hb3⟩
    go_wp2_with fail
    go_ret
    exact ⟨rfl,Below.step HIS.out.bel hb3⟩
   ·clear e9
    go_wp2_with fail
    go_loopw [13,67] (fun s i wr=>∃ (k:Nat) (L:List (Int×Int×Int)) (q:Int) (m:MSt),k≤mm∧i=.int .i64 k∧s=.int .i64 q∧Hid (FrI B w wr x p g bm capm b l m L)∧Hid (NxR l k L q)∧Hid (FS m L)∧Hid (m.cl 0≤4096*(k:Int))) (fun _ i _=>mm - (RowKit.intOf i).toNat)
    case atStart=>exact ⟨0,_,0,m,Nat.zero_le _,rfl,rfl,HIS,HN0,HF,HMC⟩
    case round =>
     clear HIS HF HMC HN0
     obtain ⟨k,L,q,m,hk,rfl,rfl,HI,HN,HF,HMC⟩:=hrel
     by_cases hlt:k<mm
     ·as_aux_lemma =>
      obtain ⟨br,offr,hadr,hcr⟩:=HR.out.row.2 (by omega)
      obtain rfl:=Option.some.inj hadr
      obtain ⟨xt,hx⟩:∃ x,rs[k]?=some x:=⟨_,List.getElem?_eq_getElem (by rw [HR.out.row.1];omega)⟩
      have q0:=cell_later HI.out.bel (hcr k xt hx)
      have hfx:=HR.out.fit xt (List.mem_of_getElem? hx)
      have hk0:(0:Int)≤(k:Int):=by omega
      have hkm:(k:Int)<(mm:Int):=by omega
      have hd0:0≤xt % 4096:=Int.emod_nonneg _ (by decide)
      have hd1:xt % 4096≤4095:=by have:=Int.emod_lt_of_pos xt (by decide:(0:Int)<4096);omega
      obtain ⟨d,hdd⟩:∃ d,d=1+xt % 4096:=⟨_,rfl⟩
      have hd:1≤d∧d≤4096:=by omega
      have hgood:=HI.out.meter.good
      have hLk:LOk L:=lok_of HSN.out hgood HN.out.pw (by have:=HN.out.sum;omega)
      obtain ⟨i,y,⟨id,xw,xr⟩,hxx,hmin,hfm,o1,o2,o3⟩:=fr_turn hLk (by intro e;have:=hgood.pos;rw [e] at this;simp at this) HF.out hd (k:=k) (by omega) HMC.out
      obtain ⟨p1,p2,p3,p4,p5,p6,p7,p8,p9⟩:=o3
      obtain ⟨s1,s2,s3,s4,s5⟩:=nxR_step HSN.out hs12 (by omega) hgood HN.out hxx hmin (d:=d) (by omega) hd.2
      simp only at hfm o2 p1 p3 p4 p5 p6 p8 p9 s1 s2 s3 s4 s5
      have hi:∃ z∈L,z.1=id:=⟨_,List.mem_of_getElem? hxx,rfl⟩
      have hgb:=hgood.bump hi (by omega:0≤d) (by have:=HN.out.sum;omega)
      have hLb:=lok_of HSN.out hgb s3.pw (by have:=s3.sum;omega)
      obtain ⟨u1,u2,u3⟩:=p9 hLb
      have AP:=Lib.hid (MB.pick (o:=⟨6,0,0,0,0,0,0,0⟩) HI.out.mb o1 (by rw [hfm];exact o2) HI.out.size rfl rfl HF.out.C)
      rw [hfm] at AP
      unfold encO at AP
      simp only at AP
      have AT:=Lib.hid fun (W:World) (hW:MB B W x (riseM { m with cu:=upd m.cu 0 id })) (hs:B≤W.heap.size)=>MB.tick (o:=⟨5,0,0,0,0,0,d,0⟩) (i:=i) (y:=y) hW p1 u1 hs rfl rfl p2 (by show 1≤d∧d≤4294967295;omega) p8 (by rw [p3];exact p4) (by rw [p3];exact p5) p6 p7
      rw [p3] at AT
      unfold encO at AT
      simp only at AT
      have HS1:=Lib.hid s1
      have HS2:=Lib.hid s2
      have HS3:=Lib.hid s3
      have HS4:=Lib.hid s4
      have HS5:=Lib.hid s5
      have HU2:=Lib.hid u2
      have HU3:=Lib.hid u3
      have hq0:=HN.out.q0
      have hq1:=HN.out.q1
      clear hcr hx hadr hgood hLk hxx hmin hfm o1 o2 p1 p2 p3 p4 p5 p6 p7 p8 p9 s1 s2 s3 s4 s5 hi hgb hLb u1 u2 u3 HF HMC HN
      go_wp2_with fail
      refine AP.out.mono ?_;clear AP;rintro e w6 ⟨rfl,hm6,hb6⟩
      have HI6:=Lib.hid (HI.out.did hm6 hb6 ⟨HL3.out.1,HL3.out.2.1,HL3.out.2.2.1,HL3.out.2.2.2.1,HL3.out.2.2.2.2.1⟩)
      clear hm6 hb6 q0
      go_wp2_with fail
      rw [← hdd]
      clear hdd
      refine (AT.out _ HI6.out.mb HI6.out.size).mono ?_;clear AT;rintro e w7 ⟨rfl,hm7,hb7⟩
      have HI7:=Lib.hid (HI6.out.did hm7 hb7 ⟨HL3.out.1,HL3.out.2.1,HL3.out.2.2.1,HL3.out.2.2.2.1,HL3.out.2.2.2.2.1⟩)
      clear hm7 hb7
      have wfd:(Lit.int .i64 d).wf=true:=WalkArith.wf_i64 (by omega)
      go_wp2_with fail
      refine (Run_any p g bm capm L l.length id d w7 HI7.out.meter HS5.out wfd).mono ?_
      rintro e w8 ⟨he,hM8,hk8⟩
      rw [HS1.out] at he
      subst he
      rw [HS2.out] at hM8
      have HI8:=Lib.hid (HI7.out.ran hM8 hk8 ⟨HL3.out.1,HL3.out.2.1,HL3.out.2.2.2.2.2.1,HL3.out.2.2.2.2.2.2.1,HL3.out.2.2.2.2.2.2.2.1,HL3.out.2.2.2.2.2.2.2.2⟩)
      clear hM8 hk8
      go_wp2_with fail
      refine (near_rd b 0 cap l p g bm capm (bump L id d) l.length (max q d) w8 HS3.out.pw rfl hsp hs12 HI8.out.pairs HI8.out.meter HS4.out).mono ?_
      rintro e w9 ⟨rfl,hb9⟩
      have HI9:=Lib.hid (HI8.out.later hb9)
      clear hb9
      go_wp2_with fail
      go_roundw
      case rel=>exact ⟨k+1,_,max q d,_,by omega,by go_num,rfl,HI9,HS3,HU2,HU3⟩
      case measure=>simp [RowKit.intOf];omega
     ·as_aux_lemma =>
      obtain rfl:k=mm:=by omega
      have hB:=HI.out.bel
      have hkk:¬ (k:Int)<(k:Int):=by omega
      go_wp2_with fail
      refine (awake_true wr).mono ?_
      rintro e w3 ⟨rfl,hb3⟩
      go_wp2_with fail
      go_ret
      exact ⟨rfl,Below.step hB hb3⟩
end Go.Proofs.YtapnaocdehahdaaGreat
