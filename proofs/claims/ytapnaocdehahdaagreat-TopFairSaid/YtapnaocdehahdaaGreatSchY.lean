/-
  Layer 31 (sched): balance.
-/
import Derived.Test.YtapnaocdehahdaaGreatSchX
import Derived.Test.YtapnaocdehahdaaGreatSchG
namespace Go.Proofs.YtapnaocdehahdaaGreat
open Go.RowKit Go.Maps Go.IntWalk Go.Lib
set_option linter.unusedVariables false
set_option linter.unusedSimpArgs false
theorem few_len {l:List Int} (hn:l.Nodup) (h:∀ x∈l,1≤x∧x≤65535):l.length≤65535:=by
 have:=holes_le 65535 (l.map fun x=>x - 1) (by
  refine List.pairwise_map.2 (hn.imp fun {a b} hne e=>hne (by omega))) (fun x hx=>by
  obtain ⟨y,hy,rfl⟩:=List.mem_map.1 hx
  have:=h y hy
  omega)
 simpa using this
theorem fromF_yes {ld:Nat→Int} {k j:Nat} (h:j≠k) (i:fromF ld k j<0∨ld j > ld (fromF ld k j).toNat):fromF ld k (j+1)=(j:Int):=if_pos ⟨h,i⟩
theorem fromF_no {ld:Nat→Int} {k j:Nat} (h:¬ (j≠k∧(fromF ld k j<0∨ld j > ld (fromF ld k j).toNat))):fromF ld k (j+1)=fromF ld k j:=if_neg h
theorem step_no {s:SSt} {k:Nat} {f b id:Int} (h:candB s k f id=false):bestStep s k f b id=b:=by
 unfold bestStep
 rw [if_neg]
 rw [h];simp
theorem step_yes {s:SSt} {k:Nat} {f b id:Int} (h:candB s k f id=true) (i:b=0∨befT s id b=true):bestStep s k f b id=id:=if_pos ⟨h,i⟩
theorem step_less {s:SSt} {k:Nat} {f b id:Int} (h0:b≠0) (i:befT s id b=false):bestStep s k f b id=b:=by
 unfold bestStep
 rw [if_neg]
 rintro ⟨_,q | q⟩
 ·exact h0 q
 ·rw [i] at q;cases q
theorem SRaw.reads {w:World} {x:Nat} {L:SLay} {s:SSt} (h:SRaw w x L s):∃ D,w.ownsMap Tryz.prog 3 readP L.bm s.c D∧ReadsG datP (fun _=>True) D (fun id=>(s.T id).map fun _=>some (L.tp id)):=by
 obtain ⟨D,hD,_,hh,ha⟩:=h.map
 exact ⟨D,hD,hh,ha⟩
set_option maxRecDepth 100000 in
set_option maxHeartbeats 8000000 in
theorem dBalance_at {w:World} {x:Nat} {L:SLay} {s:SSt} {k:Nat} {o:OpV} (h:SRaw w x L s) (ho:SOk s) (hk:o.cpu=(k:Int)) (hkC:k<s.C) :
  Calls Tryz.prog 317 #[encO o,.pointer (some ⟨x,0,none⟩)] w (SDo w x L (balB s k) (balC s k) (balS s k)):=by
 have HS:=Lib.hid h
 have HO:=Lib.hid ho
 obtain ⟨W0,hW0⟩:∃ W,W=w.alloc (.cells (cellsO o) 207):=⟨_,rfl⟩
 have hb0:Below w.heap.size w W0:=by rw [hW0];exact below_a _ _
 have B0:OpBox W0 w.heap.size o:=by rw [hW0];exact OpBox.new _ _ _
 have h0:=h.below hb0
 have HB0:=Lib.hid hb0
 unfold cellsO at hW0
 have HW0:=Lib.hid hW0
 have HK:=Lib.hid hk
 clear hW0 hk
 have b1:=B0.c1
 rw [HK.out] at b1
 have H0:=Lib.hid h0
 have hC64:=ho.cpus.2
 obtain ⟨bx,hbx⟩:∃ b,b=w.heap.size:=⟨_,rfl⟩
 rw [← hbx] at b1
 have HBX:=Lib.hid hbx
 obtain ⟨c8,x8⟩:∃ c,W0.cell? ⟨x,8,none⟩=some (.slice (some ⟨L.bo,0,none⟩) s.C c):=h0.head.c8
 have LD:=Lib.hid h0.ld.c
 clear h ho h0 hb0 B0 hbx
 unfold encO
 go_enter Tryz.func317,Tryz.ntmps317
 go_upto_region 1 with fail
 rw [← HW0.out]
 rw [← HBX.out]
 go_wp2_with fail
 go_loopw [6,18] (fun fv iv wr=>∃ j:Nat,j≤s.C∧fv=.int .i64 (fromF s.ld k j)∧iv=.int .i64 j∧W0=wr) (fun _ i _=>s.C - (intOf i).toNat)
 case atStart=>exact ⟨0,Nat.zero_le _,rfl,rfl,rfl⟩
 case round =>
  obtain ⟨j,hj,rfl,rfl,rfl⟩:=hrel
  by_cases hjC:j<s.C
  ·have hjm:(j:Int)<(s.C:Int):=by omega
   have z1:decide (j<s.C)=true:=decide_eq_true hjC
   have z1':decide ((j:Int)<(s.C:Int))=true:=decide_eq_true hjm
   have oj:=LD.out j hjC
   have hwj:IntKind.i64.wrap ((j:Int)+1)=(j:Int)+1:=IntWalk.i64_in _ (by omega)
   have hwj':wrap64 ((j:Int)+1)=(j:Int)+1:=IntWalk.wrap64_in _ (by omega)
   by_cases ejk:j=k
   ·have z2:((j:Int) != (k:Int))=false:=by simp [ejk]
    have EF:=Lib.hid (show fromF s.ld k (j+1)=fromF s.ld k j from fromF_no fun q=>q.1 ejk)
    obtain ⟨f,hf⟩:∃ f,f=fromF s.ld k j:=⟨_,rfl⟩
    rw [← hf] at EF ⊢
    clear ejk hf
    go_wp2_with fail
    go_roundw
    case rel=>exact ⟨j+1,hjC,by rw [EF.out],rfl,trivial⟩
    case measure=>exact meas_lt hjC
   ·have z2:((j:Int) != (k:Int))=true:=by simp;omega
    have HF:=Lib.hid (fromF_in s.ld k j)
    by_cases ef:fromF s.ld k j<0
    ·have EF:=Lib.hid (show fromF s.ld k (j+1)=(j:Int) from fromF_yes ejk (Or.inl ef))
     obtain ⟨f,hf⟩:∃ f,f=fromF s.ld k j:=⟨_,rfl⟩
     rw [← hf] at ef ⊢
     have z3:decide (f<0)=true:=decide_eq_true ef
     clear ejk hf ef HF
     go_wp2_with fail
     go_roundw
     case rel=>exact ⟨j+1,hjC,by rw [EF.out],rfl,trivial⟩
     case measure=>exact meas_lt hjC
    ·obtain ⟨f,hf⟩:∃ f:Nat,fromF s.ld k j=(f:Int):=⟨(fromF s.ld k j).toNat,by omega⟩
     have hfj:f<s.C:=by have:=HF.out;omega
     have of':=LD.out f hfj
     have hfm:(f:Int)<(s.C:Int):=by omega
     have z3:decide ((f:Int)<0)=false:=decide_eq_false (by omega)
     by_cases eg:s.ld j > s.ld f
     ·have EF:=Lib.hid (show fromF s.ld k (j+1)=(j:Int) from fromF_yes ejk (Or.inr (by rw [hf,Int.toNat_natCast];exact eg)))
      have z4:decide (s.ld j > s.ld f)=true:=decide_eq_true eg
      have z5:decide (s.ld f<s.ld j)=true:=z4
      rw [hf]
      clear ejk hf ef HF eg
      go_wp2_with fail
      go_roundw
      case rel=>exact ⟨j+1,hjC,by rw [EF.out],rfl,trivial⟩
      case measure=>exact meas_lt hjC
     ·have EF:=Lib.hid (show fromF s.ld k (j+1)=(f:Int) from (fromF_no fun q=>by
       rcases q.2 with r | r
       ·exact ef r
       ·rw [hf,Int.toNat_natCast] at r;exact eg r).trans hf)
      have z4:decide (s.ld j > s.ld f)=false:=decide_eq_false eg
      have z5:decide (s.ld f<s.ld j)=false:=z4
      rw [hf]
      clear ejk hf ef HF eg
      go_wp2_with fail
      go_roundw
      case rel=>exact ⟨j+1,hjC,by rw [EF.out],rfl,trivial⟩
      case measure=>exact meas_lt hjC
  ·obtain rfl:j=s.C:=by omega
   have z1:decide ((s.C:Int)<(s.C:Int))=false:=by simp
   obtain ⟨fr,hfr⟩:∃ fr,fr=fromI s k:=⟨_,rfl⟩
   rw [show fromF s.ld k s.C=fr from hfr.symm]
   have HFR:=Lib.hid hfr
   have HFI:=Lib.hid (show -1≤fr∧fr<(s.C:Int)∧fr≠(k:Int) by rw [hfr];exact fromF_in s.ld k s.C)
   have x5:W0.cell? ⟨x,5,none⟩=some (.map (some L.bm)):=H0.out.head.c5
   obtain ⟨D,hD,hRD⟩:=H0.out.reads
   have HRD:=Lib.hid hRD
   clear hfr hjC hj hRD
   go_wp2_with (first
    | (at_range;refine wpList_range_own _ rfl _ 96 rfl 3 116 lawI undP readP L.bm s.c D rfl hD ?_;intro w0 hrg0 hg0 hs0)
    | go_in)
   go_frame
   have HG0:=Lib.hid (show Below W0.heap.size W0 w0 from ⟨hg0.os,hg0.tape,hg0.output,hg0.size,fun k hk=>hg0.block k hk (by simp)⟩)
   have hrs0:RangeG readP w0 L.bm W0.heap.size s.c D (fun id=>(s.T id).map fun _=>some (L.tp id)) []:=RangeG.start HRD.out hrg0
   have HLX:=Lib.hid (HS.out.none_at (Nat.le_refl w.heap.size))
   have lb1:bx<W0.heap.size:=lt_of_cell b1
   have HB1:=Lib.hid b1
   clear hg0 hs0 hrg0 hD x5 x8 b1 z1
   go_loopw [9,10] (fun bv nv wr=>∃ (l:List Int) (b:Int),RangeG readP wr L.bm W0.heap.size s.c D (fun id=>(s.T id).map fun _=>some (L.tp id)) l∧Below W0.heap.size W0 wr∧IsBest s k fr l b∧bv=.int .i64 b∧nv=.int .i64 ((l.filter (onFrom s fr)).length:Nat)) (fun _ _ wr=>wr.rangeLeft L.bm W0.heap.size)
   case atStart=>exact ⟨[],0,hrs0,HG0.out,Or.inl ⟨rfl,fun c q=>by cases q⟩,rfl,rfl⟩
   case round =>
    obtain ⟨l,b,hrg,hbr,hib,rfl,rfl⟩:=hrel
    have HRG:=Lib.hid hrg
    have HBR:=Lib.hid hbr
    have HIB:=Lib.hid hib
    obtain ⟨n,hn⟩:∃ n,n=(l.filter (onFrom s fr)).length:=⟨_,rfl⟩
    rw [← hn]
    have HN:=Lib.hid hn
    clear hrs0 hbr hib hn
    go_wp2_with (first
     | (at_next;refine wpList_next_G elemP rfl _ rfl rfl HRD.out hrg ?_ ?_)
     | go_in)
    ·intro hall
     have hmem:∀ id,id∈l↔(s.T id).isSome=true:=fun id=>⟨fun q=>by have:=HRG.out.mem id q;simpa using this,fun q=>hall id (by simpa using q)⟩
     have eb:b=balB s k:=by
      have:=IsBest.uniq HIB.out (bestI_is HO.out k fr) fun c=>(hmem c).trans (keysL_mem HO.out c).symm
      rw [HFR.out] at this
      exact this
     have en:n=seenI s (fromI s k):=by rw [HN.out,← HFR.out];exact seen_all HO.out HRG.out.nod hmem
     have hnb:n≤65535:=by have:=seenI_le HO.out (fromI s k);have:=HO.out.few;omega
     have EB:=Lib.hid eb
     have EN:=Lib.hid en
     have h5:=H0.out.below HBR.out
     obtain ⟨wo,rfl⟩:∃ wo:World,wo=wr:=⟨_,rfl⟩
     clear hrg hall hmem eb en
     by_cases eb0:b=0
     ·have EC:=Lib.hid (show balC s k=6 by unfold balC;rw [← EB.out,if_pos eb0])
      have ES:=Lib.hid (show balS s k=s by unfold balS;rw [← EB.out,if_pos eb0])
      have z6:(b == 0)=true:=by simp [eb0]
      have HE0:=Lib.hid eb0
      clear h5 eb0
      go_wp2_with fail
      refine bodyPost_ret (v:=.tuple #[.int .i64 0,.int .i64 6]) (by simp [results,Tryz.results317,go_sem]) rfl ⟨by rw [EC.out,← EB.out,HE0.out],?_⟩
      rw [ES.out]
      exact SLeft.same HS.out (Below.step HB0.out HBR.out)
     ·have z6:(b == 0)=false:=by simpa using eb0
      obtain ⟨t,hT,hr,_,hc⟩:=balB_is HO.out (k:=k) (by rw [← EB.out];exact eb0)
      rw [← EB.out] at hT hc
      have EC:=Lib.hid (show balC s k=0 by unfold balC;rw [← EB.out,if_neg eb0])
      have ES:=Lib.hid (show balS s k=mvS { s with wk:=(n:Nat) } b t k by unfold balS;rw [← EB.out,if_neg eb0,hT,EN.out])
      have c9:wo.cell? ⟨x,9,none⟩=some (.int .i64 s.wk):=h5.head.c9
      have f9:=h5.head.z 9
      obtain ⟨W6,hW6⟩:∃ W,W=wo.setCell ⟨x,9,none⟩ (.int .i64 (n:Nat)):=⟨_,rfl⟩
      have h6:=h5.work (n:Nat)
      rw [← hW6] at h6
      have k6:Kept [x] wo W6:=by rw [hW6];exact (Kept.refl _ _).setCell (Or.inl (by simp)) _
      have s6:SStep L w L W6:=(SStep.of (Below.step HB0.out HBR.out)).trans (SStep.of_kept k6 fun c hc=>by simp at hc;subst hc;rw [h5.lx];simp)
      have x5:W6.cell? ⟨x,5,none⟩=some (.map (some L.bm)):=h6.head.c5
      have nbx:bx∉[x]:=by simp;intro q;have e:=HLX.out;rw [← HBX.out,q,h5.lx] at e;simp at e
      have b1:W6.cell? ⟨bx,1,none⟩=some (.int .i64 k):=k6.cellAt (below_nat HBR.out lb1 HB1.out) nbx
      have hlk:=(h6.below (Below.refl _ _).drew).look (wfTask HO.out hT)
      rw [show ({ s with wk:=(n:Nat) }:SSt).T b=some t from hT] at hlk
      have hlk2:(Instr.lookup 96 (.map (some L.bm)) (.int .i64 b) false).run Tryz.prog W6.drew=.ok (.pointer (some ⟨L.tp b,0,none⟩)) W6.drew:=hlk
      have A5:=Lib.hid (xmove_at (h6.below (Below.refl W6.heap.size W6).drew) (HO.out.work _) hT hkC (fun _=>hc) (by show 0≤((n:Nat):Int)∧((n:Nat):Int)≤900000;omega))
      have S6:=Lib.hid s6
      have HW6:=Lib.hid hW6
      obtain ⟨F,hF⟩:∃ F,F=(List.range W6.heap.size).filter fun b=>decide (L.lab b≠(0,0,0)):=⟨_,rfl⟩
      have mb:bx∉F:=by rw [hF,List.mem_filter];rintro ⟨_,q⟩;have e:=HLX.out;rw [← HBX.out] at e;rw [e] at q;simp at q
      have KF:=Lib.hid (fun (w':World) (q:SLeft W6.drew x L (mvS { s with wk:=(n:Nat) } b t k) w')=>(show Kept F W6.drew w' by
       obtain ⟨_,_,q2,_⟩:=q
       refine ⟨q2.os,q2.tape,q2.output,q2.size,fun c hc hn=>q2.same c hc (Decidable.byContradiction fun e=>hn ?_)⟩
       rw [hF]
       exact List.mem_filter.2 ⟨List.mem_range.2 hc,by simpa using e⟩))
      clear hT hr hc h5 h6 k6 s6 hlk hW6 nbx eb0 hF
      go_wp2_with fail
      rw [← HW6.out]
      clear c9 f9
      refine startA (S:=fun w'=>Kept F W6 w'∧w'.cell? ⟨bx,1,none⟩=some (.int .i64 k)) ⟨Kept.refl _ _,b1⟩ (fun h=>heldK_1 (kept_dr _ _) h) (fun hS0 hHeld=>?_)
      refine takeA 0 ?_
      refine takeA 1 ?_
      refine takeA 2 ?_
      refine takeA 3 ?_
      refine takeA 4 ?_
      refine takeA 6 ?_
      refine takeA 8 ?_
      refine takeA 9 ?_
      refine takeA 10 ?_
      refine takeA 11 ?_
      refine readyA [5] (consA (fun K hK=>?_) .nil)
      go_simp
      skip
      refine outA hK kpK_1 (fun hHeld5=>?_)
      clear hK K
      refine readyA [7] (consA (fun K hK=>?_) .nil)
      go_simp
      skip
      refine outA hK kpK_1 (fun hHeld7=>?_)
      clear hK K
      refine readyA [12] (consA (fun K hK=>?_) .nil)
      go_simp
      refine A5.out.mono ?_
      rintro e w8 ⟨rfl,hA8⟩
      have hk8:=KF.out _ hA8
      go_wp2_with fail
      refine outA hK kpK_1 (fun hHeld12=>?_)
      clear hK K
      refine doneA ?_
      skip
      go_wp2_with fail
      refine bodyPost_ret (v:=.tuple #[.int .i64 b,.int .i64 0]) (by simp [results,Tryz.results317,go_sem]) rfl ⟨by rw [EC.out,EB.out],?_⟩
      rw [ES.out]
      exact hA8.from (S6.out.trans (SStep.of (Below.refl _ _).drew)) rfl
    ·intro id p w1 t hT hpp hx hrg1 hlt1 hg1 hs1 hen
     subst hpp
     have hen':(Instr.entry (.pointer (some ⟨W0.heap.size,0,none⟩))).run Tryz.prog w1=.ok (.tuple #[.int .i64 id,.pointer (some ⟨L.tp id,0,none⟩)]) w1:=hen
     have hb1:Below W0.heap.size W0 w1:=HBR.out.grown hg1 HBR.out.size (fun k e=>by cases e;exact Nat.le_refl _)
     have h1:=H0.out.below hb1
     have tk:=h1.tk id t hT
     have htk:=(HO.out.task id t hT).2
     have hid:=(HO.out.task id t hT).1
     have t4:=tk.c4
     have t2:=tk.c2
     have HIB1:=Lib.hid (HIB.out.step (id:=id) (by omega))
     have HSN:=Lib.hid (seen_step (s:=s) (f:=fr) l id)
     rw [← HN.out] at HSN
     have HRG1:=Lib.hid hrg1
     have HLT:=Lib.hid hlt1
     have HB1':=Lib.hid hb1
     have hnb:n≤65535:=by
      rw [HN.out]
      refine Nat.le_trans (List.length_filter_le _ _) (few_len HRG.out.nod fun y hy=>?_)
      have:=HRG.out.mem y hy
      cases e:s.T y with
      | none=>rw [e] at this;cases this
      | some t=>exact (HO.out.task y t e).1
     have hwn:IntKind.i64.wrap ((n:Int)+1)=(n:Int)+1:=IntWalk.i64_in _ (by omega)
     have hwn':wrap64 ((n:Int)+1)=(n:Int)+1:=IntWalk.wrap64_in _ (by omega)
     have HT:=Lib.hid hT
     obtain ⟨tb,htb⟩:∃ b,b=L.tp id:=⟨_,rfl⟩
     rw [← htb] at hen' t4 t2 tk
     have HTB:=Lib.hid htb
     have HTKA:=Lib.hid tk
     have HH1:=Lib.hid h1
     have HTKO:=Lib.hid htk
     have HIDB:=Lib.hid hid
     clear hx hrg hrg1 hlt1 hg1 hs1 hen hb1 h1 htk hid htb tk hnb hT
     cases hr:t.rdy with
     | false =>
      rw [hr] at t4
      have EB:=Lib.hid (show bestStep s k fr b id=b from step_no (by unfold candB;rw [HT.out];simp [hr]))
      have ES:=Lib.hid (show onFrom s fr id=false by unfold onFrom;rw [HT.out];simp [hr])
      clear hr
      go_wp2_with fail
      go_roundw
      case rel=>exact ⟨l++[id],b,HRG1.out,HB1'.out,by rw [← EB.out];exact HIB1.out,rfl,by rw [← HSN.out];unfold seenStep;rw [ES.out];rfl⟩
      case measure=>exact HLT.out
     | true =>
      rw [hr] at t4
      by_cases ec:(t.cpu:Int)=fr
      ·have ES:=Lib.hid (show onFrom s fr id=true by unfold onFrom;rw [HT.out];simp [hr,ec])
       have ECB:=Lib.hid (show candB s k fr id=candT s k fr id t by unfold candB;rw [HT.out];simp [hr,ec])
       obtain rfl:fr=(t.cpu:Int):=ec.symm
       have htc:=HTKO.out.cpu
       have hcm:(t.cpu:Int)<(s.C:Int):=by omega
       have hkm:(k:Int)<(s.C:Int):=by omega
       have z2:((t.cpu:Int) != (t.cpu:Int))=false:=by simp
       obtain ⟨c4,x4⟩:∃ c,w1.cell? ⟨x,4,none⟩=some (.slice (some ⟨L.bu,0,none⟩) s.C c):=HH1.out.head.c4
       have u4:w1.cell? ⟨L.bu,t.cpu,none⟩=some (.int .i64 (s.cu t.cpu)):=HH1.out.cu.c t.cpu htc
       have t3:=HTKA.out.c3
       have t1:=HTKA.out.c1
       have b1:w1.cell? ⟨bx,1,none⟩=some (.int .i64 k):=below_nat HB1'.out lb1 HB1.out
       obtain ⟨c8',x8⟩:∃ c,w1.cell? ⟨x,8,none⟩=some (.slice (some ⟨L.bo,0,none⟩) s.C c):=HH1.out.head.c8
       have o8:w1.cell? ⟨L.bo,t.cpu,none⟩=some (.int .i64 (s.ld t.cpu)):=HH1.out.ld.c t.cpu htc
       have o9:w1.cell? ⟨L.bo,k,none⟩=some (.int .i64 (s.ld k)):=HH1.out.ld.c k hkC
       have htw:=HTKO.out.w
       have hl1:=HO.out.load htc
       have hl2:=HO.out.load hkC
       have hw2:IntKind.i64.wrap (2*t.w)=2*t.w:=IntWalk.i64_in _ (by omega)
       have hw2':wrap64 (2*t.w)=2*t.w:=IntWalk.wrap64_in _ (by omega)
       have hw3:IntKind.i64.wrap (s.ld t.cpu - s.ld k)=s.ld t.cpu - s.ld k:=IntWalk.i64_in _ (by omega)
       have hw3':wrap64 (s.ld t.cpu - s.ld k)=s.ld t.cpu - s.ld k:=IntWalk.wrap64_in _ (by omega)
       obtain ⟨v,S3,hv3⟩:=bit_shift (m:=t.mask) (k:=k) (by omega) HTKO.out.mask
       have EC0:=Lib.hid (show candT s k (t.cpu:Int) id t=(!decide (s.cu t.cpu=id) && (bitM t.mask k && !decide (2*t.w > s.ld t.cpu - s.ld k))) by unfold candT;rw [Int.toNat_natCast])
       clear hr ec htw hl1 hl2 hC64
       by_cases e1:s.cu t.cpu=id
       ·have EB:=Lib.hid (show bestStep s k (t.cpu:Int) b id=b from step_no (by rw [ECB.out,EC0.out];simp [e1]))
        rw [e1] at u4
        clear e1 EC0 ECB S3 hv3 hw2 hw2' hw3 hw3' o8 o9 x8 t1 t3
        go_wp2_with fail
        refine startA (S:=fun w'=>Below w1.heap.size w1 w'∧w'.cell? ⟨x,4,none⟩=some (.slice (some ⟨L.bu,0,none⟩) s.C c4)∧w'.cell? ⟨L.bu,t.cpu,none⟩=some (.int .i64 id)∧w'.cell? ⟨bx,1,none⟩=some (.int .i64 k)) ⟨Below.refl _ _,x4,u4,b1⟩ (held_3 (below_dr _)) (fun hS0 hHeld=>?_)
        refine takeA 0 ?_
        refine takeA 1 ?_
        refine takeA 2 ?_
        refine takeA 3 ?_
        refine takeA 4 ?_
        refine takeA 5 ?_
        refine takeA 6 ?_
        refine takeA 7 ?_
        refine takeA 8 ?_
        refine takeA 9 ?_
        refine skipA 10 ?_
        refine skipA 11 ?_
        refine skipA 12 ?_
        refine skipA 13 ?_
        refine skipA 14 ?_
        refine skipA 15 ?_
        refine skipA 16 ?_
        refine skipA 17 ?_
        refine skipA 18 ?_
        refine skipA 19 ?_
        refine skipA 20 ?_
        refine takeA 21 ?_
        refine takeA 22 ?_
        refine skipA 23 ?_
        refine skipA 24 ?_
        refine skipA 25 ?_
        refine skipA 26 ?_
        refine skipA 27 ?_
        refine skipA 28 ?_
        refine skipA 29 ?_
        refine skipA 30 ?_
        refine skipA 31 ?_
        refine skipA 32 ?_
        refine skipA 33 ?_
        refine skipA 34 ?_
        refine skipA 35 ?_
        refine skipA 36 ?_
        refine skipA 37 ?_
        refine skipA 38 ?_
        refine skipA 39 ?_
        refine skipA 40 ?_
        refine skipA 41 ?_
        refine skipA 42 ?_
        refine skipA 43 ?_
        refine skipA 44 ?_
        refine skipA 45 ?_
        refine skipA 46 ?_
        refine takeA 47 ?_
        refine doneA ?_
        skip
        clear hS0 hHeld
        go_wp2_with fail
        go_roundw
        case rel=>exact ⟨l++[id],b,HRG1.out.drew,HB1'.out.drew,by rw [← EB.out];exact HIB1.out,rfl,by rw [← HSN.out];unfold seenStep;rw [ES.out];rfl⟩
        case measure=>exact HLT.out
       ·have z3:(s.cu t.cpu == id)=false:=by simpa using e1
        cases hbt:bitM t.mask k with
        | false =>
         have EB:=Lib.hid (show bestStep s k (t.cpu:Int) b id=b from step_no (by rw [ECB.out,EC0.out,hbt];simp))
         rw [hbt,Bool.not_false] at hv3
         clear hbt e1 EC0 ECB hw2 hw2' hw3 hw3' o8 o9 x8 t1
         go_wp2_with fail
         refine startA (S:=fun w'=>Below w1.heap.size w1 w'∧w'.cell? ⟨x,4,none⟩=some (.slice (some ⟨L.bu,0,none⟩) s.C c4)∧w'.cell? ⟨L.bu,t.cpu,none⟩=some (.int .i64 (s.cu t.cpu))∧w'.cell? ⟨bx,1,none⟩=some (.int .i64 k)∧w'.cell? ⟨tb,3,none⟩=some (.int .u64 t.mask)) ⟨Below.refl _ _,x4,u4,b1,t3⟩ (held_4 (below_dr _)) (fun hS0 hHeld=>?_)
         refine takeA 0 ?_
         refine takeA 1 ?_
         refine takeA 2 ?_
         refine takeA 3 ?_
         refine takeA 4 ?_
         refine takeA 5 ?_
         refine takeA 6 ?_
         refine takeA 7 ?_
         refine takeA 8 ?_
         refine takeA 9 ?_
         refine takeA 10 ?_
         refine takeA 11 ?_
         refine takeA 12 ?_
         refine takeA 13 ?_
         refine takeA 14 ?_
         refine takeA 15 ?_
         refine takeA 16 ?_
         refine takeA 17 ?_
         refine takeA 18 ?_
         refine takeA 19 ?_
         refine takeA 20 ?_
         refine takeA 21 ?_
         refine takeA 22 ?_
         refine skipA 23 ?_
         refine skipA 24 ?_
         refine skipA 25 ?_
         refine skipA 26 ?_
         refine skipA 27 ?_
         refine skipA 28 ?_
         refine skipA 29 ?_
         refine skipA 30 ?_
         refine skipA 31 ?_
         refine skipA 32 ?_
         refine skipA 33 ?_
         refine skipA 34 ?_
         refine skipA 35 ?_
         refine skipA 36 ?_
         refine skipA 37 ?_
         refine skipA 38 ?_
         refine skipA 39 ?_
         refine skipA 40 ?_
         refine skipA 41 ?_
         refine skipA 42 ?_
         refine skipA 43 ?_
         refine skipA 44 ?_
         refine skipA 45 ?_
         refine skipA 46 ?_
         refine takeA 47 ?_
         refine doneA ?_
         skip
         clear hS0 hHeld
         go_wp2_with fail
         go_roundw
         case rel=>exact ⟨l++[id],b,HRG1.out.drew,HB1'.out.drew,by rw [← EB.out];exact HIB1.out,rfl,by rw [← HSN.out];unfold seenStep;rw [ES.out];rfl⟩
         case measure=>exact HLT.out
        | true =>
         rw [hbt,Bool.not_true] at hv3
         by_cases e2:2*t.w > s.ld t.cpu - s.ld k
         ·have EB:=Lib.hid (show bestStep s k (t.cpu:Int) b id=b from step_no (by rw [ECB.out,EC0.out,hbt];simp [e2]))
          have z4:decide (2*t.w > s.ld t.cpu - s.ld k)=true:=decide_eq_true e2
          have z5:decide (s.ld t.cpu - s.ld k<2*t.w)=true:=z4
          clear hbt e1 e2 EC0 ECB
          go_wp2_with fail
          refine startA (S:=fun w'=>Below w1.heap.size w1 w'∧w'.cell? ⟨x,4,none⟩=some (.slice (some ⟨L.bu,0,none⟩) s.C c4)∧w'.cell? ⟨L.bu,t.cpu,none⟩=some (.int .i64 (s.cu t.cpu))∧w'.cell? ⟨bx,1,none⟩=some (.int .i64 k)∧w'.cell? ⟨tb,3,none⟩=some (.int .u64 t.mask)∧w'.cell? ⟨tb,1,none⟩=some (.int .i64 t.w)∧w'.cell? ⟨x,8,none⟩=some (.slice (some ⟨L.bo,0,none⟩) s.C c8')∧w'.cell? ⟨L.bo,t.cpu,none⟩=some (.int .i64 (s.ld t.cpu))∧w'.cell? ⟨L.bo,k,none⟩=some (.int .i64 (s.ld k))) ⟨Below.refl _ _,x4,u4,b1,t3,t1,x8,o8,o9⟩ (held_8 (below_dr _)) (fun hS0 hHeld=>?_)
          refine takeA 0 ?_
          refine takeA 1 ?_
          refine takeA 2 ?_
          refine takeA 3 ?_
          refine takeA 4 ?_
          refine takeA 5 ?_
          refine takeA 6 ?_
          refine takeA 7 ?_
          refine takeA 8 ?_
          refine takeA 9 ?_
          refine takeA 10 ?_
          refine takeA 11 ?_
          refine takeA 12 ?_
          refine takeA 13 ?_
          refine takeA 14 ?_
          refine takeA 15 ?_
          refine takeA 16 ?_
          refine takeA 17 ?_
          refine takeA 18 ?_
          refine takeA 19 ?_
          refine takeA 20 ?_
          refine takeA 21 ?_
          refine takeA 22 ?_
          refine takeA 23 ?_
          refine takeA 24 ?_
          refine takeA 25 ?_
          refine takeA 26 ?_
          refine takeA 27 ?_
          refine takeA 28 ?_
          refine takeA 29 ?_
          refine takeA 30 ?_
          refine takeA 31 ?_
          refine takeA 32 ?_
          refine takeA 33 ?_
          refine takeA 34 ?_
          refine takeA 35 ?_
          refine takeA 36 ?_
          refine takeA 37 ?_
          refine takeA 38 ?_
          refine takeA 39 ?_
          refine takeA 40 ?_
          refine takeA 41 ?_
          refine takeA 42 ?_
          refine takeA 43 ?_
          refine takeA 44 ?_
          refine takeA 45 ?_
          refine takeA 46 ?_
          refine takeA 47 ?_
          refine doneA ?_
          skip
          clear hS0 hHeld
          go_wp2_with fail
          go_roundw
          case rel=>exact ⟨l++[id],b,HRG1.out.drew,HB1'.out.drew,by rw [← EB.out];exact HIB1.out,rfl,by rw [← HSN.out];unfold seenStep;rw [ES.out];rfl⟩
          case measure=>exact HLT.out
         ·have z4:decide (2*t.w > s.ld t.cpu - s.ld k)=false:=decide_eq_false e2
          have z5:decide (s.ld t.cpu - s.ld k<2*t.w)=false:=z4
          have EY:=Lib.hid (show candB s k (t.cpu:Int) id=true by rw [ECB.out,EC0.out,hbt];simp [e1];omega)
          clear hbt e1 e2 EC0 ECB
          go_wp2_with fail
          refine startA (S:=fun w'=>Below w1.heap.size w1 w'∧w'.cell? ⟨x,4,none⟩=some (.slice (some ⟨L.bu,0,none⟩) s.C c4)∧w'.cell? ⟨L.bu,t.cpu,none⟩=some (.int .i64 (s.cu t.cpu))∧w'.cell? ⟨bx,1,none⟩=some (.int .i64 k)∧w'.cell? ⟨tb,3,none⟩=some (.int .u64 t.mask)∧w'.cell? ⟨tb,1,none⟩=some (.int .i64 t.w)∧w'.cell? ⟨x,8,none⟩=some (.slice (some ⟨L.bo,0,none⟩) s.C c8')∧w'.cell? ⟨L.bo,t.cpu,none⟩=some (.int .i64 (s.ld t.cpu))∧w'.cell? ⟨L.bo,k,none⟩=some (.int .i64 (s.ld k))) ⟨Below.refl _ _,x4,u4,b1,t3,t1,x8,o8,o9⟩ (held_8 (below_dr _)) (fun hS0 hHeld=>?_)
          refine takeA 0 ?_
          refine takeA 1 ?_
          refine takeA 2 ?_
          refine takeA 3 ?_
          refine takeA 4 ?_
          refine takeA 5 ?_
          refine takeA 6 ?_
          refine takeA 7 ?_
          refine takeA 8 ?_
          refine takeA 9 ?_
          refine takeA 10 ?_
          refine takeA 11 ?_
          refine takeA 12 ?_
          refine takeA 13 ?_
          refine takeA 14 ?_
          refine takeA 15 ?_
          refine takeA 16 ?_
          refine takeA 17 ?_
          refine takeA 18 ?_
          refine takeA 19 ?_
          refine takeA 20 ?_
          refine takeA 21 ?_
          refine takeA 22 ?_
          refine takeA 23 ?_
          refine takeA 24 ?_
          refine takeA 25 ?_
          refine takeA 26 ?_
          refine takeA 27 ?_
          refine takeA 28 ?_
          refine takeA 29 ?_
          refine takeA 30 ?_
          refine takeA 31 ?_
          refine takeA 32 ?_
          refine takeA 33 ?_
          refine takeA 34 ?_
          refine takeA 35 ?_
          refine takeA 36 ?_
          refine takeA 37 ?_
          refine takeA 38 ?_
          refine takeA 39 ?_
          refine takeA 40 ?_
          refine takeA 41 ?_
          refine takeA 42 ?_
          refine takeA 43 ?_
          refine takeA 44 ?_
          refine takeA 45 ?_
          refine takeA 46 ?_
          refine takeA 47 ?_
          refine doneA ?_
          skip
          clear hS0 hHeld
          go_wp2_with fail
          obtain ⟨W2,hW2⟩:∃ W,W=w1.drew:=⟨_,rfl⟩
          rw [← hW2]
          have hb2:Below w1.heap.size w1 W2:=by rw [hW2];exact (Below.refl _ _).drew
          have HRG2:=Lib.hid (show RangeG readP W2 L.bm W0.heap.size s.c D (fun id=>(s.T id).map fun _=>some (L.tp id)) (l++[id]) by rw [hW2];exact HRG1.out.drew)
          have HLT2:=Lib.hid (show W2.rangeLeft L.bm W0.heap.size<wr.rangeLeft L.bm W0.heap.size by rw [hW2];exact HLT.out)
          have HB2:=Lib.hid (Below.step HB1'.out hb2)
          have h2:=HH1.out.below hb2
          have t1:=(HTKA.out.c1)
          replace t1:=cell_later hb2 t1
          clear x4 u4 b1 t3 x8 o8 o9 S3 hv3 hw2 hw2' hw3 hw3' z3 z4 z5 t4 hen' hW2 hb2
          by_cases e0:b=0
          ·have EB:=Lib.hid (show bestStep s k (t.cpu:Int) b id=id from step_yes EY.out (Or.inl e0))
           have z6:(b == 0)=true:=by simp [e0]
           clear e0 h2
           refine startA (S:=fun w'=>Below W2.heap.size W2 w'∧w'.cell? ⟨tb,1,none⟩=some (.int .i64 t.w)) ⟨Below.refl _ _,t1⟩ (held_1 (below_dr _)) (fun hS0 hHeld=>?_)
           refine takeA 0 ?_
           refine takeA 1 ?_
           refine takeA 2 ?_
           refine skipA 3 ?_
           refine skipA 4 ?_
           refine skipA 5 ?_
           refine skipA 6 ?_
           refine skipA 7 ?_
           refine skipA 8 ?_
           refine skipA 9 ?_
           refine skipA 10 ?_
           refine skipA 11 ?_
           refine skipA 12 ?_
           refine skipA 13 ?_
           refine skipA 14 ?_
           refine skipA 15 ?_
           refine skipA 16 ?_
           refine takeA 17 ?_
           refine takeA 18 ?_
           refine skipA 19 ?_
           refine skipA 20 ?_
           refine skipA 21 ?_
           refine skipA 22 ?_
           refine skipA 23 ?_
           refine skipA 24 ?_
           refine skipA 25 ?_
           refine skipA 26 ?_
           refine skipA 27 ?_
           refine skipA 28 ?_
           refine skipA 29 ?_
           refine skipA 30 ?_
           refine skipA 31 ?_
           refine skipA 32 ?_
           refine skipA 33 ?_
           refine skipA 34 ?_
           refine skipA 35 ?_
           refine skipA 36 ?_
           refine skipA 37 ?_
           refine takeA 38 ?_
           refine doneA ?_
           skip
           clear hS0 hHeld
           go_wp2_with fail
           go_roundw
           case rel=>exact ⟨l++[id],id,HRG2.out.drew,HB2.out.drew,by have q:=HIB1.out;rw [EB.out] at q;exact q,rfl,by rw [← HSN.out];unfold seenStep;rw [ES.out];rfl⟩
           case measure=>exact HLT2.out
          ·have z6:(b == 0)=false:=by simpa using e0
           obtain ⟨tb2,hT2⟩:∃ t2,s.T b=some t2:=by
            rcases HIB.out with ⟨q,_⟩ | ⟨_,q,_⟩
            ·exact absurd q e0
            ·have:=HRG.out.mem b q
             cases e:s.T b with
             | none=>rw [e] at this;cases this
             | some t2=>exact ⟨t2,rfl⟩
           have x5:W2.cell? ⟨x,5,none⟩=some (.map (some L.bm)):=h2.head.c5
           have hlk:=(h2.below (Below.refl _ _).drew).look (wfTask HO.out hT2)
           rw [hT2] at hlk
           have hlk2:(Instr.lookup 96 (.map (some L.bm)) (.int .i64 b) false).run Tryz.prog W2.drew=.ok (.pointer (some ⟨L.tp b,0,none⟩)) W2.drew:=hlk
           have tw:=(h2.tk b tb2 hT2).c1
           obtain ⟨tp,htp⟩:∃ p,p=L.tp b:=⟨_,rfl⟩
           rw [← htp] at hlk2 tw
           have EW:=Lib.hid (show befT s id b=(decide (t.w > tb2.w) || (decide (t.w=tb2.w) && decide (id<b))) by unfold befT wOf;rw [HT.out,hT2])
           clear h2 hlk hT2 htp
           by_cases ew:t.w > tb2.w
           ·have EB:=Lib.hid (show bestStep s k (t.cpu:Int) b id=id from step_yes EY.out (Or.inr (by rw [EW.out];simp [ew])))
            have z7:decide (t.w > tb2.w)=true:=decide_eq_true ew
            have z8:decide (tb2.w<t.w)=true:=z7
            clear e0 ew EW
            refine startA (S:=fun w'=>Below W2.heap.size W2 w'∧w'.cell? ⟨x,5,none⟩=some (.map (some L.bm))∧w'.cell? ⟨tb,1,none⟩=some (.int .i64 t.w)∧w'.cell? ⟨tp,1,none⟩=some (.int .i64 tb2.w)) ⟨Below.refl _ _,x5,t1,tw⟩ (held_3 (below_dr _)) (fun hS0 hHeld=>?_)
            refine takeA 0 ?_
            refine takeA 1 ?_
            refine takeA 2 ?_
            refine takeA 3 ?_
            refine takeA 4 ?_
            refine takeA 5 ?_
            refine takeA 6 ?_
            refine takeA 7 ?_
            refine takeA 8 ?_
            refine takeA 9 ?_
            refine takeA 10 ?_
            refine takeA 11 ?_
            refine readyA [12] (consA (fun K hK=>?_) .nil)
            go_simp
            skip
            refine outA hK kp_3 (fun hHeld12=>?_)
            clear hK K
            refine takeA 13 ?_
            refine takeA 14 ?_
            refine takeA 15 ?_
            refine takeA 16 ?_
            refine takeA 17 ?_
            refine takeA 18 ?_
            refine skipA 19 ?_
            refine skipA 20 ?_
            refine skipA 21 ?_
            refine skipA 22 ?_
            refine skipA 23 ?_
            refine skipA 24 ?_
            refine skipA 25 ?_
            refine skipA 26 ?_
            refine skipA 27 ?_
            refine skipA 28 ?_
            refine skipA 29 ?_
            refine skipA 30 ?_
            refine skipA 31 ?_
            refine skipA 32 ?_
            refine skipA 33 ?_
            refine skipA 34 ?_
            refine skipA 35 ?_
            refine skipA 36 ?_
            refine skipA 37 ?_
            refine takeA 38 ?_
            refine doneA ?_
            skip
            go_wp2_with fail
            go_roundw
            case rel=>exact ⟨l++[id],id,HRG2.out.drew,HB2.out.drew,by have q:=HIB1.out;rw [EB.out] at q;exact q,rfl,by rw [← HSN.out];unfold seenStep;rw [ES.out];rfl⟩
            case measure=>exact HLT2.out
           ·have z7:decide (t.w > tb2.w)=false:=decide_eq_false ew
            have z8:decide (tb2.w<t.w)=false:=z7
            by_cases ee:t.w=tb2.w
            ·have z9:(t.w == tb2.w)=true:=by simp [ee]
             by_cases ei:id<b
             ·have EB:=Lib.hid (show bestStep s k (t.cpu:Int) b id=id from step_yes EY.out (Or.inr (by rw [EW.out];simp [ee,ei])))
              have z10:decide (id<b)=true:=decide_eq_true ei
              clear e0 ew EW ee ei
              refine startA (S:=fun w'=>Below W2.heap.size W2 w'∧w'.cell? ⟨x,5,none⟩=some (.map (some L.bm))∧w'.cell? ⟨tb,1,none⟩=some (.int .i64 t.w)∧w'.cell? ⟨tp,1,none⟩=some (.int .i64 tb2.w)) ⟨Below.refl _ _,x5,t1,tw⟩ (held_3 (below_dr _)) (fun hS0 hHeld=>?_)
              refine takeA 0 ?_
              refine takeA 1 ?_
              refine takeA 2 ?_
              refine takeA 3 ?_
              refine takeA 4 ?_
              refine takeA 5 ?_
              refine takeA 6 ?_
              refine takeA 7 ?_
              refine takeA 8 ?_
              refine takeA 9 ?_
              refine takeA 10 ?_
              refine takeA 11 ?_
              refine readyA [12] (consA (fun K hK=>?_) .nil)
              go_simp
              skip
              refine outA hK kp_3 (fun hHeld12=>?_)
              clear hK K
              refine takeA 13 ?_
              refine takeA 14 ?_
              refine takeA 15 ?_
              refine takeA 16 ?_
              refine takeA 17 ?_
              refine takeA 18 ?_
              refine takeA 19 ?_
              refine takeA 20 ?_
              refine takeA 21 ?_
              refine takeA 22 ?_
              refine takeA 23 ?_
              refine takeA 24 ?_
              refine takeA 25 ?_
              refine takeA 26 ?_
              refine takeA 27 ?_
              refine readyA [28] (consA (fun K hK=>?_) .nil)
              go_simp
              skip
              refine outA hK kp_3 (fun hHeld28=>?_)
              clear hK K
              refine takeA 29 ?_
              refine takeA 30 ?_
              refine takeA 31 ?_
              refine takeA 32 ?_
              refine takeA 33 ?_
              refine takeA 34 ?_
              refine takeA 35 ?_
              refine takeA 36 ?_
              refine takeA 37 ?_
              refine takeA 38 ?_
              refine doneA ?_
              skip
              go_wp2_with fail
              go_roundw
              case rel=>exact ⟨l++[id],id,HRG2.out.drew,HB2.out.drew,by have q:=HIB1.out;rw [EB.out] at q;exact q,rfl,by rw [← HSN.out];unfold seenStep;rw [ES.out];rfl⟩
              case measure=>exact HLT2.out
             ·have EB:=Lib.hid (show bestStep s k (t.cpu:Int) b id=b from step_less e0 (by rw [EW.out];simp [ee,ei]))
              have z10:decide (id<b)=false:=decide_eq_false ei
              clear e0 ew EW ee ei
              refine startA (S:=fun w'=>Below W2.heap.size W2 w'∧w'.cell? ⟨x,5,none⟩=some (.map (some L.bm))∧w'.cell? ⟨tb,1,none⟩=some (.int .i64 t.w)∧w'.cell? ⟨tp,1,none⟩=some (.int .i64 tb2.w)) ⟨Below.refl _ _,x5,t1,tw⟩ (held_3 (below_dr _)) (fun hS0 hHeld=>?_)
              refine takeA 0 ?_
              refine takeA 1 ?_
              refine takeA 2 ?_
              refine takeA 3 ?_
              refine takeA 4 ?_
              refine takeA 5 ?_
              refine takeA 6 ?_
              refine takeA 7 ?_
              refine takeA 8 ?_
              refine takeA 9 ?_
              refine takeA 10 ?_
              refine takeA 11 ?_
              refine readyA [12] (consA (fun K hK=>?_) .nil)
              go_simp
              skip
              refine outA hK kp_3 (fun hHeld12=>?_)
              clear hK K
              refine takeA 13 ?_
              refine takeA 14 ?_
              refine takeA 15 ?_
              refine takeA 16 ?_
              refine takeA 17 ?_
              refine takeA 18 ?_
              refine takeA 19 ?_
              refine takeA 20 ?_
              refine takeA 21 ?_
              refine takeA 22 ?_
              refine takeA 23 ?_
              refine takeA 24 ?_
              refine takeA 25 ?_
              refine takeA 26 ?_
              refine takeA 27 ?_
              refine readyA [28] (consA (fun K hK=>?_) .nil)
              go_simp
              skip
              refine outA hK kp_3 (fun hHeld28=>?_)
              clear hK K
              refine takeA 29 ?_
              refine takeA 30 ?_
              refine takeA 31 ?_
              refine takeA 32 ?_
              refine takeA 33 ?_
              refine takeA 34 ?_
              refine takeA 35 ?_
              refine takeA 36 ?_
              refine takeA 37 ?_
              refine takeA 38 ?_
              refine doneA ?_
              skip
              go_wp2_with fail
              go_roundw
              case rel=>exact ⟨l++[id],b,HRG2.out.drew,HB2.out.drew,by rw [← EB.out];exact HIB1.out,rfl,by rw [← HSN.out];unfold seenStep;rw [ES.out];rfl⟩
              case measure=>exact HLT2.out
            ·have z9:(t.w == tb2.w)=false:=by simpa using ee
             have EB:=Lib.hid (show bestStep s k (t.cpu:Int) b id=b from step_less e0 (by rw [EW.out];simp [ee,ew]))
             clear e0 ew EW ee
             refine startA (S:=fun w'=>Below W2.heap.size W2 w'∧w'.cell? ⟨x,5,none⟩=some (.map (some L.bm))∧w'.cell? ⟨tb,1,none⟩=some (.int .i64 t.w)∧w'.cell? ⟨tp,1,none⟩=some (.int .i64 tb2.w)) ⟨Below.refl _ _,x5,t1,tw⟩ (held_3 (below_dr _)) (fun hS0 hHeld=>?_)
             refine takeA 0 ?_
             refine takeA 1 ?_
             refine takeA 2 ?_
             refine takeA 3 ?_
             refine takeA 4 ?_
             refine takeA 5 ?_
             refine takeA 6 ?_
             refine takeA 7 ?_
             refine takeA 8 ?_
             refine takeA 9 ?_
             refine takeA 10 ?_
             refine takeA 11 ?_
             refine readyA [12] (consA (fun K hK=>?_) .nil)
             go_simp
             skip
             refine outA hK kp_3 (fun hHeld12=>?_)
             clear hK K
             refine takeA 13 ?_
             refine takeA 14 ?_
             refine takeA 15 ?_
             refine takeA 16 ?_
             refine takeA 17 ?_
             refine takeA 18 ?_
             refine takeA 19 ?_
             refine takeA 20 ?_
             refine takeA 21 ?_
             refine takeA 22 ?_
             refine takeA 23 ?_
             refine takeA 24 ?_
             refine takeA 25 ?_
             refine takeA 26 ?_
             refine takeA 27 ?_
             refine readyA [28] (consA (fun K hK=>?_) .nil)
             go_simp
             skip
             refine outA hK kp_3 (fun hHeld28=>?_)
             clear hK K
             refine takeA 29 ?_
             refine takeA 30 ?_
             refine takeA 31 ?_
             refine takeA 32 ?_
             refine takeA 33 ?_
             refine skipA 34 ?_
             refine skipA 35 ?_
             refine skipA 36 ?_
             refine takeA 37 ?_
             refine takeA 38 ?_
             refine doneA ?_
             skip
             go_wp2_with fail
             go_roundw
             case rel=>exact ⟨l++[id],b,HRG2.out.drew,HB2.out.drew,by rw [← EB.out];exact HIB1.out,rfl,by rw [← HSN.out];unfold seenStep;rw [ES.out];rfl⟩
             case measure=>exact HLT2.out
      ·have EB:=Lib.hid (show bestStep s k fr b id=b from step_no (by unfold candB;rw [HT.out];simp [ec]))
       have ES:=Lib.hid (show onFrom s fr id=false by unfold onFrom;rw [HT.out];simp [ec])
       have z2:((t.cpu:Int) != fr)=true:=by simpa using ec
       clear hr ec
       go_wp2_with fail
       go_roundw
       case rel=>exact ⟨l++[id],b,HRG1.out,HB1'.out,by rw [← EB.out];exact HIB1.out,rfl,by rw [← HSN.out];unfold seenStep;rw [ES.out];rfl⟩
       case measure=>exact HLT.out
end Go.Proofs.YtapnaocdehahdaaGreat
