/-
  Layer 25 (pick): Lay.
-/
import Derived.Test.YtfgmglghlapbcaaGreatPkQ
namespace Go.Proofs.YtfgmglghlapbcaaGreat
open Go.RowKit Go.Maps Go.IntWalk Go.Lib Go.Sort Go.Shelf
set_option linter.unusedVariables false
set_option linter.unusedSimpArgs false
abbrev Spots:=List (Int×Int×Int)
def encS (x:Int×Int×Int):List Value:=[.int .u64 x.1,.int .u32 x.2.1,.int .u64 x.2.2]
theorem encS_ok:Enc encS 3:=⟨fun _=>rfl,fun x u hu=>by simp [encS] at hu;rcases hu with rfl | rfl | rfl <;> rfl,by decide⟩
def FitS (L:Spots):Prop:=∀ x∈L,(0≤x.1∧x.1≤18446744073709551615)∧(0≤x.2.1∧x.2.1≤4294967295)∧0≤x.2.2∧x.2.2≤18446744073709551615
def okS (s:TSt) (L:Spots) (k:Nat):Prop:=Ch.Ok (L[k]!).1 (L[k]!).2.1 (s.Gs[k]!).2
instance (s:TSt) (L:Spots) (k:Nat):Decidable (okS s L k):=by unfold okS;infer_instance
def playC (s:TSt) (L:Spots):Int:=if L.length=s.n∧(L[0]!).1=0∧(L[0]!).2.1=0 then (if ∀ k,k<s.n→okS s L k then (if s.c=0 then 0 else 4) else 2) else 2
def layTo (s:TSt) (L:Spots) (j:Nat):TSt:={ s with M:=fun k=>if k<j then [] else s.M k,fl:=fun k=>if k<j then (L[k]!).2.2 else s.fl k,A:=fun k=>if k<j then ((L[k]!).1,(L[k]!).2.1,(s.Gs[k]!).2) else s.A k }
def playS (s:TSt) (L:Spots):TSt:=if playC s L=0 then layTo s L s.n else s
theorem upd_step {α:Type} (f:Nat→α) (g:Nat→α) (j:Nat):upd (fun k=>if k<j then g k else f k) j (g j)=fun k=>if k<j+1 then g k else f k:=by
 funext k
 unfold upd
 by_cases e:k=j
 ·subst e;simp
 ·rw [if_neg e]
  show (if k<j then g k else f k)=_
  by_cases q:k<j
  ·rw [if_pos q,if_pos (by omega)]
  ·rw [if_neg q,if_neg (by omega)]
theorem layTo_zero (s:TSt) (L:Spots):layTo s L 0=s:=by
 unfold layTo
 simp
theorem layTo_succ (s:TSt) (L:Spots) (j:Nat):layTo s L (j+1)={ layTo s L j with M:=upd (layTo s L j).M j [],fl:=upd (layTo s L j).fl j (L[j]!).2.2,A:=upd (layTo s L j).A j ((L[j]!).1,(L[j]!).2.1,(s.Gs[j]!).2) }:=by
 unfold layTo
 simp only
 rw [upd_step s.M (fun _=>[]) j,upd_step s.fl (fun k=>(L[k]!).2.2) j,upd_step s.A (fun k=>((L[k]!).1,(L[k]!).2.1,(s.Gs[k]!).2)) j]
theorem TRaw.newq {w:World} {t bg bq ba bm:Nat} {qp:Nat→Nat} {Fq:Nat→List Nat} {s:TSt} {k q:Nat} {F:List Nat} {fl:Int} (h:TRaw w t bg bq ba bm qp Fq s) (hk:k<s.n) (hq:QIn w q F qN [] fl) (hF:∀ b∈F,b∉TF t bg bq ba bm Fq s.n) :
  TRaw (w.setCell ⟨bq,k,none⟩ (.pointer (some ⟨q,0,none⟩))) t bg bq ba bm (upd qp k q) (upd Fq k F) { s with M:=upd s.M k [],fl:=upd s.fl k fl }∧Kept [bq] w (w.setCell ⟨bq,k,none⟩ (.pointer (some ⟨q,0,none⟩))):=by
 have hkp:Kept [bq] w (w.setCell ⟨bq,k,none⟩ (.pointer (some ⟨q,0,none⟩))):=(Kept.refl _ _).setCell (Or.inl (by simp)) _
 have i:=h.lt
 have ne:=h.ne
 have e0:t∉[bq]:=by simp;omega
 have e1:bg∉[bq]:=by simp;omega
 have e3:ba∉[bq]:=by simp;omega
 have e4:bm∉[bq]:=by simp;omega
 have eF:∀ b∈F,b∉[bq]:=fun b hb m=>hF b hb (tf_own (by simp at m;simp [m]))
 have eq:∀ j,j<s.n→∀ b∈Fq j,b∉[bq]:=fun j hj b hb m=>h.off j hj b hb (by simp at m;simp [m])
 refine ⟨{ h with
  g0:=h.g0.imp fun c q=>hkp.cellAt q e0,g1:=h.g1.imp fun c q=>hkp.cellAt q e0,g2:=h.g2.imp fun c q=>hkp.cellAt q e0,g3:=hkp.cellAt h.g3 e0,g4:=hkp.cellAt h.g4 e0
  gc:=fun j hl=>⟨hkp.cellAt (h.gc j hl).1 e1,hkp.cellAt (h.gc j hl).2 e1⟩,gz:=fun j=>hkp.frz (h.gz j) i.2.1 e1
  qc:=fun j hl=>by
   by_cases e:j=k
   ·subst e;rw [upd_same];exact cell_set_eq (h.qc j hl)
   ·rw [upd_other _ _ e];exact cell_set_ne (h.qc j hl) (Or.inr e)
  qz:=fun j=>by rw [World.frozen?_setCell];exact h.qz j
  ac:=fun j hl=>⟨hkp.cellAt (h.ac j hl).1 e3,hkp.cellAt (h.ac j hl).2.1 e3,hkp.cellAt (h.ac j hl).2.2 e3⟩,az:=fun j=>hkp.frz (h.az j) i.2.2.2.1 e3
  map:=h.map.kept hkp e4
  q:=fun j hl=>?_,off:=fun j hl b hb=>?_,dis:=fun i j hi hj hij b hb=>?_ },hkp⟩
 ·by_cases e:j=k
  ·subst e;simp only [upd_same];exact hq.kept hkp eF
  ·simp only [upd_other _ _ e];exact (h.q j hl).kept hkp (eq j hl)
 ·by_cases e:j=k
  ·subst e;rw [upd_same] at hb;exact fun m=>hF b hb (tf_own m)
  ·rw [upd_other _ _ e] at hb;exact h.off j hl b hb
 ·by_cases e:i=k
  ·subst e
   rw [upd_same] at hb
   rw [upd_other _ _ (Ne.symm hij)]
   exact fun m=>hF b hb (tf_queue hj m)
  ·rw [upd_other _ _ e] at hb
   by_cases e':j=k
   ·subst e'
    rw [upd_same]
    exact fun m=>hF b m (tf_queue hi hb)
   ·rw [upd_other _ _ e'];exact h.dis i j hi hj hij b hb
theorem spot_cells {w:World} {b off:Nat} {L:Spots} (hc:∀ j u,(flatR encS L)[j]?=some u→w.cell? ⟨b,off+j,none⟩=some u) {k:Nat} (hk:k<L.length):w.cell? ⟨b,off+k*3,none⟩=some (.int .u64 (L[k]!).1)∧w.cell? ⟨b,off+k*3+1,none⟩=some (.int .u32 (L[k]!).2.1)∧w.cell? ⟨b,off+k*3+2,none⟩=some (.int .u64 (L[k]!).2.2):=by
 have hx:L[k]?=some L[k]!:=by rw [List.getElem?_eq_getElem hk,getElem!_pos L k hk]
 exact ⟨hc _ _ (flatR_at encS_ok hx 0 (by decide)),hc _ _ (flatR_at encS_ok hx 1 (by decide)),hc _ _ (flatR_at encS_ok hx 2 (by decide))⟩
set_option maxRecDepth 100000 in
set_option maxHeartbeats 4000000 in
theorem pLay_at {t:Nat} {F:List Nat} {s:TSt} (v:Value) (L:Spots) (w:World) (h:TreeIn w t F s) (hv:HeldR encS F w v L) (hf:FitS L) :
  Calls Tryz.prog 39 #[.pointer (some ⟨t,0,none⟩),v] w (TDid w t F (.int .i64 (playC s L)) (playS s L)):=by
 have HT:=Lib.hid h
 obtain ⟨bg,bq,ba,bm,qp,Fq,hr,rfl⟩:=h
 have A1:=Lib.hid (psome_at hr)
 have HR:=Lib.hid hr
 obtain ⟨a,cap,rfl,hl1,hl2,hl3,hcells⟩:=hv
 obtain ⟨c0,g0⟩:=hr.g0
 have hn:=hr.pos
 have HN:=Lib.hid hn
 by_cases hlen:L.length=s.n
 ·obtain ⟨b,off,rfl,⟨hbF,hbl⟩,hc⟩:∃ b off,a=some ⟨b,off,none⟩∧(b∉TF t bg bq ba bm Fq s.n∧b<w.heap.size)∧∀ j u,(flatR encS L)[j]?=some u→w.cell? ⟨b,off+j,none⟩=some u:=by
   rcases hcells with q | q
   ·rw [q] at hlen;simp at hlen;omega
   ·exact q
  obtain ⟨x0,x1,_⟩:=spot_cells hc (k:=0) (by omega)
  rw [Nat.zero_mul,Nat.add_zero] at x0 x1
  have HC:=Lib.hid hc
  have HL:=Lib.hid hlen
  rw [hlen] at hl1 ⊢
  have hn0:=hn.1
  have hnz:((s.n:Int) != (s.n:Int))=false:=by simp
  clear hr hcells hc hlen hl3 hn
  by_cases hz:(L[0]!).1=0∧(L[0]!).2.1=0
  ·rw [hz.1] at x0
   rw [hz.2] at x1
   have HZ:=Lib.hid hz
   clear hz
   have hn256:s.n≤256:=HN.out.2
   have HF:=Lib.hid hf
   have HLT:=Lib.hid HT.out.lt
   clear hf
   go_enter Tryz.func39,Tryz.ntmps39
   go_wp2_with fail
   refine A1.out.mono ?_;rintro e w5 ⟨rfl,rfl⟩
   go_wp2_with fail
   go_loopw [38] (fun i wr=>∃ k:Nat,k≤s.n∧i=.int .i64 k∧Below w.heap.size w wr∧Hid (∀ j,j<k→okS s L j)) (fun i _=>s.n - (intOf i).toNat)
   case atStart=>exact ⟨0,Nat.zero_le _,rfl,Below.refl _ _,Lib.hid fun j hj=>by omega⟩
   case round =>
    obtain ⟨k,hk,rfl,hb,hok⟩:=hrel
    by_cases hlt:k<s.n
    ·have hki:(k:Int)<(s.n:Int):=by omega
     have z0:decide ((k:Int)<(s.n:Int))=true:=decide_eq_true hki
     have hkl:k<L.length:=by rw [HL.out];exact hlt
     obtain ⟨y0,y1,y2⟩:=spot_cells HC.out hkl
     replace y0:=cell_later hb y0
     replace y1:=cell_later hb y1
     replace y2:=cell_later hb y2
     have hfx:=HF.out (L[k]!) (by rw [getElem!_pos L k hkl];exact List.getElem_mem hkl)
     have HR1:=Lib.hid (HR.out.below hb)
     have hgk:1≤(s.Gs[k]!).2∧(s.Gs[k]!).2≤65536:=by
      by_cases hz:k=0
      ·subst hz;rw [HR.out.right.root];decide
      ·exact ⟨(gErr_par (HR.out.right.rest k (by omega) hlt)).2.2.1,(gErr_par (HR.out.right.rest k (by omega) hlt)).2.2.2.1⟩
     have HOKk:=Lib.hid (show Ch.okB (L[k]!).1 (L[k]!).2.1 (s.Gs[k]!).2=decide (okS s L k) from rfl)
     obtain ⟨c4,q0⟩:=HR1.out.g0
     have gw:=(HR1.out.gc k hlt).2
     obtain ⟨⟨vv,rr,ff⟩,hvv⟩:∃ x,x=L[k]!:=⟨_,rfl⟩
     obtain ⟨⟨pp,ww⟩,hww⟩:∃ x,x=s.Gs[k]!:=⟨_,rfl⟩
     rw [← hvv] at y0 y1 y2 hfx HOKk
     rw [← hww] at gw hgk HOKk
     simp only at y0 y1 y2 hfx gw hgk HOKk
     have z1:IntKind.u32.wrap ww=ww:=IntWalk.u32_in _ (by omega)
     have A2:=Lib.hid fun W=>right_any vv rr ww W (by unfold Ch.Fits;omega)
     have HB:=Lib.hid hb
     have HLTk:=Lib.hid hlt
     clear hvv hww hfx hgk hb hkl
     go_wp2_with fail
     refine wp_world (fun W1 hW1=>?_)
     obtain ⟨b8,hb8⟩:∃ b,b=wr.heap.size:=⟨_,rfl⟩
     rw [← hb8]
     have hb1:Below wr.heap.size wr W1:=by rw [hW1];exact below_a _ _
     have s0:W1.cell? ⟨b8,0,none⟩=some (.int .u64 vv):=by rw [hW1];exact cell_nwE hb8 _ _ 0 _ rfl
     have s1:W1.cell? ⟨b8,1,none⟩=some (.int .u32 rr):=by rw [hW1];exact cell_nwE hb8 _ _ 1 _ rfl
     replace q0:=cell_later hb1 q0
     replace gw:=cell_later hb1 gw
     have HB1:=Lib.hid (Below.step HB.out hb1)
     clear hW1 hb8 hb1 y0 y1 y2
     refine startA (S:=fun w'=>Below W1.heap.size W1 w'∧w'.cell? ⟨b8,0,none⟩=some (.int .u64 vv)∧w'.cell? ⟨b8,1,none⟩=some (.int .u32 rr)∧w'.cell? ⟨t,0,none⟩=some (.slice (some ⟨bg,0,none⟩) s.n c4)∧w'.cell? ⟨bg,k*2+1,none⟩=some (.int .i64 ww)) ⟨Below.refl _ _,s0,s1,q0,gw⟩ (held_4 (below_dr _)) (fun hS0 hHeld=>?_)
     refine takeA 0 ?_
     refine takeA 1 ?_
     refine takeA 2 ?_
     refine takeA 3 ?_
     refine takeA 4 ?_
     refine takeA 5 ?_
     refine takeA 6 ?_
     refine takeA 7 ?_
     refine takeA 8 ?_
     refine takeA 9 ?_
     refine takeA 10 ?_
     refine takeA 11 ?_
     refine takeA 12 ?_
     refine takeA 13 ?_
     refine readyA [14] (consA (fun K hK=>?_) .nil)
     go_simp
     refine (A2.out _).mono ?_
     rintro e w9 ⟨rfl,hb9⟩
     have hdbg:=held_4 hb9 hHeld
     have HB9:=Lib.hid (Below.step HB1.out.drew hb9)
     go_wp2_with fail
     refine outA hK kp_4 (fun hHeld14=>?_)
     clear hK K
     refine takeA 15 ?_
     refine doneA ?_
     skip
     clear hS0 hHeld
     rw [HOKk.out]
     by_cases ho:okS s L k
     ·rw [decide_eq_true ho]
      have HO:=Lib.hid ho
      clear ho
      go_wp2_with fail
      go_roundw
      case rel=>exact ⟨k+1,by omega,by go_num,HB9.out,Lib.hid fun j hj=>by
       by_cases e:j=k
       ·subst e;exact HO.out
       ·exact hok.out j (by omega)⟩
      case measure=>simp [intOf];omega
     ·rw [decide_eq_false ho]
      have HCd:=Lib.hid (show playC s L=2 by unfold playC;rw [if_pos ⟨HL.out,HZ.out⟩,if_neg (fun q=>ho (q k HLTk.out))])
      have HS:=Lib.hid (show playS s L=s by unfold playS;rw [HCd.out];rfl)
      clear ho
      go_wp2_with fail
      go_ret
      exact ⟨by rw [HCd.out];rfl,by rw [HS.out];exact TAfter.same HT.out HB9.out⟩
    ·obtain rfl:k=s.n:=by omega
     have z0:decide ((s.n:Int)<(s.n:Int))=false:=decide_eq_false (by omega)
     have HR1:=Lib.hid (HR.out.below hb)
     have g3:=HR1.out.g3
     have hml:=HR1.out.map.len 3
     have HB:=Lib.hid hb
     clear hb
     by_cases hct:s.c=0
     ·rw [hct] at hml
      have HCd:=Lib.hid (show playC s L=0 by unfold playC;rw [if_pos ⟨HL.out,HZ.out⟩,if_pos hok.out,if_pos hct])
      have HS:=Lib.hid (show playS s L=layTo s L s.n by unfold playS;rw [HCd.out];rfl)
      clear hct
      go_wp2_with fail
      go_loopw [68] (fun i wx=>∃ (k:Nat) (qp':Nat→Nat) (Fq':Nat→List Nat),k≤s.n∧i=.int .i64 k∧TRaw wx t bg bq ba bm qp' Fq' (layTo s L k)∧Step (TF t bg bq ba bm Fq s.n) w (TF t bg bq ba bm Fq' s.n) wx) (fun i _=>s.n - (intOf i).toNat)
      case atStart=>exact ⟨0,qp,Fq,Nat.zero_le _,rfl,by rw [layTo_zero];exact HR1.out,Step.of HB.out⟩
      case round =>
       obtain ⟨k,qp',Fq',hk',rfl,hrk,hst⟩:=hrel
       by_cases hlt:k<s.n
       ·have hki:(k:Int)<(s.n:Int):=by omega
        have z1:decide ((k:Int)<(s.n:Int))=true:=decide_eq_true hki
        have hkl:k<L.length:=by rw [HL.out];exact hlt
        obtain ⟨y0,y1,y2⟩:=spot_cells HC.out hkl
        replace y0:=hst.cell hbF y0
        replace y1:=hst.cell hbF y1
        replace y2:=hst.cell hbF y2
        have hfx:=HF.out (L[k]!) (by rw [getElem!_pos L k hkl];exact List.getElem_mem hkl)
        have hgk:1≤(s.Gs[k]!).2∧(s.Gs[k]!).2≤65536:=by
         by_cases hz:k=0
         ·subst hz;rw [HR.out.right.root];decide
         ·exact ⟨(gErr_par (HR.out.right.rest k (by omega) hlt)).2.2.1,(gErr_par (HR.out.right.rest k (by omega) hlt)).2.2.2.1⟩
        have HSU:=Lib.hid (layTo_succ s L k)
        have HRK:=Lib.hid hrk
        have HST:=Lib.hid hst
        have HLTk:=Lib.hid hlt
        obtain ⟨⟨vv,rr,ff⟩,hvv⟩:∃ x,x=L[k]!:=⟨_,rfl⟩
        obtain ⟨ww,hww⟩:∃ x,x=(s.Gs[k]!).2:=⟨_,rfl⟩
        rw [← hvv] at y0 y1 y2 hfx HSU
        rw [← hww] at hgk HSU
        simp only at y0 y1 y2 hfx HSU
        have HFX:=Lib.hid hfx
        have HWW:=Lib.hid hww
        have HGW:=Lib.hid hgk
        have z2:IntKind.u32.wrap ww=ww:=IntWalk.u32_in _ (by omega)
        have A3:=Lib.hid fun W=>New_at 65792 W (by decide) (by decide)
        clear hvv hww hgk hkl hrk hst hlt
        go_wp2_with fail
        refine (A3.out _).mono ?_
        rintro e w7 ⟨q,F,rfl,hq,hqF,hb7⟩
        have hb6:Below wr.heap.size wr (wr.alloc (.cells #[.int .u64 vv,.int .u32 rr,.int .u64 ff] 55)):=below_a _ _
        have hs6:(wr.alloc (.cells #[.int .u64 vv,.int .u32 rr,.int .u64 ff] 55)).heap.size=wr.heap.size+1:=by simp
        rw [hs6] at hqF
        have s0:w7.cell? ⟨wr.heap.size,0,none⟩=some (.int .u64 vv):=cell_later hb7 (cell_nw wr _ _ 0 _ rfl)
        have s1:w7.cell? ⟨wr.heap.size,1,none⟩=some (.int .u32 rr):=cell_later hb7 (cell_nw wr _ _ 1 _ rfl)
        have s2:w7.cell? ⟨wr.heap.size,2,none⟩=some (.int .u64 ff):=cell_later hb7 (cell_nw wr _ _ 2 _ rfl)
        have hbx7:=Below.step hb6 hb7
        have hr7:=HRK.out.below hbx7
        have hq7:=hq.lt
        have A4:=Lib.hid (Raise_at ff w7 hq HFX.out.2.2)
        clear hb6 hs6 hb7 hq
        go_wp2_with fail
        refine A4.out.mono ?_
        rintro e w8 ⟨rfl,F8,h8,s8⟩
        rw [show max 0 ff=ff by have:=HFX.out.2.2;omega] at h8
        have hrk:=HRK.out
        have hFn:∀ b∈F,b∉TF t bg bq ba bm Fq' s.n:=fun b hb m=>by have:=hqF b hb;have:=hrk.ltF b m;omega
        have hFT:∀ b∈TF t bg bq ba bm Fq' s.n,b∉F:=fun b hb m=>hFn b m hb
        have hr8:=hr7.kept s8.kept hFT
        have hwr:=HST.out.kept.size
        have hs78:=hbx7.size
        have hF8w:∀ b∈F8,wr.heap.size≤b:=fun b hb=>by
         rcases s8.new b hb with q | q
         ·have:=hqF b q;omega
         ·omega
        have hF8n:∀ b∈F8,b∉TF t bg bq ba bm Fq' s.n:=fun b hb m=>by have:=hF8w b hb;have:=hrk.ltF b m;omega
        have n8:wr.heap.size∉F:=fun m=>by have:=hqF _ m;omega
        have s0':=s8.cell n8 s0
        have s1':=s8.cell n8 s1
        obtain ⟨c1,p1⟩:=hr8.g1
        have p2:=hr8.qc k HLTk.out
        have p3:=hr8.qz k
        obtain ⟨hr9,hk9⟩:=hr8.newq HLTk.out h8 hF8n
        have HST8:=Lib.hid ((HST.out.set (Kept.of (S:=[]) hbx7) (fun b hb=>by simp at hb)).set s8.kept (fun b hb=>by have:=hqF b hb;omega))
        have hst9:=HST8.out.trans (Step.inn (F:=TF t bg bq ba bm Fq' s.n) hk9 (fun b hb=>by simp at hb;subst hb;exact tf_own (by simp)))
        have HST9:=Lib.hid (show Step (TF t bg bq ba bm Fq s.n) w (TF t bg bq ba bm (upd Fq' k F8) s.n) (w8.setCell ⟨bq,k,none⟩ (.pointer (some ⟨q,0,none⟩))) from ⟨hst9.kept,fun b hb=>by
         rcases tf_mem hb with q | ⟨j,hj,q⟩
         ·exact hst9.new b (tf_own q)
         ·by_cases e:j=k
          ·subst e;rw [upd_same] at q;exact Or.inr (Nat.le_trans hwr (hF8w b q))
          ·rw [upd_other _ _ e] at q;exact hst9.new b (tf_queue hj q)⟩)
        have HR9:=Lib.hid hr9
        have t0:=cell_set_ne (b':=bq) (o':=k) (u:=.pointer (some ⟨q,0,none⟩)) s0' (Or.inl (by have:=hrk.lt;omega))
        have t1:=cell_set_ne (b':=bq) (o':=k) (u:=.pointer (some ⟨q,0,none⟩)) s1' (Or.inl (by have:=hrk.lt;omega))
        have T0:=Lib.hid t0
        have T1:=Lib.hid t1
        have NBA:=Lib.hid (show wr.heap.size≠ba∧t≠ba∧bg≠ba from ⟨by have:=hrk.lt;omega,hrk.ne.2.2.1,hrk.ne.2.2.2.2.2.1⟩)
        clear hrk hFn hFT hr8 hr7 hq7 hF8w hF8n n8 s0' s1' s0 s1 s2 hst9 hr9 hk9 t0 t1 h8 s8 hqF hbx7 hwr hs78
        go_wp2_with fail
        refine wp_world (fun W9 hW9=>?_)
        have t0:=T0.out
        have t1:=T1.out
        have hr9:=HR9.out
        have hst9:=HST9.out
        rw [← hW9] at t0 t1 hr9 hst9
        obtain ⟨c2,r2⟩:=hr9.g2
        obtain ⟨c3,r0⟩:=hr9.g0
        have rw1:=(hr9.gc k HLTk.out).2
        rw [show (({ layTo s L k with M:=upd (layTo s L k).M k [],fl:=upd (layTo s L k).fl k ff }:TSt).Gs[k]!).2=ww from HWW.out.symm] at rw1
        obtain ⟨a0,a1,a2⟩:=hr9.ac k HLTk.out
        have fa0:=hr9.az (k*3)
        have fa1:=hr9.az (k*3+1)
        have fa2:=hr9.az (k*3+2)
        have HR9':=Lib.hid hr9
        have HST9':=Lib.hid hst9
        obtain ⟨b8,hb8⟩:∃ b,b=wr.heap.size:=⟨_,rfl⟩
        rw [← hb8] at t0 t1 NBA ⊢
        have mx:b8∉[ba]:=by simpa using NBA.out.1
        have mt:t∉[ba]:=by simpa using NBA.out.2.1
        have mg:bg∉[ba]:=by simpa using NBA.out.2.2
        clear HR9 HST9 T0 T1 hr9 hst9 hW9 hb8 p1 p2 p3
        generalize ((({ layTo s L k with M:=upd (layTo s L k).M k [],fl:=upd (layTo s L k).fl k ff }:TSt).A k))=xa at a0 a1 a2
        refine startA (S:=fun w'=>Kept [ba] W9 w'∧w'.cell? ⟨b8,0,none⟩=some (.int .u64 vv)∧w'.cell? ⟨b8,1,none⟩=some (.int .u32 rr)∧w'.cell? ⟨t,2,none⟩=some (.slice (some ⟨ba,0,none⟩) s.n c2)∧w'.cell? ⟨t,0,none⟩=some (.slice (some ⟨bg,0,none⟩) s.n c3)∧w'.cell? ⟨bg,k*2+1,none⟩=some (.int .i64 ww)) ⟨Kept.refl _ _,t0,t1,r2,r0,rw1⟩ (fun h=>heldK_5 (kept_dr _ _) h) (fun hS0 hHeld=>?_)
        refine takeA 0 ?_
        refine takeA 1 ?_
        refine takeA 2 ?_
        refine takeA 3 ?_
        refine takeA 4 ?_
        refine takeA 5 ?_
        refine takeA 6 ?_
        refine takeA 7 ?_
        refine takeA 8 ?_
        refine takeA 9 ?_
        refine takeA 10 ?_
        refine takeA 11 ?_
        refine takeA 12 ?_
        refine takeA 13 ?_
        refine takeA 14 ?_
        refine takeA 15 ?_
        refine takeA 16 ?_
        refine takeA 17 ?_
        refine takeA 18 ?_
        refine takeA 19 ?_
        refine readyA [20] (consA (fun K hK=>?_) .nil)
        go_simp
        have hk20:=set3_kept W9.drew ba (k*3) (vv,rr,ww)
        unfold set3 at hk20
        refine outA hK kpK_5 (fun hHeld20=>?_)
        clear hK K
        refine doneA ?_
        skip
        refine q_world (fun W10 hW10=>?_)
        have hr10:=(HR9'.out.aside (x:=(vv,rr,ww)) HLTk.out (by have:=HFX.out;have:=HGW.out;unfold Ch.Fits;simp only;omega)).below (Below.refl _ _).drew
        have hk10:Kept [ba] W9 (set3 W9 ba (k*3) (vv,rr,ww)).drew:=(set3_kept W9 ba (k*3) (vv,rr,ww)).drew
        unfold set3 at hr10 hk10
        rw [← hW10] at hr10 hk10
        have HR10:=Lib.hid (show TRaw W10 t bg bq ba bm (upd qp' k q) (upd Fq' k F8) (layTo s L (k+1)) by rw [HSU.out];exact hr10)
        have HST10:=Lib.hid (HST9'.out.trans (Step.inn (F:=TF t bg bq ba bm (upd Fq' k F8) s.n) hk10 (fun b hb=>by simp at hb;subst hb;exact tf_own (by simp))))
        clear hr10 hk10 hW10 hS0 hHeld t0 t1 r2 r0 rw1 a0 a1 a2 fa0 fa1 fa2 mx mt mg
        go_wp2_with fail
        go_roundw
        case rel=>exact ⟨k+1,_,_,by omega,by go_num,HR10.out,HST10.out⟩
        case measure=>simp [intOf];omega
       ·obtain rfl:k=s.n:=by omega
        have z1:decide ((s.n:Int)<(s.n:Int))=false:=decide_eq_false (by omega)
        have HRK:=Lib.hid hrk
        have HST:=Lib.hid hst
        clear hrk hst
        go_wp2_with fail
        go_ret
        exact ⟨by rw [HCd.out];rfl,by rw [HS.out];exact ⟨_,⟨bg,bq,ba,bm,qp',Fq',HRK.out,rfl⟩,HST.out⟩⟩
     ·obtain ⟨m,hm⟩:∃ m,m=s.c:=⟨_,rfl⟩
      have HCd:=Lib.hid (show playC s L=4 by unfold playC;rw [if_pos ⟨HL.out,HZ.out⟩,if_pos hok.out,if_neg hct])
      have HS:=Lib.hid (show playS s L=s by unfold playS;rw [HCd.out];rfl)
      have hm1:0<m:=by omega
      rw [← hm] at hml
      have y1:decide ((m:Int) > 0)=true:=decide_eq_true (by omega)
      clear hct hm
      go_wp2_with fail
      go_ret
      exact ⟨by rw [HCd.out];rfl,by rw [HS.out];exact TAfter.same HT.out HB.out⟩
  ·have HCd:=Lib.hid (show playC s L=2 by unfold playC;rw [if_neg (fun q=>hz q.2)])
   have HS:=Lib.hid (show playS s L=s by unfold playS;rw [HCd.out];rfl)
   rw [HCd.out,HS.out]
   by_cases hz1:(L[0]!).1=0
   ·have hz2:(L[0]!).2.1≠0:=fun e=>hz ⟨hz1,e⟩
    rw [hz1] at x0
    have y1:((L[0]!).2.1 != 0)=true:=bne_iff_ne.2 hz2
    generalize (L[0]!).2.1=rr at *
    clear hz hz1
    go_enter Tryz.func39,Tryz.ntmps39
    go_wp2_with fail
    refine A1.out.mono ?_;rintro e w5 ⟨rfl,rfl⟩
    go_wp2_with fail
    go_ret
    exact ⟨rfl,TAfter.same HT.out (Below.refl _ _)⟩
   ·have y1:((L[0]!).1 != 0)=true:=bne_iff_ne.2 hz1
    generalize (L[0]!).1=vv at *
    clear hz
    go_enter Tryz.func39,Tryz.ntmps39
    go_wp2_with fail
    refine A1.out.mono ?_;rintro e w5 ⟨rfl,rfl⟩
    go_wp2_with fail
    go_ret
    exact ⟨rfl,TAfter.same HT.out (Below.refl _ _)⟩
 ·have HC:=Lib.hid (show playC s L=2 by unfold playC;rw [if_neg (fun q=>hlen q.1)])
  have HS:=Lib.hid (show playS s L=s by unfold playS;rw [HC.out];rfl)
  rw [HC.out,HS.out]
  have y1:((L.length:Int) != (s.n:Int))=true:=by simp;omega
  clear hr hcells
  go_enter Tryz.func39,Tryz.ntmps39
  go_wp2_with fail
  refine A1.out.mono ?_;rintro e w5 ⟨rfl,rfl⟩
  go_wp2_with fail
  go_ret
  exact ⟨rfl,TAfter.same HT.out (Below.refl _ _)⟩
end Go.Proofs.YtfgmglghlapbcaaGreat
