/-
  Layer 25 (pick), the reference: Right (quantumref19: Check).
-/
import Derived.Test.YtfgmglghlapbcaaGreatRfA
namespace Go.Proofs.YtfgmglghlapbcaaGreat
open Go.RowKit Go.Maps Go.IntWalk Go.Lib Go.Sort Go.Shelf
set_option linter.unusedVariables false
set_option linter.unusedSimpArgs false
def dpL (Gs:Grps) (k:Nat):List Int:=(List.range k).map fun j=>((upL (parG Gs) j).length:Int) - 1
theorem dpL_len (Gs:Grps) (k:Nat):(dpL Gs k).length=k:=by unfold dpL;simp
theorem dpL_succ (Gs:Grps) (k:Nat):dpL Gs (k+1)=dpL Gs k++[((upL (parG Gs) k).length:Int) - 1]:=by
 unfold dpL
 rw [List.range_succ,List.map_append]
 rfl
theorem dpL_get {Gs:Grps} {k j:Nat} (h:j<k):(intsV (dpL Gs k))[j]?=some (.int .i64 (((upL (parG Gs) j).length:Int) - 1)):=by
 unfold intsV dpL
 rw [List.map_map,List.getElem?_map,List.getElem?_range h]
 rfl
set_option maxRecDepth 100000 in
set_option maxHeartbeats 4000000 in
theorem gCheck19_at (v:Value) (Gs:Grps) (w:World) (h:RecsAt encG w v Gs):Calls Tryz.prog 94 #[v] w fun e w'=>e=.returned (.tuple #[.int .i64 (checkG Gs).1,.int .i64 (checkG Gs).2])∧Below w.heap.size w w':=by
 obtain ⟨i0,hi,hz0,hz1,hz2⟩:=info_parts infoI
 obtain ⟨a,cap,rfl,hl1,hl2,hl3,hcells⟩:=id h
 have HG:=Lib.hid h
 clear h hl3
 by_cases h1:256<Gs.length
 ·have z1:decide ((Gs.length:Int) > 256)=true:=decide_eq_true (by omega)
  have z1':decide (256<(Gs.length:Int))=true:=decide_eq_true (by omega)
  have z1'':decide (256<Gs.length)=true:=decide_eq_true h1
  have hE:checkG Gs=(-1,5):=by unfold checkG;rw [if_pos h1]
  rw [hE]
  clear hcells hE h1
  go_enter Tryz.func94,Tryz.ntmps94
  go_wp2_with fail
  exact bodyPost_ret (v:=.tuple #[.int .i64 (-1),.int .i64 5]) (by simp [results,Tryz.results94,go_sem]) rfl ⟨rfl,Below.refl _ _⟩
 have z1:decide ((Gs.length:Int) > 256)=false:=decide_eq_false (by omega)
 have z1':decide (256<(Gs.length:Int))=false:=decide_eq_false (by omega)
 have z1'':decide (256<Gs.length)=false:=decide_eq_false h1
 by_cases h2:Gs.length=0
 ·have z2:((Gs.length:Int) == 0)=true:=by rw [h2];rfl
  have hE:checkG Gs=(0,190):=by unfold checkG;rw [if_neg h1,if_pos (Or.inl h2)]
  rw [hE]
  clear hcells hE h1
  go_enter Tryz.func94,Tryz.ntmps94
  go_wp2_with fail
  exact bodyPost_ret (v:=.tuple #[.int .i64 0,.int .i64 190]) (by simp [results,Tryz.results94,go_sem]) rfl ⟨rfl,Below.refl _ _⟩
 have z2:((Gs.length:Int) == 0)=false:=by simpa using h2
 obtain ⟨b,off,rfl,hc⟩:=hcells.resolve_left fun e=>h2 (by rw [e];rfl)
 have hc':∀ k,k<Gs.length→w.cell? ⟨b,off+k*2,none⟩=some (.int .i64 Gs[k]!.1)∧w.cell? ⟨b,off+k*2+1,none⟩=some (.int .i64 Gs[k]!.2):=fun k hk=>by
  have hx:Gs[k]?=some Gs[k]!:=by rw [getElem!_pos Gs k hk];exact List.getElem?_eq_getElem hk
  have q0:=flatR_at encG_ok hx 0 (by decide)
  have q1:=flatR_at encG_ok hx 1 (by decide)
  exact ⟨hc _ _ (q0.trans rfl),by rw [Nat.add_assoc];exact hc _ _ (q1.trans rfl)⟩
 have hbl:b<w.heap.size:=lt_of_cell (hc' 0 (by omega)).1
 obtain ⟨g00,g01⟩:=hc' 0 (by omega)
 rw [Nat.zero_mul,Nat.add_zero] at g00 g01
 have HC:=Lib.hid hc'
 clear hc hc' hcells
 obtain ⟨p0,q0,hpq⟩:∃ p q,Gs[0]! = (p,q):=⟨_,_,rfl⟩
 rw [hpq] at g00 g01
 simp only at g00 g01
 have hn0:(0:Int)<(Gs.length:Int):=by omega
 have hn0':0<Gs.length:=by omega
 by_cases h3:p0=0
 ·by_cases h4:q0=1
  ·have hE:checkG Gs=checkFrom Gs 1:=by unfold checkG;rw [if_neg h1,if_neg fun e=>e.elim h2 fun q=>q (by rw [hpq,h3,h4])]
   rw [hE]
   have HR:=Lib.hid (show Gs[0]! = (0,1) by rw [hpq,h3,h4])
   subst h3 h4
   clear hE hpq
   have hlN:Gs.length≤256:=by omega
   have hlp:1≤Gs.length:=by omega
   clear h1 h2
   go_enter Tryz.func94,Tryz.ntmps94
   go_wp2_with fail
   go_loopw [4,5] (fun v s wr=>∃ k:Nat,k≤Gs.length∧s=.int .i64 k∧wr.ownsRow w.heap.size 3 1 v k (intsV (dpL Gs k))∧(∀ j,1≤j→j<k→gErr Gs j=0)∧checkFrom Gs 1=checkFrom Gs (max k 1)∧Below w.heap.size w wr) (fun _ s _=>Gs.length - (intOf s).toNat)
   case atStart=>exact ⟨0,Nat.zero_le _,rfl,World.ownsRow_nil _ _ _ _,fun j h1 h2=>by omega,rfl,Below.refl _ _⟩
   case round =>
    clear z1 z1' z1'' z2 g00 g01
    obtain ⟨k,hk,rfl,hown,hgood,hEk,hB⟩:=hrel
    have HB:=Lib.hid hB
    have HGood:=Lib.hid hgood
    have HO:=Lib.hid hown
    clear hgood hown
    by_cases hlt:k<Gs.length
    ·have hk0:(0:Int)≤(k:Int):=by omega
     have hkl:(k:Int)<(Gs.length:Int):=by omega
     have zl:decide ((k:Int)<(Gs.length:Int))=true:=decide_eq_true hkl
     have zl':decide (k<Gs.length)=true:=decide_eq_true hlt
     by_cases hz:k=0
     ·subst hz
      have HE:=Lib.hid hEk
      have HV:=Lib.hid (show dpL Gs (0+1)=dpL Gs 0++[0] by rw [dpL_succ,upL_zero];rfl)
      clear hB hEk
      go_wp2_with (at_builtin;refine wpList_append_own _ rfl _ _ 37 rfl w.heap.size 3 i0 (.int .i64 0) 1 8 Tryz.underlying37 hi hz0 hz1 hz2 rfl (by decide) _ 0 (intsV (dpL Gs 0)) rfl (World.ownsRow.alloc HO.out _) _ 1 1 [.int .i64 0] rfl rfl ?c1 ?c2 ?c3 ?c4 ?c5 ?_)
      case c1 =>
       intro q u hq
       rw [addN]
       exact cellN (by simp) (by simpa using hq)
      case c2 =>
       intro u hu
       simp only [List.mem_cons,List.not_mem_nil,or_false] at hu
       subst hu;rfl
      case c3=>unfold maxLen;omega
      case c4=>omega
      case c5=>exact (Below.allocS HB.out _).size
      intro v' w8 hown8 hgrow8 _
      have hb8:Below w.heap.size w w8:=(Below.allocS HB.out _).grown hgrow8 (Below.allocS HB.out _).size (fun q e=>(HO.out.lt q e).1)
      have HW8:=Lib.hid (show w8.ownsRow w.heap.size 3 1 v' (0+1) (intsV (dpL Gs (0+1))) by rw [HV.out,ints_snoc];exact hown8)
      have HB8:=Lib.hid hb8
      clear hown8 hgrow8 hb8
      go_wp2_with fail
      go_roundw
      case rel=>exact ⟨1,by omega,by go_num,HW8.out,fun j h1 h2=>by omega,rfl,HB8.out⟩
      case measure=>simp [intOf];omega
     ·have hk1:0<k:=by omega
      have HE:=Lib.hid (show checkFrom Gs 1=checkFrom Gs k by rw [hEk,show max k 1=k by omega])
      have zk:((k:Int) == 0)=false:=by simp;omega
      have zk':(k == 0)=false:=by simp;omega
      have zkk:¬ (k:Int)=0:=by omega
      have zw:IntKind.i64.wrap ((k:Int) - 1)=(k:Int) - 1:=IntWalk.i64_in _ (by omega)
      obtain ⟨p,q,hpq⟩:∃ p q,Gs[k]! = (p,q):=⟨_,_,rfl⟩
      obtain ⟨a0,a1⟩:=HC.out k hlt
      rw [hpq] at a0 a1
      have d0:=below_nat hB hbl a0
      have d1:=below_nat hB hbl a1
      simp only at d0 d1
      have HPQ:=Lib.hid hpq
      clear hB hEk a0 a1 hpq
      by_cases c1:p<0∨(k:Int)≤p
      ·have hg:gErr Gs k=191:=by unfold gErr;rw [HPQ.out,if_pos c1]
       have HF:=Lib.hid (show checkFrom Gs k=((k:Int),191) by rw [checkFrom_bad hlt (by rw [hg];decide),hg])
       by_cases c2:p<0
       ·have y1:decide (p<0)=true:=decide_eq_true c2
        clear hg c1 c2
        go_wp2_with fail
        refine bodyPost_ret (v:=.tuple #[.int .i64 (k:Nat),.int .i64 191]) (by simp [results,Tryz.results94,go_sem, *]) rfl ⟨?_,HB.out⟩
        rw [HE.out,HF.out]
       ·have y1:decide (p<0)=false:=decide_eq_false c2
        have y2:decide (p > (k:Int) - 1)=true:=decide_eq_true (by omega)
        have y2':decide ((k:Int) - 1<p)=true:=decide_eq_true (by omega)
        clear hg c1 c2
        go_wp2_with fail
        refine bodyPost_ret (v:=.tuple #[.int .i64 (k:Nat),.int .i64 191]) (by simp [results,Tryz.results94,go_sem, *]) rfl ⟨?_,HB.out⟩
        rw [HE.out,HF.out]
      ·have y1:decide (p<0)=false:=decide_eq_false (by omega)
       have y2:decide (p > (k:Int) - 1)=false:=decide_eq_false (by omega)
       have y2':decide ((k:Int) - 1<p)=false:=decide_eq_false (by omega)
       by_cases c4:1≤q∧q≤65536
       ·have y3:decide (q<1)=false:=decide_eq_false (by omega)
        have y4:decide (q > 65536)=false:=decide_eq_false (by omega)
        have y4':decide (65536<q)=false:=decide_eq_false (by omega)
        obtain ⟨pn,rfl⟩:∃ pn:Nat,p=pn:=⟨p.toNat,by omega⟩
        have hpk:pn<k:=by omega
        have hpi:(pn:Int)<(k:Int):=by omega
        have hpG:parG Gs k=pn:=by unfold parG;rw [HPQ.out];simp
        have hup:=upL_pos (P:=parG Gs) hk1 (by rw [hpG];exact hpk)
        rw [hpG] at hup
        have hlu:=upL_len (P:=parG Gs) pn
        obtain ⟨D,hD⟩:∃ D,D=(upL (parG Gs) pn).length:=⟨_,rfl⟩
        have HL:=Lib.hid (show ((upL (parG Gs) k).length:Int)=(D:Int)+1 by rw [hup,List.length_cons,hD];push_cast;rfl)
        obtain ⟨bd,cd,rfl⟩:=own_pos HO.out hk1
        have dc:=HO.out.cellAt pn (by omega)
        rw [dpL_get hpk,← hD] at dc
        have HV:=Lib.hid (show dpL Gs (k+1)=dpL Gs k++[(D:Int) - 1+1] by rw [dpL_succ,HL.out];congr 2;omega)
        have zd:IntKind.i64.wrap ((D:Int) - 1+1)=(D:Int) - 1+1:=IntWalk.i64_in _ (by omega)
        have hdk:D≤k+1:=by omega
        clear hup hlu hD hpG
        rw [show (D:Int) - 1+1=(D:Int) by omega] at zd HV
        have HDN:=Lib.hid (show ((upL (parG Gs) k).length:Int) - 1=(D:Int) by rw [HL.out];omega)
        have HC1:=Lib.hid c1
        have HC4:=Lib.hid c4
        clear HL c1 c4
        go_wp2_with (at_builtin;refine wpList_append_own _ rfl _ _ 37 rfl w.heap.size 3 i0 (.int .i64 0) 1 8 Tryz.underlying37 hi hz0 hz1 hz2 rfl (by decide) _ k (intsV (dpL Gs k)) rfl (World.ownsRow.alloc HO.out _) _ 1 1 [.int .i64 D] rfl rfl ?c1 ?c2 ?c3 ?c4 ?c5 ?_)
        case c1 =>
         intro q u hq
         rw [addN]
         exact cellN (by simp) (by simpa using hq)
        case c2 =>
         intro u hu
         simp only [List.mem_cons,List.not_mem_nil,or_false] at hu
         subst hu;rfl
        case c3=>unfold maxLen;omega
        case c4=>omega
        case c5=>exact (Below.allocS HB.out _).size
        intro v' w8 hown8 hgrow8 _
        have hb8:Below w.heap.size w w8:=(Below.allocS HB.out _).grown hgrow8 (Below.allocS HB.out _).size (fun q e=>(HO.out.lt q e).1)
        obtain ⟨be,ce,rfl⟩:=own_pos hown8 (by omega)
        have HW8:=Lib.hid (show w8.ownsRow w.heap.size 3 1 (.slice (some ⟨be,0,none⟩) (k+1) ce) (k+1) (intsV (dpL Gs (k+1))) by rw [HV.out,ints_snoc];exact hown8)
        have q16:=hown8.cellAt k (by omega)
        rw [List.getElem?_append_right (by simp [intsV,dpL_len])] at q16
        simp only [intsV,List.length_map,dpL_len,Nat.sub_self,List.getElem?_cons_zero] at q16
        have HB8:=Lib.hid hb8
        have hk1i:(k:Int)<(k:Int)+1:=by omega
        have hk1n:k<k+1:=by omega
        clear hown8 hgrow8 hb8 dc
        by_cases h5:4<(D:Int)
        ·have hg:gErr Gs k=193:=by unfold gErr;rw [HPQ.out,if_neg HC1.out,if_neg (fun e=>e HC4.out),if_pos (by rw [HDN.out];exact h5)]
         have HF:=Lib.hid (show checkFrom Gs k=((k:Int),193) by rw [checkFrom_bad hlt (by rw [hg];decide),hg])
         have y6:decide ((D:Int) > 4)=true:=decide_eq_true h5
         have y6':decide (4<(D:Int))=true:=decide_eq_true h5
         have y7:decide (4<D)=true:=decide_eq_true (by omega)
         have HB:=HB8
         clear hg h5
         go_wp2_with fail
         refine bodyPost_ret (v:=.tuple #[.int .i64 (k:Nat),.int .i64 193]) (by simp [results,Tryz.results94,go_sem, *]) rfl ⟨?_,HB.out⟩
         rw [HE.out,HF.out]
        ·have hg:gErr Gs k=0:=by unfold gErr;rw [HPQ.out,if_neg HC1.out,if_neg (fun e=>e HC4.out),if_neg (by rw [HDN.out];exact h5)]
         have HF:=Lib.hid (And.intro hg (checkFrom_step hlt hg))
         have y6:decide ((D:Int) > 4)=false:=decide_eq_false h5
         have y6':decide (4<(D:Int))=false:=decide_eq_false h5
         have y7:decide (4<D)=false:=decide_eq_false (by omega)
         clear hg h5
         go_wp2_with fail
         go_roundw
         case rel=>exact ⟨k+1,by omega,by go_num,HW8.out,fun j h1 h2=>by
          by_cases e:j=k
          ·rw [e];exact HF.out.1
          ·exact HGood.out j h1 (by omega),by rw [HE.out,HF.out.2,show max (k+1) 1=k+1 by omega],HB8.out⟩
         case measure=>simp [intOf];omega
       ·have y0:=c4
        have hg:gErr Gs k=192:=by unfold gErr;rw [HPQ.out,if_neg c1,if_pos c4]
        have HF:=Lib.hid (show checkFrom Gs k=((k:Int),192) by rw [checkFrom_bad hlt (by rw [hg];decide),hg])
        by_cases c5:q<1
        ·have y3:decide (q<1)=true:=decide_eq_true c5
         clear hg c1 c4 y0 c5
         go_wp2_with fail
         refine bodyPost_ret (v:=.tuple #[.int .i64 (k:Nat),.int .i64 192]) (by simp [results,Tryz.results94,go_sem, *]) rfl ⟨?_,HB.out⟩
         rw [HE.out,HF.out]
        ·have y3:decide (q<1)=false:=decide_eq_false c5
         have y4:decide (q > 65536)=true:=decide_eq_true (by omega)
         have y4':decide (65536<q)=true:=decide_eq_true (by omega)
         clear hg c1 c4 y0 c5
         go_wp2_with fail
         refine bodyPost_ret (v:=.tuple #[.int .i64 (k:Nat),.int .i64 192]) (by simp [results,Tryz.results94,go_sem, *]) rfl ⟨?_,HB.out⟩
         rw [HE.out,HF.out]
    ·have zz:decide ((k:Int)<(Gs.length:Int))=false:=decide_eq_false (by omega)
     have zz':decide (k<Gs.length)=false:=decide_eq_false hlt
     have HE:=Lib.hid (show checkFrom Gs 1=checkFrom Gs k by rw [hEk,show max k 1=k by omega])
     have HF:=Lib.hid (checkFrom_end hlt)
     clear hB hEk
     go_wp2_with fail
     refine bodyPost_ret (v:=.tuple #[.int .i64 (-1),.int .i64 0]) (by simp [results,Tryz.results94,go_sem]) rfl ⟨?_,HB.out⟩
     rw [HE.out,HF.out]
  ·have z4:(q0 != 1)=true:=bne_iff_ne.2 h4
   have z4':¬ q0=1:=h4
   have hE:checkG Gs=(0,190):=by
    unfold checkG
    rw [if_neg h1,if_pos (Or.inr ?_)]
    rw [hpq]
    exact fun e=>h4 (congrArg Prod.snd e)
   rw [hE]
   subst h3
   clear hE hpq h1 h2 h4
   go_enter Tryz.func94,Tryz.ntmps94
   go_wp2_with fail
   exact bodyPost_ret (v:=.tuple #[.int .i64 0,.int .i64 190]) (by simp [results,Tryz.results94,go_sem]) rfl ⟨rfl,Below.refl _ _⟩
 ·have z3:(p0 != 0)=true:=bne_iff_ne.2 h3
  have z3':¬ p0=0:=h3
  have hE:checkG Gs=(0,190):=by
   unfold checkG
   rw [if_neg h1,if_pos (Or.inr ?_)]
   rw [hpq]
   exact fun e=>h3 (congrArg Prod.fst e)
  rw [hE]
  clear hE hpq h1 h2 h3
  go_enter Tryz.func94,Tryz.ntmps94
  go_wp2_with fail
  exact bodyPost_ret (v:=.tuple #[.int .i64 0,.int .i64 190]) (by simp [results,Tryz.results94,go_sem]) rfl ⟨rfl,Below.refl _ _⟩
theorem gRight19_at (v:Value) (Gs:Grps) (w:World) (h:RecsAt encG w v Gs):Calls Tryz.prog 58 #[v] w fun e w'=>e=.returned (.bool (decide ((checkG Gs).2=0)))∧Below w.heap.size w w':=by
 have A1:=Lib.hid (gCheck19_at v Gs w h)
 have z:(((checkG Gs).2:Int) == 0)=decide ((checkG Gs).2=0):=rfl
 clear h
 generalize checkG Gs=c at *
 go_enter Tryz.func58,Tryz.ntmps58
 go_wp2_with fail
 refine A1.out.mono ?_;rintro e w1 ⟨rfl,hb⟩
 go_wp2_with fail
 go_ret
 exact ⟨rfl,hb⟩
theorem tRight_at (v:Value) (Gs:Grps) (w:World) (h:RecsAt encG w v Gs):Calls Tryz.prog 27 #[v] w fun e w'=>e=.returned (.bool (decide ((checkG Gs).2=0)))∧Below w.heap.size w w':=by
 have A1:=Lib.hid (gRight19_at v Gs w h)
 clear h
 generalize decide ((checkG Gs).2=0)=c at *
 go_enter Tryz.func27,Tryz.ntmps27
 go_wp2_with fail
 refine A1.out.mono ?_;rintro e w1 ⟨rfl,hb⟩
 go_wp2_with fail
 go_ret
 exact ⟨rfl,hb⟩
end Go.Proofs.YtfgmglghlapbcaaGreat
