/-
  Layer 31 (sched): spawn.
-/
import Derived.Test.YtapnaocdehahdaaGreatSchB
import Derived.WalkSmall
namespace Go.Proofs.YtapnaocdehahdaaGreat
open Go.RowKit Go.Maps Go.IntWalk Go.Lib
set_option linter.unusedVariables false
set_option linter.unusedSimpArgs false
def bornT (s:SSt) (k g:Nat) (o:OpV):Tsk:={ g:=g,w:=o.weight,cpu:=k,mask:=o.mask,rdy:=false,run:=((s.Q k).fl g,0,o.weight) }
def wideM (m:Int) (C:Nat):Bool:=decide (m / 2 ^ C≠0)
def spC (s:SSt) (k:Nat) (o:OpV):Int:=
 if nameV o.task=false then 301
 else if ¬ (0≤o.group∧o.group<(s.n:Int)) then 302
 else if ¬ wgOk o.weight∨o.mask=0∨wideM o.mask s.C=true then 2
 else if s.T o.task≠none then 303
 else if bitM o.mask k=false then 305
 else 0
def spS (s:SSt) (k:Nat) (o:OpV):SSt:=if spC s k o=0 then entS (newS s o.task (bornT s k o.group.toNat o)) o.task (bornT s k o.group.toNat o) else s
theorem SOk.born {s:SSt} (h:SOk s) {k:Nat} {o:OpV} (hk:k<s.C) (hwf:o.Wf) (hc:spC s k o=0):SOk (newS s o.task (bornT s k o.group.toNat o))∧(nameV o.task=true∧(0≤o.group∧o.group<(s.n:Int))∧wgOk o.weight∧s.T o.task=none):=by
 unfold spC at hc
 by_cases h1:nameV o.task=false
 ·rw [if_pos h1] at hc;exact absurd hc (by decide)
 rw [if_neg h1] at hc
 by_cases h2:0≤o.group∧o.group<(s.n:Int)
 ·rw [if_neg (fun q=>q h2)] at hc
  by_cases h3:¬ wgOk o.weight∨o.mask=0∨wideM o.mask s.C=true
  ·rw [if_pos h3] at hc;exact absurd hc (by decide)
  rw [if_neg h3] at hc
  by_cases h4:s.T o.task≠none
  ·rw [if_pos h4] at hc;exact absurd hc (by decide)
  have h4:s.T o.task=none:=Classical.not_not.1 h4
  have h1:nameV o.task=true:=by simpa using h1
  have hw:wgOk o.weight:=Classical.not_not.1 (fun q=>h3 (Or.inl q))
  have hg:o.group.toNat<s.n:=by omega
  refine ⟨h.put (nameV_iff.1 h1) h4 rfl ⟨hg,hw,hk,hwf.mask,?_⟩,h1,h2,hw,h4⟩
  have hf:=(h.tree k hk).core.fok o.group.toNat
  unfold FlOk at hf
  unfold wgOk at hw
  exact ⟨hf.1,hf.2,Int.le_refl 0,(by omega:(0:Int)<o.weight),hw.1,hw.2,Or.inr rfl⟩
 ·rw [if_pos h2] at hc;exact absurd hc (by decide)
theorem wide_shift {m:Int} {C:Nat} (h1:1≤C) (h2:C≤64):∃ v1 v2:Int,Op.shift .shr .u64 m .i64 ((C:Int) - 1)=pure (.int .u64 v1)∧Op.shift .shr .u64 v1 .u64 1=pure (.int .u64 v2)∧(v2 != 0)=wideM m C:=by
 refine ⟨m / 2 ^ ((C:Int) - 1).toNat,m / 2 ^ ((C:Int) - 1).toNat / 2 ^ (1:Int).toNat,shift_shr_u64 _ _ _ (by omega) (by omega),shift_shr_u64 _ _ _ (by decide) (by decide),?_⟩
 have e1:((C:Int) - 1).toNat=C - 1:=by omega
 have e2:(1:Int).toNat=1:=rfl
 have e3:(2:Int) ^ C=2 ^ (C - 1)*2:=by
  obtain ⟨d,rfl⟩:∃ d,C=d+1:=⟨C - 1,by omega⟩
  rw [Nat.add_sub_cancel,Int.pow_succ]
 have e4:m / 2 ^ (C - 1) / 2 ^ 1=m / 2 ^ C:=by
  rw [e3,Int.pow_one]
  exact Int.ediv_ediv_of_nonneg (Int.le_of_lt (Int.pow_pos (by decide)))
 unfold wideM
 rw [e1,e2,e4]
 by_cases h:m / 2 ^ C=0 <;> simp [h]
theorem bit_shift {m:Int} {k:Nat} (h2:k≤64) (hm:0≤m∧m≤18446744073709551615):∃ v:Int,Op.shift .shr .u64 m .i64 (k:Int)=pure (.int .u64 v)∧(bits BinOp.and IntKind.u64 v 1 == 0)=!bitM m k:=by
 have hp:(0:Int)<2 ^ k:=Int.pow_pos (by decide)
 have h0:0≤m / 2 ^ k:=Int.ediv_nonneg hm.1 (Int.le_of_lt hp)
 have h1:m / 2 ^ k≤m:=Int.ediv_le_self _ hm.1
 refine ⟨m / 2 ^ (k:Int).toNat,shift_shr_u64 _ _ _ (by omega) (by omega),?_⟩
 rw [Int.toNat_natCast,and_one_u64 _ h0 (Int.le_trans h1 hm.2)]
 unfold bitM
 rcases Int.emod_two_eq (m / 2 ^ k) with h | h <;> simp [h]
def SLay.born (L:SLay) (id:Int) (b:Nat):SLay:={ L with tp:=fun j=>if j=id then b else L.tp j,lab:=fun c=>if c=b then (4,id,0) else L.lab c }
theorem SRaw.born {w w':World} {x b:Nat} {L:SLay} {s:SSt} {id:Int} {t:Tsk} (h:SRaw w x L s) (hT:s.T id=none) (hb:L.lab b=(0,0,0)) (ht:TskAt w b t) (hg:w.grownBy w' (some L.bm)) (hm:MapP w' L.bm (setF (fun j=>(s.T j).map fun _=>some (L.tp j)) id (some (some b))) (s.c+1)) :
  SRaw w' x (L.born id b) (newS s id t):=by
 have hk:Kept [L.bm] w w':=(Kept.refl _ _).grown hg (fun k q=>by cases q;exact Or.inl (by simp))
 have e:∀ c p,L.lab c=p→p≠(1,4,0)→p≠(0,0,0)→c∉[L.bm]∧(L.born id b).lab c=p:=fun c p hp hn h0=>by
  refine ⟨fun m=>by simp at m;subst m;exact hn (by rw [← hp];exact h.lm),?_⟩
  show (if c=b then _ else _)=p
  rw [if_neg,hp]
  intro q;subst q;rw [hb] at hp;exact h0 hp.symm
 have nb:b∉[L.bm]:=by simp;intro q;rw [q,h.lm] at hb;simp at hb
 have hs:∀ j t2,(newS s id t).T j=some t2→(j=id∧t2=t)∨(j≠id∧s.T j=some t2):=fun j t2 hj=>by
  replace hj:setF s.T id (some t) j=some t2:=hj
  by_cases q:j=id
  ·subst q;rw [setF_same] at hj;cases hj;exact Or.inl ⟨rfl,rfl⟩
  ·rw [setF_other _ _ q] at hj;exact Or.inr ⟨q,hj⟩
 have lmb:L.bm≠b:=fun q=>nb (by simp [q])
 exact {
  head:=(h.head.kept hk (e _ _ h.lx (by simp) (by simp)).1) |> fun q=>⟨q.c0,q.c1,q.c2,q.c3,q.c4,q.c5,q.c6,q.c7,q.c8,q.c9,q.z⟩
  gr:=h.gr.kept hk (e _ _ h.lg (by simp) (by simp)).1
  cl:=h.cl.kept hk (e _ _ h.ll (by simp) (by simp)).1
  cu:=h.cu.kept hk (e _ _ h.lu (by simp) (by simp)).1
  ld:=h.ld.kept hk (e _ _ h.lo (by simp) (by simp)).1
  rq:=h.rq.kept hk (e _ _ h.lq (by simp) (by simp)).1
  ra:=h.ra.kept hk (e _ _ h.la (by simp) (by simp)).1
  qc:=fun g hg=>(h.qc g hg).kept hk (e _ _ (h.lrq g hg) (by simp) (by simp)).1
  ac:=fun g hg=>(h.ac g hg).kept hk (e _ _ (h.lra g hg) (by simp) (by simp)).1
  map:=by
   have e2:(fun j=>(((newS s id t).T j).map fun _=>some ((L.born id b).tp j)))=setF (fun j=>(s.T j).map fun _=>some (L.tp j)) id (some (some b)):=funext fun j=>by
    show (setF s.T id (some t) j).map (fun _=>some (if j=id then b else L.tp j))=_
    by_cases q:j=id
    ·subst q;rw [setF_same,setF_same,if_pos rfl];rfl
    ·rw [setF_other _ _ q,setF_other _ _ q,if_neg q]
   rw [e2];exact hm
  tk:=fun j t2 hj=>by
   show TskAt w' (if j=id then b else L.tp j) t2
   rcases hs j t2 hj with ⟨q,rfl⟩ | ⟨q,hj⟩
   ·rw [if_pos q];exact ht.kept hk nb
   ·rw [if_neg q];exact (h.tk j t2 hj).kept hk (e _ _ (h.ltk j t2 hj) (by simp) (by simp)).1
  q:=fun g k hg hc=>(h.q g k hg hc).kept hk fun c hc2=>(e _ _ (h.lF g k hg hc c hc2) (by simp) (by simp)).1
  lx:=(e _ _ h.lx (by simp) (by simp)).2
  lg:=(e _ _ h.lg (by simp) (by simp)).2
  ll:=(e _ _ h.ll (by simp) (by simp)).2
  lu:=(e _ _ h.lu (by simp) (by simp)).2
  lm:=by show (if L.bm=b then _ else _)=_;rw [if_neg lmb];exact h.lm
  lq:=(e _ _ h.lq (by simp) (by simp)).2
  la:=(e _ _ h.la (by simp) (by simp)).2
  lo:=(e _ _ h.lo (by simp) (by simp)).2
  lrq:=fun g hg=>(e _ _ (h.lrq g hg) (by simp) (by simp)).2
  lra:=fun g hg=>(e _ _ (h.lra g hg) (by simp) (by simp)).2
  ltk:=fun j t2 hj=>by
   show (L.born id b).lab (if j=id then b else L.tp j)=_
   rcases hs j t2 hj with ⟨q,rfl⟩ | ⟨q,hj⟩
   ·rw [if_pos q,q];exact if_pos rfl
   ·rw [if_neg q];exact (e _ _ (h.ltk j t2 hj) (by simp) (by simp)).2
  lF:=fun g k hg hc c hc2=>(e _ _ (h.lF g k hg hc c hc2) (by simp) (by simp)).2
  lt:=fun c hc=>by
   replace hc:(if c=b then ((4:Nat),id,(0:Nat)) else L.lab c)≠(0,0,0):=hc
   by_cases q:c=b
   ·subst q;exact Nat.lt_of_lt_of_le ht.lt hk.size
   ·rw [if_neg q] at hc;exact Nat.lt_of_lt_of_le (h.lt c hc) hk.size }
def SDone (w:World) (x:Nat) (L:SLay) (got c:Int) (s:SSt) (e:Ending) (w':World):Prop:=e=.returned (.tuple #[.int .i64 got,.int .i64 c])∧∃ L',SRaw w' x L' s∧SStep L w L' w'
theorem SDo.done {w:World} {x:Nat} {L:SLay} {got c:Int} {s:SSt} {e:Ending} {w':World} (h:SDo w x L got c s e w'):SDone w x L got c s e w':=by
 obtain ⟨h1,L',h2,h3,_⟩:=h
 exact ⟨h1,L',h2,h3⟩
theorem SDone.same {w w':World} {x:Nat} {L:SLay} {s:SSt} (h:SRaw w x L s) (hb:Below w.heap.size w w'):∃ L',SRaw w' x L' s∧SStep L w L' w':=⟨L,h.below hb,SStep.of hb⟩
theorem SStep.born {w w':World} {L:SLay} {id:Int} {b:Nat} (h:SStep L w L w') (hb:w.heap.size≤b):SStep L w (L.born id b) w':=
 {h with
  new:=fun c hc=>by
   replace hc:(if c=b then ((4:Nat),id,(0:Nat)) else L.lab c)≠(0,0,0):=hc
   by_cases q:c=b
   ·subst q;exact Or.inr hb
   ·rw [if_neg q] at hc;exact Or.inl hc }
theorem born_late (w:World) (y:Ent):EntBox (w.alloc (.cells #[.int .u64 y.1,.int .u32 y.2.1,.int .u32 y.2.2] 107)) w.heap.size y:=⟨cell_nw w _ _ 0 _ rfl,cell_nw w _ _ 1 _ rfl,cell_nw w _ _ 2 _ rfl,fun j=>frz_nw w _ _ j⟩
theorem born_early {w:World} {b:Nat} {y:Ent} {a0 a1 a2:Value} (q0:w.cell? ⟨b,0,none⟩=some a0) (q1:w.cell? ⟨b,1,none⟩=some a1) (q2:w.cell? ⟨b,2,none⟩=some a2) (fz:∀ j,w.frozen? ⟨b,j,none⟩=false) :
  EntBox (((w.setCell ⟨b,0,none⟩ (.int .u64 y.1)).setCell ⟨b,1,none⟩ (.int .u32 y.2.1)).setCell ⟨b,2,none⟩ (.int .u32 y.2.2)) b y:=
 ⟨cell_set_ne (cell_set_ne (cell_set_eq q0) (Or.inr (by decide))) (Or.inr (by decide)),cell_set_ne (cell_set_eq (cell_set_ne q1 (Or.inr (by decide)))) (Or.inr (by decide)),cell_set_eq (cell_set_ne (cell_set_ne q2 (Or.inr (by decide))) (Or.inr (by decide))),fun j=>by rw [World.frozen?_setCell,World.frozen?_setCell,World.frozen?_setCell];exact fz j⟩
theorem wp_lit {P:Program} {ty:TypeId} {parts:Array (Nat×Operand)} {dst:Option Nat} {tt:TypeId} {pos:String} {after:Array Edge} {a:Act} {w:World} {next:Act→World→Prop} {Q:Exit→Act→World→Prop} (vs:Array (Nat×Value)) (cells:Array Value)
  (he:parts.map (fun p=>(p.1,a.eval p.2))=vs) (hb:P.built ty vs.toList=some cells) (k:next (a.put dst (.agg cells)) w):Oper.wp P ⟨dst,.build ty parts,tt,pos,after,none⟩ a w next Q:=by
 have h:=run_build w ty vs cells hb
 rw [← he] at h
 have e:(execOp a.eval ⟨dst,.build ty parts,tt,pos,after,none⟩).run P w=.ok (.value (.agg cells)) w:=by
  show Sem.run P (do pure (Next.value (← Instr.build ty (parts.map (fun p=>(p.1,a.eval p.2)))))) w=_
  simp [h]
 unfold Oper.wp
 rw [e]
 exact k
set_option maxRecDepth 100000 in
set_option maxHeartbeats 4000000 in
theorem dSpawn_at {w:World} {x:Nat} {L:SLay} {s:SSt} {k:Nat} {o:OpV} (h:SRaw w x L s) (ho:SOk s) (hk:o.cpu=(k:Int)) (hkC:k<s.C) (hwf:o.Wf) (hwk:0≤s.wk∧s.wk≤1000000) :
  Calls Tryz.prog 296 #[encO o,.pointer (some ⟨x,0,none⟩)] w (SDone w x L 0 (spC s k o) (spS s k o)):=by
 have HS:=Lib.hid h
 have HO:=Lib.hid ho
 obtain ⟨W0,hW0⟩:∃ W,W=w.alloc (.cells (cellsO o) 196):=⟨_,rfl⟩
 have hb0:Below w.heap.size w W0:=by rw [hW0];exact below_a _ _
 have B0:OpBox W0 w.heap.size o:=by rw [hW0];exact OpBox.new _ _ _
 have h0:=h.below hb0
 have HB0:=Lib.hid hb0
 unfold cellsO at hW0
 have HW0:=Lib.hid hW0
 have HK:=Lib.hid hk
 clear hW0 hk
 have b1:=B0.c1
 rw [HK.out] at b1
 have b2:=B0.c2
 have b3:=B0.c3
 have b4:=B0.c4
 have b7:=B0.c7
 have B1:=Lib.hid B0
 have H0:=Lib.hid h0
 have HWF:=Lib.hid hwf
 have A1:=Lib.hid (snamed_at o.task W0)
 obtain ⟨c6,x6⟩:∃ c,W0.cell? ⟨x,6,none⟩=some (.slice (some ⟨L.bq,0,none⟩) s.n c):=h0.head.c6
 by_cases n1:nameV o.task=false
 ·have EC:=Lib.hid (show spC s k o=301 by unfold spC;rw [if_pos n1])
  rw [n1] at A1
  clear h ho h0 hb0 B0 n1
  unfold encO
  go_enter Tryz.func296,Tryz.ntmps296
  go_upto_region 1 with fail
  rw [← HW0.out]
  go_wp2_with fail
  refine A1.out.mono ?_;rintro e w5 ⟨rfl,rfl⟩
  go_wp2_with fail
  refine bodyPost_ret (v:=.tuple #[.int .i64 0,.int .i64 301]) (by simp [results,Tryz.results296,go_sem]) rfl ⟨by rw [EC.out],?_⟩
  rw [show spS s k o=s by unfold spS;rw [if_neg (by rw [EC.out];decide)]]
  exact SDone.same HS.out HB0.out
 ·have n1':nameV o.task=true:=by simpa using n1
  rw [n1'] at A1
  by_cases g1:0≤o.group∧o.group<(s.n:Int)
  ·have z1:decide (o.group<0)=false:=decide_eq_false (by omega)
   have z2:decide (o.group ≥ (s.n:Int))=false:=decide_eq_false (by omega)
   have z3:decide ((s.n:Int)≤o.group)=false:=z2
   obtain ⟨g,hg⟩:∃ g:Nat,(g:Int)=o.group:=⟨o.group.toNat,by omega⟩
   have hgn:g<s.n:=by omega
   rw [← hg] at b3 z1 z2 z3
   have HG:=Lib.hid hg
   have A2:=Lib.hid fun W=>sweighs_at o.weight W
   by_cases w1:wgOk o.weight
   ·have hw1:(!decide (wgOk o.weight))=false:=by simp [w1]
    have A2':=Lib.hid fun W=>(show Calls Tryz.prog 297 #[.int .i64 o.weight] W fun e w'=>e=.returned (.bool true)∧W=w' by have:=A2.out W;rw [show decide (wgOk o.weight)=true by simp [w1]] at this;exact this)
    clear A2 hw1
    by_cases m0:o.mask=0
    ·have EC:=Lib.hid (show spC s k o=2 by unfold spC;rw [if_neg n1,if_neg (fun q=>q g1),if_pos (Or.inr (Or.inl m0))])
     have z4:(o.mask == 0)=true:=by simp [m0]
     clear h ho h0 hb0 B0 n1 n1' g1 hg w1 m0
     unfold encO
     go_enter Tryz.func296,Tryz.ntmps296
     go_upto_region 1 with fail
     rw [← HW0.out]
     go_wp2_with fail
     refine A1.out.mono ?_;rintro e w5 ⟨rfl,rfl⟩
     go_wp2_with fail
     go_region
     obtain ⟨W1,hW1⟩:∃ W,W=W0.drew:=⟨_,rfl⟩
     rw [← hW1]
     have hB1:Below W0.heap.size W0 W1:=by rw [hW1];exact (Below.refl _ _).drew
     replace b4:=cell_later hB1 b4
     replace b7:=cell_later hB1 b7
     have HB1:=Lib.hid hB1
     clear hW1 hB1 x6 b1 b2 b3
     go_wp2_with fail
     refine startA (S:=fun w'=>Below W1.heap.size W1 w'∧w'.cell? ⟨w.heap.size,4,none⟩=some (.int .i64 o.weight)∧w'.cell? ⟨w.heap.size,7,none⟩=some (.int .u64 o.mask)) ⟨Below.refl _ _,b4,b7⟩ (held_2 (below_dr _)) (fun hS0 hHeld=>?_)
     refine takeA 0 ?_
     refine takeA 1 ?_
     refine takeA 2 ?_
     refine takeA 3 ?_
     refine readyA [4] (consA (fun K hK=>?_) .nil)
     go_simp
     refine (A2'.out _).mono ?_
     rintro e w6 ⟨rfl,rfl⟩
     go_wp2_with fail
     refine outA hK kp_2 (fun hHeld4=>?_)
     clear hK K
     refine takeA 5 ?_
     refine takeA 6 ?_
     refine takeA 7 ?_
     refine takeA 8 ?_
     refine takeA 9 ?_
     refine takeA 10 ?_
     refine takeA 11 ?_
     refine takeA 12 ?_
     refine takeA 13 ?_
     refine skipA 14 ?_
     refine skipA 15 ?_
     refine skipA 16 ?_
     refine skipA 17 ?_
     refine skipA 18 ?_
     refine skipA 19 ?_
     refine skipA 20 ?_
     refine skipA 21 ?_
     refine skipA 22 ?_
     refine skipA 23 ?_
     refine skipA 24 ?_
     refine skipA 25 ?_
     refine skipA 26 ?_
     refine takeA 27 ?_
     refine takeA 28 ?_
     refine doneA ?_
     skip
     go_wp2_with fail
     refine bodyPost_ret (v:=.tuple #[.int .i64 0,.int .i64 2]) (by simp [results,Tryz.results296,go_sem]) rfl ⟨by rw [EC.out],?_⟩
     rw [show spS s k o=s by unfold spS;rw [if_neg (by rw [EC.out];decide)]]
     exact SDone.same HS.out (Below.step HB0.out (HB1.out.drew))
    ·have z4:(o.mask == 0)=false:=by simpa using m0
     obtain ⟨c3,x3⟩:∃ c,W0.cell? ⟨x,3,none⟩=some (.slice (some ⟨L.bl,0,none⟩) s.C c):=h0.head.c3
     have hC:=ho.cpus
     have hwC:IntKind.i64.wrap ((s.C:Int) - 1)=(s.C:Int) - 1:=IntWalk.i64_in _ (by omega)
     obtain ⟨v1,v2,S1,S2,hv⟩:=wide_shift (m:=o.mask) (C:=s.C) hC.1 hC.2
     obtain ⟨wd,hwd⟩:∃ wd,wd=wideM o.mask s.C:=⟨_,rfl⟩
     rw [← hwd] at hv
     have HWD:=Lib.hid hwd
     have HN:=Lib.hid (And.intro n1 (And.intro g1 (And.intro w1 m0)))
     clear h ho h0 hb0 B0 n1 n1' g1 hg w1 m0 hC hwd
     unfold encO
     go_enter Tryz.func296,Tryz.ntmps296
     go_upto_region 1 with fail
     rw [← HW0.out]
     go_wp2_with fail
     refine A1.out.mono ?_;rintro e w5 ⟨rfl,rfl⟩
     go_wp2_with fail
     go_region
     obtain ⟨W1,hW1⟩:∃ W,W=W0.drew:=⟨_,rfl⟩
     rw [← hW1]
     have hB1:Below W0.heap.size W0 W1:=by rw [hW1];exact (Below.refl _ _).drew
     replace b1:=cell_later hB1 b1
     replace b2:=cell_later hB1 b2
     replace b3:=cell_later hB1 b3
     replace b4:=cell_later hB1 b4
     replace b7:=cell_later hB1 b7
     replace x3:=cell_later hB1 x3
     have HB1:=Lib.hid hB1
     have H1:=Lib.hid (H0.out.below hB1)
     clear hW1 hB1 x6
     go_wp2_with fail
     refine startA (S:=fun w'=>Below W1.heap.size W1 w'∧w'.cell? ⟨w.heap.size,4,none⟩=some (.int .i64 o.weight)∧w'.cell? ⟨w.heap.size,7,none⟩=some (.int .u64 o.mask)∧w'.cell? ⟨x,3,none⟩=some (.slice (some ⟨L.bl,0,none⟩) s.C c3)) ⟨Below.refl _ _,b4,b7,x3⟩ (held_3 (below_dr _)) (fun hS0 hHeld=>?_)
     refine takeA 0 ?_
     refine takeA 1 ?_
     refine takeA 2 ?_
     refine takeA 3 ?_
     refine readyA [4] (consA (fun K hK=>?_) .nil)
     go_simp
     refine (A2'.out _).mono ?_
     rintro e w6 ⟨rfl,rfl⟩
     go_wp2_with fail
     refine outA hK kp_3 (fun hHeld4=>?_)
     clear hK K
     refine takeA 5 ?_
     refine takeA 6 ?_
     refine takeA 7 ?_
     refine takeA 8 ?_
     refine takeA 9 ?_
     refine takeA 10 ?_
     refine takeA 11 ?_
     refine takeA 12 ?_
     refine takeA 13 ?_
     refine takeA 14 ?_
     refine takeA 15 ?_
     refine takeA 16 ?_
     refine takeA 17 ?_
     refine takeA 18 ?_
     refine takeA 19 ?_
     refine takeA 20 ?_
     refine takeA 21 ?_
     refine takeA 22 ?_
     refine takeA 23 ?_
     refine takeA 24 ?_
     refine takeA 25 ?_
     refine takeA 26 ?_
     refine takeA 27 ?_
     refine takeA 28 ?_
     refine doneA ?_
     skip
     obtain ⟨W2,hW2⟩:∃ W,W=W1.drew:=⟨_,rfl⟩
     rw [← hW2]
     have hB2:Below W1.heap.size W1 W2:=by rw [hW2];exact (Below.refl _ _).drew
     replace b1:=cell_later hB2 b1
     replace b2:=cell_later hB2 b2
     replace b3:=cell_later hB2 b3
     replace b4:=cell_later hB2 b4
     replace b7:=cell_later hB2 b7
     have h2:=H1.out.below hB2
     have H2:=Lib.hid h2
     have HB2:=Lib.hid hB2
     have x5:W2.cell? ⟨x,5,none⟩=some (.map (some L.bm)):=h2.head.c5
     have hlk:=(h2.below (Below.refl _ _).drew).look HWF.out.task
     clear hW2 hB2 h2 x3 hS0 hHeld hHeld4 S1 S2 hv hwC A1 A2'
     cases wd with
     | true =>
      have EC:=Lib.hid (show spC s k o=2 by unfold spC;rw [if_neg HN.out.1,if_neg (fun q=>q HN.out.2.1),if_pos (Or.inr (Or.inr HWD.out.symm))])
      clear hlk
      go_wp2_with fail
      refine bodyPost_ret (v:=.tuple #[.int .i64 0,.int .i64 2]) (by simp [results,Tryz.results296,go_sem]) rfl ⟨by rw [EC.out],?_⟩
      rw [show spS s k o=s by unfold spS;rw [if_neg (by rw [EC.out];decide)]]
      exact SDone.same HS.out (Below.step (Below.step HB0.out HB1.out) HB2.out)
     | false =>
      cases hT:s.T o.task with
      | some t =>
       have EC:=Lib.hid (show spC s k o=303 by
        have hwd:=HWD.out
        unfold spC
        rw [if_neg HN.out.1,if_neg (fun q=>q HN.out.2.1),if_neg,if_pos (by rw [hT];simp)]
        rintro (q | q | q)
        ·exact q HN.out.2.2.1
        ·exact HN.out.2.2.2 q
        ·rw [← hwd] at q;cases q)
       rw [hT] at hlk
       have hlk2:(Instr.lookup 96 (.map (some L.bm)) (.int .i64 o.task) false).run Tryz.prog W2.drew=.ok (.pointer (some ⟨L.tp o.task,0,none⟩)) W2.drew:=hlk
       clear hlk hT
       go_wp2_with fail
       go_region
       go_wp2_with fail
       refine bodyPost_ret (v:=.tuple #[.int .i64 0,.int .i64 303]) (by simp [results,Tryz.results296,go_sem]) rfl ⟨by rw [EC.out],?_⟩
       rw [show spS s k o=s by unfold spS;rw [if_neg (by rw [EC.out];decide)]]
       exact SDone.same HS.out (Below.step (Below.step HB0.out HB1.out) HB2.out).drew
      | none =>
       have HT:=Lib.hid hT
       rw [hT] at hlk
       have hlk2:(Instr.lookup 96 (.map (some L.bm)) (.int .i64 o.task) false).run Tryz.prog W2.drew=.ok (.pointer none) W2.drew:=hlk
       obtain ⟨v,S3,hv3⟩:=bit_shift (m:=o.mask) (k:=k) (by have:=HO.out.cpus;omega) HWF.out.mask
       obtain ⟨bt,hbt⟩:∃ bt,bt=bitM o.mask k:=⟨_,rfl⟩
       rw [← hbt] at hv3
       have HBT:=Lib.hid hbt
       clear hlk hT hbt
       cases bt with
       | false =>
        have EC:=Lib.hid (show spC s k o=305 by
         have hwd:=HWD.out
         unfold spC
         rw [if_neg HN.out.1,if_neg (fun q=>q HN.out.2.1),if_neg,if_neg (fun q=>q HT.out),if_pos HBT.out.symm]
         rintro (q | q | q)
         ·exact q HN.out.2.2.1
         ·exact HN.out.2.2.2 q
         ·rw [← hwd] at q;cases q)
        rw [Bool.not_false] at hv3
        go_wp2_with fail
        go_region
        go_wp2_with fail
        refine bodyPost_ret (v:=.tuple #[.int .i64 0,.int .i64 305]) (by simp [results,Tryz.results296,go_sem]) rfl ⟨by rw [EC.out],?_⟩
        rw [show spS s k o=s by unfold spS;rw [if_neg (by rw [EC.out];decide)]]
        exact SDone.same HS.out (Below.step (Below.step HB0.out HB1.out) HB2.out).drew
       | true =>
        have EC:=Lib.hid (show spC s k o=0 by
         have hwd:=HWD.out
         unfold spC
         rw [if_neg HN.out.1,if_neg (fun q=>q HN.out.2.1),if_neg,if_neg (fun q=>q HT.out),if_neg (by rw [← HBT.out];simp)]
         rintro (q | q | q)
         ·exact q HN.out.2.2.1
         ·exact HN.out.2.2.2 q
         ·rw [← hwd] at q;cases q)
        rw [Bool.not_true] at hv3
        go_wp2_with fail
        go_region
        obtain ⟨W3,hW3⟩:∃ W,W=W2.drew:=⟨_,rfl⟩
        rw [← hW3]
        have hB3:Below W2.heap.size W2 W3:=by rw [hW3];exact (Below.refl _ _).drew
        replace b1:=cell_later hB3 b1
        replace b2:=cell_later hB3 b2
        replace b3:=cell_later hB3 b3
        replace b4:=cell_later hB3 b4
        replace b7:=cell_later hB3 b7
        have h3:=H2.out.below hB3
        have H3:=Lib.hid h3
        have HB3:=Lib.hid hB3
        clear hW3 hB3 x5 hlk2
        obtain ⟨c6,x6⟩:∃ c,W3.cell? ⟨x,6,none⟩=some (.slice (some ⟨L.bq,0,none⟩) s.n c):=h3.head.c6
        obtain ⟨cr',r6⟩:∃ c,W3.cell? ⟨L.bq,g,none⟩=some (.slice (some ⟨L.rq g,0,none⟩) s.C c):=h3.rq.c g hgn
        have p6:W3.cell? ⟨L.rq g,k,none⟩=some (.pointer (some ⟨L.qp g k,0,none⟩)):=(h3.qc g hgn).c k hkC
        have hq:=h3.q g k hgn hkC
        have hkm:(k:Int)<(s.C:Int):=by omega
        have hgm:(g:Int)<(s.n:Int):=by omega
        have mx:x∉[W3.heap.size]:=by have:=lt_of_cell x6;simp;omega
        have mw:w.heap.size∉[W3.heap.size]:=by have:=lt_of_cell b1;simp;omega
        have mq:L.bq∉[W3.heap.size]:=by have:=lt_of_cell r6;simp;omega
        have mr:L.rq g∉[W3.heap.size]:=by have:=lt_of_cell p6;simp;omega
        have A3:=Lib.hid fun W (hB:Kept [W3.heap.size] W3 W)=>Floor_at W (hq.kept hB fun c hc m=>by have:=hq.lt c hc;simp at m;omega)
        have hfl:0≤(s.Q k).fl g∧(s.Q k).fl g≤18446744073709551615:=by have:=hq.ids;omega
        have A4:=Lib.hid fun W=>(show Calls Tryz.prog 149 #[.int .u64 ((s.Q k).fl g),.int .i64 o.weight] W (PlP W ((s.Q k).fl g,0,o.weight) 0) by
         have:=plNew_at ((s.Q k).fl g) o.weight W hfl HWF.out.weight
         have hw:=HN.out.2.2.1
         unfold newX newC at this
         unfold wgOk at hw
         rw [if_pos hw,if_pos hw] at this
         exact this)
        clear h3 hq hfl
        obtain ⟨y,hy⟩:∃ y:Ent,y=((s.Q k).fl g,0,o.weight):=⟨_,rfl⟩
        have A4':=Lib.hid fun W=>(show Calls Tryz.prog 149 #[.int .u64 ((s.Q k).fl g),.int .i64 o.weight] W (PlP W y 0) by rw [hy];exact A4.out W)
        have HY:=Lib.hid hy
        clear A4 hy
        go_upto_region 11 with fail
        go_cut [6] (fun s6 wx=>∃ br,s6=.pointer (some ⟨br,0,none⟩)∧EntBox wx br y∧W3.heap.size≤br∧Below W3.heap.size W3 wx)
        case first =>
         as_aux_lemma =>
          refine startA (S:=fun w'=>Kept [W3.heap.size] W3 w'∧w'.cell? ⟨x,6,none⟩=some (.slice (some ⟨L.bq,0,none⟩) s.n c6)∧w'.cell? ⟨w.heap.size,3,none⟩=some (.int .i64 g)∧w'.cell? ⟨L.bq,g,none⟩=some (.slice (some ⟨L.rq g,0,none⟩) s.C cr')∧w'.cell? ⟨w.heap.size,1,none⟩=some (.int .i64 k)∧w'.cell? ⟨L.rq g,k,none⟩=some (.pointer (some ⟨L.qp g k,0,none⟩))∧w'.cell? ⟨w.heap.size,4,none⟩=some (.int .i64 o.weight)) ⟨Kept.refl _ _,x6,b3,r6,b1,p6,b4⟩ (fun h=>heldK_6 (kept_dr _ _) h) (fun hS0 hHeld=>?_)
          refine takeA 0 ?_
          refine takeA 1 ?_
          refine takeA 2 ?_
          refine takeA 3 ?_
          refine takeA 4 ?_
          refine takeA 5 ?_
          refine takeA 6 ?_
          refine takeA 7 ?_
          refine takeA 8 ?_
          refine takeA 9 ?_
          refine takeA 10 ?_
          refine takeA 11 ?_
          refine takeA 12 ?_
          refine takeA 13 ?_
          refine takeA 14 ?_
          refine takeA 15 ?_
          refine takeA 17 ?_
          refine takeA 18 ?_
          refine takeA 19 ?_
          refine takeA 20 ?_
          refine readyA [16,25] (consA (fun K hK=>?_) (consA (fun K hK=>?_) .nil))
          ·skip
           go_simp
           refine (A3.out _ (by first | exact hHeld25.1 | exact hHeld.1)).mono ?_
           rintro e w5 ⟨rfl,rfl⟩
           go_wp2_with fail
           refine outA hK kpK_6 (fun hHeld16=>?_)
           clear hK K
           refine readyA [21,25] (consA (fun K hK=>?_) (consA (fun K hK=>?_) .nil))
           ·skip
            go_simp
            refine (A4'.out _).mono ?_
            rintro e w6 ⟨rfl,hb6⟩
            have hk6:Kept [W3.heap.size] _ w6:=Kept.of hb6
            go_wp2_with fail
            refine outA hK kpK_6 (fun hHeld21=>?_)
            clear hK K
            refine takeA 22 ?_
            refine takeA 23 ?_
            refine takeA 24 ?_
            refine readyA [25] (consA (fun K hK=>?_) .nil)
            go_simp
            skip
            refine outA hK kpK_6 (fun hHeld25=>?_)
            clear hK K
            refine readyA [26] (consA (fun K hK=>?_) .nil)
            go_simp
            have hk26:=set3_kept w6 W3.heap.size 0 y
            unfold set3 at hk26
            simp only [Nat.zero_add] at hk26
            refine outA hK kpK_6 (fun hHeld26=>?_)
            clear hK K
            refine takeA 27 ?_
            refine doneA ?_
            go_wp2_with fail
            go_meet
            case rel =>
             first
             | exact ⟨_,rfl,born_early q0 q1 q2 fz,Nat.le_refl _,hHeld26.1.bel (fun b hb=>by simp at hb;omega)⟩
             | exact ⟨_,rfl,born_late w6 y,Nat.le_trans hb6.size (Nat.le_refl _),hHeld26.1.bel (fun b hb=>by simp at hb;omega)⟩
           ·skip
            go_simp
            have q0:(W3.drew.alloc (.cells #[.int .u64 0,.int .u32 0,.int .u32 0] 107)).cell? ⟨W3.heap.size,0,none⟩=some (.int .u64 0):=cell_nw W3.drew #[.int .u64 0,.int .u32 0,.int .u32 0] 107 0 _ rfl
            have q1:(W3.drew.alloc (.cells #[.int .u64 0,.int .u32 0,.int .u32 0] 107)).cell? ⟨W3.heap.size,1,none⟩=some (.int .u32 0):=cell_nw W3.drew #[.int .u64 0,.int .u32 0,.int .u32 0] 107 1 _ rfl
            have q2:(W3.drew.alloc (.cells #[.int .u64 0,.int .u32 0,.int .u32 0] 107)).cell? ⟨W3.heap.size,2,none⟩=some (.int .u32 0):=cell_nw W3.drew #[.int .u64 0,.int .u32 0,.int .u32 0] 107 2 _ rfl
            have fz:∀ j,(W3.drew.alloc (.cells #[.int .u64 0,.int .u32 0,.int .u32 0] 107)).frozen? ⟨W3.heap.size,j,none⟩=false:=frz_nw W3.drew #[.int .u64 0,.int .u32 0,.int .u32 0] 107
            have lq:W3.heap.size<(W3.drew.alloc (.cells #[.int .u64 0,.int .u32 0,.int .u32 0] 107)).heap.size:=by simp
            refine outA hK kpK_6 (fun hHeld25=>?_)
            clear hK K
            refine readyA [21] (consA (fun K hK=>?_) .nil)
            go_simp
            refine (A4'.out _).mono ?_
            rintro e w6 ⟨rfl,hb6⟩
            have hk6:Kept [W3.heap.size] _ w6:=Kept.of hb6
            replace q0:=cell_later hb6 q0
            replace q1:=cell_later hb6 q1
            replace q2:=cell_later hb6 q2
            replace fz:=fun j=>frz_later hb6 (fz j) lq
            have fz0:=fz 0
            have fz1:=fz 1
            have fz2:=fz 2
            go_wp2_with fail
            refine outA hK kpK_6 (fun hHeld21=>?_)
            clear hK K
            refine takeA 22 ?_
            refine takeA 23 ?_
            refine takeA 24 ?_
            refine readyA [26] (consA (fun K hK=>?_) .nil)
            go_simp
            have hk26:=set3_kept w6 W3.heap.size 0 y
            unfold set3 at hk26
            simp only [Nat.zero_add] at hk26
            refine outA hK kpK_6 (fun hHeld26=>?_)
            clear hK K
            refine takeA 27 ?_
            refine doneA ?_
            go_wp2_with fail
            go_meet
            case rel =>
             first
             | exact ⟨_,rfl,born_early q0 q1 q2 fz,Nat.le_refl _,hHeld26.1.bel (fun b hb=>by simp at hb;omega)⟩
             | exact ⟨_,rfl,born_late w6 y,Nat.le_trans hb6.size (Nat.le_refl _),hHeld26.1.bel (fun b hb=>by simp at hb;omega)⟩
          ·skip
           go_simp
           have q0:(W3.drew.alloc (.cells #[.int .u64 0,.int .u32 0,.int .u32 0] 107)).cell? ⟨W3.heap.size,0,none⟩=some (.int .u64 0):=cell_nw W3.drew #[.int .u64 0,.int .u32 0,.int .u32 0] 107 0 _ rfl
           have q1:(W3.drew.alloc (.cells #[.int .u64 0,.int .u32 0,.int .u32 0] 107)).cell? ⟨W3.heap.size,1,none⟩=some (.int .u32 0):=cell_nw W3.drew #[.int .u64 0,.int .u32 0,.int .u32 0] 107 1 _ rfl
           have q2:(W3.drew.alloc (.cells #[.int .u64 0,.int .u32 0,.int .u32 0] 107)).cell? ⟨W3.heap.size,2,none⟩=some (.int .u32 0):=cell_nw W3.drew #[.int .u64 0,.int .u32 0,.int .u32 0] 107 2 _ rfl
           have fz:∀ j,(W3.drew.alloc (.cells #[.int .u64 0,.int .u32 0,.int .u32 0] 107)).frozen? ⟨W3.heap.size,j,none⟩=false:=frz_nw W3.drew #[.int .u64 0,.int .u32 0,.int .u32 0] 107
           have lq:W3.heap.size<(W3.drew.alloc (.cells #[.int .u64 0,.int .u32 0,.int .u32 0] 107)).heap.size:=by simp
           refine outA hK kpK_6 (fun hHeld25=>?_)
           clear hK K
           refine readyA [16] (consA (fun K hK=>?_) .nil)
           go_simp
           refine (A3.out _ (by first | exact hHeld25.1 | exact hHeld.1)).mono ?_
           rintro e w5 ⟨rfl,rfl⟩
           go_wp2_with fail
           refine outA hK kpK_6 (fun hHeld16=>?_)
           clear hK K
           refine readyA [21] (consA (fun K hK=>?_) .nil)
           go_simp
           refine (A4'.out _).mono ?_
           rintro e w6 ⟨rfl,hb6⟩
           have hk6:Kept [W3.heap.size] _ w6:=Kept.of hb6
           replace q0:=cell_later hb6 q0
           replace q1:=cell_later hb6 q1
           replace q2:=cell_later hb6 q2
           replace fz:=fun j=>frz_later hb6 (fz j) lq
           have fz0:=fz 0
           have fz1:=fz 1
           have fz2:=fz 2
           go_wp2_with fail
           refine outA hK kpK_6 (fun hHeld21=>?_)
           clear hK K
           refine takeA 22 ?_
           refine takeA 23 ?_
           refine takeA 24 ?_
           refine readyA [26] (consA (fun K hK=>?_) .nil)
           go_simp
           have hk26:=set3_kept w6 W3.heap.size 0 y
           unfold set3 at hk26
           simp only [Nat.zero_add] at hk26
           refine outA hK kpK_6 (fun hHeld26=>?_)
           clear hK K
           refine takeA 27 ?_
           refine doneA ?_
           go_wp2_with fail
           go_meet
           case rel =>
            first
            | exact ⟨_,rfl,born_early q0 q1 q2 fz,Nat.le_refl _,hHeld26.1.bel (fun b hb=>by simp at hb;omega)⟩
            | exact ⟨_,rfl,born_late w6 y,Nat.le_trans hb6.size (Nat.le_refl _),hHeld26.1.bel (fun b hb=>by simp at hb;omega)⟩
        case rest =>
         as_aux_lemma =>
          obtain ⟨br,rfl,hE6,hle6,hb6⟩:=hcut
          obtain ⟨W6,rfl⟩:∃ W:World,W=wc:=⟨_,rfl⟩
          replace b1:=cell_later hb6 b1
          replace b2:=cell_later hb6 b2
          replace b3:=cell_later hb6 b3
          replace b4:=cell_later hb6 b4
          replace b7:=cell_later hb6 b7
          have e0:=hE6.c0
          have e1:=hE6.c1
          have e2:=hE6.c2
          have H6:=Lib.hid (H3.out.below hb6)
          have HB6:=Lib.hid hb6
          clear hE6 hb6 x6 r6 p6 A3 A4' S3 hv3 z1 z2 z3 z4 mx mw mq mr hkm hgm
          obtain ⟨W7,hW7⟩:∃ W,W=W6.alloc (.cells #[.int .i64 g,.int .i64 o.weight,.int .i64 k,.int .u64 o.mask,.bool false,.int .u64 y.1,.int .u32 y.2.1,.int .u32 y.2.2] 149):=⟨_,rfl⟩
          have hB7:Below W6.heap.size W6 W7:=by rw [hW7];exact below_a _ _
          have tk7:TskAt W7 W6.heap.size (bornT s k g o):=by
           have e:=HY.out
           rw [hW7]
           unfold bornT
           rw [← e]
           exact ⟨cell_nw W6 _ _ 0 _ rfl,cell_nw W6 _ _ 1 _ rfl,cell_nw W6 _ _ 2 _ rfl,cell_nw W6 _ _ 3 _ rfl,cell_nw W6 _ _ 4 _ rfl,cell_nw W6 _ _ 5 _ rfl,cell_nw W6 _ _ 6 _ rfl,cell_nw W6 _ _ 7 _ rfl,fun j=>frz_nw W6 _ _ j⟩
          have HW7:=Lib.hid hW7
          have TK7:=Lib.hid tk7
          have HB7:=Lib.hid hB7
          clear hW7 tk7 hB7
          go_upto_region 13 with (refine wp_lit #[(0,.int .i64 (g:Nat)),(1,.int .i64 o.weight),(2,.int .i64 (k:Nat)),(3,.int .u64 o.mask),(5,.agg #[.int .u64 y.1,.int .u32 y.2.1,.int .u32 y.2.2])] #[.int .i64 (g:Nat),.int .i64 o.weight,.int .i64 (k:Nat),.int .u64 o.mask,.bool false,.int .u64 y.1,.int .u32 y.2.1,.int .u32 y.2.2] (by kernel_rfl) (by kernel_rfl) ?_;(try simp only [Act.put,List.setIfInBounds_toArray,List.set_cons_zero,List.set_cons_succ]))
          rw [← HW7.out]
          have h7:=H6.out.below HB7.out
          have x5:W7.cell? ⟨x,5,none⟩=some (.map (some L.bm)):=h7.head.c5
          obtain ⟨W8,hrun8,hm8,hg8⟩:=MapG.put elemP undP (h7.below (Below.refl _ _).drew).map (by have:=HO.out.few;unfold maxLen;omega) HWF.out.task (p:=some W6.heap.size) trivial
          have hrun8':(Instr.mapUpdate 96 (.map (some L.bm)) (.int .i64 o.task) (.pointer (some ⟨W6.heap.size,0,none⟩))).run Tryz.prog W7.drew=.ok () W8:=hrun8
          rw [HT.out] at hm8
          replace b2:=cell_later HB7.out b2
          have hb7:Below w.heap.size w W7:=Below.step (Below.step (Below.step (Below.step (Below.step HB0.out HB1.out) HB2.out) HB3.out) HB6.out) HB7.out
          have hsz6:w.heap.size≤W6.heap.size:=(Below.step (Below.step (Below.step (Below.step HB0.out HB1.out) HB2.out) HB3.out) HB6.out).size
          have hbn:L.lab W6.heap.size=(0,0,0):=HS.out.none_at hsz6
          have hgo:o.group.toNat=g:=by have:=HG.out;omega
          have r8:=(h7.below (Below.refl _ _).drew).born (id:=o.task) HT.out hbn (TK7.out.kept (G:=[]) (Kept.of (Below.refl W7.heap.size W7).drew) (by simp)) hg8 hm8
          have k8:Kept [L.bm] W7.drew W8:=(Kept.refl _ _).grown hg8 (fun k q=>by cases q;exact Or.inl (by simp))
          have s8:SStep L w (L.born o.task W6.heap.size) W8:=SStep.born ((SStep.of hb7).trans ((SStep.of (Below.refl _ _).drew).trans (SStep.of_kept (L:=L) k8 fun c hc=>by simp at hc;subst hc;rw [h7.lm];simp))) hsz6
          have b8:W8.cell? ⟨w.heap.size,2,none⟩=some (.int .i64 o.task):=k8.cellAt (cell_dr b2) (by simp;intro q;have:=HS.out.none_at (Nat.le_refl w.heap.size);rw [q,HS.out.lm] at this;simp at this)
          have o8:=(HO.out.born hkC HWF.out EC.out).1
          rw [hgo] at o8
          have A8:=Lib.hid (xenter_at r8 o8 (setF_same _ _ _) rfl hwk)
          rw [show (L.born o.task W6.heap.size).tp o.task=W6.heap.size from if_pos rfl] at A8
          have ES:=Lib.hid (show spS s k o=entS (newS s o.task (bornT s k g o)) o.task (bornT s k g o) by unfold spS;rw [if_pos EC.out,hgo])
          have S8:=Lib.hid s8
          clear h7 hrun8 hm8 hg8 hb7 hsz6 hbn hgo r8 k8 s8 o8 b1 b3 b4 b7 e0 e1 e2
          go_wp2_with fail
          go_region
          clear hrun8' x5 b2
          go_wp2_with fail
          refine A8.out.mono ?_;rintro e w9 ⟨rfl,L9,r9,s9,_⟩
          go_wp2_with fail
          refine bodyPost_ret (v:=.tuple #[.int .i64 0,.int .i64 0]) (by simp [results,Tryz.results296,go_sem]) rfl ⟨by rw [EC.out],?_⟩
          rw [ES.out]
          exact ⟨L9,r9,S8.out.trans s9⟩
   ·have A2':=Lib.hid fun W=>(show Calls Tryz.prog 297 #[.int .i64 o.weight] W fun e w'=>e=.returned (.bool false)∧W=w' by have:=A2.out W;rw [show decide (wgOk o.weight)=false by simp [w1]] at this;exact this)
    have EC:=Lib.hid (show spC s k o=2 by unfold spC;rw [if_neg n1,if_neg (fun q=>q g1),if_pos (Or.inl w1)])
    clear h ho h0 hb0 B0 n1 n1' g1 hg w1 A2
    unfold encO
    go_enter Tryz.func296,Tryz.ntmps296
    go_upto_region 1 with fail
    rw [← HW0.out]
    go_wp2_with fail
    refine A1.out.mono ?_;rintro e w5 ⟨rfl,rfl⟩
    go_wp2_with fail
    go_region
    obtain ⟨W1,hW1⟩:∃ W,W=W0.drew:=⟨_,rfl⟩
    rw [← hW1]
    have hB1:Below W0.heap.size W0 W1:=by rw [hW1];exact (Below.refl _ _).drew
    replace b4:=cell_later hB1 b4
    replace b7:=cell_later hB1 b7
    have HB1:=Lib.hid hB1
    clear hW1 hB1 x6 b1 b2 b3
    go_wp2_with fail
    refine startA (S:=fun w'=>Below W1.heap.size W1 w'∧w'.cell? ⟨w.heap.size,4,none⟩=some (.int .i64 o.weight)∧w'.cell? ⟨w.heap.size,7,none⟩=some (.int .u64 o.mask)) ⟨Below.refl _ _,b4,b7⟩ (held_2 (below_dr _)) (fun hS0 hHeld=>?_)
    refine takeA 0 ?_
    refine takeA 1 ?_
    refine takeA 2 ?_
    refine takeA 3 ?_
    refine readyA [4] (consA (fun K hK=>?_) .nil)
    go_simp
    refine (A2'.out _).mono ?_
    rintro e w6 ⟨rfl,rfl⟩
    go_wp2_with fail
    refine outA hK kp_2 (fun hHeld4=>?_)
    clear hK K
    refine takeA 5 ?_
    refine takeA 6 ?_
    refine skipA 7 ?_
    refine skipA 8 ?_
    refine skipA 9 ?_
    refine skipA 10 ?_
    refine skipA 11 ?_
    refine takeA 12 ?_
    refine takeA 13 ?_
    refine skipA 14 ?_
    refine skipA 15 ?_
    refine skipA 16 ?_
    refine skipA 17 ?_
    refine skipA 18 ?_
    refine skipA 19 ?_
    refine skipA 20 ?_
    refine skipA 21 ?_
    refine skipA 22 ?_
    refine skipA 23 ?_
    refine skipA 24 ?_
    refine skipA 25 ?_
    refine skipA 26 ?_
    refine takeA 27 ?_
    refine takeA 28 ?_
    refine doneA ?_
    skip
    go_wp2_with fail
    refine bodyPost_ret (v:=.tuple #[.int .i64 0,.int .i64 2]) (by simp [results,Tryz.results296,go_sem]) rfl ⟨by rw [EC.out],?_⟩
    rw [show spS s k o=s by unfold spS;rw [if_neg (by rw [EC.out];decide)]]
    exact SDone.same HS.out (Below.step HB0.out (HB1.out.drew))
  ·have EC:=Lib.hid (show spC s k o=302 by unfold spC;rw [if_neg n1,if_pos g1])
   clear h ho h0 hb0 B0 n1 n1'
   by_cases g2:o.group<0
   ·have z1:decide (o.group<0)=true:=decide_eq_true g2
    clear g1 g2
    unfold encO
    go_enter Tryz.func296,Tryz.ntmps296
    go_upto_region 1 with fail
    rw [← HW0.out]
    go_wp2_with fail
    refine A1.out.mono ?_;rintro e w5 ⟨rfl,rfl⟩
    go_wp2_with fail
    go_region
    go_wp2_with fail
    refine bodyPost_ret (v:=.tuple #[.int .i64 0,.int .i64 302]) (by simp [results,Tryz.results296,go_sem]) rfl ⟨by rw [EC.out],?_⟩
    rw [show spS s k o=s by unfold spS;rw [if_neg (by rw [EC.out];decide)]]
    exact SDone.same HS.out HB0.out.drew
   ·have z1:decide (o.group<0)=false:=decide_eq_false g2
    have z2:decide (o.group ≥ (s.n:Int))=true:=decide_eq_true (by omega)
    have z3:decide ((s.n:Int)≤o.group)=true:=z2
    clear g1 g2
    unfold encO
    go_enter Tryz.func296,Tryz.ntmps296
    go_upto_region 1 with fail
    rw [← HW0.out]
    go_wp2_with fail
    refine A1.out.mono ?_;rintro e w5 ⟨rfl,rfl⟩
    go_wp2_with fail
    go_region
    go_wp2_with fail
    refine bodyPost_ret (v:=.tuple #[.int .i64 0,.int .i64 302]) (by simp [results,Tryz.results296,go_sem]) rfl ⟨by rw [EC.out],?_⟩
    rw [show spS s k o=s by unfold spS;rw [if_neg (by rw [EC.out];decide)]]
    exact SDone.same HS.out HB0.out.drew
end Go.Proofs.YtapnaocdehahdaaGreat
