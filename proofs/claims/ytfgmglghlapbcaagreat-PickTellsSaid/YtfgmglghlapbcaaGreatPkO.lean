/-
  Layer 25 (pick): spot, Spot.
  Layer 25 (pick): Weigh, Load.
-/
import Derived.Test.YtfgmglghlapbcaaGreatPkM
namespace Go.Proofs.YtfgmglghlapbcaaGreat
open Go.RowKit Go.Maps Go.IntWalk Go.Lib Go.Sort Go.Shelf
set_option linter.unusedVariables false
set_option linter.unusedSimpArgs false
def spotX (s:TSt) (g:Nat):Ent:=if (entM (s.M (parG s.Gs g)) (65536+g)).isSome=true∧0<g then getE (s.M (parG s.Gs g)) (65536+g) else s.A g
set_option maxRecDepth 100000 in
set_option maxHeartbeats 2000000 in
theorem pspot_at {t:Nat} {F:List Nat} {s:TSt} (g:Nat) (w:World) (h:TreeIn w t F s) (hg:g<s.n):Calls Tryz.prog 53 #[.pointer (some ⟨t,0,none⟩),.int .i64 (g:Nat)] w fun e w'=>e=.returned (.agg #[.int .u64 (spotX s g).1,.int .u32 (spotX s g).2.1,.int .u32 (spotX s g).2.2])∧Below w.heap.size w w':=by
 obtain ⟨bg,bq,ba,bm,qp,Fq,hr,rfl⟩:=h
 obtain ⟨W0,hW0⟩:∃ W0,W0=w.alloc (.cells #[.int .u64 0,.int .u32 0,.int .u32 0] 40):=⟨_,rfl⟩
 have hB0:Below w.heap.size w W0:=by rw [hW0];exact below_a _ _
 have z0:W0.cell? ⟨w.heap.size,0,none⟩=some (.int .u64 0):=by rw [hW0];exact cell_nw _ _ _ 0 _ rfl
 have z1:W0.cell? ⟨w.heap.size,1,none⟩=some (.int .u32 0):=by rw [hW0];exact cell_nw _ _ _ 1 _ rfl
 have z2:W0.cell? ⟨w.heap.size,2,none⟩=some (.int .u32 0):=by rw [hW0];exact cell_nw _ _ _ 2 _ rfl
 have FZ:=Lib.hid (show ∀ j,W0.frozen? ⟨w.heap.size,j,none⟩=false from fun j=>by rw [hW0];exact frz_nw _ _ _ j)
 have hl0:w.heap.size<W0.heap.size:=by rw [hW0];simp
 have hr0:=hr.below hB0
 have hpar:=hr0.right.par hg
 have hpn:parG s.Gs g<s.n:=by omega
 obtain ⟨c0,q0⟩:=hr0.g0
 obtain ⟨c1,q1⟩:=hr0.g1
 obtain ⟨c2,q2⟩:=hr0.g2
 have gp:=(hr0.gc g hg).1
 rw [← hpar.1] at gp
 have q4:=hr0.qc _ hpn
 obtain ⟨a0,a1,a2⟩:=hr0.ac g hg
 have hgi:(g:Int)<(s.n:Int):=by omega
 have hpi:(parG s.Gs g:Int)<(s.n:Int):=by omega
 have z3:IntKind.i64.wrap (65536+(g:Int))=65536+(g:Int):=IntWalk.i64_in _ (by have:=hr0.pos;omega)
 have HID:=Lib.hid (show (Lit.int .i64 (65536+(g:Int))).wf=true from wfI (by omega) (by have:=hr0.pos;omega))
 have HQ:=Lib.hid (show QIn W0.drew (qp (parG s.Gs g)) (Fq (parG s.Gs g)) qN (s.M (parG s.Gs g)) (s.fl (parG s.Gs g)) from (hr0.q _ hpn).below (Below.refl _ _).drew)
 have HQa:=Lib.hid (show QIn (W0.alloc (.cells #[.int .u64 0,.int .u32 0,.int .u32 0] 40)).drew (qp (parG s.Gs g)) (Fq (parG s.Gs g)) qN (s.M (parG s.Gs g)) (s.fl (parG s.Gs g)) from HQ.out.below (below_a W0.drew (.cells #[.int .u64 0,.int .u32 0,.int .u32 0] 40)))
 have lts:=hr0.lt
 have mt:t∉[W0.heap.size]:=by simp;omega
 have mg:bg∉[W0.heap.size]:=by simp;omega
 have mq:bq∉[W0.heap.size]:=by simp;omega
 have HW0:=Lib.hid hW0
 have HB0:=Lib.hid hB0
 have HR0:=Lib.hid hr0
 have HG:=Lib.hid hg
 unfold spotX
 generalize parG s.Gs g=p at *
 have A1:=Lib.hid fun W (hq:QIn W (qp p) (Fq p) qN (s.M p) (s.fl p))=>Get_at (65536+(g:Int)) W hq HID.out
 generalize getE (s.M p) (65536+(g:Int))=y at *
 generalize (entM (s.M p) (65536+(g:Int))).isSome=bb at *
 obtain ⟨r,hrr⟩:∃ r,r=if bb=true∧0<g then y else s.A g:=⟨_,rfl⟩
 rw [← hrr]
 have HRR:=Lib.hid hrr
 clear hW0 hB0 hr0 hr hpar hrr
 go_enter Tryz.func53,Tryz.ntmps53
 go_wp2_with fail
 rw [← HW0.out]
 refine startA (S:=fun w'=>Kept [W0.heap.size] W0 w'∧w'.cell? ⟨t,1,none⟩=some (.slice (some ⟨bq,0,none⟩) s.n c1)∧w'.cell? ⟨t,0,none⟩=some (.slice (some ⟨bg,0,none⟩) s.n c0)∧w'.cell? ⟨bg,g*2,none⟩=some (.int .i64 (p:Nat))∧w'.cell? ⟨bq,p,none⟩=some (.pointer (some ⟨qp p,0,none⟩))) ⟨Kept.refl _ _,q1,q0,gp,q4⟩ (fun h=>heldK_4 (kept_dr _ _) h) (fun hS0 hHeld=>?_)
 refine takeA 0 ?_
 refine takeA 1 ?_
 refine takeA 2 ?_
 refine takeA 3 ?_
 refine takeA 4 ?_
 refine takeA 5 ?_
 refine takeA 6 ?_
 refine takeA 7 ?_
 refine takeA 8 ?_
 refine takeA 9 ?_
 refine takeA 10 ?_
 refine takeA 11 ?_
 refine takeA 12 ?_
 refine takeA 13 ?_
 refine takeA 14 ?_
 refine takeA 15 ?_
 refine readyA [16,20] (consA (fun K hK=>?_) (consA (fun K hK=>?_) .nil))
 ·skip
  go_simp
  refine (A1.out _ HQ.out).mono ?_
  rintro e w13 ⟨rfl,hb13⟩
  have hk13:=Kept.of (S:=[W0.heap.size]) hb13
  have HB13:=Lib.hid (Below.step (Below.refl W0.heap.size W0).drew hb13)
  go_wp2_with fail
  refine outA hK kpK_4 (fun hHeld16=>?_)
  clear hK K
  refine takeA 17 ?_
  refine takeA 18 ?_
  refine takeA 19 ?_
  refine readyA [20] (consA (fun K hK=>?_) .nil)
  go_simp
  refine outA hK kpK_4 (fun hHeld20=>?_)
  clear hK K
  refine readyA [21] (consA (fun K hK=>?_) .nil)
  go_simp
  have hk18:=(((Kept.refl [W0.heap.size] w13).setCell (p:=⟨W0.heap.size,0,none⟩) (Or.inl (by simp)) (.int .u64 y.1)).setCell (p:=⟨W0.heap.size,1,none⟩) (Or.inl (by simp)) (.int .u32 y.2.1)).setCell (p:=⟨W0.heap.size,2,none⟩) (Or.inl (by simp)) (.int .u32 y.2.2)
  refine outA hK kpK_4 (fun hHeld21=>?_)
  clear hK K
  refine takeA 22 ?_
  refine doneA ?_
  first
   | (
    obtain ⟨W3,hW3⟩:∃ X,X=w13.alloc (.cells #[.int .u64 y.1,.int .u32 y.2.1,.int .u32 y.2.2] 40):=⟨_,rfl⟩
    rw [← hW3]
    obtain ⟨b18,hb18⟩:∃ b,b=w13.heap.size:=⟨_,rfl⟩
    rw [← hb18]
    have x0:W3.cell? ⟨b18,0,none⟩=some (.int .u64 y.1):=by rw [hW3];exact cell_nwE hb18 _ _ 0 _ rfl
    have x1:W3.cell? ⟨b18,1,none⟩=some (.int .u32 y.2.1):=by rw [hW3];exact cell_nwE hb18 _ _ 1 _ rfl
    have x2:W3.cell? ⟨b18,2,none⟩=some (.int .u32 y.2.2):=by rw [hW3];exact cell_nwE hb18 _ _ 2 _ rfl
    have hB3:Below W0.heap.size W0 W3:=by rw [hW3];exact Below.allocS HB13.out _)
   | (
    obtain ⟨W3,hW3⟩:∃ X,X=(((w13.setCell ⟨W0.heap.size,0,none⟩ (.int .u64 y.1)).setCell ⟨W0.heap.size,1,none⟩ (.int .u32 y.2.1)).setCell ⟨W0.heap.size,2,none⟩ (.int .u32 y.2.2)):=⟨_,rfl⟩
    rw [← hW3]
    obtain ⟨b18,hb18⟩:∃ b,b=W0.heap.size:=⟨_,rfl⟩
    rw [← hb18]
    have x0:W3.cell? ⟨b18,0,none⟩=some (.int .u64 y.1):=by rw [hW3,hb18];exact cell_set_ne (cell_set_ne (cell_set_eq x0) (Or.inr (by omega))) (Or.inr (by omega))
    have x1:W3.cell? ⟨b18,1,none⟩=some (.int .u32 y.2.1):=by rw [hW3,hb18];exact cell_set_ne (cell_set_eq (cell_set_ne x1 (Or.inr (by omega)))) (Or.inr (by omega))
    have x2:W3.cell? ⟨b18,2,none⟩=some (.int .u32 y.2.2):=by rw [hW3,hb18];exact cell_set_eq (cell_set_ne (cell_set_ne x2 (Or.inr (by omega))) (Or.inr (by omega)))
    have hB3:Below W0.heap.size W0 W3:=by rw [hW3];exact ((HB13.out.setCell (by simp) _).setCell (by simp) _).setCell (by simp) _)
  clear hW3 hb18
  replace z0:=cell_later hB3 z0
  replace z1:=cell_later hB3 z1
  replace z2:=cell_later hB3 z2
  have f0:=frz_later hB3 (FZ.out 0) hl0
  have f1:=frz_later hB3 (FZ.out 1) hl0
  have f2:=frz_later hB3 (FZ.out 2) hl0
  have HB4:=Lib.hid (Below.step HB0.out hB3)
  replace q2:=cell_later hB3 q2
  replace a0:=cell_later hB3 a0
  replace a1:=cell_later hB3 a1
  replace a2:=cell_later hB3 a2
  clear hS0 hHeld hB3
  cases bb with
  | false =>
   go_wp2_with fail
   refine bodyPost_ret (v:=.agg #[.int .u64 (s.A g).1,.int .u32 (s.A g).2.1,.int .u32 (s.A g).2.2]) (by simp [results,Tryz.results53,go_sem,z0,z1,z2,f0,f1,f2]) rfl ⟨by rw [HRR.out];simp,?_⟩
   exact ((HB4.out.setCell (by simp) _).setCell (by simp) _).setCell (by simp) _
  | true =>
   by_cases hz:0<g
   ·have HZ:=Lib.hid hz
    have y1:decide ((g:Int) > 0)=true:=decide_eq_true (by omega)
    go_wp2_with fail
    refine bodyPost_ret (v:=.agg #[.int .u64 (y).1,.int .u32 (y).2.1,.int .u32 (y).2.2]) (by simp [results,Tryz.results53,go_sem,z0,z1,z2,f0,f1,f2]) rfl ⟨by rw [HRR.out];simp [HZ.out],?_⟩
    exact ((HB4.out.setCell (by simp) _).setCell (by simp) _).setCell (by simp) _
   ·have HZ:=Lib.hid hz
    have y1:decide ((g:Int) > 0)=false:=decide_eq_false (by omega)
    go_wp2_with fail
    refine bodyPost_ret (v:=.agg #[.int .u64 (s.A g).1,.int .u32 (s.A g).2.1,.int .u32 (s.A g).2.2]) (by simp [results,Tryz.results53,go_sem,z0,z1,z2,f0,f1,f2]) rfl ⟨by rw [HRR.out];simp [HZ.out],?_⟩
    exact ((HB4.out.setCell (by simp) _).setCell (by simp) _).setCell (by simp) _
 ·skip
  go_simp
  refine outA hK kpK_4 (fun hHeld20=>?_)
  clear hK K
  refine readyA [16] (consA (fun K hK=>?_) .nil)
  go_simp
  refine (A1.out _ HQa.out).mono ?_
  rintro e w13 ⟨rfl,hb13⟩
  have hk13:=Kept.of (S:=[W0.heap.size]) hb13
  have x0:=cell_later hb13 (cell_dr (cell_nw W0 #[.int .u64 0,.int .u32 0,.int .u32 0] 40 0 _ rfl))
  have x1:=cell_later hb13 (cell_dr (cell_nw W0 #[.int .u64 0,.int .u32 0,.int .u32 0] 40 1 _ rfl))
  have x2:=cell_later hb13 (cell_dr (cell_nw W0 #[.int .u64 0,.int .u32 0,.int .u32 0] 40 2 _ rfl))
  have f0:=frz_later hb13 (show (W0.alloc (.cells #[.int .u64 0,.int .u32 0,.int .u32 0] 40)).drew.frozen? ⟨W0.heap.size,0,none⟩=false from frz_nw W0 _ _ 0) (by simp)
  have f1:=frz_later hb13 (show (W0.alloc (.cells #[.int .u64 0,.int .u32 0,.int .u32 0] 40)).drew.frozen? ⟨W0.heap.size,1,none⟩=false from frz_nw W0 _ _ 1) (by simp)
  have f2:=frz_later hb13 (show (W0.alloc (.cells #[.int .u64 0,.int .u32 0,.int .u32 0] 40)).drew.frozen? ⟨W0.heap.size,2,none⟩=false from frz_nw W0 _ _ 2) (by simp)
  have HB13:=Lib.hid (Below.step (Below.allocS (Below.refl W0.heap.size W0) (.cells #[.int .u64 0,.int .u32 0,.int .u32 0] 40)).drew hb13)
  go_wp2_with fail
  refine outA hK kpK_4 (fun hHeld16=>?_)
  clear hK K
  refine takeA 17 ?_
  refine takeA 18 ?_
  refine takeA 19 ?_
  refine readyA [21] (consA (fun K hK=>?_) .nil)
  go_simp
  have hk18:=(((Kept.refl [W0.heap.size] w13).setCell (p:=⟨W0.heap.size,0,none⟩) (Or.inl (by simp)) (.int .u64 y.1)).setCell (p:=⟨W0.heap.size,1,none⟩) (Or.inl (by simp)) (.int .u32 y.2.1)).setCell (p:=⟨W0.heap.size,2,none⟩) (Or.inl (by simp)) (.int .u32 y.2.2)
  refine outA hK kpK_4 (fun hHeld21=>?_)
  clear hK K
  refine takeA 22 ?_
  refine doneA ?_
  first
   | (
    obtain ⟨W3,hW3⟩:∃ X,X=w13.alloc (.cells #[.int .u64 y.1,.int .u32 y.2.1,.int .u32 y.2.2] 40):=⟨_,rfl⟩
    rw [← hW3]
    obtain ⟨b18,hb18⟩:∃ b,b=w13.heap.size:=⟨_,rfl⟩
    rw [← hb18]
    have x0:W3.cell? ⟨b18,0,none⟩=some (.int .u64 y.1):=by rw [hW3];exact cell_nwE hb18 _ _ 0 _ rfl
    have x1:W3.cell? ⟨b18,1,none⟩=some (.int .u32 y.2.1):=by rw [hW3];exact cell_nwE hb18 _ _ 1 _ rfl
    have x2:W3.cell? ⟨b18,2,none⟩=some (.int .u32 y.2.2):=by rw [hW3];exact cell_nwE hb18 _ _ 2 _ rfl
    have hB3:Below W0.heap.size W0 W3:=by rw [hW3];exact Below.allocS HB13.out _)
   | (
    obtain ⟨W3,hW3⟩:∃ X,X=(((w13.setCell ⟨W0.heap.size,0,none⟩ (.int .u64 y.1)).setCell ⟨W0.heap.size,1,none⟩ (.int .u32 y.2.1)).setCell ⟨W0.heap.size,2,none⟩ (.int .u32 y.2.2)):=⟨_,rfl⟩
    rw [← hW3]
    obtain ⟨b18,hb18⟩:∃ b,b=W0.heap.size:=⟨_,rfl⟩
    rw [← hb18]
    have x0:W3.cell? ⟨b18,0,none⟩=some (.int .u64 y.1):=by rw [hW3,hb18];exact cell_set_ne (cell_set_ne (cell_set_eq x0) (Or.inr (by omega))) (Or.inr (by omega))
    have x1:W3.cell? ⟨b18,1,none⟩=some (.int .u32 y.2.1):=by rw [hW3,hb18];exact cell_set_ne (cell_set_eq (cell_set_ne x1 (Or.inr (by omega)))) (Or.inr (by omega))
    have x2:W3.cell? ⟨b18,2,none⟩=some (.int .u32 y.2.2):=by rw [hW3,hb18];exact cell_set_eq (cell_set_ne (cell_set_ne x2 (Or.inr (by omega))) (Or.inr (by omega)))
    have hB3:Below W0.heap.size W0 W3:=by rw [hW3];exact ((HB13.out.setCell (by simp) _).setCell (by simp) _).setCell (by simp) _)
  clear hW3 hb18
  replace z0:=cell_later hB3 z0
  replace z1:=cell_later hB3 z1
  replace z2:=cell_later hB3 z2
  have f0:=frz_later hB3 (FZ.out 0) hl0
  have f1:=frz_later hB3 (FZ.out 1) hl0
  have f2:=frz_later hB3 (FZ.out 2) hl0
  have HB4:=Lib.hid (Below.step HB0.out hB3)
  replace q2:=cell_later hB3 q2
  replace a0:=cell_later hB3 a0
  replace a1:=cell_later hB3 a1
  replace a2:=cell_later hB3 a2
  clear hS0 hHeld hB3
  cases bb with
  | false =>
   go_wp2_with fail
   refine bodyPost_ret (v:=.agg #[.int .u64 (s.A g).1,.int .u32 (s.A g).2.1,.int .u32 (s.A g).2.2]) (by simp [results,Tryz.results53,go_sem,z0,z1,z2,f0,f1,f2]) rfl ⟨by rw [HRR.out];simp,?_⟩
   exact ((HB4.out.setCell (by simp) _).setCell (by simp) _).setCell (by simp) _
  | true =>
   by_cases hz:0<g
   ·have HZ:=Lib.hid hz
    have y1:decide ((g:Int) > 0)=true:=decide_eq_true (by omega)
    go_wp2_with fail
    refine bodyPost_ret (v:=.agg #[.int .u64 (y).1,.int .u32 (y).2.1,.int .u32 (y).2.2]) (by simp [results,Tryz.results53,go_sem,z0,z1,z2,f0,f1,f2]) rfl ⟨by rw [HRR.out];simp [HZ.out],?_⟩
    exact ((HB4.out.setCell (by simp) _).setCell (by simp) _).setCell (by simp) _
   ·have HZ:=Lib.hid hz
    have y1:decide ((g:Int) > 0)=false:=decide_eq_false (by omega)
    go_wp2_with fail
    refine bodyPost_ret (v:=.agg #[.int .u64 (s.A g).1,.int .u32 (s.A g).2.1,.int .u32 (s.A g).2.2]) (by simp [results,Tryz.results53,go_sem,z0,z1,z2,f0,f1,f2]) rfl ⟨by rw [HRR.out];simp [HZ.out],?_⟩
    exact ((HB4.out.setCell (by simp) _).setCell (by simp) _).setCell (by simp) _
def pSpotV (s:TSt) (g:Int):Int×Int×Int:=if hasV (s.n:Int) g then ((spotX s g.toNat).1,(spotX s g.toNat).2.1,s.fl g.toNat) else (0,0,0)
def pSpotC (s:TSt) (g:Int):Int:=if hasV (s.n:Int) g then 0 else 2
set_option maxRecDepth 100000 in
set_option maxHeartbeats 2000000 in
theorem pSpot_at {t:Nat} {F:List Nat} {s:TSt} (g:Int) (w:World) (h:TreeIn w t F s):Calls Tryz.prog 23 #[.pointer (some ⟨t,0,none⟩),.int .i64 g] w fun e w'=>e=.returned (.tuple #[.agg #[.int .u64 (pSpotV s g).1,.int .u32 (pSpotV s g).2.1,.int .u64 (pSpotV s g).2.2],.int .i64 (pSpotC s g)])∧Below w.heap.size w w':=by
 have HT:=Lib.hid h
 obtain ⟨bg,bq,ba,bm,qp,Fq,hr,rfl⟩:=h
 obtain ⟨W0,hW0⟩:∃ W0,W0=w.alloc (.cells #[.int .u64 0,.int .u32 0,.int .u64 0] 55):=⟨_,rfl⟩
 have hB0:Below w.heap.size w W0:=by rw [hW0];exact below_a _ _
 have z0:W0.cell? ⟨w.heap.size,0,none⟩=some (.int .u64 0):=by rw [hW0];exact cell_nw _ _ _ 0 _ rfl
 have z1:W0.cell? ⟨w.heap.size,1,none⟩=some (.int .u32 0):=by rw [hW0];exact cell_nw _ _ _ 1 _ rfl
 have z2:W0.cell? ⟨w.heap.size,2,none⟩=some (.int .u64 0):=by rw [hW0];exact cell_nw _ _ _ 2 _ rfl
 have f0:W0.frozen? ⟨w.heap.size,0,none⟩=false:=by rw [hW0];exact frz_nw _ _ _ 0
 have f1:W0.frozen? ⟨w.heap.size,1,none⟩=false:=by rw [hW0];exact frz_nw _ _ _ 1
 have f2:W0.frozen? ⟨w.heap.size,2,none⟩=false:=by rw [hW0];exact frz_nw _ _ _ 2
 have hl0:w.heap.size<W0.heap.size:=by rw [hW0];simp
 have hr0:=hr.below hB0
 have A1:=Lib.hid (psome_at hr0)
 have A2:=Lib.hid (phas_at g hr0)
 have HW0:=Lib.hid hW0
 have HB0:=Lib.hid hB0
 have HR0:=Lib.hid hr0
 clear hW0 hB0 hr hr0
 unfold pSpotV pSpotC
 cases hh:hasV (s.n:Int) g with
 | false =>
  rw [hh] at A2
  rw [if_neg (by simp),if_neg (by simp)]
  clear hh
  go_enter Tryz.func23,Tryz.ntmps23
  go_wp2_with fail
  rw [← HW0.out]
  refine A1.out.mono ?_;rintro e w5 ⟨rfl,rfl⟩
  go_wp2_with fail
  refine A2.out.mono ?_;rintro e w5 ⟨rfl,rfl⟩
  go_wp2_with fail
  refine bodyPost_ret (v:=.tuple #[.agg #[.int .u64 0,.int .u32 0,.int .u64 0],.int .i64 2]) (by simp [results,Tryz.results23,go_sem,z0,z1,z2,f0,f1,f2]) rfl ⟨rfl,?_⟩
  exact ((HB0.out.setCell (by simp) _).setCell (by simp) _).setCell (by simp) _
 | true =>
  rw [hh] at A2
  rw [if_pos rfl,if_pos rfl]
  have hgb:0≤g∧g<(s.n:Int):=by unfold hasV at hh;simpa using hh
  obtain ⟨gn,rfl⟩:∃ gn:Nat,g=gn:=⟨g.toNat,by omega⟩
  have hgn:gn<s.n:=by omega
  have hgi:=hgb.2
  rw [show ((gn:Nat):Int).toNat=gn by omega]
  have A3:=Lib.hid (pspot_at gn W0 (HT.out.below HB0.out) hgn)
  obtain ⟨c1,q1⟩:=HR0.out.g1
  have q2:=HR0.out.qc gn hgn
  have HGN:=Lib.hid hgn
  generalize spotX s gn=x at *
  clear hh hgb hgn
  go_enter Tryz.func23,Tryz.ntmps23
  go_wp2_with fail
  rw [← HW0.out]
  refine A1.out.mono ?_;rintro e w5 ⟨rfl,rfl⟩
  go_wp2_with fail
  refine A2.out.mono ?_;rintro e w5 ⟨rfl,rfl⟩
  go_wp2_with fail
  refine A3.out.mono ?_;rintro e w5 ⟨rfl,hb5⟩
  go_wp2_with fail
  refine wp_world (fun W6 hW6=>?_)
  have hb6:Below W0.heap.size W0 W6:=by rw [hW6];exact Below.allocS hb5 _
  obtain ⟨b6,hb6n⟩:∃ b,b=w5.heap.size:=⟨_,rfl⟩
  have x0:W6.cell? ⟨b6,0,none⟩=some (.int .u64 x.1):=by rw [hW6];exact cell_nwE hb6n _ _ 0 _ rfl
  have x1:W6.cell? ⟨b6,1,none⟩=some (.int .u32 x.2.1):=by rw [hW6];exact cell_nwE hb6n _ _ 1 _ rfl
  rw [← hb6n]
  replace z0:=cell_later hb6 z0
  replace z1:=cell_later hb6 z1
  replace z2:=cell_later hb6 z2
  replace f0:=frz_later hb6 f0 hl0
  replace f1:=frz_later hb6 f1 hl0
  replace f2:=frz_later hb6 f2 hl0
  replace q1:=cell_later hb6 q1
  replace q2:=cell_later hb6 q2
  have HQ:=Lib.hid (show QIn W6.drew (qp gn) (Fq gn) qN (s.M gn) (s.fl gn) from ((HR0.out.below hb6).q gn HGN.out).below (Below.refl _ _).drew)
  obtain ⟨bz,hbz⟩:∃ b,b=w.heap.size:=⟨_,rfl⟩
  rw [← hbz] at z0 z1 z2 f0 f1 f2 ⊢
  have HB6:=Lib.hid (Below.step HB0.out hb6)
  have HBZ:=Lib.hid hbz
  have hs6:=hb5.size
  have mz:b6∉[bz]:=by simp;omega
  have lts:=HR0.out.lt
  have mt:t∉[bz]:=by have:=HT.out.lt t (tf_own (by simp));simp;omega
  have mq:bq∉[bz]:=by have:=HT.out.lt bq (tf_own (by simp));simp;omega
  have hl6:bz<W6.heap.size:=lt_of_cell z0
  clear hW6 hb6 hb5 hb6n hbz hs6 lts
  refine startA (S:=fun w'=>Kept [bz] W6 w'∧w'.cell? ⟨b6,0,none⟩=some (.int .u64 x.1)∧w'.cell? ⟨b6,1,none⟩=some (.int .u32 x.2.1)∧w'.cell? ⟨t,1,none⟩=some (.slice (some ⟨bq,0,none⟩) s.n c1)∧w'.cell? ⟨bq,gn,none⟩=some (.pointer (some ⟨qp gn,0,none⟩))) ⟨Kept.refl _ _,x0,x1,q1,q2⟩ (fun h=>heldK_4 (kept_dr _ _) h) (fun hS0 hHeld=>?_)
  refine takeA 0 ?_
  refine takeA 1 ?_
  refine takeA 2 ?_
  refine takeA 3 ?_
  refine takeA 4 ?_
  refine takeA 5 ?_
  refine takeA 6 ?_
  refine takeA 7 ?_
  refine takeA 8 ?_
  refine takeA 9 ?_
  refine takeA 10 ?_
  refine readyA [11] (consA (fun K hK=>?_) .nil)
  go_simp
  refine (Floor_at _ HQ.out).mono ?_
  rintro e w3 ⟨rfl,rfl⟩
  go_wp2_with fail
  refine outA hK kpK_4 (fun hHeld11=>?_)
  clear hK K
  refine takeA 12 ?_
  refine readyA [13] (consA (fun K hK=>?_) .nil)
  go_simp
  have hk18:=(((Kept.refl [bz] W6.drew).setCell (p:=⟨bz,0,none⟩) (Or.inl (by simp)) (.int .u64 x.1)).setCell (p:=⟨bz,1,none⟩) (Or.inl (by simp)) (.int .u32 x.2.1)).setCell (p:=⟨bz,2,none⟩) (Or.inl (by simp)) (.int .u64 (s.fl gn))
  refine outA hK kpK_4 (fun hHeld13=>?_)
  clear hK K
  refine takeA 14 ?_
  refine doneA ?_
  skip
  go_wp2_with fail
  refine bodyPost_ret (v:=.tuple #[.agg #[.int .u64 x.1,.int .u32 x.2.1,.int .u64 (s.fl gn)],.int .i64 0]) (by simp [results,Tryz.results23,go_sem,z0,z1,z2]) rfl ⟨rfl,?_⟩
  exact (((HB6.out.setCell (by have:=HBZ.out;simp;omega) _).setCell (by have:=HBZ.out;simp;omega) _).setCell (by have:=HBZ.out;simp;omega) _).drew
def wgQ (k:Int) (s:TSt) (g:Nat) (id:Int):TSt:={ s with M:=upd s.M g (chS (decide (wgOk k)) qN (s.M g) id (wghX k)),fl:=upd s.fl g (chF (decide (wgOk k)) qN (s.M g) id (wghX k) (s.fl g)) }
def pweiC (s:TSt) (id k:Int):Int:=if wgOk k then (if findC s id=0 then chC (decide (wgOk k)) qN (s.M (findG s id).toNat) id else findC s id) else 2
def pweiS (s:TSt) (id k:Int):TSt:=if wgOk k then (if findC s id=0 then wgQ k s (findG s id).toNat id else s) else s
set_option maxRecDepth 100000 in
set_option maxHeartbeats 2000000 in
theorem pWeigh_at {t:Nat} {F:List Nat} {s:TSt} (id k:Int) (w:World) (h:TreeIn w t F s) (hid:(Lit.int .i64 id).wf=true) (hk:(Lit.int .i64 k).wf=true) :
  Calls Tryz.prog 37 #[.pointer (some ⟨t,0,none⟩),.int .i64 id,.int .i64 k] w (TDid w t F (.int .i64 (pweiC s id k)) (pweiS s id k)):=by
 have HT:=Lib.hid h
 obtain ⟨bg,bq,ba,bm,qp,Fq,hr,rfl⟩:=h
 have A1:=Lib.hid (pfind_at id hr hid)
 have HR:=Lib.hid hr
 have h1:=findC_one s id
 clear hr
 by_cases hw:wgOk k
 ·have A2:=Lib.hid fun W=>Weigh_ok 0 0 1 k W (by unfold Ch.Ok;decide) hw
  by_cases hc:findC s id=0
  ·obtain ⟨g,hg,hfg⟩:=findC_zero hc
   obtain ⟨hg0,hg1⟩:=HR.out.tok id g hg
   obtain ⟨gn,rfl⟩:∃ gn:Nat,g=gn:=⟨g.toNat,by omega⟩
   have hgn:gn<s.n:=by omega
   have HC:=Lib.hid (show pweiC s id k=chC (decide (wgOk k)) qN (s.M gn) id by unfold pweiC;rw [if_pos hw,if_pos hc,hfg];rfl)
   have HS:=Lib.hid (show pweiS s id k=wgQ k s gn id by unfold pweiS;rw [if_pos hw,if_pos hc,hfg];rfl)
   rw [HC.out,HS.out]
   rw [hc,hfg] at A1
   have HGN:=Lib.hid hgn
   clear h1 hc hfg hg hgn
   go_enter Tryz.func37,Tryz.ntmps37
   go_wp2_with fail
   refine A1.out.mono ?_;rintro e w5 ⟨rfl,rfl⟩
   go_wp2_with fail
   refine (A2.out _).mono ?_;rintro e w5 ⟨rfl,hb5⟩
   have hb6:=Below.allocS hb5 (.cells #[.int .u64 0,.int .u32 0,.int .u32 k] 40)
   have hr6:=HR.out.below hb6
   obtain ⟨c1,q1⟩:=hr6.g1
   have q2:=hr6.qc gn HGN.out
   have A3:=Lib.hid (Weigh_at id k _ (hr6.q gn HGN.out) hid)
   have HR6:=Lib.hid hr6
   have HB6:=Lib.hid hb6
   clear hr6 hb5 hb6
   go_wp2_with fail
   refine A3.out.mono ?_;rintro e w7 ⟨rfl,F7,h7,s7⟩
   obtain ⟨hr7,hs7⟩:=HR6.out.queue HGN.out h7 s7
   have HT7:=Lib.hid (show TAfter w t (TF t bg bq ba bm Fq s.n) (wgQ k s gn id) w7 from ⟨_,⟨bg,bq,ba,bm,qp,_,hr7,rfl⟩,(Step.of HB6.out).trans hs7⟩)
   clear h7 s7 hr7 hs7
   go_wp2_with fail
   go_ret
   exact ⟨by have e:=decide_eq_true hw;rw [e];first | done | rfl,HT7.out⟩
  ·have HC:=Lib.hid (show pweiC s id k=findC s id by unfold pweiC;rw [if_pos hw,if_neg hc])
   have HS:=Lib.hid (show pweiS s id k=s by unfold pweiS;rw [if_pos hw,if_neg hc])
   have y1:(findC s id != 0)=true:=by simp [hc]
   have y2:(findC s id != 1)=true:=by simp [h1]
   rw [HC.out,HS.out]
   clear h1 hc
   go_enter Tryz.func37,Tryz.ntmps37
   go_wp2_with fail
   refine A1.out.mono ?_;rintro e w5 ⟨rfl,rfl⟩
   go_wp2_with fail
   refine (A2.out _).mono ?_;rintro e w5 ⟨rfl,hb5⟩
   go_wp2_with fail
   go_ret
   exact ⟨rfl,TAfter.same HT.out (Below.allocS hb5 _)⟩
 ·have A2:=Lib.hid fun W=>Weigh_bad 0 0 1 k W (by unfold Ch.Fits;decide) (fun q=>hw q.2)
  have HC:=Lib.hid (show pweiC s id k=2 by unfold pweiC;rw [if_neg hw])
  have HS:=Lib.hid (show pweiS s id k=s by unfold pweiS;rw [if_neg hw])
  have y2:(findC s id != 1)=true:=by simp [h1]
  rw [HC.out,HS.out]
  clear h1
  go_enter Tryz.func37,Tryz.ntmps37
  go_wp2_with fail
  refine A1.out.mono ?_;rintro e w5 ⟨rfl,rfl⟩
  go_wp2_with fail
  refine (A2.out _).mono ?_;rintro e w5 ⟨rfl,hb5⟩
  go_wp2_with fail
  go_ret
  exact ⟨rfl,TAfter.same HT.out (Below.allocS hb5 _)⟩
def subL (s:TSt) (g:Nat):Int:=if 0<g∧(s.M g).isEmpty=false then (getE (s.M (parG s.Gs g)) (65536+g)).2.2 else 0
def loadTo (s:TSt):Nat→Int
 | 0=>0
 | k+1=>loadTo s k+loadM (s.M k) - subL s k
theorem getE_fits {w:World} {q:Nat} {F:List Nat} {n:Int} {M:Mems} {fl:Int} (h:QIn w q F n M fl) (id:Int):0≤(getE M id).2.2∧(getE M id).2.2≤65536:=by
 unfold getE
 cases hm:entM M id with
 | none=>simp
 | some x =>
  have:=h.ids.1.ok _ ((ent_some h.ids.1.nod).1 hm)
  unfold Ch.Ok at this
  simp only [Option.getD_some]
  simp only at this
  omega
theorem TRaw.loads {w:World} {t bg bq ba bm:Nat} {qp:Nat→Nat} {Fq:Nat→List Nat} {s:TSt} (h:TRaw w t bg bq ba bm qp Fq s):∀ k,k≤s.n→-65536*(k:Int)≤loadTo s k∧loadTo s k≤4311744512*(k:Int):=by
 intro k
 induction k with
 | zero=>intro _;simp [loadTo]
 | succ k ih =>
  intro hk
  have i:=ih (by omega)
  have q:=(h.q k (by omega)).ids
  have l:=load_le q.1.ok
  have hp:=h.right.par (k:=k) (by have:s.n=s.Gs.length:=rfl;omega)
  have e:=getE_fits (h.q (parG s.Gs k) (by omega)) (65536+k)
  have sb:0≤subL s k∧subL s k≤65536:=by unfold subL;split <;> omega
  have ql:((s.M k).length:Int)≤65792:=q.2.2.2.2.1
  unfold loadTo
  push_cast
  constructor <;> omega
set_option maxRecDepth 100000 in
set_option maxHeartbeats 4000000 in
theorem pLoad_at {t:Nat} {F:List Nat} {s:TSt} (w:World) (h:TreeIn w t F s):Calls Tryz.prog 12 #[.pointer (some ⟨t,0,none⟩)] w fun e w'=>e=.returned (.int .i64 (loadTo s s.n))∧Below w.heap.size w w':=by
 obtain ⟨bg,bq,ba,bm,qp,Fq,hr,rfl⟩:=h
 have A1:=Lib.hid (psome_at hr)
 obtain ⟨c1,q1⟩:=hr.g1
 have HN:=Lib.hid hr.pos
 have HR:=Lib.hid hr
 have HLD:=Lib.hid hr.loads
 clear hr
 go_enter Tryz.func12,Tryz.ntmps12
 go_wp2_with fail
 refine A1.out.mono ?_;rintro e w5 ⟨rfl,rfl⟩
 go_wp2_with fail
 go_loopw [3,17] (fun v i wr=>∃ k:Nat,k≤s.n∧i=.int .i64 k∧v=.int .i64 (loadTo s k)∧Below w.heap.size w wr) (fun _ i _=>s.n - (intOf i).toNat)
 case atStart=>exact ⟨0,Nat.zero_le _,rfl,rfl,Below.refl _ _⟩
 case round =>
  obtain ⟨k,hk,rfl,rfl,hb⟩:=hrel
  by_cases hlt:k<s.n
  ·have hr:=HR.out.below hb
   obtain ⟨c0,g0⟩:=hr.g0
   obtain ⟨c2,g1⟩:=hr.g1
   have q2:=hr.qc k hlt
   have hpar:=hr.right.par (k:=k) (by have:s.n=s.Gs.length:=rfl;omega)
   have hpn:parG s.Gs k<s.n:=by omega
   have gp:=(hr.gc k hlt).1
   rw [← hpar.1] at gp
   have q3:=hr.qc _ hpn
   have hki:(k:Int)<(s.n:Int):=by omega
   have hpi:(parG s.Gs k:Int)<(s.n:Int):=by omega
   have z0:decide ((k:Int)<(s.n:Int))=true:=decide_eq_true hki
   have hn256:s.n≤256:=HN.out.2
   have A2:=Lib.hid (Load_at wr (hr.q k hlt))
   have A3:=Lib.hid fun W (hb:Below wr.heap.size wr W)=>Len_at' W ((hr.q k hlt).below hb)
   have HID:=Lib.hid (show (Lit.int .i64 (65536+(k:Int))).wf=true from wfI (by omega) (by have:=HN.out;omega))
   have A4:=Lib.hid fun W (hb:Below wr.heap.size wr W)=>Get_at (65536+(k:Int)) W ((hr.q _ hpn).below hb) HID.out
   have z3:IntKind.i64.wrap (65536+(k:Int))=65536+(k:Int):=IntWalk.i64_in _ (by have:=HN.out;omega)
   have l1:=HLD.out k (by omega)
   have l2:=HLD.out (k+1) (by omega)
   have e1:loadTo s (k+1)=loadTo s k+loadM (s.M k) - subL s k:=rfl
   have ex:=getE_fits (hr.q (parG s.Gs k) hpn) (65536+k)
   have sb:0≤subL s k∧subL s k≤65536:=by unfold subL;split <;> omega
   have z4:IntKind.i64.wrap (loadTo s k+loadM (s.M k))=loadTo s k+loadM (s.M k):=IntWalk.i64_in _ (by have:=HN.out;omega)
   have HB:=Lib.hid hb
   have HR2:=Lib.hid hr
   have HE1:=Lib.hid e1
   generalize loadM (s.M k)=lm at *
   clear hr hb l1 e1 hpar
   by_cases hz:0<k
   ·have z5:decide ((k:Int) > 0)=true:=decide_eq_true (by omega)
    have hz':(0:Int)<(k:Int):=by omega
    cases hm:(s.M k).isEmpty with
    | true =>
     have HSB:=Lib.hid (show subL s k=0 by unfold subL;rw [hm,if_neg (by simp)])
     rw [List.isEmpty_iff.1 hm] at A3
     have A3':=Lib.hid (show ∀ W,Below wr.heap.size wr W→Calls Tryz.prog 43 #[.pointer (some ⟨qp k,0,none⟩)] W fun e w'=>e=.returned (.int .i64 0)∧W=w' from A3.out)
     clear A3 hm
     go_wp2_with fail
     refine A2.out.mono ?_;rintro e w5 ⟨rfl,rfl⟩
     go_wp2_with fail
     go_quiet (fail)
     go_wp2_with fail
     refine (A3'.out _ (below_drewN (Below.refl _ _) _)).mono ?_;rintro e w6 ⟨rfl,rfl⟩
     go_wp2_with fail
     go_roundw
     case rel=>exact ⟨k+1,by omega,by go_num,by rw [HE1.out,HSB.out,Int.sub_zero],below_drewN HB.out _⟩
     case measure=>simp [intOf];omega
    | false =>
     obtain ⟨m,hm0⟩:∃ m,m=(s.M k).length:=⟨_,rfl⟩
     have hm1:0<m:=by
      rw [hm0]
      exact List.length_pos_iff.2 (fun e=>by rw [e] at hm;cases hm)
     rw [← hm0] at A3
     have z6:decide ((m:Int) > 0)=true:=decide_eq_true (by omega)
     have HSB:=Lib.hid (show subL s k=(getE (s.M (parG s.Gs k)) (65536+k)).2.2 by unfold subL;rw [hm,if_pos ⟨hz,rfl⟩])
     have z7:IntKind.i64.wrap (getE (s.M (parG s.Gs k)) (65536+k)).2.2=(getE (s.M (parG s.Gs k)) (65536+k)).2.2:=IntWalk.i64_in _ (by omega)
     have z8:IntKind.i64.wrap (loadTo s k+lm - (getE (s.M (parG s.Gs k)) (65536+k)).2.2)=loadTo s k+lm - (getE (s.M (parG s.Gs k)) (65536+k)).2.2:=by
      rw [← HSB.out,← HE1.out]
      exact IntWalk.i64_in _ (by have:=HN.out;omega)
     generalize getE (s.M (parG s.Gs k)) (65536+(k:Int))=x at *
     generalize (entM (s.M (parG s.Gs k)) (65536+(k:Int))).isSome=bb at *
     clear hm hm0
     go_wp2_with fail
     refine A2.out.mono ?_;rintro e w5 ⟨rfl,rfl⟩
     go_wp2_with fail
     go_quiet (fail)
     go_wp2_with fail
     refine (A3.out _ (below_drewN (Below.refl _ _) _)).mono ?_;rintro e w6 ⟨rfl,rfl⟩
     go_wp2_with fail
     refine (A4.out _ (below_drewN (Below.refl _ _) _)).mono ?_;rintro e w7 ⟨rfl,hb7⟩
     have x2:=cell_nw w7 #[.int .u64 x.1,.int .u32 x.2.1,.int .u32 x.2.2] 40 2 _ rfl
     have HB7:=Lib.hid (Below.allocS (Below.step (below_drewN HB.out _) hb7) (.cells #[.int .u64 x.1,.int .u32 x.2.1,.int .u32 x.2.2] 40))
     clear hb7
     go_wp2_with fail
     go_roundw
     case rel=>exact ⟨k+1,by omega,by go_num,by rw [HE1.out,HSB.out],HB7.out⟩
     case measure=>simp [intOf];omega
   ·obtain rfl:k=0:=by omega
    have HSB:=Lib.hid (show subL s 0=0 by unfold subL;rw [if_neg (by simp)])
    go_wp2_with fail
    refine A2.out.mono ?_;rintro e w5 ⟨rfl,rfl⟩
    go_wp2_with fail
    go_quiet (fail)
    go_wp2_with fail
    go_roundw
    case rel=>exact ⟨1,by omega,by go_num,by rw [HE1.out,HSB.out,Int.sub_zero],below_drewN HB.out _⟩
    case measure=>simp [intOf];omega
  ·obtain rfl:k=s.n:=by omega
   have HB:=Lib.hid hb
   have z0:decide ((s.n:Int)<(s.n:Int))=false:=decide_eq_false (by omega)
   go_wp2_with fail
   go_ret
   exact ⟨rfl,HB.out⟩
end Go.Proofs.YtfgmglghlapbcaaGreat
