/-
  Layer 25 (pick), the reference: New.
-/
import Derived.Test.YtfgmglghlapbcaaGreatRfI
namespace Go.Proofs.YtfgmglghlapbcaaGreat
open Go.RowKit Go.Maps Go.IntWalk Go.Lib Go.Sort Go.Shelf
set_option linter.unusedVariables false
set_option linter.unusedSimpArgs false
def newSp (Gs:Grps) (k:Nat):List Ent:=(List.range k).map (newA Gs)
def newFl (k:Nat):List Int:=List.replicate k 0
def newR (Gs:Grps) (cr:Int):RSt:={ Gs:=Gs,cr:=cr,T:=[],A:=newSp Gs Gs.length,fl:=newFl Gs.length }
theorem newSp_len (Gs:Grps) (k:Nat):(newSp Gs k).length=k:=by unfold newSp;simp
theorem newFl_len (k:Nat):(newFl k).length=k:=by unfold newFl;simp
theorem newSp_succ (Gs:Grps) (k:Nat):flatR encEn (newSp Gs (k+1))=flatR encEn (newSp Gs k)++[.int .u64 0,.int .u32 0,.int .u32 (Gs[k]!).2]:=by
 unfold newSp
 rw [List.range_succ,List.map_append,flatR_app]
 simp [flatR,encEn,newA]
theorem newFl_succ (k:Nat):flatR encU (newFl (k+1))=flatR encU (newFl k)++[.int .u64 0]:=by
 unfold newFl
 rw [List.replicate_succ',flatR_app]
 simp [flatR,encU]
abbrev zeros5:List Value:=[.slice none 0 0,.int .u64 0,.slice none 0 0,.slice none 0 0,.slice none 0 0]
structure TNew (base:Nat) (wr:World) (bz bt bg cg n:Nat) (v3 v4:Value) (Gs:Grps) (cr:Int) (k m:Nat):Prop where
 c:CellsF wr bt [.slice (some ⟨bg,0,none⟩) n cg,.int .u64 cr,.slice none 0 0,v3,v4]
 z:CellsF wr bz zeros5
 o0:wr.ownsRow base 53 2 (.slice (some ⟨bg,0,none⟩) n cg) n (flatR encG Gs)
 o3:wr.ownsRow base 120 3 v3 k (flatR encEn (newSp Gs k))
 o4:wr.ownsRow base 25 1 v4 m (flatR encU (newFl m))
 bz:bz<base
 n0:bg≠bt
 n3:∀ b,v3.ownBlock=some b→b≠bt
 n4:∀ b,v4.ownBlock=some b→b≠bt
theorem CellsF.lt {w:World} {b:Nat} {u:Value} {l:List Value} (h:CellsF w b (u::l)):b<w.heap.size:=lt_of_cell (h 0 u rfl).1
section
variable {base:Nat} {wr w1:World} {bz bt bg cg n:Nat} {v3 v4:Value} {Gs:Grps} {cr:Int} {k m:Nat}
theorem TNew.below {w':World} (h:TNew base wr bz bt bg cg n v3 v4 Gs cr k m) (hb:Below wr.heap.size wr w'):TNew base w' bz bt bg cg n v3 v4 Gs cr k m:=
 ⟨h.c.later hb,h.z.later hb,own_below h.o0 hb,own_below h.o3 hb,own_below h.o4 hb,h.bz,h.n0,h.n3,h.n4⟩
theorem own_setN {w:World} {b e s n' i g:Nat} {xs:List Value} {v u:Value} (h:w.ownsRow b e s v n' xs) (hn:∀ q,v.ownBlock=some q→q≠g):(w.setCell ⟨g,i,none⟩ u).ownsRow b e s v n' xs:=ownsRow_setCell_other h (fun q=>hn g q rfl) u
theorem own_apartN {w:World} {b1 b2 e1 e2 k1 k2 m1 m2:Nat} {v1 v2:Value} {x1 x2:List Value} (h1:w.ownsRow b1 e1 k1 v1 m1 x1) (h2:w.ownsRow b2 e2 k2 v2 m2 x2) (he:e1≠e2) {b:Nat} (q1:v1.ownBlock=some b):v2.ownBlock≠some b:=fun q2=>by
 rcases own_apart h1 h2 he with q | q
 ·rw [q1] at q;cases q
 ·exact q (q1.trans q2.symm)
theorem TNew.spot {v3':Value} (h:TNew base wr bz bt bg cg n v3 v4 Gs cr k m) (hg:wr.grownBy w1 v3.ownBlock) (ho:w1.ownsRow base 120 3 v3' (k+1) (flatR encEn (newSp Gs (k+1)))) (hp:v3'.ownBlock=v3.ownBlock∨v3'.ownBlock=some wr.heap.size) :
  (w1.cell? ⟨bt,3,none⟩=some v3∧w1.frozen? ⟨bt,3,none⟩=false)∧TNew base (w1.setCell ⟨bt,3,none⟩ v3') bz bt bg cg n v3' v4 Gs cr (k+1) m:=by
 have hk:=grown_kept hg
 have lc:=h.c.lt
 have mt:bt∉v3.ownBlock.toList:=fun m=>h.n3 bt (by simpa using m) rfl
 have mz:bz∉v3.ownBlock.toList:=fun m=>by have:=(h.o3.lt bz (by simpa using m)).1;have:=h.bz;omega
 have c1:=h.c.kept hk mt
 have nv:∀ b,v3'.ownBlock=some b→b≠bt:=fun b e=>by
  rcases hp with q | q
  ·exact h.n3 b (q ▸ e)
  ·rw [q] at e;cases e;omega
 have hzt:bz≠bt:=fun e=>by
  have h1:=(h.z 0 _ rfl).1
  have h2:=(h.c 0 _ rfl).1
  rw [e,h2] at h1
  cases h1
 refine ⟨c1 3 _ rfl,?_⟩
 exact
 {c:=cells_set (i:=3) (v:=v3') c1
  z:=cells_other (h.z.kept hk mz) hzt
  o0:=own_setN (own_kept h.o0 hk fun b e m=>own_apartN h.o0 h.o3 (by decide) e (by simpa using m)) fun q e=>by cases e;exact h.n0
  o3:=own_setN ho nv
  o4:=own_setN (own_kept h.o4 hk fun b e m=>own_apartN h.o4 h.o3 (by decide) e (by simpa using m)) h.n4
  bz:=h.bz,n0:=h.n0,n3:=nv,n4:=h.n4 }
theorem TNew.floor {v4':Value} (h:TNew base wr bz bt bg cg n v3 v4 Gs cr k m) (hg:wr.grownBy w1 v4.ownBlock) (ho:w1.ownsRow base 25 1 v4' (m+1) (flatR encU (newFl (m+1)))) (hp:v4'.ownBlock=v4.ownBlock∨v4'.ownBlock=some wr.heap.size) :
  (w1.cell? ⟨bt,4,none⟩=some v4∧w1.frozen? ⟨bt,4,none⟩=false)∧TNew base (w1.setCell ⟨bt,4,none⟩ v4') bz bt bg cg n v3 v4' Gs cr k (m+1):=by
 have hk:=grown_kept hg
 have lc:=h.c.lt
 have mt:bt∉v4.ownBlock.toList:=fun m=>h.n4 bt (by simpa using m) rfl
 have mz:bz∉v4.ownBlock.toList:=fun m=>by have:=(h.o4.lt bz (by simpa using m)).1;have:=h.bz;omega
 have c1:=h.c.kept hk mt
 have nv:∀ b,v4'.ownBlock=some b→b≠bt:=fun b e=>by
  rcases hp with q | q
  ·exact h.n4 b (q ▸ e)
  ·rw [q] at e;cases e;omega
 have hzt:bz≠bt:=fun e=>by
  have h1:=(h.z 0 _ rfl).1
  have h2:=(h.c 0 _ rfl).1
  rw [e,h2] at h1
  cases h1
 refine ⟨c1 4 _ rfl,?_⟩
 exact
 {c:=cells_set (i:=4) (v:=v4') c1
  z:=cells_other (h.z.kept hk mz) hzt
  o0:=own_setN (own_kept h.o0 hk fun b e m=>own_apartN h.o0 h.o4 (by decide) e (by simpa using m)) fun q e=>by cases e;exact h.n0
  o3:=own_setN (own_kept h.o3 hk fun b e m=>own_apartN h.o3 h.o4 (by decide) e (by simpa using m)) h.n3
  o4:=own_setN ho nv
  bz:=h.bz,n0:=h.n0,n3:=h.n3,n4:=nv }
end
def TNewP (w:World) (Gs:Grps) (cr:Int) (e:Ending) (w':World):Prop:=∃ bg ba bf cg ca cf,e=.returned (.agg #[.slice (some ⟨bg,0,none⟩) Gs.length cg,.int .u64 cr,.slice none 0 0,.slice (some ⟨ba,0,none⟩) Gs.length ca,.slice (some ⟨bf,0,none⟩) Gs.length cf])∧ROwn w.heap.size w' bg none ba bf cg 0 ca cf Gs.length 0 (newR Gs cr)∧Below w.heap.size w w'
set_option maxRecDepth 100000 in
set_option maxHeartbeats 4000000 in
theorem tNew_at (v:Value) (Gs:Grps) (cr:Int) (w:World) (h:RecsAt encG w v Gs) (hr:RightG Gs):Calls Tryz.prog 29 #[v,.int .u64 cr] w (TNewP w Gs cr):=by
 obtain ⟨ig,gi,gz0,gz1,gz2⟩:=info_parts infoGroup
 obtain ⟨ie,ei,ez0,ez1,ez2⟩:=info_parts infoRE
 obtain ⟨iu,ui,uz0,uz1,uz2⟩:=info_parts infoU64
 have hl:=hr.le
 have hp:=hr.pos
 have HRI:=Lib.hid hr
 have HH:=Lib.hid h
 obtain ⟨a,cap,rfl,hl1,hl2,hl3,hcells⟩:=h
 obtain ⟨b,off,rfl,hc'⟩:∃ b off,a=some ⟨b,off,none⟩∧∀ j u,(flatR encG Gs)[j]?=some u→w.cell? ⟨b,off+j,none⟩=some u:=by
  rcases hcells with q | q
  ·rw [q] at hp;simp at hp
  ·exact q
 have HC:=Lib.hid hc'
 clear hcells hc' hr hl1 hl2 hl3
 obtain ⟨W0,hW0⟩:∃ W0,W0=(w.alloc (.cells #[.slice none 0 0,.int .u64 0,.slice none 0 0,.slice none 0 0,.slice none 0 0] 74)):=⟨_,rfl⟩
 have HB0:=Lib.hid (show Below w.heap.size w W0 by rw [hW0];exact (Below.allocS (Below.refl _ _) _))
 obtain ⟨z0,fz0,z1,fz1,z2,fz2,z3,fz3,z4,fz4⟩:=uc5 (show CellsF W0 (w.heap.size) [.slice none 0 0,.int .u64 0,.slice none 0 0,.slice none 0 0,.slice none 0 0] by rw [hW0];exact CellsF.new (by simp))
 have HSZ:=Lib.hid (show W0.heap.size=w.heap.size+1 by rw [hW0];simp)
 have HW0:=Lib.hid hW0
 clear hW0
 have HSRC:=Lib.hid (HH.out.later HB0.out)
 go_enter Tryz.func29,Tryz.ntmps29
 go_upto_region 1 with fail
 rw [← HW0.out]
 generalize hbx:w.heap.size=bx at z0 z1 z2 z3 z4 fz0 fz1 fz2 fz3 fz4 HSZ  ⊢
 have HBX:=Lib.hid hbx
 clear hbx HW0
 have HZ:=Lib.hid (cells5 z0 z1 z2 z3 z4 fz0 fz1 fz2 fz3 fz4)
 have ho0:(W0.alloc (.cells #[] 53)).ownsRow W0.heap.size 53 2 (.slice (some ⟨W0.heap.size,0,none⟩) 0 0) 0 []:=World.ownsRow_lit _ #[] 0 (Nat.le_refl _) (by unfold maxLen;omega) rfl
 have HO0:=Lib.hid ho0
 have HS0:=Lib.hid (HSRC.out.later (below_a W0 (.cells #[] 53)))
 clear ho0 z0 z1 z2 z3 z4 fz0 fz1 fz2 fz3 fz4
 go_wp2_with (at_builtin;refine listF rfl (.tmp 7) (.tmp 8) 27 rfl W0.heap.size 53 ig (.agg #[.int .i64 0,.int .i64 0]) 2 16 encG_ok Tryz.underlying27 gi gz0 gz1 gz2 rfl W0.heap.size rfl HO0.out _ _ rfl HS0.out (by unfold maxLen;omega) (by omega) (below_a W0 _).size ?_)
 intro v0 w1 ho1 hb1
 obtain ⟨bg,cg,rfl⟩:=own_pos ho1 hp
 obtain ⟨n,hn⟩:∃ n,n=Gs.length:=⟨_,rfl⟩
 rw [← hn] at hl hp ho1 ⊢
 have HNN:=Lib.hid hn
 have hbb:Below W0.heap.size W0 w1:=Below.step (below_a W0 (.cells #[] 53)) (by simpa using hb1)
 have hN0:TNew W0.heap.size (w1.alloc (.cells #[.slice (some ⟨bg,0,none⟩) n cg,.int .u64 cr,.slice none 0 0,.slice none 0 0,.slice none 0 0] 74)) bx w1.heap.size bg cg n (.slice none 0 0) (.slice none 0 0) Gs cr 0 0:=by
  have l0:=ho1.lt bg rfl
  exact
  {c:=cells5 (cell_nwE (by simp) _ _ 0 _ rfl) (cell_nwE (by simp) _ _ 1 _ rfl) (cell_nwE (by simp) _ _ 2 _ rfl) (cell_nwE (by simp) _ _ 3 _ rfl) (cell_nwE (by simp) _ _ 4 _ rfl) (frz_nwE (by simp) _ _ 0) (frz_nwE (by simp) _ _ 1) (frz_nwE (by simp) _ _ 2) (frz_nwE (by simp) _ _ 3) (frz_nwE (by simp) _ _ 4)
   z:=(HZ.out.later hbb).later (below_a _ _)
   o0:=ho1.alloc _
   o3:=World.ownsRow_nil _ _ _ _
   o4:=World.ownsRow_nil _ _ _ _
   bz:=by have:=HSZ.out;omega
   n0:=by omega
   n3:=fun b e=>by cases e
   n4:=fun b e=>by cases e }
 have HN0:=Lib.hid hN0
 have HBN:=Lib.hid (show Below w.heap.size w (w1.alloc (.cells #[.slice (some ⟨bg,0,none⟩) n cg,.int .u64 cr,.slice none 0 0,.slice none 0 0,.slice none 0 0] 74)) from Below.allocS (Below.step HB0.out hbb) _)
 have hle:w.heap.size≤w1.heap.size:=(Below.step HB0.out hbb).size
 have hle0:w.heap.size≤W0.heap.size:=HB0.out.size
 clear hN0 ho1 hb1 hbb hn
 go_wp2_with fail
 go_loopw [6] (fun i wr=>∃ (k:Nat) (v3 v4:Value),k≤n∧i=.int .i64 k∧TNew W0.heap.size wr bx w1.heap.size bg cg n v3 v4 Gs cr k k∧Below w.heap.size w wr) (fun i _=>n - (intOf i).toNat)
 case atStart=>exact ⟨0,_,_,Nat.zero_le _,rfl,HN0.out,HBN.out⟩
 case round =>
  obtain ⟨k,v3,v4,hk,rfl,hN,hB⟩:=hrel
  by_cases hlt:k<n
  ·have hki:(k:Int)<(n:Int):=by omega
   have z0:decide ((k:Int)<(n:Int))=true:=decide_eq_true hki
   have hkl:k<Gs.length:=by rw [← HNN.out];exact hlt
   have hx:Gs[k]?=some Gs[k]!:=by rw [List.getElem?_eq_getElem hkl,getElem!_pos Gs k hkl]
   have r1:wr.cell? ⟨b,off+(k*2+1),none⟩=some (.int .i64 (Gs[k]!).2):=cell_later hB (HC.out (k*2+1) _ (flatR_at encG_ok hx 1 (by decide)))
   have hw:=HRI.out.wt hkl
   have HA:=Lib.hid (newSp_succ Gs k)
   have HFL:=Lib.hid (newFl_succ k)
   obtain ⟨wg,hpw⟩:∃ x,x=(Gs[k]!).2:=⟨_,rfl⟩
   rw [← Nat.add_assoc] at r1
   rw [← hpw] at r1 hw HA
   have z1:IntKind.u32.wrap wg=wg:=IntWalk.u32_in _ (by omega)
   have HN:=Lib.hid hN
   have HB:=Lib.hid hB
   have g3:=(hN.c 3 _ rfl).1
   have g3':=cell_al (.cells #[.int .u64 0,.int .u32 0,.int .u32 wg] 120) g3
   have L1:=Lib.hid (show ((wr.alloc (.cells #[.int .u64 0,.int .u32 0,.int .u32 wg] 120)).drew).ownsRow W0.heap.size 120 3 v3 k (flatR encEn (newSp Gs k)) from hN.o3.alloc _)
   have L2:=Lib.hid (show ∀ j u,([.int .u64 0,.int .u32 0,.int .u32 wg]:List Value)[j]?=some u→((wr.alloc (.cells #[.int .u64 0,.int .u32 0,.int .u32 wg] 120)).drew).cell? ((⟨wr.heap.size,0,none⟩:Addr).add j)=some u from fun j u hj=>by
    rw [addN]
    exact cell_dr (cellN (by simp) (by simpa using hj)))
   have L3:W0.heap.size≤((wr.alloc (.cells #[.int .u64 0,.int .u32 0,.int .u32 wg] 120)).drew).heap.size:=by have:=hN.o0.lt bg rfl;simp;omega
   have L5:k+1≤maxLen:=by unfold maxLen;omega
   have L6:(k+1)*16≤140737488355328:=by omega
   have L7:∀ u∈([.int .u64 0,.int .u32 0,.int .u32 wg]:List Value),u.oneCell'=true:=fun u hu=>by simp at hu;rcases hu with rfl | rfl | rfl <;> rfl
   have HNX:=Lib.hid (hN.below (show Below wr.heap.size wr ((wr.alloc (.cells #[.int .u64 0,.int .u32 0,.int .u32 wg] 120)).drew) from (below_a wr _).drew))
   have HBX2:=Lib.hid (show Below w.heap.size w ((wr.alloc (.cells #[.int .u64 0,.int .u32 0,.int .u32 wg] 120)).drew) from (Below.allocS hB _).drew)
   clear hN hB hx hpw
   go_wp2_with fail
   go_region_law (first | (refine step_append_own2 rfl (.tmp 19) (.tmp 27) 72 rfl W0.heap.size 120 ie (.agg #[.int .u64 0,.int .u32 0,.int .u32 0]) 3 16 Tryz.underlying72 ei ez0 ez1 ez2 rfl (by decide) v3 k (flatR encEn (newSp Gs k)) rfl L1.out ⟨wr.heap.size,0,none⟩ 1 1 [.int .u64 0,.int .u32 0,.int .u32 wg] rfl rfl L2.out L7 L5 L6 L3 (by decide) ?_;intro v3' w10 hown10 hgrow10 hpl10;obtain ⟨ba',ca',rfl⟩:=own_some hown10;have hA:=HNX.out.spot hgrow10 (by rw [HA.out];exact hown10) hpl10;have k0:=hA.1.1;have kf:=hA.1.2;have HA2:=Lib.hid hA.2;have HB10:=Lib.hid (show Below w.heap.size w w10 from HBX2.out.grown hgrow10 (by have:=HBX2.out.size;omega) (fun j e=>by have:=(HN.out.o3.lt j e).1;omega));clear hown10 hgrow10 hpl10 hA))
   all_goals
    clear L1 L2 L3 L5 L6 L7 HNX HBX2 g3 g3' k0 kf
    first | refine wp_world (fun W9 hW9=>?_) | refine q_world (fun W9 hW9=>?_)
    have hN9:=HA2.out
    have hb9:Below w.heap.size w W9:=by rw [hW9];exact HB10.out.setCell hle _
    rw [← hW9] at hN9
    have HN9:=Lib.hid hN9
    have HB9:=Lib.hid hb9
    have g4:=(hN9.c 4 _ rfl).1
    clear hW9 hN9 hb9 HA2 HB10 HN r1
    go_wp2_with (at_builtin;refine wpList_append_own2 rfl (.tmp 31) (.tmp 32) 61 rfl W0.heap.size 25 iu (.int .u64 0) 1 8 Tryz.underlying61 ui uz0 uz1 uz2 rfl (by decide) v4 k (flatR encU (newFl k)) rfl (HN9.out.o4.alloc _) ⟨W9.heap.size,0,none⟩ 1 1 [.int .u64 0] rfl rfl ?c1 ?c2 ?c3 ?c4 ?c5 (by decide) ?_)
    case c1 =>
     intro j u hj
     rw [addN]
     exact cellN (by simp) (by simpa using hj)
    case c2 =>
     intro u hu
     simp only [List.mem_cons,List.not_mem_nil,or_false] at hu
     subst hu;rfl
    case c3=>unfold maxLen;omega
    case c4=>omega
    case c5=>have:=HN9.out.o0.lt bg rfl;simp;omega
    intro v4' w11 hown11 hgrow11 hpl11
    obtain ⟨bf',cf',rfl⟩:=own_some hown11
    obtain ⟨⟨c1,f1⟩,hN11⟩:=(HN9.out.below (below_a W9 (.cells #[.int .u64 0] 25))).floor hgrow11 (by rw [HFL.out];exact hown11) (by simpa using hpl11)
    have HN11:=Lib.hid hN11
    have HB11:=Lib.hid (show Below w.heap.size w (w11.setCell ⟨w1.heap.size,4,none⟩ (.slice (some ⟨bf',0,none⟩) (k+1) cf')) from ((Below.allocS HB9.out _).grown hgrow11 (by have:=HB9.out.size;simp;omega) (fun j e=>by have:=(HN9.out.o4.lt j e).1;omega)).setCell hle _)
    clear hN11 hown11 hgrow11 hpl11 g4 HN9 HB9
    go_wp2_with fail
    go_roundw
    case rel=>exact ⟨k+1,_,_,by omega,by go_num,HN11.out,HB11.out⟩
    case measure=>simp [intOf];omega
  ·obtain rfl:k=n:=by omega
   have z0:decide ((k:Int)<(k:Int))=false:=decide_eq_false (by omega)
   have hz:=hN.z
   have hc:=hN.c
   have c0:=(hc 0 _ rfl).1
   have z10:=(hz 0 _ rfl).1
   have f0:=(hz 0 _ rfl).2
   have c1:=(hc 1 _ rfl).1
   have z11:=(hz 1 _ rfl).1
   have f1:=(hz 1 _ rfl).2
   have c2:=(hc 2 _ rfl).1
   have z12:=(hz 2 _ rfl).1
   have f2:=(hz 2 _ rfl).2
   have c3:=(hc 3 _ rfl).1
   have z13:=(hz 3 _ rfl).1
   have f3:=(hz 3 _ rfl).2
   have c4:=(hc 4 _ rfl).1
   have z14:=(hz 4 _ rfl).1
   have f4:=(hz 4 _ rfl).2
   obtain ⟨ba,ca,rfl⟩:=own_pos hN.o3 hp
   obtain ⟨bf,cf,rfl⟩:=own_pos hN.o4 hp
   have HN:=Lib.hid hN
   have HB:=Lib.hid hB
   clear hN hB hz hc
   go_wp2_with fail
   refine bodyPost_ret (v:=.agg #[.slice (some ⟨bg,0,none⟩) k cg,.int .u64 cr,.slice none 0 0,.slice (some ⟨ba,0,none⟩) k ca,.slice (some ⟨bf,0,none⟩) k cf]) (by simp [results,Tryz.results29,go_sem, *]) rfl ?_
   have hN:=HN.out
   have hlow:=hN.bz
   have hO:ROwn W0.heap.size wr bg none ba bf cg 0 ca cf k 0 (newR Gs cr):=⟨hN.o0,World.ownsRow_nil _ _ _ _,by have:=hN.o3;rw [HNN.out] at this ⊢;exact this,by have:=hN.o4;rw [HNN.out] at this ⊢;exact this⟩
   have hle1:w.heap.size≤bx:=by have:=HBX.out;omega
   rw [HNN.out] at hO ⊢
   exact ⟨bg,ba,bf,cg,ca,cf,rfl,ROwn.toBase (((((hO.low (a:=⟨bx,0,none⟩) hlow _).low (a:=⟨bx,1,none⟩) hlow _).low (a:=⟨bx,2,none⟩) hlow _).low (a:=⟨bx,3,none⟩) hlow _).low (a:=⟨bx,4,none⟩) hlow _) hle0,(((((HB.out.setCell hle1 _).setCell hle1 _).setCell hle1 _).setCell hle1 _).setCell hle1 _)⟩
def rif {α:Type} (n k:Nat) (f g:Nat→α):List α:=(List.range n).map fun j=>if j<k then f j else g j
theorem rif_len {α:Type} (n k:Nat) (f g:Nat→α):(rif n k f g).length=n:=by unfold rif;simp
theorem rif_get {α:Type} {n k i:Nat} {f g:Nat→α}:(rif n k f g)[i]?=if i<n then some (if i<k then f i else g i) else none:=by
 unfold rif
 rw [List.getElem?_map]
 by_cases q:i<n
 ·rw [List.getElem?_range q,if_pos q];rfl
 ·rw [List.getElem?_eq_none (by simpa using q),if_neg q];rfl
theorem rif_succ {α:Type} {n k:Nat} {f g:Nat→α} (hk:k<n):rif n (k+1) f g=(rif n k f g).set k (f k):=by
 refine List.ext_getElem? fun i=>?_
 rw [List.getElem?_set,rif_get,rif_get,rif_len]
 by_cases q:k=i
 ·subst q;rw [if_pos hk,if_pos (Nat.lt_succ_self _),if_pos rfl,if_pos hk]
 ·rw [if_neg q]
  by_cases q3:i<n
  ·rw [if_pos q3,if_pos q3]
   by_cases q2:i<k
   ·rw [if_pos q2,if_pos (by omega)]
   ·rw [if_neg q2,if_neg (by omega)]
  ·rw [if_neg q3,if_neg q3]
theorem rif_zero {α:Type} [Inhabited α] {n:Nat} {f:Nat→α} {L:List α} (h:L.length=n):rif n 0 f (fun j=>L[j]!)=L:=by
 refine List.ext_getElem? fun i=>?_
 rw [rif_get]
 by_cases q:i<n
 ·rw [if_pos q,if_neg (Nat.not_lt_zero i),List.getElem?_eq_getElem (by omega),getElem!_pos L i (by omega)]
 ·rw [if_neg q,List.getElem?_eq_none (by omega)]
theorem rif_at {α:Type} [Inhabited α] {n k i:Nat} {f g:Nat→α} (hi:i<n):(rif n k f g)[i]! = if i<k then f i else g i:=by
 rw [getElem!_pos _ i (by rw [rif_len];exact hi)]
 have:=rif_get (n:=n) (k:=k) (i:=i) (f:=f) (g:=g)
 rw [if_pos hi,List.getElem?_eq_getElem (by rw [rif_len];exact hi)] at this
 exact Option.some.inj this
def spX (r:RSt) (L:Spots) (j:Nat):Ent:=((L[j]!).1,(L[j]!).2.1,(r.Gs[j]!).2)
def layK (r:RSt) (L:Spots) (n k:Nat):RSt:={ r with A:=rif n k (spX r L) (fun j=>r.A[j]!),fl:=rif n k (fun j=>(L[j]!).2.2) (fun j=>r.fl[j]!) }
theorem layK_zero {r:RSt} {L:Spots} {n m:Nat} (hl:RLen r n m):layK r L n 0=r:=by
 unfold layK
 rw [rif_zero hl.a,rif_zero hl.f]
theorem layK_succ {r:RSt} {L:Spots} {n k:Nat} (hk:k<n):layK r L n (k+1)={ layK r L n k with A:=(layK r L n k).A.set k (spX r L k),fl:=(layK r L n k).fl.set k (L[k]!).2.2 }:=by
 unfold layK
 simp only
 rw [rif_succ hk,rif_succ hk]
theorem layK_len {r:RSt} {L:Spots} {n m:Nat} (hl:RLen r n m) (k:Nat):RLen (layK r L n k) n m:=⟨hl.g,hl.t,rif_len _ _ _ _,rif_len _ _ _ _,hl.right,hl.few⟩
def okL (r:RSt) (L:Spots) (k:Nat):Prop:=Ch.Ok (L[k]!).1 (L[k]!).2.1 (r.Gs[k]!).2
instance (r:RSt) (L:Spots) (k:Nat):Decidable (okL r L k):=by unfold okL;infer_instance
def layRC (r:RSt) (n m:Nat) (L:Spots):Int:=if L.length=n∧(L[0]!).1=0∧(L[0]!).2.1=0 then (if ∀ k,k<n→okL r L k then (if m=0 then 0 else 4) else 2) else 2
def layRS (r:RSt) (n m:Nat) (L:Spots):RSt:=if layRC r n m L=0 then layK r L n n else r
theorem ROwn.neAF {base:Nat} {w:World} {bg:Nat} {at':Option Addr} {ba bf cg ct ca cf n m:Nat} {r:RSt} (h:ROwn base w bg at' ba bf cg ct ca cf n m r):ba≠bf:=by
 rcases own_apart h.a h.f (by decide) with q | q
 ·simp [Value.ownBlock] at q
 ·simpa [Value.ownBlock] using q
set_option maxRecDepth 100000 in
set_option maxHeartbeats 4000000 in
theorem tLay_at (r:RSt) (n m:Nat) (hl:ROk r n m) (v:Value) (L:Spots) (hf:FitS L) (a:RAd) (w:World) (hin:RIn w a.ag a.at' a.aa a.af a.cg a.ct a.ca a.cf n m r) (hv:RecsAt encS w v L) :
  Calls Tryz.prog 67 #[.agg #[.slice a.ag n a.cg,.int .u64 r.cr,.slice a.at' m a.ct,.slice a.aa n a.ca,.slice a.af n a.cf],v] w (ResP w a r n m (layRS r n m L) (tup2 (layRC r n m L))):=by
 have HL:=Lib.hid hl
 have HIN:=Lib.hid hin
 have A3:=Lib.hid fun W (q:RIn W a.ag a.at' a.aa a.af a.cg a.ct a.ca a.cf n m r)=>tcopied_at r n m hl.toRLen a.ag a.at' a.aa a.af a.cg a.ct a.ca a.cf W q
 have HF:=Lib.hid (show ∀ W (c:Int),c≠0→layRC r n m L=c→Below w.heap.size w W→ResP w a r n m (layRS r n m L) (tup2 (layRC r n m L)) (.returned (tup2 c (a.val n m r.cr))) W from fun W c hc h hb=>by
  unfold layRS
  rw [h,if_neg hc]
  exact ResP.same (val:=tup2 c) hl.t hb)
 have HE:=Lib.hid (show layRC r n m L=0→layRS r n m L=layK r L n n from fun h=>by unfold layRS;rw [if_pos h])
 have HCD:=Lib.hid (show layRC r n m L=if L.length=n∧(L[0]!).1=0∧(L[0]!).2.1=0 then (if ∀ k,k<n→okL r L k then (if m=0 then 0 else 4) else 2) else 2 from rfl)
 obtain ⟨ag,at',aa,af,cg,ct,ca,cf⟩:=a
 dsimp only at A3 HIN HF ⊢
 obtain ⟨hcg,hct,hca,hcf⟩:=hin.caps
 have hn:=hl.pos
 obtain ⟨al,capl,rfl,hl1,hl2,hl3,hcells⟩:=hv
 have HFS:=Lib.hid hf
 clear hin hl hl3 hf
 obtain ⟨c,hc⟩:∃ c,c=layRC r n m L:=⟨_,rfl⟩
 rw [← hc] at HF HE HCD ⊢
 clear hc
 by_cases hlen:L.length=n
 ·obtain ⟨b,off,rfl,hcl⟩:∃ b off,al=some ⟨b,off,none⟩∧∀ j u,(flatR encS L)[j]?=some u→w.cell? ⟨b,off+j,none⟩=some u:=by
   rcases hcells with q | q
   ·rw [q] at hlen;simp at hlen;omega
   ·exact q
  obtain ⟨x0,x1,_⟩:=spot_cells hcl (k:=0) (by omega)
  rw [Nat.zero_mul,Nat.add_zero] at x0 x1
  have HC:=Lib.hid hcl
  have HLN:=Lib.hid hlen
  have hf0:=HFS.out (L[0]!) (by rw [getElem!_pos L 0 (by omega)];exact List.getElem_mem (by omega))
  have hlb:b<w.heap.size:=lt_of_cell x0
  rw [hlen] at hl1 ⊢
  have hn0:=hn.1
  have hni:(0:Int)<(n:Int):=by omega
  have hnz:((n:Int) != (n:Int))=false:=by simp
  clear hcells hcl hlen
  obtain ⟨v0,hv0⟩:∃ x,x=(L[0]!).1:=⟨_,rfl⟩
  obtain ⟨r0v,hr0⟩:∃ x,x=(L[0]!).2.1:=⟨_,rfl⟩
  rw [← hv0] at x0 hf0 HCD
  rw [← hr0] at x1 hf0 HCD
  clear hv0 hr0
  by_cases h1:v0=0
  ·have z1:decide (v0 > 0)=false:=decide_eq_false (by omega)
   have z1':decide (0<v0)=false:=decide_eq_false (by omega)
   by_cases h2:r0v=0
   ·have z2:decide (r0v > 0)=false:=decide_eq_false (by omega)
    have z2':decide (0<r0v)=false:=decide_eq_false (by omega)
    have HCE:=Lib.hid (show c=if ∀ k,k<n→okL r L k then (if m=0 then 0 else 4) else 2 by rw [HCD.out,if_pos ⟨HLN.out,h1,h2⟩])
    clear HCD h1 h2 hf0
    obtain ⟨W0,hW0⟩:∃ W0,W0=((w.alloc (.cells #[.slice ag n cg,.int .u64 r.cr,.slice at' m ct,.slice aa n ca,.slice af n cf] 74)).alloc (.cells #[.slice none 0 0,.int .u64 0,.slice none 0 0,.slice none 0 0,.slice none 0 0] 74)):=⟨_,rfl⟩
    have HB0:=Lib.hid (show Below w.heap.size w W0 by rw [hW0];exact (Below.allocS (Below.allocS (Below.refl _ _) _) _))
    obtain ⟨c0,fc0,c1,fc1,c2,fc2,c3,fc3,c4,fc4⟩:=uc5 (show CellsF W0 (w.heap.size) [.slice ag n cg,.int .u64 r.cr,.slice at' m ct,.slice aa n ca,.slice af n cf] by rw [hW0];exact (CellsF.new (by simp)).later (below_a _ _))
    obtain ⟨r0,fr0,r1,fr1,r2,fr2,r3,fr3,r4,fr4⟩:=uc5 (show CellsF W0 (w.heap.size+1) [.slice none 0 0,.int .u64 0,.slice none 0 0,.slice none 0 0,.slice none 0 0] by rw [hW0];exact CellsF.new (by simp))
    have HSZ:=Lib.hid (show W0.heap.size=w.heap.size+1+1 by rw [hW0];simp)
    have HW0:=Lib.hid hW0
    clear hW0
    go_enter Tryz.func67,Tryz.ntmps67
    go_upto_region 1 with fail
    rw [← HW0.out]
    generalize hbx:w.heap.size=bx at c0 c1 c2 c3 c4 r0 r1 r2 r3 r4 fc0 fc1 fc2 fc3 fc4 fr0 fr1 fr2 fr3 fr4 HSZ  ⊢
    have HBX:=Lib.hid hbx
    clear hbx HW0
    have hle:w.heap.size≤bx+1:=by have:=HBX.out;omega
    replace x0:=cell_later HB0.out x0
    replace x1:=cell_later HB0.out x1
    go_wp2_with fail
    clear x0 x1 z1 z1' z2 z2'
    go_loopw [6] (fun i wr=>∃ k:Nat,k≤n∧i=.int .i64 k∧Below W0.heap.size W0 wr∧Hid (∀ j,j<k→okL r L j)) (fun i _=>n - (intOf i).toNat)
    case atStart=>exact ⟨0,Nat.zero_le _,rfl,Below.refl _ _,Lib.hid fun j hj=>by omega⟩
    case round =>
     obtain ⟨k,hk,rfl,hb,hok⟩:=hrel
     have HB:=Lib.hid (Below.step HB0.out hb)
     have q:=uc5 ((pc5 c0 fc0 c1 fc1 c2 fc2 c3 fc3 c4 fc4).later hb)
     clear c0 fc0 c1 fc1 c2 fc2 c3 fc3 c4 fc4
     obtain ⟨c0,fc0,c1,fc1,c2,fc2,c3,fc3,c4,fc4⟩:=q
     have q:=uc5 ((pc5 r0 fr0 r1 fr1 r2 fr2 r3 fr3 r4 fr4).later hb)
     clear r0 fr0 r1 fr1 r2 fr2 r3 fr3 r4 fr4
     obtain ⟨r0,fr0,r1,fr1,r2,fr2,r3,fr3,r4,fr4⟩:=q
     have HBR:=Lib.hid hb
     clear hb
     by_cases hlt:k<n
     ·have hki:(k:Int)<(n:Int):=by omega
      have hk0:(0:Int)≤(k:Int):=by omega
      have zl:decide ((k:Int)<(n:Int))=true:=decide_eq_true hki
      have zl':decide (k<n)=true:=decide_eq_true hlt
      obtain ⟨y0,y1,_⟩:=spot_cells HC.out (k:=k) (by rw [HLN.out];exact hlt)
      have hfx:=HFS.out (L[k]!) (by rw [getElem!_pos L k (by rw [HLN.out];exact hlt)];exact List.getElem_mem _)
      replace y0:=cell_later HB.out y0
      replace y1:=cell_later HB.out y1
      obtain ⟨bg,og,hag,_,gw⟩:=(HIN.out.later HB.out).grp HL.out.toRLen hlt
      have hgk:=HL.out.right.wt (k:=k) (by rw [HL.out.g];exact hlt)
      have HOKk:=Lib.hid (show Ch.okB (L[k]!).1 (L[k]!).2.1 (r.Gs[k]!).2=decide (okL r L k) from rfl)
      cases hag
      obtain ⟨vv,hvv⟩:∃ x,x=(L[k]!).1:=⟨_,rfl⟩
      obtain ⟨rr,hrr⟩:∃ x,x=(L[k]!).2.1:=⟨_,rfl⟩
      obtain ⟨ww,hww⟩:∃ x,x=(r.Gs[k]!).2:=⟨_,rfl⟩
      rw [← hvv] at y0 hfx HOKk
      rw [← hrr] at y1 hfx HOKk
      rw [← hww] at gw hgk HOKk
      have zw:IntKind.u32.wrap ww=ww:=IntWalk.u32_in _ (by omega)
      have A2:=Lib.hid fun W=>rRight_any vv rr ww W (by unfold Ch.Fits;omega)
      have HLTk:=Lib.hid hlt
      clear hvv hrr hww hfx hgk
      go_wp2_with fail
      refine startA (S:=fun w'=>Below wr.heap.size wr w'∧w'.cell? ⟨b,off+k*3,none⟩=some (.int .u64 vv)∧w'.cell? ⟨b,off+k*3+1,none⟩=some (.int .u32 rr)∧w'.cell? ⟨bx,0,none⟩=some (.slice (some ⟨bg,og,none⟩) n cg)∧w'.cell? ⟨bg,og+k*2+1,none⟩=some (.int .i64 ww)) ⟨Below.refl _ _,y0,y1,c0,gw⟩ (held_4 (below_dr _)) (fun hS0 hHeld=>?_)
      refine takeA 0 ?_
      refine takeA 1 ?_
      refine takeA 2 ?_
      refine takeA 3 ?_
      refine takeA 4 ?_
      refine takeA 5 ?_
      refine takeA 6 ?_
      refine takeA 7 ?_
      refine takeA 8 ?_
      refine takeA 9 ?_
      refine takeA 10 ?_
      refine takeA 11 ?_
      refine takeA 12 ?_
      refine takeA 13 ?_
      refine takeA 14 ?_
      refine takeA 15 ?_
      refine takeA 16 ?_
      refine takeA 17 ?_
      refine readyA [18] (consA (fun K hK=>?_) .nil)
      go_simp
      refine (A2.out _).mono ?_
      rintro e w9 ⟨rfl,hb9⟩
      have hdbg:=held_4 hb9 hHeld
      have HB9:=Lib.hid (Below.step (Below.refl wr.heap.size wr).drew hb9)
      go_wp2_with fail
      refine outA hK kp_4 (fun hHeld18=>?_)
      clear hK K
      refine takeA 19 ?_
      refine doneA ?_
      skip
      clear hS0
      rw [HOKk.out]
      by_cases ho:okL r L k
      ·rw [decide_eq_true ho]
       have HO:=Lib.hid ho
       have HBZ:=Lib.hid (Below.step HBR.out HB9.out)
       clear ho
       go_wp2_with fail
       go_roundw
       case rel=>exact ⟨k+1,by omega,by go_num,HBZ.out,Lib.hid fun j hj=>by
        by_cases e:j=k
        ·subst e;exact HO.out
        ·exact hok.out j (by omega)⟩
       case measure=>simp [intOf];omega
      ·rw [decide_eq_false ho]
       have HC0:=Lib.hid (show c=2 by rw [HCE.out,if_neg (fun q=>ho (q k HLTk.out))])
       have HBZ:=Lib.hid (Below.step HB.out HB9.out)
       have q:=uc5 ((pc5 c0 fc0 c1 fc1 c2 fc2 c3 fc3 c4 fc4).later HB9.out)
       clear c0 fc0 c1 fc1 c2 fc2 c3 fc3 c4 fc4
       obtain ⟨c0,fc0,c1,fc1,c2,fc2,c3,fc3,c4,fc4⟩:=q
       have q:=uc5 ((pc5 r0 fr0 r1 fr1 r2 fr2 r3 fr3 r4 fr4).later HB9.out)
       clear r0 fr0 r1 fr1 r2 fr2 r3 fr3 r4 fr4
       obtain ⟨r0,fr0,r1,fr1,r2,fr2,r3,fr3,r4,fr4⟩:=q
       clear ho
       go_wp2_with fail
       refine bodyPost_ret (v:=.tuple #[.agg #[.slice (some ⟨bg,og,none⟩) n cg,.int .u64 r.cr,.slice at' m ct,.slice aa n ca,.slice af n cf],.int .i64 2]) (by simp [results,Tryz.results67,go_sem, *]) rfl ?_
       exact HF.out _ _ (by decide) HC0.out ((((((HBZ.out).setCell hle _).setCell hle _).setCell hle _).setCell hle _).setCell hle _)
     ·obtain ⟨w5,rfl⟩:∃ x:World,x=wr:=⟨_,rfl⟩
      have hkn:k=n:=by omega
      have l1:decide ((k:Int)<(n:Int))=false:=decide_eq_false (by omega)
      have l2:decide (k<n)=false:=decide_eq_false hlt
      have l3:¬ (k:Int)<(n:Int):=by omega
      have HOK:=Lib.hid (show ∀ j,j<n→okL r L j from fun j hj=>hok.out j (by omega))
      by_cases hm0:m=0
      ·have HC0:=Lib.hid (show c=0 by rw [HCE.out,if_pos HOK.out,if_pos hm0])
       have HE2:=Lib.hid (HE.out HC0.out)
       have z8:decide ((m:Int) > 0)=false:=decide_eq_false (by omega)
       have z8':decide (0<m)=false:=decide_eq_false (by omega)
       have z8q:¬ (0:Int)<(m:Int):=by omega
       have z8r:¬ 0<m:=by omega
       clear hm0 hkn hk hlt HE HF
       go_wp2_with fail
       clear l1 l2 l3 z8 z8' z8q z8r
       have HLW:=Lib.hid (show bx+1<w5.heap.size from lt_of_cell r0)
       have hleb:w.heap.size≤bx:=Nat.le_of_eq HBX.out
       refine (A3.out w5 (HIN.out.later HB.out)).mono ?_;rintro e wq1 ⟨bg,a1,ba,bf,dg,dt,da,df,rfl,hO,hb1⟩
       have hbb:=hb1
       have q:=uc5 ((pc5 c0 fc0 c1 fc1 c2 fc2 c3 fc3 c4 fc4).later hb1)
       clear c0 fc0 c1 fc1 c2 fc2 c3 fc3 c4 fc4
       obtain ⟨c0,fc0,c1,fc1,c2,fc2,c3,fc3,c4,fc4⟩:=q
       have q:=uc5 ((pc5 r0 fr0 r1 fr1 r2 fr2 r3 fr3 r4 fr4).later hb1)
       clear r0 fr0 r1 fr1 r2 fr2 r3 fr3 r4 fr4
       obtain ⟨r0,fr0,r1,fr1,r2,fr2,r3,fr3,r4,fr4⟩:=q
       have Qc:=Lib.hid (cs5 (.slice (some ⟨bg,0,none⟩) n dg) (.int .u64 r.cr) (.slice a1 m dt) (.slice (some ⟨ba,0,none⟩) n da) (.slice (some ⟨bf,0,none⟩) n df) (pc5 c0 fc0 c1 fc1 c2 fc2 c3 fc3 c4 fc4))
       have Qr:=Lib.hid (co5 (b:=bx) (.slice (some ⟨bg,0,none⟩) n dg) (.int .u64 r.cr) (.slice a1 m dt) (.slice (some ⟨ba,0,none⟩) n da) (.slice (some ⟨bf,0,none⟩) n df) (pc5 r0 fr0 r1 fr1 r2 fr2 r3 fr3 r4 fr4) (by first | (simp;done) | (simp;omega) | omega))
       have hlow:bx<w5.heap.size:=by have:=HLW.out;omega
       have HO1:=Lib.hid (show ROwn w5.heap.size (((((wq1.setCell ⟨bx,0,none⟩ (.slice (some ⟨bg,0,none⟩) n dg)).setCell ⟨bx,1,none⟩ (.int .u64 r.cr)).setCell ⟨bx,2,none⟩ (.slice a1 m dt)).setCell ⟨bx,3,none⟩ (.slice (some ⟨ba,0,none⟩) n da)).setCell ⟨bx,4,none⟩ (.slice (some ⟨bf,0,none⟩) n df)) bg a1 ba bf dg dt da df n m r from ((((hO.low (a:=⟨bx,0,none⟩) hlow _).low (a:=⟨bx,1,none⟩) hlow _).low (a:=⟨bx,2,none⟩) hlow _).low (a:=⟨bx,3,none⟩) hlow _).low (a:=⟨bx,4,none⟩) hlow _)
       have HB1:=Lib.hid (show Below w.heap.size w (((((wq1.setCell ⟨bx,0,none⟩ (.slice (some ⟨bg,0,none⟩) n dg)).setCell ⟨bx,1,none⟩ (.int .u64 r.cr)).setCell ⟨bx,2,none⟩ (.slice a1 m dt)).setCell ⟨bx,3,none⟩ (.slice (some ⟨ba,0,none⟩) n da)).setCell ⟨bx,4,none⟩ (.slice (some ⟨bf,0,none⟩) n df)) from ((((((Below.step HB.out hbb).setCell hleb _).setCell hleb _).setCell hleb _).setCell hleb _).setCell hleb _))
       have HS1:=Lib.hid (show w5.heap.size≤(((((wq1.setCell ⟨bx,0,none⟩ (.slice (some ⟨bg,0,none⟩) n dg)).setCell ⟨bx,1,none⟩ (.int .u64 r.cr)).setCell ⟨bx,2,none⟩ (.slice a1 m dt)).setCell ⟨bx,3,none⟩ (.slice (some ⟨ba,0,none⟩) n da)).setCell ⟨bx,4,none⟩ (.slice (some ⟨bf,0,none⟩) n df)).heap.size by simp only [World.size_setCell];exact hbb.size)
       clear hO hb1 hbb hlow
       go_upto_region 11 with fail
       clear c0 fc0 c1 fc1 c2 fc2 c3 fc3 c4 fc4 r0 fr0 r1 fr1 r2 fr2 r3 fr3 r4 fr4
       generalize hW:(((((wq1.setCell ⟨bx,0,none⟩ (.slice (some ⟨bg,0,none⟩) n dg)).setCell ⟨bx,1,none⟩ (.int .u64 r.cr)).setCell ⟨bx,2,none⟩ (.slice a1 m dt)).setCell ⟨bx,3,none⟩ (.slice (some ⟨ba,0,none⟩) n da)).setCell ⟨bx,4,none⟩ (.slice (some ⟨bf,0,none⟩) n df))=W1 at *
       clear hW
       obtain ⟨c0,fc0,c1,fc1,c2,fc2,c3,fc3,c4,fc4⟩:=uc5 Qc.out
       obtain ⟨r0,fr0,r1,fr1,r2,fr2,r3,fr3,r4,fr4⟩:=uc5 Qr.out
       clear Qc Qr
       have hgb:=HO1.out.ge
       have hbl:=HLW.out
       have hBs:=HB.out.size
       have nab:bx∉[ba,bf]∧bx+1∉[ba,bf]:=by simp;omega
       have hnb:b∉[ba,bf]:=by simp;omega
       have naf:=HO1.out.neAF
       go_wp2_with fail
       go_loopw [7] (fun i wx=>∃ j:Nat,j≤n∧i=.int .i64 j∧ROwn w5.heap.size wx bg a1 ba bf dg dt da df n m (layK r L n j)∧Kept [ba,bf] W1 wx) (fun i _=>n - (intOf i).toNat)
       case atStart=>exact ⟨0,Nat.zero_le _,rfl,by rw [layK_zero HL.out.toRLen];exact HO1.out,Kept.refl _ _⟩
       case round =>
        obtain ⟨j,hj,rfl,hO,hK⟩:=hrel
        replace fc0:=(hK).frz fc0 (lt_of_cell c0) nab.1
        replace c0:=(hK).cellAt c0 nab.1
        replace fc1:=(hK).frz fc1 (lt_of_cell c1) nab.1
        replace c1:=(hK).cellAt c1 nab.1
        replace fc2:=(hK).frz fc2 (lt_of_cell c2) nab.1
        replace c2:=(hK).cellAt c2 nab.1
        replace fc3:=(hK).frz fc3 (lt_of_cell c3) nab.1
        replace c3:=(hK).cellAt c3 nab.1
        replace fc4:=(hK).frz fc4 (lt_of_cell c4) nab.1
        replace c4:=(hK).cellAt c4 nab.1
        replace fr0:=(hK).frz fr0 (lt_of_cell r0) nab.2
        replace r0:=(hK).cellAt r0 nab.2
        replace fr1:=(hK).frz fr1 (lt_of_cell r1) nab.2
        replace r1:=(hK).cellAt r1 nab.2
        replace fr2:=(hK).frz fr2 (lt_of_cell r2) nab.2
        replace r2:=(hK).cellAt r2 nab.2
        replace fr3:=(hK).frz fr3 (lt_of_cell r3) nab.2
        replace r3:=(hK).cellAt r3 nab.2
        replace fr4:=(hK).frz fr4 (lt_of_cell r4) nab.2
        replace r4:=(hK).cellAt r4 nab.2
        have HK:=Lib.hid hK
        have HLK:=Lib.hid (layK_len (L:=L) HL.out.toRLen j)
        have HO:=Lib.hid hO
        by_cases hlt:j<n
        ·have hji:(j:Int)<(n:Int):=by omega
         have hj0:(0:Int)≤(j:Int):=by omega
         have zl:decide ((j:Int)<(n:Int))=true:=decide_eq_true hji
         have zl':decide (j<n)=true:=decide_eq_true hlt
         obtain ⟨y0,y1,y2⟩:=spot_cells HC.out (k:=j) (by rw [HLN.out];exact hlt)
         have hgk:=HL.out.right.wt (k:=j) (by rw [HL.out.g];exact hlt)
         replace y0:=hK.cellAt (cell_later HB1.out y0) hnb
         replace y1:=hK.cellAt (cell_later HB1.out y1) hnb
         replace y2:=hK.cellAt (cell_later HB1.out y2) hnb
         obtain ⟨b1,o1,haa,u0,u1,u2⟩:=(hO.rin HLK.out).spot HLK.out hlt
         cases haa
         rw [Nat.zero_add] at u0 u1 u2
         obtain ⟨b0,o0,hag,-,gw⟩:=(hO.rin HLK.out).grp HLK.out hlt
         cases hag
         rw [Nat.zero_add] at gw
         obtain ⟨b2,o2,haf,uf⟩:=(hO.rin HLK.out).floor HLK.out hlt
         cases haf
         rw [Nat.zero_add] at uf
         have z6:=hO.a.frozenAt (j*3)
         have z7:=hO.a.frozenAt (j*3+1)
         have z8:=hO.a.frozenAt (j*3+2)
         have zf:=hO.f.frozenAt j
         have HSU:=Lib.hid (layK_succ (r:=r) (L:=L) hlt)
         have hspx:spX r L j=((L[j]!).1,(L[j]!).2.1,(r.Gs[j]!).2):=rfl
         rw [hspx] at HSU
         replace gw:wr.cell? ⟨bg,j*2+1,none⟩=some (.int .i64 (r.Gs[j]!).2):=gw
         obtain ⟨vv,hvv⟩:∃ x,x=(L[j]!).1:=⟨_,rfl⟩
         obtain ⟨rr,hrr⟩:∃ x,x=(L[j]!).2.1:=⟨_,rfl⟩
         obtain ⟨ff,hff⟩:∃ x,x=(L[j]!).2.2:=⟨_,rfl⟩
         obtain ⟨ww,hww⟩:∃ x,x=(r.Gs[j]!).2:=⟨_,rfl⟩
         rw [← hvv,← hrr,← hff,← hww] at HSU
         rw [← hvv] at y0
         rw [← hrr] at y1
         rw [← hff] at y2
         rw [← hww] at gw hgk
         have zw:IntKind.u32.wrap ww=ww:=IntWalk.u32_in _ (by omega)
         generalize ((layK r L n j).A[j]!).1=e0 at u0
         generalize ((layK r L n j).A[j]!).2.1=e1 at u1
         generalize ((layK r L n j).A[j]!).2.2=e2 at u2
         generalize (layK r L n j).fl[j]! = e3 at uf
         clear hvv hrr hff hww hspx hgk hO hK
         go_wp2_with fail
         go_region
         have hk:Kept [ba] wr ((((wr.setCell ⟨ba,j*3,none⟩ (.int .u64 vv)).setCell ⟨ba,j*3+1,none⟩ (.int .u32 rr)).setCell ⟨ba,j*3+2,none⟩ (.int .u32 ww)).drew):=((((Kept.refl [ba] wr).setCell (p:=⟨ba,j*3,none⟩) (Or.inl (by simp)) _).setCell (p:=⟨ba,j*3+1,none⟩) (Or.inl (by simp)) _).setCell (p:=⟨ba,j*3+2,none⟩) (Or.inl (by simp)) _).drew
         have HO2:=Lib.hid (show ROwn w5.heap.size ((((wr.setCell ⟨ba,j*3,none⟩ (.int .u64 vv)).setCell ⟨ba,j*3+1,none⟩ (.int .u32 rr)).setCell ⟨ba,j*3+2,none⟩ (.int .u32 ww)).drew) bg a1 ba bf dg dt da df n m { layK r L n j with A:=(layK r L n j).A.set j (vv,rr,ww) } from (HO.out.setA HLK.out hlt (vv,rr,ww)).later (Below.refl _ _).drew)
         have na:bx∉[ba]∧bx+1∉[ba]:=by simp at nab ⊢;omega
         have nb1:b∉[ba]:=by simp at hnb ⊢;omega
         have nf1:bf∉[ba]:=by simp;omega
         replace y2:=hk.cellAt y2 nb1
         replace zf:=hk.frz zf (lt_of_cell uf) nf1
         replace uf:=hk.cellAt uf nf1
         have HKa:=Lib.hid (HK.out.trans (hk.mono (fun b hb=>by simp at hb;simp [hb])))
         replace fc0:=hk.frz fc0 (lt_of_cell c0) na.1
         replace c0:=hk.cellAt c0 na.1
         replace fc1:=hk.frz fc1 (lt_of_cell c1) na.1
         replace c1:=hk.cellAt c1 na.1
         replace fc2:=hk.frz fc2 (lt_of_cell c2) na.1
         replace c2:=hk.cellAt c2 na.1
         replace fc3:=hk.frz fc3 (lt_of_cell c3) na.1
         replace c3:=hk.cellAt c3 na.1
         replace fc4:=hk.frz fc4 (lt_of_cell c4) na.1
         replace c4:=hk.cellAt c4 na.1
         replace fr0:=hk.frz fr0 (lt_of_cell r0) na.2
         replace r0:=hk.cellAt r0 na.2
         replace fr1:=hk.frz fr1 (lt_of_cell r1) na.2
         replace r1:=hk.cellAt r1 na.2
         replace fr2:=hk.frz fr2 (lt_of_cell r2) na.2
         replace r2:=hk.cellAt r2 na.2
         replace fr3:=hk.frz fr3 (lt_of_cell r3) na.2
         replace r3:=hk.cellAt r3 na.2
         replace fr4:=hk.frz fr4 (lt_of_cell r4) na.2
         replace r4:=hk.cellAt r4 na.2
         generalize ((((wr.setCell ⟨ba,j*3,none⟩ (.int .u64 vv)).setCell ⟨ba,j*3+1,none⟩ (.int .u32 rr)).setCell ⟨ba,j*3+2,none⟩ (.int .u32 ww)).drew)=W2 at *
         clear hk na nb1 nf1 y0 y1 u0 u1 u2 z6 z7 z8 gw
         go_wp2_with fail
         go_region
         have HL2:=Lib.hid (show RLen { layK r L n j with A:=(layK r L n j).A.set j (vv,rr,ww) } n m from ⟨HLK.out.g,HLK.out.t,by rw [List.length_set];exact HLK.out.a,HLK.out.f,HLK.out.right,HLK.out.few⟩)
         have HO3:=Lib.hid (show ROwn w5.heap.size ((W2.setCell ⟨bf,j,none⟩ (.int .u64 ff)).drew) bg a1 ba bf dg dt da df n m (layK r L n (j+1)) by rw [HSU.out];exact (HO2.out.setF HL2.out hlt ff).later (Below.refl _ _).drew)
         have HK3:=Lib.hid (show Kept [ba,bf] W1 ((W2.setCell ⟨bf,j,none⟩ (.int .u64 ff)).drew) from HKa.out.trans (((Kept.refl [ba,bf] W2).setCell (p:=⟨bf,j,none⟩) (Or.inl (by simp)) _).drew))
         go_wp2_with fail
         go_roundw
         case rel=>exact ⟨j+1,by omega,by go_num,HO3.out,HK3.out⟩
         case measure=>simp [intOf];omega
        ·have HJN:=Lib.hid (show j=n by omega)
         have l1:decide ((j:Int)<(n:Int))=false:=decide_eq_false (by omega)
         have l2:decide (j<n)=false:=decide_eq_false hlt
         have l3:¬ (j:Int)<(n:Int):=by omega
         have HBZ:=Lib.hid (show Below w.heap.size w wr from HB1.out.trans (hK.below (fun q hq=>by simp at hq;omega) HB1.out.size))
         clear hO hK hj hlt
         go_wp2_with fail
         refine bodyPost_ret (v:=.tuple #[.agg #[.slice (some ⟨bg,0,none⟩) n dg,.int .u64 r.cr,.slice a1 m dt,.slice (some ⟨ba,0,none⟩) n da,.slice (some ⟨bf,0,none⟩) n df],.int .i64 0]) (by simp [results,Tryz.results67,go_sem, *]) rfl ?_
         rw [HE2.out,HC0.out]
         have hlow:bx+1<w5.heap.size:=HLW.out
         have hO:=HO.out
         rw [HJN.out] at hO
         exact ResP.own (val:=tup2 0) (ROwn.toBase (((((hO.low (a:=⟨bx+1,0,none⟩) hlow _).low (a:=⟨bx+1,1,none⟩) hlow _).low (a:=⟨bx+1,2,none⟩) hlow _).low (a:=⟨bx+1,3,none⟩) hlow _).low (a:=⟨bx+1,4,none⟩) hlow _) HB.out.size) (layK_len HL.out.toRLen n) (((((HBZ.out.setCell hle _).setCell hle _).setCell hle _).setCell hle _).setCell hle _)
      ·have HC0:=Lib.hid (show c=4 by rw [HCE.out,if_pos HOK.out,if_neg hm0])
       have z8:decide ((m:Int) > 0)=true:=decide_eq_true (by omega)
       have z8':decide (0<m)=true:=decide_eq_true (by omega)
       have z8q:(0:Int)<(m:Int):=by omega
       have z8r:0<m:=by omega
       clear hm0 hkn hk hlt
       go_wp2_with fail
       refine bodyPost_ret (v:=.tuple #[.agg #[.slice ag n cg,.int .u64 r.cr,.slice at' m ct,.slice aa n ca,.slice af n cf],.int .i64 4]) (by simp [results,Tryz.results67,go_sem, *]) rfl ?_
       exact HF.out _ _ (by decide) HC0.out ((((((HB.out).setCell hle _).setCell hle _).setCell hle _).setCell hle _).setCell hle _)
   ·have HC0:=Lib.hid (show c=2 by rw [HCD.out,if_neg (fun q=>h2 q.2.2)])
    have z2:decide (r0v > 0)=true:=decide_eq_true (by omega)
    have z2':decide (0<r0v)=true:=decide_eq_true (by omega)
    clear h1 h2 hf0
    obtain ⟨W0,hW0⟩:∃ W0,W0=((w.alloc (.cells #[.slice ag n cg,.int .u64 r.cr,.slice at' m ct,.slice aa n ca,.slice af n cf] 74)).alloc (.cells #[.slice none 0 0,.int .u64 0,.slice none 0 0,.slice none 0 0,.slice none 0 0] 74)):=⟨_,rfl⟩
    have HB0:=Lib.hid (show Below w.heap.size w W0 by rw [hW0];exact (Below.allocS (Below.allocS (Below.refl _ _) _) _))
    obtain ⟨c0,fc0,c1,fc1,c2,fc2,c3,fc3,c4,fc4⟩:=uc5 (show CellsF W0 (w.heap.size) [.slice ag n cg,.int .u64 r.cr,.slice at' m ct,.slice aa n ca,.slice af n cf] by rw [hW0];exact (CellsF.new (by simp)).later (below_a _ _))
    obtain ⟨r0,fr0,r1,fr1,r2,fr2,r3,fr3,r4,fr4⟩:=uc5 (show CellsF W0 (w.heap.size+1) [.slice none 0 0,.int .u64 0,.slice none 0 0,.slice none 0 0,.slice none 0 0] by rw [hW0];exact CellsF.new (by simp))
    have HSZ:=Lib.hid (show W0.heap.size=w.heap.size+1+1 by rw [hW0];simp)
    have HW0:=Lib.hid hW0
    clear hW0
    go_enter Tryz.func67,Tryz.ntmps67
    go_upto_region 1 with fail
    rw [← HW0.out]
    generalize hbx:w.heap.size=bx at c0 c1 c2 c3 c4 r0 r1 r2 r3 r4 fc0 fc1 fc2 fc3 fc4 fr0 fr1 fr2 fr3 fr4 HSZ  ⊢
    have HBX:=Lib.hid hbx
    clear hbx HW0
    have hle:w.heap.size≤bx+1:=by have:=HBX.out;omega
    replace x0:=cell_later HB0.out x0
    replace x1:=cell_later HB0.out x1
    go_wp2_with fail
    refine bodyPost_ret (v:=.tuple #[.agg #[.slice ag n cg,.int .u64 r.cr,.slice at' m ct,.slice aa n ca,.slice af n cf],.int .i64 2]) (by simp [results,Tryz.results67,go_sem, *]) rfl ?_
    exact HF.out _ _ (by decide) HC0.out ((((((HB0.out).setCell hle _).setCell hle _).setCell hle _).setCell hle _).setCell hle _)
  ·have HC0:=Lib.hid (show c=2 by rw [HCD.out,if_neg (fun q=>h1 q.2.1)])
   have z1:decide (v0 > 0)=true:=decide_eq_true (by omega)
   have z1':decide (0<v0)=true:=decide_eq_true (by omega)
   clear h1 hf0
   obtain ⟨W0,hW0⟩:∃ W0,W0=((w.alloc (.cells #[.slice ag n cg,.int .u64 r.cr,.slice at' m ct,.slice aa n ca,.slice af n cf] 74)).alloc (.cells #[.slice none 0 0,.int .u64 0,.slice none 0 0,.slice none 0 0,.slice none 0 0] 74)):=⟨_,rfl⟩
   have HB0:=Lib.hid (show Below w.heap.size w W0 by rw [hW0];exact (Below.allocS (Below.allocS (Below.refl _ _) _) _))
   obtain ⟨c0,fc0,c1,fc1,c2,fc2,c3,fc3,c4,fc4⟩:=uc5 (show CellsF W0 (w.heap.size) [.slice ag n cg,.int .u64 r.cr,.slice at' m ct,.slice aa n ca,.slice af n cf] by rw [hW0];exact (CellsF.new (by simp)).later (below_a _ _))
   obtain ⟨r0,fr0,r1,fr1,r2,fr2,r3,fr3,r4,fr4⟩:=uc5 (show CellsF W0 (w.heap.size+1) [.slice none 0 0,.int .u64 0,.slice none 0 0,.slice none 0 0,.slice none 0 0] by rw [hW0];exact CellsF.new (by simp))
   have HSZ:=Lib.hid (show W0.heap.size=w.heap.size+1+1 by rw [hW0];simp)
   have HW0:=Lib.hid hW0
   clear hW0
   go_enter Tryz.func67,Tryz.ntmps67
   go_upto_region 1 with fail
   rw [← HW0.out]
   generalize hbx:w.heap.size=bx at c0 c1 c2 c3 c4 r0 r1 r2 r3 r4 fc0 fc1 fc2 fc3 fc4 fr0 fr1 fr2 fr3 fr4 HSZ  ⊢
   have HBX:=Lib.hid hbx
   clear hbx HW0
   have hle:w.heap.size≤bx+1:=by have:=HBX.out;omega
   replace x0:=cell_later HB0.out x0
   replace x1:=cell_later HB0.out x1
   go_wp2_with fail
   refine bodyPost_ret (v:=.tuple #[.agg #[.slice ag n cg,.int .u64 r.cr,.slice at' m ct,.slice aa n ca,.slice af n cf],.int .i64 2]) (by simp [results,Tryz.results67,go_sem, *]) rfl ?_
   exact HF.out _ _ (by decide) HC0.out ((((((HB0.out).setCell hle _).setCell hle _).setCell hle _).setCell hle _).setCell hle _)
 ·have HC0:=Lib.hid (show c=2 by rw [HCD.out,if_neg (fun q=>hlen q.1)])
  have z1:((L.length:Int) != (n:Int))=true:=by simp;omega
  have z1':¬ (L.length:Int)=(n:Int):=by omega
  clear hcells
  obtain ⟨W0,hW0⟩:∃ W0,W0=((w.alloc (.cells #[.slice ag n cg,.int .u64 r.cr,.slice at' m ct,.slice aa n ca,.slice af n cf] 74)).alloc (.cells #[.slice none 0 0,.int .u64 0,.slice none 0 0,.slice none 0 0,.slice none 0 0] 74)):=⟨_,rfl⟩
  have HB0:=Lib.hid (show Below w.heap.size w W0 by rw [hW0];exact (Below.allocS (Below.allocS (Below.refl _ _) _) _))
  obtain ⟨c0,fc0,c1,fc1,c2,fc2,c3,fc3,c4,fc4⟩:=uc5 (show CellsF W0 (w.heap.size) [.slice ag n cg,.int .u64 r.cr,.slice at' m ct,.slice aa n ca,.slice af n cf] by rw [hW0];exact (CellsF.new (by simp)).later (below_a _ _))
  obtain ⟨r0,fr0,r1,fr1,r2,fr2,r3,fr3,r4,fr4⟩:=uc5 (show CellsF W0 (w.heap.size+1) [.slice none 0 0,.int .u64 0,.slice none 0 0,.slice none 0 0,.slice none 0 0] by rw [hW0];exact CellsF.new (by simp))
  have HSZ:=Lib.hid (show W0.heap.size=w.heap.size+1+1 by rw [hW0];simp)
  have HW0:=Lib.hid hW0
  clear hW0
  go_enter Tryz.func67,Tryz.ntmps67
  go_upto_region 1 with fail
  rw [← HW0.out]
  generalize hbx:w.heap.size=bx at c0 c1 c2 c3 c4 r0 r1 r2 r3 r4 fc0 fc1 fc2 fc3 fc4 fr0 fr1 fr2 fr3 fr4 HSZ  ⊢
  have HBX:=Lib.hid hbx
  clear hbx HW0
  have hle:w.heap.size≤bx+1:=by have:=HBX.out;omega
  go_wp2_with fail
  refine bodyPost_ret (v:=.tuple #[.agg #[.slice ag n cg,.int .u64 r.cr,.slice at' m ct,.slice aa n ca,.slice af n cf],.int .i64 2]) (by simp [results,Tryz.results67,go_sem, *]) rfl ?_
  exact HF.out _ _ (by decide) HC0.out ((((((HB0.out).setCell hle _).setCell hle _).setCell hle _).setCell hle _).setCell hle _)
end Go.Proofs.YtfgmglghlapbcaaGreat
