/-
  Layer 30 (model): rise.
-/
import Derived.Test.YtapnaocdehahdaaGreatMdD
namespace Go.Proofs.YtapnaocdehahdaaGreat
open Go.RowKit Go.Maps Go.IntWalk Go.Lib
set_option linter.unusedVariables false
set_option linter.unusedSimpArgs false
theorem mv_at (a b c:Int) (w:World):Calls Tryz.prog 139 #[.agg #[.int .u64 a,.int .u64 b,.int .u64 c]] w fun e w'=>e=.returned (.int .u64 a)∧Below w.heap.size w w':=by
 go_enter Tryz.func139,Tryz.ntmps139
 go_wp2_with fail
 go_ret
 refine ⟨rfl,?_⟩
 repeat (first | exact Below.refl _ _ | refine Below.step ?_ (by assumption) | refine Below.setCell ?_ (by first | (simp;done) | (simp;omega) | omega) _ | refine Below.allocS ?_ _ | refine Below.drew ?_ | refine below_drewN ?_ _)
section
variable {m:MSt}
theorem least_vb (ho:MOk2 m) {g c:Nat} (hg:g<m.n) (hs:(leastM m.sta g c).1=true):0≤(leastM m.sta g c).2 0∧(leastM m.sta g c).2 0≤18446744073709551615:=by
 have hv:=ho.vs
 rcases least_two hv (by rw [sta_len];exact hg) hs with ⟨y,hy,_,e⟩ | ⟨k,_,_,_,_,e⟩
 ·rw [e];exact hv.1 y hy
 ·rw [e];exact hv.2 k c
theorem riseX_ok (ho:MOk2 m) {g k:Nat} (hg:g<m.n) (hk:k<m.C):EntOk ((riseX m g k).1,(riseX m g k).2.1,m.Gs[g]!.2)∧FlOk (riseX m g k).2.2:=by
 have h:=ho.spot g k hg hk
 unfold riseX
 split
 ·rename_i hs
  have:=least_vb ho hg hs
  refine ⟨h.1,?_⟩
  have h2:=h.2
  unfold FlOk at h2 ⊢
  show 0≤max _ _∧max _ _≤_
  omega
 ·exact h
theorem MOk2.riseTo (ho:MOk2 m) (a b:Nat):MOk2 (riseTo m a b):=
 {ho with
  spot:=fun g k hg hk=>by
   show EntOk ((if _ then riseX m g k else m.sp g k).1,(if _ then riseX m g k else m.sp g k).2.1,m.Gs[g]!.2)∧FlOk (if _ then riseX m g k else m.sp g k).2.2
   split
   ·exact riseX_ok ho hg hk
   ·exact ho.spot g k hg hk }
theorem riseTo_skip {a b:Nat} (hs:(leastM m.sta a b).1=false) (g k:Nat):(riseTo m a b).sp g k=(riseTo m a (b+1)).sp g k:=by
 have e:riseX m a b=m.sp a b:=by unfold riseX;rw [if_neg (by rw [hs];decide)]
 rw [← riseTo_next,e,← riseTo_at m a b]
 by_cases q:g=a
 ·subst q
  rw [upd_same]
  by_cases q2:k=b
  ·subst q2;rw [upd_same]
  ·rw [upd_other _ _ q2]
 ·rw [upd_other _ _ q]
end
set_option maxRecDepth 100000 in
set_option maxHeartbeats 2000000 in
theorem mrise_at {w:World} {x:Nat} {L:MLay} {m:MSt} {F:List Nat} (h:MIn w x L m) (ho:MOk2 m) (hF:∀ b,L.lab b≠(0,0)→b∈F):Calls Tryz.prog 85 #[.pointer (some ⟨x,0,none⟩)] w fun e w'=>e=.returned (.tuple #[])∧MIn w' x L (riseM m)∧Kept F w w':=by
 obtain ⟨cs,s1,s2,x6⟩:=h.c6
 have HO:=Lib.hid ho
 have HF:=Lib.hid hF
 have H0:=Lib.hid (show MIn w x L (riseTo m 0 0) by rw [riseTo_zero];exact h)
 have HK0:=Lib.hid (Kept.refl F w)
 have hnb:=ho.pos
 have hcb:=ho.cpus
 obtain ⟨n,hn⟩:∃ n,n=m.n:=⟨_,rfl⟩
 obtain ⟨C,hC⟩:∃ C,C=m.C:=⟨_,rfl⟩
 rw [← hn] at x6 hnb
 rw [← hC] at hcb
 have HN:=Lib.hid hn
 have HC:=Lib.hid hC
 clear h ho hF hn hC s1 s2
 go_enter Tryz.func85,Tryz.ntmps85
 go_wp2_with fail
 go_loopw [13] (fun v wr=>∃ a:Nat,a≤n∧v=.int .i64 a∧Hid (MIn wr x L (riseTo m a 0))∧Hid (Kept F w wr)) (fun v _=>n - (RowKit.intOf v).toNat)
 case atStart=>exact ⟨0,Nat.zero_le _,rfl,H0,HK0⟩
 case round =>
  clear H0 HK0 x6
  obtain ⟨a,ha,rfl,HM,HK⟩:=hrel
  by_cases hlt:a<n
  ·as_aux_lemma =>
   obtain ⟨cr,r1,r2,xr⟩:=HM.out.rows.c a (by rw [HN.out] at hlt;exact hlt)
   replace xr:wr.cell? ⟨L.s,a,none⟩=some (.slice (some ⟨L.r a,0,none⟩) C cr):=by rw [HC.out];exact xr
   have hai:(a:Int)<(n:Int):=by omega
   clear r1 r2
   obtain ⟨wo,rfl⟩:∃ W:World,W=wr:=⟨_,rfl⟩
   go_wp2_with fail
   go_loopw [20] (fun v wr=>∃ b:Nat,b≤C∧v=.int .i64 b∧Hid (MIn wr x L (riseTo m a b))∧Hid (Kept F w wr)) (fun v _=>C - (RowKit.intOf v).toNat)
   case atStart=>exact ⟨0,Nat.zero_le _,rfl,HM,HK⟩
   case round =>
    clear HM HK xr
    obtain ⟨b,hb,rfl,HM,HK⟩:=hrel
    by_cases hlb:b<C
    ·as_aux_lemma =>
     have hbi:(b:Int)<(C:Int):=by omega
     have hbm:b<m.C:=by rw [← HC.out];exact hlb
     have ham:a<m.n:=by rw [← HN.out];exact hlt
     have AF:=Lib.hid (mleast_at (g:=a) (c:=b) HM.out (HO.out.riseTo a b) ham hbm)
     unfold LeastP at AF
     rw [riseTo_least] at AF
     cases hs:(leastM m.sta a b).1 with
     | false =>
      have HS:=Lib.hid (riseTo_skip hs)
      rw [hs] at AF
      generalize (leastM m.sta a b).2 0=a0 at AF
      generalize (leastM m.sta a b).2 1=a1 at AF
      generalize (leastM m.sta a b).2 2=a2 at AF
      clear hs
      go_wp2_with fail
      refine AF.out.mono ?_;clear AF;rintro e w5 ⟨rfl,hb5⟩
      have HM5:=Lib.hid ((HM.out.below (Below.step hb5 (below_a _ (.cells #[.int .u64 a0,.int .u64 a1,.int .u64 a2] 214)))).congr (f:=(riseTo m a (b+1)).sp) fun g k _ _=>HS.out g k)
      have HK5:=Lib.hid (HK.out.step (Below.step hb5 (below_a _ (.cells #[.int .u64 a0,.int .u64 a1,.int .u64 a2] 214))))
      clear hb5
      go_wp2_with fail
      go_roundw
      case rel=>exact ⟨b+1,by omega,by go_num,HM5,HK5⟩
      case measure=>simp [RowKit.intOf];omega
     | true =>
      have hvb:=least_vb HO.out ham hs
      have hfl:=(HO.out.spot a b ham hbm).2
      have HX:=Lib.hid (show riseX m a b=((m.sp a b).1,(m.sp a b).2.1,max (m.sp a b).2.2 ((leastM m.sta a b).2 0)) by unfold riseX;rw [if_pos hs])
      rw [hs] at AF
      generalize (leastM m.sta a b).2 0=a0 at AF HX hvb
      generalize (leastM m.sta a b).2 1=a1 at AF
      generalize (leastM m.sta a b).2 2=a2 at AF
      clear hs
      have u2:=((HM.out.sp a ham).c b hbm).2.2
      rw [riseTo_at] at u2
      have f2:=(HM.out.sp a ham).z (b*3+2)
      have hlr:=(HM.out.sp a ham).lt
      generalize hfv:(m.sp a b).2.2=fv at u2 HX hfl
      clear hfv
      go_wp2_with fail
      refine AF.out.mono ?_;clear AF;rintro e w5 ⟨rfl,hb5⟩
      go_upto_region 8 with fail
      obtain ⟨W8,hW8⟩:∃ W,W=w5.alloc (.cells #[.int .u64 a0,.int .u64 a1,.int .u64 a2] 214):=⟨_,rfl⟩
      rw [← hW8]
      have hb8:Below wr.heap.size wr W8:=by rw [hW8];exact Below.step hb5 (below_a _ _)
      have y0:W8.cell? ⟨w5.heap.size,0,none⟩=some (.int .u64 a0):=by rw [hW8];exact cell_nw w5 _ _ 0 _ rfl
      have y1:W8.cell? ⟨w5.heap.size,1,none⟩=some (.int .u64 a1):=by rw [hW8];exact cell_nw w5 _ _ 1 _ rfl
      have y2:W8.cell? ⟨w5.heap.size,2,none⟩=some (.int .u64 a2):=by rw [hW8];exact cell_nw w5 _ _ 2 _ rfl
      have HM8:=Lib.hid (HM.out.below hb8)
      have HK8:=Lib.hid (HK.out.step hb8)
      replace u2:=cell_later hb8 u2
      replace f2:=frz_later hb8 f2 hlr
      replace hlr:=Nat.lt_of_lt_of_le hlr hb8.size
      clear hb8 hb5 hW8
      have A2:=Lib.hid fun W=>mv_at a0 a1 a2 W
      have HFL:=Lib.hid hfl
      have HVB:=Lib.hid hvb
      clear hfl hvb
      have hS0:Below W8.heap.size W8 W8.drew∧W8.drew.cell? ⟨L.r a,b*3+2,none⟩=some (.int .u64 fv)∧W8.drew.cell? ⟨w5.heap.size,0,none⟩=some (.int .u64 a0)∧W8.drew.cell? ⟨w5.heap.size,1,none⟩=some (.int .u64 a1)∧W8.drew.cell? ⟨w5.heap.size,2,none⟩=some (.int .u64 a2):=⟨Below.drew (Below.refl _ _),cell_dr u2,cell_dr y0,cell_dr y1,cell_dr y2⟩
      refine startU [10,11,12] (fun w'=>Below W8.heap.size W8 w'∧w'.cell? ⟨L.r a,b*3+2,none⟩=some (.int .u64 fv)∧w'.cell? ⟨w5.heap.size,0,none⟩=some (.int .u64 a0)∧w'.cell? ⟨w5.heap.size,1,none⟩=some (.int .u64 a1)∧w'.cell? ⟨w5.heap.size,2,none⟩=some (.int .u64 a2)) (by kernel_rfl) hS0 (fun hHeld=>?_)
      refine takeUw (i:=0) (v:=?v0_101) rfl (by kernel_rfl) (fun _ _ _ h=>h) (by rfl) ?hy0_101 (by assumption) ?rest0_101
      case hy0_101=>(intro w hSw;(try dsimp only at hSw);go_simp;try with_reducible rfl)
      try simp only [Act.put,List.setIfInBounds_toArray,List.set_cons_zero,List.set_cons_succ]
      refine takeUw (i:=1) (v:=?v1_102) rfl (by kernel_rfl) (fun _ _ _ h=>h) (by rfl) ?hy1_102 (by assumption) ?rest1_102
      case hy1_102=>(intro w hSw;(try dsimp only at hSw);go_simp;try with_reducible rfl)
      try simp only [Act.put,List.setIfInBounds_toArray,List.set_cons_zero,List.set_cons_succ]
      refine takeUw (i:=2) (v:=?v2_103) rfl (by kernel_rfl) (fun _ _ _ h=>h) (by rfl) ?hy2_103 (by assumption) ?rest2_103
      case hy2_103=>(intro w hSw;(try dsimp only at hSw);go_simp;try with_reducible rfl)
      try simp only [Act.put,List.setIfInBounds_toArray,List.set_cons_zero,List.set_cons_succ]
      refine takeUw (i:=3) (v:=?v3_104) rfl (by kernel_rfl) (fun _ _ _ h=>h) (by rfl) ?hy3_104 (by assumption) ?rest3_104
      case hy3_104=>(intro w hSw;(try dsimp only at hSw);go_simp;try with_reducible rfl)
      try simp only [Act.put,List.setIfInBounds_toArray,List.set_cons_zero,List.set_cons_succ]
      refine takeUw (i:=4) (v:=?v4_105) rfl (by kernel_rfl) (fun _ _ _ h=>h) (by rfl) ?hy4_105 (by assumption) ?rest4_105
      case hy4_105=>(intro w hSw;(try dsimp only at hSw);go_simp;try with_reducible rfl)
      try simp only [Act.put,List.setIfInBounds_toArray,List.set_cons_zero,List.set_cons_succ]
      refine takeUw (i:=5) (v:=?v5_106) rfl (by kernel_rfl) (fun _ _ _ h=>h) (by rfl) ?hy5_106 (by assumption) ?rest5_106
      case hy5_106=>(intro w hSw;(try dsimp only at hSw);go_simp;try with_reducible rfl)
      try simp only [Act.put,List.setIfInBounds_toArray,List.set_cons_zero,List.set_cons_succ]
      refine takeUw (i:=6) (v:=?v6_107) rfl (by kernel_rfl) (fun _ _ _ h=>h) (by rfl) ?hy6_107 (by assumption) ?rest6_107
      case hy6_107=>(intro w hSw;(try dsimp only at hSw);go_simp;try with_reducible rfl)
      try simp only [Act.put,List.setIfInBounds_toArray,List.set_cons_zero,List.set_cons_succ]
      refine takeUw (i:=7) (v:=?v7_108) rfl (by kernel_rfl) (fun _ _ _ h=>h) (by rfl) ?hy7_108 (by assumption) ?rest7_108
      case hy7_108=>(intro w hSw;(try dsimp only at hSw);go_simp;try with_reducible rfl)
      try simp only [Act.put,List.setIfInBounds_toArray,List.set_cons_zero,List.set_cons_succ]
      refine readyU (rs:=[8]) (by kernel_rfl) (by simp) ?_
      refine consU rfl (fun K hK=>?_) (nilU)
      go_simp
      refine (A2.out _).mono ?_
      rintro e w6 ⟨rfl,hb6⟩
      have e6:=cell_later hb6 (cell_dr u2)
      have g6:w6.frozen? ⟨L.r a,b*3+2,none⟩=false:=frz_later hb6 f2 hlr
      have HB6:=Lib.hid hb6
      go_wp2_with fail
      refine hK.out _ _ ?_ (fun hHeld8=>?_)
      ·(first | assumption | (refine held_4 (by assumption) ?_;assumption) | (refine held_4 (below_ad _ _) ?_;assumption) | (refine held_4 (below_a _ _) ?_;assumption))
      clear hK K
      try simp only [Act.put,List.setIfInBounds_toArray,List.set_cons_zero,List.set_cons_succ]
      refine takeUw (i:=9) (v:=?v9_109) rfl (by kernel_rfl) (fun _ _ _ h=>h) (by rfl) ?hy9_109 (by assumption) ?rest9_109
      case hy9_109=>(intro w hSw;(try dsimp only at hSw);go_simp;try with_reducible rfl)
      try simp only [Act.put,List.setIfInBounds_toArray,List.set_cons_zero,List.set_cons_succ]
      refine readyU (rs:=[10]) (by kernel_rfl) (by simp) ?_
      refine consV rfl (by kernel_rfl) (fun K hK=>?_) (nilU)
      go_simp
      skip
      refine hK.out _ _ ?_
      clear hK K
      try simp only [Act.put,List.setIfInBounds_toArray,List.set_cons_zero,List.set_cons_succ]
      refine readyU (rs:=[11]) (by kernel_rfl) (by simp) ?_
      refine consV rfl (by kernel_rfl) (fun K hK=>?_) (nilU)
      go_simp
      skip
      refine hK.out _ _ ?_
      clear hK K
      try simp only [Act.put,List.setIfInBounds_toArray,List.set_cons_zero,List.set_cons_succ]
      refine readyU (rs:=[12]) (by kernel_rfl) (by simp) ?_
      refine consV rfl (by kernel_rfl) (fun K hK=>?_) (nilU)
      go_simp
      go_simp
      refine hK.out _ _ ?_
      clear hK K
      try simp only [Act.put,List.setIfInBounds_toArray,List.set_cons_zero,List.set_cons_succ]
      refine doneU (by kernel_rfl) ?_ _
      have hra:L.r a∈F:=HF.out _ (by rw [HM8.out.lr a ham];simp)
      have HM9:=Lib.hid (show MIn (w6.setCell ⟨L.r a,b*3+2,none⟩ (.int .u64 (max fv a0))) x L (riseTo m a (b+1)) from (((HM8.out.below (Below.refl _ _).drew).below HB6.out).spF ham hbm (max fv a0)).congr (f:=(riseTo m a (b+1)).sp) fun g k _ _=>by rw [← riseTo_next,HX.out,riseTo_at])
      have HK9:=Lib.hid (((HK8.out.drew).step HB6.out).setCell (p:=⟨L.r a,b*3+2,none⟩) (Or.inl hra) (.int .u64 (max fv a0)))
      clear hS0 hHeld u2 f2 y0 y1 y2 e6 g6 hra hb6
      go_wp2_with fail
      go_roundw
      case rel=>exact ⟨b+1,by omega,by go_num,HM9,HK9⟩
      case measure=>simp [RowKit.intOf];omega
    ·as_aux_lemma =>
     obtain rfl:b=C:=by omega
     have HM5:=Lib.hid (HM.out.congr (f:=(riseTo m (a+1) 0).sp) fun g k _ hk=>by rw [HC.out];exact riseTo_row m a g k hk)
     have hbi:¬ (b:Int)<(b:Int):=by omega
     clear HM
     go_wp2_with fail
     go_roundw
     case rel=>exact ⟨a+1,by omega,by go_num,HM5,HK⟩
     case measure=>simp [RowKit.intOf];omega
  ·as_aux_lemma =>
   obtain rfl:a=n:=by omega
   have HM5:=Lib.hid (show MIn wr x L (riseM m) from HM.out.congr (f:=(riseM m).sp) fun g k hg _=>by rw [HN.out];exact riseTo_all m g k hg)
   have hai:¬ (a:Int)<(a:Int):=by omega
   clear HM
   go_wp2_with fail
   exact bodyPost_end (v:=.tuple #[]) (by simp [results,Tryz.results85,go_sem]) rfl ⟨rfl,HM5.out,HK.out⟩
end Go.Proofs.YtapnaocdehahdaaGreat
