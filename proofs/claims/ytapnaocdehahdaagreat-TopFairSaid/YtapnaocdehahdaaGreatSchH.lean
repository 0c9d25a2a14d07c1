/-
  Layer 31 (sched): migrate.
-/
import Derived.Test.YtapnaocdehahdaaGreatSchV
import Derived.Test.YtapnaocdehahdaaGreatSchP
namespace Go.Proofs.YtapnaocdehahdaaGreat
open Go.RowKit Go.Maps Go.IntWalk Go.Lib
set_option linter.unusedVariables false
set_option linter.unusedSimpArgs false
def mgC (s:SSt) (o:OpV):Int:=
 if hasV (s.C:Int) o.dst=false then 300
 else if nameV o.task=false then 301
 else match s.T o.task with
 | none=>6
 | some t=>if s.cu t.cpu=o.task then 304 else if (t.cpu:Int)=o.dst then 2 else if bitM t.mask o.dst.toNat=false then 305 else 0
def mgS (s:SSt) (o:OpV):SSt:=if mgC s o=0 then (match s.T o.task with
 | none=>s
 | some t=>mvS s o.task t o.dst.toNat) else s
theorem SOk.mg {s:SSt} (h:SOk s) (o:OpV):SOk (mgS s o):=by
 unfold mgS
 split
 ·rename_i hc
  split
  ·exact h
  ·rename_i t hT
   unfold mgC at hc
   split at hc
   ·exact absurd hc (by decide)
   ·rename_i h1
    split at hc
    ·exact absurd hc (by decide)
    ·rw [hT] at hc
     simp only at hc
     split at hc
     ·exact absurd hc (by decide)
     ·rename_i h2
      refine h.move hT ?_ fun _=>h2
      unfold hasV at h1
      simp at h1
      omega
 ·exact h
set_option maxRecDepth 100000 in
set_option maxHeartbeats 4000000 in
theorem dMigrate_at {w:World} {x:Nat} {L:SLay} {s:SSt} {o:OpV} (h:SRaw w x L s) (ho:SOk s) (hwf:o.Wf) (hwk:0≤s.wk∧s.wk≤900000) :
  Calls Tryz.prog 315 #[encO o,.pointer (some ⟨x,0,none⟩)] w (SDo w x L 0 (mgC s o) (mgS s o)):=by
 have HS:=Lib.hid h
 have HO:=Lib.hid ho
 obtain ⟨W0,hW0⟩:∃ W,W=w.alloc (.cells (cellsO o) 206):=⟨_,rfl⟩
 have hb0:Below w.heap.size w W0:=by rw [hW0];exact below_a _ _
 have B0:OpBox W0 w.heap.size o:=by rw [hW0];exact OpBox.new _ _ _
 have h0:=h.below hb0
 have HB0:=Lib.hid hb0
 unfold cellsO at hW0
 have HW0:=Lib.hid hW0
 clear hW0
 have b2:=B0.c2
 have b5:=B0.c5
 have A1:=Lib.hid (xcpu_at o.dst h0)
 have A2:=Lib.hid (snamed_at o.task W0)
 have H0:=Lib.hid h0
 cases hd:hasV (s.C:Int) o.dst with
 | false =>
  have EC:=Lib.hid (show mgC s o=300 by unfold mgC;rw [if_pos hd])
  rw [hd] at A1
  clear h ho h0 hb0 B0 hd
  unfold encO
  go_enter Tryz.func315,Tryz.ntmps315
  go_upto_region 1 with fail
  rw [← HW0.out]
  go_wp2_with fail
  refine A1.out.mono ?_;rintro e w5 ⟨rfl,rfl⟩
  go_wp2_with fail
  refine bodyPost_ret (v:=.tuple #[.int .i64 0,.int .i64 300]) (by simp [results,Tryz.results315,go_sem]) rfl ⟨by rw [EC.out],?_⟩
  rw [show mgS s o=s by unfold mgS;rw [EC.out];rfl]
  exact SLeft.same HS.out HB0.out
 | true =>
  rw [hd] at A1
  cases hn:nameV o.task with
  | false =>
   have EC:=Lib.hid (show mgC s o=301 by unfold mgC;rw [if_neg (by rw [hd];simp),if_pos hn])
   rw [hn] at A2
   clear h ho h0 hb0 B0 hd hn
   unfold encO
   go_enter Tryz.func315,Tryz.ntmps315
   go_upto_region 1 with fail
   rw [← HW0.out]
   go_wp2_with fail
   refine A1.out.mono ?_;rintro e w5 ⟨rfl,rfl⟩
   go_wp2_with fail
   refine A2.out.mono ?_;rintro e w5 ⟨rfl,rfl⟩
   go_wp2_with fail
   refine bodyPost_ret (v:=.tuple #[.int .i64 0,.int .i64 301]) (by simp [results,Tryz.results315,go_sem]) rfl ⟨by rw [EC.out],?_⟩
   rw [show mgS s o=s by unfold mgS;rw [EC.out];rfl]
   exact SLeft.same HS.out HB0.out
  | true =>
   rw [hn] at A2
   have x5:W0.cell? ⟨x,5,none⟩=some (.map (some L.bm)):=h0.head.c5
   have hlk:=(h0.below (Below.refl _ _).drew).look hwf.task
   have EM:=Lib.hid (show mgC s o=match s.T o.task with
    | none=>6
    | some t=>if s.cu t.cpu=o.task then 304 else if (t.cpu:Int)=o.dst then 2 else if bitM t.mask o.dst.toNat=false then 305 else 0 by unfold mgC;rw [if_neg (by rw [hd];simp),if_neg (by rw [hn];simp)])
   obtain ⟨j,hj⟩:∃ j:Nat,(j:Int)=o.dst:=⟨o.dst.toNat,by unfold hasV at hd;simp at hd;omega⟩
   have hjC:j<s.C:=by unfold hasV at hd;simp at hd;omega
   have hjt:o.dst.toNat=j:=by omega
   have HJ:=Lib.hid (And.intro hj (And.intro hjC hjt))
   have hwt:=Lib.hid hwf.task
   obtain ⟨id,hid⟩:∃ id,id=o.task:=⟨_,rfl⟩
   rw [← hid] at b2 hlk EM A2
   rw [← hj] at b5 A1
   have HI:=Lib.hid hid
   obtain ⟨W1,hW1⟩:∃ W,W=W0.drew:=⟨_,rfl⟩
   have hB1:Below W0.heap.size W0 W1:=by rw [hW1];exact (Below.refl _ _).drew
   have h1:=h0.below hB1
   have b2':=cell_later hB1 b2
   have b5':=cell_later hB1 b5
   have H1:=Lib.hid h1
   have HB1:=Lib.hid hB1
   have HW1:=Lib.hid hW1
   cases hT:s.T id with
   | none =>
    rw [hT] at hlk EM
    have EC:=Lib.hid (show mgC s o=6 from EM.out)
    have hlk2:(Instr.lookup 96 (.map (some L.bm)) (.int .i64 id) false).run Tryz.prog W0.drew=.ok (.pointer none) W0.drew:=hlk
    clear h ho h0 hb0 B0 hd hn hlk hj hjC hjt hid hW1 hB1 h1 hT EM
    unfold encO
    go_enter Tryz.func315,Tryz.ntmps315
    go_upto_region 1 with fail
    rw [← HW0.out]
    go_wp2_with fail
    refine A1.out.mono ?_;rintro e w5 ⟨rfl,rfl⟩
    go_wp2_with fail
    refine A2.out.mono ?_;rintro e w5 ⟨rfl,rfl⟩
    go_wp2_with fail
    go_region
    go_wp2_with fail
    refine bodyPost_ret (v:=.tuple #[.int .i64 0,.int .i64 6]) (by simp [results,Tryz.results315,go_sem]) rfl ⟨by rw [EC.out],?_⟩
    rw [show mgS s o=s by unfold mgS;rw [EC.out];rfl]
    exact SLeft.same HS.out HB0.out.drew
   | some t =>
    rw [hT] at hlk EM
    have hlk2:(Instr.lookup 96 (.map (some L.bm)) (.int .i64 id) false).run Tryz.prog W0.drew=.ok (.pointer (some ⟨L.tp id,0,none⟩)) W0.drew:=hlk
    have htk:=(ho.task id t hT).2
    have HT:=Lib.hid hT
    have tk1:=h1.tk id t hT
    obtain ⟨b,hb⟩:∃ b,b=L.tp id:=⟨_,rfl⟩
    rw [← hb] at tk1 hlk2
    have HB:=Lib.hid hb
    have ta2:=tk1.c2
    have ta3:=tk1.c3
    have htc:=htk.cpu
    have hmk:=htk.mask
    have hcm:(t.cpu:Int)<(s.C:Int):=by omega
    obtain ⟨c4,x4⟩:∃ c,W1.cell? ⟨x,4,none⟩=some (.slice (some ⟨L.bu,0,none⟩) s.C c):=h1.head.c4
    have u4:W1.cell? ⟨L.bu,t.cpu,none⟩=some (.int .i64 (s.cu t.cpu)):=h1.cu.c t.cpu htc
    clear h h0 hb0 B0 hd hn hlk hj hjC hjt hid hW1 hB1 h1 hT tk1 hb htk
    by_cases e1:s.cu t.cpu=id
    ·have EC:=Lib.hid (show mgC s o=304 by rw [EM.out];simp only;rw [if_pos e1])
     rw [e1] at u4
     clear EM e1 ho
     unfold encO
     go_enter Tryz.func315,Tryz.ntmps315
     go_upto_region 1 with fail
     rw [← HW0.out]
     go_wp2_with fail
     refine A1.out.mono ?_;rintro e w5 ⟨rfl,rfl⟩
     go_wp2_with fail
     refine A2.out.mono ?_;rintro e w5 ⟨rfl,rfl⟩
     go_wp2_with fail
     go_region
     rw [← HW1.out]
     go_wp2_with fail
     go_region
     go_wp2_with fail
     refine bodyPost_ret (v:=.tuple #[.int .i64 0,.int .i64 304]) (by simp [results,Tryz.results315,go_sem]) rfl ⟨by rw [EC.out],?_⟩
     rw [show mgS s o=s by unfold mgS;rw [EC.out];rfl]
     exact SLeft.same HS.out (Below.step HB0.out (HB1.out.drew))
    ·have z1:(s.cu t.cpu == id)=false:=by simpa using e1
     have HE1:=Lib.hid e1
     by_cases e2:t.cpu=j
     ·have EC:=Lib.hid (show mgC s o=2 by rw [EM.out];simp only;rw [if_neg e1,if_pos (by rw [← HJ.out.1,e2])])
      have z2:((t.cpu:Int) == (j:Int))=true:=by simp [e2]
      clear EM e1 e2 ho
      unfold encO
      go_enter Tryz.func315,Tryz.ntmps315
      go_upto_region 1 with fail
      rw [← HW0.out]
      go_wp2_with fail
      refine A1.out.mono ?_;rintro e w5 ⟨rfl,rfl⟩
      go_wp2_with fail
      refine A2.out.mono ?_;rintro e w5 ⟨rfl,rfl⟩
      go_wp2_with fail
      go_region
      rw [← HW1.out]
      go_wp2_with fail
      go_region
      go_wp2_with fail
      go_region
      go_wp2_with fail
      refine bodyPost_ret (v:=.tuple #[.int .i64 0,.int .i64 2]) (by simp [results,Tryz.results315,go_sem]) rfl ⟨by rw [EC.out],?_⟩
      rw [show mgS s o=s by unfold mgS;rw [EC.out];rfl]
      exact SLeft.same HS.out (Below.step HB0.out (HB1.out.drew.drew))
     ·have z2:((t.cpu:Int) == (j:Int))=false:=by simp;omega
      obtain ⟨v,S3,hv3⟩:=bit_shift (m:=t.mask) (k:=j) (by have:=ho.cpus;have:=HJ.out.2.1;omega) hmk
      have EM2:=Lib.hid (show mgC s o=if bitM t.mask j=false then 305 else 0 by rw [EM.out];simp only;rw [if_neg e1,if_neg (by rw [← HJ.out.1];omega),HJ.out.2.2])
      clear EM e2
      obtain ⟨bt,hbt⟩:∃ bt,bt=bitM t.mask j:=⟨_,rfl⟩
      rw [← hbt] at hv3 EM2
      cases bt with
      | false =>
       have EC:=Lib.hid (show mgC s o=305 from EM2.out)
       rw [Bool.not_false] at hv3
       clear EM2 e1 hbt ho
       unfold encO
       go_enter Tryz.func315,Tryz.ntmps315
       go_upto_region 1 with fail
       rw [← HW0.out]
       go_wp2_with fail
       refine A1.out.mono ?_;rintro e w5 ⟨rfl,rfl⟩
       go_wp2_with fail
       refine A2.out.mono ?_;rintro e w5 ⟨rfl,rfl⟩
       go_wp2_with fail
       go_region
       rw [← HW1.out]
       go_wp2_with fail
       go_region
       go_wp2_with fail
       go_region
       go_wp2_with fail
       go_region
       go_wp2_with fail
       refine bodyPost_ret (v:=.tuple #[.int .i64 0,.int .i64 305]) (by simp [results,Tryz.results315,go_sem]) rfl ⟨by rw [EC.out],?_⟩
       rw [show mgS s o=s by unfold mgS;rw [EC.out];rfl]
       exact SLeft.same HS.out (Below.step HB0.out (HB1.out.drew.drew.drew))
      | true =>
       have EC:=Lib.hid (show mgC s o=0 from EM2.out)
       have ES:=Lib.hid (show mgS s o=mvS s id t j by unfold mgS;rw [if_pos EC.out,← HI.out,HT.out];simp only;rw [HJ.out.2.2])
       rw [Bool.not_true] at hv3
       have hB4:Below W1.heap.size W1 W1.drew.drew.drew:=(((Below.refl W1.heap.size W1).drew).drew).drew
       have b2'':=cell_later hB4 b2'
       have b5'':=cell_later hB4 b5'
       have A5:=Lib.hid (xmove_at (H1.out.below hB4) ho HT.out (j:=j) HJ.out.2.1 (fun _=>HE1.out) hwk)
       rw [← HB.out] at A5
       have HB4:=Lib.hid (Below.step HB1.out hB4)
       clear EM2 e1 hbt ho hB4
       unfold encO
       go_enter Tryz.func315,Tryz.ntmps315
       go_upto_region 1 with fail
       rw [← HW0.out]
       go_wp2_with fail
       refine A1.out.mono ?_;rintro e w5 ⟨rfl,rfl⟩
       go_wp2_with fail
       refine A2.out.mono ?_;rintro e w5 ⟨rfl,rfl⟩
       go_wp2_with fail
       go_region
       rw [← HW1.out]
       go_wp2_with fail
       go_region
       go_wp2_with fail
       go_region
       go_wp2_with fail
       go_region
       go_wp2_with fail
       refine A5.out.mono ?_;rintro e w8 ⟨rfl,hA8⟩
       go_wp2_with fail
       refine bodyPost_ret (v:=.tuple #[.int .i64 0,.int .i64 0]) (by simp [results,Tryz.results315,go_sem]) rfl ⟨by rw [EC.out],?_⟩
       rw [ES.out]
       exact hA8.from ((SStep.of HB0.out).trans (SStep.of HB4.out)) rfl
end Go.Proofs.YtapnaocdehahdaaGreat
