/-
  Layer 31 (sched): first.
-/
import Derived.Test.YtapnaocdehahdaaGreatSchE
namespace Go.Proofs.YtapnaocdehahdaaGreat
open Go.RowKit Go.Maps Go.IntWalk Go.Lib Go.Sort Go.Shelf
set_option linter.unusedVariables false
set_option linter.unusedSimpArgs false
def frF (s:TSt):Nat→Nat→Nat→Int×Nat
 | 0,_,a=>(0,a)
 | f+1,g,a=>if (s.M g).isEmpty then (0,a+1) else if firstI (s.M g)<65536 then (firstI (s.M g),a+1) else frF s f (firstI (s.M g) - 65536).toNat (a+1)
def frT (s:TSt):Int×Nat:=frF s s.n 0 0
theorem frF_fuel {s:TSt} (hd:DownT s):∀ (a b g:Nat) (k:Nat),g<s.n→s.n - g≤a→s.n - g≤b→frF s a g k=frF s b g k:=by
 intro a
 induction a with
 | zero=>intro b g k hg ha;omega
 | succ a ih =>
  intro b g k hg ha hb
  obtain ⟨b',rfl⟩:∃ b',b=b'+1:=⟨b - 1,by omega⟩
  unfold frF
  by_cases he:(s.M g).isEmpty=true
  ·rw [if_pos he,if_pos he]
  ·rw [if_neg he,if_neg he]
   by_cases hf:firstI (s.M g)<65536
   ·rw [if_pos hf,if_pos hf]
   ·rw [if_neg hf,if_neg hf]
    obtain ⟨c,e,h1,h2⟩:=hd g hg (by simpa using he) (by omega)
    have e2:(firstI (s.M g) - 65536).toNat=c:=by omega
    rw [e2]
    exact ih b' c _ h2 (by omega) (by omega)
theorem frF_lead {s:TSt}:∀ (f g k:Nat) (ch:List Int),(frF s f g k).1=(leadF s f g ch).1
 | 0,_,_,_=>rfl
 | f+1,g,k,ch=>by
  unfold frF leadF
  split
  ·rfl
  ·split
   ·rfl
   ·exact frF_lead f _ _ _
theorem frT_lead (s:TSt):(frT s).1=(leadT s).1:=frF_lead _ _ _ _
set_option maxRecDepth 100000 in
set_option maxHeartbeats 4000000 in
theorem xfirst_at {w:World} {x:Nat} {L:SLay} {s:SSt} {k:Nat} (h:SRaw w x L s) (ho:SOk s) (hk:k<s.C) :
  Calls Tryz.prog 71 #[.pointer (some ⟨x,0,none⟩),.int .i64 k] w fun e w'=>e=.returned (.tuple #[.int .i64 (frT (s.Q k)).1,.int .i64 ((frT (s.Q k)).2:Nat)])∧Below w.heap.size w w':=by
 have HS:=Lib.hid h
 have HD:=Lib.hid (ho.tree k hk).down
 have hqn:=ho.qn hk
 have HN:=Lib.hid (show 0<s.n∧s.n≤256 from ⟨ho.right.pos,ho.right.le⟩)
 have hn0:0<s.n:=HN.out.1
 have hkm:(k:Int)<(s.C:Int):=by omega
 obtain ⟨q,hq⟩:∃ q,q=s.Q k:=⟨_,rfl⟩
 rw [← hq] at HD hqn ⊢
 have HQ:=Lib.hid hq
 have HQN:=Lib.hid hqn
 clear h ho hq hqn
 go_enter Tryz.func71,Tryz.ntmps71
 go_wp2_with fail
 go_loopw [6,7] (fun gv av wr=>∃ (gk a:Nat),gk<s.n∧a≤gk∧gv=.int .i64 gk∧av=.int .i64 a∧Below w.heap.size w wr∧Hid (frF q (s.n - gk) gk a=frT q)) (fun g _ _=>s.n - (intOf g).toNat)
 case atStart=>exact ⟨0,0,hn0,Nat.le_refl _,rfl,rfl,Below.refl _ _,Lib.hid (by rw [← HQN.out];rfl)⟩
 case round =>
  obtain ⟨gk,a,hgk,hag,rfl,rfl,hb,hres⟩:=hrel
  have hr:=HS.out.below hb
  have hgm:(gk:Int)<(s.n:Int):=by omega
  obtain ⟨c6,x6⟩:∃ c,wr.cell? ⟨x,6,none⟩=some (.slice (some ⟨L.bq,0,none⟩) s.n c):=hr.head.c6
  obtain ⟨cr',r6⟩:∃ c,wr.cell? ⟨L.bq,gk,none⟩=some (.slice (some ⟨L.rq gk,0,none⟩) s.C c):=hr.rq.c gk hgk
  have p6:wr.cell? ⟨L.rq gk,k,none⟩=some (.pointer (some ⟨L.qp gk k,0,none⟩)):=(hr.qc gk hgk).c k hk
  have hq:QIn wr (L.qp gk k) (L.Fq gk k) qN (q.M gk) (q.fl gk):=by rw [HQ.out];exact hr.q gk k hgk hk
  have A2:=Lib.hid (First_at wr hq)
  have HFI:=Lib.hid (firstI_in hq)
  obtain ⟨kf,hkf⟩:∃ kf,s.n - gk=kf+1:=⟨s.n - gk - 1,by omega⟩
  rw [hkf] at hres
  have HB:=Lib.hid hb
  have hwa:IntKind.i64.wrap ((a:Int)+1)=(a:Int)+1:=IntWalk.i64_in _ (by have:=HN.out;omega)
  have hwa':wrap64 ((a:Int)+1)=(a:Int)+1:=IntWalk.wrap64_in _ (by have:=HN.out;omega)
  clear hr hq hb
  cases hm:(q.M gk).isEmpty with
  | true =>
   have HL:=Lib.hid (show (0,a+1)=frT q by rw [← hres.out];unfold frF;rw [if_pos hm])
   rw [hm] at A2
   clear hm hkf
   go_wp2_with fail
   refine A2.out.mono ?_;rintro e w6 ⟨rfl,hb6⟩
   go_wp2_with fail
   go_ret2
   exact ⟨by rw [← HL.out];rfl,Below.step HB.out hb6⟩
  | false =>
   rw [hm] at A2
   by_cases h2:firstI (q.M gk)<65536
   ·have HL:=Lib.hid (show (firstI (q.M gk),a+1)=frT q by rw [← hres.out];unfold frF;rw [if_neg (by rw [hm];simp),if_pos h2])
    generalize firstI (q.M gk)=fi at *
    have z1:decide (fi<65536)=true:=decide_eq_true h2
    clear hm hkf
    go_wp2_with fail
    refine A2.out.mono ?_;rintro e w6 ⟨rfl,hb6⟩
    go_wp2_with fail
    go_ret2
    exact ⟨by rw [← HL.out];rfl,Below.step HB.out hb6⟩
   ·obtain ⟨k2,hfk,h3,h4⟩:=HD.out gk (by rw [HQN.out];exact hgk) hm (by omega)
    have HL:=Lib.hid (show frF q (s.n - k2) k2 (a+1)=frT q by
     rw [← hres.out]
     conv=>rhs;unfold frF
     rw [if_neg (by rw [hm];simp),if_neg h2,show (firstI (q.M gk) - 65536).toNat=k2 by omega]
     have hqn:=HQN.out
     exact frF_fuel HD.out _ _ _ _ h4 (by omega) (by omega))
    rw [HQN.out] at h4
    rw [hfk] at A2 h2
    clear hm hkf
    have z1:decide (65536+(k2:Int)<65536)=false:=decide_eq_false h2
    have z2:¬ (65536+(k2:Int)<65536):=h2
    have z3:IntKind.i64.wrap (65536+(k2:Int) - 65536)=(k2:Int):=by rw [show 65536+(k2:Int) - 65536=k2 by omega];exact IntWalk.i64_in _ (by have:=HN.out;omega)
    have z4:wrap64 (65536+(k2:Int) - 65536)=(k2:Int):=by rw [show 65536+(k2:Int) - 65536=k2 by omega];exact IntWalk.wrap64_in _ (by have:=HN.out;omega)
    clear hfk h2
    go_wp2_with fail
    refine A2.out.mono ?_;rintro e w6 ⟨rfl,hb6⟩
    have hb7:=Below.step HB.out hb6
    clear hb6
    go_wp2_with fail
    go_roundw
    case rel=>exact ⟨k2,a+1,h4,by omega,rfl,rfl,hb7,HL⟩
    case measure=>simp [intOf];omega
end Go.Proofs.YtapnaocdehahdaaGreat
