/-
  Layer 30's statements: Script.
-/
import Derived.Test.YtapnaocdehahdaaGreatSchMd
import Derived.Test.YtapnaocdehahdaaGreatSchK
namespace Go.Proofs.YtapnaocdehahdaaGreat
open Go.RowKit Go.Maps Go.IntWalk Go.Lib
set_option linter.unusedVariables false
set_option linter.unusedSimpArgs false
def encOl (o:OpV):List Value:=[.int .u8 o.kind,.int .i64 o.cpu,.int .i64 o.task,.int .i64 o.group,.int .i64 o.weight,.int .i64 o.dst,.int .i64 o.ticks,.int .u64 o.mask]
theorem infoOp:(Tryz.prog.info? 41).map (fun i=>(i.zero,i.size,i.bytes))=some (some (.agg #[.int .u8 0,.int .i64 0,.int .i64 0,.int .i64 0,.int .i64 0,.int .i64 0,.int .i64 0,.int .u64 0]),8,64):=by kernel_rfl
abbrev scK:List (Option IntKind):=[some .u8,some .u8,some .u8,some .u8,some .u8,some .u16,some .u32,some .u8]
theorem xf16 {x:Int} (h:(Lit.int .u16 x).wf=true):0≤x∧x≤65535:=by
 simp only [Lit.wf,Bool.and_eq_true,decide_eq_true_eq,IntKind.min,IntKind.max,IntKind.bits,IntKind.signed] at h
 simp at h
 omega
theorem xf32 {x:Int} (h:(Lit.int .u32 x).wf=true):0≤x∧x≤4294967295:=by
 simp only [Lit.wf,Bool.and_eq_true,decide_eq_true_eq,IntKind.min,IntKind.max,IntKind.bits,IntKind.signed] at h
 simp at h
 omega
theorem srow_le {T:List (Option IntKind)} {w:World} {s:Option Addr} {l c:Nat} {F:Nat→Nat→Value} (h:PlainRow T w s l c F):l≤c∧c≤9223372036854775807∧(s=none→c=0):=by
 rcases h with ⟨rfl,rfl,rfl⟩ | ⟨rfl,hc,x,rfl⟩ | ⟨h0,hl,hm,b,off,rfl,hc⟩
 ·exact ⟨by omega,by omega,fun _=>rfl⟩
 ·exact ⟨by omega,by unfold maxLen at hc;omega,fun h=>by cases h⟩
 ·exact ⟨hl,by unfold maxLen at hm;omega,fun h=>by cases h⟩
theorem sc_cells {w:World} {s:Option Addr} {l c:Nat} {F:Nat→Nat→Value} (h:PlainRow scK w s l c F) {k:Nat} (hk:k<l) :
  ∃ b off,s=some ⟨b,off,none⟩∧∃ a0 a1 a2 a3 a4 a5 a6 a7:Int,(0≤a0∧a0≤255)∧(0≤a1∧a1≤255)∧(0≤a2∧a2≤255)∧(0≤a3∧a3≤255)∧(0≤a4∧a4≤255)∧(0≤a5∧a5≤65535)∧(0≤a6∧a6≤4294967295)∧(0≤a7∧a7≤255) ∧
   w.cell? ⟨b,off+k*8,none⟩=some (.int .u8 a0)∧w.cell? ⟨b,off+k*8+1,none⟩=some (.int .u8 a1)∧w.cell? ⟨b,off+k*8+2,none⟩=some (.int .u8 a2)∧w.cell? ⟨b,off+k*8+3,none⟩=some (.int .u8 a3)∧w.cell? ⟨b,off+k*8+4,none⟩=some (.int .u8 a4)∧w.cell? ⟨b,off+k*8+5,none⟩=some (.int .u16 a5)∧w.cell? ⟨b,off+k*8+6,none⟩=some (.int .u32 a6)∧w.cell? ⟨b,off+k*8+7,none⟩=some (.int .u8 a7):=by
 rcases h with ⟨rfl,rfl,rfl⟩ | ⟨rfl,hc,x,rfl⟩ | ⟨h0,hl,hm,b,off,rfl,hc⟩
 ·omega
 ·omega
 ·skip
  obtain ⟨e0,a0,q0,w0⟩:=hc k hk 0 (some .u8) rfl
  rw [q0] at e0
  obtain ⟨e1,a1,q1,w1⟩:=hc k hk 1 (some .u8) rfl
  rw [q1] at e1
  obtain ⟨e2,a2,q2,w2⟩:=hc k hk 2 (some .u8) rfl
  rw [q2] at e2
  obtain ⟨e3,a3,q3,w3⟩:=hc k hk 3 (some .u8) rfl
  rw [q3] at e3
  obtain ⟨e4,a4,q4,w4⟩:=hc k hk 4 (some .u8) rfl
  rw [q4] at e4
  obtain ⟨e5,a5,q5,w5⟩:=hc k hk 5 (some .u16) rfl
  rw [q5] at e5
  obtain ⟨e6,a6,q6,w6⟩:=hc k hk 6 (some .u32) rfl
  rw [q6] at e6
  obtain ⟨e7,a7,q7,w7⟩:=hc k hk 7 (some .u8) rfl
  rw [q7] at e7
  exact ⟨b,off,rfl,a0,a1,a2,a3,a4,a5,a6,a7,wf_u8 w0,wf_u8 w1,wf_u8 w2,wf_u8 w3,wf_u8 w4,xf16 w5,xf32 w6,wf_u8 w7,e0,e1,e2,e3,e4,e5,e6,e7⟩
def kTab (k:Nat):Int:=[1,1,1,2,2,3,3,4,5,5,5,5,6,6,6,6,7,8,9,10][k]!
theorem kTab_at (k:Nat) (hk:k<20) (w:World):Sem.run Tryz.prog (Instr.index 110 (.agg #[.int .u8 1,.int .u8 1,.int .u8 1,.int .u8 2,.int .u8 2,.int .u8 3,.int .u8 3,.int .u8 4,.int .u8 5,.int .u8 5,.int .u8 5,.int .u8 5,.int .u8 6,.int .u8 6,.int .u8 6,.int .u8 6,.int .u8 7,.int .u8 8,.int .u8 9,.int .u8 10]) (.int .u8 (k:Int))) w=.ok (.int .u8 (kTab k)) w:=by
 have h:k=0∨k=1∨k=2∨k=3∨k=4∨k=5∨k=6∨k=7∨k=8∨k=9∨k=10∨k=11∨k=12∨k=13∨k=14∨k=15∨k=16∨k=17∨k=18∨k=19:=by omega
 rcases h with rfl | rfl | rfl | rfl | rfl | rfl | rfl | rfl | rfl | rfl | rfl | rfl | rfl | rfl | rfl | rfl | rfl | rfl | rfl | rfl
 all_goals
  show _=_
  kernel_rfl
theorem kTab_in (k:Nat):0≤kTab k∧kTab k≤255:=by
 unfold kTab
 by_cases h:k<20
 ·have h:k=0∨k=1∨k=2∨k=3∨k=4∨k=5∨k=6∨k=7∨k=8∨k=9∨k=10∨k=11∨k=12∨k=13∨k=14∨k=15∨k=16∨k=17∨k=18∨k=19:=by omega
  rcases h with rfl | rfl | rfl | rfl | rfl | rfl | rfl | rfl | rfl | rfl | rfl | rfl | rfl | rfl | rfl | rfl | rfl | rfl | rfl | rfl <;> decide
 ·rw [getElem!_neg _ _ (by simpa using h)];decide
theorem wrap_u64_rng (n:Int):0≤IntKind.u64.wrap n∧IntKind.u64.wrap n≤18446744073709551615:=by
 rw [IntKind.wrap_u64];omega
theorem bits_rng (op:BinOp) (x y:Int):0≤bits op IntKind.u64 x y∧bits op IntKind.u64 x y≤18446744073709551615:=wrap_u64_rng _
structure ScB (w:World) (b:Nat) (o:OpV):Prop where
 box:OpBox w b o
 z:∀ j,w.frozen? ⟨b,j,none⟩=false
theorem ScB.mask {w:World} {b:Nat} {o:OpV} (h:ScB w b o) (m:Int):ScB (w.setCell ⟨b,7,none⟩ (.int .u64 m)) b { o with mask:=m }:=
 ⟨⟨cell_set_ne h.box.c0 (Or.inr (by decide)),cell_set_ne h.box.c1 (Or.inr (by decide)),cell_set_ne h.box.c2 (Or.inr (by decide)),cell_set_ne h.box.c3 (Or.inr (by decide)),cell_set_ne h.box.c4 (Or.inr (by decide)),cell_set_ne h.box.c5 (Or.inr (by decide)),cell_set_ne h.box.c6 (Or.inr (by decide)),cell_set_eq h.box.c7⟩,fun j=>by rw [World.frozen?_setCell];exact h.z j⟩
theorem ScB.later {w w':World} {b:Nat} {o:OpV} (h:ScB w b o) (hb:Below w.heap.size w w'):ScB w' b o:=⟨h.box.later hb,fun j=>frz_later hb (h.z j) h.box.lt⟩
def ScriptP (most:Nat) (w:World) (e:Ending) (w':World):Prop:=∃ (v:Value) (ops:List OpV),e=.returned v∧(∀ o∈ops,o.Wf)∧ops.length≤most∧w'.ownsRow w.heap.size 41 8 v ops.length (flatR encOl ops)∧Below w.heap.size w w'
set_option maxRecDepth 100000 in
set_option maxHeartbeats 8000000 in
theorem Script_at (s:Option Addr) (l c most:Nat) (F:Nat→Nat→Value) (w:World) (r:PlainRow scK w s l c F) (hmost:most≤1000) :
  Calls Tryz.prog 15 #[.slice s l c,.int .i64 most] w (ScriptP most w):=by
 obtain ⟨io,hi,hz0,hz1,hz2⟩:=info_parts infoOp
 obtain ⟨hle,hmax,hnn⟩:=srow_le r
 obtain ⟨m,hm⟩:∃ m,m=min l most:=⟨_,rfl⟩
 have e0:min (l:Int) (most:Int)=(m:Int):=by omega
 have hml:m≤l:=by omega
 have hmm:=Lib.hid (show m≤most∧m≤1000 by omega)
 have hmc:(m:Int)≤(c:Int):=by omega
 have hmc2:m≤c:=by omega
 have HPR:=Lib.hid r
 clear r hm
 go_enter Tryz.func15,Tryz.ntmps15
 go_wp2_with fail
 go_loopw [5,16] (fun ov i wr=>∃ (k:Nat) (ops:List OpV),k≤m∧i=.int .i64 k∧Hid (∀ o∈ops,o.Wf)∧Hid (ops.length=k)∧Hid (wr.ownsRow w.heap.size 41 8 ov k (flatR encOl ops))∧Below w.heap.size w wr) (fun _ i _=>m - (intOf i).toNat)
 case atStart=>exact ⟨0,[],Nat.zero_le _,rfl,Lib.hid (fun o ho=>by cases ho),Lib.hid rfl,Lib.hid (World.ownsRow_nil _ _ _ _),Below.refl _ _⟩
 case round =>
  obtain ⟨k,ops,hk,rfl,hwf,hlen,hown,hb⟩:=hrel
  have HB:=Lib.hid hb
  by_cases hlt:k<m
  ·obtain ⟨b,off,rfl,a0,a1,a2,a3,a4,a5,a6,a7,b0,b1,b2,b3,b4,b5,b6,b7,d0,d1,d2,d3,d4,d5,d6,d7⟩:=sc_cells HPR.out (show k<l by omega)
   have hkm:(k:Int)<(m:Int):=by omega
   have hk0:(0:Int)≤(k:Int):=by omega
   obtain ⟨c1,hc1⟩:∃ c:Nat,c=a1.toNat % 4:=⟨_,rfl⟩
   obtain ⟨c2,hc2⟩:∃ c:Nat,c=a2.toNat % 12:=⟨_,rfl⟩
   obtain ⟨c3,hc3⟩:∃ c:Nat,c=a3.toNat % 6:=⟨_,rfl⟩
   obtain ⟨c4,hc4⟩:∃ c:Nat,c=a4.toNat % 4:=⟨_,rfl⟩
   obtain ⟨c6,hc6⟩:∃ c:Nat,c=a6.toNat % 16777216:=⟨_,rfl⟩
   obtain ⟨c7,hc7⟩:∃ c:Nat,c=a7.toNat % 4:=⟨_,rfl⟩
   obtain ⟨c0,hc0⟩:∃ c:Nat,c=a0.toNat % 20:=⟨_,rfl⟩
   have l1:c1<4:=by omega
   have l2:c2<12:=by omega
   have l3:c3<6:=by omega
   have l4:c4<4:=by omega
   have l6:c6<16777216:=by omega
   have l7:c7<4:=by omega
   have l0:c0<20:=by omega
   have m1:Int.tmod a1 4=(c1:Int):=by rw [Int.tmod_eq_emod_of_nonneg b1.1,hc1];omega
   have m2:Int.tmod a2 12=(c2:Int):=by rw [Int.tmod_eq_emod_of_nonneg b2.1,hc2];omega
   have m3:Int.tmod a3 6=(c3:Int):=by rw [Int.tmod_eq_emod_of_nonneg b3.1,hc3];omega
   have m4:Int.tmod a4 4=(c4:Int):=by rw [Int.tmod_eq_emod_of_nonneg b4.1,hc4];omega
   have m6:Int.tmod a6 16777216=(c6:Int):=by rw [Int.tmod_eq_emod_of_nonneg b6.1,hc6];omega
   have m7:Int.tmod a7 4=(c7:Int):=by rw [Int.tmod_eq_emod_of_nonneg b7.1,hc7];omega
   have m0:Int.tmod a0 20=(c0:Int):=by rw [Int.tmod_eq_emod_of_nonneg b0.1,hc0];omega
   clear hc0 hc1 hc2 hc3 hc4 hc6 hc7
   have ya1:IntKind.i64.wrap a1=a1:=IntWalk.i64_in _ (by omega)
   have ya2:IntKind.i64.wrap a2=a2:=IntWalk.i64_in _ (by omega)
   have ya3:IntKind.i64.wrap a3=a3:=IntWalk.i64_in _ (by omega)
   have ya4:IntKind.i64.wrap a4=a4:=IntWalk.i64_in _ (by omega)
   have ya5:IntKind.i64.wrap a5=a5:=IntWalk.i64_in _ (by omega)
   have yc1Int:IntKind.i64.wrap (c1:Int)=(c1:Int):=IntWalk.i64_in _ (by omega)
   have yc2Int:IntKind.i64.wrap (c2:Int)=(c2:Int):=IntWalk.i64_in _ (by omega)
   have yc3Int:IntKind.i64.wrap (c3:Int)=(c3:Int):=IntWalk.i64_in _ (by omega)
   have yc4Int:IntKind.i64.wrap (c4:Int)=(c4:Int):=IntWalk.i64_in _ (by omega)
   have yc6Int:IntKind.i64.wrap (c6:Int)=(c6:Int):=IntWalk.i64_in _ (by omega)
   have y1c2Int:IntKind.i64.wrap (1+(c2:Int))=(1+(c2:Int)):=IntWalk.i64_in _ (by omega)
   have y1a5:IntKind.i64.wrap (1+a5)=(1+a5):=IntWalk.i64_in _ (by omega)
   have yc6Int1:IntKind.i64.wrap ((c6:Int)+1)=((c6:Int)+1):=IntWalk.i64_in _ (by omega)
   have y1c6Int:IntKind.i64.wrap (1+(c6:Int))=(1+(c6:Int)):=IntWalk.i64_in _ (by omega)
   have yc6u:IntKind.u32.wrap (c6:Int)=(c6:Int):=IntWalk.u32_in _ (by omega)
   have yc7u:IntKind.u8.wrap (c7:Int)=(c7:Int):=IntWalk.u8_in _ (by omega)
   have yc0u:IntKind.u8.wrap (c0:Int)=(c0:Int):=IntWalk.u8_in _ (by omega)
   have ya7u:IntKind.u64.wrap a7=a7:=IntWalk.u64_in _ (by omega)
   replace d0:=cell_later hb d0
   replace d1:=cell_later hb d1
   replace d2:=cell_later hb d2
   replace d3:=cell_later hb d3
   replace d4:=cell_later hb d4
   replace d5:=cell_later hb d5
   replace d6:=cell_later hb d6
   replace d7:=cell_later hb d7
   obtain ⟨W1,hW1⟩:∃ W,W=wr.alloc (.cells #[.int .u8 a0,.int .u8 a1,.int .u8 a2,.int .u8 a3,.int .u8 a4,.int .u16 a5,.int .u32 a6,.int .u8 a7] 109):=⟨_,rfl⟩
   have s0:W1.cell? ⟨wr.heap.size,0,none⟩=some (.int .u8 a0):=by rw [hW1];exact cell_nw wr _ _ 0 _ rfl
   have s1:W1.cell? ⟨wr.heap.size,1,none⟩=some (.int .u8 a1):=by rw [hW1];exact cell_nw wr _ _ 1 _ rfl
   have s2:W1.cell? ⟨wr.heap.size,2,none⟩=some (.int .u8 a2):=by rw [hW1];exact cell_nw wr _ _ 2 _ rfl
   have s3:W1.cell? ⟨wr.heap.size,3,none⟩=some (.int .u8 a3):=by rw [hW1];exact cell_nw wr _ _ 3 _ rfl
   have s4:W1.cell? ⟨wr.heap.size,4,none⟩=some (.int .u8 a4):=by rw [hW1];exact cell_nw wr _ _ 4 _ rfl
   have s5:W1.cell? ⟨wr.heap.size,5,none⟩=some (.int .u16 a5):=by rw [hW1];exact cell_nw wr _ _ 5 _ rfl
   have s6:W1.cell? ⟨wr.heap.size,6,none⟩=some (.int .u32 a6):=by rw [hW1];exact cell_nw wr _ _ 6 _ rfl
   have s7:W1.cell? ⟨wr.heap.size,7,none⟩=some (.int .u8 a7):=by rw [hW1];exact cell_nw wr _ _ 7 _ rfl
   have hb1:Below wr.heap.size wr W1:=by rw [hW1];exact below_a _ _
   have hs1:W1.heap.size=wr.heap.size+1:=by rw [hW1];simp
   have HW1:=Lib.hid hW1
   have HB1:=Lib.hid hb1
   have HS1:=Lib.hid hs1
   obtain ⟨bs,hbs⟩:∃ b,b=wr.heap.size:=⟨_,rfl⟩
   rw [← hbs] at s0 s1 s2 s3 s4 s5 s6 s7
   have HBS:=Lib.hid hbs
   clear hW1 hb1 hs1 hbs hb
   have HU:=Lib.hid (show w.heap.size≤bs by have:=HBS.out;have:=HB.out.size;omega)
   obtain ⟨o0,ho0⟩:∃ o:OpV,o=⟨0,c1,1+c2,c3,1+a5,c4,1+c6,a7⟩:=⟨_,rfl⟩
   go_upto_if 53 with fail
   go_cut [8] (fun s8 wx=>∃ mk:Int,s8=.pointer (some ⟨bs+1,0,none⟩)∧(0≤mk∧mk≤18446744073709551615)∧ScB wx (bs+1) { o0 with mask:=mk }∧Below wr.heap.size wr wx∧wx.cell? ⟨bs,0,none⟩=some (.int .u8 a0))
   case first =>
    rw [← HW1.out]
    have e1:wr.heap.size+1=W1.heap.size:=HS1.out.symm
    rw [e1,← HBS.out]
    have S0:ScB (W1.alloc (.cells #[.int .u8 0,.int .i64 c1,.int .i64 (1+c2),.int .i64 c3,.int .i64 (1+a5),.int .i64 c4,.int .i64 (1+c6),.int .u64 a7] 41)) W1.heap.size o0:=by
     rw [ho0]
     exact ⟨OpBox.new W1 ⟨0,c1,1+c2,c3,1+a5,c4,1+c6,a7⟩ _,fun j=>frz_nw _ _ _ j⟩
    have hb2:=below_a W1 (.cells #[.int .u8 0,.int .i64 c1,.int .i64 (1+c2),.int .i64 c3,.int .i64 (1+a5),.int .i64 c4,.int .i64 (1+c6),.int .u64 a7] 41)
    obtain ⟨W2,hW2⟩:∃ W,W=W1.alloc (.cells #[.int .u8 0,.int .i64 c1,.int .i64 (1+c2),.int .i64 c3,.int .i64 (1+a5),.int .i64 c4,.int .i64 (1+c6),.int .u64 a7] 41):=⟨_,rfl⟩
    rw [← hW2] at S0 hb2 ⊢
    have e2:W1.heap.size=bs+1:=by have:=HBS.out;omega
    have k0:=cell_later hb2 s0
    rw [e2] at S0 ⊢
    have HB2:=Lib.hid (Below.step HB1.out hb2)
    have HS0:=Lib.hid S0
    have HO0:=Lib.hid ho0
    have x1:W2.cell? ⟨bs+1,1,none⟩=some (.int .i64 c1):=by have:=S0.box.c1;rw [ho0] at this;exact this
    have x5:W2.cell? ⟨bs+1,5,none⟩=some (.int .i64 c4):=by have:=S0.box.c5;rw [ho0] at this;exact this
    have x7:W2.cell? ⟨bs+1,7,none⟩=some (.int .u64 a7):=by have:=S0.box.c7;rw [ho0] at this;exact this
    have f7:=S0.z 7
    clear hW2 hb2 S0 e1 e2 ho0
    by_cases h7:0<c7
    ·have z7:decide ((c7:Int) > 0)=true:=decide_eq_true (by omega)
     have z7':decide (0<c7)=true:=decide_eq_true h7
     go_wp2_with fail
     obtain ⟨m1,hm1⟩:∃ m1,m1=IntKind.u64.wrap (IntKind.u64.wrap (2 ^ (1+c4)) - 1):=⟨_,rfl⟩
     rw [← hm1]
     clear hm1
     have S1:=HS0.out.mask m1
     have B1:=HB2.out.setCell (p:=⟨bs+1,7,none⟩) (by have:=HBS.out;show wr.heap.size≤bs+1;omega) (.int .u64 m1)
     have k1:=cell_set_ne (b':=bs+1) (o':=7) (u:=.int .u64 m1) k0 (Or.inl (by omega))
     obtain ⟨W3,hW3⟩:∃ W,W=W2.setCell ⟨bs+1,7,none⟩ (.int .u64 m1):=⟨_,rfl⟩
     rw [← hW3] at S1 B1 k1 ⊢
     have y1:W3.cell? ⟨bs+1,1,none⟩=some (.int .i64 c1):=by have:=S1.box.c1;rw [HO0.out] at this;exact this
     have y7:W3.cell? ⟨bs+1,7,none⟩=some (.int .u64 m1):=S1.box.c7
     have g7:=S1.z 7
     have HS1b:=Lib.hid S1
     have HB1b:=Lib.hid B1
     clear hW3 S1 B1 x1 x5 x7 f7
     go_region
     have hm2:=bits_rng BinOp.or m1 (IntKind.u64.wrap (2 ^ c1))
     generalize bits BinOp.or IntKind.u64 m1 (IntKind.u64.wrap (2 ^ c1))=m2 at *
     have S2:=(HS1b.out.mask m2).later (Below.refl _ _).drew
     have B2:=(HB1b.out.setCell (p:=⟨bs+1,7,none⟩) (by have:=HBS.out;show wr.heap.size≤bs+1;omega) (.int .u64 m2)).drew
     have k2:=cell_dr (cell_set_ne (b':=bs+1) (o':=7) (u:=.int .u64 m2) k1 (Or.inl (by omega)))
     rw [HBS.out] at S2 B2 k2 ⊢
     go_wp2_with fail
     go_meet
     case rel =>
      rw [HBS.out]
      exact ⟨m2,rfl,hm2,S2,B2,k2⟩
    ·have z7:decide ((c7:Int) > 0)=false:=decide_eq_false (by omega)
     have z7':decide (0<c7)=false:=decide_eq_false h7
     go_wp2_with fail
     rw [HBS.out]
     go_meet
     case rel =>
      refine ⟨a7,by rw [HBS.out],⟨b7.1,by omega⟩,?_,HB2.out,k0⟩
      have:=HS0.out
      rw [HO0.out] at this ⊢
      exact this
   case rest =>
    obtain ⟨mk,rfl,hmk,hS,hB3,k0⟩:=hcut
    have ix:=fun W=>kTab_at c0 l0 W
    have S4:=hS
    obtain ⟨oz,hoz⟩:∃ o:OpV,o=⟨kTab c0,c1,1+c2,c3,1+a5,c4,1+c6,mk⟩:=⟨_,rfl⟩
    have HWF:=Lib.hid (show oz.Wf by
     rw [hoz]
     exact ⟨kTab_in c0,wfI (by show _≤(c1:Int);omega) (by show (c1:Int)≤_;omega),wfI (by show _≤1+(c2:Int);omega) (by show 1+(c2:Int)≤_;omega),wfI (by show _≤(c3:Int);omega) (by show (c3:Int)≤_;omega),wfI (by show _≤1+a5;omega) (by show 1+a5≤_;omega),wfI (by show _≤(c4:Int);omega) (by show (c4:Int)≤_;omega),wfI (by show _≤1+(c6:Int);omega) (by show 1+(c6:Int)≤_;omega),hmk⟩)
    rw [ho0] at hS
    have x0:wc.cell? ⟨bs+1,0,none⟩=some (.int .u8 0):=hS.box.c0
    have x1:wc.cell? ⟨bs+1,1,none⟩=some (.int .i64 c1):=hS.box.c1
    have x2:wc.cell? ⟨bs+1,2,none⟩=some (.int .i64 (1+c2)):=hS.box.c2
    have x3:wc.cell? ⟨bs+1,3,none⟩=some (.int .i64 c3):=hS.box.c3
    have x4:wc.cell? ⟨bs+1,4,none⟩=some (.int .i64 (1+a5)):=hS.box.c4
    have x5:wc.cell? ⟨bs+1,5,none⟩=some (.int .i64 c4):=hS.box.c5
    have x6:wc.cell? ⟨bs+1,6,none⟩=some (.int .i64 (1+c6)):=hS.box.c6
    have x7:wc.cell? ⟨bs+1,7,none⟩=some (.int .u64 mk):=hS.box.c7
    have f0:=hS.z 0
    have hown5:=own_below hown.out hB3
    have hbs:w.heap.size≤bs+1:=by have:=HU.out;omega
    have hgb:bs+1<wc.heap.size:=hS.box.lt
    have HB5:=Lib.hid (Below.step HB.out hB3)
    have L5:=Lib.hid (show ∀ g,u5.ownBlock=some g→g<wr.heap.size from fun g hg=>(hown.out.lt g hg).2)
    have hk6:Kept [bs+1] wc (wc.setCell ⟨bs+1,0,none⟩ (.int .u8 (kTab c0))):=(Kept.refl _ _).setCell (Or.inl (by simp)) _
    have hown6:=own_below (own_kept hown5 hk6 (fun g hg m=>by have:=L5.out g hg;have:=HBS.out;simp at m;omega)) (below_a (wc.setCell ⟨bs+1,0,none⟩ (.int .u8 (kTab c0))) (.cells #[.int .u8 (kTab c0),.int .i64 c1,.int .i64 (1+c2),.int .i64 c3,.int .i64 (1+a5),.int .i64 c4,.int .i64 (1+c6),.int .u64 mk] 41))
    have HB6:=Lib.hid (Below.allocS (HB5.out.setCell (p:=⟨bs+1,0,none⟩) hbs (.int .u8 (kTab c0))) (.cells #[.int .u8 (kTab c0),.int .i64 c1,.int .i64 (1+c2),.int .i64 c3,.int .i64 (1+a5),.int .i64 c4,.int .i64 (1+c6),.int .u64 mk] 41))
    have HOZ:=Lib.hid hoz
    have hk1000:k<1000:=by have:=hmm.out;omega
    rw [← HBS.out]
    clear hS S4 ho0 hB3 hmk HW1 hoz
    go_wp2_with (at_builtin;refine wpList_append_own2 rfl (.tmp 73) (.tmp 75) 29 rfl w.heap.size 41 io (.agg #[.int .u8 0,.int .i64 0,.int .i64 0,.int .i64 0,.int .i64 0,.int .i64 0,.int .i64 0,.int .u64 0]) 8 64 Tryz.underlying29 hi hz0 hz1 hz2 rfl (by decide) _ k (flatR encOl ops) rfl ?c0 _ 1 1 (encOl oz) rfl rfl ?c2 ?c3 ?c4 ?c5 ?c6 (by decide) ?_)
    case c0=>exact hown6
    case c2=>exact fun j q hq=>by rw [addN,Nat.zero_add];rw [HOZ.out] at hq;exact cellN (by simp) (by simpa [encOl] using hq)
    case c3=>exact fun q hq=>by unfold encOl at hq;simp at hq;rcases hq with rfl | rfl | rfl | rfl | rfl | rfl | rfl | rfl <;> rfl
    case c4=>unfold maxLen;omega
    case c5=>omega
    case c6=>exact HB6.out.size
    intro v' w6 oa ga pa
    have HO6:=Lib.hid (show w6.ownsRow w.heap.size 41 8 v' (k+1) (flatR encOl (ops++[oz])) by rw [flatR_app];exact oa)
    have HB7:=Lib.hid (HB6.out.grown ga HB6.out.size (fun g hg=>(hown6.lt g hg).1))
    have HW7:=Lib.hid (show ∀ o∈ops++[oz],o.Wf from fun o ho=>by
     rcases List.mem_append.1 ho with q | q
     ·exact hwf.out o q
     ·simp at q;subst q;exact HWF.out)
    have HL7:=Lib.hid (show (ops++[oz]).length=k+1 by rw [List.length_append,hlen.out];rfl)
    clear oa ga pa hown6 hown5
    go_wp2_with fail
    go_roundw
    case rel=>exact ⟨k+1,ops++[oz],by omega,by go_num,HW7,HL7,HO6,HB7.out⟩
    case measure=>simp [intOf];omega
  ·obtain rfl:k=m:=by omega
   have z0:decide ((k:Int)<(k:Int))=false:=decide_eq_false (by omega)
   go_wp2_with fail
   go_ret
   exact ⟨_,ops,rfl,hwf.out,by have:=hlen.out;have:=hmm.out;omega,by rw [hlen.out];exact hown.out,HB.out⟩
end Go.Proofs.YtapnaocdehahdaaGreat
