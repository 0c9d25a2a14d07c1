/-
Layer 31 (sched): the whole state, in plain words and in memory.
Layer 31 (sched): the keys of the tasks, sorted.
Layer 31 (sched): spot.
Layer 31 (sched): State's parts: slices.Clone; a state's box.
Layer 31 (sched): State.
The kit's SameState at two states that are the same.
Layer 31's statements: what their walks share.
State, as its user sees it; what is refused.
Picks; what is held off some blocks.
-/
import Derived.Test.YtapnaocdehahdaaGreatSchTk
import Derived.Test.YtapnaocdehahdaaGreatSchVm
import Derived.Lib.SlKeysI
import Derived.Test.YtapnaocdehahdaaGreatSchLy
import Derived.Test.YtapnaocdehahdaaGreatSchSc
import Derived.Test.YtapnaocdehahdaaGreatSchO
import Derived.Test.YtapnaocdehahdaaGreatSchWm
namespace Go.Proofs.YtapnaocdehahdaaGreat
open Go.RowKit Go.Maps Go.IntWalk Go.Lib
set_option linter.unusedVariables false
set_option linter.unusedSimpArgs false
/-- a task as a state has it -/
structure TVw where
 id:Int
 g:Int
 w:Int
 cpu:Int
 mask:Int
 rdy:Bool
 v:Int
 r:Int
/-- A WHOLE STATE -/
structure Sta where
 C:Int
 cr:Int
 Gs:Grps
 cl:List Int
 cu:List Int
 ts:List TVw
 sp:List (List (Int×Int×Int))
/-- what a group has run on a CPU -/
def spotE (s:SSt) (g k:Nat):Ent:=if g > 0∧((s.Q k).M g).isEmpty=false then getE ((s.Q k).M (parG s.Gs g)) (65536+(g:Int)) else (s.Q k).A g
def viewOf (s:SSt) (id:Int):TVw:=match s.T id with
 | some t=>⟨id,t.g,t.w,t.cpu,t.mask,t.rdy,(ranX s id t).1,(ranX s id t).2.1⟩
 | none=>⟨id,0,0,0,0,false,0,0⟩
def spRow (s:SSt) (g:Nat):List (Int×Int×Int):=(List.range s.C).map fun k=>((spotE s g k).1,(spotE s g k).2.1,(s.Q k).fl g)
def staOf (s:SSt):Sta:=⟨s.C,s.cr,s.Gs,(List.range s.C).map s.cl,(List.range s.C).map s.cu,(keysL s).map (viewOf s),(List.range s.n).map (spRow s)⟩
theorem staOf_wk (s:SSt) (v:Nat):staOf { s with wk:=v }=staOf s:=rfl
/-! ### the keys,sorted -/
theorem keysL_sorted (s:SSt):(keysL s).Pairwise fun a b=>a≤b:=by
 unfold keysL
 refine List.Pairwise.filter _ (List.pairwise_map.2 ?_)
 refine List.Pairwise.imp (fun {a b} h=>?_) (List.pairwise_lt_range (n:=65536))
 omega
theorem sort_keys {s:SSt} {ss:List Int} (h:ss.Perm (keysL s)):ss.mergeSort (fun x y=>decide (x≤y))=keysL s:=by
 have tr:∀ a b c:Int,decide (a≤b)=true→decide (b≤c)=true→decide (a≤c)=true:=fun a b c h1 h2=>by simp only [decide_eq_true_eq] at *;omega
 have tot:∀ a b:Int,(decide (a≤b) || decide (b≤a))=true:=fun a b=>by simp only [Bool.or_eq_true,decide_eq_true_eq];omega
 refine List.Perm.eq_of_pairwise (le:=fun a b=>decide (a≤b)=true) (fun a b _ _ h1 h2=>?_) (List.pairwise_mergeSort tr tot ss) ((keysL_sorted s).imp fun {a b} q=>decide_eq_true q) ((List.mergeSort_perm ss _).trans h)
 simp only [decide_eq_true_eq] at h1 h2
 omega
/-! ### in memory -/
def encTl (t:TVw):List Value:=[.int .i64 t.id,.int .i64 t.g,.int .i64 t.w,.int .i64 t.cpu,.int .u64 t.mask,.bool t.rdy,.int .u64 t.v,.int .u32 t.r]
def encSp (x:Int×Int×Int):List Value:=[.int .u64 x.1,.int .u32 x.2.1,.int .u64 x.2.2]
def encZ1 (x:Int):List Value:=[.int .i64 x]
def encSl (x:Option Addr×Nat×Nat):List Value:=[.slice x.1 x.2.1 x.2.2]
theorem encTl_ok:Enc encTl 8:=⟨fun _=>rfl,fun x u hu=>by simp [encTl] at hu;rcases hu with rfl | rfl | rfl | rfl | rfl | rfl | rfl | rfl <;> rfl,by decide⟩
theorem encSp_ok:Enc encSp 3:=⟨fun _=>rfl,fun x u hu=>by simp [encSp] at hu;rcases hu with rfl | rfl | rfl <;> rfl,by decide⟩
theorem encZ1_ok:Enc encZ1 1:=⟨fun _=>rfl,fun x u hu=>by simp [encZ1] at hu;subst hu;rfl,by decide⟩
theorem encSl_ok:Enc encSl 1:=⟨fun _=>rfl,fun x u hu=>by simp [encSl] at hu;subst hu;rfl,by decide⟩
/-- rows of spots in memory,in none of the blocks of F -/
structure SpotsH (F:List Nat) (w:World) (v:Value) (sp:List (List (Int×Int×Int))):Prop where
 rows:∃ l:List (Option Addr×Nat×Nat),l.length=sp.length∧HeldR encSl F w v l∧∀ (i:Nat) (a:Option Addr×Nat×Nat) (x:List (Int×Int×Int)),l[i]?=some a→sp[i]?=some x→HeldR encSp F w (.slice a.1 a.2.1 a.2.2) x
/-- A STATE IN MEMORY,in none of the blocks of F -/
structure StaH (F:List Nat) (w:World) (v:Value) (σ:Sta):Prop where
 is:∃ vg vl vu vt vs,v=.agg #[.int .i64 σ.C,.int .u64 σ.cr,vg,vl,vu,vt,vs]∧HeldR encG F w vg σ.Gs∧HeldR encZ1 F w vl σ.cl∧HeldR encZ1 F w vu σ.cu∧HeldR encTl F w vt σ.ts∧SpotsH F w vs σ.sp
section
variable {F F':List Nat} {w w':World} {v:Value} {σ:Sta}
theorem SpotsH.step {sp:List (List (Int×Int×Int))} (h:SpotsH F w v sp) (hk:Kept F w w') (hn:∀ b∈F',b∈F∨w.heap.size≤b):SpotsH F' w' v sp:=by
 obtain ⟨l,h1,h2,h3⟩:=h.rows
 exact ⟨l,h1,h2.step hk hn,fun i a x q r=>(h3 i a x q r).step hk hn⟩
theorem StaH.step (h:StaH F w v σ) (hk:Kept F w w') (hn:∀ b∈F',b∈F∨w.heap.size≤b):StaH F' w' v σ:=by
 obtain ⟨vg,vl,vu,vt,vs,e,h1,h2,h3,h4,h5⟩:=h.is
 exact ⟨vg,vl,vu,vt,vs,e,h1.step hk hn,h2.step hk hn,h3.step hk hn,h4.step hk hn,h5.step hk hn⟩
theorem StaH.later (h:StaH F w v σ) (hb:Below w.heap.size w w'):StaH F w' v σ:=h.step (Kept.of hb) fun b q=>Or.inl q
end
end Go.Proofs.YtapnaocdehahdaaGreat
namespace Go.Proofs.YtapnaocdehahdaaGreat
open Go.RowKit Go.Maps Go.IntWalk Go.Lib Go.Sort Go.Shelf
set_option linter.unusedVariables false
set_option linter.unusedSimpArgs false
theorem sortsNum (m:Nat):AnyZI.SortsIn Tryz.prog sortedRun_ren Fence.wide m:=
 ⟨fun blk off cap ss W hH hblk hsz=>callsIn_wide.2 (AnyM.slices_Sort_int sortNumRun blk off cap ss W hH hblk hsz),
 fun p cap W=>callsIn_wide.2 (AnyM.slices_Sort_int_none sortNumRun p cap W)⟩
/-- the keys of the map are the tasks' numbers -/
theorem SRaw.keysD {w:World} {x:Nat} {L:SLay} {s:SSt} (h:SRaw w x L s) (ho:SOk s):∃ D:DataW Unit,w.ownsMap Tryz.prog 3 readP L.bm s.c D∧Maps.size D=s.c∧(keysL s).Perm (intKeys D):=by
 obtain ⟨D,hown,hsz,hhas,_⟩:=h.map
 obtain ⟨es,hD,hpw,_⟩:=hown.entries lawI
 obtain ⟨es',hD',hko⟩:=hown.keysOf
 obtain rfl:es=es':=by rw [hD] at hD';simpa using hD'
 refine ⟨D,hown,hsz,?_⟩
 subst hD
 refine perm_intKeys hpw (fun p hp=>by obtain ⟨v,hv⟩:=hko p hp;obtain ⟨x,_,hx,_⟩:=Maps.keyOf_i64 Tryz.underlying3 hv;exact ⟨x,hx⟩) (keysL_nod s) fun id=>?_
 rw [keysL_mem ho,hhas]
 show _↔((s.T id).map _).isSome=true
 rw [Option.isSome_map]
theorem keys_at (mb:Option Nat) (w:World):Calls Tryz.prog 51 #[.map mb] w fun e w'=>e=.returned (.func (.func 110) #[] #[.pointer (some ⟨w.heap.size,0,none⟩)])∧w'=w.alloc (.cells #[.map mb] 96):=by
 have cK:CallsIn Fence.wide 5 Tryz.prog 51 #[.map mb] w fun e w'=>e=.returned (.func (.func 110) #[] #[.pointer (some ⟨w.heap.size,0,none⟩)])∧w'=w.alloc (.cells #[.map mb] 96):=AnyZI.keys_in keysRun Fence.wide 5 trivial rfl mb w
 exact callsIn_wide.1 cK
def SortP (s:SSt) (w:World) (e:Ending) (w':World):Prop:=∃ a c,e=.returned (.slice a s.c c)∧w'.ownsRow w.heap.size 3 1 (.slice a s.c c) s.c (flatR encZ1 (keysL s))∧Below w.heap.size w w'
theorem flatZ1:∀ l:List Int,flatR encZ1 l=l.map encZ
 | []=>rfl
 | a::r=>by
  have e:flatR encZ1 (a::r)=encZ1 a++flatR encZ1 r:=rfl
  rw [e,flatZ1 r]
  rfl
set_option maxHeartbeats 1000000 in
theorem sorted_at {w:World} {x:Nat} {L:SLay} {s:SSt} (h:SRaw w x L s) (ho:SOk s) (W:World) (hW:W=w.alloc (.cells #[.map (some L.bm)] 96)) :
  Calls Tryz.prog 50 #[.func (.func 110) #[] #[.pointer (some ⟨w.heap.size,0,none⟩)]] W (SortP s W):=by
 subst hW
 obtain ⟨D,hown,hsz,hperm⟩:=h.keysD ho
 have hbl:=hown.lt
 have hfew:=ho.few
 have hmax:Maps.size D≤maxLen:=by rw [hsz];unfold maxLen;omega
 have hbytes:Maps.size D*8≤140737488355328:=by rw [hsz];omega
 have hseq:SeqGives Fence.wide 2 Tryz.prog 110 #[.pointer (some ⟨w.heap.size,0,none⟩)] encZ (fun ss=>ss.Perm (intKeys D)) (Maps.size D) (w.alloc (.cells #[.map (some L.bm)] 96)):=
  AnyZI.keys_gives (ρ:=keysRun_ren) { keysRun with } Fence.wide _ trivial rfl (by omega) w.heap.size L.bm s.c D _ (by simp) (by simp) (by
   obtain ⟨es,clock,hb,Ft,hs,hD⟩:=hown
   exact ⟨es,clock,(Below.heap_alloc _ _ L.bm hbl).trans hb,Ft,hs,hD⟩)
 have cS:=AnyZI.sorted_in sortedRun Fence.wide 5 trivial trivial trivial trivial rfl (by omega) (sortsNum _) (enters_of Tryz.func109 (by kernel_rfl) rfl) 110 #[.pointer (some ⟨w.heap.size,0,none⟩)] trivial (enters_of Tryz.func110 (by kernel_rfl) rfl) _ _ hmax hbytes _ hseq
 change CallsIn _ _ Tryz.prog 50 _ _ _ at cS
 refine (callsIn_wide.1 cS).mono ?_
 rintro e w' ⟨v,ss,rfl,hS,hrow,hnil,hb⟩
 have hk:ss.Perm (keysL s):=hS.trans hperm.symm
 have hl:ss.length=s.c:=by rw [hk.length_eq,ho.keys_len]
 have e1:ss.mergeSort (fun x y=>decide (x≤y))=keysL s:=sort_keys hk
 have e2:(ss.mergeSort (fun x y=>decide (x≤y))).map encZ=flatR encZ1 (keysL s):=by rw [e1,flatZ1]
 rw [e2,hl] at hrow
 obtain ⟨a,c,rfl⟩:∃ a c,v=.slice a s.c c:=by
  rcases hrow.2 with ⟨rfl,h0⟩ | ⟨g,cap,cur,rfl,_⟩
  ·exact ⟨none,0,by rw [h0]⟩
  ·exact ⟨_,cap,rfl⟩
 exact ⟨a,c,rfl,hrow,hb⟩
end Go.Proofs.YtapnaocdehahdaaGreat
namespace Go.Proofs.YtapnaocdehahdaaGreat
open Go.RowKit Go.Maps Go.IntWalk Go.Lib
set_option linter.unusedVariables false
set_option linter.unusedSimpArgs false
set_option maxRecDepth 100000 in
set_option maxHeartbeats 4000000 in
theorem xspot_at {w:World} {x:Nat} {L:SLay} {s:SSt} {g k:Nat} (h:SRaw w x L s) (ho:SOk s) (hg:g<s.n) (hk:k<s.C) :
  Calls Tryz.prog 53 #[.pointer (some ⟨x,0,none⟩),.int .i64 g,.int .i64 k] w fun e w'=>e=.returned (.agg #[.int .u64 (spotE s g k).1,.int .u32 (spotE s g k).2.1,.int .u32 (spotE s g k).2.2])∧Below w.heap.size w w':=by
 have hn256:s.n≤256:=ho.right.le
 obtain ⟨W0,hW0⟩:∃ W0,W0=w.alloc (.cells #[.int .u64 0,.int .u32 0,.int .u32 0] 107):=⟨_,rfl⟩
 have HB0:=Lib.hid (show Below w.heap.size w W0 by rw [hW0];exact below_a _ _)
 have h0:=h.below HB0.out
 have z0:W0.cell? ⟨w.heap.size,0,none⟩=some (.int .u64 0):=by rw [hW0];exact cell_nw _ _ _ 0 _ rfl
 have z1:W0.cell? ⟨w.heap.size,1,none⟩=some (.int .u32 0):=by rw [hW0];exact cell_nw _ _ _ 1 _ rfl
 have z2:W0.cell? ⟨w.heap.size,2,none⟩=some (.int .u32 0):=by rw [hW0];exact cell_nw _ _ _ 2 _ rfl
 have g0:W0.frozen? ⟨w.heap.size,0,none⟩=false:=by rw [hW0];exact frz_nw _ _ _ 0
 have g1:W0.frozen? ⟨w.heap.size,1,none⟩=false:=by rw [hW0];exact frz_nw _ _ _ 1
 have g2:W0.frozen? ⟨w.heap.size,2,none⟩=false:=by rw [hW0];exact frz_nw _ _ _ 2
 have LT:=Lib.hid (show w.heap.size<W0.heap.size by rw [hW0];simp)
 have HW0:=Lib.hid hW0
 obtain ⟨cq,x6⟩:∃ c,W0.cell? ⟨x,6,none⟩=some (.slice (some ⟨L.bq,0,none⟩) s.n c):=h0.head.c6
 obtain ⟨ca,x7⟩:∃ c,W0.cell? ⟨x,7,none⟩=some (.slice (some ⟨L.ba,0,none⟩) s.n c):=h0.head.c7
 obtain ⟨cr0,q6⟩:∃ c,W0.cell? ⟨L.bq,g,none⟩=some (.slice (some ⟨L.rq g,0,none⟩) s.C c):=h0.rq.c g hg
 have v6:W0.cell? ⟨L.rq g,k,none⟩=some (.pointer (some ⟨L.qp g k,0,none⟩)):=(h0.qc g hg).c k hk
 obtain ⟨cr1,q7⟩:∃ c,W0.cell? ⟨L.ba,g,none⟩=some (.slice (some ⟨L.ra g,0,none⟩) s.C c):=h0.ra.c g hg
 obtain ⟨a0,a1,a2⟩:=(h0.ac g hg).c k hk
 have hgm:(g:Int)<(s.n:Int):=by omega
 have hkm:(k:Int)<(s.C:Int):=by omega
 have A2:=Lib.hid (Len_at' W0 (h0.q g k hg hk))
 have hx3:¬ x=w.heap.size:=by have:=h.head.lt;omega
 have hx4:¬ L.ba=w.heap.size:=by have:=h.ra.lt;omega
 have hx5:¬ L.ra g=w.heap.size:=by have:=(h.ac g hg).lt;omega
 obtain ⟨m,hm⟩:∃ m,m=((s.Q k).M g).length:=⟨_,rfl⟩
 by_cases hc:g > 0∧((s.Q k).M g).isEmpty=false
 ·have e1:spotE s g k=getE ((s.Q k).M (parG s.Gs g)) (65536+(g:Int)):=by unfold spotE;rw [if_pos hc]
  have hm1:0<m:=by
   rw [hm]
   cases e:(s.Q k).M g with
   | nil=>rw [e] at hc;simp at hc
   | cons a r=>simp
  have y1:decide ((g:Int) > 0)=true:=decide_eq_true (by omega)
  have y1':decide (0<g)=true:=decide_eq_true hc.1
  have y2:decide ((m:Int) > 0)=true:=decide_eq_true (by omega)
  have y2':decide (0<m)=true:=decide_eq_true hm1
  have y3:IntKind.i64.wrap (65536+(g:Int))=65536+(g:Int):=IntWalk.i64_in _ (by omega)
  obtain ⟨p,hp⟩:∃ p,p=parG s.Gs g:=⟨_,rfl⟩
  have hpg:p<s.n:=by rw [hp];have:=(ho.right.par (show g<s.Gs.length from hg)).2.2;omega
  have hpm:(p:Int)<(s.n:Int):=by omega
  have hid:(Lit.int .i64 (65536+(g:Int))).wf=true:=wfI (by omega) (by omega)
  obtain ⟨cr',r6⟩:∃ c,W0.cell? ⟨L.bq,p,none⟩=some (.slice (some ⟨L.rq p,0,none⟩) s.C c):=h0.rq.c p hpg
  have p6:W0.cell? ⟨L.rq p,k,none⟩=some (.pointer (some ⟨L.qp p k,0,none⟩)):=(h0.qc p hpg).c k hk
  have HR:=Lib.hid (h0.below (Below.refl _ _).drew)
  have HRa:=Lib.hid (h0.below ((below_a W0 (.cells #[.int .u64 0,.int .u32 0,.int .u32 0] 107)).drew))
  have A3:=Lib.hid fun W (hW:SRaw W x L s)=>(show Calls Tryz.prog 112 #[.pointer (some ⟨x,0,none⟩),.int .i64 g] W fun e w'=>e=.returned (.int .i64 (p:Nat))∧W=w' by rw [hp];exact xparent_at hW ho.right hg)
  have A1:=Lib.hid fun W (hW:SRaw W x L s)=>(show Calls Tryz.prog 113 #[.pointer (some ⟨L.qp p k,0,none⟩),.int .i64 (65536+(g:Int))] W fun e w'=>e=.returned (.tuple #[.agg #[.int .u64 (spotE s g k).1,.int .u32 (spotE s g k).2.1,.int .u32 (spotE s g k).2.2],.bool (entM ((s.Q k).M p) (65536+(g:Int))).isSome])∧Below W.heap.size W w' by rw [e1,← hp];exact Get_at _ W (hW.q p k hpg hk) hid)
  have n1:x∉[W0.heap.size]:=by have:=lt_of_cell x6;simp;omega
  have n2:L.bq∉[W0.heap.size]:=by have:=lt_of_cell r6;simp;omega
  have n3:L.rq p∉[W0.heap.size]:=by have:=lt_of_cell p6;simp;omega
  obtain ⟨xe,hxe⟩:∃ xe,xe=spotE s g k:=⟨_,rfl⟩
  rw [← hxe] at A1 ⊢
  obtain ⟨bx,hbx⟩:∃ b,b=w.heap.size:=⟨_,rfl⟩
  rw [← hbx] at z0 z1 z2 g0 g1 g2 LT
  rw [← hm] at A2
  have HBX:=Lib.hid hbx
  clear h ho e1 h0 hid hW0 hxe hbx hc hm hm1 hp a0 a1 a2 x7 q7 hx3 hx4 hx5
  go_enter Tryz.func53,Tryz.ntmps53
  go_upto_region 1 with fail
  rw [← HW0.out,← HBX.out]
  go_wp2_with fail
  refine A2.out.mono ?_;rintro e w5 ⟨rfl,rfl⟩
  go_wp2_with fail
  refine startA (S:=fun w'=>Kept [W0.heap.size] W0 w'∧w'.cell? ⟨x,6,none⟩=some (.slice (some ⟨L.bq,0,none⟩) s.n cq)∧w'.cell? ⟨L.bq,p,none⟩=some (.slice (some ⟨L.rq p,0,none⟩) s.C cr')∧w'.cell? ⟨L.rq p,k,none⟩=some (.pointer (some ⟨L.qp p k,0,none⟩))) ⟨Kept.refl _ _,x6,r6,p6⟩ (fun h=>heldK_3 (kept_dr _ _) h) (fun hS0 hHeld=>?_)
  refine takeA 0 ?_
  refine takeA 1 ?_
  refine takeA 2 ?_
  refine takeA 3 ?_
  refine takeA 4 ?_
  refine takeA 5 ?_
  refine takeA 9 ?_
  refine takeA 12 ?_
  refine takeA 13 ?_
  refine readyA [6,18] (consA (fun K hK=>?_) (consA (fun K hK=>?_) .nil))
  ·skip
   go_simp
   refine (A3.out _ HR.out).mono ?_
   rintro e w_ ⟨rfl,rfl⟩
   go_wp2_with fail
   refine outA hK kpK_3 (fun hHeld6=>?_)
   clear hK K
   refine takeA 7 ?_
   refine takeA 8 ?_
   refine takeA 10 ?_
   refine takeA 11 ?_
   refine readyA [14,18] (consA (fun K hK=>?_) (consA (fun K hK=>?_) .nil))
   ·skip
    go_simp
    refine (A1.out _ HR.out).mono ?_
    rintro e w13 ⟨rfl,hb13⟩
    have hk13:=Kept.of (S:=[W0.heap.size]) hb13
    have HB13:=Lib.hid (Below.step (Below.refl W0.heap.size W0).drew hb13)
    go_wp2_with fail
    refine outA hK kpK_3 (fun hHeld14=>?_)
    clear hK K
    refine takeA 15 ?_
    refine takeA 16 ?_
    refine takeA 17 ?_
    refine readyA [18] (consA (fun K hK=>?_) .nil)
    go_simp
    refine outA hK kpK_3 (fun hHeld18=>?_)
    clear hK K
    refine readyA [19] (consA (fun K hK=>?_) .nil)
    go_simp
    have hk18:=(((Kept.refl [W0.heap.size] w13).setCell (p:=⟨W0.heap.size,0,none⟩) (Or.inl (by simp)) (.int .u64 xe.1)).setCell (p:=⟨W0.heap.size,1,none⟩) (Or.inl (by simp)) (.int .u32 xe.2.1)).setCell (p:=⟨W0.heap.size,2,none⟩) (Or.inl (by simp)) (.int .u32 xe.2.2)
    refine outA hK kpK_3 (fun hHeld19=>?_)
    clear hK K
    refine takeA 20 ?_
    refine doneA ?_
    first
     | (
      obtain ⟨W3,hW3⟩:∃ X,X=w13.alloc (.cells #[.int .u64 xe.1,.int .u32 xe.2.1,.int .u32 xe.2.2] 107):=⟨_,rfl⟩
      rw [← hW3]
      obtain ⟨b18,hb18⟩:∃ b,b=w13.heap.size:=⟨_,rfl⟩
      rw [← hb18]
      have x0:W3.cell? ⟨b18,0,none⟩=some (.int .u64 xe.1):=by rw [hW3];exact cell_nwE hb18 _ _ 0 _ rfl
      have x1:W3.cell? ⟨b18,1,none⟩=some (.int .u32 xe.2.1):=by rw [hW3];exact cell_nwE hb18 _ _ 1 _ rfl
      have x2:W3.cell? ⟨b18,2,none⟩=some (.int .u32 xe.2.2):=by rw [hW3];exact cell_nwE hb18 _ _ 2 _ rfl
      have hB3:Below W0.heap.size W0 W3:=by rw [hW3];exact Below.allocS HB13.out _)
     | (
      obtain ⟨W3,hW3⟩:∃ X,X=(((w13.setCell ⟨W0.heap.size,0,none⟩ (.int .u64 xe.1)).setCell ⟨W0.heap.size,1,none⟩ (.int .u32 xe.2.1)).setCell ⟨W0.heap.size,2,none⟩ (.int .u32 xe.2.2)):=⟨_,rfl⟩
      rw [← hW3]
      obtain ⟨b18,hb18⟩:∃ b,b=W0.heap.size:=⟨_,rfl⟩
      rw [← hb18]
      have x0:W3.cell? ⟨b18,0,none⟩=some (.int .u64 xe.1):=by rw [hW3,hb18];exact cell_set_ne (cell_set_ne (cell_set_eq x0) (Or.inr (by omega))) (Or.inr (by omega))
      have x1:W3.cell? ⟨b18,1,none⟩=some (.int .u32 xe.2.1):=by rw [hW3,hb18];exact cell_set_ne (cell_set_eq (cell_set_ne x1 (Or.inr (by omega)))) (Or.inr (by omega))
      have x2:W3.cell? ⟨b18,2,none⟩=some (.int .u32 xe.2.2):=by rw [hW3,hb18];exact cell_set_eq (cell_set_ne (cell_set_ne x2 (Or.inr (by omega))) (Or.inr (by omega)))
      have hB3:Below W0.heap.size W0 W3:=by rw [hW3];exact ((HB13.out.setCell (by simp) _).setCell (by simp) _).setCell (by simp) _)
    clear hW3 hb18
    replace z0:=cell_later hB3 z0
    replace z1:=cell_later hB3 z1
    replace z2:=cell_later hB3 z2
    replace g0:=frz_later hB3 g0 LT.out
    replace g1:=frz_later hB3 g1 LT.out
    replace g2:=frz_later hB3 g2 LT.out
    have HB4:=Lib.hid (Below.step HB0.out hB3)
    clear hS0 hHeld hB3
    go_wp2_with fail
    refine bodyPost_ret (v:=.agg #[.int .u64 xe.1,.int .u32 xe.2.1,.int .u32 xe.2.2]) (by simp [results,Tryz.results53,go_sem,z0,z1,z2,g0,g1,g2]) rfl ⟨rfl,?_⟩
    have hbn:w.heap.size≤bx:=by have:=HBX.out;omega
    exact ((HB4.out.setCell hbn _).setCell hbn _).setCell hbn _
   ·skip
    go_simp
    refine outA hK kpK_3 (fun hHeld18=>?_)
    clear hK K
    refine readyA [14] (consA (fun K hK=>?_) .nil)
    go_simp
    refine (A1.out _ HRa.out).mono ?_
    rintro e w13 ⟨rfl,hb13⟩
    have hk13:=Kept.of (S:=[W0.heap.size]) hb13
    have x0:=cell_later hb13 (cell_dr (cell_nw W0 #[.int .u64 0,.int .u32 0,.int .u32 0] 107 0 _ rfl))
    have x1:=cell_later hb13 (cell_dr (cell_nw W0 #[.int .u64 0,.int .u32 0,.int .u32 0] 107 1 _ rfl))
    have x2:=cell_later hb13 (cell_dr (cell_nw W0 #[.int .u64 0,.int .u32 0,.int .u32 0] 107 2 _ rfl))
    have f0:=frz_later hb13 (show (W0.alloc (.cells #[.int .u64 0,.int .u32 0,.int .u32 0] 107)).drew.frozen? ⟨W0.heap.size,0,none⟩=false from frz_nw W0 _ _ 0) (by simp)
    have f1:=frz_later hb13 (show (W0.alloc (.cells #[.int .u64 0,.int .u32 0,.int .u32 0] 107)).drew.frozen? ⟨W0.heap.size,1,none⟩=false from frz_nw W0 _ _ 1) (by simp)
    have f2:=frz_later hb13 (show (W0.alloc (.cells #[.int .u64 0,.int .u32 0,.int .u32 0] 107)).drew.frozen? ⟨W0.heap.size,2,none⟩=false from frz_nw W0 _ _ 2) (by simp)
    have HB13:=Lib.hid (Below.step (Below.allocS (Below.refl W0.heap.size W0) (.cells #[.int .u64 0,.int .u32 0,.int .u32 0] 107)).drew hb13)
    go_wp2_with fail
    refine outA hK kpK_3 (fun hHeld14=>?_)
    clear hK K
    refine takeA 15 ?_
    refine takeA 16 ?_
    refine takeA 17 ?_
    refine readyA [19] (consA (fun K hK=>?_) .nil)
    go_simp
    have hk18:=(((Kept.refl [W0.heap.size] w13).setCell (p:=⟨W0.heap.size,0,none⟩) (Or.inl (by simp)) (.int .u64 xe.1)).setCell (p:=⟨W0.heap.size,1,none⟩) (Or.inl (by simp)) (.int .u32 xe.2.1)).setCell (p:=⟨W0.heap.size,2,none⟩) (Or.inl (by simp)) (.int .u32 xe.2.2)
    refine outA hK kpK_3 (fun hHeld19=>?_)
    clear hK K
    refine takeA 20 ?_
    refine doneA ?_
    first
     | (
      obtain ⟨W3,hW3⟩:∃ X,X=w13.alloc (.cells #[.int .u64 xe.1,.int .u32 xe.2.1,.int .u32 xe.2.2] 107):=⟨_,rfl⟩
      rw [← hW3]
      obtain ⟨b18,hb18⟩:∃ b,b=w13.heap.size:=⟨_,rfl⟩
      rw [← hb18]
      have x0:W3.cell? ⟨b18,0,none⟩=some (.int .u64 xe.1):=by rw [hW3];exact cell_nwE hb18 _ _ 0 _ rfl
      have x1:W3.cell? ⟨b18,1,none⟩=some (.int .u32 xe.2.1):=by rw [hW3];exact cell_nwE hb18 _ _ 1 _ rfl
      have x2:W3.cell? ⟨b18,2,none⟩=some (.int .u32 xe.2.2):=by rw [hW3];exact cell_nwE hb18 _ _ 2 _ rfl
      have hB3:Below W0.heap.size W0 W3:=by rw [hW3];exact Below.allocS HB13.out _)
     | (
      obtain ⟨W3,hW3⟩:∃ X,X=(((w13.setCell ⟨W0.heap.size,0,none⟩ (.int .u64 xe.1)).setCell ⟨W0.heap.size,1,none⟩ (.int .u32 xe.2.1)).setCell ⟨W0.heap.size,2,none⟩ (.int .u32 xe.2.2)):=⟨_,rfl⟩
      rw [← hW3]
      obtain ⟨b18,hb18⟩:∃ b,b=W0.heap.size:=⟨_,rfl⟩
      rw [← hb18]
      have x0:W3.cell? ⟨b18,0,none⟩=some (.int .u64 xe.1):=by rw [hW3,hb18];exact cell_set_ne (cell_set_ne (cell_set_eq x0) (Or.inr (by omega))) (Or.inr (by omega))
      have x1:W3.cell? ⟨b18,1,none⟩=some (.int .u32 xe.2.1):=by rw [hW3,hb18];exact cell_set_ne (cell_set_eq (cell_set_ne x1 (Or.inr (by omega)))) (Or.inr (by omega))
      have x2:W3.cell? ⟨b18,2,none⟩=some (.int .u32 xe.2.2):=by rw [hW3,hb18];exact cell_set_eq (cell_set_ne (cell_set_ne x2 (Or.inr (by omega))) (Or.inr (by omega)))
      have hB3:Below W0.heap.size W0 W3:=by rw [hW3];exact ((HB13.out.setCell (by simp) _).setCell (by simp) _).setCell (by simp) _)
    clear hW3 hb18
    replace z0:=cell_later hB3 z0
    replace z1:=cell_later hB3 z1
    replace z2:=cell_later hB3 z2
    replace g0:=frz_later hB3 g0 LT.out
    replace g1:=frz_later hB3 g1 LT.out
    replace g2:=frz_later hB3 g2 LT.out
    have HB4:=Lib.hid (Below.step HB0.out hB3)
    clear hS0 hHeld hB3
    go_wp2_with fail
    refine bodyPost_ret (v:=.agg #[.int .u64 xe.1,.int .u32 xe.2.1,.int .u32 xe.2.2]) (by simp [results,Tryz.results53,go_sem,z0,z1,z2,g0,g1,g2]) rfl ⟨rfl,?_⟩
    have hbn:w.heap.size≤bx:=by have:=HBX.out;omega
    exact ((HB4.out.setCell hbn _).setCell hbn _).setCell hbn _
  ·skip
   go_simp
   refine outA hK kpK_3 (fun hHeld18=>?_)
   clear hK K
   refine readyA [6] (consA (fun K hK=>?_) .nil)
   go_simp
   refine (A3.out _ HRa.out).mono ?_
   rintro e w_ ⟨rfl,rfl⟩
   go_wp2_with fail
   refine outA hK kpK_3 (fun hHeld6=>?_)
   clear hK K
   refine takeA 7 ?_
   refine takeA 8 ?_
   refine takeA 10 ?_
   refine takeA 11 ?_
   refine readyA [14] (consA (fun K hK=>?_) .nil)
   go_simp
   refine (A1.out _ HRa.out).mono ?_
   rintro e w13 ⟨rfl,hb13⟩
   have hk13:=Kept.of (S:=[W0.heap.size]) hb13
   have x0:=cell_later hb13 (cell_dr (cell_nw W0 #[.int .u64 0,.int .u32 0,.int .u32 0] 107 0 _ rfl))
   have x1:=cell_later hb13 (cell_dr (cell_nw W0 #[.int .u64 0,.int .u32 0,.int .u32 0] 107 1 _ rfl))
   have x2:=cell_later hb13 (cell_dr (cell_nw W0 #[.int .u64 0,.int .u32 0,.int .u32 0] 107 2 _ rfl))
   have f0:=frz_later hb13 (show (W0.alloc (.cells #[.int .u64 0,.int .u32 0,.int .u32 0] 107)).drew.frozen? ⟨W0.heap.size,0,none⟩=false from frz_nw W0 _ _ 0) (by simp)
   have f1:=frz_later hb13 (show (W0.alloc (.cells #[.int .u64 0,.int .u32 0,.int .u32 0] 107)).drew.frozen? ⟨W0.heap.size,1,none⟩=false from frz_nw W0 _ _ 1) (by simp)
   have f2:=frz_later hb13 (show (W0.alloc (.cells #[.int .u64 0,.int .u32 0,.int .u32 0] 107)).drew.frozen? ⟨W0.heap.size,2,none⟩=false from frz_nw W0 _ _ 2) (by simp)
   have HB13:=Lib.hid (Below.step (Below.allocS (Below.refl W0.heap.size W0) (.cells #[.int .u64 0,.int .u32 0,.int .u32 0] 107)).drew hb13)
   go_wp2_with fail
   refine outA hK kpK_3 (fun hHeld14=>?_)
   clear hK K
   refine takeA 15 ?_
   refine takeA 16 ?_
   refine takeA 17 ?_
   refine readyA [19] (consA (fun K hK=>?_) .nil)
   go_simp
   have hk18:=(((Kept.refl [W0.heap.size] w13).setCell (p:=⟨W0.heap.size,0,none⟩) (Or.inl (by simp)) (.int .u64 xe.1)).setCell (p:=⟨W0.heap.size,1,none⟩) (Or.inl (by simp)) (.int .u32 xe.2.1)).setCell (p:=⟨W0.heap.size,2,none⟩) (Or.inl (by simp)) (.int .u32 xe.2.2)
   refine outA hK kpK_3 (fun hHeld19=>?_)
   clear hK K
   refine takeA 20 ?_
   refine doneA ?_
   first
    | (
     obtain ⟨W3,hW3⟩:∃ X,X=w13.alloc (.cells #[.int .u64 xe.1,.int .u32 xe.2.1,.int .u32 xe.2.2] 107):=⟨_,rfl⟩
     rw [← hW3]
     obtain ⟨b18,hb18⟩:∃ b,b=w13.heap.size:=⟨_,rfl⟩
     rw [← hb18]
     have x0:W3.cell? ⟨b18,0,none⟩=some (.int .u64 xe.1):=by rw [hW3];exact cell_nwE hb18 _ _ 0 _ rfl
     have x1:W3.cell? ⟨b18,1,none⟩=some (.int .u32 xe.2.1):=by rw [hW3];exact cell_nwE hb18 _ _ 1 _ rfl
     have x2:W3.cell? ⟨b18,2,none⟩=some (.int .u32 xe.2.2):=by rw [hW3];exact cell_nwE hb18 _ _ 2 _ rfl
     have hB3:Below W0.heap.size W0 W3:=by rw [hW3];exact Below.allocS HB13.out _)
    | (
     obtain ⟨W3,hW3⟩:∃ X,X=(((w13.setCell ⟨W0.heap.size,0,none⟩ (.int .u64 xe.1)).setCell ⟨W0.heap.size,1,none⟩ (.int .u32 xe.2.1)).setCell ⟨W0.heap.size,2,none⟩ (.int .u32 xe.2.2)):=⟨_,rfl⟩
     rw [← hW3]
     obtain ⟨b18,hb18⟩:∃ b,b=W0.heap.size:=⟨_,rfl⟩
     rw [← hb18]
     have x0:W3.cell? ⟨b18,0,none⟩=some (.int .u64 xe.1):=by rw [hW3,hb18];exact cell_set_ne (cell_set_ne (cell_set_eq x0) (Or.inr (by omega))) (Or.inr (by omega))
     have x1:W3.cell? ⟨b18,1,none⟩=some (.int .u32 xe.2.1):=by rw [hW3,hb18];exact cell_set_ne (cell_set_eq (cell_set_ne x1 (Or.inr (by omega)))) (Or.inr (by omega))
     have x2:W3.cell? ⟨b18,2,none⟩=some (.int .u32 xe.2.2):=by rw [hW3,hb18];exact cell_set_eq (cell_set_ne (cell_set_ne x2 (Or.inr (by omega))) (Or.inr (by omega)))
     have hB3:Below W0.heap.size W0 W3:=by rw [hW3];exact ((HB13.out.setCell (by simp) _).setCell (by simp) _).setCell (by simp) _)
   clear hW3 hb18
   replace z0:=cell_later hB3 z0
   replace z1:=cell_later hB3 z1
   replace z2:=cell_later hB3 z2
   replace g0:=frz_later hB3 g0 LT.out
   replace g1:=frz_later hB3 g1 LT.out
   replace g2:=frz_later hB3 g2 LT.out
   have HB4:=Lib.hid (Below.step HB0.out hB3)
   clear hS0 hHeld hB3
   go_wp2_with fail
   refine bodyPost_ret (v:=.agg #[.int .u64 xe.1,.int .u32 xe.2.1,.int .u32 xe.2.2]) (by simp [results,Tryz.results53,go_sem,z0,z1,z2,g0,g1,g2]) rfl ⟨rfl,?_⟩
   have hbn:w.heap.size≤bx:=by have:=HBX.out;omega
   exact ((HB4.out.setCell hbn _).setCell hbn _).setCell hbn _
 ·have e1:spotE s g k=(s.Q k).A g:=by unfold spotE;rw [if_neg hc]
  rw [e1]
  obtain ⟨xe,hxe⟩:∃ xe,xe=(s.Q k).A g:=⟨_,rfl⟩
  have u0:W0.cell? ⟨L.ra g,k*3,none⟩=some (.int .u64 xe.1):=by rw [hxe];exact a0
  have u1:W0.cell? ⟨L.ra g,k*3+1,none⟩=some (.int .u32 xe.2.1):=by rw [hxe];exact a1
  have u2:W0.cell? ⟨L.ra g,k*3+2,none⟩=some (.int .u32 xe.2.2):=by rw [hxe];exact a2
  rw [← hxe]
  obtain ⟨bx,hbx⟩:∃ b,b=w.heap.size:=⟨_,rfl⟩
  rw [← hbx] at z0 z1 z2 g0 g1 g2 LT hx3 hx4 hx5
  have HBX:=Lib.hid hbx
  have hc':g=0∨m=0:=by
   rcases Nat.eq_zero_or_pos g with q | q
   ·exact Or.inl q
   ·right
    rw [hm]
    cases e:(s.Q k).M g with
    | nil=>rfl
    | cons a r=>exact absurd ⟨q,by rw [e];rfl⟩ hc
  rw [← hm] at A2
  clear h ho e1 h0 hW0 hxe hbx hc hm a0 a1 a2
  by_cases h0:g=0
  ·have y1:decide ((g:Int) > 0)=false:=decide_eq_false (by omega)
   have y1':decide (0<g)=false:=decide_eq_false (by omega)
   have H0:=Lib.hid h0
   clear h0 hc'
   go_enter Tryz.func53,Tryz.ntmps53
   go_upto_region 1 with fail
   rw [← HW0.out,← HBX.out]
   go_wp2_with fail
   refine bodyPost_ret (v:=.agg #[.int .u64 xe.1,.int .u32 xe.2.1,.int .u32 xe.2.2]) (by simp [results,Tryz.results53,go_sem,z0,z1,z2,g0,g1,g2]) rfl ⟨rfl,?_⟩
   have hbn:w.heap.size≤bx:=by have:=HBX.out;omega
   exact ((HB0.out.setCell hbn _).setCell hbn _).setCell hbn _
  ·have y1:decide ((g:Int) > 0)=true:=decide_eq_true (by omega)
   have y1':decide (0<g)=true:=decide_eq_true (by omega)
   have hm0:m=0:=by omega
   have y2:decide ((m:Int) > 0)=false:=decide_eq_false (by omega)
   have y2':decide (0<m)=false:=decide_eq_false (by omega)
   have HM0:=Lib.hid hm0
   clear hm0 h0 hc'
   go_enter Tryz.func53,Tryz.ntmps53
   go_upto_region 1 with fail
   rw [← HW0.out,← HBX.out]
   go_wp2_with fail
   refine A2.out.mono ?_;rintro e w5 ⟨rfl,rfl⟩
   go_wp2_with fail
   refine bodyPost_ret (v:=.agg #[.int .u64 xe.1,.int .u32 xe.2.1,.int .u32 xe.2.2]) (by simp [results,Tryz.results53,go_sem,z0,z1,z2,g0,g1,g2]) rfl ⟨rfl,?_⟩
   have hbn:w.heap.size≤bx:=by have:=HBX.out;omega
   exact ((HB0.out.setCell hbn _).setCell hbn _).setCell hbn _
end Go.Proofs.YtapnaocdehahdaaGreat
namespace Go.Proofs.YtapnaocdehahdaaGreat
open Go.RowKit Go.Maps Go.IntWalk Go.Lib
set_option linter.unusedVariables false
set_option linter.unusedSimpArgs false
theorem ints_recs {w:World} {b n:Nat} {f:Nat→Int} (h:IntsAt w b n f):∀ j u,(flatR encZ1 ((List.range n).map f))[j]?=some u→w.cell? ⟨b,j,none⟩=some u:=fun j u hu=>by
 have hj:j<n:=by
  have:=(List.getElem?_eq_some_iff.1 hu).1
  rw [flatR_len encZ1_ok] at this
  simpa using this
 rw [flatZ1,List.getElem?_map,List.getElem?_map,List.getElem?_range hj] at hu
 cases hu
 exact h.c j hj
theorem grps_recs {w:World} {b:Nat} {Gs:Grps} (h:GrpsAt w b Gs):∀ j u,(flatR encG Gs)[j]?=some u→w.cell? ⟨b,j,none⟩=some u:=fun j u hu=>by
 have hj:j<Gs.length*2:=by rw [← flatR_len encG_ok];exact (List.getElem?_eq_some_iff.1 hu).1
 have hi:j / 2<Gs.length:=by omega
 have hx:Gs[j / 2]?=some Gs[j / 2]!:=by rw [getElem!_pos Gs _ hi];exact List.getElem?_eq_getElem hi
 have h1:=flatR_at encG_ok hx (j % 2) (by omega)
 rw [show j / 2*2+j % 2=j by omega,hu] at h1
 obtain ⟨c0,c1⟩:=h.c _ hi
 rcases (show j % 2=0∨j % 2=1 by omega) with q | q
 ·rw [q] at h1
  cases h1
  rw [show j / 2*2=j by omega] at c0
  exact c0
 ·rw [q] at h1
  cases h1
  rw [show j / 2*2+1=j by omega] at c1
  exact c1
def ClonP (enc:List Value) (t:TypeId) (k n:Nat) (w:World) (e:Ending) (w':World):Prop:=∃ g c,e=.returned (.slice (some ⟨g,0,none⟩) n c)∧w'.ownsRow w.heap.size t k (.slice (some ⟨g,0,none⟩) n c) n enc∧Below w.heap.size w w'
set_option maxRecDepth 100000 in
set_option maxHeartbeats 1000000 in
theorem IClone_at {w:World} {b c:Nat} {f:Nat→Int} {n:Nat} (h:IntsAt w b n f) (h0:0<n) (h1:n≤64):Calls Tryz.prog 49 #[.slice (some ⟨b,0,none⟩) n c] w (ClonP (flatR encZ1 ((List.range n).map f)) 3 1 n w):=by
 obtain ⟨i0,hi,hz0,hz1,hz2⟩:=info_parts infoI
 have hs:=@Lib.run_eql_slice_nil Tryz.prog
 have HC:=Lib.hid (ints_recs h)
 have HL:=Lib.hid (show (flatR encZ1 ((List.range n).map f)).length=n*1 by rw [flatR_len encZ1_ok];first | done | simp)
 have HO1:=Lib.hid (flatR_one encZ1_ok)
 obtain ⟨xs,hxs⟩:∃ xs,xs=flatR encZ1 ((List.range n).map f):=⟨_,rfl⟩
 have HO2:=Lib.hid (show ∀ u∈xs,u.oneCell'=true by rw [hxs];exact HO1.out _)
 rw [← hxs] at HC HL ⊢
 obtain ⟨N,hn⟩:∃ N,N=n:=⟨_,rfl⟩
 rw [← hn] at HL h0 h1 ⊢
 clear h hn hxs HO1
 go_enter Tryz.func49,Tryz.ntmps49
 go_wp2_with (at_builtin;refine wpList_append_own _ rfl _ _ 42 rfl w.heap.size 3 i0 (.int .i64 0) 1 8 Tryz.underlying42 hi hz0 hz1 hz2 rfl (by decide) _ 0 [] rfl (World.ownsRow_lit w #[] 0 (Nat.le_refl _) (by unfold maxLen;omega) rfl) ⟨b,0,none⟩ N c xs rfl ?c1 ?c2 HO2.out ?c3 ?c4 ?c5 ?_)
 case c1=>exact HL.out
 case c2=>exact fun j u hu=>by rw [addN,Nat.zero_add];exact cell_al _ (HC.out j u hu)
 case c3=>unfold maxLen;omega
 case c4=>omega
 case c5=>simp
 intro v' w1 hown hgrow _
 have hbw:Below w.heap.size w w1:=(Below.allocS (Below.refl _ _) _).grown hgrow (by simp) (fun k hk=>by cases hk;exact Nat.le_refl _)
 obtain ⟨g',cap',rfl⟩:∃ g' cap',v'=.slice (some ⟨g',0,none⟩) N cap':=by
  rcases hown.2 with ⟨_,h⟩ | ⟨g',cap',_,rfl,_⟩
  ·omega
  ·exact ⟨g',cap',rfl⟩
 have HOW:=Lib.hid hown
 clear hown hgrow
 go_wp2_with fail
 go_ret
 exact ⟨g',cap',rfl,HOW.out,hbw⟩
set_option maxRecDepth 100000 in
set_option maxHeartbeats 1000000 in
theorem GpClone_at {w:World} {b c:Nat} {f:Grps} (h:GrpsAt w b f) (h0:0<f.length) (h1:f.length≤256):Calls Tryz.prog 46 #[.slice (some ⟨b,0,none⟩) f.length c] w (ClonP (flatR encG f) 72 2 f.length w):=by
 obtain ⟨i0,hi,hz0,hz1,hz2⟩:=info_parts infoGroup
 have hs:=@Lib.run_eql_slice_nil Tryz.prog
 have HC:=Lib.hid (grps_recs h)
 have HL:=Lib.hid (show (flatR encG f).length=f.length*2 by rw [flatR_len encG_ok];first | done | simp)
 have HO1:=Lib.hid (flatR_one encG_ok)
 obtain ⟨xs,hxs⟩:∃ xs,xs=flatR encG f:=⟨_,rfl⟩
 have HO2:=Lib.hid (show ∀ u∈xs,u.oneCell'=true by rw [hxs];exact HO1.out _)
 rw [← hxs] at HC HL ⊢
 obtain ⟨N,hn⟩:∃ N,N=f.length:=⟨_,rfl⟩
 rw [← hn] at HL h0 h1 ⊢
 clear h hn hxs HO1
 go_enter Tryz.func46,Tryz.ntmps46
 go_wp2_with (at_builtin;refine wpList_append_own _ rfl _ _ 35 rfl w.heap.size 72 i0 (.agg #[.int .i64 0,.int .i64 0]) 2 16 Tryz.underlying35 hi hz0 hz1 hz2 rfl (by decide) _ 0 [] rfl (World.ownsRow_lit w #[] 0 (Nat.le_refl _) (by unfold maxLen;omega) rfl) ⟨b,0,none⟩ N c xs rfl ?c1 ?c2 HO2.out ?c3 ?c4 ?c5 ?_)
 case c1=>exact HL.out
 case c2=>exact fun j u hu=>by rw [addN,Nat.zero_add];exact cell_al _ (HC.out j u hu)
 case c3=>unfold maxLen;omega
 case c4=>omega
 case c5=>simp
 intro v' w1 hown hgrow _
 have hbw:Below w.heap.size w w1:=(Below.allocS (Below.refl _ _) _).grown hgrow (by simp) (fun k hk=>by cases hk;exact Nat.le_refl _)
 obtain ⟨g',cap',rfl⟩:∃ g' cap',v'=.slice (some ⟨g',0,none⟩) N cap':=by
  rcases hown.2 with ⟨_,h⟩ | ⟨g',cap',_,rfl,_⟩
  ·omega
  ·exact ⟨g',cap',rfl⟩
 have HOW:=Lib.hid hown
 clear hown hgrow
 go_wp2_with fail
 go_ret
 exact ⟨g',cap',rfl,HOW.out,hbw⟩
/-! ### the box of a state -/
structure StB (w:World) (b:Nat) (C cr:Int) (vg vl vu vt vs:Value):Prop where
 c0:w.cell? ⟨b,0,none⟩=some (.int .i64 C)
 c1:w.cell? ⟨b,1,none⟩=some (.int .u64 cr)
 c2:w.cell? ⟨b,2,none⟩=some vg
 c3:w.cell? ⟨b,3,none⟩=some vl
 c4:w.cell? ⟨b,4,none⟩=some vu
 c5:w.cell? ⟨b,5,none⟩=some vt
 c6:w.cell? ⟨b,6,none⟩=some vs
 z:∀ j,w.frozen? ⟨b,j,none⟩=false
section
variable {w w':World} {b:Nat} {C cr C' cr':Int} {vg vl vu vt vs vg' vl' vu' vt' vs':Value} {G:List Nat}
theorem StB.lt (h:StB w b C cr vg vl vu vt vs):b<w.heap.size:=lt_of_cell h.c0
theorem StB.kept (h:StB w b C cr vg vl vu vt vs) (hk:Kept G w w') (hb:b∉G):StB w' b C cr vg vl vu vt vs:=⟨hk.cellAt h.c0 hb,hk.cellAt h.c1 hb,hk.cellAt h.c2 hb,hk.cellAt h.c3 hb,hk.cellAt h.c4 hb,hk.cellAt h.c5 hb,hk.cellAt h.c6 hb,fun j=>hk.frz (h.z j) h.lt hb⟩
theorem StB.later (h:StB w b C cr vg vl vu vt vs) (hb:Below w.heap.size w w'):StB w' b C cr vg vl vu vt vs:=h.kept (G:=[]) (Kept.of hb) (by simp)
theorem StB.made (w:World) (t:TypeId) (C cr:Int) (vg vl vu vt vs:Value):StB (w.alloc (.cells #[.int .i64 C,.int .u64 cr,vg,vl,vu,vt,vs] t)) w.heap.size C cr vg vl vu vt vs:=⟨cell_nw w _ _ 0 _ rfl,cell_nw w _ _ 1 _ rfl,cell_nw w _ _ 2 _ rfl,cell_nw w _ _ 3 _ rfl,cell_nw w _ _ 4 _ rfl,cell_nw w _ _ 5 _ rfl,cell_nw w _ _ 6 _ rfl,fun j=>frz_nw w _ _ j⟩
theorem StB.grps (h:StB w b C cr vg vl vu vt vs) (v:Value):StB (w.setCell ⟨b,2,none⟩ v) b C cr v vl vu vt vs:=⟨cell_set_ne h.c0 (Or.inr (by decide)),cell_set_ne h.c1 (Or.inr (by decide)),cell_set_eq h.c2,cell_set_ne h.c3 (Or.inr (by decide)),cell_set_ne h.c4 (Or.inr (by decide)),cell_set_ne h.c5 (Or.inr (by decide)),cell_set_ne h.c6 (Or.inr (by decide)),fun j=>by rw [World.frozen?_setCell];exact h.z j⟩
theorem StB.tasks (h:StB w b C cr vg vl vu vt vs) (v:Value):StB (w.setCell ⟨b,5,none⟩ v) b C cr vg vl vu v vs:=⟨cell_set_ne h.c0 (Or.inr (by decide)),cell_set_ne h.c1 (Or.inr (by decide)),cell_set_ne h.c2 (Or.inr (by decide)),cell_set_ne h.c3 (Or.inr (by decide)),cell_set_ne h.c4 (Or.inr (by decide)),cell_set_eq h.c5,cell_set_ne h.c6 (Or.inr (by decide)),fun j=>by rw [World.frozen?_setCell];exact h.z j⟩
theorem StB.spots (h:StB w b C cr vg vl vu vt vs) (v:Value):StB (w.setCell ⟨b,6,none⟩ v) b C cr vg vl vu vt v:=⟨cell_set_ne h.c0 (Or.inr (by decide)),cell_set_ne h.c1 (Or.inr (by decide)),cell_set_ne h.c2 (Or.inr (by decide)),cell_set_ne h.c3 (Or.inr (by decide)),cell_set_ne h.c4 (Or.inr (by decide)),cell_set_ne h.c5 (Or.inr (by decide)),cell_set_eq h.c6,fun j=>by rw [World.frozen?_setCell];exact h.z j⟩
def fillB (w:World) (b:Nat) (C cr:Int) (vg vl vu vt vs:Value):World:=((((((w.setCell ⟨b,0,none⟩ (.int .i64 C)).setCell ⟨b,1,none⟩ (.int .u64 cr)).setCell ⟨b,2,none⟩ vg).setCell ⟨b,3,none⟩ vl).setCell ⟨b,4,none⟩ vu).setCell ⟨b,5,none⟩ vt).setCell ⟨b,6,none⟩ vs
theorem fillB_below {B:Nat} {w0:World} (h:Below B w0 w) (hb:B≤b):Below B w0 (fillB w b C cr vg vl vu vt vs):=((((((h.setCell hb _).setCell hb _).setCell hb _).setCell hb _).setCell hb _).setCell hb _).setCell hb _
theorem fillB_kept:Kept [b] w (fillB w b C cr vg vl vu vt vs):=(((((((Kept.refl [b] w).setCell (Or.inl (by simp)) _).setCell (Or.inl (by simp)) _).setCell (Or.inl (by simp)) _).setCell (Or.inl (by simp)) _).setCell (Or.inl (by simp)) _).setCell (Or.inl (by simp)) _).setCell (Or.inl (by simp)) _
theorem StB.fill (h:StB w b C' cr' vg' vl' vu' vt' vs'):StB (fillB w b C cr vg vl vu vt vs) b C cr vg vl vu vt vs:=by
 unfold fillB
 refine ⟨?_,?_,?_,?_,?_,?_,?_,fun j=>by simp only [World.frozen?_setCell];exact h.z j⟩
 ·exact cell_set_ne (cell_set_ne (cell_set_ne (cell_set_ne (cell_set_ne (cell_set_ne (cell_set_eq (h.c0)) (Or.inr (by decide))) (Or.inr (by decide))) (Or.inr (by decide))) (Or.inr (by decide))) (Or.inr (by decide))) (Or.inr (by decide))
 ·exact cell_set_ne (cell_set_ne (cell_set_ne (cell_set_ne (cell_set_ne (cell_set_eq (cell_set_ne (h.c1) (Or.inr (by decide)))) (Or.inr (by decide))) (Or.inr (by decide))) (Or.inr (by decide))) (Or.inr (by decide))) (Or.inr (by decide))
 ·exact cell_set_ne (cell_set_ne (cell_set_ne (cell_set_ne (cell_set_eq (cell_set_ne (cell_set_ne (h.c2) (Or.inr (by decide))) (Or.inr (by decide)))) (Or.inr (by decide))) (Or.inr (by decide))) (Or.inr (by decide))) (Or.inr (by decide))
 ·exact cell_set_ne (cell_set_ne (cell_set_ne (cell_set_eq (cell_set_ne (cell_set_ne (cell_set_ne (h.c3) (Or.inr (by decide))) (Or.inr (by decide))) (Or.inr (by decide)))) (Or.inr (by decide))) (Or.inr (by decide))) (Or.inr (by decide))
 ·exact cell_set_ne (cell_set_ne (cell_set_eq (cell_set_ne (cell_set_ne (cell_set_ne (cell_set_ne (h.c4) (Or.inr (by decide))) (Or.inr (by decide))) (Or.inr (by decide))) (Or.inr (by decide)))) (Or.inr (by decide))) (Or.inr (by decide))
 ·exact cell_set_ne (cell_set_eq (cell_set_ne (cell_set_ne (cell_set_ne (cell_set_ne (cell_set_ne (h.c5) (Or.inr (by decide))) (Or.inr (by decide))) (Or.inr (by decide))) (Or.inr (by decide))) (Or.inr (by decide)))) (Or.inr (by decide))
 ·exact cell_set_eq (cell_set_ne (cell_set_ne (cell_set_ne (cell_set_ne (cell_set_ne (cell_set_ne (h.c6) (Or.inr (by decide))) (Or.inr (by decide))) (Or.inr (by decide))) (Or.inr (by decide))) (Or.inr (by decide))) (Or.inr (by decide)))
end
/-- a row of the call's own,held off two boxes too -/
theorem own_held2 {α:Type} {enc:α→List Value} {k:Nat} (he:Enc enc k) {w:World} {base g n c e bs bx:Nat} {L:List α} (h:w.ownsRow base e k (.slice (some ⟨g,0,none⟩) n c) n (flatR enc L)) (hn:n=L.length) (h1:g≠bs) (h2:bx<base) {F:List Nat} (hF:∀ b∈F,b<base):HeldR enc (bx::bs::F) w (.slice (some ⟨g,0,none⟩) n c) L:=by
 obtain ⟨a',c',e',q1,q2,q3,q4⟩:=own_heldR he h hn rfl (F:=F) hF
 have hg:=(h.lt g rfl).1
 cases e'
 refine ⟨_,_,rfl,q1,q2,q3,q4.imp id fun ⟨b,off,e2,⟨n1,n2⟩,hc⟩=>⟨b,off,e2,⟨fun m=>?_,n2⟩,hc⟩⟩
 cases e2
 rcases List.mem_cons.1 m with q | q
 ·omega
 ·rcases List.mem_cons.1 q with q | q
  ·exact h1 q
  ·exact n1 q
theorem infoTk:(Tryz.prog.info? 59).map (fun i=>(i.zero,i.size,i.bytes))=some (some (.agg #[.int .i64 0,.int .i64 0,.int .i64 0,.int .i64 0,.int .u64 0,.bool false,.int .u64 0,.int .u32 0]),8,64):=by kernel_rfl
theorem infoSpt:(Tryz.prog.info? 121).map (fun i=>(i.zero,i.size,i.bytes))=some (some (.agg #[.int .u64 0,.int .u32 0,.int .u64 0]),3,24):=by kernel_rfl
theorem infoSptR:(Tryz.prog.info? 69).map (fun i=>(i.zero,i.size,i.bytes))=some (some (.slice none 0 0),1,24):=by kernel_rfl
end Go.Proofs.YtapnaocdehahdaaGreat
namespace Go.Proofs.YtapnaocdehahdaaGreat
open Go.RowKit Go.Maps Go.IntWalk Go.Lib
set_option linter.unusedVariables false
set_option linter.unusedSimpArgs false
theorem own_apartS {w:World} {b1 b2 e1 e2 k1 k2 m1 m2:Nat} {v1 v2:Value} {x1 x2:List Value} (h1:w.ownsRow b1 e1 k1 v1 m1 x1) (h2:w.ownsRow b2 e2 k2 v2 m2 x2) (he:e1≠e2) {b:Nat} (q1:v1.ownBlock=some b):v2.ownBlock≠some b:=fun q2=>by
 rcases h1.2 with ⟨rfl,_⟩ | ⟨g1,c1,u1,rfl,_,a1,_⟩
 ·cases q1
 ·rcases h2.2 with ⟨rfl,_⟩ | ⟨g2,c2,u2,rfl,_,a2,_⟩
  ·cases q2
  ·cases q1
   cases q2
   rw [a2] at a1
   simp only [Option.some.injEq,Obj.cells.injEq] at a1
   exact he a1.2.1.symm
def StateP (s:SSt) (w:World) (e:Ending) (w':World):Prop:=∃ v,e=.returned (.tuple #[v,.int .i64 0])∧(∀ F:List Nat,(∀ b∈F,b<w.heap.size)→StaH F w' v (staOf s))∧Below w.heap.size w w'
theorem take_snocL {α:Type} {l:List α} {k:Nat} {x:α} (h:l[k]?=some x):l.take (k+1)=l.take k++[x]:=by rw [List.take_add_one,h];rfl
theorem HeldR.drop2 {α:Type} {enc:α→List Value} {bx bs:Nat} {F:List Nat} {w:World} {v:Value} {L:List α} (h:HeldR enc (bx::bs::F) w v L):HeldR enc F w v L:=h.step (Kept.refl _ _) fun b hb=>Or.inl (List.mem_cons_of_mem _ (List.mem_cons_of_mem _ hb))
set_option maxRecDepth 100000 in
set_option maxHeartbeats 8000000 in
theorem State_at {w:World} {x:Nat} {L:SLay} {s:SSt} (h:SRaw w x L s) (ho:SOk s):Calls Tryz.prog 16 #[.pointer (some ⟨x,0,none⟩)] w (StateP s w):=by
 obtain ⟨it,hi,hz0,hz1,hz2⟩:=info_parts infoTk
 obtain ⟨ip,pi,pz0,pz1,pz2⟩:=info_parts infoSpt
 obtain ⟨iq,qi,qz0,qz1,qz2⟩:=info_parts infoSptR
 have hc64:=ho.cpus
 have hn256:s.n≤256:=ho.right.le
 have hn1:0<s.n:=ho.right.pos
 have hfew:=ho.few
 obtain ⟨W0,hW0⟩:∃ W0,W0=w.alloc (.cells #[.int .i64 0,.int .u64 0,.slice none 0 0,.slice none 0 0,.slice none 0 0,.slice none 0 0,.slice none 0 0] 46):=⟨_,rfl⟩
 have HB0:=Lib.hid (show Below w.heap.size w W0 by rw [hW0];exact below_a _ _)
 have Z0:=Lib.hid (show StB W0 w.heap.size 0 0 (.slice none 0 0) (.slice none 0 0) (.slice none 0 0) (.slice none 0 0) (.slice none 0 0) by rw [hW0];exact StB.made _ _ _ _ _ _ _ _ _)
 have h0:=h.below HB0.out
 have LT:=Lib.hid (show W0.heap.size=w.heap.size+1 by rw [hW0];simp)
 have HW0:=Lib.hid hW0
 have H0:=Lib.hid h0
 have HO:=Lib.hid ho
 have A1:=Lib.hid (xsome_at h0 ho.cpus.1)
 have x0:W0.cell? ⟨x,0,none⟩=some (.int .i64 s.C):=h0.head.c0
 have x1:W0.cell? ⟨x,1,none⟩=some (.int .u64 s.cr):=h0.head.c1
 obtain ⟨cg,x2⟩:∃ c,W0.cell? ⟨x,2,none⟩=some (.slice (some ⟨L.bg,0,none⟩) s.n c):=h0.head.c2
 obtain ⟨cl,x3⟩:∃ c,W0.cell? ⟨x,3,none⟩=some (.slice (some ⟨L.bl,0,none⟩) s.C c):=h0.head.c3
 obtain ⟨cu,x4⟩:∃ c,W0.cell? ⟨x,4,none⟩=some (.slice (some ⟨L.bu,0,none⟩) s.C c):=h0.head.c4
 have ACL:=Lib.hid fun W (hb:Below W0.heap.size W0 W)=>IClone_at (c:=cl) (h0.below hb).cl (by omega) hc64.2
 have ACU:=Lib.hid fun W (hb:Below W0.heap.size W0 W)=>IClone_at (c:=cu) (h0.below hb).cu (by omega) hc64.2
 have ACG:=Lib.hid fun W (hb:Below W0.heap.size W0 W)=>(show Calls Tryz.prog 46 #[.slice (some ⟨L.bg,0,none⟩) s.n cg] W (ClonP (flatR encG s.Gs) 72 2 s.n W) from GpClone_at (c:=cg) (h0.below hb).gr hn1 hn256)
 obtain ⟨bx,hbx⟩:∃ b,b=w.heap.size:=⟨_,rfl⟩
 rw [← hbx] at Z0 LT
 have HBX:=Lib.hid hbx
 have hbx0:bx<W0.heap.size:=by have:=LT.out;omega
 have hXB:=Lib.hid (show ∀ b,W0.heap.size≤b→L.lab b=(0,0,0) from fun b hb=>h0.none_at hb)
 have HXN:=Lib.hid (show L.lab bx=(0,0,0) from h.none_at (by omega))
 clear h ho h0 hW0 hbx
 go_enter Tryz.func16,Tryz.ntmps16
 go_upto_region 1 with fail
 rw [← HW0.out,← HBX.out]
 go_wp2_with fail
 refine A1.out.mono ?_;rintro e w_ ⟨rfl,rfl⟩
 go_upto_region 3 with fail
 go_cut [4] (fun s4 wx=>∃ bs gl c1 gu c2,s4=.pointer (some ⟨bs,0,none⟩)∧Hid (StB wx bs s.C s.cr (.slice (some ⟨L.bg,0,none⟩) s.n cg) (.slice (some ⟨gl,0,none⟩) s.C c1) (.slice (some ⟨gu,0,none⟩) s.C c2) (.slice none 0 0) (.slice none 0 0))∧Hid (wx.ownsRow W0.heap.size 3 1 (.slice (some ⟨gl,0,none⟩) s.C c1) s.C (flatR encZ1 ((List.range s.C).map s.cl)))∧Hid (wx.ownsRow W0.heap.size 3 1 (.slice (some ⟨gu,0,none⟩) s.C c2) s.C (flatR encZ1 ((List.range s.C).map s.cu)))∧Hid (gl≠bs∧gu≠bs∧W0.heap.size≤bs)∧Hid (Below W0.heap.size W0 wx))
 case first =>
  refine startB (S:=fun w'=>Below W0.heap.size W0 w'∧w'.cell? ⟨x,0,none⟩=some (.int .i64 s.C)∧w'.cell? ⟨x,1,none⟩=some (.int .u64 s.cr)∧w'.cell? ⟨x,2,none⟩=some (.slice (some ⟨L.bg,0,none⟩) s.n cg)∧w'.cell? ⟨x,3,none⟩=some (.slice (some ⟨L.bl,0,none⟩) s.C cl)∧w'.cell? ⟨x,4,none⟩=some (.slice (some ⟨L.bu,0,none⟩) s.C cu)) ⟨Below.refl _ _,x0,x1,x2,x3,x4⟩ (held_5 (below_dr _)) (fun hS00 hS0 hHeld=>?_)
  obtain ⟨wc101,hwc101⟩:∃ X,X=W0.drew:=⟨_,rfl⟩
  rw [← hwc101] at hHeld ⊢
  have hWc101:Below W0.heap.size W0 wc101:=by rw [hwc101];exact (Below.refl _ _).drew
  clear hwc101
  refine takeA 0 ?_
  refine takeA 1 ?_
  refine takeA 2 ?_
  refine takeA 3 ?_
  refine takeA 4 ?_
  refine takeA 5 ?_
  refine takeA 6 ?_
  refine takeA 7 ?_
  refine takeA 9 ?_
  refine takeA 10 ?_
  refine takeA 11 ?_
  refine takeA 12 ?_
  refine readyA [8,15] (consA (fun K hK=>?_) (consA (fun K hK=>?_) .nil))
  ·skip
   go_simp
   refine (ACL.out wc101 hWc101).mono ?_
   rintro e w102 ⟨gl,c1,rfl,ol,hb102⟩
   have hW102:=Below.step hWc101 hb102
   have sz102:=hb102.size
   have sy102:=hWc101.size
   have lol:=(ol.lt gl rfl).1
   have rol:=(ol.lt gl rfl).2
   replace ol:=own_base ol hWc101.size
   go_wp2_with fail
   refine outA hK (held_5 hW102 hS00) (fun hHeld8=>?_)
   clear hK K
   refine readyA [13,15] (consA (fun K hK=>?_) (consA (fun K hK=>?_) .nil))
   ·skip
    go_simp
    refine (ACU.out w102 hW102).mono ?_
    rintro e w103 ⟨gu,c2,rfl,ou,hb103⟩
    have hW103:=Below.step hW102 hb103
    have sz103:=hb103.size
    have sy103:=hW102.size
    have lou:=(ou.lt gu rfl).1
    have rou:=(ou.lt gu rfl).2
    replace ou:=own_base ou hW102.size
    replace ol:=own_below ol hb103
    go_wp2_with fail
    refine outA hK (held_5 hW103 hS00) (fun hHeld13=>?_)
    clear hK K
    refine takeH (i:=14) (v:=.agg #[.int .i64 s.C,.int .u64 s.cr,.slice (some ⟨L.bg,0,none⟩) s.n cg,.slice (some ⟨gl,0,none⟩) s.C c1,.slice (some ⟨gu,0,none⟩) s.C c2,.slice none 0 0,.slice none 0 0]) rfl (by kernel_rfl) (fun _ _ _ h=>h) (by rfl) (fun w _=>lit_run #[(0,.agg #[.int .i64 s.C,.int .u64 s.cr,.slice (some ⟨L.bg,0,none⟩) s.n cg]),(1,.slice (some ⟨gl,0,none⟩) s.C c1),(2,.slice (some ⟨gu,0,none⟩) s.C c2)] #[.int .i64 s.C,.int .u64 s.cr,.slice (some ⟨L.bg,0,none⟩) s.n cg,.slice (some ⟨gl,0,none⟩) s.C c1,.slice (some ⟨gu,0,none⟩) s.C c2,.slice none 0 0,.slice none 0 0] (by kernel_rfl) (by kernel_rfl)) (by assumption) ?_
    try simp only [Act.put,List.setIfInBounds_toArray,List.set_cons_zero,List.set_cons_succ]
    refine readyA [15] (consA (fun K hK=>?_) .nil)
    go_simp
    obtain ⟨w104,hw104⟩:∃ X,X=w103.alloc (.cells #[.int .i64 0,.int .u64 0,.slice none 0 0,.slice none 0 0,.slice none 0 0,.slice none 0 0,.slice none 0 0] 46):=⟨_,rfl⟩
    rw [← hw104]
    have hb104:Below w103.heap.size w103 w104:=by rw [hw104];exact below_a _ _
    have hW104:=Below.step hW103 hb104
    have SZB:=Lib.hid (show w104.heap.size=w103.heap.size+1 by rw [hw104];simp)
    have sy104:=hW103.size
    have hz:StB w104 w103.heap.size 0 0 (.slice none 0 0) (.slice none 0 0) (.slice none 0 0) (.slice none 0 0) (.slice none 0 0):=by rw [hw104];exact StB.made _ _ _ _ _ _ _ _ _
    obtain ⟨bs,hbs⟩:∃ b,b=w103.heap.size:=⟨_,rfl⟩
    rw [← hbs] at hz ⊢
    have HBS:=Lib.hid hbs
    clear hbs
    replace ol:=own_below ol hb104
    replace ou:=own_below ou hb104
    clear hw104
    refine outA hK (held_5 hW104 hS00) (fun hHeld15=>?_)
    clear hK K
    refine readyA [16] (consA (fun K hK=>?_) .nil)
    have hbsl:W0.heap.size≤bs:=by have:=HBS.out;omega
    have hBz:Below W0.heap.size W0 (fillB w104 bs s.C s.cr (.slice (some ⟨L.bg,0,none⟩) s.n cg) (.slice (some ⟨gl,0,none⟩) s.C c1) (.slice (some ⟨gu,0,none⟩) s.C c2) (.slice none 0 0) (.slice none 0 0)):=fillB_below hW104 hbsl
    have e0:=hz.c0
    have e1:=hz.c1
    have e2:=hz.c2
    have e3:=hz.c3
    have e4:=hz.c4
    have e5:=hz.c5
    have e6:=hz.c6
    have f0:=hz.z 0
    have f1:=hz.z 1
    have f2:=hz.z 2
    have f3:=hz.z 3
    have f4:=hz.z 4
    have f5:=hz.z 5
    have f6:=hz.z 6
    go_simp
    refine outA hK (held_5 hBz hS00) (fun hHeld16=>?_)
    clear hK K
    refine doneA ?_
    have ne1:gl≠bs:=by have:=HBS.out;have:=SZB.out;omega
    have ne2:gu≠bs:=by have:=HBS.out;have:=SZB.out;omega
    obtain ⟨WX,hWX⟩:∃ X,X=fillB w104 bs s.C s.cr (.slice (some ⟨L.bg,0,none⟩) s.n cg) (.slice (some ⟨gl,0,none⟩) s.C c1) (.slice (some ⟨gu,0,none⟩) s.C c2) (.slice none 0 0) (.slice none 0 0):=⟨_,rfl⟩
    have hs:StB WX bs s.C s.cr (.slice (some ⟨L.bg,0,none⟩) s.n cg) (.slice (some ⟨gl,0,none⟩) s.C c1) (.slice (some ⟨gu,0,none⟩) s.C c2) (.slice none 0 0) (.slice none 0 0):=by rw [hWX];exact hz.fill
    have kx:Kept [bs] w104 WX:=by rw [hWX];exact fillB_kept
    replace ol:=own_kept ol kx (fun b e m=>by cases e;simp at m;omega)
    replace ou:=own_kept ou kx (fun b e m=>by cases e;simp at m;omega)
    rw [← hWX] at hBz
    unfold fillB at hWX
    rw [← hWX]
    have hs:=Lib.hid hs
    have ol:=Lib.hid ol
    have ou:=Lib.hid ou
    have hBz:=Lib.hid hBz
    clear hS0 hHeld hHeld16
    go_wp2_with fail
    go_meet
    case rel=>exact ⟨bs,gl,c1,gu,c2,rfl,hs,ol,ou,Lib.hid ⟨ne1,ne2,hbsl⟩,hBz⟩
   ·skip
    go_simp
    obtain ⟨w105,hw105⟩:∃ X,X=w102.alloc (.cells #[.int .i64 0,.int .u64 0,.slice none 0 0,.slice none 0 0,.slice none 0 0,.slice none 0 0,.slice none 0 0] 46):=⟨_,rfl⟩
    rw [← hw105]
    have hb105:Below w102.heap.size w102 w105:=by rw [hw105];exact below_a _ _
    have hW105:=Below.step hW102 hb105
    have SZB:=Lib.hid (show w105.heap.size=w102.heap.size+1 by rw [hw105];simp)
    have sy105:=hW102.size
    have hz:StB w105 w102.heap.size 0 0 (.slice none 0 0) (.slice none 0 0) (.slice none 0 0) (.slice none 0 0) (.slice none 0 0):=by rw [hw105];exact StB.made _ _ _ _ _ _ _ _ _
    obtain ⟨bs,hbs⟩:∃ b,b=w102.heap.size:=⟨_,rfl⟩
    rw [← hbs] at hz ⊢
    have HBS:=Lib.hid hbs
    clear hbs
    replace ol:=own_below ol hb105
    clear hw105
    refine outA hK (held_5 hW105 hS00) (fun hHeld15=>?_)
    clear hK K
    refine readyA [13] (consA (fun K hK=>?_) .nil)
    go_simp
    refine (ACU.out w105 hW105).mono ?_
    rintro e w106 ⟨gu,c2,rfl,ou,hb106⟩
    have hW106:=Below.step hW105 hb106
    have sz106:=hb106.size
    have sy106:=hW105.size
    have lou:=(ou.lt gu rfl).1
    have rou:=(ou.lt gu rfl).2
    replace ou:=own_base ou hW105.size
    replace ol:=own_below ol hb106
    replace hz:=hz.later hb106
    go_wp2_with fail
    refine outA hK (held_5 hW106 hS00) (fun hHeld13=>?_)
    clear hK K
    refine takeH (i:=14) (v:=.agg #[.int .i64 s.C,.int .u64 s.cr,.slice (some ⟨L.bg,0,none⟩) s.n cg,.slice (some ⟨gl,0,none⟩) s.C c1,.slice (some ⟨gu,0,none⟩) s.C c2,.slice none 0 0,.slice none 0 0]) rfl (by kernel_rfl) (fun _ _ _ h=>h) (by rfl) (fun w _=>lit_run #[(0,.agg #[.int .i64 s.C,.int .u64 s.cr,.slice (some ⟨L.bg,0,none⟩) s.n cg]),(1,.slice (some ⟨gl,0,none⟩) s.C c1),(2,.slice (some ⟨gu,0,none⟩) s.C c2)] #[.int .i64 s.C,.int .u64 s.cr,.slice (some ⟨L.bg,0,none⟩) s.n cg,.slice (some ⟨gl,0,none⟩) s.C c1,.slice (some ⟨gu,0,none⟩) s.C c2,.slice none 0 0,.slice none 0 0] (by kernel_rfl) (by kernel_rfl)) (by assumption) ?_
    try simp only [Act.put,List.setIfInBounds_toArray,List.set_cons_zero,List.set_cons_succ]
    refine readyA [16] (consA (fun K hK=>?_) .nil)
    have hbsl:W0.heap.size≤bs:=by have:=HBS.out;omega
    have hBz:Below W0.heap.size W0 (fillB w106 bs s.C s.cr (.slice (some ⟨L.bg,0,none⟩) s.n cg) (.slice (some ⟨gl,0,none⟩) s.C c1) (.slice (some ⟨gu,0,none⟩) s.C c2) (.slice none 0 0) (.slice none 0 0)):=fillB_below hW106 hbsl
    have e0:=hz.c0
    have e1:=hz.c1
    have e2:=hz.c2
    have e3:=hz.c3
    have e4:=hz.c4
    have e5:=hz.c5
    have e6:=hz.c6
    have f0:=hz.z 0
    have f1:=hz.z 1
    have f2:=hz.z 2
    have f3:=hz.z 3
    have f4:=hz.z 4
    have f5:=hz.z 5
    have f6:=hz.z 6
    go_simp
    refine outA hK (held_5 hBz hS00) (fun hHeld16=>?_)
    clear hK K
    refine doneA ?_
    have ne1:gl≠bs:=by have:=HBS.out;have:=SZB.out;omega
    have ne2:gu≠bs:=by have:=HBS.out;have:=SZB.out;omega
    obtain ⟨WX,hWX⟩:∃ X,X=fillB w106 bs s.C s.cr (.slice (some ⟨L.bg,0,none⟩) s.n cg) (.slice (some ⟨gl,0,none⟩) s.C c1) (.slice (some ⟨gu,0,none⟩) s.C c2) (.slice none 0 0) (.slice none 0 0):=⟨_,rfl⟩
    have hs:StB WX bs s.C s.cr (.slice (some ⟨L.bg,0,none⟩) s.n cg) (.slice (some ⟨gl,0,none⟩) s.C c1) (.slice (some ⟨gu,0,none⟩) s.C c2) (.slice none 0 0) (.slice none 0 0):=by rw [hWX];exact hz.fill
    have kx:Kept [bs] w106 WX:=by rw [hWX];exact fillB_kept
    replace ol:=own_kept ol kx (fun b e m=>by cases e;simp at m;omega)
    replace ou:=own_kept ou kx (fun b e m=>by cases e;simp at m;omega)
    rw [← hWX] at hBz
    unfold fillB at hWX
    rw [← hWX]
    have hs:=Lib.hid hs
    have ol:=Lib.hid ol
    have ou:=Lib.hid ou
    have hBz:=Lib.hid hBz
    clear hS0 hHeld hHeld16
    go_wp2_with fail
    go_meet
    case rel=>exact ⟨bs,gl,c1,gu,c2,rfl,hs,ol,ou,Lib.hid ⟨ne1,ne2,hbsl⟩,hBz⟩
  ·skip
   go_simp
   obtain ⟨w107,hw107⟩:∃ X,X=wc101.alloc (.cells #[.int .i64 0,.int .u64 0,.slice none 0 0,.slice none 0 0,.slice none 0 0,.slice none 0 0,.slice none 0 0] 46):=⟨_,rfl⟩
   rw [← hw107]
   have hb107:Below wc101.heap.size wc101 w107:=by rw [hw107];exact below_a _ _
   have hW107:=Below.step hWc101 hb107
   have SZB:=Lib.hid (show w107.heap.size=wc101.heap.size+1 by rw [hw107];simp)
   have sy107:=hWc101.size
   have hz:StB w107 wc101.heap.size 0 0 (.slice none 0 0) (.slice none 0 0) (.slice none 0 0) (.slice none 0 0) (.slice none 0 0):=by rw [hw107];exact StB.made _ _ _ _ _ _ _ _ _
   obtain ⟨bs,hbs⟩:∃ b,b=wc101.heap.size:=⟨_,rfl⟩
   rw [← hbs] at hz ⊢
   have HBS:=Lib.hid hbs
   clear hbs
   clear hw107
   refine outA hK (held_5 hW107 hS00) (fun hHeld15=>?_)
   clear hK K
   refine readyA [8] (consA (fun K hK=>?_) .nil)
   go_simp
   refine (ACL.out w107 hW107).mono ?_
   rintro e w108 ⟨gl,c1,rfl,ol,hb108⟩
   have hW108:=Below.step hW107 hb108
   have sz108:=hb108.size
   have sy108:=hW107.size
   have lol:=(ol.lt gl rfl).1
   have rol:=(ol.lt gl rfl).2
   replace ol:=own_base ol hW107.size
   replace hz:=hz.later hb108
   go_wp2_with fail
   refine outA hK (held_5 hW108 hS00) (fun hHeld8=>?_)
   clear hK K
   refine readyA [13] (consA (fun K hK=>?_) .nil)
   go_simp
   refine (ACU.out w108 hW108).mono ?_
   rintro e w109 ⟨gu,c2,rfl,ou,hb109⟩
   have hW109:=Below.step hW108 hb109
   have sz109:=hb109.size
   have sy109:=hW108.size
   have lou:=(ou.lt gu rfl).1
   have rou:=(ou.lt gu rfl).2
   replace ou:=own_base ou hW108.size
   replace hz:=hz.later hb109
   replace ol:=own_below ol hb109
   go_wp2_with fail
   refine outA hK (held_5 hW109 hS00) (fun hHeld13=>?_)
   clear hK K
   refine takeH (i:=14) (v:=.agg #[.int .i64 s.C,.int .u64 s.cr,.slice (some ⟨L.bg,0,none⟩) s.n cg,.slice (some ⟨gl,0,none⟩) s.C c1,.slice (some ⟨gu,0,none⟩) s.C c2,.slice none 0 0,.slice none 0 0]) rfl (by kernel_rfl) (fun _ _ _ h=>h) (by rfl) (fun w _=>lit_run #[(0,.agg #[.int .i64 s.C,.int .u64 s.cr,.slice (some ⟨L.bg,0,none⟩) s.n cg]),(1,.slice (some ⟨gl,0,none⟩) s.C c1),(2,.slice (some ⟨gu,0,none⟩) s.C c2)] #[.int .i64 s.C,.int .u64 s.cr,.slice (some ⟨L.bg,0,none⟩) s.n cg,.slice (some ⟨gl,0,none⟩) s.C c1,.slice (some ⟨gu,0,none⟩) s.C c2,.slice none 0 0,.slice none 0 0] (by kernel_rfl) (by kernel_rfl)) (by assumption) ?_
   try simp only [Act.put,List.setIfInBounds_toArray,List.set_cons_zero,List.set_cons_succ]
   refine readyA [16] (consA (fun K hK=>?_) .nil)
   have hbsl:W0.heap.size≤bs:=by have:=HBS.out;omega
   have hBz:Below W0.heap.size W0 (fillB w109 bs s.C s.cr (.slice (some ⟨L.bg,0,none⟩) s.n cg) (.slice (some ⟨gl,0,none⟩) s.C c1) (.slice (some ⟨gu,0,none⟩) s.C c2) (.slice none 0 0) (.slice none 0 0)):=fillB_below hW109 hbsl
   have e0:=hz.c0
   have e1:=hz.c1
   have e2:=hz.c2
   have e3:=hz.c3
   have e4:=hz.c4
   have e5:=hz.c5
   have e6:=hz.c6
   have f0:=hz.z 0
   have f1:=hz.z 1
   have f2:=hz.z 2
   have f3:=hz.z 3
   have f4:=hz.z 4
   have f5:=hz.z 5
   have f6:=hz.z 6
   go_simp
   refine outA hK (held_5 hBz hS00) (fun hHeld16=>?_)
   clear hK K
   refine doneA ?_
   have ne1:gl≠bs:=by have:=HBS.out;have:=SZB.out;omega
   have ne2:gu≠bs:=by have:=HBS.out;have:=SZB.out;omega
   obtain ⟨WX,hWX⟩:∃ X,X=fillB w109 bs s.C s.cr (.slice (some ⟨L.bg,0,none⟩) s.n cg) (.slice (some ⟨gl,0,none⟩) s.C c1) (.slice (some ⟨gu,0,none⟩) s.C c2) (.slice none 0 0) (.slice none 0 0):=⟨_,rfl⟩
   have hs:StB WX bs s.C s.cr (.slice (some ⟨L.bg,0,none⟩) s.n cg) (.slice (some ⟨gl,0,none⟩) s.C c1) (.slice (some ⟨gu,0,none⟩) s.C c2) (.slice none 0 0) (.slice none 0 0):=by rw [hWX];exact hz.fill
   have kx:Kept [bs] w109 WX:=by rw [hWX];exact fillB_kept
   replace ol:=own_kept ol kx (fun b e m=>by cases e;simp at m;omega)
   replace ou:=own_kept ou kx (fun b e m=>by cases e;simp at m;omega)
   rw [← hWX] at hBz
   unfold fillB at hWX
   rw [← hWX]
   have hs:=Lib.hid hs
   have ol:=Lib.hid ol
   have ou:=Lib.hid ou
   have hBz:=Lib.hid hBz
   clear hS0 hHeld hHeld16
   go_wp2_with fail
   go_meet
   case rel=>exact ⟨bs,gl,c1,gu,c2,rfl,hs,ol,ou,Lib.hid ⟨ne1,ne2,hbsl⟩,hBz⟩
 case rest =>
  obtain ⟨bs,gl,c1,gu,c2,rfl,hs,ol,ou,hne,hB⟩:=hcut
  obtain ⟨ne1,ne2,hbs0⟩:=hne.out
  have hr:=H0.out.below hB.out
  have x2c:=cell_later hB.out x2
  have Zc:=Lib.hid (Z0.out.later hB.out)
  have SZc:=hB.out.size
  clear x0 x1 x2 x3 x4 A1 ACL ACU
  go_wp2_with fail
  refine (ACG.out wc hB.out).mono ?_;clear ACG;rintro e w7 ⟨gg,cg',rfl,og,hb7⟩
  have hs7:=hs.out.later hb7
  have e2:=hs7.c2
  have f2:=hs7.z 2
  have ggn:gg≠bs:=by have:=(og.lt gg rfl).1;have:=hs.out.lt;omega
  go_upto_region 5 with fail
  have k8:Kept [bs] w7 (w7.setCell ⟨bs,2,none⟩ (.slice (some ⟨gg,0,none⟩) s.n cg')):=(Kept.refl _ _).setCell (Or.inl (by simp)) _
  have hs8:=hs7.grps (.slice (some ⟨gg,0,none⟩) s.n cg')
  obtain ⟨W8,hW8⟩:∃ W,W=w7.setCell ⟨bs,2,none⟩ (.slice (some ⟨gg,0,none⟩) s.n cg'):=⟨_,rfl⟩
  rw [← hW8] at k8 hs8 ⊢
  have nb:∀ g,g≠bs→g∉[bs]:=fun g q m=>q (by simpa using m)
  have og8:=own_kept og k8 (fun b e=>by cases e;exact nb _ ggn)
  have ol8:=own_kept (own_below ol.out hb7) k8 (fun b e=>by cases e;exact nb _ ne1)
  have ou8:=own_kept (own_below ou.out hb7) k8 (fun b e=>by cases e;exact nb _ ne2)
  have hB8:=Lib.hid ((Below.step hB.out hb7).setCell (p:=⟨bs,2,none⟩) hbs0 (.slice (some ⟨gg,0,none⟩) s.n cg'))
  rw [← hW8] at hB8
  have hr8:=(H0.out.kept (G:=[bs]) (Kept.of hB8.out) (fun b q=>by simp at q;subst q;exact hXB.out _ hbs0))
  have Z8:=Lib.hid ((Zc.out.later hb7).kept k8 (by simp;omega))
  have HG:=Lib.hid fun (F:List Nat) (hF:∀ b∈F,b<W0.heap.size)=>own_held2 (bx:=bx) encG_ok og8 rfl ggn (by omega) (F:=F) (fun b q=>by have:=hF b q;omega)
  have HL:=Lib.hid fun (F:List Nat) (hF:∀ b∈F,b<W0.heap.size)=>own_held2 (bx:=bx) encZ1_ok ol8 (by simp) ne1 (by omega) (F:=F) hF
  have HU:=Lib.hid fun (F:List Nat) (hF:∀ b∈F,b<W0.heap.size)=>own_held2 (bx:=bx) encZ1_ok ou8 (by simp) ne2 (by omega) (F:=F) hF
  have x5:W8.cell? ⟨x,5,none⟩=some (.map (some L.bm)):=hr8.head.c5
  have AK:=Lib.hid (keys_at (some L.bm) W8)
  have AS:=Lib.hid fun W (hW:W=W8.alloc (.cells #[.map (some L.bm)] 96))=>sorted_at hr8 HO.out W hW
  have HS8:=Lib.hid hs8
  have HR8:=Lib.hid hr8
  have SZ8:W0.heap.size≤W8.heap.size:=hB8.out.size
  clear hs ol ou hne hr x2c hs7 e2 f2 k8 hs8 og og8 ol8 ou8 hr8 hb7 hW8 nb hB Zc SZc
  go_wp2_with fail
  refine AK.out.mono ?_;clear AK;rintro e w9 ⟨rfl,hw9⟩
  have AS9:=Lib.hid (AS.out w9 hw9)
  have hb9:Below W8.heap.size W8 w9:=by rw [hw9];exact below_a _ _
  clear AS hw9
  go_wp2_with fail
  refine AS9.out.mono ?_;clear AS9;rintro e w10 ⟨ak,ck,rfl,ok,hb10⟩
  have hbA:=Below.step hb9 hb10
  have SA:=Lib.hid (HS8.out.later hbA)
  have RA:=Lib.hid (HR8.out.below hbA)
  have ZA:=Lib.hid (Z8.out.later hbA)
  have OK:=Lib.hid ok
  have hbs1:bs<w10.heap.size:=SA.out.lt
  have hbx1:bx<w10.heap.size:=ZA.out.lt
  have HBA:=Lib.hid (Below.step hB8.out hbA)
  have HG1:=Lib.hid fun F hF=>(HG.out F hF).later hbA
  have HL1:=Lib.hid fun F hF=>(HL.out F hF).later hbA
  have HU1:=Lib.hid fun F hF=>(HU.out F hF).later hbA
  have h10:W0.heap.size≤w10.heap.size:=HBA.out.size
  have okb:w9.heap.size≤w10.heap.size:=hb10.size
  have hbs9:bs<w9.heap.size:=(HS8.out.later hb9).lt
  have hlab:=Lib.hid (show ∀ b∈[bs],L.lab b=(0,0,0) from fun b q=>by simp at q;subst q;exact hXB.out _ hbs0)
  obtain ⟨VW,hVW⟩:∃ V,V=(keysL s).map (viewOf s):=⟨_,rfl⟩
  have HVW:=Lib.hid hVW
  have HVL:=Lib.hid (show VW.length=s.c by rw [hVW,List.length_map];exact HO.out.keys_len)
  clear HG HL HU HS8 HR8 Z8 hbA hb9 hb10 ok hVW SZ8 ne1 ne2 ggn hXB
  go_wp2_with fail
  go_loopw [47] (fun iv wr=>∃ (k:Nat) (a:Option Addr) (c:Nat),k≤s.c∧iv=.int .i64 k∧Hid (StB wr bs s.C s.cr (.slice (some ⟨gg,0,none⟩) s.n cg') (.slice (some ⟨gl,0,none⟩) s.C c1) (.slice (some ⟨gu,0,none⟩) s.C c2) (.slice a k c) (.slice none 0 0))∧Hid (wr.ownsRow w10.heap.size 59 8 (.slice a k c) k (flatR encTl (VW.take k)))∧Hid (Kept [bs] w10 wr)) (fun iv _=>s.c - (intOf iv).toNat)
  case atStart=>exact ⟨0,none,0,Nat.zero_le _,rfl,SA,Lib.hid (World.ownsRow_nil _ _ _ _),Lib.hid (Kept.refl _ _)⟩
  case round =>
   clear SA
   obtain ⟨k,a,c,hk,rfl,hS,hown,HKP⟩:=hrel
   by_cases hlt:k<s.c
   ·have hki:(k:Int)<(s.c:Int):=by omega
    have z0:decide ((k:Int)<(s.c:Int))=true:=decide_eq_true hki
    have hkl:k<(keysL s).length:=by rw [HO.out.keys_len];exact hlt
    obtain ⟨gk,ck',hak⟩:∃ g c',(Value.slice ak s.c ck)=.slice (some ⟨g,0,none⟩) s.c c':=by
     obtain ⟨q,hq⟩:∃ q,s.c=q+1:=⟨s.c - 1,by omega⟩
     have:=OK.out
     rw [hq] at this ⊢
     exact own_some this
    cases hak
    obtain ⟨id,hid⟩:∃ id,id=(keysL s)[k]!:=⟨_,rfl⟩
    have hidx:(keysL s)[k]?=some id:=by rw [hid,getElem!_pos (keysL s) k hkl];exact List.getElem?_eq_getElem hkl
    have ck1:wr.cell? ⟨gk,k,none⟩=some (.int .i64 id):=HKP.out.cellAt (by
     rw [OK.out.cellAt k (by omega),flatZ1,List.getElem?_map,hidx];rfl) (by have:=(OK.out.lt gk rfl).1;simp;omega)
    have hmem:id∈keysL s:=List.mem_of_getElem? hidx
    obtain ⟨t,hT⟩:∃ t,s.T id=some t:=Option.isSome_iff_exists.1 ((keysL_mem HO.out id).1 hmem)
    obtain ⟨xe,hxe⟩:∃ xe,xe=ranX s id t:=⟨_,rfl⟩
    have HT1:=Lib.hid (show VW.take (k+1)=VW.take k++[⟨id,t.g,t.w,t.cpu,t.mask,t.rdy,xe.1,xe.2.1⟩] from take_snocL (by
     rw [HVW.out,List.getElem?_map,hidx]
     show some (viewOf s id)=_
     unfold viewOf
     rw [hT,hxe]))
    have A1:=Lib.hid fun W (hb:Below wr.heap.size wr W)=>(show Calls Tryz.prog 52 #[.pointer (some ⟨x,0,none⟩),.int .i64 id] W fun e w'=>e=.returned (.agg #[.int .i64 id,.int .i64 t.g,.int .i64 t.w,.int .i64 t.cpu,.int .u64 t.mask,.bool t.rdy,.int .u64 xe.1,.int .u32 xe.2.1])∧Below W.heap.size W w' by rw [hxe];exact xview_at ((RA.out.kept HKP.out hlab.out).below hb) HO.out hT)
    have e5:=hS.out.c5
    have hkS:=HKP.out.size
    clear hid hidx hmem hT hxe hkl
    go_wp2_with fail
    have hS0:(fun w':World=>w'.cell? ⟨bs,5,none⟩=some (.slice a k c)) (wr.drew):=cell_dr e5
    refine startU [8] (fun w':World=>w'.cell? ⟨bs,5,none⟩=some (.slice a k c)) (by kernel_rfl) hS0 (fun hHeld=>?_)
    have hS00:Below wr.heap.size wr wr:=Below.refl _ _
    obtain ⟨wc110,hwc110⟩:∃ X,X=wr.drew:=⟨_,rfl⟩
    rw [← hwc110] at hHeld ⊢
    have hWc110:Below wr.heap.size wr wc110:=by rw [hwc110];exact (Below.refl _ _).drew
    clear hwc110
    refine takeUw (i:=0) (v:=?v0_111) rfl (by kernel_rfl) (fun _ _ _ h=>h) (by rfl) ?hy0_111 (by assumption) ?rest0_111
    case hy0_111=>(intro w hSw;(try dsimp only at hSw);go_simp;try with_reducible rfl)
    try simp only [Act.put,List.setIfInBounds_toArray,List.set_cons_zero,List.set_cons_succ]
    refine takeUw (i:=1) (v:=?v1_112) rfl (by kernel_rfl) (fun _ _ _ h=>h) (by rfl) ?hy1_112 (by assumption) ?rest1_112
    case hy1_112=>(intro w hSw;(try dsimp only at hSw);go_simp;try with_reducible rfl)
    try simp only [Act.put,List.setIfInBounds_toArray,List.set_cons_zero,List.set_cons_succ]
    refine takeUw (i:=2) (v:=?v2_113) rfl (by kernel_rfl) (fun _ _ _ h=>h) (by rfl) ?hy2_113 (by assumption) ?rest2_113
    case hy2_113=>(intro w hSw;(try dsimp only at hSw);go_simp;try with_reducible rfl)
    try simp only [Act.put,List.setIfInBounds_toArray,List.set_cons_zero,List.set_cons_succ]
    refine takeUw (i:=3) (v:=?v3_114) rfl (by kernel_rfl) (fun _ _ _ h=>h) (by rfl) ?hy3_114 (by assumption) ?rest3_114
    case hy3_114=>(intro w hSw;(try dsimp only at hSw);go_simp;try with_reducible rfl)
    try simp only [Act.put,List.setIfInBounds_toArray,List.set_cons_zero,List.set_cons_succ]
    refine readyU (rs:=[4]) (by kernel_rfl) (by simp) ?_
    refine consU rfl (fun K hK=>?_) (nilU)
    go_simp
    refine (A1.out wc110 hWc110).mono ?_
    rintro e w115 ⟨rfl,hb115⟩
    have hW115:=Below.step hWc110 hb115
    have ks:=cell_later hW115 e5
    have h1:=own_below hown.out hW115
    go_wp2_with fail
    refine hK.out _ _ (ks) (fun hHeld4=>?_)
    clear hK K
    try simp only [Act.put,List.setIfInBounds_toArray,List.set_cons_zero,List.set_cons_succ]
    refine readyU (rs:=[5]) (by kernel_rfl) (by simp) ?_
    refine consU rfl (fun K hK=>?_) (nilU)
    go_simp
    obtain ⟨w116,hw116⟩:∃ X,X=w115.alloc (.cells #[.int .i64 id,.int .i64 t.g,.int .i64 t.w,.int .i64 t.cpu,.int .u64 t.mask,.bool t.rdy,.int .u64 xe.1,.int .u32 xe.2.1] 59):=⟨_,rfl⟩
    rw [← hw116]
    have hb116:Below w115.heap.size w115 w116:=by rw [hw116];exact below_a _ _
    have hW116:=Below.step hW115 hb116
    replace h1:=own_below h1 hb116
    replace ks:=cell_later hb116 ks
    have l1:∀ j q,([.int .i64 id,.int .i64 t.g,.int .i64 t.w,.int .i64 t.cpu,.int .u64 t.mask,.bool t.rdy,.int .u64 xe.1,.int .u32 xe.2.1]:List Value)[j]?=some q→w116.cell? ⟨w115.heap.size,j,none⟩=some q:=fun j q h=>by rw [hw116];exact cellN rfl (by simpa using h)
    clear hw116 hb116
    refine hK.out _ _ (ks) (fun hHeld5=>?_)
    clear hK K
    try simp only [Act.put,List.setIfInBounds_toArray,List.set_cons_zero,List.set_cons_succ]
    refine readyU (rs:=[6]) (by kernel_rfl) (by simp) ?_
    refine consU rfl (fun K hK=>?_) (nilU)
    have hsz:w10.heap.size≤w116.heap.size:=by have:=hW116.size;omega
    refine step_append_own2 rfl (.tmp 52) (.tmp 56) 43 rfl w10.heap.size 59 it (.agg #[.int .i64 0,.int .i64 0,.int .i64 0,.int .i64 0,.int .u64 0,.bool false,.int .u64 0,.int .u32 0]) 8 64 Tryz.underlying43 hi hz0 hz1 hz2 rfl (by decide) _ k (flatR encTl (VW.take k)) rfl h1 _ 1 1 [.int .i64 id,.int .i64 t.g,.int .i64 t.w,.int .i64 t.cpu,.int .u64 t.mask,.bool t.rdy,.int .u64 xe.1,.int .u32 xe.2.1] rfl rfl (fun j q h=>by rw [addN,Nat.zero_add];exact l1 j q h) (fun q hq=>by simp at hq;rcases hq with rfl | rfl | rfl | rfl | rfl | rfl | rfl | rfl <;> rfl) (by unfold maxLen;omega) (by omega) hsz (by decide) ?_
    intro v117 w117 oa ga pa
    obtain ⟨gv,cv,rfl⟩:=own_some oa
    have hke:=grown_kept ga
    have hnb:bs∉(Value.slice a k c).ownBlock.toList:=fun m=>by have h8:=(h1.lt bs (Option.mem_toList.1 m)).1;omega
    have ks2:=hke.cellAt ks hnb
    have hsW:=(hS.out.later hW116).kept hke hnb
    have hKW:=(HKP.out.step hW116).grown ga (fun g hg=>Or.inr (h1.lt g hg).1)
    clear ga pa hke l1 h1 ks
    refine hK.out _ _ (ks2) (fun hHeld6=>?_)
    clear hK K
    try simp only [Act.put,List.setIfInBounds_toArray,List.set_cons_zero,List.set_cons_succ]
    refine takeUw (i:=7) (v:=?v7_118) rfl (by kernel_rfl) (fun _ _ _ h=>h) (by rfl) ?hy7_118 (by assumption) ?rest7_118
    case hy7_118=>(intro w hSw;(try dsimp only at hSw);go_simp;try with_reducible rfl)
    try simp only [Act.put,List.setIfInBounds_toArray,List.set_cons_zero,List.set_cons_succ]
    refine readyU (rs:=[8]) (by kernel_rfl) (by simp) ?_
    refine consV rfl (by kernel_rfl) (fun K hK=>?_) (nilU)
    have e5b:=hsW.c5
    have f5b:=hsW.z 5
    go_simp
    refine hK.out _ _ ?_
    clear hK K
    try simp only [Act.put,List.setIfInBounds_toArray,List.set_cons_zero,List.set_cons_succ]
    refine doneU (by kernel_rfl) ?_ _
    have hsZ:=Lib.hid (hsW.tasks (.slice (some ⟨gv,0,none⟩) (k+1:Nat) cv))
    have hKZ:=Lib.hid (hKW.setCell (p:=⟨bs,5,none⟩) (Or.inl (by simp)) (.slice (some ⟨gv,0,none⟩) (k+1:Nat) cv))
    have hoZ:=Lib.hid (show (w117.setCell ⟨bs,5,none⟩ (.slice (some ⟨gv,0,none⟩) (k+1:Nat) cv)).ownsRow w10.heap.size 59 8 (.slice (some ⟨gv,0,none⟩) (k+1:Nat) cv) (k+1) (flatR encTl (VW.take (k+1))) by rw [HT1.out,flatR_app];exact own_kept oa ((Kept.refl [bs] w117).setCell (Or.inl (by simp)) _) (fun b e m=>by have:=(oa.lt b e).1;simp at m;omega))
    obtain ⟨WZ,hWZ⟩:∃ X,X=w117.setCell ⟨bs,5,none⟩ (.slice (some ⟨gv,0,none⟩) (k+1:Nat) cv):=⟨_,rfl⟩
    rw [← hWZ] at hsZ hKZ hoZ ⊢
    clear hWZ oa hsW hKW ks2 e5b f5b
    go_wp2_with fail
    go_roundw
    case rel=>exact ⟨k+1,some ⟨gv,0,none⟩,cv,by omega,by go_num,hsZ,hoZ,hKZ⟩
    case measure=>simp [intOf];omega
   ·obtain rfl:k=s.c:=by omega
    have z0:decide ((s.c:Int)<(s.c:Int))=false:=decide_eq_false (by omega)
    have HTK:=Lib.hid fun (F:List Nat) (hF:∀ b∈F,b<W0.heap.size)=>own_heldR (F:=bx::bs::F) encTl_ok hown.out HVL.out.symm (by rw [List.take_of_length_le (Nat.le_of_eq HVL.out)]) (fun b q=>by
     rcases List.mem_cons.1 q with q | q
     ·omega
     ·rcases List.mem_cons.1 q with q | q
      ·omega
      ·have:=hF b q;omega)
    have hr:=RA.out.kept HKP.out hlab.out
    obtain ⟨cq,x6⟩:∃ c,wr.cell? ⟨x,6,none⟩=some (.slice (some ⟨L.bq,0,none⟩) s.n c):=hr.head.c6
    have RB:=Lib.hid hr
    have ZB:=Lib.hid (ZA.out.kept HKP.out (by simp;omega))
    have hK1:Kept [bx,bs] w10 wr:=HKP.out.mono (by simp)
    have kF:∀ F:List Nat,Kept (bx::bs::F) w10 wr:=fun F=>hK1.mono (by simp)
    have HG2:=Lib.hid fun F hF=>(HG1.out F hF).kept (kF F)
    have HL2:=Lib.hid fun F hF=>(HL1.out F hF).kept (kF F)
    have HU2:=Lib.hid fun F hF=>(HU1.out F hF).kept (kF F)
    have HBB:=Lib.hid (HBA.out.trans (HKP.out.below (B:=W0.heap.size) (fun b q=>by simp at q;omega) h10))
    have hbs2:bs<wr.heap.size:=hS.out.lt
    have hbx2:bx<wr.heap.size:=ZB.out.lt
    clear hr hown HKP RA ZA HG1 HL1 HU1 HBA hK1 kF OK
    obtain ⟨w11,rfl⟩:∃ W:World,W=wr:=⟨_,rfl⟩
    have SB:=hS
    clear hS
    go_wp2_with fail
    go_loopw [65] (fun iv wr=>∃ (g:Nat) (a2:Option Addr) (c':Nat) (l:List (Option Addr×Nat×Nat)),g≤s.n∧iv=.int .i64 g∧Hid (l.length=g)∧Hid (StB wr bs s.C s.cr (.slice (some ⟨gg,0,none⟩) s.n cg') (.slice (some ⟨gl,0,none⟩) s.C c1) (.slice (some ⟨gu,0,none⟩) s.C c2) (.slice a s.c c) (.slice a2 g c'))∧Hid (wr.ownsRow w11.heap.size 69 1 (.slice a2 g c') g (flatR encSl l))∧Hid (∀ i q,l[i]?=some q→wr.ownsRow w11.heap.size 121 3 (.slice q.1 q.2.1 q.2.2) s.C (flatR encSp (spRow s i)))∧Hid (Kept [bs] w11 wr)) (fun iv _=>s.n - (intOf iv).toNat)
    case atStart=>exact ⟨0,none,0,[],Nat.zero_le _,rfl,Lib.hid rfl,SB,Lib.hid (World.ownsRow_nil _ _ _ _),Lib.hid (fun i q h=>by simp at h),Lib.hid (Kept.refl _ _)⟩
    case round =>
     clear SB
     obtain ⟨g,a2,c',l,hg,rfl,hl,hS,hown,hrows,HKP⟩:=hrel
     have hkS:=HKP.out.size
     by_cases hlt:g<s.n
     ·have hgi:(g:Int)<(s.n:Int):=by omega
      have z1:decide ((g:Int)<(s.n:Int))=true:=decide_eq_true hgi
      have hr:=RB.out.kept HKP.out hlab.out
      obtain ⟨cr6,r6⟩:∃ c,wr.cell? ⟨L.bq,g,none⟩=some (.slice (some ⟨L.rq g,0,none⟩) s.C c):=hr.rq.c g hlt
      have HR:=Lib.hid hr
      clear hr
      obtain ⟨w12,rfl⟩:∃ W:World,W=wr:=⟨_,rfl⟩
      go_wp2_with fail
      go_loopw [9,72] (fun v9 iv wr=>∃ (k:Nat) (a3:Option Addr) (c3:Nat),k≤s.C∧iv=.int .i64 k∧v9=.slice a3 k c3∧Hid (wr.ownsRow w12.heap.size 121 3 (.slice a3 k c3) k (flatR encSp ((spRow s g).take k)))∧Hid (Below w12.heap.size w12 wr)) (fun _ iv _=>s.C - (intOf iv).toNat)
      case atStart=>exact ⟨0,none,0,Nat.zero_le _,rfl,rfl,Lib.hid (World.ownsRow_nil _ _ _ _),Lib.hid (Below.refl _ _)⟩
      case round =>
       obtain ⟨k,a3,c3,hk,rfl,rfl,ho3,hb3⟩:=hrel
       have hk3:=hb3.out.size
       by_cases hltk:k<s.C
       ·have hki:(k:Int)<(s.C:Int):=by omega
        have z2:decide ((k:Int)<(s.C:Int))=true:=decide_eq_true hki
        have hr3:=HR.out.below hb3.out
        have p6:wr.cell? ⟨L.rq g,k,none⟩=some (.pointer (some ⟨L.qp g k,0,none⟩)):=(hr3.qc g hlt).c k hltk
        obtain ⟨xe,hxe⟩:∃ xe,xe=spotE s g k:=⟨_,rfl⟩
        obtain ⟨fl,hfl⟩:∃ fl,fl=(s.Q k).fl g:=⟨_,rfl⟩
        have A5:=Lib.hid (xspot_at hr3 HO.out hlt hltk)
        have A6:=Lib.hid fun W (hb:Below wr.heap.size wr W)=>Floor_at W ((hr3.q g k hlt hltk).below hb)
        have HT2:=Lib.hid (show (spRow s g).take (k+1)=(spRow s g).take k++[(xe.1,xe.2.1,fl)] from take_snocL (by
         unfold spRow
         rw [List.getElem?_map,List.getElem?_range hltk,hxe,hfl]
         rfl))
        rw [← hxe] at A5
        rw [← hfl] at A6
        clear hr3 hxe hfl
        go_wp2_with fail
        refine A5.out.mono ?_;clear A5;rintro e w4 ⟨rfl,hb4⟩
        go_upto_region 18 with fail
        have hb5:=Below.step hb4 (below_a w4 (.cells #[.int .u64 xe.1,.int .u32 xe.2.1,.int .u32 xe.2.2] 107))
        have y0:=cell_nw w4 #[.int .u64 xe.1,.int .u32 xe.2.1,.int .u32 xe.2.2] 107 0 _ rfl
        have y1:=cell_nw w4 #[.int .u64 xe.1,.int .u32 xe.2.1,.int .u32 xe.2.2] 107 1 _ rfl
        obtain ⟨W5,hW5⟩:∃ W,W=w4.alloc (.cells #[.int .u64 xe.1,.int .u32 xe.2.1,.int .u32 xe.2.2] 107):=⟨_,rfl⟩
        rw [← hW5] at hb5 y0 y1 ⊢
        obtain ⟨b5,hb5e⟩:∃ b,b=w4.heap.size:=⟨_,rfl⟩
        rw [← hb5e] at y0 y1 ⊢
        have h5:=own_below ho3.out hb5
        have HB5:=Lib.hid (Below.step hb3.out hb5)
        have A6':=Lib.hid fun W (hb:Below W5.heap.size W5 W)=>A6.out W (Below.step hb5 hb)
        have hk5:=hb5.size
        have l5:b5<w12.heap.size→False:=fun q=>by have:=hb4.size;omega
        have hne5:∀ g',(Value.slice a3 k c3).ownBlock=some g'→g'≠b5:=fun g' e q=>by have:=(ho3.out.lt g' e).2;have:=hb4.size;omega
        clear hW5 hb5e A6 p6 r6 hb4
        go_wp2_with fail
        have hS0:(fun w':World=>w'.cell? ⟨b5,0,none⟩=some (.int .u64 xe.1)∧w'.cell? ⟨b5,1,none⟩=some (.int .u32 xe.2.1)) (W5.drew):=⟨cell_dr y0,cell_dr y1⟩
        refine wp_region_held_drew (S:=fun w':World=>w'.cell? ⟨b5,0,none⟩=some (.int .u64 xe.1)∧w'.cell? ⟨b5,1,none⟩=some (.int .u32 xe.2.1)) (by kernel_rfl) hS0 (fun hHeld=>?_)
        have hS00:Below W5.heap.size W5 W5:=Below.refl _ _
        obtain ⟨wc119,hwc119⟩:∃ X,X=W5.drew:=⟨_,rfl⟩
        rw [← hwc119] at hHeld ⊢
        have hWc119:Below W5.heap.size W5 wc119:=by rw [hwc119];exact (Below.refl _ _).drew
        clear hwc119
        refine takeA 0 ?_
        refine takeA 1 ?_
        refine takeA 2 ?_
        refine takeA 3 ?_
        refine takeA 4 ?_
        refine takeA 5 ?_
        refine readyA [6] (consA (fun K hK=>?_) .nil)
        go_simp
        refine (A6'.out wc119 hWc119).mono ?_
        rintro e w_ ⟨rfl,rfl⟩
        have ks:=hHeld
        go_wp2_with fail
        refine outA hK (ks) (fun hHeld6=>?_)
        clear hK K
        refine takeH (i:=7) (v:=.agg #[.int .u64 xe.1,.int .u32 xe.2.1,.int .u64 fl]) rfl (by kernel_rfl) (fun _ _ _ h=>h) (by rfl) (fun w _=>lit_run #[(0,.int .u64 xe.1),(1,.int .u32 xe.2.1),(2,.int .u64 fl)] #[.int .u64 xe.1,.int .u32 xe.2.1,.int .u64 fl] (by kernel_rfl) (by kernel_rfl)) (by assumption) ?_
        try simp only [Act.put,List.setIfInBounds_toArray,List.set_cons_zero,List.set_cons_succ]
        refine readyA [8] (consA (fun K hK=>?_) .nil)
        go_simp
        obtain ⟨w120,hw120⟩:∃ X,X=wc119.alloc (.cells #[.int .u64 xe.1,.int .u32 xe.2.1,.int .u64 fl] 121):=⟨_,rfl⟩
        rw [← hw120]
        have hb120:Below wc119.heap.size wc119 w120:=by rw [hw120];exact below_a _ _
        have hW120:=Below.step hWc119 hb120
        have h1:=own_below h5 hW120
        replace ks:w120.cell? ⟨b5,0,none⟩=some (.int .u64 xe.1)∧w120.cell? ⟨b5,1,none⟩=some (.int .u32 xe.2.1):=⟨cell_later hb120 ks.1,cell_later hb120 ks.2⟩
        have l1:∀ j q,([.int .u64 xe.1,.int .u32 xe.2.1,.int .u64 fl]:List Value)[j]?=some q→w120.cell? ⟨wc119.heap.size,j,none⟩=some q:=fun j q h=>by rw [hw120];exact cellN rfl (by simpa using h)
        clear hw120 hb120
        refine outA hK (ks) (fun hHeld8=>?_)
        clear hK K
        refine readyA [9] (consA (fun K hK=>?_) .nil)
        have hsz:w12.heap.size≤w120.heap.size:=by have:=hW120.size;omega
        refine step_append_own2 rfl (.tmp 81) (.tmp 89) 69 rfl w12.heap.size 121 ip (.agg #[.int .u64 0,.int .u32 0,.int .u64 0]) 3 24 Tryz.underlying69 pi pz0 pz1 pz2 rfl (by decide) _ k (flatR encSp ((spRow s g).take k)) rfl h1 _ 1 1 [.int .u64 xe.1,.int .u32 xe.2.1,.int .u64 fl] rfl rfl (fun j q h=>by rw [addN,Nat.zero_add];exact l1 j q h) (fun q hq=>by simp at hq;rcases hq with rfl | rfl | rfl <;> rfl) (by unfold maxLen;omega) (by omega) hsz (by decide) ?_
        intro v121 w121 oa ga pa
        obtain ⟨gv,cv,rfl⟩:=own_some oa
        have hke:=grown_kept ga
        have hnb:b5∉(Value.slice a3 k c3).ownBlock.toList:=fun m=>hne5 b5 (Option.mem_toList.1 m) rfl
        have ks2:w121.cell? ⟨b5,0,none⟩=some (.int .u64 xe.1)∧w121.cell? ⟨b5,1,none⟩=some (.int .u32 xe.2.1):=⟨hke.cellAt ks.1 hnb,hke.cellAt ks.2 hnb⟩
        have hBz:Below w12.heap.size w12 w121:=(Below.step HB5.out hW120).grown ga (Below.step HB5.out hW120).size (fun g hg=>(h1.lt g hg).1)
        clear ga pa hke l1 h1 ks
        refine outA hK (ks2) (fun hHeld9=>?_)
        clear hK K
        refine takeA 10 ?_
        refine doneA ?_
        have hoZ:=Lib.hid (show w121.ownsRow w12.heap.size 121 3 (.slice (some ⟨gv,0,none⟩) (k+1:Nat) cv) (k+1) (flatR encSp ((spRow s g).take (k+1))) by rw [HT2.out,flatR_app];exact oa)
        have hBZ:=Lib.hid hBz
        clear oa ks2 hBz
        go_wp2_with fail
        go_roundw
        case rel=>exact ⟨k+1,some ⟨gv,0,none⟩,cv,by omega,by go_num,rfl,hoZ,hBZ⟩
        case measure=>simp [intOf];omega
       ·obtain rfl:k=s.C:=by omega
        have z2:decide ((s.C:Int)<(s.C:Int))=false:=decide_eq_false (by omega)
        have hlen:(spRow s g).length=s.C:=by unfold spRow;simp
        have hfull:(spRow s g).take s.C=spRow s g:=List.take_of_length_le (by omega)
        have o3:=ho3.out
        rw [hfull] at o3
        have hrow3:=own_base o3 hkS
        obtain ⟨W13,hW13⟩:∃ W,W=wr.alloc (.cells #[.slice a3 s.C c3] 69):=⟨_,rfl⟩
        have hb13:Below wr.heap.size wr W13:=by rw [hW13];exact below_a _ _
        have cell13:W13.cell? ⟨wr.heap.size,0,none⟩=some (.slice a3 s.C c3):=by rw [hW13];exact cell_nw _ _ _ 0 _ rfl
        have hbw:=Below.step hb3.out hb13
        have own13:=own_below hown.out hbw
        have e6:=cell_later hb3.out hS.out.c6
        have hS13:=hS.out.later hbw
        have rows13:∀ i q,(l++[(a3,s.C,c3)])[i]?=some q→W13.ownsRow w11.heap.size 121 3 (.slice q.1 q.2.1 q.2.2) s.C (flatR encSp (spRow s i)):=fun i q hq=>by
         by_cases hi:i<l.length
         ·rw [List.getElem?_append_left hi] at hq
          exact own_below (hrows.out i q hq) hbw
         ·have hi2:i=l.length:=by have:=(List.getElem?_eq_some_iff.1 hq).1;simp at this;omega
          subst hi2
          simp at hq
          subst hq
          rw [hl.out]
          exact own_below hrow3 hb13
        have HROWS:=Lib.hid rows13
        have HS13:=Lib.hid hS13
        have HK13:=Lib.hid (HKP.out.step hbw)
        have HN13:=Lib.hid own13
        have HW13:=Lib.hid hW13
        have sz13:w11.heap.size≤W13.heap.size:=by have:=hbw.size;omega
        clear rows13 hS13 own13 hb13 hbw o3 hrow3 hlen hfull hS hown hrows HKP ho3 hb3 r6 hW13
        go_wp2_with (at_builtin;rw [← HW13.out];refine wpList_append_own2 rfl (.tmp 93) (.tmp 95) 44 rfl w11.heap.size 69 iq (.slice none 0 0) 1 24 Tryz.underlying44 qi qz0 qz1 qz2 rfl (by decide) _ g (flatR encSl l) rfl HN13.out ⟨wr.heap.size,0,none⟩ 1 1 [.slice a3 s.C c3] rfl rfl ?c1 ?c2 ?c3 ?c4 sz13 (by decide) ?_)
        case c1=>intro j u hu;rw [addN,Nat.zero_add];rcases j with _ | j <;> simp at hu;subst hu;exact cell13
        case c2=>intro u hu;simp at hu;subst hu;rfl
        case c3=>unfold maxLen;omega
        case c4=>omega
        intro v14 w14 oa ga pa
        obtain ⟨gv,cv,rfl⟩:=own_some oa
        have hke:=grown_kept ga
        have hnb:bs∉(Value.slice a2 g c').ownBlock.toList:=fun m=>by have h8:=(HN13.out.lt bs (Option.mem_toList.1 m)).1;omega
        have hs14:=HS13.out.kept hke hnb
        have hK14:=HK13.out.grown ga (fun g hg=>Or.inr (HN13.out.lt g hg).1)
        have rows14:∀ i q,(l++[(a3,s.C,c3)])[i]?=some q→w14.ownsRow w11.heap.size 121 3 (.slice q.1 q.2.1 q.2.2) s.C (flatR encSp (spRow s i)):=fun i q hq=>own_kept (HROWS.out i q hq) hke (fun b e m=>own_apartS (HROWS.out i q hq) HN13.out (by decide) e (Option.mem_toList.1 m))
        have f6:=hs14.z 6
        have e6b:=hs14.c6
        have ks:Kept [bs] w14 (w14.setCell ⟨bs,6,none⟩ (.slice (some ⟨gv,0,none⟩) (g+1:Nat) cv)):=(Kept.refl _ _).setCell (Or.inl (by simp)) _
        have hsZ:=Lib.hid (hs14.spots (.slice (some ⟨gv,0,none⟩) (g+1:Nat) cv))
        have hKZ:=Lib.hid (hK14.trans ks)
        have hoZ:=Lib.hid (show (w14.setCell ⟨bs,6,none⟩ (.slice (some ⟨gv,0,none⟩) (g+1:Nat) cv)).ownsRow w11.heap.size 69 1 (.slice (some ⟨gv,0,none⟩) (g+1:Nat) cv) (g+1) (flatR encSl (l++[(a3,s.C,c3)])) by rw [flatR_app];exact own_kept oa ks (fun b e m=>by have:=(oa.lt b e).1;simp at m;omega))
        have hrZ:=Lib.hid fun i q hq=>own_kept (rows14 i q hq) ks (fun b e m=>by have:=((rows14 i q hq).lt b e).1;simp at m;omega)
        clear oa ga pa hke hs14 hK14 rows14 ks HROWS HS13 HK13 HN13 HW13 cell13 e6
        go_wp2_with fail
        go_roundw
        case rel=>exact ⟨g+1,some ⟨gv,0,none⟩,cv,l++[(a3,s.C,c3)],by omega,by go_num,Lib.hid (by simp [hl.out]),hsZ,hoZ,hrZ,hKZ⟩
        case measure=>simp [intOf];omega
     ·obtain rfl:g=s.n:=by omega
      have z1:decide ((s.n:Int)<(s.n:Int))=false:=decide_eq_false (by omega)
      have Zr:=ZB.out.kept HKP.out (by simp;omega)
      have Sr:=hS.out
      have e0:=Sr.c0
      have z0_:=Zr.c0
      have f0:=Zr.z 0
      have e1:=Sr.c1
      have z1_:=Zr.c1
      have f1:=Zr.z 1
      have e2:=Sr.c2
      have z2_:=Zr.c2
      have f2:=Zr.z 2
      have e3:=Sr.c3
      have z3_:=Zr.c3
      have f3:=Zr.z 3
      have e4:=Sr.c4
      have z4_:=Zr.c4
      have f4:=Zr.z 4
      have e5:=Sr.c5
      have z5_:=Zr.c5
      have f5:=Zr.z 5
      have e6:=Sr.c6
      have z6_:=Zr.c6
      have f6:=Zr.z 6
      clear Sr
      go_wp2_with fail
      refine bodyPost_ret (v:=.tuple #[.agg #[.int .i64 s.C,.int .u64 s.cr,.slice (some ⟨gg,0,none⟩) s.n cg',.slice (some ⟨gl,0,none⟩) s.C c1,.slice (some ⟨gu,0,none⟩) s.C c2,.slice a s.c c,.slice a2 s.n c'],.int .i64 0]) (by simp [results,Tryz.results16,go_sem,z0_,z1_,z2_,z3_,z4_,z5_,z6_,f0,f1,f2,f3,f4,f5,f6]) rfl ⟨_,rfl,fun F hF=>?_,?_⟩
      ·have hF2:∀ b∈F,b<W0.heap.size:=fun b q=>by have:=hF b q;have:=HBX.out;omega
       have KC:=((((((((HKP.out.mono (T:=bx::bs::F) (by simp)).setCell (p:=⟨bx,0,none⟩) (Or.inl (by simp)) (.int .i64 s.C)).setCell (p:=⟨bx,1,none⟩) (Or.inl (by simp)) (.int .u64 s.cr)).setCell (p:=⟨bx,2,none⟩) (Or.inl (by simp)) (.slice (some ⟨gg,0,none⟩) s.n cg')).setCell (p:=⟨bx,3,none⟩) (Or.inl (by simp)) (.slice (some ⟨gl,0,none⟩) s.C c1)).setCell (p:=⟨bx,4,none⟩) (Or.inl (by simp)) (.slice (some ⟨gu,0,none⟩) s.C c2)).setCell (p:=⟨bx,5,none⟩) (Or.inl (by simp)) (.slice a s.c c)).setCell (p:=⟨bx,6,none⟩) (Or.inl (by simp)) (.slice a2 s.n c'))
       have KD:=((((((((Kept.refl (bx::bs::F) wr).setCell (p:=⟨bx,0,none⟩) (Or.inl (by simp)) (.int .i64 s.C)).setCell (p:=⟨bx,1,none⟩) (Or.inl (by simp)) (.int .u64 s.cr)).setCell (p:=⟨bx,2,none⟩) (Or.inl (by simp)) (.slice (some ⟨gg,0,none⟩) s.n cg')).setCell (p:=⟨bx,3,none⟩) (Or.inl (by simp)) (.slice (some ⟨gl,0,none⟩) s.C c1)).setCell (p:=⟨bx,4,none⟩) (Or.inl (by simp)) (.slice (some ⟨gu,0,none⟩) s.C c2)).setCell (p:=⟨bx,5,none⟩) (Or.inl (by simp)) (.slice a s.c c)).setCell (p:=⟨bx,6,none⟩) (Or.inl (by simp)) (.slice a2 s.n c'))
       have hFB:∀ b∈bx::bs::F,b<w11.heap.size:=fun b q=>by
        rcases List.mem_cons.1 q with q | q
        ·omega
        ·rcases List.mem_cons.1 q with q | q
         ·omega
         ·have:=hF2 b q;have:=HBB.out.size;omega
       have hts:staOf s=⟨s.C,s.cr,s.Gs,(List.range s.C).map s.cl,(List.range s.C).map s.cu,VW,(List.range s.n).map (spRow s)⟩:=by rw [HVW.out];exact rfl
       rw [hts]
       refine ⟨⟨_,_,_,_,_,rfl,((HG2.out F hF2).kept KC).drop2,((HL2.out F hF2).kept KC).drop2,((HU2.out F hF2).kept KC).drop2,((HTK.out F hF2).kept KC).drop2,⟨⟨l,?_,((own_heldR encSl_ok hown.out hl.out.symm rfl hFB).kept KD).drop2,fun i q y hq hy=>?_⟩⟩⟩⟩
       ·rw [hl.out];simp
       ·have hi:i<s.n:=by rw [← hl.out];exact (List.getElem?_eq_some_iff.1 hq).1
        replace hy:((List.range s.n).map (spRow s))[i]?=some y:=hy
        rw [List.getElem?_map,List.getElem?_range hi] at hy
        cases hy
        have o:=hrows.out i q hq
        obtain ⟨q1,q2,q3⟩:=q
        obtain ⟨_,_,eq⟩:=own_shapeT o
        cases eq
        exact ((own_heldR encSp_ok o (by unfold spRow;simp) rfl hFB).kept KD).drop2
      ·have hb0:w.heap.size≤bx:=by have:=HBX.out;omega
       have h1:=(Below.step HB0.out HBB.out).trans (HKP.out.below (B:=w.heap.size) (fun b q=>by simp at q;have:=HBX.out;omega) (Below.step HB0.out HBB.out).size)
       exact (((((((h1.setCell (p:=⟨bx,0,none⟩) hb0 (.int .i64 s.C)).setCell (p:=⟨bx,1,none⟩) hb0 (.int .u64 s.cr)).setCell (p:=⟨bx,2,none⟩) hb0 (.slice (some ⟨gg,0,none⟩) s.n cg')).setCell (p:=⟨bx,3,none⟩) hb0 (.slice (some ⟨gl,0,none⟩) s.C c1)).setCell (p:=⟨bx,4,none⟩) hb0 (.slice (some ⟨gu,0,none⟩) s.C c2)).setCell (p:=⟨bx,5,none⟩) hb0 (.slice a s.c c)).setCell (p:=⟨bx,6,none⟩) hb0 (.slice a2 s.n c'))
end Go.Proofs.YtapnaocdehahdaaGreat
namespace Go.Proofs.YtapnaocdehahdaaGreat
open Go.RowKit Go.Maps Go.IntWalk Go.Lib
set_option linter.unusedVariables false
set_option linter.unusedSimpArgs false
@[go_sem] theorem eg_apitask:Tryz.prog.eqGuardType Tryz.prog.depth 59=false:=by kernel_rfl
@[go_sem] theorem eg_apispot:Tryz.prog.eqGuardType Tryz.prog.depth 121=false:=by kernel_rfl
@[go_sem] theorem eg_apigroup:Tryz.prog.eqGuardType Tryz.prog.depth 72=false:=by kernel_rfl
@[go_sem high] theorem run_neq_taskS (w:World) (i g k c m v r:Int) (b:Bool):(binOp .neq 59 (.agg #[.int .i64 i,.int .i64 g,.int .i64 k,.int .i64 c,.int .u64 m,.bool b,.int .u64 v,.int .u32 r]) (.agg #[.int .i64 i,.int .i64 g,.int .i64 k,.int .i64 c,.int .u64 m,.bool b,.int .u64 v,.int .u32 r])).run Tryz.prog w=.ok (.bool false) w:=by
 rw [run_neq_struct,run_equalIn_agg w 9999 _ _ _ (by kernel_rfl) (by kernel_rfl)]
 simp [go_sem,Tryz.underlying59]
@[go_sem high] theorem run_neq_spotS (w:World) (v r f:Int):(binOp .neq 121 (.agg #[.int .u64 v,.int .u32 r,.int .u64 f]) (.agg #[.int .u64 v,.int .u32 r,.int .u64 f])).run Tryz.prog w=.ok (.bool false) w:=by
 rw [run_neq_struct,run_equalIn_agg w 9999 _ _ _ (by kernel_rfl) (by kernel_rfl)]
 simp [go_sem,Tryz.underlying121]
theorem eq2_selfS (b c:Int):eq2 b c b c=true:=by unfold eq2;simp
set_option maxRecDepth 100000 in
set_option maxHeartbeats 2000000 in
theorem sameListGs_at (va vb:Value) (L:List (Int×Int)) (w:World) (ha:RecsAt encG w va L) (hb:RecsAt encG w vb L) (h1:L.length≤1000000) :
  Calls Tryz.prog 190 #[va,vb] w fun e w'=>e=.returned (.bool true)∧Below w.heap.size w w':=by
 obtain ⟨a,ca,rfl,-⟩:=id ha
 obtain ⟨b,cb,rfl,-⟩:=id hb
 obtain ⟨m,hm⟩:∃ m,m=L.length:=⟨_,rfl⟩
 have HM:=Lib.hid hm
 have HA:=Lib.hid ha
 have HB:=Lib.hid hb
 rw [← hm] at h1 ⊢
 have hz:((m:Int) != (m:Int))=false:=by simp
 clear ha hb hm
 go_enter Tryz.func190,Tryz.ntmps190
 go_wp2_with fail
 go_loopw [5] (fun i wr=>∃ k q:Nat,k≤m∧i=.int .i64 k∧wr=w.drewN q) (fun i _=>m - (intOf i).toNat)
 case atStart=>exact ⟨0,0,Nat.zero_le _,rfl,rfl⟩
 case round =>
  obtain ⟨k,q,hk,rfl,rfl⟩:=hrel
  by_cases hlt:k<m
  ·have hkl:k<L.length:=by rw [← HM.out];exact hlt
   obtain ⟨y,hx⟩:∃ y,L[k]?=some y:=⟨_,List.getElem?_eq_getElem hkl⟩
   obtain ⟨_,b1,o1,e1,i0⟩:=HA.out.at encG_ok hx
   obtain ⟨_,b2,o2,e2,j0⟩:=HB.out.at encG_ok hx
   cases e1
   cases e2
   have a0:=i0 0 _ rfl
   have d0:=j0 0 _ rfl
   have a1:=i0 1 _ rfl
   have d1:=j0 1 _ rfl
   rw [Nat.add_zero] at a0 d0
   have z2:=eq2_selfS y.1 y.2
   have hk0:(0:Int)≤(k:Int):=by omega
   have hkn:(k:Int)<(m:Int):=by omega
   clear hx i0 j0 hkl
   go_wp2_with fail
   go_quiet (fail)
   go_wp2_with fail
   go_roundw
   case rel=>exact ⟨k+1,_,by omega,by go_num,rfl⟩
   case measure=>simp [intOf];omega
  ·have l1:decide ((k:Int)<(m:Int))=false:=decide_eq_false (by omega)
   have l2:decide (k<m)=false:=decide_eq_false hlt
   have l3:(k<m)=False:=eq_false hlt
   clear hk hlt
   go_wp2_with fail
   go_ret
   exact ⟨rfl,below_drewN (Below.refl _ _) _⟩
set_option maxRecDepth 100000 in
set_option maxHeartbeats 2000000 in
theorem sameListTs_at (va vb:Value) (L:List (TVw)) (w:World) (ha:RecsAt encTl w va L) (hb:RecsAt encTl w vb L) (h1:L.length≤1000000) :
  Calls Tryz.prog 116 #[va,vb] w fun e w'=>e=.returned (.bool true)∧Below w.heap.size w w':=by
 obtain ⟨a,ca,rfl,-⟩:=id ha
 obtain ⟨b,cb,rfl,-⟩:=id hb
 obtain ⟨m,hm⟩:∃ m,m=L.length:=⟨_,rfl⟩
 have HM:=Lib.hid hm
 have HA:=Lib.hid ha
 have HB:=Lib.hid hb
 rw [← hm] at h1 ⊢
 have hz:((m:Int) != (m:Int))=false:=by simp
 clear ha hb hm
 go_enter Tryz.func116,Tryz.ntmps116
 go_wp2_with fail
 go_loopw [5] (fun i wr=>∃ k q:Nat,k≤m∧i=.int .i64 k∧wr=w.drewN q) (fun i _=>m - (intOf i).toNat)
 case atStart=>exact ⟨0,0,Nat.zero_le _,rfl,rfl⟩
 case round =>
  obtain ⟨k,q,hk,rfl,rfl⟩:=hrel
  by_cases hlt:k<m
  ·have hkl:k<L.length:=by rw [← HM.out];exact hlt
   obtain ⟨y,hx⟩:∃ y,L[k]?=some y:=⟨_,List.getElem?_eq_getElem hkl⟩
   obtain ⟨_,b1,o1,e1,i0⟩:=HA.out.at encTl_ok hx
   obtain ⟨_,b2,o2,e2,j0⟩:=HB.out.at encTl_ok hx
   cases e1
   cases e2
   have a0:=i0 0 _ rfl
   have d0:=j0 0 _ rfl
   have a1:=i0 1 _ rfl
   have d1:=j0 1 _ rfl
   have a2:=i0 2 _ rfl
   have d2:=j0 2 _ rfl
   have a3:=i0 3 _ rfl
   have d3:=j0 3 _ rfl
   have a4:=i0 4 _ rfl
   have d4:=j0 4 _ rfl
   have a5:=i0 5 _ rfl
   have d5:=j0 5 _ rfl
   have a6:=i0 6 _ rfl
   have d6:=j0 6 _ rfl
   have a7:=i0 7 _ rfl
   have d7:=j0 7 _ rfl
   rw [Nat.add_zero] at a0 d0
   have hk0:(0:Int)≤(k:Int):=by omega
   have hkn:(k:Int)<(m:Int):=by omega
   clear hx i0 j0 hkl
   go_wp2_with fail
   go_quiet (fail)
   go_wp2_with fail
   go_roundw
   case rel=>exact ⟨k+1,_,by omega,by go_num,rfl⟩
   case measure=>simp [intOf];omega
  ·have l1:decide ((k:Int)<(m:Int))=false:=decide_eq_false (by omega)
   have l2:decide (k<m)=false:=decide_eq_false hlt
   have l3:(k<m)=False:=eq_false hlt
   clear hk hlt
   go_wp2_with fail
   go_ret
   exact ⟨rfl,below_drewN (Below.refl _ _) _⟩
set_option maxRecDepth 100000 in
set_option maxHeartbeats 2000000 in
theorem sameListSs_at (va vb:Value) (L:List (Int×Int×Int)) (w:World) (ha:RecsAt encSp w va L) (hb:RecsAt encSp w vb L) (h1:L.length≤1000000) :
  Calls Tryz.prog 117 #[va,vb] w fun e w'=>e=.returned (.bool true)∧Below w.heap.size w w':=by
 obtain ⟨a,ca,rfl,-⟩:=id ha
 obtain ⟨b,cb,rfl,-⟩:=id hb
 obtain ⟨m,hm⟩:∃ m,m=L.length:=⟨_,rfl⟩
 have HM:=Lib.hid hm
 have HA:=Lib.hid ha
 have HB:=Lib.hid hb
 rw [← hm] at h1 ⊢
 have hz:((m:Int) != (m:Int))=false:=by simp
 clear ha hb hm
 go_enter Tryz.func117,Tryz.ntmps117
 go_wp2_with fail
 go_loopw [5] (fun i wr=>∃ k q:Nat,k≤m∧i=.int .i64 k∧wr=w.drewN q) (fun i _=>m - (intOf i).toNat)
 case atStart=>exact ⟨0,0,Nat.zero_le _,rfl,rfl⟩
 case round =>
  obtain ⟨k,q,hk,rfl,rfl⟩:=hrel
  by_cases hlt:k<m
  ·have hkl:k<L.length:=by rw [← HM.out];exact hlt
   obtain ⟨y,hx⟩:∃ y,L[k]?=some y:=⟨_,List.getElem?_eq_getElem hkl⟩
   obtain ⟨_,b1,o1,e1,i0⟩:=HA.out.at encSp_ok hx
   obtain ⟨_,b2,o2,e2,j0⟩:=HB.out.at encSp_ok hx
   cases e1
   cases e2
   have a0:=i0 0 _ rfl
   have d0:=j0 0 _ rfl
   have a1:=i0 1 _ rfl
   have d1:=j0 1 _ rfl
   have a2:=i0 2 _ rfl
   have d2:=j0 2 _ rfl
   rw [Nat.add_zero] at a0 d0
   have hk0:(0:Int)≤(k:Int):=by omega
   have hkn:(k:Int)<(m:Int):=by omega
   clear hx i0 j0 hkl
   go_wp2_with fail
   go_quiet (fail)
   go_wp2_with fail
   go_roundw
   case rel=>exact ⟨k+1,_,by omega,by go_num,rfl⟩
   case measure=>simp [intOf];omega
  ·have l1:decide ((k:Int)<(m:Int))=false:=decide_eq_false (by omega)
   have l2:decide (k<m)=false:=decide_eq_false hlt
   have l3:(k<m)=False:=eq_false hlt
   clear hk hlt
   go_wp2_with fail
   go_ret
   exact ⟨rfl,below_drewN (Below.refl _ _) _⟩
set_option maxRecDepth 100000 in
set_option maxHeartbeats 2000000 in
theorem SameIntsS_at (va vb:Value) (L:List (Int)) (w:World) (ha:RecsAt encZ1 w va L) (hb:RecsAt encZ1 w vb L) (h1:L.length≤1000000) :
  Calls Tryz.prog 57 #[va,vb] w fun e w'=>e=.returned (.bool true)∧Below w.heap.size w w':=by
 obtain ⟨a,ca,rfl,-⟩:=id ha
 obtain ⟨b,cb,rfl,-⟩:=id hb
 obtain ⟨m,hm⟩:∃ m,m=L.length:=⟨_,rfl⟩
 have HM:=Lib.hid hm
 have HA:=Lib.hid ha
 have HB:=Lib.hid hb
 rw [← hm] at h1 ⊢
 have hz:((m:Int) != (m:Int))=false:=by simp
 clear ha hb hm
 go_enter Tryz.func57,Tryz.ntmps57
 go_wp2_with fail
 go_loopw [5] (fun i wr=>∃ k q:Nat,k≤m∧i=.int .i64 k∧wr=w.drewN q) (fun i _=>m - (intOf i).toNat)
 case atStart=>exact ⟨0,0,Nat.zero_le _,rfl,rfl⟩
 case round =>
  obtain ⟨k,q,hk,rfl,rfl⟩:=hrel
  by_cases hlt:k<m
  ·have hkl:k<L.length:=by rw [← HM.out];exact hlt
   obtain ⟨y,hx⟩:∃ y,L[k]?=some y:=⟨_,List.getElem?_eq_getElem hkl⟩
   obtain ⟨_,b1,o1,e1,i0⟩:=HA.out.at encZ1_ok hx
   obtain ⟨_,b2,o2,e2,j0⟩:=HB.out.at encZ1_ok hx
   cases e1
   cases e2
   have a0:=i0 0 _ rfl
   have d0:=j0 0 _ rfl
   rw [Nat.add_zero] at a0 d0
   rw [Nat.mul_one] at a0 d0
   have hk0:(0:Int)≤(k:Int):=by omega
   have hkn:(k:Int)<(m:Int):=by omega
   clear hx i0 j0 hkl
   go_wp2_with fail
   go_quiet (fail)
   go_wp2_with fail
   go_roundw
   case rel=>exact ⟨k+1,_,by omega,by go_num,rfl⟩
   case measure=>simp [intOf];omega
  ·have l1:decide ((k:Int)<(m:Int))=false:=decide_eq_false (by omega)
   have l2:decide (k<m)=false:=decide_eq_false hlt
   have l3:(k<m)=False:=eq_false hlt
   clear hk hlt
   go_wp2_with fail
   go_ret
   exact ⟨rfl,below_drewN (Below.refl _ _) _⟩
theorem SameGroupsS_at (va vb:Value) (L:List (Int×Int)) (w:World) (ha:RecsAt encG w va L) (hb:RecsAt encG w vb L) (h1:L.length≤1000000) :
  Calls Tryz.prog 115 #[va,vb] w fun e w'=>e=.returned (.bool true)∧Below w.heap.size w w':=by
 have A1:=Lib.hid (sameListGs_at va vb L w ha hb h1)
 clear ha hb
 go_enter Tryz.func115,Tryz.ntmps115
 go_wp2_with fail
 refine A1.out.mono ?_
 rintro e w1 ⟨rfl,hb⟩
 go_wp2_with fail
 go_ret
 exact ⟨rfl,hb⟩
theorem SameTasksS_at (va vb:Value) (L:List (TVw)) (w:World) (ha:RecsAt encTl w va L) (hb:RecsAt encTl w vb L) (h1:L.length≤1000000) :
  Calls Tryz.prog 58 #[va,vb] w fun e w'=>e=.returned (.bool true)∧Below w.heap.size w w':=by
 have A1:=Lib.hid (sameListTs_at va vb L w ha hb h1)
 clear ha hb
 go_enter Tryz.func58,Tryz.ntmps58
 go_wp2_with fail
 refine A1.out.mono ?_
 rintro e w1 ⟨rfl,hb⟩
 go_wp2_with fail
 go_ret
 exact ⟨rfl,hb⟩
theorem SameSpotsS_at (va vb:Value) (L:List (Int×Int×Int)) (w:World) (ha:RecsAt encSp w va L) (hb:RecsAt encSp w vb L) (h1:L.length≤1000000) :
  Calls Tryz.prog 59 #[va,vb] w fun e w'=>e=.returned (.bool true)∧Below w.heap.size w w':=by
 have A1:=Lib.hid (sameListSs_at va vb L w ha hb h1)
 clear ha hb
 go_enter Tryz.func59,Tryz.ntmps59
 go_wp2_with fail
 refine A1.out.mono ?_
 rintro e w1 ⟨rfl,hb⟩
 go_wp2_with fail
 go_ret
 exact ⟨rfl,hb⟩
set_option maxRecDepth 100000 in
set_option maxHeartbeats 2000000 in
theorem SameConfigS_at (va vb:Value) (C cr:Int) (Gs:Grps) (w:World) (ha:RecsAt encG w va Gs) (hb:RecsAt encG w vb Gs) (h1:Gs.length≤1000000) :
  Calls Tryz.prog 56 #[.agg #[.int .i64 C,.int .u64 cr,va],.agg #[.int .i64 C,.int .u64 cr,vb]] w fun e w'=>e=.returned (.bool true)∧Below w.heap.size w w':=by
 have A1:=Lib.hid fun W (h:Below w.heap.size w W)=>SameGroupsS_at va vb Gs W (ha.later h) (hb.later h) h1
 obtain ⟨a,ca,rfl,-⟩:=id ha
 obtain ⟨b,cb,rfl,-⟩:=id hb
 obtain ⟨n,hn⟩:∃ n,n=Gs.length:=⟨_,rfl⟩
 rw [← hn] at A1 ⊢
 have z1:(C == C)=true:=by simp
 have z2:(cr == cr)=true:=by simp
 have HB0:=Lib.hid (show Below w.heap.size w ((w.alloc (.cells #[.int .i64 C,.int .u64 cr,.slice a n ca] 37)).alloc (.cells #[.int .i64 C,.int .u64 cr,.slice b n cb] 37)) from Below.allocS (Below.allocS (Below.refl _ _) _) _)
 have A2:=Lib.hid (A1.out _ HB0.out)
 clear ha hb hn A1
 go_enter Tryz.func56,Tryz.ntmps56
 go_wp2_with fail
 refine A2.out.mono ?_
 rintro e w1 ⟨rfl,hb⟩
 go_wp2_with fail
 go_ret
 exact ⟨rfl,Below.step HB0.out hb⟩
/-- no list of the state is very long -/
structure StaSmall (σ:Sta):Prop where
 gs:σ.Gs.length≤1000000
 cl:σ.cl.length≤1000000
 cu:σ.cu.length≤1000000
 ts:σ.ts.length≤1000000
 sp:σ.sp.length≤1000000
 row:∀ (i:Nat) (x:List (Int×Int×Int)),σ.sp[i]?=some x→x.length≤1000000
set_option maxRecDepth 100000 in
theorem staOf_tsE (s:SSt):(staOf s).ts=(keysL s).map (viewOf s):=by unfold staOf;exact rfl
theorem staOf_ts {s:SSt} (h:SOk s):(staOf s).ts.length=s.c:=by
 rw [staOf_tsE,List.length_map]
 exact h.keys_len
theorem staOf_sp (s:SSt):(staOf s).sp.length=s.n:=(List.length_map ..).trans (List.length_range ..)
theorem staOf_cl (s:SSt):(staOf s).cl.length=s.C:=(List.length_map ..).trans (List.length_range ..)
theorem staOf_cu (s:SSt):(staOf s).cu.length=s.C:=(List.length_map ..).trans (List.length_range ..)
theorem staOf_row {s:SSt} {i:Nat} {x:List (Int×Int×Int)} (h:(staOf s).sp[i]?=some x):x.length=s.C:=by
 have h1:((List.range s.n).map (spRow s))[i]?=some x:=h
 rw [List.getElem?_map] at h1
 obtain ⟨j,_,e⟩:=Option.map_eq_some_iff.1 h1
 rw [← e]
 exact (List.length_map ..).trans (List.length_range ..)
theorem staOf_small {s:SSt} (h:SOk s):StaSmall (staOf s):=by
 have h1:s.n≤256:=h.right.le
 have h2:=h.cpus
 have h3:=h.few
 constructor
 ·have e:(staOf s).Gs.length=s.n:=rfl
  rw [e];omega
 ·rw [staOf_cl];omega
 ·rw [staOf_cu];omega
 ·rw [staOf_ts h];omega
 ·rw [staOf_sp];omega
 ·intro i x hx
  rw [staOf_row hx];omega
set_option maxRecDepth 100000 in
set_option maxHeartbeats 4000000 in
theorem SameStateS_at (va vb:Value) (σ:Sta) (w:World) (ha:StaH [] w va σ) (hb:StaH [] w vb σ) (hs:StaSmall σ) :
  Calls Tryz.prog 19 #[va,vb] w fun e w'=>e=.returned (.bool true)∧Below w.heap.size w w':=by
 obtain ⟨ag,al,au,at',as',rfl,g1,l1,u1,t1,s1⟩:=ha.is
 obtain ⟨bg,bl,bu,bt,bs,rfl,g2,l2,u2,t2,s2⟩:=hb.is
 obtain ⟨q1,n1,r1,p1⟩:=s1.rows
 obtain ⟨q2,n2,r2,p2⟩:=s2.rows
 have G:=Lib.hid fun W (h:Below w.heap.size w W)=>SameConfigS_at ag bg σ.C σ.cr σ.Gs W (g1.recs.later h) (g2.recs.later h) hs.gs
 have CL:=Lib.hid fun W (h:Below w.heap.size w W)=>SameIntsS_at al bl σ.cl W (l1.recs.later h) (l2.recs.later h) hs.cl
 have CU:=Lib.hid fun W (h:Below w.heap.size w W)=>SameIntsS_at au bu σ.cu W (u1.recs.later h) (u2.recs.later h) hs.cu
 have TS:=Lib.hid fun W (h:Below w.heap.size w W)=>SameTasksS_at at' bt σ.ts W (t1.recs.later h) (t2.recs.later h) hs.ts
 obtain ⟨m,hm⟩:∃ m,m=σ.sp.length:=⟨_,rfl⟩
 have hq1:q1.length=m:=n1.trans hm.symm
 have hq2:q2.length=m:=n2.trans hm.symm
 have hm6:m≤1000000:=by rw [hm];exact hs.sp
 obtain ⟨aa,ca,rfl,-⟩:=id r1
 obtain ⟨ab,cb,rfl,-⟩:=id r2
 obtain ⟨a0,k0,rfl,-⟩:=id g1
 obtain ⟨b0,j0,rfl,-⟩:=id g2
 obtain ⟨a1,k1,rfl,-⟩:=id l1
 obtain ⟨b1,j1,rfl,-⟩:=id l2
 obtain ⟨a2,k2,rfl,-⟩:=id u1
 obtain ⟨b2,j2,rfl,-⟩:=id u2
 obtain ⟨a3,k3,rfl,-⟩:=id t1
 obtain ⟨b3,j3,rfl,-⟩:=id t2
 have R1:=Lib.hid r1.recs
 have R2:=Lib.hid r2.recs
 have P1:=Lib.hid p1
 have P2:=Lib.hid p2
 have HS:=Lib.hid hs
 rw [hq1] at R1 ⊢
 rw [hq2] at R2 ⊢
 have HQ1:=Lib.hid hq1
 have HQ2:=Lib.hid hq2
 have HM:=Lib.hid hm
 obtain ⟨ng,hng⟩:∃ n,n=σ.Gs.length:=⟨_,rfl⟩
 obtain ⟨nl,hnl⟩:∃ n,n=σ.cl.length:=⟨_,rfl⟩
 obtain ⟨nu,hnu⟩:∃ n,n=σ.cu.length:=⟨_,rfl⟩
 obtain ⟨nt,hnt⟩:∃ n,n=σ.ts.length:=⟨_,rfl⟩
 rw [← hng] at G ⊢
 rw [← hnl] at CL ⊢
 rw [← hnu] at CU ⊢
 rw [← hnt] at TS ⊢
 have hz:((m:Int) != (m:Int))=false:=by simp
 clear ha hb hs g1 g2 l1 l2 u1 u2 t1 t2 s1 s2 r1 r2 p1 p2 n1 n2 hq1 hq2 hm hng hnl hnu hnt
 obtain ⟨W1,hW1⟩:∃ W,W=(w.alloc (.cells #[.int .i64 σ.C,.int .u64 σ.cr,.slice a0 ng k0,.slice a1 nl k1,.slice a2 nu k2,.slice a3 nt k3,.slice aa m ca] 46)).alloc (.cells #[.int .i64 σ.C,.int .u64 σ.cr,.slice b0 ng j0,.slice b1 nl j1,.slice b2 nu j2,.slice b3 nt j3,.slice ab m cb] 46):=⟨_,rfl⟩
 have HB1:=Lib.hid (show Below w.heap.size w W1 by rw [hW1];exact Below.allocS (Below.allocS (Below.refl _ _) _) _)
 have c0:W1.cell? ⟨w.heap.size,0,none⟩=some (.int .i64 σ.C):=by rw [hW1];exact cell_al _ (cell_nw _ _ _ 0 _ rfl)
 have d0:W1.cell? ⟨w.heap.size+1,0,none⟩=some (.int .i64 σ.C):=by rw [hW1];exact cellN (by simp) rfl
 have c1:W1.cell? ⟨w.heap.size,1,none⟩=some (.int .u64 σ.cr):=by rw [hW1];exact cell_al _ (cell_nw _ _ _ 1 _ rfl)
 have d1:W1.cell? ⟨w.heap.size+1,1,none⟩=some (.int .u64 σ.cr):=by rw [hW1];exact cellN (by simp) rfl
 have c2:W1.cell? ⟨w.heap.size,2,none⟩=some (.slice a0 ng k0):=by rw [hW1];exact cell_al _ (cell_nw _ _ _ 2 _ rfl)
 have d2:W1.cell? ⟨w.heap.size+1,2,none⟩=some (.slice b0 ng j0):=by rw [hW1];exact cellN (by simp) rfl
 have c3:W1.cell? ⟨w.heap.size,3,none⟩=some (.slice a1 nl k1):=by rw [hW1];exact cell_al _ (cell_nw _ _ _ 3 _ rfl)
 have d3:W1.cell? ⟨w.heap.size+1,3,none⟩=some (.slice b1 nl j1):=by rw [hW1];exact cellN (by simp) rfl
 have c4:W1.cell? ⟨w.heap.size,4,none⟩=some (.slice a2 nu k2):=by rw [hW1];exact cell_al _ (cell_nw _ _ _ 4 _ rfl)
 have d4:W1.cell? ⟨w.heap.size+1,4,none⟩=some (.slice b2 nu j2):=by rw [hW1];exact cellN (by simp) rfl
 have c5:W1.cell? ⟨w.heap.size,5,none⟩=some (.slice a3 nt k3):=by rw [hW1];exact cell_al _ (cell_nw _ _ _ 5 _ rfl)
 have d5:W1.cell? ⟨w.heap.size+1,5,none⟩=some (.slice b3 nt j3):=by rw [hW1];exact cellN (by simp) rfl
 have c6:W1.cell? ⟨w.heap.size,6,none⟩=some (.slice aa m ca):=by rw [hW1];exact cell_al _ (cell_nw _ _ _ 6 _ rfl)
 have d6:W1.cell? ⟨w.heap.size+1,6,none⟩=some (.slice ab m cb):=by rw [hW1];exact cellN (by simp) rfl
 have HW1:=Lib.hid hW1
 obtain ⟨ba,hba⟩:∃ b,b=w.heap.size:=⟨_,rfl⟩
 obtain ⟨bb,hbb⟩:∃ b,b=w.heap.size+1:=⟨_,rfl⟩
 rw [← hba] at c0 c1 c2 c3 c4 c5 c6
 rw [← hbb] at d0 d1 d2 d3 d4 d5 d6
 have HBA:=Lib.hid hba
 have HBB:=Lib.hid hbb
 clear hW1 hba hbb
 go_enter Tryz.func19,Tryz.ntmps19
 go_upto_region 1 with fail
 rw [← HW1.out]
 rw [← HBB.out,← HBA.out]
 clear HW1 HBA HBB
 go_wp2_with fail
 refine (G.out W1 HB1.out).mono ?_;rintro e w2 ⟨rfl,hb2⟩
 replace c0:w2.cell? ⟨ba,0,none⟩=some (.int .i64 σ.C):=by first | exact cell_later hb2 (c0) | exact cell_later hb2 (cell_al _ (c0)) | exact cell_later hb2 (cell_al _ (cell_al _ (c0))) | exact cell_later hb2 (cell_dr (c0)) | exact cell_later hb2 (cell_dr (cell_al _ (c0))) | exact cell_later hb2 (cell_drN _ (c0)) | exact cell_later hb2 (cell_drN _ (cell_al _ (c0)))
 replace d0:w2.cell? ⟨bb,0,none⟩=some (.int .i64 σ.C):=by first | exact cell_later hb2 (d0) | exact cell_later hb2 (cell_al _ (d0)) | exact cell_later hb2 (cell_al _ (cell_al _ (d0))) | exact cell_later hb2 (cell_dr (d0)) | exact cell_later hb2 (cell_dr (cell_al _ (d0))) | exact cell_later hb2 (cell_drN _ (d0)) | exact cell_later hb2 (cell_drN _ (cell_al _ (d0)))
 replace c1:w2.cell? ⟨ba,1,none⟩=some (.int .u64 σ.cr):=by first | exact cell_later hb2 (c1) | exact cell_later hb2 (cell_al _ (c1)) | exact cell_later hb2 (cell_al _ (cell_al _ (c1))) | exact cell_later hb2 (cell_dr (c1)) | exact cell_later hb2 (cell_dr (cell_al _ (c1))) | exact cell_later hb2 (cell_drN _ (c1)) | exact cell_later hb2 (cell_drN _ (cell_al _ (c1)))
 replace d1:w2.cell? ⟨bb,1,none⟩=some (.int .u64 σ.cr):=by first | exact cell_later hb2 (d1) | exact cell_later hb2 (cell_al _ (d1)) | exact cell_later hb2 (cell_al _ (cell_al _ (d1))) | exact cell_later hb2 (cell_dr (d1)) | exact cell_later hb2 (cell_dr (cell_al _ (d1))) | exact cell_later hb2 (cell_drN _ (d1)) | exact cell_later hb2 (cell_drN _ (cell_al _ (d1)))
 replace c2:w2.cell? ⟨ba,2,none⟩=some (.slice a0 ng k0):=by first | exact cell_later hb2 (c2) | exact cell_later hb2 (cell_al _ (c2)) | exact cell_later hb2 (cell_al _ (cell_al _ (c2))) | exact cell_later hb2 (cell_dr (c2)) | exact cell_later hb2 (cell_dr (cell_al _ (c2))) | exact cell_later hb2 (cell_drN _ (c2)) | exact cell_later hb2 (cell_drN _ (cell_al _ (c2)))
 replace d2:w2.cell? ⟨bb,2,none⟩=some (.slice b0 ng j0):=by first | exact cell_later hb2 (d2) | exact cell_later hb2 (cell_al _ (d2)) | exact cell_later hb2 (cell_al _ (cell_al _ (d2))) | exact cell_later hb2 (cell_dr (d2)) | exact cell_later hb2 (cell_dr (cell_al _ (d2))) | exact cell_later hb2 (cell_drN _ (d2)) | exact cell_later hb2 (cell_drN _ (cell_al _ (d2)))
 replace c3:w2.cell? ⟨ba,3,none⟩=some (.slice a1 nl k1):=by first | exact cell_later hb2 (c3) | exact cell_later hb2 (cell_al _ (c3)) | exact cell_later hb2 (cell_al _ (cell_al _ (c3))) | exact cell_later hb2 (cell_dr (c3)) | exact cell_later hb2 (cell_dr (cell_al _ (c3))) | exact cell_later hb2 (cell_drN _ (c3)) | exact cell_later hb2 (cell_drN _ (cell_al _ (c3)))
 replace d3:w2.cell? ⟨bb,3,none⟩=some (.slice b1 nl j1):=by first | exact cell_later hb2 (d3) | exact cell_later hb2 (cell_al _ (d3)) | exact cell_later hb2 (cell_al _ (cell_al _ (d3))) | exact cell_later hb2 (cell_dr (d3)) | exact cell_later hb2 (cell_dr (cell_al _ (d3))) | exact cell_later hb2 (cell_drN _ (d3)) | exact cell_later hb2 (cell_drN _ (cell_al _ (d3)))
 replace c4:w2.cell? ⟨ba,4,none⟩=some (.slice a2 nu k2):=by first | exact cell_later hb2 (c4) | exact cell_later hb2 (cell_al _ (c4)) | exact cell_later hb2 (cell_al _ (cell_al _ (c4))) | exact cell_later hb2 (cell_dr (c4)) | exact cell_later hb2 (cell_dr (cell_al _ (c4))) | exact cell_later hb2 (cell_drN _ (c4)) | exact cell_later hb2 (cell_drN _ (cell_al _ (c4)))
 replace d4:w2.cell? ⟨bb,4,none⟩=some (.slice b2 nu j2):=by first | exact cell_later hb2 (d4) | exact cell_later hb2 (cell_al _ (d4)) | exact cell_later hb2 (cell_al _ (cell_al _ (d4))) | exact cell_later hb2 (cell_dr (d4)) | exact cell_later hb2 (cell_dr (cell_al _ (d4))) | exact cell_later hb2 (cell_drN _ (d4)) | exact cell_later hb2 (cell_drN _ (cell_al _ (d4)))
 replace c5:w2.cell? ⟨ba,5,none⟩=some (.slice a3 nt k3):=by first | exact cell_later hb2 (c5) | exact cell_later hb2 (cell_al _ (c5)) | exact cell_later hb2 (cell_al _ (cell_al _ (c5))) | exact cell_later hb2 (cell_dr (c5)) | exact cell_later hb2 (cell_dr (cell_al _ (c5))) | exact cell_later hb2 (cell_drN _ (c5)) | exact cell_later hb2 (cell_drN _ (cell_al _ (c5)))
 replace d5:w2.cell? ⟨bb,5,none⟩=some (.slice b3 nt j3):=by first | exact cell_later hb2 (d5) | exact cell_later hb2 (cell_al _ (d5)) | exact cell_later hb2 (cell_al _ (cell_al _ (d5))) | exact cell_later hb2 (cell_dr (d5)) | exact cell_later hb2 (cell_dr (cell_al _ (d5))) | exact cell_later hb2 (cell_drN _ (d5)) | exact cell_later hb2 (cell_drN _ (cell_al _ (d5)))
 replace c6:w2.cell? ⟨ba,6,none⟩=some (.slice aa m ca):=by first | exact cell_later hb2 (c6) | exact cell_later hb2 (cell_al _ (c6)) | exact cell_later hb2 (cell_al _ (cell_al _ (c6))) | exact cell_later hb2 (cell_dr (c6)) | exact cell_later hb2 (cell_dr (cell_al _ (c6))) | exact cell_later hb2 (cell_drN _ (c6)) | exact cell_later hb2 (cell_drN _ (cell_al _ (c6)))
 replace d6:w2.cell? ⟨bb,6,none⟩=some (.slice ab m cb):=by first | exact cell_later hb2 (d6) | exact cell_later hb2 (cell_al _ (d6)) | exact cell_later hb2 (cell_al _ (cell_al _ (d6))) | exact cell_later hb2 (cell_dr (d6)) | exact cell_later hb2 (cell_dr (cell_al _ (d6))) | exact cell_later hb2 (cell_drN _ (d6)) | exact cell_later hb2 (cell_drN _ (cell_al _ (d6)))
 have c0_1:=fun o1=>cell_al o1 (c0)
 have d0_1:=fun o1=>cell_al o1 (d0)
 have c1_1:=fun o1=>cell_al o1 (c1)
 have d1_1:=fun o1=>cell_al o1 (d1)
 have c2_1:=fun o1=>cell_al o1 (c2)
 have d2_1:=fun o1=>cell_al o1 (d2)
 have c3_1:=fun o1=>cell_al o1 (c3)
 have d3_1:=fun o1=>cell_al o1 (d3)
 have c4_1:=fun o1=>cell_al o1 (c4)
 have d4_1:=fun o1=>cell_al o1 (d4)
 have c5_1:=fun o1=>cell_al o1 (c5)
 have d5_1:=fun o1=>cell_al o1 (d5)
 have c6_1:=fun o1=>cell_al o1 (c6)
 have d6_1:=fun o1=>cell_al o1 (d6)
 have HB2:=Lib.hid (Below.step HB1.out hb2)
 clear c0_1 d0_1 c1_1 d1_1 c2_1 d2_1 c3_1 d3_1 c4_1 d4_1 c5_1 d5_1 c6_1 d6_1
 go_wp2_with fail
 refine (CL.out w2 HB2.out).mono ?_;rintro e w3 ⟨rfl,hb3⟩
 replace c0:w3.cell? ⟨ba,0,none⟩=some (.int .i64 σ.C):=by first | exact cell_later hb3 (c0) | exact cell_later hb3 (cell_al _ (c0)) | exact cell_later hb3 (cell_al _ (cell_al _ (c0))) | exact cell_later hb3 (cell_dr (c0)) | exact cell_later hb3 (cell_dr (cell_al _ (c0))) | exact cell_later hb3 (cell_drN _ (c0)) | exact cell_later hb3 (cell_drN _ (cell_al _ (c0)))
 replace d0:w3.cell? ⟨bb,0,none⟩=some (.int .i64 σ.C):=by first | exact cell_later hb3 (d0) | exact cell_later hb3 (cell_al _ (d0)) | exact cell_later hb3 (cell_al _ (cell_al _ (d0))) | exact cell_later hb3 (cell_dr (d0)) | exact cell_later hb3 (cell_dr (cell_al _ (d0))) | exact cell_later hb3 (cell_drN _ (d0)) | exact cell_later hb3 (cell_drN _ (cell_al _ (d0)))
 replace c1:w3.cell? ⟨ba,1,none⟩=some (.int .u64 σ.cr):=by first | exact cell_later hb3 (c1) | exact cell_later hb3 (cell_al _ (c1)) | exact cell_later hb3 (cell_al _ (cell_al _ (c1))) | exact cell_later hb3 (cell_dr (c1)) | exact cell_later hb3 (cell_dr (cell_al _ (c1))) | exact cell_later hb3 (cell_drN _ (c1)) | exact cell_later hb3 (cell_drN _ (cell_al _ (c1)))
 replace d1:w3.cell? ⟨bb,1,none⟩=some (.int .u64 σ.cr):=by first | exact cell_later hb3 (d1) | exact cell_later hb3 (cell_al _ (d1)) | exact cell_later hb3 (cell_al _ (cell_al _ (d1))) | exact cell_later hb3 (cell_dr (d1)) | exact cell_later hb3 (cell_dr (cell_al _ (d1))) | exact cell_later hb3 (cell_drN _ (d1)) | exact cell_later hb3 (cell_drN _ (cell_al _ (d1)))
 replace c2:w3.cell? ⟨ba,2,none⟩=some (.slice a0 ng k0):=by first | exact cell_later hb3 (c2) | exact cell_later hb3 (cell_al _ (c2)) | exact cell_later hb3 (cell_al _ (cell_al _ (c2))) | exact cell_later hb3 (cell_dr (c2)) | exact cell_later hb3 (cell_dr (cell_al _ (c2))) | exact cell_later hb3 (cell_drN _ (c2)) | exact cell_later hb3 (cell_drN _ (cell_al _ (c2)))
 replace d2:w3.cell? ⟨bb,2,none⟩=some (.slice b0 ng j0):=by first | exact cell_later hb3 (d2) | exact cell_later hb3 (cell_al _ (d2)) | exact cell_later hb3 (cell_al _ (cell_al _ (d2))) | exact cell_later hb3 (cell_dr (d2)) | exact cell_later hb3 (cell_dr (cell_al _ (d2))) | exact cell_later hb3 (cell_drN _ (d2)) | exact cell_later hb3 (cell_drN _ (cell_al _ (d2)))
 replace c3:w3.cell? ⟨ba,3,none⟩=some (.slice a1 nl k1):=by first | exact cell_later hb3 (c3) | exact cell_later hb3 (cell_al _ (c3)) | exact cell_later hb3 (cell_al _ (cell_al _ (c3))) | exact cell_later hb3 (cell_dr (c3)) | exact cell_later hb3 (cell_dr (cell_al _ (c3))) | exact cell_later hb3 (cell_drN _ (c3)) | exact cell_later hb3 (cell_drN _ (cell_al _ (c3)))
 replace d3:w3.cell? ⟨bb,3,none⟩=some (.slice b1 nl j1):=by first | exact cell_later hb3 (d3) | exact cell_later hb3 (cell_al _ (d3)) | exact cell_later hb3 (cell_al _ (cell_al _ (d3))) | exact cell_later hb3 (cell_dr (d3)) | exact cell_later hb3 (cell_dr (cell_al _ (d3))) | exact cell_later hb3 (cell_drN _ (d3)) | exact cell_later hb3 (cell_drN _ (cell_al _ (d3)))
 replace c4:w3.cell? ⟨ba,4,none⟩=some (.slice a2 nu k2):=by first | exact cell_later hb3 (c4) | exact cell_later hb3 (cell_al _ (c4)) | exact cell_later hb3 (cell_al _ (cell_al _ (c4))) | exact cell_later hb3 (cell_dr (c4)) | exact cell_later hb3 (cell_dr (cell_al _ (c4))) | exact cell_later hb3 (cell_drN _ (c4)) | exact cell_later hb3 (cell_drN _ (cell_al _ (c4)))
 replace d4:w3.cell? ⟨bb,4,none⟩=some (.slice b2 nu j2):=by first | exact cell_later hb3 (d4) | exact cell_later hb3 (cell_al _ (d4)) | exact cell_later hb3 (cell_al _ (cell_al _ (d4))) | exact cell_later hb3 (cell_dr (d4)) | exact cell_later hb3 (cell_dr (cell_al _ (d4))) | exact cell_later hb3 (cell_drN _ (d4)) | exact cell_later hb3 (cell_drN _ (cell_al _ (d4)))
 replace c5:w3.cell? ⟨ba,5,none⟩=some (.slice a3 nt k3):=by first | exact cell_later hb3 (c5) | exact cell_later hb3 (cell_al _ (c5)) | exact cell_later hb3 (cell_al _ (cell_al _ (c5))) | exact cell_later hb3 (cell_dr (c5)) | exact cell_later hb3 (cell_dr (cell_al _ (c5))) | exact cell_later hb3 (cell_drN _ (c5)) | exact cell_later hb3 (cell_drN _ (cell_al _ (c5)))
 replace d5:w3.cell? ⟨bb,5,none⟩=some (.slice b3 nt j3):=by first | exact cell_later hb3 (d5) | exact cell_later hb3 (cell_al _ (d5)) | exact cell_later hb3 (cell_al _ (cell_al _ (d5))) | exact cell_later hb3 (cell_dr (d5)) | exact cell_later hb3 (cell_dr (cell_al _ (d5))) | exact cell_later hb3 (cell_drN _ (d5)) | exact cell_later hb3 (cell_drN _ (cell_al _ (d5)))
 replace c6:w3.cell? ⟨ba,6,none⟩=some (.slice aa m ca):=by first | exact cell_later hb3 (c6) | exact cell_later hb3 (cell_al _ (c6)) | exact cell_later hb3 (cell_al _ (cell_al _ (c6))) | exact cell_later hb3 (cell_dr (c6)) | exact cell_later hb3 (cell_dr (cell_al _ (c6))) | exact cell_later hb3 (cell_drN _ (c6)) | exact cell_later hb3 (cell_drN _ (cell_al _ (c6)))
 replace d6:w3.cell? ⟨bb,6,none⟩=some (.slice ab m cb):=by first | exact cell_later hb3 (d6) | exact cell_later hb3 (cell_al _ (d6)) | exact cell_later hb3 (cell_al _ (cell_al _ (d6))) | exact cell_later hb3 (cell_dr (d6)) | exact cell_later hb3 (cell_dr (cell_al _ (d6))) | exact cell_later hb3 (cell_drN _ (d6)) | exact cell_later hb3 (cell_drN _ (cell_al _ (d6)))
 have c0_1:=fun o1=>cell_al o1 (c0)
 have d0_1:=fun o1=>cell_al o1 (d0)
 have c1_1:=fun o1=>cell_al o1 (c1)
 have d1_1:=fun o1=>cell_al o1 (d1)
 have c2_1:=fun o1=>cell_al o1 (c2)
 have d2_1:=fun o1=>cell_al o1 (d2)
 have c3_1:=fun o1=>cell_al o1 (c3)
 have d3_1:=fun o1=>cell_al o1 (d3)
 have c4_1:=fun o1=>cell_al o1 (c4)
 have d4_1:=fun o1=>cell_al o1 (d4)
 have c5_1:=fun o1=>cell_al o1 (c5)
 have d5_1:=fun o1=>cell_al o1 (d5)
 have c6_1:=fun o1=>cell_al o1 (c6)
 have d6_1:=fun o1=>cell_al o1 (d6)
 have HB3:=Lib.hid (Below.step HB2.out hb3)
 clear c0_1 d0_1 c1_1 d1_1 c2_1 d2_1 c3_1 d3_1 c4_1 d4_1 c5_1 d5_1 c6_1 d6_1
 go_wp2_with fail
 refine (CU.out w3 HB3.out).mono ?_;rintro e w4 ⟨rfl,hb4⟩
 replace c0:w4.cell? ⟨ba,0,none⟩=some (.int .i64 σ.C):=by first | exact cell_later hb4 (c0) | exact cell_later hb4 (cell_al _ (c0)) | exact cell_later hb4 (cell_al _ (cell_al _ (c0))) | exact cell_later hb4 (cell_dr (c0)) | exact cell_later hb4 (cell_dr (cell_al _ (c0))) | exact cell_later hb4 (cell_drN _ (c0)) | exact cell_later hb4 (cell_drN _ (cell_al _ (c0)))
 replace d0:w4.cell? ⟨bb,0,none⟩=some (.int .i64 σ.C):=by first | exact cell_later hb4 (d0) | exact cell_later hb4 (cell_al _ (d0)) | exact cell_later hb4 (cell_al _ (cell_al _ (d0))) | exact cell_later hb4 (cell_dr (d0)) | exact cell_later hb4 (cell_dr (cell_al _ (d0))) | exact cell_later hb4 (cell_drN _ (d0)) | exact cell_later hb4 (cell_drN _ (cell_al _ (d0)))
 replace c1:w4.cell? ⟨ba,1,none⟩=some (.int .u64 σ.cr):=by first | exact cell_later hb4 (c1) | exact cell_later hb4 (cell_al _ (c1)) | exact cell_later hb4 (cell_al _ (cell_al _ (c1))) | exact cell_later hb4 (cell_dr (c1)) | exact cell_later hb4 (cell_dr (cell_al _ (c1))) | exact cell_later hb4 (cell_drN _ (c1)) | exact cell_later hb4 (cell_drN _ (cell_al _ (c1)))
 replace d1:w4.cell? ⟨bb,1,none⟩=some (.int .u64 σ.cr):=by first | exact cell_later hb4 (d1) | exact cell_later hb4 (cell_al _ (d1)) | exact cell_later hb4 (cell_al _ (cell_al _ (d1))) | exact cell_later hb4 (cell_dr (d1)) | exact cell_later hb4 (cell_dr (cell_al _ (d1))) | exact cell_later hb4 (cell_drN _ (d1)) | exact cell_later hb4 (cell_drN _ (cell_al _ (d1)))
 replace c2:w4.cell? ⟨ba,2,none⟩=some (.slice a0 ng k0):=by first | exact cell_later hb4 (c2) | exact cell_later hb4 (cell_al _ (c2)) | exact cell_later hb4 (cell_al _ (cell_al _ (c2))) | exact cell_later hb4 (cell_dr (c2)) | exact cell_later hb4 (cell_dr (cell_al _ (c2))) | exact cell_later hb4 (cell_drN _ (c2)) | exact cell_later hb4 (cell_drN _ (cell_al _ (c2)))
 replace d2:w4.cell? ⟨bb,2,none⟩=some (.slice b0 ng j0):=by first | exact cell_later hb4 (d2) | exact cell_later hb4 (cell_al _ (d2)) | exact cell_later hb4 (cell_al _ (cell_al _ (d2))) | exact cell_later hb4 (cell_dr (d2)) | exact cell_later hb4 (cell_dr (cell_al _ (d2))) | exact cell_later hb4 (cell_drN _ (d2)) | exact cell_later hb4 (cell_drN _ (cell_al _ (d2)))
 replace c3:w4.cell? ⟨ba,3,none⟩=some (.slice a1 nl k1):=by first | exact cell_later hb4 (c3) | exact cell_later hb4 (cell_al _ (c3)) | exact cell_later hb4 (cell_al _ (cell_al _ (c3))) | exact cell_later hb4 (cell_dr (c3)) | exact cell_later hb4 (cell_dr (cell_al _ (c3))) | exact cell_later hb4 (cell_drN _ (c3)) | exact cell_later hb4 (cell_drN _ (cell_al _ (c3)))
 replace d3:w4.cell? ⟨bb,3,none⟩=some (.slice b1 nl j1):=by first | exact cell_later hb4 (d3) | exact cell_later hb4 (cell_al _ (d3)) | exact cell_later hb4 (cell_al _ (cell_al _ (d3))) | exact cell_later hb4 (cell_dr (d3)) | exact cell_later hb4 (cell_dr (cell_al _ (d3))) | exact cell_later hb4 (cell_drN _ (d3)) | exact cell_later hb4 (cell_drN _ (cell_al _ (d3)))
 replace c4:w4.cell? ⟨ba,4,none⟩=some (.slice a2 nu k2):=by first | exact cell_later hb4 (c4) | exact cell_later hb4 (cell_al _ (c4)) | exact cell_later hb4 (cell_al _ (cell_al _ (c4))) | exact cell_later hb4 (cell_dr (c4)) | exact cell_later hb4 (cell_dr (cell_al _ (c4))) | exact cell_later hb4 (cell_drN _ (c4)) | exact cell_later hb4 (cell_drN _ (cell_al _ (c4)))
 replace d4:w4.cell? ⟨bb,4,none⟩=some (.slice b2 nu j2):=by first | exact cell_later hb4 (d4) | exact cell_later hb4 (cell_al _ (d4)) | exact cell_later hb4 (cell_al _ (cell_al _ (d4))) | exact cell_later hb4 (cell_dr (d4)) | exact cell_later hb4 (cell_dr (cell_al _ (d4))) | exact cell_later hb4 (cell_drN _ (d4)) | exact cell_later hb4 (cell_drN _ (cell_al _ (d4)))
 replace c5:w4.cell? ⟨ba,5,none⟩=some (.slice a3 nt k3):=by first | exact cell_later hb4 (c5) | exact cell_later hb4 (cell_al _ (c5)) | exact cell_later hb4 (cell_al _ (cell_al _ (c5))) | exact cell_later hb4 (cell_dr (c5)) | exact cell_later hb4 (cell_dr (cell_al _ (c5))) | exact cell_later hb4 (cell_drN _ (c5)) | exact cell_later hb4 (cell_drN _ (cell_al _ (c5)))
 replace d5:w4.cell? ⟨bb,5,none⟩=some (.slice b3 nt j3):=by first | exact cell_later hb4 (d5) | exact cell_later hb4 (cell_al _ (d5)) | exact cell_later hb4 (cell_al _ (cell_al _ (d5))) | exact cell_later hb4 (cell_dr (d5)) | exact cell_later hb4 (cell_dr (cell_al _ (d5))) | exact cell_later hb4 (cell_drN _ (d5)) | exact cell_later hb4 (cell_drN _ (cell_al _ (d5)))
 replace c6:w4.cell? ⟨ba,6,none⟩=some (.slice aa m ca):=by first | exact cell_later hb4 (c6) | exact cell_later hb4 (cell_al _ (c6)) | exact cell_later hb4 (cell_al _ (cell_al _ (c6))) | exact cell_later hb4 (cell_dr (c6)) | exact cell_later hb4 (cell_dr (cell_al _ (c6))) | exact cell_later hb4 (cell_drN _ (c6)) | exact cell_later hb4 (cell_drN _ (cell_al _ (c6)))
 replace d6:w4.cell? ⟨bb,6,none⟩=some (.slice ab m cb):=by first | exact cell_later hb4 (d6) | exact cell_later hb4 (cell_al _ (d6)) | exact cell_later hb4 (cell_al _ (cell_al _ (d6))) | exact cell_later hb4 (cell_dr (d6)) | exact cell_later hb4 (cell_dr (cell_al _ (d6))) | exact cell_later hb4 (cell_drN _ (d6)) | exact cell_later hb4 (cell_drN _ (cell_al _ (d6)))
 have c0_1:=fun o1=>cell_al o1 (c0)
 have d0_1:=fun o1=>cell_al o1 (d0)
 have c1_1:=fun o1=>cell_al o1 (c1)
 have d1_1:=fun o1=>cell_al o1 (d1)
 have c2_1:=fun o1=>cell_al o1 (c2)
 have d2_1:=fun o1=>cell_al o1 (d2)
 have c3_1:=fun o1=>cell_al o1 (c3)
 have d3_1:=fun o1=>cell_al o1 (d3)
 have c4_1:=fun o1=>cell_al o1 (c4)
 have d4_1:=fun o1=>cell_al o1 (d4)
 have c5_1:=fun o1=>cell_al o1 (c5)
 have d5_1:=fun o1=>cell_al o1 (d5)
 have c6_1:=fun o1=>cell_al o1 (c6)
 have d6_1:=fun o1=>cell_al o1 (d6)
 have HB4:=Lib.hid (Below.step HB3.out hb4)
 clear c0_1 d0_1 c1_1 d1_1 c2_1 d2_1 c3_1 d3_1 c4_1 d4_1 c5_1 d5_1 c6_1 d6_1
 go_wp2_with fail
 refine (TS.out w4 HB4.out).mono ?_;rintro e w5 ⟨rfl,hb5⟩
 replace c0:w5.cell? ⟨ba,0,none⟩=some (.int .i64 σ.C):=by first | exact cell_later hb5 (c0) | exact cell_later hb5 (cell_al _ (c0)) | exact cell_later hb5 (cell_al _ (cell_al _ (c0))) | exact cell_later hb5 (cell_dr (c0)) | exact cell_later hb5 (cell_dr (cell_al _ (c0))) | exact cell_later hb5 (cell_drN _ (c0)) | exact cell_later hb5 (cell_drN _ (cell_al _ (c0)))
 replace d0:w5.cell? ⟨bb,0,none⟩=some (.int .i64 σ.C):=by first | exact cell_later hb5 (d0) | exact cell_later hb5 (cell_al _ (d0)) | exact cell_later hb5 (cell_al _ (cell_al _ (d0))) | exact cell_later hb5 (cell_dr (d0)) | exact cell_later hb5 (cell_dr (cell_al _ (d0))) | exact cell_later hb5 (cell_drN _ (d0)) | exact cell_later hb5 (cell_drN _ (cell_al _ (d0)))
 replace c1:w5.cell? ⟨ba,1,none⟩=some (.int .u64 σ.cr):=by first | exact cell_later hb5 (c1) | exact cell_later hb5 (cell_al _ (c1)) | exact cell_later hb5 (cell_al _ (cell_al _ (c1))) | exact cell_later hb5 (cell_dr (c1)) | exact cell_later hb5 (cell_dr (cell_al _ (c1))) | exact cell_later hb5 (cell_drN _ (c1)) | exact cell_later hb5 (cell_drN _ (cell_al _ (c1)))
 replace d1:w5.cell? ⟨bb,1,none⟩=some (.int .u64 σ.cr):=by first | exact cell_later hb5 (d1) | exact cell_later hb5 (cell_al _ (d1)) | exact cell_later hb5 (cell_al _ (cell_al _ (d1))) | exact cell_later hb5 (cell_dr (d1)) | exact cell_later hb5 (cell_dr (cell_al _ (d1))) | exact cell_later hb5 (cell_drN _ (d1)) | exact cell_later hb5 (cell_drN _ (cell_al _ (d1)))
 replace c2:w5.cell? ⟨ba,2,none⟩=some (.slice a0 ng k0):=by first | exact cell_later hb5 (c2) | exact cell_later hb5 (cell_al _ (c2)) | exact cell_later hb5 (cell_al _ (cell_al _ (c2))) | exact cell_later hb5 (cell_dr (c2)) | exact cell_later hb5 (cell_dr (cell_al _ (c2))) | exact cell_later hb5 (cell_drN _ (c2)) | exact cell_later hb5 (cell_drN _ (cell_al _ (c2)))
 replace d2:w5.cell? ⟨bb,2,none⟩=some (.slice b0 ng j0):=by first | exact cell_later hb5 (d2) | exact cell_later hb5 (cell_al _ (d2)) | exact cell_later hb5 (cell_al _ (cell_al _ (d2))) | exact cell_later hb5 (cell_dr (d2)) | exact cell_later hb5 (cell_dr (cell_al _ (d2))) | exact cell_later hb5 (cell_drN _ (d2)) | exact cell_later hb5 (cell_drN _ (cell_al _ (d2)))
 replace c3:w5.cell? ⟨ba,3,none⟩=some (.slice a1 nl k1):=by first | exact cell_later hb5 (c3) | exact cell_later hb5 (cell_al _ (c3)) | exact cell_later hb5 (cell_al _ (cell_al _ (c3))) | exact cell_later hb5 (cell_dr (c3)) | exact cell_later hb5 (cell_dr (cell_al _ (c3))) | exact cell_later hb5 (cell_drN _ (c3)) | exact cell_later hb5 (cell_drN _ (cell_al _ (c3)))
 replace d3:w5.cell? ⟨bb,3,none⟩=some (.slice b1 nl j1):=by first | exact cell_later hb5 (d3) | exact cell_later hb5 (cell_al _ (d3)) | exact cell_later hb5 (cell_al _ (cell_al _ (d3))) | exact cell_later hb5 (cell_dr (d3)) | exact cell_later hb5 (cell_dr (cell_al _ (d3))) | exact cell_later hb5 (cell_drN _ (d3)) | exact cell_later hb5 (cell_drN _ (cell_al _ (d3)))
 replace c4:w5.cell? ⟨ba,4,none⟩=some (.slice a2 nu k2):=by first | exact cell_later hb5 (c4) | exact cell_later hb5 (cell_al _ (c4)) | exact cell_later hb5 (cell_al _ (cell_al _ (c4))) | exact cell_later hb5 (cell_dr (c4)) | exact cell_later hb5 (cell_dr (cell_al _ (c4))) | exact cell_later hb5 (cell_drN _ (c4)) | exact cell_later hb5 (cell_drN _ (cell_al _ (c4)))
 replace d4:w5.cell? ⟨bb,4,none⟩=some (.slice b2 nu j2):=by first | exact cell_later hb5 (d4) | exact cell_later hb5 (cell_al _ (d4)) | exact cell_later hb5 (cell_al _ (cell_al _ (d4))) | exact cell_later hb5 (cell_dr (d4)) | exact cell_later hb5 (cell_dr (cell_al _ (d4))) | exact cell_later hb5 (cell_drN _ (d4)) | exact cell_later hb5 (cell_drN _ (cell_al _ (d4)))
 replace c5:w5.cell? ⟨ba,5,none⟩=some (.slice a3 nt k3):=by first | exact cell_later hb5 (c5) | exact cell_later hb5 (cell_al _ (c5)) | exact cell_later hb5 (cell_al _ (cell_al _ (c5))) | exact cell_later hb5 (cell_dr (c5)) | exact cell_later hb5 (cell_dr (cell_al _ (c5))) | exact cell_later hb5 (cell_drN _ (c5)) | exact cell_later hb5 (cell_drN _ (cell_al _ (c5)))
 replace d5:w5.cell? ⟨bb,5,none⟩=some (.slice b3 nt j3):=by first | exact cell_later hb5 (d5) | exact cell_later hb5 (cell_al _ (d5)) | exact cell_later hb5 (cell_al _ (cell_al _ (d5))) | exact cell_later hb5 (cell_dr (d5)) | exact cell_later hb5 (cell_dr (cell_al _ (d5))) | exact cell_later hb5 (cell_drN _ (d5)) | exact cell_later hb5 (cell_drN _ (cell_al _ (d5)))
 replace c6:w5.cell? ⟨ba,6,none⟩=some (.slice aa m ca):=by first | exact cell_later hb5 (c6) | exact cell_later hb5 (cell_al _ (c6)) | exact cell_later hb5 (cell_al _ (cell_al _ (c6))) | exact cell_later hb5 (cell_dr (c6)) | exact cell_later hb5 (cell_dr (cell_al _ (c6))) | exact cell_later hb5 (cell_drN _ (c6)) | exact cell_later hb5 (cell_drN _ (cell_al _ (c6)))
 replace d6:w5.cell? ⟨bb,6,none⟩=some (.slice ab m cb):=by first | exact cell_later hb5 (d6) | exact cell_later hb5 (cell_al _ (d6)) | exact cell_later hb5 (cell_al _ (cell_al _ (d6))) | exact cell_later hb5 (cell_dr (d6)) | exact cell_later hb5 (cell_dr (cell_al _ (d6))) | exact cell_later hb5 (cell_drN _ (d6)) | exact cell_later hb5 (cell_drN _ (cell_al _ (d6)))
 have c0_1:=fun o1=>cell_al o1 (c0)
 have d0_1:=fun o1=>cell_al o1 (d0)
 have c1_1:=fun o1=>cell_al o1 (c1)
 have d1_1:=fun o1=>cell_al o1 (d1)
 have c2_1:=fun o1=>cell_al o1 (c2)
 have d2_1:=fun o1=>cell_al o1 (d2)
 have c3_1:=fun o1=>cell_al o1 (c3)
 have d3_1:=fun o1=>cell_al o1 (d3)
 have c4_1:=fun o1=>cell_al o1 (c4)
 have d4_1:=fun o1=>cell_al o1 (d4)
 have c5_1:=fun o1=>cell_al o1 (c5)
 have d5_1:=fun o1=>cell_al o1 (d5)
 have c6_1:=fun o1=>cell_al o1 (c6)
 have d6_1:=fun o1=>cell_al o1 (d6)
 have HB5:=Lib.hid (Below.step HB4.out hb5)
 clear c0_1 d0_1 c1_1 d1_1 c2_1 d2_1 c3_1 d3_1 c4_1 d4_1 c5_1 d5_1 c6_1 d6_1
 clear hb2 hb3 hb4 hb5 G CL CU TS c0 c1 c2 c3 c4 c5 d0 d1 d2 d3 d4 d5
 go_wp2_with fail
 go_loopw [5] (fun iv wr=>∃ k:Nat,k≤m∧iv=.int .i64 k∧Below w5.heap.size w5 wr) (fun iv _=>m - (intOf iv).toNat)
 case atStart=>exact ⟨0,Nat.zero_le _,rfl,Below.refl _ _⟩
 case round =>
  obtain ⟨k,hk,rfl,hb⟩:=hrel
  have e6:=cell_later hb c6
  have f6:=cell_later hb d6
  have HB:=Lib.hid hb
  clear hb
  by_cases hlt:k<m
  ·have hkn:(k:Int)<(m:Int):=by omega
   have hk0:(0:Int)≤(k:Int):=by omega
   obtain ⟨y1,hy1⟩:∃ y,q1[k]?=some y:=⟨_,List.getElem?_eq_getElem (by rw [HQ1.out];exact hlt)⟩
   obtain ⟨y2,hy2⟩:∃ y,q2[k]?=some y:=⟨_,List.getElem?_eq_getElem (by rw [HQ2.out];exact hlt)⟩
   obtain ⟨X,hX⟩:∃ y,σ.sp[k]?=some y:=⟨_,List.getElem?_eq_getElem (by rw [← HM.out];exact hlt)⟩
   have hbw:=Below.step HB5.out HB.out
   obtain ⟨-,b1,o1,e1,i0⟩:=(R1.out.later hbw).at encSl_ok hy1
   obtain ⟨-,b2,o2,e2,i1⟩:=(R2.out.later hbw).at encSl_ok hy2
   cases e1
   cases e2
   have a0:=i0 0 _ rfl
   have a1:=i1 0 _ rfl
   rw [Nat.add_zero,Nat.mul_one] at a0 a1
   have A:=Lib.hid (SameSpotsS_at (.slice y1.1 y1.2.1 y1.2.2) (.slice y2.1 y2.2.1 y2.2.2) X wr.drew ((P1.out k y1 X hy1 hX).recs.later hbw.drew) ((P2.out k y2 X hy2 hX).recs.later hbw.drew) (HS.out.row k X hX))
   obtain ⟨y10,y11,y12⟩:=y1
   obtain ⟨y20,y21,y22⟩:=y2
   replace a0:wr.cell? ⟨b1,o1+k,none⟩=some (.slice y10 y11 y12):=a0
   replace a1:wr.cell? ⟨b2,o2+k,none⟩=some (.slice y20 y21 y22):=a1
   replace A:Hid (Calls Tryz.prog 59 #[.slice y10 y11 y12,.slice y20 y21 y22] wr.drew fun e w'=>e=.returned (.bool true)∧Below wr.drew.heap.size wr.drew w'):=A
   clear hy1 hy2 hX i0 i1 hbw
   go_wp2_with fail
   refine startA (S:=fun w'=>Below wr.heap.size wr w'∧w'.cell? ⟨ba,6,none⟩=some (.slice (some ⟨b1,o1,none⟩) m ca)∧w'.cell? ⟨bb,6,none⟩=some (.slice (some ⟨b2,o2,none⟩) m cb)∧w'.cell? ⟨b1,(o1+k),none⟩=some (.slice y10 y11 y12)∧w'.cell? ⟨b2,(o2+k),none⟩=some (.slice y20 y21 y22)) ⟨Below.refl _ _,e6,f6,a0,a1⟩ (held_4 (below_dr _)) (fun hS0 hHeld=>?_)
   refine takeA 0 ?_
   refine takeA 1 ?_
   refine takeA 2 ?_
   refine takeA 3 ?_
   refine takeA 4 ?_
   refine takeA 5 ?_
   refine takeA 6 ?_
   refine takeA 7 ?_
   refine takeA 8 ?_
   refine takeA 9 ?_
   refine readyA [10] (consA (fun K hK=>?_) .nil)
   go_simp
   refine A.out.mono ?_
   rintro e w7 ⟨rfl,hb7⟩
   go_wp2_with fail
   refine outA hK kp_4 (fun hHeld10=>?_)
   clear hK K
   refine takeA 11 ?_
   refine doneA ?_
   have HB8:=Lib.hid (Below.step HB.out.drew hb7)
   clear hS0 hHeld hHeld10 hb7
   go_wp2_with fail
   go_roundw
   case rel=>exact ⟨k+1,by omega,by go_num,HB8.out⟩
   case measure=>simp [intOf];omega
  ·obtain rfl:k=m:=by omega
   have l1:decide ((k:Int)<(k:Int))=false:=decide_eq_false (by omega)
   have l2:decide (k<k)=false:=decide_eq_false hlt
   clear hk hlt
   go_wp2_with fail
   go_ret
   exact ⟨rfl,Below.step HB5.out HB.out⟩
end Go.Proofs.YtapnaocdehahdaaGreat
namespace Go.Proofs.YtapnaocdehahdaaGreat
open Go.RowKit Go.Maps Go.IntWalk Go.Lib
set_option linter.unusedVariables false
set_option linter.unusedSimpArgs false
theorem own_pos {w:World} {base e size:Nat} {v:Value} {n:Nat} {xs:List Value} (h:w.ownsRow base e size v n xs) (h0:0<n):∃ g c,v=.slice (some ⟨g,0,none⟩) n c:=by
 obtain ⟨m,rfl⟩:∃ m,n=m+1:=⟨n - 1,by omega⟩
 exact own_some h
theorem srow_later {ks:List (Option IntKind)} {w w':World} {a:Option Addr} {n c:Nat} {F:Nat→Nat→Value} (h:PlainRow ks w a n c F) (hb:Below w.heap.size w w'):PlainRow ks w' a n c F:=by
 rcases h with h | h | ⟨h0,hl,hm,b,off,rfl,hc⟩
 ·exact Or.inl h
 ·exact Or.inr (Or.inl h)
 ·exact Or.inr (Or.inr ⟨h0,hl,hm,b,off,rfl,fun i hi j k hk=>⟨cell_later hb (hc i hi j k hk).1,(hc i hi j k hk).2⟩⟩)
theorem encOw:Enc encOl 8:=⟨fun _=>rfl,fun x u hu=>by simp [encOl] at hu;rcases hu with rfl | rfl | rfl | rfl | rfl | rfl | rfl | rfl <;> rfl,by decide⟩
theorem own_heldS {w:World} {base e n:Nat} {v:Value} {L:List OpV} {F:List Nat} {xs:List Value} (h:w.ownsRow base e 8 v n xs) (hn:n=L.length) (hx:xs=flatR encOl L) (hF:∀ b∈F,b<base):HeldR encOl F w v L:=by
 subst hn;subst hx
 rcases h.2 with ⟨rfl,h0⟩ | ⟨g,cap,cur,rfl,hb,_,h5,h6,_⟩
 ·have:L=[]:=List.eq_nil_of_length_eq_zero h0
  subst this
  exact ⟨none,0,rfl,Nat.le_refl _,by omega,fun _=>rfl,Or.inl rfl⟩
 ·have hl:=(h.lt g rfl).2
  refine ⟨some ⟨g,0,none⟩,cap,rfl,h5,by unfold maxLen at h6;omega,(fun q=>by cases q),Or.inr ⟨g,0,rfl,⟨fun m=>by have:=hF g m;omega,hl⟩,fun j u hu=>?_⟩⟩
  have hj:j<L.length*8:=by rw [← flatR_len encOw];exact (List.getElem?_eq_some_iff.1 hu).1
  rw [Nat.zero_add,h.cellAt j hj]
  exact hu
theorem own_shapeW {w:World} {base n size:Nat} {e:TypeId} {v:Value} {xs:List Value} (h:w.ownsRow base e size v n xs):∃ a cap,v=.slice a n cap:=by
 rcases h.2 with ⟨rfl,h0⟩ | ⟨g,cap,cur,rfl,_⟩
 ·exact ⟨none,0,by rw [h0]⟩
 ·exact ⟨_,cap,rfl⟩
/-- how many CPUs there are stays -/
theorem ifC {c:Prop} [Decidable c] {a b s:SSt} (ha:a.C=s.C) (hb:b.C=s.C):(if c then a else b).C=s.C:=by
 split
 ·exact ha
 ·exact hb
theorem ifC3 {c:Prop} [Decidable c] {a b:Int×Int×SSt} {s:SSt} (ha:a.2.2.C=s.C) (hb:b.2.2.C=s.C):(if c then a else b).2.2.C=s.C:=by
 split
 ·exact ha
 ·exact hb
theorem mvC (s:SSt) (id:Int) (t:Tsk) (j:Nat):(mvS s id t j).C=s.C:=ifC rfl rfl
theorem opR_C (s:SSt) (o:OpV):(opR s o).2.2.C=s.C:=by
 have h1:∀ k,(spS s k o).C=s.C:=fun k=>ifC rfl rfl
 have h2:∀ id,(awS s id).C=s.C:=fun id=>by
  unfold awS
  split
  ·rfl
  ·exact ifC rfl rfl
 have h3:∀ k,(stopS s k).C=s.C:=fun k=>by
  unfold stopS
  split
  ·rfl
  ·rfl
 have h4:∀ k,(exitS s k).C=s.C:=fun k=>ifC rfl (h3 k)
 have h5:∀ k tk,(tickS s k tk).C=s.C:=fun k tk=>by
  refine ifC ?_ rfl
  split
  ·rfl
  ·rfl
 have h6:∀ k,(pickS s k).C=s.C:=fun k=>rfl
 have h7:∀ id w,(reS s id w).C=s.C:=fun id w=>by
  refine ifC ?_ rfl
  split
  ·rfl
  ·exact ifC rfl rfl
 have h8:∀ g w,(rgT s g w).C=s.C:=fun g w=>ifC rfl rfl
 have h9:(mgS s o).C=s.C:=by
  refine ifC ?_ rfl
  split
  ·rfl
  ·exact mvC _ _ _ _
 have h10:∀ k,(balS s k).C=s.C:=fun k=>by
  refine ifC rfl ?_
  split
  ·exact mvC _ _ _ _
  ·rfl
 unfold opR
 have e:∀ (a b:Int) (s':SSt),((a,b,s'):Int×Int×SSt).2.2.C=s'.C:=fun _ _ _=>rfl
 refine ifC3 (ifC3 ((e _ _ _).trans (h1 _)) (e _ _ _)) ?_
 refine ifC3 (ifC3 ((e _ _ _).trans (h2 _)) (e _ _ _)) ?_
 refine ifC3 (ifC3 ((e _ _ _).trans (h3 _)) (e _ _ _)) ?_
 refine ifC3 (ifC3 ((e _ _ _).trans (h4 _)) (e _ _ _)) ?_
 refine ifC3 (ifC3 ((e _ _ _).trans (h5 _ _)) (e _ _ _)) ?_
 refine ifC3 (ifC3 ((e _ _ _).trans (h6 _)) (e _ _ _)) ?_
 refine ifC3 (ifC3 ((e _ _ _).trans (h7 _ _)) (e _ _ _)) ?_
 refine ifC3 ((e _ _ _).trans (h8 _ _)) ?_
 refine ifC3 ((e _ _ _).trans h9) ?_
 exact ifC3 (ifC3 ((e _ _ _).trans (h10 _)) (e _ _ _)) (e _ _ _)
/-- five numbers,by their places -/
def fiveL (a b c d e:Int) (i:Nat):Int:=if i=0 then a else if i=1 then b else if i=2 then c else if i=3 then d else e
theorem fiveL_in {a b c d e lo hi:Int} (h0:lo≤a∧a≤hi) (h1:lo≤b∧b≤hi) (h2:lo≤c∧c≤hi) (h3:lo≤d∧d≤hi) (h4:lo≤e∧e≤hi):∀ i,i<5→lo≤fiveL a b c d e i∧fiveL a b c d e i≤hi:=fun i _=>by
 unfold fiveL
 repeat' split
 all_goals assumption
theorem Made5 (n0 n1 n2 p0 p1 p2 p3 p4 v0 v1 v2 v3 v4:Int) (w:World) (h0:0≤n0∧n0≤255) (h1:0≤n1∧n1≤255) (h2:0≤n2∧n2≤4294967295)
  (hp:(0≤p0∧p0≤255)∧(0≤p1∧p1≤255)∧(0≤p2∧p2≤255)∧(0≤p3∧p3≤255)∧(0≤p4∧p4≤255)) (hv:(0≤v0∧v0≤65535)∧(0≤v1∧v1≤65535)∧(0≤v2∧v2≤65535)∧(0≤v3∧v3≤65535)∧(0≤v4∧v4≤65535)) :
  Calls Tryz.prog 14 #[.agg #[.int .u8 n0,.int .u8 n1,.int .u32 n2,.int .u8 p0,.int .u8 p1,.int .u8 p2,.int .u8 p3,.int .u8 p4,.int .u16 v0,.int .u16 v1,.int .u16 v2,.int .u16 v3,.int .u16 v4]] w (MadeC w):=
 Made_at n0 n1 n2 (fiveL p0 p1 p2 p3 p4) (fiveL v0 v1 v2 v3 v4) w h0 h1 h2 (fiveL_in hp.1 hp.2.1 hp.2.2.1 hp.2.2.2.1 hp.2.2.2.2) (fiveL_in hv.1 hv.2.1 hv.2.2.1 hv.2.2.2.1 hv.2.2.2.2)
abbrev opK:List (Option IntKind):=[some .u8,some .i64,some .i64,some .i64,some .i64,some .i64,some .i64,some .u64]
theorem wf_u64r {x:Int} (h:(Lit.int .u64 x).wf=true):0≤x∧x≤18446744073709551615:=by
 simp only [Lit.wf,Bool.and_eq_true,decide_eq_true_eq,IntKind.min,IntKind.max,IntKind.bits,IntKind.signed] at h
 simp at h
 omega
/-- operations that came in -/
theorem ops_of {w:World} {a:Option Addr} {l c:Nat} {F:Nat→Nat→Value} (h:PlainRow opK w a l c F):∃ L:List OpV,RecsAt encOl w (.slice a l c) L∧∀ o∈L,o.Wf:=by
 rcases h with ⟨rfl,rfl,rfl⟩ | ⟨rfl,hc,x,rfl⟩ | ⟨h0,hl,hm,b,off,rfl,hc⟩
 ·exact ⟨[],⟨none,0,rfl,Nat.zero_le _,by omega,fun _=>rfl,Or.inl rfl⟩,fun x hx=>(by cases hx)⟩
 ·exact ⟨[],⟨some x,c,rfl,Nat.zero_le _,by unfold maxLen at hc;omega,(fun e=>by cases e),Or.inl rfl⟩,fun x hx=>(by cases hx)⟩
 ·have hcell:∀ i,i<l→∃ o:OpV,o.Wf∧∀ j u,(encOl o)[j]?=some u→w.cell? ⟨b,off+i*8+j,none⟩=some u:=fun i hi=>by
   obtain ⟨e0,a0,q0,w0⟩:=hc i hi 0 (some .u8) rfl
   rw [q0] at e0
   obtain ⟨e1,a1,q1,w1⟩:=hc i hi 1 (some .i64) rfl
   rw [q1] at e1
   obtain ⟨e2,a2,q2,w2⟩:=hc i hi 2 (some .i64) rfl
   rw [q2] at e2
   obtain ⟨e3,a3,q3,w3⟩:=hc i hi 3 (some .i64) rfl
   rw [q3] at e3
   obtain ⟨e4,a4,q4,w4⟩:=hc i hi 4 (some .i64) rfl
   rw [q4] at e4
   obtain ⟨e5,a5,q5,w5⟩:=hc i hi 5 (some .i64) rfl
   rw [q5] at e5
   obtain ⟨e6,a6,q6,w6⟩:=hc i hi 6 (some .i64) rfl
   rw [q6] at e6
   obtain ⟨e7,a7,q7,w7⟩:=hc i hi 7 (some .u64) rfl
   rw [q7] at e7
   refine ⟨⟨a0,a1,a2,a3,a4,a5,a6,a7⟩,⟨wf_u8 w0,w1,w2,w3,w4,w5,w6,wf_u64r w7⟩,fun j u hj=>?_⟩
   have hj8:j<8:=(List.getElem?_eq_some_iff.1 hj).1
   have hh:j=0∨j=1∨j=2∨j=3∨j=4∨j=5∨j=6∨j=7:=by omega
   rcases hh with rfl | rfl | rfl | rfl | rfl | rfl | rfl | rfl
   ·cases hj;exact e0
   ·cases hj;exact e1
   ·cases hj;exact e2
   ·cases hj;exact e3
   ·cases hj;exact e4
   ·cases hj;exact e5
   ·cases hj;exact e6
   ·cases hj;exact e7
  obtain ⟨f,hf⟩:∃ f:Nat→OpV,∀ i,i<l→(f i).Wf∧∀ j u,(encOl (f i))[j]?=some u→w.cell? ⟨b,off+i*8+j,none⟩=some u:=
   ⟨fun i=>if h:i<l then Classical.choose (hcell i h) else ⟨0,0,0,0,0,0,0,0⟩,fun i hi=>by simp only [hi,dif_pos];exact Classical.choose_spec (hcell i hi)⟩
  refine ⟨(List.range l).map f,⟨some ⟨b,off,none⟩,c,by simp,by simpa using hl,by unfold maxLen at hm;omega,(fun e=>by cases e),Or.inr ⟨b,off,rfl,fun j u hj=>?_⟩⟩,fun o ho=>?_⟩
  ·have hjl:j<l*8:=by
    have:=(List.getElem?_eq_some_iff.1 hj).1
    rw [flatR_len encOw] at this
    simpa using this
   have hi:j / 8<l:=by omega
   have hx:((List.range l).map f)[j / 8]?=some (f (j / 8)):=by rw [List.getElem?_map,List.getElem?_range hi];rfl
   have h1:=flatR_at encOw hx (j % 8) (by omega)
   rw [show j / 8*8+j % 8=j by omega,hj] at h1
   have h2:=(hf _ hi).2 (j % 8) u h1.symm
   rw [show off+j / 8*8+j % 8=off+j by omega] at h2
   exact h2
  ·obtain ⟨i,hi,rfl⟩:=List.mem_map.1 ho
   exact (hf i (List.mem_range.1 hi)).1
end Go.Proofs.YtapnaocdehahdaaGreat
namespace Go.Proofs.YtapnaocdehahdaaGreat
open Go.RowKit Go.Maps Go.IntWalk Go.Lib
set_option linter.unusedVariables false
set_option linter.unusedSimpArgs false
/-- State,as its user sees it -/
theorem StateX_at {w:World} {x:Nat} {F:List Nat} {s:SSt} (h:SIn w x F s) (ho:SOk s) (hF:∀ b∈F,b<w.heap.size):Calls Tryz.prog 16 #[.pointer (some ⟨x,0,none⟩)] w fun e w'=>∃ a0 k0 a1 k1 a2 k2 a3 k3 a4 k4,e=.returned (.tuple #[.agg #[.int .i64 s.C,.int .u64 s.cr,.slice a0 s.n k0,.slice a1 s.C k1,.slice a2 s.C k2,.slice a3 s.c k3,.slice a4 s.n k4],.int .i64 0])∧StaH F w' (.agg #[.int .i64 s.C,.int .u64 s.cr,.slice a0 s.n k0,.slice a1 s.C k1,.slice a2 s.C k2,.slice a3 s.c k3,.slice a4 s.n k4]) (staOf s)∧Below w.heap.size w w':=by
 obtain ⟨L,q,hL⟩:=h
 refine (State_at q ho).mono ?_
 rintro e w' ⟨v,rfl,h1,h2⟩
 have h3:=h1 F hF
 obtain ⟨vg,vl,vu,vt,vs,e,g1,l1,u1,t1,s1⟩:=h3.is
 obtain ⟨r1,r2,r3,-⟩:=s1.rows
 obtain ⟨a0,k0,e0,-⟩:=g1
 obtain ⟨a1,k1,e1,-⟩:=l1
 obtain ⟨a2,k2,e2,-⟩:=u1
 obtain ⟨a3,k3,e3,-⟩:=t1
 obtain ⟨a4,k4,e4,-⟩:=r3
 rw [staOf_cl] at e1
 rw [staOf_cu] at e2
 rw [staOf_ts ho] at e3
 rw [r2,staOf_sp] at e4
 replace e0:vg=.slice a0 s.n k0:=e0
 replace e:v=.agg #[.int .i64 s.C,.int .u64 s.cr,vg,vl,vu,vt,vs]:=e
 subst e e0 e1 e2 e3 e4
 exact ⟨a0,k0,a1,k1,a2,k2,a3,k3,a4,k4,rfl,h3,h2⟩
theorem refused {s:SSt} (h:SOk s) (o:OpV) (hne:(doR s o).2.1≠0):(doR s o).1=0∧(doR s o).2.2.wk=0∧staOf (doR s o).2.2=staOf s:=by
 obtain ⟨h1,h2⟩:=((h.work 0).refuse o).ok hne
 refine ⟨h1,?_,?_⟩
 ·rw [show (doR s o).2.2={ s with wk:=0 } from h2]
 ·rw [show (doR s o).2.2={ s with wk:=0 } from h2]
  exact staOf_wk s 0
theorem no_kind {s:SSt} {o:OpV} (h:¬ (1≤o.kind∧o.kind≤10)):(doR s o).2.1=2:=by
 unfold doR
 rw [opR_0 h]
end Go.Proofs.YtapnaocdehahdaaGreat
namespace Go.Proofs.YtapnaocdehahdaaGreat
open Go.RowKit Go.Maps Go.IntWalk Go.Lib
set_option linter.unusedVariables false
set_option linter.unusedSimpArgs false
def fstV (s:SSt) (j:Nat):Int:=(frT (s.Q j)).1
def pkO (c:Nat):OpV:=⟨6,c,0,0,0,0,0,0⟩
theorem pkO_wf {c:Nat} (h:c<64):(pkO c).Wf:=⟨(by decide:(0:Int)≤6∧(6:Int)≤255),wfI (by show _≤(c:Int);omega) (by show (c:Int)≤_;omega),(by decide:(Lit.int .i64 0).wf=true),(by decide:(Lit.int .i64 0).wf=true),(by decide:(Lit.int .i64 0).wf=true),(by decide:(Lit.int .i64 0).wf=true),(by decide:(Lit.int .i64 0).wf=true),(by decide:(0:Int)≤0∧(0:Int)≤18446744073709551615)⟩
theorem pk_do {s:SSt} {c:Nat} (hc:c<s.C):doR s (pkO c)=((frT (s.Q c)).1,0,pickS { s with wk:=0 } c):=by
 unfold doR
 rw [opR_6 (show (pkO c).kind=6 from rfl)]
 have hh:hasV (s.C:Int) ((c:Nat):Int)=true:=by
  unfold hasV
  simp
  omega
 show (if hasV (s.C:Int) ((c:Nat):Int)=true then ((frT (s.Q ((c:Nat):Int).toNat)).1,(0:Int),pickS { s with wk:=0 } ((c:Nat):Int).toNat) else _)=_
 rw [if_pos hh,Int.toNat_natCast]
theorem SIn.kept {w w':World} {x:Nat} {F G:List Nat} {s:SSt} (h:SIn w x F s) (hk:Kept G w w') (hG:∀ b∈G,b∉F):SIn w' x F s:=by
 obtain ⟨L,h1,h2⟩:=h
 exact ⟨L,h1.kept hk (fun b q=>Decidable.byContradiction fun n=>hG b q (h2 b n)),h2⟩
theorem XW.kept {base w w':World} {x:Nat} {s:SSt} {F G:List Nat} (h:XW base x s w F) (hk:Kept G w w') (hG:∀ b∈G,b∉F) (hl:∀ b∈G,base.heap.size≤b):XW base x s w' F:=
 ⟨h.inn.kept hk hG,h.own,fun b q=>Nat.lt_of_lt_of_le (h.lt b q) hk.size,h.bel.trans (hk.below hl h.bel.size)⟩
theorem HeldR.add {α:Type} {enc:α→List Value} {F:List Nat} {w:World} {v:Value} {L:List α} {b:Nat} (h:HeldR enc F w v L) (hb:w.heap.size≤b):HeldR enc (b::F) w v L:=by
 obtain ⟨a,cap,e,h1,h2,h3,h⟩:=h
 refine ⟨a,cap,e,h1,h2,h3,h.imp id fun ⟨b',off,e,⟨q1,q2⟩,hc⟩=>⟨b',off,e,⟨fun m=>?_,q2⟩,hc⟩⟩
 rcases List.mem_cons.1 m with q | q
 ·omega
 ·exact q1 q
theorem cells_held {α:Type} {enc:α→List Value} {k n c:Nat} (he:Enc enc k) {F:List Nat} {w:World} {a:Option Addr} {l:List α} (h:HeldR enc F w (.slice a n c) l) {i:Nat} {y:α} (hy:l[i]?=some y):∃ b off,a=some ⟨b,off,none⟩∧(b∉F∧b<w.heap.size)∧∀ j u,(enc y)[j]?=some u→w.cell? ⟨b,off+i*k+j,none⟩=some u:=by
 obtain ⟨a',c',e,_,_,_,q⟩:=h
 cases e
 have hi:=(List.getElem?_eq_some_iff.1 hy).1
 rcases q with q | ⟨b,off,rfl,hb,hc⟩
 ·rw [q] at hi;simp at hi
 ·refine ⟨b,off,rfl,hb,fun j u hj=>?_⟩
  have hjk:j<k:=by rw [← he.len y];exact (List.getElem?_eq_some_iff.1 hj).1
  have:=hc (i*k+j) u ((flatR_at he hy j hjk).trans hj)
  rwa [← Nat.add_assoc] at this
end Go.Proofs.YtapnaocdehahdaaGreat
