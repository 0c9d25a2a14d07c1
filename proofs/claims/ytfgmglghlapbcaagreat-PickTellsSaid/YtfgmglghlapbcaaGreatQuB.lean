/-
  Layer 24 (queue): change.
  Layer 24 (queue): Charge, Weigh.
  Layer 24 (queue): New, First, Get, Floor, Load, Len, Raise.
  Layer 24 (queue): members.
  Layer 24 (queue): All.
-/
import Derived.Test.YtfgmglghlapbcaaGreatQuA
import Derived.Stop.RegionWithIn
namespace Go.Proofs.YtfgmglghlapbcaaGreat
open Go.RowKit Go.Maps Go.IntWalk Go.Lib
set_option linter.unusedVariables false
set_option linter.unusedSimpArgs false
@[go_sem] theorem run_field_ent2 (a b c:Value) (w:World):Sem.run Tryz.prog (Instr.field 40 (.agg #[a,b,c]) 2) w=.ok c w:=by kernel_rfl
def chM (M:Mems) (id:Int) (x:Ent):Mems:=putM (outM M id) (id,x)
theorem ch_none {M:Mems} (hn:(M.map Prod.fst).Nodup) (id:Int):entM (outM M id) id=none:=by rw [ent_out hn,if_pos rfl]
theorem ch_ent {M:Mems} (hn:(M.map Prod.fst).Nodup) (id:Int) (x:Ent) (j:Int):entM (chM M id x) j=if j=id then some x else entM M j:=by
 unfold chM
 rw [ent_put (out_nodup hn id) (ch_none hn id),ent_out hn]
 by_cases e:j=id
 ·rw [if_pos e,if_pos e]
 ·rw [if_neg e,if_neg e,if_neg e]
theorem ch_len {M:Mems} (hn:(M.map Prod.fst).Nodup) {id:Int} {y:Ent} (h:entM M id=some y) (x:Ent):(chM M id x).length=M.length:=by
 unfold chM;rw [put_len];exact out_len hn h
theorem ch_load {M:Mems} (hn:(M.map Prod.fst).Nodup) {id:Int} {y:Ent} (h:entM M id=some y) (x:Ent):loadM (chM M id x)=loadM M+(x.2.2 - y.2.2):=by
 unfold chM;rw [load_put,load_out hn h]
 show loadM M - y.2.2+x.2.2=_
 omega
theorem ch_mem {M:Mems} {id:Int} {x:Ent} {m:Int×Ent} (h:m∈chM M id x):m=(id,x)∨m∈M:=by
 rcases put_mem.1 h with h | h
 ·exact Or.inl h
 ·exact Or.inr (out_mem.1 h).1
theorem ch_nodup {M:Mems} (hn:(M.map Prod.fst).Nodup) (id:Int) (x:Ent):((chM M id x).map Prod.fst).Nodup:=put_nodup (out_nodup hn id) (ch_none hn id)
set_option maxRecDepth 100000 in
set_option maxHeartbeats 4000000 in
theorem change_no (q id c:Int) (q':Addr) (x:Ent) (w:World) (hc:c≠0) :
  Calls Tryz.prog 107 #[.pointer (some q'),.int .i64 id,.agg #[.int .u64 x.1,.int .u32 x.2.1,.int .u32 x.2.2],.int .i64 c] w fun e w'=>e=.returned (.int .i64 c)∧Below w.heap.size w w':=by
 have hz:(c != 0)=true:=by simpa using hc
 clear hc
 go_enter Tryz.func107,Tryz.ntmps107
 go_wp2_with fail
 go_ret
 exact ⟨rfl,below_a _ _⟩
set_option maxRecDepth 100000 in
set_option maxHeartbeats 4000000 in
theorem change_at {q:Nat} {F:List Nat} {n:Int} {M:Mems} {fl:Int} (id:Int) (x y:Ent) (w:World) (h:QIn w q F n M fl) (hid:(Lit.int .i64 id).wf=true) (hx:Ch.Ok x.1 x.2.1 x.2.2) (hm:entM M id=some y) :
  Calls Tryz.prog 107 #[.pointer (some ⟨q,0,none⟩),.int .i64 id,.agg #[.int .u64 x.1,.int .u32 x.2.1,.int .u32 x.2.2],.int .i64 0] w (QDid w q F n (.int .i64 0) (chM M id x) (riseF (itemsM (chM M id x)) fl)):=by
 have HQ:=Lib.hid h
 have hids:=h.ids
 have hv:hasV n id=true:=hasV_iff.2 (hids.2.1 _ ((ent_some hids.1.nod).1 hm))
 obtain ⟨p,bm,Fh,f,hr,rfl,hfe,hok,hf0,hf1⟩:=h
 obtain ⟨W0,hW0⟩:∃ W0,W0=w.alloc (.cells #[.int .u64 x.1,.int .u32 x.2.1,.int .u32 x.2.2] 40):=⟨_,rfl⟩
 have HB0:=Lib.hid (show Below w.heap.size w W0 by rw [hW0];exact below_a _ _)
 have x0:W0.cell? ⟨w.heap.size,0,none⟩=some (.int .u64 x.1):=by rw [hW0];exact cell_nw _ _ _ 0 _ rfl
 have x1:W0.cell? ⟨w.heap.size,1,none⟩=some (.int .u32 x.2.1):=by rw [hW0];exact cell_nw _ _ _ 1 _ rfl
 have x2:W0.cell? ⟨w.heap.size,2,none⟩=some (.int .u32 x.2.2):=by rw [hW0];exact cell_nw _ _ _ 2 _ rfl
 have HW0:=Lib.hid hW0
 have HID:=Lib.hid hid
 have HOK:=Lib.hid hok
 have HFE:=Lib.hid hfe
 have HFL:=Lib.hid (And.intro hf0 hf1)
 have HV:=Lib.hid hv
 have HM:=Lib.hid hm
 have HX:=Lib.hid hx
 have hR0:=hr.below HB0.out
 have HR0:=Lib.hid hR0
 have c2:=hR0.c2
 have c4:=hR0.c4
 have f4:=hR0.fr 4
 have hlk:=((hR0.below (Below.refl W0.heap.size W0).drew).map.look elemE undE trivial zeroE hid).2
 rw [hfe,hm] at hlk
 simp only [Option.getD_some,encE] at hlk
 have hld:=load_le hok.ok
 have hxw:=hx
 have hyw:Ch.Ok y.1 y.2.1 y.2.2:=hok.ok _ ((ent_some hok.nod).1 hm)
 unfold Ch.Ok at hxw hyw
 have hw1:IntKind.i64.wrap x.2.2=x.2.2:=IntWalk.i64_in _ (by omega)
 have hw2:IntKind.i64.wrap y.2.2=y.2.2:=IntWalk.i64_in _ (by omega)
 have hw3:IntKind.i64.wrap (x.2.2 - y.2.2)=x.2.2 - y.2.2:=IntWalk.i64_in _ (by omega)
 have hw4:IntKind.i64.wrap (loadM M+(x.2.2 - y.2.2))=loadM M+(x.2.2 - y.2.2):=IntWalk.i64_in _ (by omega)
 have hv1:wrap64 x.2.2=x.2.2:=IntWalk.wrap64_in _ (by omega)
 have hv2:wrap64 y.2.2=y.2.2:=IntWalk.wrap64_in _ (by omega)
 have hv3:wrap64 (x.2.2 - y.2.2)=x.2.2 - y.2.2:=IntWalk.wrap64_in _ (by omega)
 have hv4:wrap64 (loadM M+(x.2.2 - y.2.2))=loadM M+(x.2.2 - y.2.2):=IntWalk.wrap64_in _ (by omega)
 clear hr hW0 hid hok hfe hf0 hf1 hv hm hx hR0 hids hld hxw hyw
 go_enter Tryz.func107,Tryz.ntmps107
 go_wp2_with fail
 rw [← HW0.out]
 obtain ⟨bx,hbx⟩:∃ b,b=w.heap.size:=⟨_,rfl⟩
 rw [← hbx] at x0 x1 x2 ⊢
 have HBX:=Lib.hid hbx
 have hne:bx≠q∧bx≠bm∧bx∉Fh:=⟨fun e=>by have:=HQ.out.lt q (by simp);omega,fun e=>by have:=HQ.out.lt bm (by simp);omega,fun m=>by have:=HQ.out.lt bx (by simp [m]);omega⟩
 have HNE:=Lib.hid hne
 clear hbx hne
 go_region
 obtain ⟨hQ1,hk1⟩:=HR0.out.loaded (loadM M+(x.2.2 - y.2.2))
 have hQ1':=hQ1.below (Below.refl _ _).drew
 have hk1':=hk1.drew
 obtain ⟨W1,hW1⟩:∃ W,W=(W0.setCell ⟨q,4,none⟩ (.int .i64 (loadM M+(x.2.2 - y.2.2)))).drew:=⟨_,rfl⟩
 rw [← hW1] at hQ1' hk1' ⊢
 have HQ1:=Lib.hid hQ1'
 have HS1:=Lib.hid ((Step.of (F:=q::bm::Fh) HB0.out).trans (Step.inn (F:=q::bm::Fh) hk1' (fun b hb=>by simp at hb;simp [hb])))
 replace x0:=hk1'.cellAt x0 (by simpa using HNE.out.1)
 replace x1:=hk1'.cellAt x1 (by simpa using HNE.out.1)
 replace x2:=hk1'.cellAt x2 (by simpa using HNE.out.1)
 replace c2:=hQ1'.c2
 have hlen:M.length<maxLen:=by have:=HQ.out.ids;unfold maxLen;omega
 obtain ⟨w10,hrun,hm10,hg10⟩:=(hQ1'.map.below (Below.refl W1.heap.size W1).drew).put elemE undE hlen HID.out (p:=x) trivial
 rw [HFE.out,HM.out] at hm10
 simp only [encE] at hrun
 have HM10:=Lib.hid hm10
 have HG10:=Lib.hid hg10
 clear hQ1 hk1 hQ1' hk1' hW1 hlk hw1 hw2 hw3 hw4 hv1 hv2 hv3 hv4 c4 f4 hlen hm10 hg10
 go_wp2_with fail
 go_region
 obtain ⟨hQ10,hk10⟩:=(HQ1.out.below (Below.refl W1.heap.size W1).drew).mapped HG10.out HM10.out
 have HQ10:=Lib.hid hQ10
 have HS10:=Lib.hid (HS1.out.trans ((Step.of (Below.refl W1.heap.size W1).drew).trans (Step.inn (F:=q::bm::Fh) hk10 (fun b hb=>by simp at hb;simp [hb]))))
 replace x0:=hk10.cellAt (cell_dr x0) (by simpa using HNE.out.2.1)
 have c0:=hQ10.c0
 have nq:q∉Fh:=hQ10.nq
 have nx:bx∉Fh:=HNE.out.2.2
 have HH:=Lib.hid (show HeapIn w10.drew p Fh n (itemsM M) from hQ10.heap.below (Below.refl _ _).drew)
 have HKY:=Lib.hid (show 0≤x.1∧x.1≤18446744073709551615 by have:=HX.out;unfold Ch.Ok at this;omega)
 clear hrun hQ10 hk10 x1 x2 c2
 go_wp2_with fail
 refine startA (S:=fun w'=>Kept Fh w10 w'∧w'.cell? ⟨q,0,none⟩=some (.pointer (some ⟨p,0,none⟩))∧w'.cell? ⟨bx,0,none⟩=some (.int .u64 x.1)) ⟨Kept.refl _ _,c0,x0⟩ (fun h=>heldK_2 (kept_dr _ _) h) (fun hS0 hHeld=>?_)
 refine takeA 0 ?_
 refine takeA 1 ?_
 refine takeA 2 ?_
 refine takeA 3 ?_
 refine takeA 4 ?_
 refine takeA 5 ?_
 refine takeA 6 ?_
 refine takeA 7 ?_
 refine readyA [8] (consA (fun K hK=>?_) .nil)
 go_simp
 refine (Set_at id x.1 _ HH.out HID.out HKY.out).mono ?_
 rintro e w9 ⟨rfl,hA9⟩
 obtain ⟨Fh9,h9,s9⟩:=hA9.split
 have hk9:Kept Fh w10.drew w9:=s9.kept
 go_wp2_with fail
 refine outA hK kpK_2 (fun hHeld8=>?_)
 clear hK K
 refine doneA ?_
 skip
 have hps:setS n (itemsM M) id x.1=itemsM (chM M id x):=by
  unfold chM
  rw [items_put,items_out]
  have hr0:setRes n (itemsM M) id=0:=by unfold setRes;rw [HV.out,key_ent,HM.out];rfl
  unfold setS
  rw [if_pos hr0];rfl
 rw [hps] at h9
 have HQ9:=Lib.hid ((HQ10.out.below (Below.refl w10.heap.size w10).drew).heaped s9 h9)
 have HS9:=Lib.hid (HS10.out.trans ((Step.of (Below.refl w10.heap.size w10).drew).trans (s9.lift q bm)))
 clear hps hHeld8 hHeld hS0 hk9 hA9 h9 s9 c0 x0
 go_wp2_with fail
 refine (rise_at _ HQ9.out).mono ?_
 rintro e w12 ⟨rfl,hQ12,hk12⟩
 have HQ12:=Lib.hid hQ12
 have HS12:=Lib.hid (HS9.out.trans (Step.inn (F:=q::bm::Fh9) hk12 (fun b hb=>by simp at hb;simp [hb])))
 clear hQ12 hk12
 go_wp2_with fail
 go_ret
 refine ⟨rfl,q::bm::Fh9,⟨p,bm,Fh9,setF f id (some x),?_,rfl,fun j=>?_,?_,?_⟩,HS12.out⟩
 ·have hq:=HQ12.out
  rw [← ch_load HOK.out.nod HM.out x] at hq
  have hc:putC ((some y:Option Ent).map fun _=>(0:Int)) M.length=(chM M id x).length:=by rw [ch_len HOK.out.nod HM.out];rfl
  rw [hc] at hq
  exact hq
 ·rw [ch_ent HOK.out.nod]
  unfold setF
  rw [HFE.out]
 ·refine ⟨ch_nodup HOK.out.nod id x,HQ12.out.heap.ids.2.1,fun m hm=>?_⟩
  rcases ch_mem hm with rfl | hm
  ·exact HX.out
  ·exact HOK.out.ok m hm
 ·have h1:=HFL.out
  have h2:=HQ12.out.heap.ids.2.2.1
  unfold riseF
  split
  ·exact h1
  ·rename_i y r e
   have:=h2 y (by rw [e];simp)
   omega
def tkOk (t:Int):Prop:=0≤t∧t≤4294967295
instance (t:Int):Decidable (tkOk t):=by unfold tkOk;infer_instance
def wgOk (k:Int):Prop:=1≤k∧k≤65536
instance (t:Int):Decidable (wgOk t):=by unfold wgOk;infer_instance
def chgX (t:Int) (y:Ent):Ent:=(Ch.addV y.1 y.2.1 y.2.2 t,Ch.addR y.1 y.2.1 y.2.2 t,y.2.2)
def wghX (k:Int) (y:Ent):Ent:=(y.1,0,k)
def chC (b:Bool) (n:Int) (M:Mems) (id:Int):Int:=if hasV n id then (if b then (if (entM M id).isSome then 0 else 6) else 2) else 2
def chS (b:Bool) (n:Int) (M:Mems) (id:Int) (X:Ent→Ent):Mems:=if chC b n M id=0 then chM M id (X ((entM M id).getD (0,0,0))) else M
def chF (b:Bool) (n:Int) (M:Mems) (id:Int) (X:Ent→Ent) (fl:Int):Int:=if chC b n M id=0 then riseF (itemsM (chM M id (X ((entM M id).getD (0,0,0))))) fl else fl
theorem ch_no {b:Bool} {n:Int} {M:Mems} {id c:Int} (h:chC b n M id=c) (hc:c≠0) (X:Ent→Ent) (fl:Int):chS b n M id X=M∧chF b n M id X fl=fl:=by
 unfold chS chF
 rw [h,if_neg hc,if_neg hc]
 exact ⟨rfl,rfl⟩
theorem ch_yes {b:Bool} {n:Int} {M:Mems} {id:Int} {y:Ent} (h:chC b n M id=0) (hy:entM M id=some y) (X:Ent→Ent) (fl:Int):chS b n M id X=chM M id (X y)∧chF b n M id X fl=riseF (itemsM (chM M id (X y))) fl:=by
 unfold chS chF
 rw [h,if_pos rfl,if_pos rfl,hy]
 exact ⟨rfl,rfl⟩
theorem okC {t:Int} {y:Ent} (hy:Ch.Ok y.1 y.2.1 y.2.2) (ht:tkOk t):Ch.Ok (chgX t y).1 (chgX t y).2.1 (chgX t y).2.2:=Ch.add_ok hy ht.1
theorem okW {k:Int} {y:Ent} (hy:Ch.Ok y.1 y.2.1 y.2.2) (hk:wgOk k):Ch.Ok (wghX k y).1 (wghX k y).2.1 (wghX k y).2.2:=by
 exact ⟨hy.1,hy.2.1,Int.le_refl 0,show (0:Int)<k by have:=hk.1;omega,hk.1,hk.2,Or.inr rfl⟩
set_option maxRecDepth 100000 in
set_option maxHeartbeats 4000000 in
theorem Charge_at {q:Nat} {F:List Nat} {n:Int} {M:Mems} {fl:Int} (id t:Int) (w:World) (h:QIn w q F n M fl) (hid:(Lit.int .i64 id).wf=true) :
  Calls Tryz.prog 76 #[.pointer (some ⟨q,0,none⟩),.int .i64 id,.int .i64 t] w (QDid w q F n (.int .i64 (chC (decide (tkOk t)) n M id)) (chS (decide (tkOk t)) n M id (chgX t)) (chF (decide (tkOk t)) n M id (chgX t) fl)):=by
 have any:∀ v r c W,Ch.Fits v r c→¬ (Ch.Ok v r c∧tkOk t)→Calls Tryz.prog 49 #[.agg #[.int .u64 v,.int .u32 r,.int .u32 c],.int .i64 t] W fun e w'=>e=.returned (.tuple #[.agg #[.int .u64 0,.int .u32 0,.int .u32 0],.int .i64 2])∧Below W.heap.size W w':=fun v r c W hf h=>Add_bad v r c t W hf h
 have ok:∀ v r c W,Ch.Ok v r c→tkOk t→Calls Tryz.prog 49 #[.agg #[.int .u64 v,.int .u32 r,.int .u32 c],.int .i64 t] W fun e w'=>e=.returned (.tuple #[.agg #[.int .u64 (chgX t (v,r,c)).1,.int .u32 (chgX t (v,r,c)).2.1,.int .u32 (chgX t (v,r,c)).2.2],.int .i64 0])∧Below W.heap.size W w':=fun v r c W h ht=>Add_ok v r c t W h ht
 have okX:=@okC t
 have HQ:=Lib.hid h
 have hids:=h.ids
 have HIN:=Lib.hid h
 obtain ⟨p,bm,Fh,f,hr,rfl,hfe,hok,hf0,hf1⟩:=h
 have A1:=Lib.hid (qfind_at id w hr hid)
 have HID:=Lib.hid hid
 have HOK:=Lib.hid hok
 clear hr hf0 hf1
 unfold qfindV at A1
 rw [hfe] at A1
 clear hfe
 have ANY:=Lib.hid any
 have OK:=Lib.hid ok
 clear any ok
 cases hv:hasV n id with
 | false =>
  rw [hv] at A1
  have E:=Lib.hid (show chC (decide (tkOk t)) n M id=2 by unfold chC;rw [hv];rfl)
  have EB:=Lib.hid (ch_no E.out (by decide) (chgX t) fl)
  have A2:=Lib.hid fun W=>ANY.out 0 0 0 W (by unfold Ch.Fits;omega) (by unfold Ch.Ok;omega)
  clear hids hok
  go_enter Tryz.func76,Tryz.ntmps76
  go_wp2_with fail
  refine A1.out.mono ?_;rintro e w5 ⟨rfl,hb5⟩
  have HB5:=Lib.hid hb5
  clear hb5
  go_wp2_with fail
  refine (A2.out _).mono ?_;rintro e w7 ⟨rfl,hb7⟩
  have HB7:=Lib.hid (Below.step (Below.step HB5.out (below_a w5 _)) hb7)
  clear hb7
  go_wp2_with fail
  go_ret
  rw [E.out,EB.out.1,EB.out.2]
  exact ⟨rfl,QAfter.same HIN.out (Below.step HB7.out (below_a _ _))⟩
 | true =>
  rw [hv] at A1
  by_cases ht:(tkOk t)
  ·cases hm:entM M id with
   | none =>
    rw [hm] at A1
    have E:=Lib.hid (show chC (decide (tkOk t)) n M id=6 by unfold chC;rw [hv,hm,decide_eq_true ht];rfl)
    have EB:=Lib.hid (ch_no E.out (by decide) (chgX t) fl)
    have A2:=Lib.hid fun W=>OK.out 0 0 1 W (by unfold Ch.Ok;omega) ht
    clear hids hok ht
    go_enter Tryz.func76,Tryz.ntmps76
    go_wp2_with fail
    refine A1.out.mono ?_;rintro e w5 ⟨rfl,hb5⟩
    have HB5:=Lib.hid hb5
    clear hb5
    go_wp2_with fail
    refine (A2.out _).mono ?_;rintro e w7 ⟨rfl,hb7⟩
    have HB7:=Lib.hid (Below.step (Below.step HB5.out (below_a w5 _)) hb7)
    clear hb7
    go_wp2_with fail
    refine (change_no q id 6 _ (_,_,_) _ (by decide)).mono ?_;rintro e w8 ⟨rfl,hb8⟩
    have HB8:=Lib.hid (Below.step (Below.step HB7.out (below_a w7 _)) hb8)
    clear hb8
    go_wp2_with fail
    go_ret
    rw [E.out,EB.out.1,EB.out.2]
    exact ⟨rfl,QAfter.same HIN.out HB8.out⟩
   | some y =>
    rw [hm] at A1
    have E:=Lib.hid (show chC (decide (tkOk t)) n M id=0 by unfold chC;rw [hv,hm,decide_eq_true ht];rfl)
    have EB:=Lib.hid (ch_yes E.out hm (chgX t) fl)
    have HM:=Lib.hid hm
    have hy:Ch.Ok y.1 y.2.1 y.2.2:=hok.ok _ ((ent_some hok.nod).1 hm)
    have A2:=Lib.hid fun W=>OK.out y.1 y.2.1 y.2.2 W hy ht
    have HX:=Lib.hid (show Ch.Ok ((chgX t) y).1 ((chgX t) y).2.1 ((chgX t) y).2.2 from okX hy ht)
    clear hids hok ht hy hm
    go_enter Tryz.func76,Tryz.ntmps76
    go_wp2_with fail
    refine A1.out.mono ?_;rintro e w5 ⟨rfl,hb5⟩
    have HB5:=Lib.hid hb5
    clear hb5
    go_wp2_with fail
    refine (A2.out _).mono ?_;rintro e w7 ⟨rfl,hb7⟩
    have HB7:=Lib.hid (Below.step (Below.step HB5.out (below_a w5 _)) hb7)
    clear hb7
    go_wp2_with fail
    refine (change_at id ((chgX t) y) y _ (HIN.out.below (Below.step HB7.out (below_a w7 _))) HID.out HX.out HM.out).mono ?_;rintro e w8 ⟨rfl,hA8⟩
    have HA8:=Lib.hid hA8
    clear hA8
    go_wp2_with fail
    go_ret
    rw [E.out,EB.out.1,EB.out.2]
    obtain ⟨F8,h8,s8⟩:=HA8.out
    exact ⟨rfl,F8,h8,(Step.of (Below.step HB7.out (below_a w7 _))).trans s8⟩
  ·cases hm:entM M id with
   | none =>
    rw [hm] at A1
    have E:=Lib.hid (show chC (decide (tkOk t)) n M id=2 by unfold chC;rw [hv,decide_eq_false ht];rfl)
    have EB:=Lib.hid (ch_no E.out (by decide) (chgX t) fl)
    have A2:=Lib.hid fun W=>ANY.out 0 0 1 W (by unfold Ch.Fits;omega) (fun q=>ht q.2)
    clear hids hok ht
    go_enter Tryz.func76,Tryz.ntmps76
    go_wp2_with fail
    refine A1.out.mono ?_;rintro e w5 ⟨rfl,hb5⟩
    have HB5:=Lib.hid hb5
    clear hb5
    go_wp2_with fail
    refine (A2.out _).mono ?_;rintro e w7 ⟨rfl,hb7⟩
    have HB7:=Lib.hid (Below.step (Below.step HB5.out (below_a w5 _)) hb7)
    clear hb7
    go_wp2_with fail
    go_ret
    rw [E.out,EB.out.1,EB.out.2]
    exact ⟨rfl,QAfter.same HIN.out (Below.step HB7.out (below_a _ _))⟩
   | some y =>
    rw [hm] at A1
    have E:=Lib.hid (show chC (decide (tkOk t)) n M id=2 by unfold chC;rw [hv,decide_eq_false ht];rfl)
    have EB:=Lib.hid (ch_no E.out (by decide) (chgX t) fl)
    have hy:Ch.Ok y.1 y.2.1 y.2.2:=hok.ok _ ((ent_some hok.nod).1 hm)
    have A2:=Lib.hid fun W=>ANY.out y.1 y.2.1 y.2.2 W (by unfold Ch.Ok at hy;unfold Ch.Fits;omega) (fun q=>ht q.2)
    clear hids hok ht hy hm
    go_enter Tryz.func76,Tryz.ntmps76
    go_wp2_with fail
    refine A1.out.mono ?_;rintro e w5 ⟨rfl,hb5⟩
    have HB5:=Lib.hid hb5
    clear hb5
    go_wp2_with fail
    refine (A2.out _).mono ?_;rintro e w7 ⟨rfl,hb7⟩
    have HB7:=Lib.hid (Below.step (Below.step HB5.out (below_a w5 _)) hb7)
    clear hb7
    go_wp2_with fail
    go_ret
    rw [E.out,EB.out.1,EB.out.2]
    exact ⟨rfl,QAfter.same HIN.out (Below.step HB7.out (below_a _ _))⟩
set_option maxRecDepth 100000 in
set_option maxHeartbeats 4000000 in
theorem Weigh_at {q:Nat} {F:List Nat} {n:Int} {M:Mems} {fl:Int} (id k:Int) (w:World) (h:QIn w q F n M fl) (hid:(Lit.int .i64 id).wf=true) :
  Calls Tryz.prog 78 #[.pointer (some ⟨q,0,none⟩),.int .i64 id,.int .i64 k] w (QDid w q F n (.int .i64 (chC (decide (wgOk k)) n M id)) (chS (decide (wgOk k)) n M id (wghX k)) (chF (decide (wgOk k)) n M id (wghX k) fl)):=by
 have any:∀ v r c W,Ch.Fits v r c→¬ (Ch.Ok v r c∧wgOk k)→Calls Tryz.prog 77 #[.agg #[.int .u64 v,.int .u32 r,.int .u32 c],.int .i64 k] W fun e w'=>e=.returned (.tuple #[.agg #[.int .u64 0,.int .u32 0,.int .u32 0],.int .i64 2])∧Below W.heap.size W w':=fun v r c W hf h=>Weigh_bad v r c k W hf h
 have ok:∀ v r c W,Ch.Ok v r c→wgOk k→Calls Tryz.prog 77 #[.agg #[.int .u64 v,.int .u32 r,.int .u32 c],.int .i64 k] W fun e w'=>e=.returned (.tuple #[.agg #[.int .u64 (wghX k (v,r,c)).1,.int .u32 (wghX k (v,r,c)).2.1,.int .u32 (wghX k (v,r,c)).2.2],.int .i64 0])∧Below W.heap.size W w':=fun v r c W h ht=>Weigh_ok v r c k W h ht
 have okX:=@okW k
 have HQ:=Lib.hid h
 have hids:=h.ids
 have HIN:=Lib.hid h
 obtain ⟨p,bm,Fh,f,hr,rfl,hfe,hok,hf0,hf1⟩:=h
 have A1:=Lib.hid (qfind_at id w hr hid)
 have HID:=Lib.hid hid
 have HOK:=Lib.hid hok
 clear hr hf0 hf1
 unfold qfindV at A1
 rw [hfe] at A1
 clear hfe
 have ANY:=Lib.hid any
 have OK:=Lib.hid ok
 clear any ok
 cases hv:hasV n id with
 | false =>
  rw [hv] at A1
  have E:=Lib.hid (show chC (decide (wgOk k)) n M id=2 by unfold chC;rw [hv];rfl)
  have EB:=Lib.hid (ch_no E.out (by decide) (wghX k) fl)
  have A2:=Lib.hid fun W=>ANY.out 0 0 0 W (by unfold Ch.Fits;omega) (by unfold Ch.Ok;omega)
  clear hids hok
  go_enter Tryz.func78,Tryz.ntmps78
  go_wp2_with fail
  refine A1.out.mono ?_;rintro e w5 ⟨rfl,hb5⟩
  have HB5:=Lib.hid hb5
  clear hb5
  go_wp2_with fail
  refine (A2.out _).mono ?_;rintro e w7 ⟨rfl,hb7⟩
  have HB7:=Lib.hid (Below.step (Below.step HB5.out (below_a w5 _)) hb7)
  clear hb7
  go_wp2_with fail
  go_ret
  rw [E.out,EB.out.1,EB.out.2]
  exact ⟨rfl,QAfter.same HIN.out (Below.step HB7.out (below_a _ _))⟩
 | true =>
  rw [hv] at A1
  by_cases ht:(wgOk k)
  ·cases hm:entM M id with
   | none =>
    rw [hm] at A1
    have E:=Lib.hid (show chC (decide (wgOk k)) n M id=6 by unfold chC;rw [hv,hm,decide_eq_true ht];rfl)
    have EB:=Lib.hid (ch_no E.out (by decide) (wghX k) fl)
    have A2:=Lib.hid fun W=>OK.out 0 0 1 W (by unfold Ch.Ok;omega) ht
    clear hids hok ht
    go_enter Tryz.func78,Tryz.ntmps78
    go_wp2_with fail
    refine A1.out.mono ?_;rintro e w5 ⟨rfl,hb5⟩
    have HB5:=Lib.hid hb5
    clear hb5
    go_wp2_with fail
    refine (A2.out _).mono ?_;rintro e w7 ⟨rfl,hb7⟩
    have HB7:=Lib.hid (Below.step (Below.step HB5.out (below_a w5 _)) hb7)
    clear hb7
    go_wp2_with fail
    refine (change_no q id 6 _ (_,_,_) _ (by decide)).mono ?_;rintro e w8 ⟨rfl,hb8⟩
    have HB8:=Lib.hid (Below.step (Below.step HB7.out (below_a w7 _)) hb8)
    clear hb8
    go_wp2_with fail
    go_ret
    rw [E.out,EB.out.1,EB.out.2]
    exact ⟨rfl,QAfter.same HIN.out HB8.out⟩
   | some y =>
    rw [hm] at A1
    have E:=Lib.hid (show chC (decide (wgOk k)) n M id=0 by unfold chC;rw [hv,hm,decide_eq_true ht];rfl)
    have EB:=Lib.hid (ch_yes E.out hm (wghX k) fl)
    have HM:=Lib.hid hm
    have hy:Ch.Ok y.1 y.2.1 y.2.2:=hok.ok _ ((ent_some hok.nod).1 hm)
    have A2:=Lib.hid fun W=>OK.out y.1 y.2.1 y.2.2 W hy ht
    have HX:=Lib.hid (show Ch.Ok ((wghX k) y).1 ((wghX k) y).2.1 ((wghX k) y).2.2 from okX hy ht)
    clear hids hok ht hy hm
    go_enter Tryz.func78,Tryz.ntmps78
    go_wp2_with fail
    refine A1.out.mono ?_;rintro e w5 ⟨rfl,hb5⟩
    have HB5:=Lib.hid hb5
    clear hb5
    go_wp2_with fail
    refine (A2.out _).mono ?_;rintro e w7 ⟨rfl,hb7⟩
    have HB7:=Lib.hid (Below.step (Below.step HB5.out (below_a w5 _)) hb7)
    clear hb7
    go_wp2_with fail
    refine (change_at id ((wghX k) y) y _ (HIN.out.below (Below.step HB7.out (below_a w7 _))) HID.out HX.out HM.out).mono ?_;rintro e w8 ⟨rfl,hA8⟩
    have HA8:=Lib.hid hA8
    clear hA8
    go_wp2_with fail
    go_ret
    rw [E.out,EB.out.1,EB.out.2]
    obtain ⟨F8,h8,s8⟩:=HA8.out
    exact ⟨rfl,F8,h8,(Step.of (Below.step HB7.out (below_a w7 _))).trans s8⟩
  ·cases hm:entM M id with
   | none =>
    rw [hm] at A1
    have E:=Lib.hid (show chC (decide (wgOk k)) n M id=2 by unfold chC;rw [hv,decide_eq_false ht];rfl)
    have EB:=Lib.hid (ch_no E.out (by decide) (wghX k) fl)
    have A2:=Lib.hid fun W=>ANY.out 0 0 1 W (by unfold Ch.Fits;omega) (fun q=>ht q.2)
    clear hids hok ht
    go_enter Tryz.func78,Tryz.ntmps78
    go_wp2_with fail
    refine A1.out.mono ?_;rintro e w5 ⟨rfl,hb5⟩
    have HB5:=Lib.hid hb5
    clear hb5
    go_wp2_with fail
    refine (A2.out _).mono ?_;rintro e w7 ⟨rfl,hb7⟩
    have HB7:=Lib.hid (Below.step (Below.step HB5.out (below_a w5 _)) hb7)
    clear hb7
    go_wp2_with fail
    go_ret
    rw [E.out,EB.out.1,EB.out.2]
    exact ⟨rfl,QAfter.same HIN.out (Below.step HB7.out (below_a _ _))⟩
   | some y =>
    rw [hm] at A1
    have E:=Lib.hid (show chC (decide (wgOk k)) n M id=2 by unfold chC;rw [hv,decide_eq_false ht];rfl)
    have EB:=Lib.hid (ch_no E.out (by decide) (wghX k) fl)
    have hy:Ch.Ok y.1 y.2.1 y.2.2:=hok.ok _ ((ent_some hok.nod).1 hm)
    have A2:=Lib.hid fun W=>ANY.out y.1 y.2.1 y.2.2 W (by unfold Ch.Ok at hy;unfold Ch.Fits;omega) (fun q=>ht q.2)
    clear hids hok ht hy hm
    go_enter Tryz.func78,Tryz.ntmps78
    go_wp2_with fail
    refine A1.out.mono ?_;rintro e w5 ⟨rfl,hb5⟩
    have HB5:=Lib.hid hb5
    clear hb5
    go_wp2_with fail
    refine (A2.out _).mono ?_;rintro e w7 ⟨rfl,hb7⟩
    have HB7:=Lib.hid (Below.step (Below.step HB5.out (below_a w5 _)) hb7)
    clear hb7
    go_wp2_with fail
    go_ret
    rw [E.out,EB.out.1,EB.out.2]
    exact ⟨rfl,QAfter.same HIN.out (Below.step HB7.out (below_a _ _))⟩
theorem Floor_at {q:Nat} {F:List Nat} {n:Int} {M:Mems} {fl:Int} (w:World) (h:QIn w q F n M fl):Calls Tryz.prog 54 #[.pointer (some ⟨q,0,none⟩)] w fun e w'=>e=.returned (.int .u64 fl)∧w=w':=by
 obtain ⟨p,bm,Fh,f,hr,rfl,hfe,hok,hf0,hf1⟩:=h
 have A1:=Lib.hid (qsome_at q n w hr.c1 hr.pos)
 have c3:=hr.c3
 clear hr hfe hok hf0 hf1
 go_enter Tryz.func54,Tryz.ntmps54
 go_wp2_with fail
 refine A1.out.mono ?_;rintro e w5 ⟨rfl,rfl⟩
 go_wp2_with fail
 go_ret
 exact ⟨rfl,rfl⟩
theorem Load_at {q:Nat} {F:List Nat} {n:Int} {M:Mems} {fl:Int} (w:World) (h:QIn w q F n M fl):Calls Tryz.prog 42 #[.pointer (some ⟨q,0,none⟩)] w fun e w'=>e=.returned (.int .i64 (loadM M))∧w=w':=by
 obtain ⟨p,bm,Fh,f,hr,rfl,hfe,hok,hf0,hf1⟩:=h
 have A1:=Lib.hid (qsome_at q n w hr.c1 hr.pos)
 have c4:=hr.c4
 clear hr hfe hok hf0 hf1
 go_enter Tryz.func42,Tryz.ntmps42
 go_wp2_with fail
 refine A1.out.mono ?_;rintro e w5 ⟨rfl,rfl⟩
 go_wp2_with fail
 go_ret
 exact ⟨rfl,rfl⟩
theorem Raise_at {q:Nat} {F:List Nat} {n:Int} {M:Mems} {fl:Int} (x:Int) (w:World) (h:QIn w q F n M fl) (hx:0≤x∧x≤18446744073709551615):Calls Tryz.prog 80 #[.pointer (some ⟨q,0,none⟩),.int .u64 x] w (QDid w q F n (.int .i64 0) M (max fl x)):=by
 obtain ⟨p,bm,Fh,f,hr,rfl,hfe,hok,hf0,hf1⟩:=h
 have A1:=Lib.hid (qsome_at q n w hr.c1 hr.pos)
 have c3:=hr.c3
 have f3:=hr.fr 3
 have HR:=Lib.hid hr
 have HK:=Lib.hid (And.intro hfe (And.intro hok (And.intro hf0 hf1)))
 clear hr hfe hok hf0 hf1
 go_enter Tryz.func80,Tryz.ntmps80
 go_wp2_with fail
 refine A1.out.mono ?_;rintro e w5 ⟨rfl,rfl⟩
 go_wp2_with fail
 go_ret
 obtain ⟨h1,h2⟩:=HR.out.floored (max fl x)
 exact ⟨rfl,q::bm::Fh,⟨p,bm,Fh,f,h1,rfl,HK.out.1,HK.out.2.1,by have:=HK.out.2.2;omega,by have:=HK.out.2.2;omega⟩,Step.inn h2 (fun b hb=>by simp at hb;simp [hb])⟩
theorem Len_at' {q:Nat} {F:List Nat} {n:Int} {M:Mems} {fl:Int} (w:World) (h:QIn w q F n M fl):Calls Tryz.prog 43 #[.pointer (some ⟨q,0,none⟩)] w fun e w'=>e=.returned (.int .i64 M.length)∧w=w':=by
 obtain ⟨p,bm,Fh,f,hr,rfl,hfe,hok,hf0,hf1⟩:=h
 have A1:=Lib.hid (qsome_at q n w hr.c1 hr.pos)
 have c2:=hr.c2
 have hln:=MapG.len (enc:=encE) (dat:=datE) (R:=readE) (ok:=fun _=>True) undE hr.map 3
 clear hr hfe hok hf0 hf1
 go_enter Tryz.func43,Tryz.ntmps43
 go_wp2_with fail
 refine A1.out.mono ?_;rintro e w5 ⟨rfl,rfl⟩
 go_wp2_with fail
 go_ret
 exact ⟨rfl,rfl⟩
def firstI (M:Mems):Int:=match M with | []=>0 | x::_=>x.1
theorem First_at {q:Nat} {F:List Nat} {n:Int} {M:Mems} {fl:Int} (w:World) (h:QIn w q F n M fl):Calls Tryz.prog 81 #[.pointer (some ⟨q,0,none⟩)] w fun e w'=>e=.returned (.tuple #[.int .i64 (firstI M),.bool (!M.isEmpty)])∧Below w.heap.size w w':=by
 obtain ⟨p,bm,Fh,f,hr,rfl,hfe,hok,hf0,hf1⟩:=h
 have A1:=Lib.hid (qsome_at q n w hr.c1 hr.pos)
 have c0:=hr.c0
 have A2:=Lib.hid (Least_at w hr.heap)
 clear hr hfe hok hf0 hf1
 cases M with
 | nil =>
  go_enter Tryz.func81,Tryz.ntmps81
  go_wp2_with fail
  refine A1.out.mono ?_;rintro e w5 ⟨rfl,rfl⟩
  go_wp2_with fail
  refine A2.out.mono ?_;rintro e w6 ⟨rfl,hg6⟩
  rw [show leastV (itemsM [])=.tuple #[.agg #[.int .i64 0,.int .u64 0],.bool false] from rfl]
  have HB:=Lib.hid hg6.below
  clear hg6
  go_wp2_with fail
  refine bodyPost_ret (v:=.tuple #[.int .i64 0,.bool false]) (by simp [results,Tryz.results81,go_sem]) rfl ⟨rfl,?_⟩
  exact Below.step HB.out (below_a _ _)
 | cons x r =>
  go_enter Tryz.func81,Tryz.ntmps81
  go_wp2_with fail
  refine A1.out.mono ?_;rintro e w5 ⟨rfl,rfl⟩
  go_wp2_with fail
  refine A2.out.mono ?_;rintro e w6 ⟨rfl,hg6⟩
  rw [show leastV (itemsM (x::r))=.tuple #[.agg #[.int .i64 x.1,.int .u64 x.2.1],.bool true] from rfl]
  have HB:=Lib.hid hg6.below
  clear hg6
  go_wp2_with fail
  refine bodyPost_ret (v:=.tuple #[.int .i64 x.1,.bool true]) (by simp [results,Tryz.results81,go_sem]) rfl ⟨rfl,?_⟩
  exact Below.step HB.out (below_a _ _)
def getE (M:Mems) (id:Int):Ent:=(entM M id).getD (0,0,0)
theorem Get_at {q:Nat} {F:List Nat} {n:Int} {M:Mems} {fl:Int} (id:Int) (w:World) (h:QIn w q F n M fl) (hid:(Lit.int .i64 id).wf=true):Calls Tryz.prog 44 #[.pointer (some ⟨q,0,none⟩),.int .i64 id] w fun e w'=>e=.returned (.tuple #[.agg #[.int .u64 (getE M id).1,.int .u32 (getE M id).2.1,.int .u32 (getE M id).2.2],.bool (entM M id).isSome])∧Below w.heap.size w w':=by
 have hids:=h.ids
 obtain ⟨p,bm,Fh,f,hr,rfl,hfe,hok,hf0,hf1⟩:=h
 obtain ⟨W0,hW0⟩:∃ W0,W0=w.alloc (.cells #[.int .u64 0,.int .u32 0,.int .u32 0] 40):=⟨_,rfl⟩
 have HB0:=Lib.hid (show Below w.heap.size w W0 by rw [hW0];exact below_a _ _)
 have z0:W0.cell? ⟨w.heap.size,0,none⟩=some (.int .u64 0):=by rw [hW0];exact cell_nw _ _ _ 0 _ rfl
 have z1:W0.cell? ⟨w.heap.size,1,none⟩=some (.int .u32 0):=by rw [hW0];exact cell_nw _ _ _ 1 _ rfl
 have z2:W0.cell? ⟨w.heap.size,2,none⟩=some (.int .u32 0):=by rw [hW0];exact cell_nw _ _ _ 2 _ rfl
 have g0:W0.frozen? ⟨w.heap.size,0,none⟩=false:=by rw [hW0];exact frz_nw _ _ _ 0
 have g1:W0.frozen? ⟨w.heap.size,1,none⟩=false:=by rw [hW0];exact frz_nw _ _ _ 1
 have g2:W0.frozen? ⟨w.heap.size,2,none⟩=false:=by rw [hW0];exact frz_nw _ _ _ 2
 have HW0:=Lib.hid hW0
 have A1:=Lib.hid (qfind_at id W0 (hr.below HB0.out) hid)
 obtain ⟨x,c,hx,hc,hA⟩:∃ (x:Ent) (c:Int),getE M id=x∧(entM M id).isSome=(c == 0)∧qfindV n f id=(x,c):=by
  unfold qfindV
  rw [hfe]
  cases hm:entM M id with
  | some y =>
   have hv:hasV n id=true:=hasV_iff.2 (hids.2.1 _ ((ent_some hids.1.nod).1 hm))
   rw [hv,if_pos rfl]
   exact ⟨y,0,by unfold getE;rw [hm];rfl,rfl,rfl⟩
  | none =>
   by_cases hv:hasV n id=true
   ·rw [if_pos hv];exact ⟨(0,0,0),6,by unfold getE;rw [hm];rfl,rfl,rfl⟩
   ·rw [if_neg hv];exact ⟨(0,0,0),2,by unfold getE;rw [hm];rfl,rfl,rfl⟩
 rw [hA] at A1
 rw [hx,hc]
 clear hx hc hA hr hfe hok hf0 hf1 hids hW0
 go_enter Tryz.func44,Tryz.ntmps44
 go_wp2_with fail
 rw [← HW0.out]
 refine A1.out.mono ?_;rintro e w5 ⟨rfl,hb5⟩
 replace g0:=frz_later (Below.step hb5 (below_a w5 (.cells #[.int .u64 x.1,.int .u32 x.2.1,.int .u32 x.2.2] 40))) g0 (lt_of_cell z0)
 replace z0:=cell_al (.cells #[.int .u64 x.1,.int .u32 x.2.1,.int .u32 x.2.2] 40) (cell_later hb5 z0)
 replace g1:=frz_later (Below.step hb5 (below_a w5 (.cells #[.int .u64 x.1,.int .u32 x.2.1,.int .u32 x.2.2] 40))) g1 (lt_of_cell z1)
 replace z1:=cell_al (.cells #[.int .u64 x.1,.int .u32 x.2.1,.int .u32 x.2.2] 40) (cell_later hb5 z1)
 replace g2:=frz_later (Below.step hb5 (below_a w5 (.cells #[.int .u64 x.1,.int .u32 x.2.1,.int .u32 x.2.2] 40))) g2 (lt_of_cell z2)
 replace z2:=cell_al (.cells #[.int .u64 x.1,.int .u32 x.2.1,.int .u32 x.2.2] 40) (cell_later hb5 z2)
 have HB5:=Lib.hid (Below.step (Below.step HB0.out hb5) (below_a w5 (.cells #[.int .u64 x.1,.int .u32 x.2.1,.int .u32 x.2.2] 40)))
 clear hb5
 go_wp2_with fail
 refine bodyPost_ret (v:=.tuple #[.agg #[.int .u64 x.1,.int .u32 x.2.1,.int .u32 x.2.2],.bool (c == 0)]) (by simp [results,Tryz.results44,go_sem, *]) rfl ⟨rfl,?_⟩
 exact (((HB5.out.setCell (Nat.le_refl _) _).setCell (Nat.le_refl _) _).setCell (Nat.le_refl _) _)
def QNewP (w:World) (n:Int) (e:Ending) (w':World):Prop:=∃ q F,e=.returned (.tuple #[.pointer (some ⟨q,0,none⟩),.int .i64 0])∧QIn w' q F n [] 0∧(∀ b∈F,w.heap.size≤b)∧Below w.heap.size w w'
set_option maxRecDepth 100000 in
set_option maxHeartbeats 1000000 in
theorem New_at (n:Int) (w:World) (h0:1≤n) (h1:n≤131072):Calls Tryz.prog 57 #[.int .i64 n] w (QNewP w n):=by
 have A1:=Lib.hid (New_in n w h0 h1)
 have z1:decide (n<1)=false:=decide_eq_false (by omega)
 have z2:decide (n > 131072)=false:=decide_eq_false (by omega)
 have z2':decide (131072<n)=false:=decide_eq_false (by omega)
 clear h0 h1
 go_enter Tryz.func57,Tryz.ntmps57
 go_wp2_with fail
 refine A1.out.mono ?_;rintro e w5 ⟨rfl,hh,hb⟩
 have HH:=Lib.hid hh
 have HB:=Lib.hid hb
 clear hh hb
 have hmm:=@run_makeMap Tryz.prog
 go_wp2_with fail
 go_ret2
 obtain ⟨W6,hW6⟩:∃ W,W=w5.alloc (.map #[] 0):=⟨_,rfl⟩
 have hb6:Below w5.heap.size w5 W6:=by rw [hW6];exact below_a _ _
 have hm6:MapE W6 w5.heap.size (fun _=>none) 0:=by rw [hW6];exact MapG.made _
 have hs6:W6.heap.size=w5.heap.size+1:=by rw [hW6];simp
 have hlt:=HH.out.lt
 rw [← hW6,← hs6]
 have hB:=Below.step (Below.step HB.out hb6) (below_a W6 (.cells #[.pointer (some ⟨w.heap.size+1,0,none⟩),.int .i64 n,.map (some w5.heap.size),.int .u64 0,.int .i64 0] 144))
 refine ⟨W6.heap.size,W6.heap.size::w5.heap.size::[w.heap.size+1,w.heap.size],rfl,⟨w.heap.size+1,w5.heap.size,[w.heap.size+1,w.heap.size],fun _=>none,⟨cell_nw _ _ _ 0 _ rfl,cell_nw _ _ _ 1 _ rfl,cell_nw _ _ _ 2 _ rfl,cell_nw _ _ _ 3 _ rfl,cell_nw _ _ _ 4 _ rfl,fun j=>frz_nw _ _ _ j,(HH.out.below hb6).below (below_a _ _),hm6.below (below_a _ _),fun m=>by have:=hlt _ m;omega,fun m=>by have:=hlt _ m;omega,by omega⟩,rfl,fun id=>rfl,⟨List.nodup_nil,List.Pairwise.nil,fun m hm=>by cases hm⟩,by omega,by omega⟩,fun b hb=>?_,hB⟩
 have h1:=HB.out.size
 simp only [List.mem_cons,List.not_mem_nil,or_false] at hb
 omega
end Go.Proofs.YtfgmglghlapbcaaGreat
namespace Go.Proofs.YtfgmglghlapbcaaGreat
open Go.RowKit Go.Maps Go.IntWalk Go.Lib Go.Sort Go.Shelf
set_option linter.unusedVariables false
set_option linter.unusedSimpArgs false
attribute [local go_sem] Oper.semAt_some
def encM (m:Int×Ent):Value:=.agg #[.int .i64 m.1,.int .u64 m.2.1,.int .u32 m.2.2.1,.int .u32 m.2.2.2]
theorem grow_below {A B:World} (h:Below A.heap.size A B):A.grownBy B none:=⟨h.os,h.tape,h.output,h.size,fun k hk _=>h.block k hk⟩
theorem mems_succ {L:Mems} {k:Nat} (hk:k<L.length):L.take (k+1)=L.take k++[L[k]!]:=by
 rw [List.take_succ_eq_append_getElem hk,getElem!_pos L k hk]
def KpI (n₀ Bq:Nat) (A B:World):Prop:=Below n₀ A B∧(∀ k i,A.cell? ⟨k,2,none⟩=some (.int .i64 i)→B.heap[k]?=A.heap[k]?)∧(Bq<A.heap.size→B.heap[Bq]?=A.heap[Bq]?)
theorem KpI.t {n₀ Bq:Nat} {A B C:World} (h:KpI n₀ Bq A B) (k:KpI n₀ Bq B C):KpI n₀ Bq A C:=
 ⟨h.1.trans k.1,fun b i hc=>by
  have e:=h.2.1 b i hc
  rw [k.2.1 b i ((World.cell?_of_block (w:=A) (w':=B) (a:=⟨b,2,none⟩) e).trans hc),e],fun hl=>(k.2.2 (Nat.lt_of_lt_of_le hl h.1.size)).trans (h.2.2 hl)⟩
theorem KpI.of {n₀ Bq:Nat} {A B:World} (h:Below A.heap.size A B) (hn:n₀≤A.heap.size):KpI n₀ Bq A B:=⟨h.mono hn,fun k i hc=>h.block k (lt_of_cell hc),fun hl=>h.block _ hl⟩
theorem below_keptL {n₀:Nat} {A B:World} (h:Below n₀ A B):Kept ((List.range A.heap.size).filter fun k=>decide (n₀≤k)) A B:=
 ⟨h.os,h.tape,h.output,h.size,fun k hk hn=>h.block k (by
  rcases Nat.lt_or_ge k n₀ with q | q
  ·exact q
  ·exact absurd (List.mem_filter.2 ⟨List.mem_range.2 hk,by simpa using q⟩) hn)⟩
theorem QRaw.belowN {w w':World} {q p bm n₀:Nat} {Fh:List Nat} {n:Int} {S:Items} {f:Int→Option Ent} {c:Nat} {fl ld:Int} (h:QRaw w q p bm Fh n S f c fl ld) (hb:Below n₀ w w') (hF:∀ b∈q::bm::Fh,b<n₀):QRaw w' q p bm Fh n S f c fl ld:=
 h.kept (below_keptL hb) (fun b hb m=>by
  have h1:=hF b hb
  have h2:=(List.mem_filter.1 m).2
  simp at h2
  omega)
def RowZ (w:World) (v:Value) (S:Items):Prop:=∃ a cap,v=.slice a S.length cap∧(S=[]∨∃ g,a=some ⟨g,0,none⟩∧∀ k,k<S.length→w.cell? ⟨g,k*2,none⟩=some (.int .i64 S[k]!.1)∧w.cell? ⟨g,k*2+1,none⟩=some (.int .u64 S[k]!.2))
theorem RowI.rowZ {w:World} {base:Nat} {v:Value} {S:Items} (h:RowI w base v S):RowZ w v S:=by
 obtain ⟨a,cap,e,h⟩:=h
 exact ⟨a,cap,e,h.imp id fun ⟨g,e,_,hc⟩=>⟨g,e,fun k hk=>(hc k hk).1⟩⟩
theorem RowZ.at {w:World} {a:Option Addr} {n c:Nat} {S:Items} (h:RowZ w (.slice a n c) S) {k:Nat} (hk:k<S.length):∃ g,a=some ⟨g,0,none⟩∧w.cell? ⟨g,k*2,none⟩=some (.int .i64 S[k]!.1)∧w.cell? ⟨g,k*2+1,none⟩=some (.int .u64 S[k]!.2):=by
 obtain ⟨a',c',e,h⟩:=h
 cases e
 obtain ⟨g,e,hc⟩:=h.resolve_left (fun q=>by rw [q] at hk;simp at hk)
 exact ⟨g,e,hc k hk⟩
theorem RowZ.later {w w':World} {v:Value} {S:Items} (h:RowZ w v S) (hb:Below w.heap.size w w'):RowZ w' v S:=by
 obtain ⟨a,cap,e,h⟩:=h
 exact ⟨a,cap,e,h.imp id fun ⟨g,e,hc⟩=>⟨g,e,fun k hk=>⟨cell_later hb (hc k hk).1,cell_later hb (hc k hk).2⟩⟩⟩
theorem RowZ.kp {n₀ Bq:Nat} {w w':World} {v:Value} {S:Items} (h:RowZ w v S) (hk:KpI n₀ Bq w w') (h2:2≤S.length):RowZ w' v S:=by
 obtain ⟨a,cap,e,h⟩:=h
 refine ⟨a,cap,e,h.imp id fun ⟨g,e,hc⟩=>?_⟩
 have hb:=hk.2.1 g _ (hc 1 (by omega)).1
 exact ⟨g,e,fun k hk=>⟨(World.cell?_of_block (w:=w) (w':=w') (a:=⟨g,k*2,none⟩) hb).trans (hc k hk).1,(World.cell?_of_block (w:=w) (w':=w') (a:=⟨g,k*2+1,none⟩) hb).trans (hc k hk).2⟩⟩
set_option maxRecDepth 100000 in
set_option maxHeartbeats 4000000 in
theorem membersF_in (n:Nat) (hn:1≤n) (l Bq n₀ q:Nat) (Fq:List Nat) (N fl:Int) (M:Mems) (hFq:∀ b∈Fq,b<n₀) (J Jx:Mems→World→Prop)
  (hY:∀ pre x W,J pre W→pre.length<M.length→YieldAt Fence.wide (n - 1) Tryz.prog l #[encM x] W fun e W' =>
   (e=.returned (.bool true)∧J (pre++[x]) W'∧KpI n₀ Bq W W')∨(e=.returned (.bool false)∧Jx (pre++[x]) W'))
  (W:World) (hQ:QIn W q Fq N M fl) (hc:W.cell? ⟨Bq,0,none⟩=some (.pointer (some ⟨q,0,none⟩))) (hn0:n₀≤W.heap.size) (hJA:∀ s A B,J s A→Below A.heap.size A B→J s B) (h0:J [] W) :
  CallsIn Fence.wide n Tryz.prog 110 #[.func (.yield l) #[] #[],.pointer (some ⟨Bq,0,none⟩)] W fun e W'=>(∃ v,e=.returned v) ∧
   ((∃ ys,ys=M∧J ys W')∨(∃ pre,pre <+: M∧Jx pre W')):=by
 have hf:Fence.wide.fn 110:=trivial
 have hro:Fence.wide.round=none:=rfl
 have HY:=Lib.hid hY
 have HQ:=Lib.hid hQ
 obtain ⟨p,bm,Fh,f,hr,rfl,hfe,hok,hf0,hf1⟩:=hQ
 have HR:=Lib.hid hr
 have HFE:=Lib.hid hfe
 have HFQ:=Lib.hid hFq
 have HJA:=Lib.hid hJA
 have HOK:=Lib.hid hok
 have H0:=Lib.hid h0
 have HC:=Lib.hid hc
 have c0:=hr.c0
 clear hY hr hfe hFq hJA hok hf0 hf1 h0
 refine callsIn_of_wp Tryz.func110 rfl hf ?_ hro
 simp only [Tryz.ntmps110,List.size_toArray,List.length_cons,List.length_nil,Nat.reduceAdd,Nat.reduceSub,Array.replicate_succ,Array.replicate_zero,List.push_toArray,List.append_toArray,List.nil_append,List.cons_append]
 gi_wp2
 refine ⟨trivial,callsIn_wide.2 ((All_at W HR.out.heap).mono ?_)⟩
 rintro e w2 ⟨v2,rfl,hr2,hb2⟩
 have HB2:=Lib.hid hb2
 have hZ:=hr2.rowZ
 obtain ⟨a,cap,rfl,-⟩:=hr2
 obtain ⟨len,hlen⟩:∃ m,m=M.length:=⟨_,rfl⟩
 have HLEN:=Lib.hid hlen
 have HZ:=Lib.hid hZ
 rw [items_len,← hlen] at HZ ⊢
 have hbq:=cell_later hb2 hc
 have hl9:len≤131072:=by rw [hlen,← items_len];have:=HR.out.heap.ids;omega
 clear hb2 c0 hlen hZ hc
 gi_wp2
 gi_loopw [12] (fun i wr=>∃ k:Nat,k≤len∧i=.int .i64 k∧J (M.take k) wr∧Below n₀ W wr∧wr.cell? ⟨Bq,0,none⟩=some (.pointer (some ⟨q,0,none⟩))∧(k<len→RowZ wr (.slice a len cap) (itemsM M))) (fun i _=>len - (intOf i).toNat)
 case atStart=>exact ⟨0,Nat.zero_le _,rfl,HJA.out _ _ _ H0.out HB2.out,HB2.out.mono hn0,hbq,fun _=>HZ.out⟩
 case round =>
  obtain ⟨k,hk,rfl,hJs,hnx,hqc,hrz⟩:=hrel
  by_cases hlt:k<len
  ·have hkI:k<(itemsM M).length:=by rw [items_len,← HLEN.out];exact hlt
   have hkM:k<M.length:=by rw [← HLEN.out];exact hlt
   have HRZ:=Lib.hid (hrz hlt)
   obtain ⟨m,hm⟩:∃ m,m=M[k]!:=⟨_,rfl⟩
   have hmm:m∈M:=by rw [hm,getElem!_pos M k hkM];exact List.getElem_mem hkM
   have hit:(itemsM M)[k]! = kM m:=by
    rw [getElem!_pos _ k hkI,hm,getElem!_pos M k hkM]
    simp [itemsM]
   obtain ⟨g,rfl,i0,i1⟩:=(hrz hlt).at hkI
   rw [hit] at i0 i1
   simp only [kM] at i0 i1
   have hz0:(0:Int)≤(k:Int):=by omega
   have hz1:(k:Int)<(len:Int):=by omega
   have HBW:=Lib.hid (show Below n₀ W (wr.alloc (.cells #[.int .i64 m.1,.int .u64 m.2.1] 173)) from hnx.alloc (Nat.le_trans hn0 hnx.size) _)
   have HNX:=Lib.hid hnx
   have HJS:=Lib.hid (HJA.out _ _ _ hJs (Below.drew (below_a wr (.cells #[.int .i64 m.1,.int .u64 m.2.1] 173))))
   have hRr:=(HR.out.belowN HBW.out HFQ.out).below (Below.refl _ _).drew
   have hwf:(Lit.int .i64 m.1).wf=true:=by
    have hb:=HR.out.heap.ids.2.2.1 (kM m) (List.mem_map.2 ⟨m,hmm,rfl⟩)
    have hn:=HR.out.heap.ids
    have hm1:(kM m).1=m.1:=rfl
    rw [hm1] at hb
    simp only [Lit.wf,IntKind.min,IntKind.max,IntKind.bits,IntKind.signed]
    simp
    omega
   have hlk:=(hRr.map.look elemE undE trivial zeroE hwf).2
   rw [HFE.out,(ent_some HOK.out.nod).2 hmm] at hlk
   simp only [Option.getD_some,encE] at hlk
   have c2:=hRr.c2
   have qc:(wr.alloc (.cells #[.int .i64 m.1,.int .u64 m.2.1] 173)).cell? ⟨Bq,0,none⟩=some (.pointer (some ⟨q,0,none⟩)):=cell_al _ hqc
   have y0:(wr.alloc (.cells #[.int .i64 m.1,.int .u64 m.2.1] 173)).cell? ⟨wr.heap.size,0,none⟩=some (.int .i64 m.1):=cell_nw wr _ _ 0 _ rfl
   obtain ⟨fn,tmps,assign,body,hy,hR⟩:=HY.out _ m _ HJS.out (by rw [List.length_take];omega)
   dsimp only [encM] at hy
   have HM:=Lib.hid hm
   have HRY:=Lib.hid (hR.mono (R':=fun e W'=>∃ bb,e=.returned (.bool bb)∧((bb=true∧J (M.take k++[m]) W'∧KpI n₀ Bq (wr.alloc (.cells #[.int .i64 m.1,.int .u64 m.2.1] 173)).drew W')∨(bb=false∧Jx (M.take k++[m]) W')))
    (fun e W' h=>by
     rcases h with ⟨rfl,h1,h2⟩ | ⟨rfl,h1⟩
     ·exact ⟨true,rfl,Or.inl ⟨rfl,h1,h2⟩⟩
     ·exact ⟨false,rfl,Or.inr ⟨rfl,h1⟩⟩))
   have HKM:=Lib.hid hkM
   have HWA:=Lib.hid (below_a wr (.cells #[.int .i64 m.1,.int .u64 m.2.1] 173))
   clear hJs hnx hrz hRr hwf hR hm hmm hit hkM
   gi_wp2
   generalize wr.alloc (.cells #[.int .i64 m.1,.int .u64 m.2.1] 173)=wa at *
   have HKA:=Lib.hid (show Below wr.heap.size wr wa.drew from HWA.out.drew)
   have HLN:=Lib.hid hkI
   gi_region_with (refine HRY.out.mono ?_;rintro e W3 ⟨bb,rfl,h3⟩)
   all_goals
    simp only [Act.put,List.getElem_toArray,List.getElem_cons_succ,List.getElem_cons_zero,List.setIfInBounds_toArray,List.set_cons_zero,List.set_cons_succ,Bool.not_true,Bool.not_false]
    rcases h3 with ⟨rfl,h1,h2⟩ | ⟨rfl,h1⟩
    ·gi_wp2
     go_roundw
     case rel=>exact ⟨k+1,by omega,by go_num,by rw [mems_succ HKM.out,← HM.out];exact h1,HBW.out.trans ((Below.refl n₀ wa).drew.trans h2.1),(World.cell?_of_block (w:=wa.drew) (w':=W3) (a:=⟨Bq,0,none⟩) (h2.2.2 (lt_of_cell (cell_dr qc)))).trans (cell_dr qc),fun hk1=>(HRZ.out.later HKA.out).kp h2 (by rw [items_len,← HLEN.out];omega)⟩
     case measure=>simp [intOf];omega
    ·gi_wp2
     refine bodyPost_ret (results_none rfl _ _ _) rfl ?_
     exact ⟨⟨_,rfl⟩,.inr ⟨_,by rw [HM.out,← mems_succ HKM.out];exact List.take_prefix _ _,h1⟩⟩
  ·obtain rfl:k=len:=by omega
   gi_wp2
   go_end0
   exact ⟨⟨_,rfl⟩,.inl ⟨_,by rw [HLEN.out,List.take_length],hJs⟩⟩
attribute [local go_sem] Oper.semAt_some
def encMs (m:Int×Ent):List Value:=[.int .i64 m.1,.int .u64 m.2.1,.int .u32 m.2.2.1,.int .u32 m.2.2.2]
theorem encMs_ok:Enc encMs 4:=⟨fun _=>rfl,fun x u hu=>by simp [encMs] at hu;rcases hu with rfl | rfl | rfl | rfl <;> rfl,by decide⟩
theorem infoMember:(Tryz.prog.info? 106).map (fun i=>(i.zero,i.size,i.bytes))=some (some (.agg #[.int .i64 0,.int .u64 0,.int .u32 0,.int .u32 0]),4,24):=by kernel_rfl
theorem members_at (q:Addr) (w:World):Calls Tryz.prog 84 #[.pointer (some q)] w fun e w'=>e=.returned (.func (.func 110) #[] #[.pointer (some ⟨w.heap.size,0,none⟩)])∧w'=w.alloc (.cells #[.pointer (some q)] 99):=by
 go_enter Tryz.func84,Tryz.ntmps84
 go_wp2
 go_ret
 exact ⟨rfl,rfl⟩
theorem own_flatM {n₀ B:Nat}:Own (fun (pre:Mems) W=>∃ v,Boxed W B 103 v∧W.ownsRow n₀ 106 4 v pre.length (flatR encMs pre)∧(pre=[]→v=.slice none 0 0)):=
 holdsRow_own n₀ B 103 106 4 (fun pre=>pre.length) (flatR encMs) (fun pre v=>pre=[]→v=.slice none 0 0)
def QAllP (w:World) (M:Mems) (e:Ending) (W':World):Prop:=∃ v,e=.returned v∧W'.ownsRow w.heap.size 106 4 v M.length (flatR encMs M)∧Below w.heap.size w W'
theorem kpi_t {n₀ Bq:Nat} {A B C:World} (h:KpI n₀ Bq A B) (k:KpI n₀ Bq B C):KpI n₀ Bq A C:=h.t k
theorem kpi_b {n₀ Bq:Nat} {w:World} (hn:n₀≤w.heap.size) (hb:Bq<w.heap.size) (W:World) (l:Nat) (o o':Obj) (hl:w.heap.size≤l) (h:W.heap[l]?=some o) (hc:o.isCells=false) (hw:o.isWalk=false):KpI n₀ Bq W (W.putObj l o'):=by
 have hg:=grownBy_putObj' W l o'
 refine ⟨belowK_b hn W l o o' hl h hc hw,fun k i hk=>?_,fun hl'=>hg.block _ hl' (fun e=>by cases e;omega)⟩
 refine hg.block k (lt_of_cell hk) (fun e=>?_)
 cases e
 obtain ⟨o2,h2,h3⟩:=cells_of_cell hk
 rw [show W.heap[l]?=some o from h] at h2
 cases h2
 rw [hc] at h3
 cases h3
theorem members_stops (n:Nat) (hn:1≤n) (Bq n₀ q:Nat) (Fq:List Nat) (N fl:Int) (M:Mems) (hFq:∀ b∈Fq,b<n₀) (w:World) (hQ:QIn w q Fq N M fl) (hc:w.cell? ⟨Bq,0,none⟩=some (.pointer (some ⟨q,0,none⟩))) (hn0:n₀≤w.heap.size) :
  SeqStopsK Fence.wide n Tryz.prog 110 #[.pointer (some ⟨Bq,0,none⟩)] (fun m:Int×Ent=>#[encM m]) (KpI n₀ Bq) (fun ys=>ys=M) (fun pre=>pre <+: M) M.length w:=fun l J Jx W hW hJ _ hY h0 =>
 membersF_in n hn l Bq n₀ q Fq N fl M hFq J Jx hY W (hQ.below hW) (cell_later hW hc) (Nat.le_trans hn0 hW.size) (fun s A B h hb=>hJ s A B none h (grow_below hb) (fun r e=>by cases e)) h0
def QBox (w:World) (m:Int×Ent) (q Bq:Nat) (a':Act) (W:World):Prop:=∃ Bx,(w.heap.size<Bx∧W.cell? ⟨Bx,0,none⟩=some (.int .i64 m.1)∧W.cell? ⟨Bx,1,none⟩=some (.int .u64 m.2.1)∧W.cell? ⟨Bx,2,none⟩=some (.int .u32 m.2.2.1)∧W.cell? ⟨Bx,3,none⟩=some (.int .u32 m.2.2.2)) ∧
 a'={ tmps:=#[.pointer (some ⟨q,0,none⟩),undef,.slice none 0 0,.pointer (some ⟨w.heap.size,0,none⟩),.pointer (some ⟨Bx,0,none⟩),.pointer (some ⟨q,0,none⟩),.bool true,.bool false,.pointer (some ⟨q,0,none⟩),.func (.func 110) #[] #[.pointer (some ⟨Bq,0,none⟩)],encM m,undef,undef,undef,undef,undef],defers:=[] }
set_option maxRecDepth 100000 in
set_option maxHeartbeats 4000000 in
theorem QAll_at {q:Nat} {F:List Nat} {n:Int} {M:Mems} {fl:Int} (w:World) (h:QIn w q F n M fl) :
  Calls Tryz.prog 46 #[.pointer (some ⟨q,0,none⟩)] w (QAllP w M):=by
 obtain ⟨i0,hi,hz0,hz1,hz2⟩:=info_parts infoMember
 refine (callsIn_wide (n:=3)).1 ?_
 have hf:Fence.wide.fn 46:=trivial
 have hro:Fence.wide.round=none:=rfl
 have HQ:=Lib.hid h
 have hlen:M.length≤131072:=by have:=h.ids;omega
 have A1:=Lib.hid (show Calls Tryz.prog 82 #[.pointer (some ⟨q,0,none⟩)] w fun e w'=>e=.returned (.bool true)∧w=w' by
  obtain ⟨p,bm,Fh,f,hr,rfl,_⟩:=h
  exact qsome_at q n w hr.c1 hr.pos)
 clear h
 refine callsIn_of_wp_marks Tryz.func46 rfl hf ?_ hro
 simp only [Tryz.ntmps46,List.size_toArray,List.length_cons,List.length_nil,Nat.reduceAdd,Nat.reduceSub,Array.replicate_succ,Array.replicate_zero,List.push_toArray,List.append_toArray,List.nil_append,List.cons_append]
 gi_wp2
 refine ⟨trivial,callsIn_wide.2 (A1.out.mono ?_)⟩
 rintro e w1 ⟨rfl,rfl⟩
 gi_wp2
 refine ⟨trivial,callsIn_wide.2 ((members_at ⟨q,0,none⟩ _).mono ?_)⟩
 rintro e w2 ⟨rfl,rfl⟩
 gi_wp2
 have bO:=(Boxed.new w 103 (.slice none 0 0)).alloc (.cells #[.pointer (some ⟨q,0,none⟩)] 99)
 obtain ⟨W0,hW0⟩:∃ W0,W0=(w.alloc (.cells #[.slice none 0 0] 103)).alloc (.cells #[.pointer (some ⟨q,0,none⟩)] 99):=⟨_,rfl⟩
 have hB0:Below w.heap.size w W0:=by rw [hW0];exact Below.allocS (Below.allocS (Below.refl _ _) _) _
 have hsz:W0.heap.size=w.heap.size+2:=by rw [hW0];simp
 have hbq:W0.cell? ⟨w.heap.size+1,0,none⟩=some (.pointer (some ⟨q,0,none⟩)):=by rw [hW0];exact cell_nwE (by simp) _ _ 0 _ rfl
 rw [← hW0] at bO ⊢
 clear hW0
 have hpk:∀ (s:Mems) (X Y:World) (row:Option Nat),X.cell? ⟨w.heap.size+1,0,none⟩=some (.pointer (some ⟨q,0,none⟩))→X.grownBy Y row→(∀ r,row=some r→W0.heap.size≤r∧∃ o:Obj,X.heap[r]?=some o∧o.isCells=false)→Y.cell? ⟨w.heap.size+1,0,none⟩=some (.pointer (some ⟨q,0,none⟩)):=fun s X Y row hs hg hr=>cell_kept hs hg (fun r e=>(hr r e).2)
 refine wpIn_rangeFunc_ownH hro (by decide) (gf:=110) (lb:=#[.pointer (some ⟨w.heap.size+1,0,none⟩)]) rfl trivial (enters_of Tryz.func110 (by kernel_rfl) rfl)
  (members_stops (3 - 1) (by decide) (w.heap.size+1) w.heap.size q F n fl M HQ.out.lt W0 (HQ.out.below hB0) hbq (by omega)) kpi_t (kpi_b (by omega) (by omega)) (Below.refl _ _) (fun _=>rfl)
  (fun pre W=>((∃ v,Boxed W w.heap.size 103 v∧W.ownsRow w.heap.size 106 4 v pre.length (flatR encMs pre)∧(pre=[]→v=.slice none 0 0))∧Below w.heap.size w W)∧W.cell? ⟨w.heap.size+1,0,none⟩=some (.pointer (some ⟨q,0,none⟩)))
  (fun _ _ _=>False)
  (OwnFrom.and (OwnFrom.and (Own.from own_flatM _) (ownFrom_below (Nat.le_refl _) (by omega))) hpk)
  (fun _ _ _ _ _ hs _ _=>hs)
  ⟨⟨⟨_,bO,World.ownsRow_nil _ _ _ _,fun _=>rfl⟩,hB0⟩,hbq⟩
  (fun x a' W=>QBox w x q (w.heap.size+1) a' W)
  (fun x a' s X Y row hs hg hr=>by
   obtain ⟨Bx,⟨h1,h2,h3,h4,h5⟩,h6⟩:=hs
   exact ⟨Bx,⟨h1,cell_kept h2 hg (fun r e=>(hr r e).2),cell_kept h3 hg (fun r e=>(hr r e).2),cell_kept h4 hg (fun r e=>(hr r e).2),cell_kept h5 hg (fun r e=>(hr r e).2)⟩,h6⟩)
  ?assign ?body ?done ?stop
 case assign =>
  rintro l pre x W K ⟨⟨⟨v,hv,hrow,hnil⟩,hB⟩,hq⟩ hK
  dsimp only [encM]
  gi_wp2
  refine hK _ _ ((KeepsOthers.alloc _ _).from _) (KpI.of (below_a W _) hB.size) ⟨⟨⟨v,hv.alloc _,hrow.alloc _,hnil⟩,hB.alloc hB.size _⟩,cell_al _ hq⟩ ⟨W.heap.size,⟨hv.lt,cell_nw _ _ _ 0 _ rfl,cell_nw _ _ _ 1 _ rfl,cell_nw _ _ _ 2 _ rfl,cell_nw _ _ _ 3 _ rfl⟩,rfl⟩
 case body =>
  rintro l pre x a' W hl hr ⟨⟨⟨v,hv,hrow,hnil⟩,hB⟩,hq⟩ ⟨Bx,⟨x0,x1,x2,x3,x4⟩,rfl⟩ hlt
  have hc:=hv.cell
  have hpl:pre.length≤131072:=by omega
  gi_wp2_with (gi_at_builtin;refine wpListIn_append_own _ rfl _ _ 103 rfl w.heap.size 106 i0 (.agg #[.int .i64 0,.int .u64 0,.int .u32 0,.int .u32 0]) 4 24 Tryz.underlying103 hi hz0 hz1 hz2 rfl (by decide) _ _ _ rfl (hrow.alloc _) ⟨W.heap.size,0,none⟩ 1 1 (encMs x) rfl rfl ?c1 (encMs_ok.one x) (by unfold maxLen;omega) (by omega) (by have:=hB.size;simp;omega) ?_)
  case c1 =>
   intro j u hj
   rw [addr_add,Nat.zero_add]
   exact cell_nw _ _ _ _ _ (by simpa [encMs] using hj)
  intro v' w1 hown' hgrow _
  obtain ⟨g',cap',rfl⟩:=ownsRow_succ hown'
  obtain ⟨hv1,hv2,hr2,hk2,hb2⟩:=hv.appended (by decide) hrow hB.size (Nat.le_refl _) hown' hgrow
  have hc1:=hv1.cell
  have hf1:=hv1.frozen
  gi_wp2
  have hkeep:∀ k,k<W.heap.size→k≠w.heap.size→some k≠v.ownBlock→(w1.setCell ⟨w.heap.size,0,none⟩ (.slice (some ⟨g',0,none⟩) (pre.length+1) cap')).heap[k]?=W.heap[k]?:=fun k hk h1 h2=>by
   rw [heap_set_ne h1,hgrow.block k (by simp;omega) h2]
   exact Below.heap_alloc _ _ _ (by omega)
  have hcells:∀ k,some k=v.ownBlock→(∃ i,W.cell? ⟨k,0,none⟩=some (.int .i64 i))∧∃ i,W.cell? ⟨k,2,none⟩=some (.int .u32 i):=fun k hk=>by
   cases pre with
   | nil=>rw [hnil rfl] at hk;cases hk
   | cons y r =>
    rcases hrow.2 with ⟨rfl,_⟩ | ⟨g,cap,cur,rfl,_⟩
    ·cases hk
    ·cases hk
     exact ⟨⟨y.1,(hrow.cellAt 0 (by simp)).trans rfl⟩,⟨y.2.2.1,(hrow.cellAt 2 (by simp;omega)).trans rfl⟩⟩
  have hkp:KpI w.heap.size (w.heap.size+1) W (w1.setCell ⟨w.heap.size,0,none⟩ (.slice (some ⟨g',0,none⟩) (pre.length+1) cap')):=by
   refine ⟨hb2,fun k i hk=>hkeep k (lt_of_cell hk) (fun e=>?_) (fun e=>?_),fun hl=>hkeep _ hl (by omega) (fun e=>?_)⟩
   ·subst e
    have:W.cell? ⟨w.heap.size,2,none⟩=none:=by
     unfold World.cell?
     rw [show W.heap[w.heap.size]?=_ from hv]
     rfl
    rw [this] at hk
    cases hk
   ·obtain ⟨_,j,hj⟩:=hcells k e
    rw [hj] at hk
    cases hk
   ·obtain ⟨⟨j,hj⟩,_⟩:=hcells _ e
    rw [hj] at hq
    cases hq
  refine ⟨hk2.from _,hkp,⟨⟨_,hv2,?_,fun e=>by simp at e⟩,hB.trans hb2⟩,?_⟩
  ·rw [flatR_app,List.length_append]
   have e:flatR encMs [x]=encMs x:=by simp [flatR]
   rw [e]
   exact hr2
  ·exact (World.cell?_of_block (w:=W) (a:=⟨w.heap.size+1,0,none⟩) (hkp.2.2 (lt_of_cell hq))).trans hq
 case done =>
  rintro D ys W hD rfl ⟨⟨⟨v,hv,hrow,_⟩,hB⟩,_⟩ hK
  have hc:=hv.cell
  gi_wp2
  refine ⟨by simp,.inl ⟨_,_,rfl,run_takeDeferred hK,?_⟩⟩
  exact ⟨_,results_tmp rfl _ _ _,v,rfl,ownsRow_putObj hrow _ hK rfl,hB.trans (belowK_b (w:=w) (Nat.le_refl _) W D _ _ (by omega) hK rfl rfl)⟩
 case stop =>
  rintro D c pre W _ _ h _
  exact h.elim
end Go.Proofs.YtfgmglghlapbcaaGreat
