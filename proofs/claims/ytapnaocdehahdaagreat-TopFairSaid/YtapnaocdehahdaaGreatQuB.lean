/-
  Layer 24 (queue): change.
-/
import Derived.Test.YtapnaocdehahdaaGreatQuA
namespace Go.Proofs.YtapnaocdehahdaaGreat
open Go.RowKit Go.Maps Go.IntWalk Go.Lib
set_option linter.unusedVariables false
set_option linter.unusedSimpArgs false
@[go_sem] theorem run_field_ent2 (a b c:Value) (w:World):Sem.run Tryz.prog (Instr.field 107 (.agg #[a,b,c]) 2) w=.ok c w:=by kernel_rfl
def chM (M:Mems) (id:Int) (x:Ent):Mems:=putM (outM M id) (id,x)
theorem ch_none {M:Mems} (hn:(M.map Prod.fst).Nodup) (id:Int):entM (outM M id) id=none:=by rw [ent_out hn,if_pos rfl]
theorem ch_ent {M:Mems} (hn:(M.map Prod.fst).Nodup) (id:Int) (x:Ent) (j:Int):entM (chM M id x) j=if j=id then some x else entM M j:=by
 unfold chM
 rw [ent_put (out_nodup hn id) (ch_none hn id),ent_out hn]
 by_cases e:j=id
 ·rw [if_pos e,if_pos e]
 ·rw [if_neg e,if_neg e,if_neg e]
theorem ch_len {M:Mems} (hn:(M.map Prod.fst).Nodup) {id:Int} {y:Ent} (h:entM M id=some y) (x:Ent):(chM M id x).length=M.length:=by
 unfold chM;rw [put_len];exact out_len hn h
theorem ch_load {M:Mems} (hn:(M.map Prod.fst).Nodup) {id:Int} {y:Ent} (h:entM M id=some y) (x:Ent):loadM (chM M id x)=loadM M+(x.2.2 - y.2.2):=by
 unfold chM;rw [load_put,load_out hn h]
 show loadM M - y.2.2+x.2.2=_
 omega
theorem ch_mem {M:Mems} {id:Int} {x:Ent} {m:Int×Ent} (h:m∈chM M id x):m=(id,x)∨m∈M:=by
 rcases put_mem.1 h with h | h
 ·exact Or.inl h
 ·exact Or.inr (out_mem.1 h).1
theorem ch_nodup {M:Mems} (hn:(M.map Prod.fst).Nodup) (id:Int) (x:Ent):((chM M id x).map Prod.fst).Nodup:=put_nodup (out_nodup hn id) (ch_none hn id)
set_option maxRecDepth 100000 in
set_option maxHeartbeats 4000000 in
theorem change_no (q id c:Int) (q':Addr) (x:Ent) (w:World) (hc:c≠0) :
  Calls Tryz.prog 309 #[.pointer (some q'),.int .i64 id,.agg #[.int .u64 x.1,.int .u32 x.2.1,.int .u32 x.2.2],.int .i64 c] w fun e w'=>e=.returned (.int .i64 c)∧Below w.heap.size w w':=by
 have hz:(c != 0)=true:=by simpa using hc
 clear hc
 go_enter Tryz.func309,Tryz.ntmps309
 go_wp2_with fail
 go_ret
 exact ⟨rfl,below_a _ _⟩
set_option maxRecDepth 100000 in
set_option maxHeartbeats 4000000 in
theorem change_at {q:Nat} {F:List Nat} {n:Int} {M:Mems} {fl:Int} (id:Int) (x y:Ent) (w:World) (h:QIn w q F n M fl) (hid:(Lit.int .i64 id).wf=true) (hx:Ch.Ok x.1 x.2.1 x.2.2) (hm:entM M id=some y) :
  Calls Tryz.prog 309 #[.pointer (some ⟨q,0,none⟩),.int .i64 id,.agg #[.int .u64 x.1,.int .u32 x.2.1,.int .u32 x.2.2],.int .i64 0] w (QDid w q F n (.int .i64 0) (chM M id x) (riseF (itemsM (chM M id x)) fl)):=by
 have HQ:=Lib.hid h
 have hids:=h.ids
 have hv:hasV n id=true:=hasV_iff.2 (hids.2.1 _ ((ent_some hids.1.nod).1 hm))
 obtain ⟨p,bm,Fh,f,hr,rfl,hfe,hok,hf0,hf1⟩:=h
 obtain ⟨W0,hW0⟩:∃ W0,W0=w.alloc (.cells #[.int .u64 x.1,.int .u32 x.2.1,.int .u32 x.2.2] 107):=⟨_,rfl⟩
 have HB0:=Lib.hid (show Below w.heap.size w W0 by rw [hW0];exact below_a _ _)
 have x0:W0.cell? ⟨w.heap.size,0,none⟩=some (.int .u64 x.1):=by rw [hW0];exact cell_nw _ _ _ 0 _ rfl
 have x1:W0.cell? ⟨w.heap.size,1,none⟩=some (.int .u32 x.2.1):=by rw [hW0];exact cell_nw _ _ _ 1 _ rfl
 have x2:W0.cell? ⟨w.heap.size,2,none⟩=some (.int .u32 x.2.2):=by rw [hW0];exact cell_nw _ _ _ 2 _ rfl
 have HW0:=Lib.hid hW0
 have HID:=Lib.hid hid
 have HOK:=Lib.hid hok
 have HFE:=Lib.hid hfe
 have HFL:=Lib.hid (And.intro hf0 hf1)
 have HV:=Lib.hid hv
 have HM:=Lib.hid hm
 have HX:=Lib.hid hx
 have hR0:=hr.below HB0.out
 have HR0:=Lib.hid hR0
 have c2:=hR0.c2
 have c4:=hR0.c4
 have f4:=hR0.fr 4
 have hlk:=((hR0.below (Below.refl W0.heap.size W0).drew).map.look elemE undE trivial zeroE hid).2
 rw [hfe,hm] at hlk
 simp only [Option.getD_some,encE] at hlk
 have hld:=load_le hok.ok
 have hxw:=hx
 have hyw:Ch.Ok y.1 y.2.1 y.2.2:=hok.ok _ ((ent_some hok.nod).1 hm)
 unfold Ch.Ok at hxw hyw
 have hw1:IntKind.i64.wrap x.2.2=x.2.2:=IntWalk.i64_in _ (by omega)
 have hw2:IntKind.i64.wrap y.2.2=y.2.2:=IntWalk.i64_in _ (by omega)
 have hw3:IntKind.i64.wrap (x.2.2 - y.2.2)=x.2.2 - y.2.2:=IntWalk.i64_in _ (by omega)
 have hw4:IntKind.i64.wrap (loadM M+(x.2.2 - y.2.2))=loadM M+(x.2.2 - y.2.2):=IntWalk.i64_in _ (by omega)
 have hv1:wrap64 x.2.2=x.2.2:=IntWalk.wrap64_in _ (by omega)
 have hv2:wrap64 y.2.2=y.2.2:=IntWalk.wrap64_in _ (by omega)
 have hv3:wrap64 (x.2.2 - y.2.2)=x.2.2 - y.2.2:=IntWalk.wrap64_in _ (by omega)
 have hv4:wrap64 (loadM M+(x.2.2 - y.2.2))=loadM M+(x.2.2 - y.2.2):=IntWalk.wrap64_in _ (by omega)
 clear hr hW0 hid hok hfe hf0 hf1 hv hm hx hR0 hids hld hxw hyw
 go_enter Tryz.func309,Tryz.ntmps309
 go_wp2_with fail
 rw [← HW0.out]
 obtain ⟨bx,hbx⟩:∃ b,b=w.heap.size:=⟨_,rfl⟩
 rw [← hbx] at x0 x1 x2 ⊢
 have HBX:=Lib.hid hbx
 have hne:bx≠q∧bx≠bm∧bx∉Fh:=⟨fun e=>by have:=HQ.out.lt q (by simp);omega,fun e=>by have:=HQ.out.lt bm (by simp);omega,fun m=>by have:=HQ.out.lt bx (by simp [m]);omega⟩
 have HNE:=Lib.hid hne
 clear hbx hne
 go_region
 obtain ⟨hQ1,hk1⟩:=HR0.out.loaded (loadM M+(x.2.2 - y.2.2))
 have hQ1':=hQ1.below (Below.refl _ _).drew
 have hk1':=hk1.drew
 obtain ⟨W1,hW1⟩:∃ W,W=(W0.setCell ⟨q,4,none⟩ (.int .i64 (loadM M+(x.2.2 - y.2.2)))).drew:=⟨_,rfl⟩
 rw [← hW1] at hQ1' hk1' ⊢
 have HQ1:=Lib.hid hQ1'
 have HS1:=Lib.hid ((Step.of (F:=q::bm::Fh) HB0.out).trans (Step.inn (F:=q::bm::Fh) hk1' (fun b hb=>by simp at hb;simp [hb])))
 replace x0:=hk1'.cellAt x0 (by simpa using HNE.out.1)
 replace x1:=hk1'.cellAt x1 (by simpa using HNE.out.1)
 replace x2:=hk1'.cellAt x2 (by simpa using HNE.out.1)
 replace c2:=hQ1'.c2
 have hlen:M.length<maxLen:=by have:=HQ.out.ids;unfold maxLen;omega
 obtain ⟨w10,hrun,hm10,hg10⟩:=(hQ1'.map.below (Below.refl W1.heap.size W1).drew).put elemE undE hlen HID.out (p:=x) trivial
 rw [HFE.out,HM.out] at hm10
 simp only [encE] at hrun
 have HM10:=Lib.hid hm10
 have HG10:=Lib.hid hg10
 clear hQ1 hk1 hQ1' hk1' hW1 hlk hw1 hw2 hw3 hw4 hv1 hv2 hv3 hv4 c4 f4 hlen hm10 hg10
 go_wp2_with fail
 go_region
 obtain ⟨hQ10,hk10⟩:=(HQ1.out.below (Below.refl W1.heap.size W1).drew).mapped HG10.out HM10.out
 have HQ10:=Lib.hid hQ10
 have HS10:=Lib.hid (HS1.out.trans ((Step.of (Below.refl W1.heap.size W1).drew).trans (Step.inn (F:=q::bm::Fh) hk10 (fun b hb=>by simp at hb;simp [hb]))))
 replace x0:=hk10.cellAt (cell_dr x0) (by simpa using HNE.out.2.1)
 have c0:=hQ10.c0
 have nq:q∉Fh:=hQ10.nq
 have nx:bx∉Fh:=HNE.out.2.2
 have HH:=Lib.hid (show HeapIn w10.drew p Fh n (itemsM M) from hQ10.heap.below (Below.refl _ _).drew)
 have HKY:=Lib.hid (show 0≤x.1∧x.1≤18446744073709551615 by have:=HX.out;unfold Ch.Ok at this;omega)
 clear hrun hQ10 hk10 x1 x2 c2
 go_wp2_with fail
 refine startA (S:=fun w'=>Kept Fh w10 w'∧w'.cell? ⟨q,0,none⟩=some (.pointer (some ⟨p,0,none⟩))∧w'.cell? ⟨bx,0,none⟩=some (.int .u64 x.1)) ⟨Kept.refl _ _,c0,x0⟩ (fun h=>heldK_2 (kept_dr _ _) h) (fun hS0 hHeld=>?_)
 refine takeA 0 ?_
 refine takeA 1 ?_
 refine takeA 2 ?_
 refine takeA 3 ?_
 refine takeA 4 ?_
 refine takeA 5 ?_
 refine takeA 6 ?_
 refine takeA 7 ?_
 refine readyA [8] (consA (fun K hK=>?_) .nil)
 go_simp
 refine (Set_at id x.1 _ HH.out HID.out HKY.out).mono ?_
 rintro e w9 ⟨rfl,hA9⟩
 obtain ⟨Fh9,h9,s9⟩:=hA9.split
 have hk9:Kept Fh w10.drew w9:=s9.kept
 go_wp2_with fail
 refine outA hK kpK_2 (fun hHeld8=>?_)
 clear hK K
 refine doneA ?_
 skip
 have hps:setS n (itemsM M) id x.1=itemsM (chM M id x):=by
  unfold chM
  rw [items_put,items_out]
  have hr0:setRes n (itemsM M) id=0:=by unfold setRes;rw [HV.out,key_ent,HM.out];rfl
  unfold setS
  rw [if_pos hr0];rfl
 rw [hps] at h9
 have HQ9:=Lib.hid ((HQ10.out.below (Below.refl w10.heap.size w10).drew).heaped s9 h9)
 have HS9:=Lib.hid (HS10.out.trans ((Step.of (Below.refl w10.heap.size w10).drew).trans (s9.lift q bm)))
 clear hps hHeld8 hHeld hS0 hk9 hA9 h9 s9 c0 x0
 go_wp2_with fail
 refine (rise_at _ HQ9.out).mono ?_
 rintro e w12 ⟨rfl,hQ12,hk12⟩
 have HQ12:=Lib.hid hQ12
 have HS12:=Lib.hid (HS9.out.trans (Step.inn (F:=q::bm::Fh9) hk12 (fun b hb=>by simp at hb;simp [hb])))
 clear hQ12 hk12
 go_wp2_with fail
 go_ret
 refine ⟨rfl,q::bm::Fh9,⟨p,bm,Fh9,setF f id (some x),?_,rfl,fun j=>?_,?_,?_⟩,HS12.out⟩
 ·have hq:=HQ12.out
  rw [← ch_load HOK.out.nod HM.out x] at hq
  have hc:putC ((some y:Option Ent).map fun _=>(0:Int)) M.length=(chM M id x).length:=by rw [ch_len HOK.out.nod HM.out];rfl
  rw [hc] at hq
  exact hq
 ·rw [ch_ent HOK.out.nod]
  unfold setF
  rw [HFE.out]
 ·refine ⟨ch_nodup HOK.out.nod id x,HQ12.out.heap.ids.2.1,fun m hm=>?_⟩
  rcases ch_mem hm with rfl | hm
  ·exact HX.out
  ·exact HOK.out.ok m hm
 ·have h1:=HFL.out
  have h2:=HQ12.out.heap.ids.2.2.1
  unfold riseF
  split
  ·exact h1
  ·rename_i y r e
   have:=h2 y (by rw [e];simp)
   omega
def tkOk (t:Int):Prop:=0≤t∧t≤4294967295
instance (t:Int):Decidable (tkOk t):=by unfold tkOk;infer_instance
def wgOk (k:Int):Prop:=1≤k∧k≤65536
instance (t:Int):Decidable (wgOk t):=by unfold wgOk;infer_instance
def chgX (t:Int) (y:Ent):Ent:=(Ch.addV y.1 y.2.1 y.2.2 t,Ch.addR y.1 y.2.1 y.2.2 t,y.2.2)
def wghX (k:Int) (y:Ent):Ent:=(y.1,0,k)
def chC (b:Bool) (n:Int) (M:Mems) (id:Int):Int:=if hasV n id then (if b then (if (entM M id).isSome then 0 else 6) else 2) else 2
def chS (b:Bool) (n:Int) (M:Mems) (id:Int) (X:Ent→Ent):Mems:=if chC b n M id=0 then chM M id (X ((entM M id).getD (0,0,0))) else M
def chF (b:Bool) (n:Int) (M:Mems) (id:Int) (X:Ent→Ent) (fl:Int):Int:=if chC b n M id=0 then riseF (itemsM (chM M id (X ((entM M id).getD (0,0,0))))) fl else fl
theorem ch_no {b:Bool} {n:Int} {M:Mems} {id c:Int} (h:chC b n M id=c) (hc:c≠0) (X:Ent→Ent) (fl:Int):chS b n M id X=M∧chF b n M id X fl=fl:=by
 unfold chS chF
 rw [h,if_neg hc,if_neg hc]
 exact ⟨rfl,rfl⟩
theorem ch_yes {b:Bool} {n:Int} {M:Mems} {id:Int} {y:Ent} (h:chC b n M id=0) (hy:entM M id=some y) (X:Ent→Ent) (fl:Int):chS b n M id X=chM M id (X y)∧chF b n M id X fl=riseF (itemsM (chM M id (X y))) fl:=by
 unfold chS chF
 rw [h,if_pos rfl,if_pos rfl,hy]
 exact ⟨rfl,rfl⟩
theorem okC {t:Int} {y:Ent} (hy:Ch.Ok y.1 y.2.1 y.2.2) (ht:tkOk t):Ch.Ok (chgX t y).1 (chgX t y).2.1 (chgX t y).2.2:=Ch.add_ok hy ht.1
theorem okW {k:Int} {y:Ent} (hy:Ch.Ok y.1 y.2.1 y.2.2) (hk:wgOk k):Ch.Ok (wghX k y).1 (wghX k y).2.1 (wghX k y).2.2:=by
 exact ⟨hy.1,hy.2.1,Int.le_refl 0,show (0:Int)<k by have:=hk.1;omega,hk.1,hk.2,Or.inr rfl⟩
set_option maxRecDepth 100000 in
set_option maxHeartbeats 4000000 in
theorem Charge_at {q:Nat} {F:List Nat} {n:Int} {M:Mems} {fl:Int} (id t:Int) (w:World) (h:QIn w q F n M fl) (hid:(Lit.int .i64 id).wf=true) :
  Calls Tryz.prog 308 #[.pointer (some ⟨q,0,none⟩),.int .i64 id,.int .i64 t] w (QDid w q F n (.int .i64 (chC (decide (tkOk t)) n M id)) (chS (decide (tkOk t)) n M id (chgX t)) (chF (decide (tkOk t)) n M id (chgX t) fl)):=by
 have any:∀ v r c W,Ch.Fits v r c→¬ (Ch.Ok v r c∧tkOk t)→Calls Tryz.prog 158 #[.agg #[.int .u64 v,.int .u32 r,.int .u32 c],.int .i64 t] W fun e w'=>e=.returned (.tuple #[.agg #[.int .u64 0,.int .u32 0,.int .u32 0],.int .i64 2])∧Below W.heap.size W w':=fun v r c W hf h=>Add_bad v r c t W hf h
 have ok:∀ v r c W,Ch.Ok v r c→tkOk t→Calls Tryz.prog 158 #[.agg #[.int .u64 v,.int .u32 r,.int .u32 c],.int .i64 t] W fun e w'=>e=.returned (.tuple #[.agg #[.int .u64 (chgX t (v,r,c)).1,.int .u32 (chgX t (v,r,c)).2.1,.int .u32 (chgX t (v,r,c)).2.2],.int .i64 0])∧Below W.heap.size W w':=fun v r c W h ht=>Add_ok v r c t W h ht
 have okX:=@okC t
 have HQ:=Lib.hid h
 have hids:=h.ids
 have HIN:=Lib.hid h
 obtain ⟨p,bm,Fh,f,hr,rfl,hfe,hok,hf0,hf1⟩:=h
 have A1:=Lib.hid (qfind_at id w hr hid)
 have HID:=Lib.hid hid
 have HOK:=Lib.hid hok
 clear hr hf0 hf1
 unfold qfindV at A1
 rw [hfe] at A1
 clear hfe
 have ANY:=Lib.hid any
 have OK:=Lib.hid ok
 clear any ok
 cases hv:hasV n id with
 | false =>
  rw [hv] at A1
  have E:=Lib.hid (show chC (decide (tkOk t)) n M id=2 by unfold chC;rw [hv];rfl)
  have EB:=Lib.hid (ch_no E.out (by decide) (chgX t) fl)
  have A2:=Lib.hid fun W=>ANY.out 0 0 0 W (by unfold Ch.Fits;omega) (by unfold Ch.Ok;omega)
  clear hids hok
  go_enter Tryz.func308,Tryz.ntmps308
  go_wp2_with fail
  refine A1.out.mono ?_;rintro e w5 ⟨rfl,hb5⟩
  have HB5:=Lib.hid hb5
  clear hb5
  go_wp2_with fail
  refine (A2.out _).mono ?_;rintro e w7 ⟨rfl,hb7⟩
  have HB7:=Lib.hid (Below.step (Below.step HB5.out (below_a w5 _)) hb7)
  clear hb7
  go_wp2_with fail
  go_ret
  rw [E.out,EB.out.1,EB.out.2]
  exact ⟨rfl,QAfter.same HIN.out (Below.step HB7.out (below_a _ _))⟩
 | true =>
  rw [hv] at A1
  by_cases ht:(tkOk t)
  ·cases hm:entM M id with
   | none =>
    rw [hm] at A1
    have E:=Lib.hid (show chC (decide (tkOk t)) n M id=6 by unfold chC;rw [hv,hm,decide_eq_true ht];rfl)
    have EB:=Lib.hid (ch_no E.out (by decide) (chgX t) fl)
    have A2:=Lib.hid fun W=>OK.out 0 0 1 W (by unfold Ch.Ok;omega) ht
    clear hids hok ht
    go_enter Tryz.func308,Tryz.ntmps308
    go_wp2_with fail
    refine A1.out.mono ?_;rintro e w5 ⟨rfl,hb5⟩
    have HB5:=Lib.hid hb5
    clear hb5
    go_wp2_with fail
    refine (A2.out _).mono ?_;rintro e w7 ⟨rfl,hb7⟩
    have HB7:=Lib.hid (Below.step (Below.step HB5.out (below_a w5 _)) hb7)
    clear hb7
    go_wp2_with fail
    refine (change_no q id 6 _ (_,_,_) _ (by decide)).mono ?_;rintro e w8 ⟨rfl,hb8⟩
    have HB8:=Lib.hid (Below.step (Below.step HB7.out (below_a w7 _)) hb8)
    clear hb8
    go_wp2_with fail
    go_ret
    rw [E.out,EB.out.1,EB.out.2]
    exact ⟨rfl,QAfter.same HIN.out HB8.out⟩
   | some y =>
    rw [hm] at A1
    have E:=Lib.hid (show chC (decide (tkOk t)) n M id=0 by unfold chC;rw [hv,hm,decide_eq_true ht];rfl)
    have EB:=Lib.hid (ch_yes E.out hm (chgX t) fl)
    have HM:=Lib.hid hm
    have hy:Ch.Ok y.1 y.2.1 y.2.2:=hok.ok _ ((ent_some hok.nod).1 hm)
    have A2:=Lib.hid fun W=>OK.out y.1 y.2.1 y.2.2 W hy ht
    have HX:=Lib.hid (show Ch.Ok ((chgX t) y).1 ((chgX t) y).2.1 ((chgX t) y).2.2 from okX hy ht)
    clear hids hok ht hy hm
    go_enter Tryz.func308,Tryz.ntmps308
    go_wp2_with fail
    refine A1.out.mono ?_;rintro e w5 ⟨rfl,hb5⟩
    have HB5:=Lib.hid hb5
    clear hb5
    go_wp2_with fail
    refine (A2.out _).mono ?_;rintro e w7 ⟨rfl,hb7⟩
    have HB7:=Lib.hid (Below.step (Below.step HB5.out (below_a w5 _)) hb7)
    clear hb7
    go_wp2_with fail
    refine (change_at id ((chgX t) y) y _ (HIN.out.below (Below.step HB7.out (below_a w7 _))) HID.out HX.out HM.out).mono ?_;rintro e w8 ⟨rfl,hA8⟩
    have HA8:=Lib.hid hA8
    clear hA8
    go_wp2_with fail
    go_ret
    rw [E.out,EB.out.1,EB.out.2]
    obtain ⟨F8,h8,s8⟩:=HA8.out
    exact ⟨rfl,F8,h8,(Step.of (Below.step HB7.out (below_a w7 _))).trans s8⟩
  ·cases hm:entM M id with
   | none =>
    rw [hm] at A1
    have E:=Lib.hid (show chC (decide (tkOk t)) n M id=2 by unfold chC;rw [hv,decide_eq_false ht];rfl)
    have EB:=Lib.hid (ch_no E.out (by decide) (chgX t) fl)
    have A2:=Lib.hid fun W=>ANY.out 0 0 1 W (by unfold Ch.Fits;omega) (fun q=>ht q.2)
    clear hids hok ht
    go_enter Tryz.func308,Tryz.ntmps308
    go_wp2_with fail
    refine A1.out.mono ?_;rintro e w5 ⟨rfl,hb5⟩
    have HB5:=Lib.hid hb5
    clear hb5
    go_wp2_with fail
    refine (A2.out _).mono ?_;rintro e w7 ⟨rfl,hb7⟩
    have HB7:=Lib.hid (Below.step (Below.step HB5.out (below_a w5 _)) hb7)
    clear hb7
    go_wp2_with fail
    go_ret
    rw [E.out,EB.out.1,EB.out.2]
    exact ⟨rfl,QAfter.same HIN.out (Below.step HB7.out (below_a _ _))⟩
   | some y =>
    rw [hm] at A1
    have E:=Lib.hid (show chC (decide (tkOk t)) n M id=2 by unfold chC;rw [hv,decide_eq_false ht];rfl)
    have EB:=Lib.hid (ch_no E.out (by decide) (chgX t) fl)
    have hy:Ch.Ok y.1 y.2.1 y.2.2:=hok.ok _ ((ent_some hok.nod).1 hm)
    have A2:=Lib.hid fun W=>ANY.out y.1 y.2.1 y.2.2 W (by unfold Ch.Ok at hy;unfold Ch.Fits;omega) (fun q=>ht q.2)
    clear hids hok ht hy hm
    go_enter Tryz.func308,Tryz.ntmps308
    go_wp2_with fail
    refine A1.out.mono ?_;rintro e w5 ⟨rfl,hb5⟩
    have HB5:=Lib.hid hb5
    clear hb5
    go_wp2_with fail
    refine (A2.out _).mono ?_;rintro e w7 ⟨rfl,hb7⟩
    have HB7:=Lib.hid (Below.step (Below.step HB5.out (below_a w5 _)) hb7)
    clear hb7
    go_wp2_with fail
    go_ret
    rw [E.out,EB.out.1,EB.out.2]
    exact ⟨rfl,QAfter.same HIN.out (Below.step HB7.out (below_a _ _))⟩
set_option maxRecDepth 100000 in
set_option maxHeartbeats 4000000 in
theorem Weigh_at {q:Nat} {F:List Nat} {n:Int} {M:Mems} {fl:Int} (id k:Int) (w:World) (h:QIn w q F n M fl) (hid:(Lit.int .i64 id).wf=true) :
  Calls Tryz.prog 313 #[.pointer (some ⟨q,0,none⟩),.int .i64 id,.int .i64 k] w (QDid w q F n (.int .i64 (chC (decide (wgOk k)) n M id)) (chS (decide (wgOk k)) n M id (wghX k)) (chF (decide (wgOk k)) n M id (wghX k) fl)):=by
 have any:∀ v r c W,Ch.Fits v r c→¬ (Ch.Ok v r c∧wgOk k)→Calls Tryz.prog 160 #[.agg #[.int .u64 v,.int .u32 r,.int .u32 c],.int .i64 k] W fun e w'=>e=.returned (.tuple #[.agg #[.int .u64 0,.int .u32 0,.int .u32 0],.int .i64 2])∧Below W.heap.size W w':=fun v r c W hf h=>Weigh_bad v r c k W hf h
 have ok:∀ v r c W,Ch.Ok v r c→wgOk k→Calls Tryz.prog 160 #[.agg #[.int .u64 v,.int .u32 r,.int .u32 c],.int .i64 k] W fun e w'=>e=.returned (.tuple #[.agg #[.int .u64 (wghX k (v,r,c)).1,.int .u32 (wghX k (v,r,c)).2.1,.int .u32 (wghX k (v,r,c)).2.2],.int .i64 0])∧Below W.heap.size W w':=fun v r c W h ht=>Weigh_ok v r c k W h ht
 have okX:=@okW k
 have HQ:=Lib.hid h
 have hids:=h.ids
 have HIN:=Lib.hid h
 obtain ⟨p,bm,Fh,f,hr,rfl,hfe,hok,hf0,hf1⟩:=h
 have A1:=Lib.hid (qfind_at id w hr hid)
 have HID:=Lib.hid hid
 have HOK:=Lib.hid hok
 clear hr hf0 hf1
 unfold qfindV at A1
 rw [hfe] at A1
 clear hfe
 have ANY:=Lib.hid any
 have OK:=Lib.hid ok
 clear any ok
 cases hv:hasV n id with
 | false =>
  rw [hv] at A1
  have E:=Lib.hid (show chC (decide (wgOk k)) n M id=2 by unfold chC;rw [hv];rfl)
  have EB:=Lib.hid (ch_no E.out (by decide) (wghX k) fl)
  have A2:=Lib.hid fun W=>ANY.out 0 0 0 W (by unfold Ch.Fits;omega) (by unfold Ch.Ok;omega)
  clear hids hok
  go_enter Tryz.func313,Tryz.ntmps313
  go_wp2_with fail
  refine A1.out.mono ?_;rintro e w5 ⟨rfl,hb5⟩
  have HB5:=Lib.hid hb5
  clear hb5
  go_wp2_with fail
  refine (A2.out _).mono ?_;rintro e w7 ⟨rfl,hb7⟩
  have HB7:=Lib.hid (Below.step (Below.step HB5.out (below_a w5 _)) hb7)
  clear hb7
  go_wp2_with fail
  go_ret
  rw [E.out,EB.out.1,EB.out.2]
  exact ⟨rfl,QAfter.same HIN.out (Below.step HB7.out (below_a _ _))⟩
 | true =>
  rw [hv] at A1
  by_cases ht:(wgOk k)
  ·cases hm:entM M id with
   | none =>
    rw [hm] at A1
    have E:=Lib.hid (show chC (decide (wgOk k)) n M id=6 by unfold chC;rw [hv,hm,decide_eq_true ht];rfl)
    have EB:=Lib.hid (ch_no E.out (by decide) (wghX k) fl)
    have A2:=Lib.hid fun W=>OK.out 0 0 1 W (by unfold Ch.Ok;omega) ht
    clear hids hok ht
    go_enter Tryz.func313,Tryz.ntmps313
    go_wp2_with fail
    refine A1.out.mono ?_;rintro e w5 ⟨rfl,hb5⟩
    have HB5:=Lib.hid hb5
    clear hb5
    go_wp2_with fail
    refine (A2.out _).mono ?_;rintro e w7 ⟨rfl,hb7⟩
    have HB7:=Lib.hid (Below.step (Below.step HB5.out (below_a w5 _)) hb7)
    clear hb7
    go_wp2_with fail
    refine (change_no q id 6 _ (_,_,_) _ (by decide)).mono ?_;rintro e w8 ⟨rfl,hb8⟩
    have HB8:=Lib.hid (Below.step (Below.step HB7.out (below_a w7 _)) hb8)
    clear hb8
    go_wp2_with fail
    go_ret
    rw [E.out,EB.out.1,EB.out.2]
    exact ⟨rfl,QAfter.same HIN.out HB8.out⟩
   | some y =>
    rw [hm] at A1
    have E:=Lib.hid (show chC (decide (wgOk k)) n M id=0 by unfold chC;rw [hv,hm,decide_eq_true ht];rfl)
    have EB:=Lib.hid (ch_yes E.out hm (wghX k) fl)
    have HM:=Lib.hid hm
    have hy:Ch.Ok y.1 y.2.1 y.2.2:=hok.ok _ ((ent_some hok.nod).1 hm)
    have A2:=Lib.hid fun W=>OK.out y.1 y.2.1 y.2.2 W hy ht
    have HX:=Lib.hid (show Ch.Ok ((wghX k) y).1 ((wghX k) y).2.1 ((wghX k) y).2.2 from okX hy ht)
    clear hids hok ht hy hm
    go_enter Tryz.func313,Tryz.ntmps313
    go_wp2_with fail
    refine A1.out.mono ?_;rintro e w5 ⟨rfl,hb5⟩
    have HB5:=Lib.hid hb5
    clear hb5
    go_wp2_with fail
    refine (A2.out _).mono ?_;rintro e w7 ⟨rfl,hb7⟩
    have HB7:=Lib.hid (Below.step (Below.step HB5.out (below_a w5 _)) hb7)
    clear hb7
    go_wp2_with fail
    refine (change_at id ((wghX k) y) y _ (HIN.out.below (Below.step HB7.out (below_a w7 _))) HID.out HX.out HM.out).mono ?_;rintro e w8 ⟨rfl,hA8⟩
    have HA8:=Lib.hid hA8
    clear hA8
    go_wp2_with fail
    go_ret
    rw [E.out,EB.out.1,EB.out.2]
    obtain ⟨F8,h8,s8⟩:=HA8.out
    exact ⟨rfl,F8,h8,(Step.of (Below.step HB7.out (below_a w7 _))).trans s8⟩
  ·cases hm:entM M id with
   | none =>
    rw [hm] at A1
    have E:=Lib.hid (show chC (decide (wgOk k)) n M id=2 by unfold chC;rw [hv,decide_eq_false ht];rfl)
    have EB:=Lib.hid (ch_no E.out (by decide) (wghX k) fl)
    have A2:=Lib.hid fun W=>ANY.out 0 0 1 W (by unfold Ch.Fits;omega) (fun q=>ht q.2)
    clear hids hok ht
    go_enter Tryz.func313,Tryz.ntmps313
    go_wp2_with fail
    refine A1.out.mono ?_;rintro e w5 ⟨rfl,hb5⟩
    have HB5:=Lib.hid hb5
    clear hb5
    go_wp2_with fail
    refine (A2.out _).mono ?_;rintro e w7 ⟨rfl,hb7⟩
    have HB7:=Lib.hid (Below.step (Below.step HB5.out (below_a w5 _)) hb7)
    clear hb7
    go_wp2_with fail
    go_ret
    rw [E.out,EB.out.1,EB.out.2]
    exact ⟨rfl,QAfter.same HIN.out (Below.step HB7.out (below_a _ _))⟩
   | some y =>
    rw [hm] at A1
    have E:=Lib.hid (show chC (decide (wgOk k)) n M id=2 by unfold chC;rw [hv,decide_eq_false ht];rfl)
    have EB:=Lib.hid (ch_no E.out (by decide) (wghX k) fl)
    have hy:Ch.Ok y.1 y.2.1 y.2.2:=hok.ok _ ((ent_some hok.nod).1 hm)
    have A2:=Lib.hid fun W=>ANY.out y.1 y.2.1 y.2.2 W (by unfold Ch.Ok at hy;unfold Ch.Fits;omega) (fun q=>ht q.2)
    clear hids hok ht hy hm
    go_enter Tryz.func313,Tryz.ntmps313
    go_wp2_with fail
    refine A1.out.mono ?_;rintro e w5 ⟨rfl,hb5⟩
    have HB5:=Lib.hid hb5
    clear hb5
    go_wp2_with fail
    refine (A2.out _).mono ?_;rintro e w7 ⟨rfl,hb7⟩
    have HB7:=Lib.hid (Below.step (Below.step HB5.out (below_a w5 _)) hb7)
    clear hb7
    go_wp2_with fail
    go_ret
    rw [E.out,EB.out.1,EB.out.2]
    exact ⟨rfl,QAfter.same HIN.out (Below.step HB7.out (below_a _ _))⟩
theorem Floor_at {q:Nat} {F:List Nat} {n:Int} {M:Mems} {fl:Int} (w:World) (h:QIn w q F n M fl):Calls Tryz.prog 54 #[.pointer (some ⟨q,0,none⟩)] w fun e w'=>e=.returned (.int .u64 fl)∧w=w':=by
 obtain ⟨p,bm,Fh,f,hr,rfl,hfe,hok,hf0,hf1⟩:=h
 have A1:=Lib.hid (qsome_at q n w hr.c1 hr.pos)
 have c3:=hr.c3
 clear hr hfe hok hf0 hf1
 go_enter Tryz.func54,Tryz.ntmps54
 go_wp2_with fail
 refine A1.out.mono ?_;rintro e w5 ⟨rfl,rfl⟩
 go_wp2_with fail
 go_ret
 exact ⟨rfl,rfl⟩
theorem Raise_at {q:Nat} {F:List Nat} {n:Int} {M:Mems} {fl:Int} (x:Int) (w:World) (h:QIn w q F n M fl) (hx:0≤x∧x≤18446744073709551615):Calls Tryz.prog 74 #[.pointer (some ⟨q,0,none⟩),.int .u64 x] w (QDid w q F n (.int .i64 0) M (max fl x)):=by
 obtain ⟨p,bm,Fh,f,hr,rfl,hfe,hok,hf0,hf1⟩:=h
 have A1:=Lib.hid (qsome_at q n w hr.c1 hr.pos)
 have c3:=hr.c3
 have f3:=hr.fr 3
 have HR:=Lib.hid hr
 have HK:=Lib.hid (And.intro hfe (And.intro hok (And.intro hf0 hf1)))
 clear hr hfe hok hf0 hf1
 go_enter Tryz.func74,Tryz.ntmps74
 go_wp2_with fail
 refine A1.out.mono ?_;rintro e w5 ⟨rfl,rfl⟩
 go_wp2_with fail
 go_ret
 obtain ⟨h1,h2⟩:=HR.out.floored (max fl x)
 exact ⟨rfl,q::bm::Fh,⟨p,bm,Fh,f,h1,rfl,HK.out.1,HK.out.2.1,by have:=HK.out.2.2;omega,by have:=HK.out.2.2;omega⟩,Step.inn h2 (fun b hb=>by simp at hb;simp [hb])⟩
theorem Len_at' {q:Nat} {F:List Nat} {n:Int} {M:Mems} {fl:Int} (w:World) (h:QIn w q F n M fl):Calls Tryz.prog 75 #[.pointer (some ⟨q,0,none⟩)] w fun e w'=>e=.returned (.int .i64 M.length)∧w=w':=by
 obtain ⟨p,bm,Fh,f,hr,rfl,hfe,hok,hf0,hf1⟩:=h
 have A1:=Lib.hid (qsome_at q n w hr.c1 hr.pos)
 have c2:=hr.c2
 have hln:=MapG.len (enc:=encE) (dat:=datE) (R:=readE) (ok:=fun _=>True) undE hr.map 3
 clear hr hfe hok hf0 hf1
 go_enter Tryz.func75,Tryz.ntmps75
 go_wp2_with fail
 refine A1.out.mono ?_;rintro e w5 ⟨rfl,rfl⟩
 go_wp2_with fail
 go_ret
 exact ⟨rfl,rfl⟩
def firstI (M:Mems):Int:=match M with | []=>0 | x::_=>x.1
theorem First_at {q:Nat} {F:List Nat} {n:Int} {M:Mems} {fl:Int} (w:World) (h:QIn w q F n M fl):Calls Tryz.prog 135 #[.pointer (some ⟨q,0,none⟩)] w fun e w'=>e=.returned (.tuple #[.int .i64 (firstI M),.bool (!M.isEmpty)])∧Below w.heap.size w w':=by
 obtain ⟨p,bm,Fh,f,hr,rfl,hfe,hok,hf0,hf1⟩:=h
 have A1:=Lib.hid (qsome_at q n w hr.c1 hr.pos)
 have c0:=hr.c0
 have A2:=Lib.hid (Least_at w hr.heap)
 clear hr hfe hok hf0 hf1
 cases M with
 | nil =>
  go_enter Tryz.func135,Tryz.ntmps135
  go_wp2_with fail
  refine A1.out.mono ?_;rintro e w5 ⟨rfl,rfl⟩
  go_wp2_with fail
  refine A2.out.mono ?_;rintro e w6 ⟨rfl,hg6⟩
  rw [show leastV (itemsM [])=.tuple #[.agg #[.int .i64 0,.int .u64 0],.bool false] from rfl]
  have HB:=Lib.hid hg6.below
  clear hg6
  go_wp2_with fail
  refine bodyPost_ret (v:=.tuple #[.int .i64 0,.bool false]) (by simp [results,Tryz.results135,go_sem]) rfl ⟨rfl,?_⟩
  exact Below.step HB.out (below_a _ _)
 | cons x r =>
  go_enter Tryz.func135,Tryz.ntmps135
  go_wp2_with fail
  refine A1.out.mono ?_;rintro e w5 ⟨rfl,rfl⟩
  go_wp2_with fail
  refine A2.out.mono ?_;rintro e w6 ⟨rfl,hg6⟩
  rw [show leastV (itemsM (x::r))=.tuple #[.agg #[.int .i64 x.1,.int .u64 x.2.1],.bool true] from rfl]
  have HB:=Lib.hid hg6.below
  clear hg6
  go_wp2_with fail
  refine bodyPost_ret (v:=.tuple #[.int .i64 x.1,.bool true]) (by simp [results,Tryz.results135,go_sem]) rfl ⟨rfl,?_⟩
  exact Below.step HB.out (below_a _ _)
def getE (M:Mems) (id:Int):Ent:=(entM M id).getD (0,0,0)
theorem Get_at {q:Nat} {F:List Nat} {n:Int} {M:Mems} {fl:Int} (id:Int) (w:World) (h:QIn w q F n M fl) (hid:(Lit.int .i64 id).wf=true):Calls Tryz.prog 113 #[.pointer (some ⟨q,0,none⟩),.int .i64 id] w fun e w'=>e=.returned (.tuple #[.agg #[.int .u64 (getE M id).1,.int .u32 (getE M id).2.1,.int .u32 (getE M id).2.2],.bool (entM M id).isSome])∧Below w.heap.size w w':=by
 have hids:=h.ids
 obtain ⟨p,bm,Fh,f,hr,rfl,hfe,hok,hf0,hf1⟩:=h
 obtain ⟨W0,hW0⟩:∃ W0,W0=w.alloc (.cells #[.int .u64 0,.int .u32 0,.int .u32 0] 107):=⟨_,rfl⟩
 have HB0:=Lib.hid (show Below w.heap.size w W0 by rw [hW0];exact below_a _ _)
 have z0:W0.cell? ⟨w.heap.size,0,none⟩=some (.int .u64 0):=by rw [hW0];exact cell_nw _ _ _ 0 _ rfl
 have z1:W0.cell? ⟨w.heap.size,1,none⟩=some (.int .u32 0):=by rw [hW0];exact cell_nw _ _ _ 1 _ rfl
 have z2:W0.cell? ⟨w.heap.size,2,none⟩=some (.int .u32 0):=by rw [hW0];exact cell_nw _ _ _ 2 _ rfl
 have g0:W0.frozen? ⟨w.heap.size,0,none⟩=false:=by rw [hW0];exact frz_nw _ _ _ 0
 have g1:W0.frozen? ⟨w.heap.size,1,none⟩=false:=by rw [hW0];exact frz_nw _ _ _ 1
 have g2:W0.frozen? ⟨w.heap.size,2,none⟩=false:=by rw [hW0];exact frz_nw _ _ _ 2
 have HW0:=Lib.hid hW0
 have A1:=Lib.hid (qfind_at id W0 (hr.below HB0.out) hid)
 obtain ⟨x,c,hx,hc,hA⟩:∃ (x:Ent) (c:Int),getE M id=x∧(entM M id).isSome=(c == 0)∧qfindV n f id=(x,c):=by
  unfold qfindV
  rw [hfe]
  cases hm:entM M id with
  | some y =>
   have hv:hasV n id=true:=hasV_iff.2 (hids.2.1 _ ((ent_some hids.1.nod).1 hm))
   rw [hv,if_pos rfl]
   exact ⟨y,0,by unfold getE;rw [hm];rfl,rfl,rfl⟩
  | none =>
   by_cases hv:hasV n id=true
   ·rw [if_pos hv];exact ⟨(0,0,0),6,by unfold getE;rw [hm];rfl,rfl,rfl⟩
   ·rw [if_neg hv];exact ⟨(0,0,0),2,by unfold getE;rw [hm];rfl,rfl,rfl⟩
 rw [hA] at A1
 rw [hx,hc]
 clear hx hc hA hr hfe hok hf0 hf1 hids hW0
 go_enter Tryz.func113,Tryz.ntmps113
 go_wp2_with fail
 rw [← HW0.out]
 refine A1.out.mono ?_;rintro e w5 ⟨rfl,hb5⟩
 replace g0:=frz_later (Below.step hb5 (below_a w5 (.cells #[.int .u64 x.1,.int .u32 x.2.1,.int .u32 x.2.2] 107))) g0 (lt_of_cell z0)
 replace z0:=cell_al (.cells #[.int .u64 x.1,.int .u32 x.2.1,.int .u32 x.2.2] 107) (cell_later hb5 z0)
 replace g1:=frz_later (Below.step hb5 (below_a w5 (.cells #[.int .u64 x.1,.int .u32 x.2.1,.int .u32 x.2.2] 107))) g1 (lt_of_cell z1)
 replace z1:=cell_al (.cells #[.int .u64 x.1,.int .u32 x.2.1,.int .u32 x.2.2] 107) (cell_later hb5 z1)
 replace g2:=frz_later (Below.step hb5 (below_a w5 (.cells #[.int .u64 x.1,.int .u32 x.2.1,.int .u32 x.2.2] 107))) g2 (lt_of_cell z2)
 replace z2:=cell_al (.cells #[.int .u64 x.1,.int .u32 x.2.1,.int .u32 x.2.2] 107) (cell_later hb5 z2)
 have HB5:=Lib.hid (Below.step (Below.step HB0.out hb5) (below_a w5 (.cells #[.int .u64 x.1,.int .u32 x.2.1,.int .u32 x.2.2] 107)))
 clear hb5
 go_wp2_with fail
 refine bodyPost_ret (v:=.tuple #[.agg #[.int .u64 x.1,.int .u32 x.2.1,.int .u32 x.2.2],.bool (c == 0)]) (by simp [results,Tryz.results113,go_sem, *]) rfl ⟨rfl,?_⟩
 exact (((HB5.out.setCell (Nat.le_refl _) _).setCell (Nat.le_refl _) _).setCell (Nat.le_refl _) _)
def QNewP (w:World) (n:Int) (e:Ending) (w':World):Prop:=∃ q F,e=.returned (.tuple #[.pointer (some ⟨q,0,none⟩),.int .i64 0])∧QIn w' q F n [] 0∧(∀ b∈F,w.heap.size≤b)∧Below w.heap.size w w'
set_option maxRecDepth 100000 in
set_option maxHeartbeats 1000000 in
theorem New_at (n:Int) (w:World) (h0:1≤n) (h1:n≤131072):Calls Tryz.prog 47 #[.int .i64 n] w (QNewP w n):=by
 have A1:=Lib.hid (New_in n w h0 h1)
 have z1:decide (n<1)=false:=decide_eq_false (by omega)
 have z2:decide (n > 131072)=false:=decide_eq_false (by omega)
 have z2':decide (131072<n)=false:=decide_eq_false (by omega)
 clear h0 h1
 go_enter Tryz.func47,Tryz.ntmps47
 go_wp2_with fail
 refine A1.out.mono ?_;rintro e w5 ⟨rfl,hh,hb⟩
 have HH:=Lib.hid hh
 have HB:=Lib.hid hb
 clear hh hb
 have hmm:=@run_makeMap Tryz.prog
 go_wp2_with fail
 go_ret2
 obtain ⟨W6,hW6⟩:∃ W,W=w5.alloc (.map #[] 0):=⟨_,rfl⟩
 have hb6:Below w5.heap.size w5 W6:=by rw [hW6];exact below_a _ _
 have hm6:MapE W6 w5.heap.size (fun _=>none) 0:=by rw [hW6];exact MapG.made _
 have hs6:W6.heap.size=w5.heap.size+1:=by rw [hW6];simp
 have hlt:=HH.out.lt
 rw [← hW6,← hs6]
 have hB:=Below.step (Below.step HB.out hb6) (below_a W6 (.cells #[.pointer (some ⟨w.heap.size+1,0,none⟩),.int .i64 n,.map (some w5.heap.size),.int .u64 0,.int .i64 0] 187))
 refine ⟨W6.heap.size,W6.heap.size::w5.heap.size::[w.heap.size+1,w.heap.size],rfl,⟨w.heap.size+1,w5.heap.size,[w.heap.size+1,w.heap.size],fun _=>none,⟨cell_nw _ _ _ 0 _ rfl,cell_nw _ _ _ 1 _ rfl,cell_nw _ _ _ 2 _ rfl,cell_nw _ _ _ 3 _ rfl,cell_nw _ _ _ 4 _ rfl,fun j=>frz_nw _ _ _ j,(HH.out.below hb6).below (below_a _ _),hm6.below (below_a _ _),fun m=>by have:=hlt _ m;omega,fun m=>by have:=hlt _ m;omega,by omega⟩,rfl,fun id=>rfl,⟨List.nodup_nil,List.Pairwise.nil,fun m hm=>by cases hm⟩,by omega,by omega⟩,fun b hb=>?_,hB⟩
 have h1:=HB.out.size
 simp only [List.mem_cons,List.not_mem_nil,or_false] at hb
 omega
end Go.Proofs.YtapnaocdehahdaaGreat
