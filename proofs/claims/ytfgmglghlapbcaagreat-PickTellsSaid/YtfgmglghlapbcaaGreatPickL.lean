/-
  Layer 25 (pick): enter.
-/
import Derived.Test.YtfgmglghlapbcaaGreatPkJ
namespace Go.Proofs.YtfgmglghlapbcaaGreat
open Go.RowKit Go.Maps Go.IntWalk Go.Lib Go.Sort Go.Shelf
set_option linter.unusedVariables false
set_option linter.unusedSimpArgs false
attribute [local go_sem] Oper.semAt_some
theorem wpIn_world {F:Fence} {n:Nat} {c:Code} {P:Program} {Q:Exit→Act→World→Prop} {a:Act} {W:World} (h:∀ W',W'=W→c.wpIn F n P Q a W'):c.wpIn F n P Q a W:=h _ rfl
def enQ (s:TSt) (g:Nat) (id:Int) (x:Ent):TSt:={ s with M:=upd s.M g (enterM qN (s.M g) id x),fl:=upd s.fl g (enterF qN (s.M g) id x (s.fl g)) }
def enT (s:TSt) (g:Nat) (id:Int):TSt:={ s with T:=setF s.T id (some (g:Int)),c:=putC (s.T id) s.c }
def enStep (P:Nat→Nat) (q:TSt×Bool) (own:Nat):TSt×Bool:=if q.2 then (enQ q.1 (P own) (65536+own) (wokenX (q.1.A own) (q.1.fl (P own)) q.1.cr),(q.1.M (P own)).isEmpty) else q
def enUp (P:Nat→Nat) (s:TSt) (e:Bool) (l:List Nat):TSt×Bool:=l.foldl (enStep P) (s,e)
theorem enUp_snoc (P:Nat→Nat) (s:TSt) (e:Bool) (l:List Nat) (x:Nat):enUp P s e (l++[x])=enStep P (enUp P s e l) x:=by
 unfold enUp
 rw [List.foldl_append]
 rfl
theorem en_stop (P:Nat→Nat) (s:TSt) (l:List Nat):l.foldl (enStep P) (s,false)=(s,false):=by
 induction l with
 | nil=>rfl
 | cons a l ih=>exact ih
theorem enUp_pre {P:Nat→Nat} {s s':TSt} {e:Bool} {pre l:List Nat} (hp:pre <+: l) (h:enUp P s e pre=(s',false)):enUp P s e l=(s',false):=by
 obtain ⟨r,rfl⟩:=hp
 unfold enUp at h ⊢
 rw [List.foldl_append,h]
 exact en_stop P s' r
def enC (s:TSt) (id g ac:Int):Int:=if nameV id && hasV (s.n:Int) g then (if ac=0 then (if (s.T id).isSome then 250 else 0) else 2) else 2
def enX (s:TSt) (id g ac:Int) (x:Ent):Ent:=if enC s id g ac=0 then x else (0,0,0)
def enS (s:TSt) (id g ac:Int) (x:Ent):TSt:=if enC s id g ac=0 then (enUp (parG s.Gs) (enT (enQ s g.toNat id x) g.toNat id) (s.M g.toNat).isEmpty (pathT (parG s.Gs) g.toNat)).1 else s
theorem len_zero {α:Type} (l:List α):(((l.length:Nat):Int) == 0)=l.isEmpty:=by
 cases l with
 | nil=>rfl
 | cons a l =>
  simp only [List.length_cons,List.isEmpty_cons]
  exact beq_eq_false_iff_ne.2 (by omega)
theorem tasks_le {L:List Int} (h:L.Nodup) (hb:∀ x∈L,1≤x∧x≤65535):L.length≤65536:=holes_le 65536 L h (fun x hx=>by have:=hb x hx;omega)
theorem TRaw.few {w:World} {t bg bq ba bm:Nat} {qp:Nat→Nat} {Fq:Nat→List Nat} {s:TSt} (h:TRaw w t bg bq ba bm qp Fq s):s.c≤65536:=by
 obtain ⟨L,h1,h2,h3⟩:=h.keys
 rw [← h2]
 exact tasks_le h1 (fun x hx=>h.tid x ((h3 x).1 hx))
theorem wokenX_fits {x:Ent} {fl cr:Int} (hx:Ch.Fits x.1 x.2.1 x.2.2) (hf:0≤fl∧fl≤18446744073709551615) (hc:0≤cr):Ch.Fits (wokenX x fl cr).1 (wokenX x fl cr).2.1 (wokenX x fl cr).2.2:=by
 unfold wokenX Ch.Fits at *
 split
 ·split
  ·simp only;omega
  ·exact hx
 ·simp
theorem en_no {s:TSt} {id g ac c:Int} (x:Ent) (h:enC s id g ac=c) (hc:c≠0):enX s id g ac x=(0,0,0)∧enS s id g ac x=s:=by
 unfold enX enS
 rw [h,if_neg hc,if_neg hc]
 exact ⟨rfl,rfl⟩
set_option maxRecDepth 100000 in
set_option maxHeartbeats 4000000 in
theorem penter_at {t:Nat} {F:List Nat} {s:TSt} (ff:Nat) (caps:Array Value) (eg:∀ args w,(callFunc ff args).run Tryz.prog w=.ok (.enter ff args) w) (id g:Int) (ax:Ent) (ac:Int) (w:World) (h:TreeIn w t F s) (hid:(Lit.int .i64 id).wf=true) (hg:(Lit.int .i64 g).wf=true)
  (hax:Ch.Fits ax.1 ax.2.1 ax.2.2) (has:∀ W,Below w.heap.size w W→hasV (s.n:Int) g=true→Calls Tryz.prog ff (#[.int .u64 (s.fl g.toNat)]++caps) W (PlP W ax ac)) :
  Calls Tryz.prog 47 #[.pointer (some ⟨t,0,none⟩),.int .i64 id,.int .i64 g,.func (.func ff) #[] caps] w (TDid w t F (.tuple #[.agg #[.int .u64 (enX s id g ac ax).1,.int .u32 (enX s id g ac ax).2.1,.int .u32 (enX s id g ac ax).2.2],.int .i64 (enC s id g ac)]) (enS s id g ac ax)):=by
 have HT:=Lib.hid h
 obtain ⟨bg,bq,ba,bm,qp,Fq,hr,rfl⟩:=h
 have i:=hr.lt
 obtain ⟨W0,hW0⟩:∃ W0,W0=(w.alloc (.cells #[.pointer (some ⟨t,0,none⟩)] 29)).alloc (.cells #[.int .u64 0,.int .u32 0,.int .u32 0] 40):=⟨_,rfl⟩
 have hB0:Below w.heap.size w W0:=by rw [hW0];exact Below.allocS (Below.allocS (Below.refl _ _) _) _
 have hsz0:W0.heap.size=w.heap.size+2:=by rw [hW0];simp
 have b0:W0.cell? ⟨w.heap.size,0,none⟩=some (.pointer (some ⟨t,0,none⟩)):=by rw [hW0];exact cell_al _ (cell_nw _ _ _ 0 _ rfl)
 have z0:W0.cell? ⟨w.heap.size+1,0,none⟩=some (.int .u64 0):=by rw [hW0];exact cell_nwE (by simp) _ _ 0 _ rfl
 have z1:W0.cell? ⟨w.heap.size+1,1,none⟩=some (.int .u32 0):=by rw [hW0];exact cell_nwE (by simp) _ _ 1 _ rfl
 have z2:W0.cell? ⟨w.heap.size+1,2,none⟩=some (.int .u32 0):=by rw [hW0];exact cell_nwE (by simp) _ _ 2 _ rfl
 have f0:W0.frozen? ⟨w.heap.size+1,0,none⟩=false:=by rw [hW0];exact frz_nwE (by simp) _ _ 0
 have f1:W0.frozen? ⟨w.heap.size+1,1,none⟩=false:=by rw [hW0];exact frz_nwE (by simp) _ _ 1
 have f2:W0.frozen? ⟨w.heap.size+1,2,none⟩=false:=by rw [hW0];exact frz_nwE (by simp) _ _ 2
 have hr0:=hr.below hB0
 have A1:=Lib.hid (psome_at hr0)
 have A2:=Lib.hid (named_at id W0)
 have A3:=Lib.hid (phas_at g hr0)
 have HR0:=Lib.hid hr0
 have HB0:=Lib.hid hB0
 have HW0:=Lib.hid hW0
 have HAS:=Lib.hid has
 clear hW0 hB0 hr hr0 has
 cases hn:nameV id with
 | false =>
  rw [hn] at A2
  have HC:=Lib.hid (show enC s id g ac=2 by unfold enC;rw [hn];rfl)
  rw [HC.out,(en_no ax HC.out (by decide)).1,(en_no ax HC.out (by decide)).2]
  clear hn
  go_enter Tryz.func47,Tryz.ntmps47
  go_wp2_with fail
  rw [← HW0.out]
  refine A1.out.mono ?_;rintro e w5 ⟨rfl,rfl⟩
  go_wp2_with fail
  refine A2.out.mono ?_;rintro e w5 ⟨rfl,rfl⟩
  go_wp2_with fail
  refine bodyPost_ret (v:=.tuple #[.agg #[.int .u64 0,.int .u32 0,.int .u32 0],.int .i64 2]) (by simp [results,Tryz.results47,go_sem,z0,z1,z2,f0,f1,f2]) rfl ⟨rfl,TAfter.same HT.out ?_⟩
  exact ((HB0.out.setCell (by simp) _).setCell (by simp) _).setCell (by simp) _
 | true =>
  rw [hn] at A2
  cases hh:hasV (s.n:Int) g with
  | false =>
   rw [hh] at A3
   have HC:=Lib.hid (show enC s id g ac=2 by unfold enC;rw [hn,hh];rfl)
   rw [HC.out,(en_no ax HC.out (by decide)).1,(en_no ax HC.out (by decide)).2]
   clear hn hh
   go_enter Tryz.func47,Tryz.ntmps47
   go_wp2_with fail
   rw [← HW0.out]
   refine A1.out.mono ?_;rintro e w5 ⟨rfl,rfl⟩
   go_wp2_with fail
   refine A2.out.mono ?_;rintro e w5 ⟨rfl,rfl⟩
   go_wp2_with fail
   refine A3.out.mono ?_;rintro e w5 ⟨rfl,rfl⟩
   go_wp2_with fail
   refine bodyPost_ret (v:=.tuple #[.agg #[.int .u64 0,.int .u32 0,.int .u32 0],.int .i64 2]) (by simp [results,Tryz.results47,go_sem,z0,z1,z2,f0,f1,f2]) rfl ⟨rfl,TAfter.same HT.out ?_⟩
   exact ((HB0.out.setCell (by simp) _).setCell (by simp) _).setCell (by simp) _
  | true =>
   rw [hh] at A3
   have hgb:0≤g∧g<(s.n:Int):=by unfold hasV at hh;simpa using hh
   obtain ⟨gn,rfl⟩:∃ gn:Nat,g=gn:=⟨g.toNat,by omega⟩
   have hgn:gn<s.n:=by omega
   have hg0:=hgb.1
   have hg1:=hgb.2
   have HQ:=Lib.hid (HR0.out.q gn hgn)
   obtain ⟨cq,q1⟩:=HR0.out.g1
   have q2:=HR0.out.qc gn hgn
   have q3:=HR0.out.g3
   have A4:=Lib.hid (Floor_at W0 HQ.out)
   have A5:=Lib.hid (HAS.out W0 HB0.out hh)
   have HN:=Lib.hid hn
   have HH:=Lib.hid hh
   clear hn hh hgb
   by_cases hac:ac=0
   ·subst hac
    cases htg:s.T id with
    | some go =>
     have HC:=Lib.hid (show enC s id (gn:Int) 0=250 by unfold enC;rw [HN.out,HH.out,htg];rfl)
     rw [HC.out,(en_no ax HC.out (by decide)).1,(en_no ax HC.out (by decide)).2]
     have HTG:=Lib.hid htg
     clear htg
     go_enter Tryz.func47,Tryz.ntmps47
     go_wp2_with fail
     rw [← HW0.out]
     refine A1.out.mono ?_;rintro e w5 ⟨rfl,rfl⟩
     go_wp2_with fail
     refine A2.out.mono ?_;rintro e w5 ⟨rfl,rfl⟩
     go_wp2_with fail
     refine A3.out.mono ?_;rintro e w5 ⟨rfl,rfl⟩
     go_wp2_with fail
     refine A4.out.mono ?_;rintro e w5 ⟨rfl,rfl⟩
     go_wp2_with fail
     refine A5.out.mono ?_;rintro e w5 ⟨rfl,hb5⟩
     replace z0:=cell_al (.cells #[.int .u64 ax.1,.int .u32 ax.2.1,.int .u32 ax.2.2] 40) (cell_later hb5 z0)
     replace z1:=cell_al (.cells #[.int .u64 ax.1,.int .u32 ax.2.1,.int .u32 ax.2.2] 40) (cell_later hb5 z1)
     replace z2:=cell_al (.cells #[.int .u64 ax.1,.int .u32 ax.2.1,.int .u32 ax.2.2] 40) (cell_later hb5 z2)
     replace b0:=cell_al (.cells #[.int .u64 ax.1,.int .u32 ax.2.1,.int .u32 ax.2.2] 40) (cell_later hb5 b0)
     have hb6:Below W0.heap.size W0 (w5.alloc (.cells #[.int .u64 ax.1,.int .u32 ax.2.1,.int .u32 ax.2.2] 40)):=Below.allocS hb5 _
     replace f0:=frz_later hb6 f0 (by omega)
     replace f1:=frz_later hb6 f1 (by omega)
     replace f2:=frz_later hb6 f2 (by omega)
     have hr6:=HR0.out.below hb6
     have hs5:=hb5.size
     have HB6:=Lib.hid hb6
     have HR6:=Lib.hid hr6
     have hl:=hr6.map.look hid
     rw [HTG.out] at hl
     have g3:=hr6.g3
     clear hb5 hb6 hr6
     go_wp2_with fail
     refine bodyPost_ret (v:=.tuple #[.agg #[.int .u64 0,.int .u32 0,.int .u32 0],.int .i64 250]) (by simp [results,Tryz.results47,go_sem,z0,z1,z2,f0,f1,f2]) rfl ⟨rfl,TAfter.same HT.out ?_⟩
     exact (((Below.step HB0.out HB6.out).setCell (by simp) _).setCell (by simp) _).setCell (by simp) _
    | none =>
     have HC:=Lib.hid (show enC s id (gn:Int) 0=0 by unfold enC;rw [HN.out,HH.out,htg];rfl)
     have HX:=Lib.hid (show enX s id (gn:Int) 0 ax=ax by unfold enX;rw [HC.out];rfl)
     have HS:=Lib.hid (show enS s id (gn:Int) 0 ax=(enUp (parG s.Gs) (enT (enQ s gn id ax) gn id) (s.M gn).isEmpty (pathT (parG s.Gs) gn)).1 by unfold enS;rw [HC.out];rfl)
     have HTG:=Lib.hid htg
     rw [HC.out,HX.out,HS.out]
     clear htg
     refine (callsIn_wide (n:=3)).1 ?_
     have hf:Fence.wide.fn 47:=trivial
     have hro:Fence.wide.round=none:=rfl
     refine callsIn_of_wp_marks Tryz.func47 rfl hf ?_ hro
     simp only [Tryz.ntmps47,List.size_toArray,List.length_cons,List.length_nil,Nat.reduceAdd,Nat.reduceSub,Array.replicate_succ,Array.replicate_zero,List.push_toArray,List.append_toArray,List.nil_append,List.cons_append]
     refine wpIn_wide.2 ?_
     go_wp2_with fail
     rw [← HW0.out]
     refine A1.out.mono ?_;rintro e w5 ⟨rfl,rfl⟩
     go_wp2_with fail
     refine A2.out.mono ?_;rintro e w5 ⟨rfl,rfl⟩
     go_wp2_with fail
     refine A3.out.mono ?_;rintro e w5 ⟨rfl,rfl⟩
     go_wp2_with fail
     refine A4.out.mono ?_;rintro e w5 ⟨rfl,rfl⟩
     go_wp2_with fail
     refine A5.out.mono ?_;rintro e w5 ⟨rfl,hb5⟩
     replace z0:=cell_al (.cells #[.int .u64 ax.1,.int .u32 ax.2.1,.int .u32 ax.2.2] 40) (cell_later hb5 z0)
     replace z1:=cell_al (.cells #[.int .u64 ax.1,.int .u32 ax.2.1,.int .u32 ax.2.2] 40) (cell_later hb5 z1)
     replace z2:=cell_al (.cells #[.int .u64 ax.1,.int .u32 ax.2.1,.int .u32 ax.2.2] 40) (cell_later hb5 z2)
     replace b0:=cell_al (.cells #[.int .u64 ax.1,.int .u32 ax.2.1,.int .u32 ax.2.2] 40) (cell_later hb5 b0)
     have hb6:Below W0.heap.size W0 (w5.alloc (.cells #[.int .u64 ax.1,.int .u32 ax.2.1,.int .u32 ax.2.2] 40)):=Below.allocS hb5 _
     replace f0:=frz_later hb6 f0 (by omega)
     replace f1:=frz_later hb6 f1 (by omega)
     replace f2:=frz_later hb6 f2 (by omega)
     have hr6:=HR0.out.below hb6
     have hs5:=hb5.size
     have HB6:=Lib.hid hb6
     have HR6:=Lib.hid hr6
     have hl:=hr6.map.look hid
     rw [HTG.out] at hl
     have g3:=hr6.g3
     obtain ⟨c6,g6⟩:=hr6.g1
     have q6:=hr6.qc gn hgn
     have HQ6:=Lib.hid (hr6.q gn hgn)
     have x0:=cell_nw w5 #[.int .u64 ax.1,.int .u32 ax.2.1,.int .u32 ax.2.2] 40 0 _ rfl
     have x1:=cell_nw w5 #[.int .u64 ax.1,.int .u32 ax.2.1,.int .u32 ax.2.2] 40 1 _ rfl
     have x2:=cell_nw w5 #[.int .u64 ax.1,.int .u32 ax.2.1,.int .u32 ax.2.2] 40 2 _ rfl
     obtain ⟨m,hm⟩:∃ m,m=(s.M gn).length:=⟨_,rfl⟩
     have hz:=len_zero (s.M gn)
     rw [← hm] at hz
     have A6:=Lib.hid (Len_at' _ HQ6.out)
     rw [← hm] at A6
     have HZ:=Lib.hid hz
     clear hb5 hb6 hr6 hz hm
     go_wp2_with fail
     refine A6.out.mono ?_;rintro e w7 ⟨rfl,rfl⟩
     go_wp2_with fail
     refine wp_world (fun W7 hW7=>?_)
     rw [HZ.out] at hW7
     have hb7:Below W0.heap.size W0 W7:=by rw [hW7];exact Below.allocS HB6.out _
     have hs7:W7.heap.size=w5.heap.size+2:=by rw [hW7];simp
     have hr7:=HR0.out.below hb7
     obtain ⟨c7,g7⟩:=hr7.g1
     have q7:=hr7.qc gn hgn
     obtain ⟨bx,hbx⟩:∃ b,b=w.heap.size:=⟨_,rfl⟩
     obtain ⟨by7,hby⟩:∃ b,b=w5.heap.size:=⟨_,rfl⟩
     have b7:W7.cell? ⟨bx,0,none⟩=some (.pointer (some ⟨t,0,none⟩)):=by rw [hW7,hbx];exact cell_al _ b0
     have y0:W7.cell? ⟨by7,0,none⟩=some (.int .u64 ax.1):=by rw [hW7,hby];exact cell_al _ x0
     have y1:W7.cell? ⟨by7,1,none⟩=some (.int .u32 ax.2.1):=by rw [hW7,hby];exact cell_al _ x1
     have y2:W7.cell? ⟨by7,2,none⟩=some (.int .u32 ax.2.2):=by rw [hW7,hby];exact cell_al _ x2
     have Z7:=Lib.hid (show W7.cell? ⟨w.heap.size+1,0,none⟩=some (.int .u64 0)∧W7.cell? ⟨w.heap.size+1,1,none⟩=some (.int .u32 0)∧W7.cell? ⟨w.heap.size+1,2,none⟩=some (.int .u32 0) by rw [hW7];exact ⟨cell_al _ z0,cell_al _ z1,cell_al _ z2⟩)
     have FZ7:=Lib.hid (show W7.frozen? ⟨w.heap.size+1,0,none⟩=false∧W7.frozen? ⟨w.heap.size+1,1,none⟩=false∧W7.frozen? ⟨w.heap.size+1,2,none⟩=false by
      rw [hW7]
      exact ⟨frz_later (below_a _ _) f0 (by simp;omega),frz_later (below_a _ _) f1 (by simp;omega),frz_later (below_a _ _) f2 (by simp;omega)⟩)
     have E7:=Lib.hid (show Boxed W7 (w5.heap.size+1) 4 (.bool (s.M gn).isEmpty) by
      rw [hW7]
      have:=Boxed.new (w5.alloc (.cells #[.int .u64 ax.1,.int .u32 ax.2.1,.int .u32 ax.2.2] 40)) 4 (.bool (s.M gn).isEmpty)
      simpa using this)
     have hof:=hr7.off gn hgn
     have ltF:∀ b∈Fq gn,b<w.heap.size:=fun b hb=>HT.out.lt b (tf_queue hgn hb)
     have nt:t∉Fq gn:=fun m=>hof t m (by simp)
     have nq:bq∉Fq gn:=fun m=>hof bq m (by simp)
     have nx:bx∉Fq gn:=fun m=>by have:=ltF bx m;omega
     have ny:by7∉Fq gn:=fun m=>by have:=ltF by7 m;omega
     have nz:w.heap.size+1∉Fq gn:=fun m=>by have:=ltF _ m;omega
     have ne:w5.heap.size+1∉Fq gn:=fun m=>by have:=ltF _ m;omega
     have HR7:=Lib.hid hr7
     have HB7:=Lib.hid (Below.step HB0.out hb7)
     have HQ7:=Lib.hid (show QIn W7.drew (qp gn) (Fq gn) qN (s.M gn) (s.fl gn) from (hr7.q gn hgn).below (Below.refl _ _).drew)
     have HID:=Lib.hid hid
     have HPOS:=Lib.hid hr7.pos
     have HAX:=Lib.hid hax
     have HE5:=Lib.hid (show w.heap.size+2≤w5.heap.size by omega)
     rw [← hbx,← hby]
     have HBX:=Lib.hid hbx
     have HBY:=Lib.hid hby
     clear hbx hby hW7 hr7 hof ltF b0 z0 z1 z2 f0 f1 f2 x0 x1 x2 q1 q2 q3 g3 g6 q6 hl hsz0
     have hS0:Kept (Fq gn) W7 W7.drew∧W7.drew.cell? ⟨bx,0,none⟩=some (.pointer (some ⟨t,0,none⟩))∧W7.drew.cell? ⟨t,1,none⟩=some (.slice (some ⟨bq,0,none⟩) s.n c7)∧W7.drew.cell? ⟨bq,gn,none⟩=some (.pointer (some ⟨qp gn,0,none⟩))∧W7.drew.cell? ⟨by7,0,none⟩=some (.int .u64 ax.1)∧W7.drew.cell? ⟨by7,1,none⟩=some (.int .u32 ax.2.1)∧W7.drew.cell? ⟨by7,2,none⟩=some (.int .u32 ax.2.2):=⟨Kept.drew (Kept.refl _ _),cell_dr b7,cell_dr g7,cell_dr q7,cell_dr y0,cell_dr y1,cell_dr y2⟩
     refine wp_region_held_drew0 (S:=fun w'=>Kept (Fq gn) W7 w'∧w'.cell? ⟨bx,0,none⟩=some (.pointer (some ⟨t,0,none⟩))∧w'.cell? ⟨t,1,none⟩=some (.slice (some ⟨bq,0,none⟩) s.n c7)∧w'.cell? ⟨bq,gn,none⟩=some (.pointer (some ⟨qp gn,0,none⟩))∧w'.cell? ⟨by7,0,none⟩=some (.int .u64 ax.1)∧w'.cell? ⟨by7,1,none⟩=some (.int .u32 ax.2.1)∧w'.cell? ⟨by7,2,none⟩=some (.int .u32 ax.2.2)) (by kernel_rfl) hS0 (fun hHeld=>?_)
     refine takeA 0 ?_
     refine takeA 1 ?_
     refine takeA 2 ?_
     refine takeA 3 ?_
     refine takeA 4 ?_
     refine takeA 5 ?_
     refine takeA 6 ?_
     refine takeA 7 ?_
     refine takeA 8 ?_
     refine readyA [9] (consA (fun K hK=>?_) .nil)
     go_simp
     refine (Enter_at id ax _ HQ7.out HID.out HAX.out).mono ?_
     rintro e w9 ⟨rfl,hA9⟩
     obtain ⟨F9,h9,s9⟩:=hA9
     have hk9:Kept (Fq gn) W7.drew w9:=s9.kept
     go_wp2_with fail
     refine outA hK kpK_6 (fun hHeld9=>?_)
     clear hK K
     refine doneA ?_
     skip
     obtain ⟨hr9,hs9⟩:=(HR7.out.below (Below.refl W7.heap.size W7).drew).queue hgn h9 s9
     have b9:=s9.cell nx (cell_dr b7)
     have g9:=hr9.g3
     have nid:1≤id∧id≤65535:=by have:=HN.out;unfold nameV at this;simpa using this
     obtain ⟨w10,hrun,hm10,hg10⟩:=hr9.map.put (id:=id) (p:=(gn:Int)) (by have:=hr9.few;unfold maxLen;omega) hid hg
     obtain ⟨hr10,hk10⟩:=hr9.put hg10 hm10 hgn nid
     have m0:∀ b,w.heap.size≤b→b∉[bm]:=fun b hb m=>by simp at m;omega
     have e7:W7.drew.heap.size=W7.heap.size:=rfl
     have l9:=s9.kept.size
     have l10:=hk10.size
     have hbX:=HBX.out
     have hbY:=HBY.out
     have he5:=HE5.out
     have b10:=hk10.cellAt b9 (m0 _ (by omega))
     have Y10:=Lib.hid (show w10.cell? ⟨by7,0,none⟩=some (.int .u64 ax.1)∧w10.cell? ⟨by7,1,none⟩=some (.int .u32 ax.2.1)∧w10.cell? ⟨by7,2,none⟩=some (.int .u32 ax.2.2) from ⟨hk10.cellAt (s9.cell ny (cell_dr y0)) (m0 _ (by omega)),hk10.cellAt (s9.cell ny (cell_dr y1)) (m0 _ (by omega)),hk10.cellAt (s9.cell ny (cell_dr y2)) (m0 _ (by omega))⟩)
     have Z10:=Lib.hid (show w10.cell? ⟨w.heap.size+1,0,none⟩=some (.int .u64 0)∧w10.cell? ⟨w.heap.size+1,1,none⟩=some (.int .u32 0)∧w10.cell? ⟨w.heap.size+1,2,none⟩=some (.int .u32 0) from ⟨hk10.cellAt (s9.cell nz (cell_dr Z7.out.1)) (m0 _ (by omega)),hk10.cellAt (s9.cell nz (cell_dr Z7.out.2.1)) (m0 _ (by omega)),hk10.cellAt (s9.cell nz (cell_dr Z7.out.2.2)) (m0 _ (by omega))⟩)
     have FZ10:=Lib.hid (show w10.frozen? ⟨w.heap.size+1,0,none⟩=false∧w10.frozen? ⟨w.heap.size+1,1,none⟩=false∧w10.frozen? ⟨w.heap.size+1,2,none⟩=false from
      ⟨hk10.frz (s9.kept.frz (show W7.drew.frozen? ⟨w.heap.size+1,0,none⟩=false from FZ7.out.1) (by omega) nz) (by omega) (m0 _ (by omega)),hk10.frz (s9.kept.frz (show W7.drew.frozen? ⟨w.heap.size+1,1,none⟩=false from FZ7.out.2.1) (by omega) nz) (by omega) (m0 _ (by omega)),hk10.frz (s9.kept.frz (show W7.drew.frozen? ⟨w.heap.size+1,2,none⟩=false from FZ7.out.2.2) (by omega) nz) (by omega) (m0 _ (by omega))⟩)
     have E10:=Lib.hid (show Boxed w10 (w5.heap.size+1) 4 (.bool (s.M gn).isEmpty) from (hk10.block _ (by omega) (m0 _ (by omega))).trans ((s9.kept.block _ (by omega) ne).trans E7.out))
     have hbf:∀ b,w.heap.size≤b→b<W7.heap.size→b∉F9→b∉TF t bg bq ba bm (upd Fq gn F9) s.n:=fun b h0 h1 h5 m=>by
      rcases tf_mem m with q | ⟨k,hk,q⟩
      ·simp only [List.mem_cons,List.not_mem_nil,or_false] at q;omega
      ·by_cases e:k=gn
       ·subst e;rw [upd_same] at q;exact h5 q
       ·rw [upd_other _ _ e] at q
        have:=HT.out.lt b (tf_queue hk q)
        omega
     have NBX:=Lib.hid (show bx∉TF t bg bq ba bm (upd Fq gn F9) s.n∧w.heap.size+1∉TF t bg bq ba bm (upd Fq gn F9) s.n∧by7∉TF t bg bq ba bm (upd Fq gn F9) s.n∧w5.heap.size+1∉TF t bg bq ba bm (upd Fq gn F9) s.n from
      ⟨hbf _ (by omega) (by omega) (s9.off nx (by omega)),hbf _ (by omega) (by omega) (s9.off nz (by omega)),hbf _ (by omega) (by omega) (s9.off ny (by omega)),hbf _ (by omega) (by omega) (s9.off ne (by omega))⟩)
     have HR10:=Lib.hid (show TRaw w10 t bg bq ba bm qp (upd Fq gn F9) (enT (enQ s gn id ax) gn id) from hr10)
     have HS10:=Lib.hid (show Step (TF t bg bq ba bm Fq s.n) w (TF t bg bq ba bm (upd Fq gn F9) s.n) w10 from ((Step.of (HB7.out.drew)).trans hs9).trans (Step.inn hk10 (fun b hb=>by simp at hb;subst hb;exact tf_own (by simp))))
     have L10:=Lib.hid (show bx<w10.heap.size∧w.heap.size+1<w10.heap.size∧by7<w10.heap.size∧w5.heap.size+1<w10.heap.size from ⟨by omega,by omega,by omega,by omega⟩)
     have B10:=Lib.hid b10
     clear hS0 hHeld hk9 h9 s9 hr9 hs9 hm10 hg10 hr10 hk10 hbf e7 l9 l10 hbX hbY he5 b7 g7 q7 y0 y1 y2 nt nq nx ny nz ne m0
     go_wp2_with fail
     refine (pup_at _ _ _).mono ?_;rintro e w11 ⟨rfl,rfl⟩
     go_wp2_with fail
     refine wp_world (fun W1 hW1=>?_)
     have hsz:W1.heap.size=w10.heap.size+2:=by rw [hW1];simp
     have hB1:Below w10.heap.size w10 W1:=by rw [hW1];exact Below.allocS (Below.allocS (Below.refl _ _) _) _
     have BT:Boxed W1 w10.heap.size 29 (.pointer (some ⟨t,0,none⟩)):=by rw [hW1];exact (Boxed.new _ _ _).alloc _
     have BG:Boxed W1 (w10.heap.size+1) 3 (.int .i64 (gn:Nat)):=by
      have:=Boxed.new (w10.alloc (.cells #[.pointer (some ⟨t,0,none⟩)] 29)) 3 (.int .i64 (gn:Nat))
      rw [← hW1] at this
      simpa using this
     obtain ⟨bE,hbE1⟩:∃ b,b=by7+1:=⟨_,rfl⟩
     have hbE:bE=w5.heap.size+1:=by rw [hbE1,HBY.out]
     rw [← hbE] at E10 L10 NBX
     rw [← hbE1]
     clear hbE1
     have E1:Boxed W1 bE 4 (.bool (s.M gn).isEmpty):=(hB1.block _ L10.out.2.2.2).trans E10.out
     have hr1:=HR10.out.below hB1
     obtain ⟨cg,g1⟩:=hr1.g0
     have hri:RightG s.Gs:=hr1.right
     have hgc:∀ k,k≤gn→W1.cell? ⟨bg,k*2,none⟩=some (.int .i64 (parG s.Gs k:Nat)):=fun k hk=>by
      have hkn:k<s.Gs.length:=Nat.lt_of_le_of_lt hk hgn
      rw [(hri.par hkn).1]
      exact (hr1.gc k hkn).1
     have lts:=hr1.lt
     have hne:=hr1.ne
     have lt9:=HR10.out.lt
     have HRI:=Lib.hid hri
     have hU0:UpS w10 [bE] [w10.heap.size+1,w10.heap.size] t bg bq ba bm qp (TF t bg bq ba bm (upd Fq gn F9) s.n) s.n (enT (enQ s gn id ax) gn id) W1:=UpS.start (X:=[bE]) (Y:=[w10.heap.size+1,w10.heap.size]) HR10.out hB1 (fun b hb=>by simp at hb;omega) (fun b hb=>by simp at hb;subst hb;exact ⟨L10.out.2.2.2,NBX.out.2.2.2⟩)
     obtain ⟨s7,hs7⟩:∃ s7,s7=enT (enQ s gn id ax) gn id:=⟨_,rfl⟩
     rw [← hs7] at hU0 ⊢
     have e7:s7.Gs=s.Gs:=by rw [hs7];rfl
     have ecr:s7.cr=s.cr:=by rw [hs7];rfl
     have HL7:=Lib.hid hs7
     have nyx:w.heap.size+1≠bE:=by have:=HE5.out;omega
     have nbx:bx≠bE:=by have:=HE5.out;have:=HBX.out;omega
     have nby:by7≠bE:=by have:=HBY.out;omega
     have htE:t≠bE:=by have:=HE5.out;omega
     have hgE:bg≠bE:=by have:=HE5.out;omega
     have HBE:=Lib.hid hbE
     obtain ⟨e0,he0⟩:∃ e0,e0=(s.M gn).isEmpty:=⟨_,rfl⟩
     have HE0:=Lib.hid he0
     rw [← he0] at E1
     clear hW1 hs7 hr1 hbE he0
     refine wpIn_wide.1 (range_boxF (n:=3) hro (by decide) (gf:=91) (lb:=#[.pointer (some ⟨w10.heap.size+1,0,none⟩),.pointer (some ⟨w10.heap.size,0,none⟩)]) rfl trivial (enters_of Tryz.func91 (by kernel_rfl) rfl)
      (by omega) (pup_stops (3 - 1) (by decide) (w10.heap.size+1) w10.heap.size t bg s.n cg gn (parG s.Gs) (hri.befores hgn) hgn (by have:=hri.le;have:s.n=s.Gs.length:=rfl;omega) (by omega) (by omega) (by omega) W1 BG BT g1 hgc)
      (fun h k=>h.t k) (KpS.refl _) (kps_b (fun x hx=>by simp at hx;omega)) (Below.refl _ _) (fun _=>rfl)
      (fun pre W=>UpS w10 [bE] [w10.heap.size+1,w10.heap.size] t bg bq ba bm qp (TF t bg bq ba bm (upd Fq gn F9) s.n) s.n (enUp (parG s.Gs) s7 e0 pre).1 W∧Boxed W bE 4 (.bool (enUp (parG s.Gs) s7 e0 pre).2))
      (fun c pre W=>(c=.exit 0∧(enUp (parG s.Gs) s7 e0 pre).2=false)∧UpS w10 [bE] [w10.heap.size+1,w10.heap.size] t bg bq ba bm qp (TF t bg bq ba bm (upd Fq gn F9) s.n) s.n (enUp (parG s.Gs) s7 e0 pre).1 W)
      (OwnLoop.and (ownLoop_up (fun pre=>(enUp (parG s.Gs) s7 e0 pre).1) (by omega)) (ownLoop_boxed (fun pre=>.bool (enUp (parG s.Gs) s7 e0 pre).2) (by have:=L10.out;omega)))
      (fun c=>OwnLoop.and (ownLoop_pure (fun pre=>c=.exit 0∧(enUp (parG s.Gs) s7 e0 pre).2=false)) (ownLoop_up (fun pre=>(enUp (parG s.Gs) s7 e0 pre).1) (by omega)))
      (fun x A v h=>⟨h.1.setY (by simp) v,boxed_set_ne h.2 (by have:=L10.out;omega)⟩) (fun c x A v h=>⟨h.1,h.2.setY (by simp) v⟩) ⟨hU0,E1⟩
      ?F ?assign ?body ?done ?stop)
     case assign =>
      rintro l pre x W K hI hK
      gi_wp2
      exact hK
     case body =>
      rintro l pre x W hl hlr ⟨hI,hE⟩ hpx
      have hx:=pathT_mem gn (hpx.subset (List.mem_append_right pre (List.mem_singleton.2 rfl)))
      have hxn:x<s.n:=by omega
      have hpn:parG s.Gs x<s.n:=by omega
      have HSN:=Lib.hid (enUp_snoc (parG s.Gs) s7 e0 pre x)
      obtain ⟨⟨sp,ee⟩,hsp⟩:∃ q,q=enUp (parG s.Gs) s7 e0 pre:=⟨_,rfl⟩
      rw [← hsp] at HSN hI hE
      dsimp only at hI hE
      have cE:=hE.cell
      cases ee with
      | false =>
       have HM:=Lib.hid (show enUp (parG s.Gs) s7 e0 (pre++[x])=(sp,false) by rw [HSN.out];rfl)
       gi_wp2
       exact ⟨KeepsLoop.refl _ _,⟨rfl,by rw [HM.out]⟩,by rw [HM.out];exact hI⟩
      | true =>
       have fE:=hE.frozen
       obtain ⟨_,⟨cw,q1⟩,⟨ca,q3⟩,q4,qc,qa,_⟩:=hI.cells
       have q2:=qc _ hpn
       have bW:=hI.base (by simpa using nbx) NBX.out.1 B10.out
       obtain ⟨Fx,hqx,_,_⟩:=hI.queue hpn
       have hpm:(parG s.Gs x:Int)<(s.n:Int):=by omega
       have A9:=Lib.hid (Len_at' W hqx)
       have HZ9:=Lib.hid (len_zero (sp.M (parG s.Gs x)))
       clear hqx
       gi_wp2
       refine ⟨trivial,callsIn_round (A9.out.mono ?_)⟩;rintro e w12 ⟨rfl,rfl⟩
       gi_wp2
       refine wpIn_world (fun W2 hW2=>?_)
       rw [HZ9.out] at hW2
       have hU2:=hI.setX (b:=bE) (by simp) (.bool (sp.M (parG s.Gs x)).isEmpty)
       have hE2:=hE.set (.bool (sp.M (parG s.Gs x)).isEmpty)
       rw [← hW2] at hU2 hE2
       have hk2:Kept [bE] W W2:=by rw [hW2];exact (Kept.refl _ _).setCell (Or.inl (by simp)) _
       have hkl:∀ B,KeepsLoop B W W2:=fun B=>by rw [hW2];exact keeps_loop ((KeepsOthers.setCell _ _ _).from _)
       have HKP:=Lib.hid (show KpS [t,bg,w10.heap.size+1,w10.heap.size] W W2 from KpS.kept hk2 (fun y hy m=>by
        have:=L10.out.2.2.2
        simp only [List.mem_cons,List.not_mem_nil,or_false] at hy m
        omega))
       obtain ⟨_,_,⟨ca2,p3⟩,p4,_,pa,_⟩:=hU2.cells
       obtain ⟨a0,a1,a2⟩:=pa x hxn
       have bW2:=hU2.base (by simpa using nbx) NBX.out.1 B10.out
       obtain ⟨Fp,hqp,_,_⟩:=hU2.queue hpn
       have HQ2:=Lib.hid (hqp.below (Below.refl W2.heap.size W2).drew)
       have HFL:=Lib.hid hqp.ids.2.2.2.2.2
       have hA:Ch.Fits (sp.A x).1 (sp.A x).2.1 (sp.A x).2.2:=by
        obtain ⟨_,_,hn',_,_,hrx,_,_⟩:=hU2
        exact hrx.aok x (by rw [hn'];exact hxn)
       have hcr:0≤sp.cr∧sp.cr≤18446744073709551615:=by
        obtain ⟨_,_,_,_,_,hrx,_,_⟩:=hU2
        exact hrx.cr0
       have A10:=Lib.hid fun W=>plWoken_at (sp.A x).1 (sp.A x).2.1 (sp.A x).2.2 (sp.fl (parG s.Gs x)) sp.cr W hA HFL.out hcr
       have HYF:=Lib.hid (wokenX_fits (x:=sp.A x) hA HFL.out hcr.1)
       have hxm:(x:Int)<(s.n:Int):=by omega
       have z1:IntKind.i64.wrap (65536+(x:Int))=65536+(x:Int):=IntWalk.i64_in _ (by have:=HPOS.out;omega)
       have HIDX:=Lib.hid (show (Lit.int .i64 (65536+(x:Int))).wf=true from wfI (by omega) (by have:=HPOS.out;omega))
       have HM:=Lib.hid (show enUp (parG s.Gs) s7 e0 (pre++[x])=(enQ sp (parG s.Gs x) (65536+x) (wokenX (sp.A x) (sp.fl (parG s.Gs x)) sp.cr),(sp.M (parG s.Gs x)).isEmpty) by rw [HSN.out];rfl)
       have HU2:=Lib.hid hU2
       have HE2:=Lib.hid hE2
       have HKL:=Lib.hid hkl
       have HPN:=Lib.hid hpn
       clear hU2 hE2 hk2 hkl hqp hA hcr hW2 hI hE cE fE q1 q2 q3 q4 qc qa pa hpx hx hlr hl HZ9 A9
       have HQ2a:=Lib.hid (show QIn (W2.alloc (.cells #[.int .u64 0,.int .u32 0,.int .u32 0] 40)).drew (qp (parG s.Gs x)) Fp qN (sp.M (parG s.Gs x)) (sp.fl (parG s.Gs x)) from HQ2.out.below (below_a W2.drew (.cells #[.int .u64 0,.int .u32 0,.int .u32 0] 40)))
       have mx:bx∉[W2.heap.size]:=by have:=lt_of_cell bW2;simp;omega
       have mt:t∉[W2.heap.size]:=by have:=lt_of_cell p4;simp;omega
       have ma:ba∉[W2.heap.size]:=by have:=lt_of_cell a0;simp;omega
       generalize wokenX (sp.A x) (sp.fl (parG s.Gs x)) sp.cr=y at *
       generalize parG s.Gs x=px at *
       have hS0:Kept [W2.heap.size] W2 W2.drew∧W2.drew.cell? ⟨bx,0,none⟩=some (.pointer (some ⟨t,0,none⟩))∧W2.drew.cell? ⟨t,2,none⟩=some (.slice (some ⟨ba,0,none⟩) s.n ca2)∧W2.drew.cell? ⟨t,4,none⟩=some (.int .u64 sp.cr)∧W2.drew.cell? ⟨ba,x*3,none⟩=some (.int .u64 (sp.A x).1)∧W2.drew.cell? ⟨ba,x*3+1,none⟩=some (.int .u32 (sp.A x).2.1)∧W2.drew.cell? ⟨ba,x*3+2,none⟩=some (.int .u32 (sp.A x).2.2):=⟨Kept.drew (Kept.refl _ _),cell_dr bW2,cell_dr p3,cell_dr p4,cell_dr a0,cell_dr a1,cell_dr a2⟩
       refine wpIn_region_held_drew (by kernel_rfl) (S:=fun w'=>Kept [W2.heap.size] W2 w'∧w'.cell? ⟨bx,0,none⟩=some (.pointer (some ⟨t,0,none⟩))∧w'.cell? ⟨t,2,none⟩=some (.slice (some ⟨ba,0,none⟩) s.n ca2)∧w'.cell? ⟨t,4,none⟩=some (.int .u64 sp.cr)∧w'.cell? ⟨ba,x*3,none⟩=some (.int .u64 (sp.A x).1)∧w'.cell? ⟨ba,x*3+1,none⟩=some (.int .u32 (sp.A x).2.1)∧w'.cell? ⟨ba,x*3+2,none⟩=some (.int .u32 (sp.A x).2.2)) (by kernel_rfl) hS0 (fun hHeld=>?_)
       refine takeA 0 ?_
       refine takeA 1 ?_
       refine takeA 2 ?_
       refine takeA 3 ?_
       refine takeA 4 ?_
       refine takeA 5 ?_
       refine takeA 6 ?_
       refine takeA 7 ?_
       refine takeA 9 ?_
       refine takeA 10 ?_
       refine takeA 11 ?_
       refine takeA 12 ?_
       refine readyA [8,17] (consA (fun K hK=>?_) (consA (fun K hK=>?_) .nil))
       ·skip
        go_simp
        refine (Floor_at _ HQ2.out).mono ?_
        rintro e w3 ⟨rfl,rfl⟩
        go_wp2_with fail
        refine outA hK kpK_6 (fun hHeld8=>?_)
        clear hK K
        refine readyA [13,17] (consA (fun K hK=>?_) (consA (fun K hK=>?_) .nil))
        ·skip
         go_simp
         refine (A10.out _).mono ?_
         rintro e w13 ⟨rfl,hb13⟩
         have hk13:=Kept.of (S:=[W2.heap.size]) hb13
         have HB13:=Lib.hid (Below.step (Below.refl W2.heap.size W2).drew hb13)
         go_wp2_with fail
         refine outA hK kpK_6 (fun hHeld13=>?_)
         clear hK K
         refine takeA 14 ?_
         refine takeA 15 ?_
         refine takeA 16 ?_
         refine readyA [17] (consA (fun K hK=>?_) .nil)
         go_simp
         refine outA hK kpK_6 (fun hHeld17=>?_)
         clear hK K
         refine readyA [18] (consA (fun K hK=>?_) .nil)
         go_simp
         have hk18:=(((Kept.refl [W2.heap.size] w13).setCell (p:=⟨W2.heap.size,0,none⟩) (Or.inl (by simp)) (.int .u64 y.1)).setCell (p:=⟨W2.heap.size,1,none⟩) (Or.inl (by simp)) (.int .u32 y.2.1)).setCell (p:=⟨W2.heap.size,2,none⟩) (Or.inl (by simp)) (.int .u32 y.2.2)
         refine outA hK kpK_6 (fun hHeld18=>?_)
         clear hK K
         refine takeA 19 ?_
         refine doneA ?_
         first
          | (
           obtain ⟨W3,hW3⟩:∃ X,X=w13.alloc (.cells #[.int .u64 y.1,.int .u32 y.2.1,.int .u32 y.2.2] 40):=⟨_,rfl⟩
           rw [← hW3]
           obtain ⟨b18,hb18⟩:∃ b,b=w13.heap.size:=⟨_,rfl⟩
           rw [← hb18]
           have x0:W3.cell? ⟨b18,0,none⟩=some (.int .u64 y.1):=by rw [hW3];exact cell_nwE hb18 _ _ 0 _ rfl
           have x1:W3.cell? ⟨b18,1,none⟩=some (.int .u32 y.2.1):=by rw [hW3];exact cell_nwE hb18 _ _ 1 _ rfl
           have x2:W3.cell? ⟨b18,2,none⟩=some (.int .u32 y.2.2):=by rw [hW3];exact cell_nwE hb18 _ _ 2 _ rfl
           have hB3:Below W2.heap.size W2 W3:=by rw [hW3];exact Below.allocS HB13.out _)
          | (
           obtain ⟨W3,hW3⟩:∃ X,X=(((w13.setCell ⟨W2.heap.size,0,none⟩ (.int .u64 y.1)).setCell ⟨W2.heap.size,1,none⟩ (.int .u32 y.2.1)).setCell ⟨W2.heap.size,2,none⟩ (.int .u32 y.2.2)):=⟨_,rfl⟩
           rw [← hW3]
           obtain ⟨b18,hb18⟩:∃ b,b=W2.heap.size:=⟨_,rfl⟩
           rw [← hb18]
           have x0:W3.cell? ⟨b18,0,none⟩=some (.int .u64 y.1):=by rw [hW3,hb18];exact cell_set_ne (cell_set_ne (cell_set_eq q0) (Or.inr (by omega))) (Or.inr (by omega))
           have x1:W3.cell? ⟨b18,1,none⟩=some (.int .u32 y.2.1):=by rw [hW3,hb18];exact cell_set_ne (cell_set_eq (cell_set_ne q1 (Or.inr (by omega)))) (Or.inr (by omega))
           have x2:W3.cell? ⟨b18,2,none⟩=some (.int .u32 y.2.2):=by rw [hW3,hb18];exact cell_set_eq (cell_set_ne (cell_set_ne q2 (Or.inr (by omega))) (Or.inr (by omega)))
           have hB3:Below W2.heap.size W2 W3:=by rw [hW3];exact ((HB13.out.setCell (by simp) _).setCell (by simp) _).setCell (by simp) _)
         clear hW3 hb18
         have HU3:=Lib.hid (HU2.out.below hB3)
         obtain ⟨F3,hq3,hF3,hgo3⟩:=HU3.out.queue HPN.out
         have HQ3:=Lib.hid hq3
         have HGO:=Lib.hid hgo3
         have E3:=Lib.hid (show Boxed W3 bE 4 (.bool (sp.M px).isEmpty) from (hB3.block _ HE2.out.lt).trans HE2.out)
         have HB3:=Lib.hid hB3
         have nE:bE∉F3:=fun m=>by
          rcases (hF3 _ m).1 with q | q
          ·exact NBX.out.2.2.2 q
          ·have:=L10.out.2.2.2;omega
         have NE:=Lib.hid nE
         clear hq3 hgo3 hF3 hB3 nE hS0 hHeld
         gi_wp2
         refine ⟨trivial,callsIn_round ((Enter_at (65536+(x:Int)) y W3 HQ3.out HIDX.out HYF.out).mono ?_)⟩
         rintro e w14 ⟨rfl,F14,h14,s14⟩
         gi_wp2
         obtain ⟨u14,kp14,kl14⟩:=HGO.out _ _ _ ⟨F14,h14,s14⟩
         have E14:Boxed w14 bE 4 (.bool (sp.M px).isEmpty):=(s14.kept.block _ E3.out.lt NE.out).trans E3.out
         refine ⟨((HKL.out _).trans (KeepsLoop.below HB3.out)).trans (kl14 _),(HKP.out.t (KpS.kept (G:=[]) (Kept.of HB3.out) (fun _ _=>by simp))).t kp14,?_⟩
         dsimp only
         rw [HM.out]
         exact ⟨u14,E14⟩
        ·skip
         go_simp
         refine outA hK kpK_6 (fun hHeld17=>?_)
         clear hK K
         refine readyA [13] (consA (fun K hK=>?_) .nil)
         go_simp
         refine (A10.out _).mono ?_
         rintro e w13 ⟨rfl,hb13⟩
         have hk13:=Kept.of (S:=[W2.heap.size]) hb13
         have q0:=cell_later hb13 (cell_dr (cell_nw W2 #[.int .u64 0,.int .u32 0,.int .u32 0] 40 0 _ rfl))
         have q1:=cell_later hb13 (cell_dr (cell_nw W2 #[.int .u64 0,.int .u32 0,.int .u32 0] 40 1 _ rfl))
         have q2:=cell_later hb13 (cell_dr (cell_nw W2 #[.int .u64 0,.int .u32 0,.int .u32 0] 40 2 _ rfl))
         have f0:=frz_later hb13 (show (W2.alloc (.cells #[.int .u64 0,.int .u32 0,.int .u32 0] 40)).drew.frozen? ⟨W2.heap.size,0,none⟩=false from frz_nw W2 _ _ 0) (by simp)
         have f1:=frz_later hb13 (show (W2.alloc (.cells #[.int .u64 0,.int .u32 0,.int .u32 0] 40)).drew.frozen? ⟨W2.heap.size,1,none⟩=false from frz_nw W2 _ _ 1) (by simp)
         have f2:=frz_later hb13 (show (W2.alloc (.cells #[.int .u64 0,.int .u32 0,.int .u32 0] 40)).drew.frozen? ⟨W2.heap.size,2,none⟩=false from frz_nw W2 _ _ 2) (by simp)
         have HB13:=Lib.hid (Below.step (Below.allocS (Below.refl W2.heap.size W2) (.cells #[.int .u64 0,.int .u32 0,.int .u32 0] 40)).drew hb13)
         go_wp2_with fail
         refine outA hK kpK_6 (fun hHeld13=>?_)
         clear hK K
         refine takeA 14 ?_
         refine takeA 15 ?_
         refine takeA 16 ?_
         refine readyA [18] (consA (fun K hK=>?_) .nil)
         go_simp
         have hk18:=(((Kept.refl [W2.heap.size] w13).setCell (p:=⟨W2.heap.size,0,none⟩) (Or.inl (by simp)) (.int .u64 y.1)).setCell (p:=⟨W2.heap.size,1,none⟩) (Or.inl (by simp)) (.int .u32 y.2.1)).setCell (p:=⟨W2.heap.size,2,none⟩) (Or.inl (by simp)) (.int .u32 y.2.2)
         refine outA hK kpK_6 (fun hHeld18=>?_)
         clear hK K
         refine takeA 19 ?_
         refine doneA ?_
         first
          | (
           obtain ⟨W3,hW3⟩:∃ X,X=w13.alloc (.cells #[.int .u64 y.1,.int .u32 y.2.1,.int .u32 y.2.2] 40):=⟨_,rfl⟩
           rw [← hW3]
           obtain ⟨b18,hb18⟩:∃ b,b=w13.heap.size:=⟨_,rfl⟩
           rw [← hb18]
           have x0:W3.cell? ⟨b18,0,none⟩=some (.int .u64 y.1):=by rw [hW3];exact cell_nwE hb18 _ _ 0 _ rfl
           have x1:W3.cell? ⟨b18,1,none⟩=some (.int .u32 y.2.1):=by rw [hW3];exact cell_nwE hb18 _ _ 1 _ rfl
           have x2:W3.cell? ⟨b18,2,none⟩=some (.int .u32 y.2.2):=by rw [hW3];exact cell_nwE hb18 _ _ 2 _ rfl
           have hB3:Below W2.heap.size W2 W3:=by rw [hW3];exact Below.allocS HB13.out _)
          | (
           obtain ⟨W3,hW3⟩:∃ X,X=(((w13.setCell ⟨W2.heap.size,0,none⟩ (.int .u64 y.1)).setCell ⟨W2.heap.size,1,none⟩ (.int .u32 y.2.1)).setCell ⟨W2.heap.size,2,none⟩ (.int .u32 y.2.2)):=⟨_,rfl⟩
           rw [← hW3]
           obtain ⟨b18,hb18⟩:∃ b,b=W2.heap.size:=⟨_,rfl⟩
           rw [← hb18]
           have x0:W3.cell? ⟨b18,0,none⟩=some (.int .u64 y.1):=by rw [hW3,hb18];exact cell_set_ne (cell_set_ne (cell_set_eq q0) (Or.inr (by omega))) (Or.inr (by omega))
           have x1:W3.cell? ⟨b18,1,none⟩=some (.int .u32 y.2.1):=by rw [hW3,hb18];exact cell_set_ne (cell_set_eq (cell_set_ne q1 (Or.inr (by omega)))) (Or.inr (by omega))
           have x2:W3.cell? ⟨b18,2,none⟩=some (.int .u32 y.2.2):=by rw [hW3,hb18];exact cell_set_eq (cell_set_ne (cell_set_ne q2 (Or.inr (by omega))) (Or.inr (by omega)))
           have hB3:Below W2.heap.size W2 W3:=by rw [hW3];exact ((HB13.out.setCell (by simp) _).setCell (by simp) _).setCell (by simp) _)
         clear hW3 hb18
         have HU3:=Lib.hid (HU2.out.below hB3)
         obtain ⟨F3,hq3,hF3,hgo3⟩:=HU3.out.queue HPN.out
         have HQ3:=Lib.hid hq3
         have HGO:=Lib.hid hgo3
         have E3:=Lib.hid (show Boxed W3 bE 4 (.bool (sp.M px).isEmpty) from (hB3.block _ HE2.out.lt).trans HE2.out)
         have HB3:=Lib.hid hB3
         have nE:bE∉F3:=fun m=>by
          rcases (hF3 _ m).1 with q | q
          ·exact NBX.out.2.2.2 q
          ·have:=L10.out.2.2.2;omega
         have NE:=Lib.hid nE
         clear hq3 hgo3 hF3 hB3 nE hS0 hHeld
         gi_wp2
         refine ⟨trivial,callsIn_round ((Enter_at (65536+(x:Int)) y W3 HQ3.out HIDX.out HYF.out).mono ?_)⟩
         rintro e w14 ⟨rfl,F14,h14,s14⟩
         gi_wp2
         obtain ⟨u14,kp14,kl14⟩:=HGO.out _ _ _ ⟨F14,h14,s14⟩
         have E14:Boxed w14 bE 4 (.bool (sp.M px).isEmpty):=(s14.kept.block _ E3.out.lt NE.out).trans E3.out
         refine ⟨((HKL.out _).trans (KeepsLoop.below HB3.out)).trans (kl14 _),(HKP.out.t (KpS.kept (G:=[]) (Kept.of HB3.out) (fun _ _=>by simp))).t kp14,?_⟩
         dsimp only
         rw [HM.out]
         exact ⟨u14,E14⟩
       ·skip
        go_simp
        refine outA hK kpK_6 (fun hHeld17=>?_)
        clear hK K
        refine readyA [8] (consA (fun K hK=>?_) .nil)
        go_simp
        refine (Floor_at _ HQ2a.out).mono ?_
        rintro e w3 ⟨rfl,rfl⟩
        go_wp2_with fail
        refine outA hK kpK_6 (fun hHeld8=>?_)
        clear hK K
        refine readyA [13] (consA (fun K hK=>?_) .nil)
        go_simp
        refine (A10.out _).mono ?_
        rintro e w13 ⟨rfl,hb13⟩
        have hk13:=Kept.of (S:=[W2.heap.size]) hb13
        have q0:=cell_later hb13 (cell_dr (cell_nw W2 #[.int .u64 0,.int .u32 0,.int .u32 0] 40 0 _ rfl))
        have q1:=cell_later hb13 (cell_dr (cell_nw W2 #[.int .u64 0,.int .u32 0,.int .u32 0] 40 1 _ rfl))
        have q2:=cell_later hb13 (cell_dr (cell_nw W2 #[.int .u64 0,.int .u32 0,.int .u32 0] 40 2 _ rfl))
        have f0:=frz_later hb13 (show (W2.alloc (.cells #[.int .u64 0,.int .u32 0,.int .u32 0] 40)).drew.frozen? ⟨W2.heap.size,0,none⟩=false from frz_nw W2 _ _ 0) (by simp)
        have f1:=frz_later hb13 (show (W2.alloc (.cells #[.int .u64 0,.int .u32 0,.int .u32 0] 40)).drew.frozen? ⟨W2.heap.size,1,none⟩=false from frz_nw W2 _ _ 1) (by simp)
        have f2:=frz_later hb13 (show (W2.alloc (.cells #[.int .u64 0,.int .u32 0,.int .u32 0] 40)).drew.frozen? ⟨W2.heap.size,2,none⟩=false from frz_nw W2 _ _ 2) (by simp)
        have HB13:=Lib.hid (Below.step (Below.allocS (Below.refl W2.heap.size W2) (.cells #[.int .u64 0,.int .u32 0,.int .u32 0] 40)).drew hb13)
        go_wp2_with fail
        refine outA hK kpK_6 (fun hHeld13=>?_)
        clear hK K
        refine takeA 14 ?_
        refine takeA 15 ?_
        refine takeA 16 ?_
        refine readyA [18] (consA (fun K hK=>?_) .nil)
        go_simp
        have hk18:=(((Kept.refl [W2.heap.size] w13).setCell (p:=⟨W2.heap.size,0,none⟩) (Or.inl (by simp)) (.int .u64 y.1)).setCell (p:=⟨W2.heap.size,1,none⟩) (Or.inl (by simp)) (.int .u32 y.2.1)).setCell (p:=⟨W2.heap.size,2,none⟩) (Or.inl (by simp)) (.int .u32 y.2.2)
        refine outA hK kpK_6 (fun hHeld18=>?_)
        clear hK K
        refine takeA 19 ?_
        refine doneA ?_
        first
         | (
          obtain ⟨W3,hW3⟩:∃ X,X=w13.alloc (.cells #[.int .u64 y.1,.int .u32 y.2.1,.int .u32 y.2.2] 40):=⟨_,rfl⟩
          rw [← hW3]
          obtain ⟨b18,hb18⟩:∃ b,b=w13.heap.size:=⟨_,rfl⟩
          rw [← hb18]
          have x0:W3.cell? ⟨b18,0,none⟩=some (.int .u64 y.1):=by rw [hW3];exact cell_nwE hb18 _ _ 0 _ rfl
          have x1:W3.cell? ⟨b18,1,none⟩=some (.int .u32 y.2.1):=by rw [hW3];exact cell_nwE hb18 _ _ 1 _ rfl
          have x2:W3.cell? ⟨b18,2,none⟩=some (.int .u32 y.2.2):=by rw [hW3];exact cell_nwE hb18 _ _ 2 _ rfl
          have hB3:Below W2.heap.size W2 W3:=by rw [hW3];exact Below.allocS HB13.out _)
         | (
          obtain ⟨W3,hW3⟩:∃ X,X=(((w13.setCell ⟨W2.heap.size,0,none⟩ (.int .u64 y.1)).setCell ⟨W2.heap.size,1,none⟩ (.int .u32 y.2.1)).setCell ⟨W2.heap.size,2,none⟩ (.int .u32 y.2.2)):=⟨_,rfl⟩
          rw [← hW3]
          obtain ⟨b18,hb18⟩:∃ b,b=W2.heap.size:=⟨_,rfl⟩
          rw [← hb18]
          have x0:W3.cell? ⟨b18,0,none⟩=some (.int .u64 y.1):=by rw [hW3,hb18];exact cell_set_ne (cell_set_ne (cell_set_eq q0) (Or.inr (by omega))) (Or.inr (by omega))
          have x1:W3.cell? ⟨b18,1,none⟩=some (.int .u32 y.2.1):=by rw [hW3,hb18];exact cell_set_ne (cell_set_eq (cell_set_ne q1 (Or.inr (by omega)))) (Or.inr (by omega))
          have x2:W3.cell? ⟨b18,2,none⟩=some (.int .u32 y.2.2):=by rw [hW3,hb18];exact cell_set_eq (cell_set_ne (cell_set_ne q2 (Or.inr (by omega))) (Or.inr (by omega)))
          have hB3:Below W2.heap.size W2 W3:=by rw [hW3];exact ((HB13.out.setCell (by simp) _).setCell (by simp) _).setCell (by simp) _)
        clear hW3 hb18
        have HU3:=Lib.hid (HU2.out.below hB3)
        obtain ⟨F3,hq3,hF3,hgo3⟩:=HU3.out.queue HPN.out
        have HQ3:=Lib.hid hq3
        have HGO:=Lib.hid hgo3
        have E3:=Lib.hid (show Boxed W3 bE 4 (.bool (sp.M px).isEmpty) from (hB3.block _ HE2.out.lt).trans HE2.out)
        have HB3:=Lib.hid hB3
        have nE:bE∉F3:=fun m=>by
         rcases (hF3 _ m).1 with q | q
         ·exact NBX.out.2.2.2 q
         ·have:=L10.out.2.2.2;omega
        have NE:=Lib.hid nE
        clear hq3 hgo3 hF3 hB3 nE hS0 hHeld
        gi_wp2
        refine ⟨trivial,callsIn_round ((Enter_at (65536+(x:Int)) y W3 HQ3.out HIDX.out HYF.out).mono ?_)⟩
        rintro e w14 ⟨rfl,F14,h14,s14⟩
        gi_wp2
        obtain ⟨u14,kp14,kl14⟩:=HGO.out _ _ _ ⟨F14,h14,s14⟩
        have E14:Boxed w14 bE 4 (.bool (sp.M px).isEmpty):=(s14.kept.block _ E3.out.lt NE.out).trans E3.out
        refine ⟨((HKL.out _).trans (KeepsLoop.below HB3.out)).trans (kl14 _),(HKP.out.t (KpS.kept (G:=[]) (Kept.of HB3.out) (fun _ _=>by simp))).t kp14,?_⟩
        dsimp only
        rw [HM.out]
        exact ⟨u14,E14⟩
     case done =>
      rintro D ys W hD rfl ⟨hI,_⟩ hK
      obtain ⟨sp,hsp⟩:∃ q,q=(enUp (parG s.Gs) s7 e0 (pathT (parG s.Gs) gn)).1:=⟨_,rfl⟩
      rw [← hsp] at hI
      have HSP:=Lib.hid hsp
      have z0:=hI.base (by simpa using nyx) NBX.out.2.1 Z10.out.1
      have z1:=hI.base (by simpa using nyx) NBX.out.2.1 Z10.out.2.1
      have z2:=hI.base (by simpa using nyx) NBX.out.2.1 Z10.out.2.2
      have y0:=hI.base (by simpa using nby) NBX.out.2.2.1 Y10.out.1
      have y1:=hI.base (by simpa using nby) NBX.out.2.2.1 Y10.out.2.1
      have y2:=hI.base (by simpa using nby) NBX.out.2.2.1 Y10.out.2.2
      have fz0:=hI.baseF (by simpa using nyx) NBX.out.2.1 L10.out.2.1 FZ10.out.1
      have fz1:=hI.baseF (by simpa using nyx) NBX.out.2.1 L10.out.2.1 FZ10.out.2.1
      have fz2:=hI.baseF (by simpa using nyx) NBX.out.2.1 L10.out.2.1 FZ10.out.2.2
      rw [← HBX.out] at z0 z1 z2 fz0 fz1 fz2
      clear hsp
      gi_wp2
      go_wp2_with fail
      rw [show (enUp (parG s.Gs) (enT (enQ s gn id ax) gn id) (List.isEmpty (s.M gn)) (pathT (parG s.Gs) gn)).1=sp by rw [← HL7.out,← HE0.out,← HSP.out]]
      have hbx:=HBX.out
      have l10:bx+1<w10.heap.size:=by have:=L10.out.2.1;omega
      have nbz:bx+1∉TF t bg bq ba bm (upd Fq gn F9) s.n:=by rw [hbx];exact NBX.out.2.1
      have hDn:bx+1≠D:=by omega
      have hpk:=putObj_kept (((W.setCell ⟨bx+1,0,none⟩ (.int .u64 ax.1)).setCell ⟨bx+1,1,none⟩ (.int .u32 ax.2.1)).setCell ⟨bx+1,2,none⟩ (.int .u32 ax.2.2)) D (.deferred none)
      have r0:=hpk.cellAt (cell_set_ne (cell_set_ne (cell_set_eq z0) (Or.inr (by omega))) (Or.inr (by omega))) (by simpa using hDn)
      have r1:=hpk.cellAt (cell_set_ne (cell_set_eq (cell_set_ne z1 (Or.inr (by omega)))) (Or.inr (by omega))) (by simpa using hDn)
      have r2:=hpk.cellAt (cell_set_eq (cell_set_ne (cell_set_ne z2 (Or.inr (by omega))) (Or.inr (by omega)))) (by simpa using hDn)
      refine retColl (D:=D) (v:=.tuple #[.agg #[.int .u64 ax.1,.int .u32 ax.2.1,.int .u32 ax.2.2],.int .i64 0]) rfl ?_ (by simp [results,Tryz.results47,go_sem,r0,r1,r2]) ⟨rfl,?_⟩
      ·exact (heap_set_ne (Ne.symm hDn)).trans ((heap_set_ne (Ne.symm hDn)).trans ((heap_set_ne (Ne.symm hDn)).trans hK))
      ·refine hI.fin (G:=[bx+1,D]) HS10.out (fun b hb=>by have:=HE5.out;have:=HBE.out;simp at hb;omega) (Kept.trans (Kept.mono ((((Kept.refl [bx+1] W).setCell (Or.inl (by simp)) _).setCell (Or.inl (by simp)) _).setCell (Or.inl (by simp)) _) (fun b hb=>by simp at hb;subst hb;simp)) (hpk.mono (fun b hb=>by simp at hb;subst hb;simp))) (fun b hb=>?_)
       simp only [List.mem_cons,List.not_mem_nil,or_false] at hb
       rcases hb with rfl | rfl
       ·exact .inl ⟨by omega,l10,nbz⟩
       ·exact .inr ⟨by omega,_,hK,rfl,rfl⟩
     case stop =>
      rintro D c pre W hD hpx ⟨⟨rfl,hst⟩,hI⟩ hK
      obtain ⟨sp,hsp⟩:∃ q,q=(enUp (parG s.Gs) s7 e0 (pathT (parG s.Gs) gn)).1:=⟨_,rfl⟩
      have hpe:enUp (parG s.Gs) s7 e0 pre=((enUp (parG s.Gs) s7 e0 pre).1,false):=by rw [← hst]
      rw [show (enUp (parG s.Gs) s7 e0 pre).1=sp by rw [hsp,enUp_pre hpx hpe]] at hI
      clear hpe hst
      have HSP:=Lib.hid hsp
      have z0:=hI.base (by simpa using nyx) NBX.out.2.1 Z10.out.1
      have z1:=hI.base (by simpa using nyx) NBX.out.2.1 Z10.out.2.1
      have z2:=hI.base (by simpa using nyx) NBX.out.2.1 Z10.out.2.2
      have y0:=hI.base (by simpa using nby) NBX.out.2.2.1 Y10.out.1
      have y1:=hI.base (by simpa using nby) NBX.out.2.2.1 Y10.out.2.1
      have y2:=hI.base (by simpa using nby) NBX.out.2.2.1 Y10.out.2.2
      have fz0:=hI.baseF (by simpa using nyx) NBX.out.2.1 L10.out.2.1 FZ10.out.1
      have fz1:=hI.baseF (by simpa using nyx) NBX.out.2.1 L10.out.2.1 FZ10.out.2.1
      have fz2:=hI.baseF (by simpa using nyx) NBX.out.2.1 L10.out.2.1 FZ10.out.2.2
      rw [← HBX.out] at z0 z1 z2 fz0 fz1 fz2
      clear hsp
      gi_wp2
      go_wp2_with fail
      rw [show (enUp (parG s.Gs) (enT (enQ s gn id ax) gn id) (List.isEmpty (s.M gn)) (pathT (parG s.Gs) gn)).1=sp by rw [← HL7.out,← HE0.out,← HSP.out]]
      have hbx:=HBX.out
      have l10:bx+1<w10.heap.size:=by have:=L10.out.2.1;omega
      have nbz:bx+1∉TF t bg bq ba bm (upd Fq gn F9) s.n:=by rw [hbx];exact NBX.out.2.1
      have hDn:bx+1≠D:=by omega
      have hpk:=putObj_kept (((W.setCell ⟨bx+1,0,none⟩ (.int .u64 ax.1)).setCell ⟨bx+1,1,none⟩ (.int .u32 ax.2.1)).setCell ⟨bx+1,2,none⟩ (.int .u32 ax.2.2)) D (.deferred none)
      have r0:=hpk.cellAt (cell_set_ne (cell_set_ne (cell_set_eq z0) (Or.inr (by omega))) (Or.inr (by omega))) (by simpa using hDn)
      have r1:=hpk.cellAt (cell_set_ne (cell_set_eq (cell_set_ne z1 (Or.inr (by omega)))) (Or.inr (by omega))) (by simpa using hDn)
      have r2:=hpk.cellAt (cell_set_eq (cell_set_ne (cell_set_ne z2 (Or.inr (by omega))) (Or.inr (by omega)))) (by simpa using hDn)
      refine retColl (D:=D) (v:=.tuple #[.agg #[.int .u64 ax.1,.int .u32 ax.2.1,.int .u32 ax.2.2],.int .i64 0]) rfl ?_ (by simp [results,Tryz.results47,go_sem,r0,r1,r2]) ⟨rfl,?_⟩
      ·exact (heap_set_ne (Ne.symm hDn)).trans ((heap_set_ne (Ne.symm hDn)).trans ((heap_set_ne (Ne.symm hDn)).trans hK))
      ·refine hI.fin (G:=[bx+1,D]) HS10.out (fun b hb=>by have:=HE5.out;have:=HBE.out;simp at hb;omega) (Kept.trans (Kept.mono ((((Kept.refl [bx+1] W).setCell (Or.inl (by simp)) _).setCell (Or.inl (by simp)) _).setCell (Or.inl (by simp)) _) (fun b hb=>by simp at hb;subst hb;simp)) (hpk.mono (fun b hb=>by simp at hb;subst hb;simp))) (fun b hb=>?_)
       simp only [List.mem_cons,List.not_mem_nil,or_false] at hb
       rcases hb with rfl | rfl
       ·exact .inl ⟨by omega,l10,nbz⟩
       ·exact .inr ⟨by omega,_,hK,rfl,rfl⟩
   ·have HC:=Lib.hid (show enC s id (gn:Int) ac=2 by unfold enC;rw [HN.out,HH.out];simp [hac])
    rw [HC.out,(en_no ax HC.out (by decide)).1,(en_no ax HC.out (by decide)).2]
    have y1:(ac != 0)=true:=by simp [hac]
    clear hac
    go_enter Tryz.func47,Tryz.ntmps47
    go_wp2_with fail
    rw [← HW0.out]
    refine A1.out.mono ?_;rintro e w5 ⟨rfl,rfl⟩
    go_wp2_with fail
    refine A2.out.mono ?_;rintro e w5 ⟨rfl,rfl⟩
    go_wp2_with fail
    refine A3.out.mono ?_;rintro e w5 ⟨rfl,rfl⟩
    go_wp2_with fail
    refine A4.out.mono ?_;rintro e w5 ⟨rfl,rfl⟩
    go_wp2_with fail
    refine A5.out.mono ?_;rintro e w5 ⟨rfl,hb5⟩
    replace z0:=cell_al (.cells #[.int .u64 ax.1,.int .u32 ax.2.1,.int .u32 ax.2.2] 40) (cell_later hb5 z0)
    replace z1:=cell_al (.cells #[.int .u64 ax.1,.int .u32 ax.2.1,.int .u32 ax.2.2] 40) (cell_later hb5 z1)
    replace z2:=cell_al (.cells #[.int .u64 ax.1,.int .u32 ax.2.1,.int .u32 ax.2.2] 40) (cell_later hb5 z2)
    replace b0:=cell_al (.cells #[.int .u64 ax.1,.int .u32 ax.2.1,.int .u32 ax.2.2] 40) (cell_later hb5 b0)
    have hb6:Below W0.heap.size W0 (w5.alloc (.cells #[.int .u64 ax.1,.int .u32 ax.2.1,.int .u32 ax.2.2] 40)):=Below.allocS hb5 _
    replace f0:=frz_later hb6 f0 (by omega)
    replace f1:=frz_later hb6 f1 (by omega)
    replace f2:=frz_later hb6 f2 (by omega)
    have hr6:=HR0.out.below hb6
    have hs5:=hb5.size
    have HB6:=Lib.hid hb6
    have HR6:=Lib.hid hr6
    clear hb5 hb6 hr6
    go_wp2_with fail
    refine bodyPost_ret (v:=.tuple #[.agg #[.int .u64 0,.int .u32 0,.int .u32 0],.int .i64 2]) (by simp [results,Tryz.results47,go_sem,z0,z1,z2,f0,f1,f2]) rfl ⟨rfl,TAfter.same HT.out ?_⟩
    exact (((Below.step HB0.out HB6.out).setCell (by simp) _).setCell (by simp) _).setCell (by simp) _
end Go.Proofs.YtfgmglghlapbcaaGreat
