/-
  Layer 23 (place): New, Woken, Moved.
-/
import Derived.Test.YtapnaocdehahdaaGreatTreeM
namespace Go.Proofs.YtapnaocdehahdaaGreat
open Go.RowKit Go.Maps Go.IntWalk Go.Lib
set_option linter.unusedVariables false
set_option linter.unusedSimpArgs false
theorem pless_at (a b:Int) (w:World) (ha:0≤a∧a≤18446744073709551615) (hb:0≤b):Calls Tryz.prog 214 #[.int .u64 a,.int .u64 b] w fun e w'=>e=.returned (.int .u64 (a - min a b))∧w=w':=by
 have z:IntKind.u64.wrap (a - min a b)=a - min a b:=IntWalk.u64_in _ (by omega)
 clear ha hb
 go_enter Tryz.func214,Tryz.ntmps214
 go_wp2_with fail
 go_ret
 exact ⟨by simp [z],rfl⟩
set_option maxRecDepth 100000 in
theorem plNew_at (fl k:Int) (w:World) (hf:0≤fl∧fl≤18446744073709551615) (hk:(Lit.int .i64 k).wf=true):Calls Tryz.prog 149 #[.int .u64 fl,.int .i64 k] w (PlP w (newX fl k) (newC k)):=by
 have b:=wf_i64 hk
 obtain ⟨u,hu⟩:∃ u,IntKind.u32.wrap k=u:=⟨_,rfl⟩
 have hu0:0≤u∧u≤4294967295:=by rw [← hu,IntKind.wrap_u32];omega
 have huk:u=k↔0≤k∧k≤4294967295:=by rw [← hu,IntKind.wrap_u32];omega
 have hui:IntKind.i64.wrap u=u:=IntWalk.i64_in _ (by omega)
 have A1:=Lib.hid fun W=>right_any fl 0 u W (by unfold Ch.Fits;omega)
 unfold newX newC
 clear hk
 by_cases h1:u=k
 ·have z1:(u != k)=false:=by simp [h1]
  by_cases h2:1≤k∧k≤65536
  ·have HO:=Lib.hid (Ch.okB_t (show Ch.Ok fl 0 u by unfold Ch.Ok;omega))
   rw [if_pos h2,if_pos h2]
   have HU:=Lib.hid h1
   clear h1 h2 huk b hf hu0
   go_enter Tryz.func149,Tryz.ntmps149
   go_wp2_with fail
   refine (A1.out _).mono ?_;rintro e w5 ⟨rfl,hb5⟩;rw [HO.out]
   have z0:w5.cell? ⟨w.heap.size,0,none⟩=some (.int .u64 0):=cell_later hb5 (cell_al (.cells #[.int .u64 fl,.int .u32 0,.int .u32 u] 107) (cell_nw w #[.int .u64 0,.int .u32 0,.int .u32 0] 107 0 _ rfl))
   have f0:w5.frozen? ⟨w.heap.size,0,none⟩=false:=frz_later hb5 (frz_later (below_a _ (.cells #[.int .u64 fl,.int .u32 0,.int .u32 u] 107)) (frz_nw w #[.int .u64 0,.int .u32 0,.int .u32 0] 107 0) (by simp)) (by simp;omega)
   have z1:w5.cell? ⟨w.heap.size,1,none⟩=some (.int .u32 0):=cell_later hb5 (cell_al (.cells #[.int .u64 fl,.int .u32 0,.int .u32 u] 107) (cell_nw w #[.int .u64 0,.int .u32 0,.int .u32 0] 107 1 _ rfl))
   have f1:w5.frozen? ⟨w.heap.size,1,none⟩=false:=frz_later hb5 (frz_later (below_a _ (.cells #[.int .u64 fl,.int .u32 0,.int .u32 u] 107)) (frz_nw w #[.int .u64 0,.int .u32 0,.int .u32 0] 107 1) (by simp)) (by simp;omega)
   have z2:w5.cell? ⟨w.heap.size,2,none⟩=some (.int .u32 0):=cell_later hb5 (cell_al (.cells #[.int .u64 fl,.int .u32 0,.int .u32 u] 107) (cell_nw w #[.int .u64 0,.int .u32 0,.int .u32 0] 107 2 _ rfl))
   have f2:w5.frozen? ⟨w.heap.size,2,none⟩=false:=frz_later hb5 (frz_later (below_a _ (.cells #[.int .u64 fl,.int .u32 0,.int .u32 u] 107)) (frz_nw w #[.int .u64 0,.int .u32 0,.int .u32 0] 107 2) (by simp)) (by simp;omega)
   have y0:w5.cell? ⟨w.heap.size+1,0,none⟩=some (.int .u64 fl):=cell_later hb5 (cell_nwE (b:=w.heap.size+1) (by simp) #[.int .u64 fl,.int .u32 0,.int .u32 u] 107 0 _ rfl)
   have y1:w5.cell? ⟨w.heap.size+1,1,none⟩=some (.int .u32 0):=cell_later hb5 (cell_nwE (b:=w.heap.size+1) (by simp) #[.int .u64 fl,.int .u32 0,.int .u32 u] 107 1 _ rfl)
   have y2:w5.cell? ⟨w.heap.size+1,2,none⟩=some (.int .u32 u):=cell_later hb5 (cell_nwE (b:=w.heap.size+1) (by simp) #[.int .u64 fl,.int .u32 0,.int .u32 u] 107 2 _ rfl)
   have HB5:=Lib.hid (Below.step (Below.allocS (below_a w (.cells #[.int .u64 0,.int .u32 0,.int .u32 0] 107)) (.cells #[.int .u64 fl,.int .u32 0,.int .u32 u] 107)) hb5)
   clear hb5
   go_wp2_with fail
   rw [← HU.out]
   refine bodyPost_ret (v:=.tuple #[.agg #[.int .u64 fl,.int .u32 0,.int .u32 u],.int .i64 0]) (by simp [results,Tryz.results149,go_sem, *]) rfl ⟨rfl,?_⟩
   exact ((HB5.out.setCell (by simp) _).setCell (by simp) _).setCell (by simp) _
  ·have HO:=Lib.hid (Ch.okB_f (show ¬ Ch.Ok fl 0 u by unfold Ch.Ok;omega))
   rw [if_neg h2,if_neg h2]
   have HU:=Lib.hid h1
   clear h1 h2 huk b hf hu0
   go_enter Tryz.func149,Tryz.ntmps149
   go_wp2_with fail
   refine (A1.out _).mono ?_;rintro e w5 ⟨rfl,hb5⟩;rw [HO.out]
   have z0:w5.cell? ⟨w.heap.size,0,none⟩=some (.int .u64 0):=cell_later hb5 (cell_al (.cells #[.int .u64 fl,.int .u32 0,.int .u32 u] 107) (cell_nw w #[.int .u64 0,.int .u32 0,.int .u32 0] 107 0 _ rfl))
   have f0:w5.frozen? ⟨w.heap.size,0,none⟩=false:=frz_later hb5 (frz_later (below_a _ (.cells #[.int .u64 fl,.int .u32 0,.int .u32 u] 107)) (frz_nw w #[.int .u64 0,.int .u32 0,.int .u32 0] 107 0) (by simp)) (by simp;omega)
   have z1:w5.cell? ⟨w.heap.size,1,none⟩=some (.int .u32 0):=cell_later hb5 (cell_al (.cells #[.int .u64 fl,.int .u32 0,.int .u32 u] 107) (cell_nw w #[.int .u64 0,.int .u32 0,.int .u32 0] 107 1 _ rfl))
   have f1:w5.frozen? ⟨w.heap.size,1,none⟩=false:=frz_later hb5 (frz_later (below_a _ (.cells #[.int .u64 fl,.int .u32 0,.int .u32 u] 107)) (frz_nw w #[.int .u64 0,.int .u32 0,.int .u32 0] 107 1) (by simp)) (by simp;omega)
   have z2:w5.cell? ⟨w.heap.size,2,none⟩=some (.int .u32 0):=cell_later hb5 (cell_al (.cells #[.int .u64 fl,.int .u32 0,.int .u32 u] 107) (cell_nw w #[.int .u64 0,.int .u32 0,.int .u32 0] 107 2 _ rfl))
   have f2:w5.frozen? ⟨w.heap.size,2,none⟩=false:=frz_later hb5 (frz_later (below_a _ (.cells #[.int .u64 fl,.int .u32 0,.int .u32 u] 107)) (frz_nw w #[.int .u64 0,.int .u32 0,.int .u32 0] 107 2) (by simp)) (by simp;omega)
   have y0:w5.cell? ⟨w.heap.size+1,0,none⟩=some (.int .u64 fl):=cell_later hb5 (cell_nwE (b:=w.heap.size+1) (by simp) #[.int .u64 fl,.int .u32 0,.int .u32 u] 107 0 _ rfl)
   have y1:w5.cell? ⟨w.heap.size+1,1,none⟩=some (.int .u32 0):=cell_later hb5 (cell_nwE (b:=w.heap.size+1) (by simp) #[.int .u64 fl,.int .u32 0,.int .u32 u] 107 1 _ rfl)
   have y2:w5.cell? ⟨w.heap.size+1,2,none⟩=some (.int .u32 u):=cell_later hb5 (cell_nwE (b:=w.heap.size+1) (by simp) #[.int .u64 fl,.int .u32 0,.int .u32 u] 107 2 _ rfl)
   have HB5:=Lib.hid (Below.step (Below.allocS (below_a w (.cells #[.int .u64 0,.int .u32 0,.int .u32 0] 107)) (.cells #[.int .u64 fl,.int .u32 0,.int .u32 u] 107)) hb5)
   clear hb5
   go_wp2_with fail
   refine bodyPost_ret (v:=.tuple #[.agg #[.int .u64 0,.int .u32 0,.int .u32 0],.int .i64 2]) (by simp [results,Tryz.results149,go_sem, *]) rfl ⟨rfl,?_⟩
   exact ((HB5.out.setCell (by simp) _).setCell (by simp) _).setCell (by simp) _
 ·have z1:(u != k)=true:=by simp [h1]
  have h2:¬ (1≤k∧k≤65536):=by omega
  rw [if_neg h2,if_neg h2]
  clear h1 h2 huk b hf hu0
  go_enter Tryz.func149,Tryz.ntmps149
  go_wp2_with fail
  refine bodyPost_ret (v:=.tuple #[.agg #[.int .u64 0,.int .u32 0,.int .u32 0],.int .i64 2]) (by simp [results,Tryz.results149,go_sem]) rfl ⟨rfl,?_⟩
  repeat (first | exact Below.refl _ _ | refine Below.step ?_ (by assumption) | refine Below.setCell ?_ (by first | (simp;done) | (simp;omega) | omega) _ | refine Below.allocS ?_ _ | refine Below.drew ?_ | refine below_drewN ?_ _)
set_option maxRecDepth 100000 in
theorem plWoken_at (v r k fl cr:Int) (w:World) (hx:Ch.Fits v r k) (hf:0≤fl∧fl≤18446744073709551615) (hc:0≤cr∧cr≤18446744073709551615) :
  Calls Tryz.prog 155 #[.agg #[.int .u64 v,.int .u32 r,.int .u32 k],.int .u64 fl,.int .u64 cr] w (PlP w (wokenX (v,r,k) fl cr) (wokenC (v,r,k))):=by
 have A1:=Lib.hid fun W=>right_any v r k W hx
 have A2:=Lib.hid fun W=>pless_at fl cr W hf hc.1
 unfold wokenX wokenC
 by_cases h1:Ch.Ok v r k
 ·have HO:=Lib.hid (Ch.okB_t h1)
  rw [if_pos h1,if_pos h1]
  clear h1 hf hc hx
  generalize fl - min fl cr=d at *
  by_cases h2:v<d
  ·rw [if_pos h2]
   have z1:decide (d > v)=true:=decide_eq_true h2
   go_enter Tryz.func155,Tryz.ntmps155
   go_wp2_with fail
   refine (A1.out _).mono ?_;rintro e w5 ⟨rfl,hb5⟩;rw [HO.out]
   have x0:w5.cell? ⟨w.heap.size,0,none⟩=some (.int .u64 v):=cell_later hb5 (cell_al (.cells #[.int .u64 0,.int .u32 0,.int .u32 0] 107) (cell_nw w #[.int .u64 v,.int .u32 r,.int .u32 k] 107 0 _ rfl))
   have x1:w5.cell? ⟨w.heap.size,1,none⟩=some (.int .u32 r):=cell_later hb5 (cell_al (.cells #[.int .u64 0,.int .u32 0,.int .u32 0] 107) (cell_nw w #[.int .u64 v,.int .u32 r,.int .u32 k] 107 1 _ rfl))
   have x2:w5.cell? ⟨w.heap.size,2,none⟩=some (.int .u32 k):=cell_later hb5 (cell_al (.cells #[.int .u64 0,.int .u32 0,.int .u32 0] 107) (cell_nw w #[.int .u64 v,.int .u32 r,.int .u32 k] 107 2 _ rfl))
   have y0:w5.cell? ⟨w.heap.size+1,0,none⟩=some (.int .u64 0):=cell_later hb5 (cell_nwE (b:=w.heap.size+1) (by simp) #[.int .u64 0,.int .u32 0,.int .u32 0] 107 0 _ rfl)
   have y1:w5.cell? ⟨w.heap.size+1,1,none⟩=some (.int .u32 0):=cell_later hb5 (cell_nwE (b:=w.heap.size+1) (by simp) #[.int .u64 0,.int .u32 0,.int .u32 0] 107 1 _ rfl)
   have y2:w5.cell? ⟨w.heap.size+1,2,none⟩=some (.int .u32 0):=cell_later hb5 (cell_nwE (b:=w.heap.size+1) (by simp) #[.int .u64 0,.int .u32 0,.int .u32 0] 107 2 _ rfl)
   have f0:w5.frozen? ⟨w.heap.size+1,0,none⟩=false:=frz_later hb5 (frz_nwE (b:=w.heap.size+1) (by simp) #[.int .u64 0,.int .u32 0,.int .u32 0] 107 0) (by simp)
   have f1:w5.frozen? ⟨w.heap.size+1,1,none⟩=false:=frz_later hb5 (frz_nwE (b:=w.heap.size+1) (by simp) #[.int .u64 0,.int .u32 0,.int .u32 0] 107 1) (by simp)
   have f2:w5.frozen? ⟨w.heap.size+1,2,none⟩=false:=frz_later hb5 (frz_nwE (b:=w.heap.size+1) (by simp) #[.int .u64 0,.int .u32 0,.int .u32 0] 107 2) (by simp)
   have HB5:=Lib.hid (Below.step (Below.allocS (below_a w (.cells #[.int .u64 v,.int .u32 r,.int .u32 k] 107)) (.cells #[.int .u64 0,.int .u32 0,.int .u32 0] 107)) hb5)
   clear hb5
   go_wp2_with fail
   refine (A2.out _).mono ?_;rintro e w6 ⟨rfl,rfl⟩
   go_wp2_with fail
   refine bodyPost_ret (v:=.tuple #[.agg #[.int .u64 d,.int .u32 0,.int .u32 k],.int .i64 0]) (by simp [results,Tryz.results155,go_sem, *]) rfl ⟨rfl,?_⟩
   exact ((HB5.out.setCell (by simp) _).setCell (by simp) _).setCell (by simp) _
  ·rw [if_neg h2]
   have z1:decide (d > v)=false:=decide_eq_false h2
   go_enter Tryz.func155,Tryz.ntmps155
   go_wp2_with fail
   refine (A1.out _).mono ?_;rintro e w5 ⟨rfl,hb5⟩;rw [HO.out]
   have x0:w5.cell? ⟨w.heap.size,0,none⟩=some (.int .u64 v):=cell_later hb5 (cell_al (.cells #[.int .u64 0,.int .u32 0,.int .u32 0] 107) (cell_nw w #[.int .u64 v,.int .u32 r,.int .u32 k] 107 0 _ rfl))
   have x1:w5.cell? ⟨w.heap.size,1,none⟩=some (.int .u32 r):=cell_later hb5 (cell_al (.cells #[.int .u64 0,.int .u32 0,.int .u32 0] 107) (cell_nw w #[.int .u64 v,.int .u32 r,.int .u32 k] 107 1 _ rfl))
   have x2:w5.cell? ⟨w.heap.size,2,none⟩=some (.int .u32 k):=cell_later hb5 (cell_al (.cells #[.int .u64 0,.int .u32 0,.int .u32 0] 107) (cell_nw w #[.int .u64 v,.int .u32 r,.int .u32 k] 107 2 _ rfl))
   have y0:w5.cell? ⟨w.heap.size+1,0,none⟩=some (.int .u64 0):=cell_later hb5 (cell_nwE (b:=w.heap.size+1) (by simp) #[.int .u64 0,.int .u32 0,.int .u32 0] 107 0 _ rfl)
   have y1:w5.cell? ⟨w.heap.size+1,1,none⟩=some (.int .u32 0):=cell_later hb5 (cell_nwE (b:=w.heap.size+1) (by simp) #[.int .u64 0,.int .u32 0,.int .u32 0] 107 1 _ rfl)
   have y2:w5.cell? ⟨w.heap.size+1,2,none⟩=some (.int .u32 0):=cell_later hb5 (cell_nwE (b:=w.heap.size+1) (by simp) #[.int .u64 0,.int .u32 0,.int .u32 0] 107 2 _ rfl)
   have f0:w5.frozen? ⟨w.heap.size+1,0,none⟩=false:=frz_later hb5 (frz_nwE (b:=w.heap.size+1) (by simp) #[.int .u64 0,.int .u32 0,.int .u32 0] 107 0) (by simp)
   have f1:w5.frozen? ⟨w.heap.size+1,1,none⟩=false:=frz_later hb5 (frz_nwE (b:=w.heap.size+1) (by simp) #[.int .u64 0,.int .u32 0,.int .u32 0] 107 1) (by simp)
   have f2:w5.frozen? ⟨w.heap.size+1,2,none⟩=false:=frz_later hb5 (frz_nwE (b:=w.heap.size+1) (by simp) #[.int .u64 0,.int .u32 0,.int .u32 0] 107 2) (by simp)
   have HB5:=Lib.hid (Below.step (Below.allocS (below_a w (.cells #[.int .u64 v,.int .u32 r,.int .u32 k] 107)) (.cells #[.int .u64 0,.int .u32 0,.int .u32 0] 107)) hb5)
   clear hb5
   go_wp2_with fail
   refine (A2.out _).mono ?_;rintro e w6 ⟨rfl,rfl⟩
   go_wp2_with fail
   refine bodyPost_ret (v:=.tuple #[.agg #[.int .u64 v,.int .u32 r,.int .u32 k],.int .i64 0]) (by simp [results,Tryz.results155,go_sem, *]) rfl ⟨rfl,?_⟩
   exact ((HB5.out.setCell (by simp) _).setCell (by simp) _).setCell (by simp) _
 ·have HO:=Lib.hid (Ch.okB_f h1)
  rw [if_neg h1,if_neg h1]
  clear h1 hf hc hx
  go_enter Tryz.func155,Tryz.ntmps155
  go_wp2_with fail
  refine (A1.out _).mono ?_;rintro e w5 ⟨rfl,hb5⟩;rw [HO.out]
  have x0:w5.cell? ⟨w.heap.size,0,none⟩=some (.int .u64 v):=cell_later hb5 (cell_al (.cells #[.int .u64 0,.int .u32 0,.int .u32 0] 107) (cell_nw w #[.int .u64 v,.int .u32 r,.int .u32 k] 107 0 _ rfl))
  have x1:w5.cell? ⟨w.heap.size,1,none⟩=some (.int .u32 r):=cell_later hb5 (cell_al (.cells #[.int .u64 0,.int .u32 0,.int .u32 0] 107) (cell_nw w #[.int .u64 v,.int .u32 r,.int .u32 k] 107 1 _ rfl))
  have x2:w5.cell? ⟨w.heap.size,2,none⟩=some (.int .u32 k):=cell_later hb5 (cell_al (.cells #[.int .u64 0,.int .u32 0,.int .u32 0] 107) (cell_nw w #[.int .u64 v,.int .u32 r,.int .u32 k] 107 2 _ rfl))
  have y0:w5.cell? ⟨w.heap.size+1,0,none⟩=some (.int .u64 0):=cell_later hb5 (cell_nwE (b:=w.heap.size+1) (by simp) #[.int .u64 0,.int .u32 0,.int .u32 0] 107 0 _ rfl)
  have y1:w5.cell? ⟨w.heap.size+1,1,none⟩=some (.int .u32 0):=cell_later hb5 (cell_nwE (b:=w.heap.size+1) (by simp) #[.int .u64 0,.int .u32 0,.int .u32 0] 107 1 _ rfl)
  have y2:w5.cell? ⟨w.heap.size+1,2,none⟩=some (.int .u32 0):=cell_later hb5 (cell_nwE (b:=w.heap.size+1) (by simp) #[.int .u64 0,.int .u32 0,.int .u32 0] 107 2 _ rfl)
  have f0:w5.frozen? ⟨w.heap.size+1,0,none⟩=false:=frz_later hb5 (frz_nwE (b:=w.heap.size+1) (by simp) #[.int .u64 0,.int .u32 0,.int .u32 0] 107 0) (by simp)
  have f1:w5.frozen? ⟨w.heap.size+1,1,none⟩=false:=frz_later hb5 (frz_nwE (b:=w.heap.size+1) (by simp) #[.int .u64 0,.int .u32 0,.int .u32 0] 107 1) (by simp)
  have f2:w5.frozen? ⟨w.heap.size+1,2,none⟩=false:=frz_later hb5 (frz_nwE (b:=w.heap.size+1) (by simp) #[.int .u64 0,.int .u32 0,.int .u32 0] 107 2) (by simp)
  have HB5:=Lib.hid (Below.step (Below.allocS (below_a w (.cells #[.int .u64 v,.int .u32 r,.int .u32 k] 107)) (.cells #[.int .u64 0,.int .u32 0,.int .u32 0] 107)) hb5)
  clear hb5
  go_wp2_with fail
  refine bodyPost_ret (v:=.tuple #[.agg #[.int .u64 0,.int .u32 0,.int .u32 0],.int .i64 2]) (by simp [results,Tryz.results155,go_sem, *]) rfl ⟨rfl,?_⟩
  exact ((HB5.out.setCell (by simp) _).setCell (by simp) _).setCell (by simp) _
theorem pland_at (a b:Int) (w:World) (ha:0≤a∧a≤18446744073709551615) (hb:0≤b):Calls Tryz.prog 249 #[.int .u64 a,.int .u64 b] w fun e w'=>e=.returned (.int .u64 (a+min b (18446744073709551615 - a)))∧w=w':=by
 have z:IntKind.u64.wrap (18446744073709551615 - a)=18446744073709551615 - a:=IntWalk.u64_in _ (by omega)
 have z2:IntKind.u64.wrap (a+min b (18446744073709551615 - a))=a+min b (18446744073709551615 - a):=IntWalk.u64_in _ (by omega)
 clear ha hb
 go_enter Tryz.func249,Tryz.ntmps249
 go_wp2_with fail
 go_ret
 exact ⟨by simp [z,z2],rfl⟩
def movedV (v fr to':Int):Int:=if fr≤v then to'+min (v - fr) (18446744073709551615 - to') else to' - min to' (fr - v)
def movedX (x:Ent) (fr to':Int):Ent:=if Ch.Ok x.1 x.2.1 x.2.2 then (movedV x.1 fr to',if movedV x.1 fr to'=18446744073709551615 then 0 else x.2.1,x.2.2) else (0,0,0)
theorem movedV_fits {v fr to':Int} (hv:0≤v∧v≤18446744073709551615) (hf:0≤fr∧fr≤18446744073709551615) (ht:0≤to'∧to'≤18446744073709551615):0≤movedV v fr to'∧movedV v fr to'≤18446744073709551615:=by
 unfold movedV
 split <;> omega
theorem movedX_ok {x:Ent} {fr to':Int} (hx:EntOk x) (hf:FlOk fr) (ht:FlOk to'):EntOk (movedX x fr to'):=by
 unfold movedX
 rw [if_pos hx]
 unfold EntOk Ch.Ok at hx
 unfold FlOk at hf ht
 have:=movedV_fits (v:=x.1) (fr:=fr) (to':=to') (by omega) hf ht
 unfold EntOk Ch.Ok
 simp only
 split
 ·omega
 ·omega
end Go.Proofs.YtapnaocdehahdaaGreat
