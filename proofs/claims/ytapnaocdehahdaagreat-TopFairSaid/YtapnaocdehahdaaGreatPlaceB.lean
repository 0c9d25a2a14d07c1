/-
  Layer 23 (place): Moved.
-/
import Derived.Test.YtapnaocdehahdaaGreatPlaceA
namespace Go.Proofs.YtapnaocdehahdaaGreat
open Go.RowKit Go.Maps Go.IntWalk Go.Lib
set_option linter.unusedVariables false
set_option linter.unusedSimpArgs false
set_option maxRecDepth 100000 in
set_option maxHeartbeats 1000000 in
theorem plMoved_at (v r k fr th:Int) (w:World) (hx:Ch.Ok v r k) (hf:0≤fr∧fr≤18446744073709551615) (ht:0≤th∧th≤18446744073709551615) :
  Calls Tryz.prog 216 #[.agg #[.int .u64 v,.int .u32 r,.int .u32 k],.int .u64 fr,.int .u64 th] w (PlP w (movedX (v,r,k) fr th) 0):=by
 have A1:=Lib.hid fun W=>right_any v r k W (Ch.Ok.fits hx)
 have HO:=Lib.hid (Ch.okB_t hx)
 have hv:0≤v∧v≤18446744073709551615:=by unfold Ch.Ok at hx;omega
 unfold movedX
 rw [if_pos hx]
 by_cases h1:fr≤v
 ·have z1:decide (v ≥ fr)=true:=decide_eq_true h1
  have z2:decide (fr≤v)=true:=decide_eq_true h1
  have w1:IntKind.u64.wrap (v - fr)=v - fr:=IntWalk.u64_in _ (by omega)
  have A2:=Lib.hid fun W=>pland_at th (v - fr) W ht (by omega)
  simp only [show movedV v fr th=th+min (v - fr) (18446744073709551615 - th) by unfold movedV;rw [if_pos h1]]
  generalize th+min (v - fr) (18446744073709551615 - th)=V at *
  clear hx hv hf ht h1
  by_cases h2:V=18446744073709551615
  ·rw [if_pos h2]
   have z3:(V == 18446744073709551615)=true:=by simp [h2]
   clear h2
   go_enter Tryz.func216,Tryz.ntmps216
   go_wp2_with fail
   refine (A1.out _).mono ?_;rintro e w5 ⟨rfl,hb5⟩;rw [HO.out]
   have x0:w5.cell? ⟨w.heap.size,0,none⟩=some (.int .u64 v):=cell_later hb5 (cell_al (.cells #[.int .u64 0,.int .u32 0,.int .u32 0] 107) (cell_nw w #[.int .u64 v,.int .u32 r,.int .u32 k] 107 0 _ rfl))
   have x1:w5.cell? ⟨w.heap.size,1,none⟩=some (.int .u32 r):=cell_later hb5 (cell_al (.cells #[.int .u64 0,.int .u32 0,.int .u32 0] 107) (cell_nw w #[.int .u64 v,.int .u32 r,.int .u32 k] 107 1 _ rfl))
   have x2:w5.cell? ⟨w.heap.size,2,none⟩=some (.int .u32 k):=cell_later hb5 (cell_al (.cells #[.int .u64 0,.int .u32 0,.int .u32 0] 107) (cell_nw w #[.int .u64 v,.int .u32 r,.int .u32 k] 107 2 _ rfl))
   have g0:w5.frozen? ⟨w.heap.size,0,none⟩=false:=frz_later hb5 (frz_later (below_a _ (.cells #[.int .u64 0,.int .u32 0,.int .u32 0] 107)) (frz_nw w #[.int .u64 v,.int .u32 r,.int .u32 k] 107 0) (by simp)) (by simp;omega)
   have g1:w5.frozen? ⟨w.heap.size,1,none⟩=false:=frz_later hb5 (frz_later (below_a _ (.cells #[.int .u64 0,.int .u32 0,.int .u32 0] 107)) (frz_nw w #[.int .u64 v,.int .u32 r,.int .u32 k] 107 1) (by simp)) (by simp;omega)
   have y0:w5.cell? ⟨w.heap.size+1,0,none⟩=some (.int .u64 0):=cell_later hb5 (cell_nwE (b:=w.heap.size+1) (by simp) #[.int .u64 0,.int .u32 0,.int .u32 0] 107 0 _ rfl)
   have y1:w5.cell? ⟨w.heap.size+1,1,none⟩=some (.int .u32 0):=cell_later hb5 (cell_nwE (b:=w.heap.size+1) (by simp) #[.int .u64 0,.int .u32 0,.int .u32 0] 107 1 _ rfl)
   have y2:w5.cell? ⟨w.heap.size+1,2,none⟩=some (.int .u32 0):=cell_later hb5 (cell_nwE (b:=w.heap.size+1) (by simp) #[.int .u64 0,.int .u32 0,.int .u32 0] 107 2 _ rfl)
   have f0:w5.frozen? ⟨w.heap.size+1,0,none⟩=false:=frz_later hb5 (frz_nwE (b:=w.heap.size+1) (by simp) #[.int .u64 0,.int .u32 0,.int .u32 0] 107 0) (by simp)
   have f1:w5.frozen? ⟨w.heap.size+1,1,none⟩=false:=frz_later hb5 (frz_nwE (b:=w.heap.size+1) (by simp) #[.int .u64 0,.int .u32 0,.int .u32 0] 107 1) (by simp)
   have f2:w5.frozen? ⟨w.heap.size+1,2,none⟩=false:=frz_later hb5 (frz_nwE (b:=w.heap.size+1) (by simp) #[.int .u64 0,.int .u32 0,.int .u32 0] 107 2) (by simp)
   have HB5:=Lib.hid (Below.step (Below.allocS (below_a w (.cells #[.int .u64 v,.int .u32 r,.int .u32 k] 107)) (.cells #[.int .u64 0,.int .u32 0,.int .u32 0] 107)) hb5)
   clear hb5
   go_wp2_with fail
   refine (A2.out _).mono ?_;rintro e w6 ⟨rfl,rfl⟩
   go_wp2_with fail
   refine bodyPost_ret (v:=.tuple #[.agg #[.int .u64 V,.int .u32 0,.int .u32 k],.int .i64 0]) (by simp [results,Tryz.results216,go_sem, *]) rfl ⟨rfl,?_⟩
   repeat (refine Below.setCell ?_ (by simp) _)
   exact HB5.out
  ·rw [if_neg h2]
   have z3:(V == 18446744073709551615)=false:=by simpa using h2
   clear h2
   go_enter Tryz.func216,Tryz.ntmps216
   go_wp2_with fail
   refine (A1.out _).mono ?_;rintro e w5 ⟨rfl,hb5⟩;rw [HO.out]
   have x0:w5.cell? ⟨w.heap.size,0,none⟩=some (.int .u64 v):=cell_later hb5 (cell_al (.cells #[.int .u64 0,.int .u32 0,.int .u32 0] 107) (cell_nw w #[.int .u64 v,.int .u32 r,.int .u32 k] 107 0 _ rfl))
   have x1:w5.cell? ⟨w.heap.size,1,none⟩=some (.int .u32 r):=cell_later hb5 (cell_al (.cells #[.int .u64 0,.int .u32 0,.int .u32 0] 107) (cell_nw w #[.int .u64 v,.int .u32 r,.int .u32 k] 107 1 _ rfl))
   have x2:w5.cell? ⟨w.heap.size,2,none⟩=some (.int .u32 k):=cell_later hb5 (cell_al (.cells #[.int .u64 0,.int .u32 0,.int .u32 0] 107) (cell_nw w #[.int .u64 v,.int .u32 r,.int .u32 k] 107 2 _ rfl))
   have g0:w5.frozen? ⟨w.heap.size,0,none⟩=false:=frz_later hb5 (frz_later (below_a _ (.cells #[.int .u64 0,.int .u32 0,.int .u32 0] 107)) (frz_nw w #[.int .u64 v,.int .u32 r,.int .u32 k] 107 0) (by simp)) (by simp;omega)
   have g1:w5.frozen? ⟨w.heap.size,1,none⟩=false:=frz_later hb5 (frz_later (below_a _ (.cells #[.int .u64 0,.int .u32 0,.int .u32 0] 107)) (frz_nw w #[.int .u64 v,.int .u32 r,.int .u32 k] 107 1) (by simp)) (by simp;omega)
   have y0:w5.cell? ⟨w.heap.size+1,0,none⟩=some (.int .u64 0):=cell_later hb5 (cell_nwE (b:=w.heap.size+1) (by simp) #[.int .u64 0,.int .u32 0,.int .u32 0] 107 0 _ rfl)
   have y1:w5.cell? ⟨w.heap.size+1,1,none⟩=some (.int .u32 0):=cell_later hb5 (cell_nwE (b:=w.heap.size+1) (by simp) #[.int .u64 0,.int .u32 0,.int .u32 0] 107 1 _ rfl)
   have y2:w5.cell? ⟨w.heap.size+1,2,none⟩=some (.int .u32 0):=cell_later hb5 (cell_nwE (b:=w.heap.size+1) (by simp) #[.int .u64 0,.int .u32 0,.int .u32 0] 107 2 _ rfl)
   have f0:w5.frozen? ⟨w.heap.size+1,0,none⟩=false:=frz_later hb5 (frz_nwE (b:=w.heap.size+1) (by simp) #[.int .u64 0,.int .u32 0,.int .u32 0] 107 0) (by simp)
   have f1:w5.frozen? ⟨w.heap.size+1,1,none⟩=false:=frz_later hb5 (frz_nwE (b:=w.heap.size+1) (by simp) #[.int .u64 0,.int .u32 0,.int .u32 0] 107 1) (by simp)
   have f2:w5.frozen? ⟨w.heap.size+1,2,none⟩=false:=frz_later hb5 (frz_nwE (b:=w.heap.size+1) (by simp) #[.int .u64 0,.int .u32 0,.int .u32 0] 107 2) (by simp)
   have HB5:=Lib.hid (Below.step (Below.allocS (below_a w (.cells #[.int .u64 v,.int .u32 r,.int .u32 k] 107)) (.cells #[.int .u64 0,.int .u32 0,.int .u32 0] 107)) hb5)
   clear hb5
   go_wp2_with fail
   refine (A2.out _).mono ?_;rintro e w6 ⟨rfl,rfl⟩
   go_wp2_with fail
   refine bodyPost_ret (v:=.tuple #[.agg #[.int .u64 V,.int .u32 r,.int .u32 k],.int .i64 0]) (by simp [results,Tryz.results216,go_sem, *]) rfl ⟨rfl,?_⟩
   repeat (refine Below.setCell ?_ (by simp) _)
   exact HB5.out
 ·have z1:decide (v ≥ fr)=false:=decide_eq_false h1
  have z2:decide (fr≤v)=false:=decide_eq_false h1
  have w1:IntKind.u64.wrap (fr - v)=fr - v:=IntWalk.u64_in _ (by omega)
  have A2:=Lib.hid fun W=>pless_at th (fr - v) W ht (by omega)
  simp only [show movedV v fr th=th - min th (fr - v) by unfold movedV;rw [if_neg h1]]
  generalize th - min th (fr - v)=V at *
  clear hx hv hf ht h1
  by_cases h2:V=18446744073709551615
  ·rw [if_pos h2]
   have z3:(V == 18446744073709551615)=true:=by simp [h2]
   clear h2
   go_enter Tryz.func216,Tryz.ntmps216
   go_wp2_with fail
   refine (A1.out _).mono ?_;rintro e w5 ⟨rfl,hb5⟩;rw [HO.out]
   have x0:w5.cell? ⟨w.heap.size,0,none⟩=some (.int .u64 v):=cell_later hb5 (cell_al (.cells #[.int .u64 0,.int .u32 0,.int .u32 0] 107) (cell_nw w #[.int .u64 v,.int .u32 r,.int .u32 k] 107 0 _ rfl))
   have x1:w5.cell? ⟨w.heap.size,1,none⟩=some (.int .u32 r):=cell_later hb5 (cell_al (.cells #[.int .u64 0,.int .u32 0,.int .u32 0] 107) (cell_nw w #[.int .u64 v,.int .u32 r,.int .u32 k] 107 1 _ rfl))
   have x2:w5.cell? ⟨w.heap.size,2,none⟩=some (.int .u32 k):=cell_later hb5 (cell_al (.cells #[.int .u64 0,.int .u32 0,.int .u32 0] 107) (cell_nw w #[.int .u64 v,.int .u32 r,.int .u32 k] 107 2 _ rfl))
   have g0:w5.frozen? ⟨w.heap.size,0,none⟩=false:=frz_later hb5 (frz_later (below_a _ (.cells #[.int .u64 0,.int .u32 0,.int .u32 0] 107)) (frz_nw w #[.int .u64 v,.int .u32 r,.int .u32 k] 107 0) (by simp)) (by simp;omega)
   have g1:w5.frozen? ⟨w.heap.size,1,none⟩=false:=frz_later hb5 (frz_later (below_a _ (.cells #[.int .u64 0,.int .u32 0,.int .u32 0] 107)) (frz_nw w #[.int .u64 v,.int .u32 r,.int .u32 k] 107 1) (by simp)) (by simp;omega)
   have y0:w5.cell? ⟨w.heap.size+1,0,none⟩=some (.int .u64 0):=cell_later hb5 (cell_nwE (b:=w.heap.size+1) (by simp) #[.int .u64 0,.int .u32 0,.int .u32 0] 107 0 _ rfl)
   have y1:w5.cell? ⟨w.heap.size+1,1,none⟩=some (.int .u32 0):=cell_later hb5 (cell_nwE (b:=w.heap.size+1) (by simp) #[.int .u64 0,.int .u32 0,.int .u32 0] 107 1 _ rfl)
   have y2:w5.cell? ⟨w.heap.size+1,2,none⟩=some (.int .u32 0):=cell_later hb5 (cell_nwE (b:=w.heap.size+1) (by simp) #[.int .u64 0,.int .u32 0,.int .u32 0] 107 2 _ rfl)
   have f0:w5.frozen? ⟨w.heap.size+1,0,none⟩=false:=frz_later hb5 (frz_nwE (b:=w.heap.size+1) (by simp) #[.int .u64 0,.int .u32 0,.int .u32 0] 107 0) (by simp)
   have f1:w5.frozen? ⟨w.heap.size+1,1,none⟩=false:=frz_later hb5 (frz_nwE (b:=w.heap.size+1) (by simp) #[.int .u64 0,.int .u32 0,.int .u32 0] 107 1) (by simp)
   have f2:w5.frozen? ⟨w.heap.size+1,2,none⟩=false:=frz_later hb5 (frz_nwE (b:=w.heap.size+1) (by simp) #[.int .u64 0,.int .u32 0,.int .u32 0] 107 2) (by simp)
   have HB5:=Lib.hid (Below.step (Below.allocS (below_a w (.cells #[.int .u64 v,.int .u32 r,.int .u32 k] 107)) (.cells #[.int .u64 0,.int .u32 0,.int .u32 0] 107)) hb5)
   clear hb5
   go_wp2_with fail
   refine (A2.out _).mono ?_;rintro e w6 ⟨rfl,rfl⟩
   go_wp2_with fail
   refine bodyPost_ret (v:=.tuple #[.agg #[.int .u64 V,.int .u32 0,.int .u32 k],.int .i64 0]) (by simp [results,Tryz.results216,go_sem, *]) rfl ⟨rfl,?_⟩
   repeat (refine Below.setCell ?_ (by simp) _)
   exact HB5.out
  ·rw [if_neg h2]
   have z3:(V == 18446744073709551615)=false:=by simpa using h2
   clear h2
   go_enter Tryz.func216,Tryz.ntmps216
   go_wp2_with fail
   refine (A1.out _).mono ?_;rintro e w5 ⟨rfl,hb5⟩;rw [HO.out]
   have x0:w5.cell? ⟨w.heap.size,0,none⟩=some (.int .u64 v):=cell_later hb5 (cell_al (.cells #[.int .u64 0,.int .u32 0,.int .u32 0] 107) (cell_nw w #[.int .u64 v,.int .u32 r,.int .u32 k] 107 0 _ rfl))
   have x1:w5.cell? ⟨w.heap.size,1,none⟩=some (.int .u32 r):=cell_later hb5 (cell_al (.cells #[.int .u64 0,.int .u32 0,.int .u32 0] 107) (cell_nw w #[.int .u64 v,.int .u32 r,.int .u32 k] 107 1 _ rfl))
   have x2:w5.cell? ⟨w.heap.size,2,none⟩=some (.int .u32 k):=cell_later hb5 (cell_al (.cells #[.int .u64 0,.int .u32 0,.int .u32 0] 107) (cell_nw w #[.int .u64 v,.int .u32 r,.int .u32 k] 107 2 _ rfl))
   have g0:w5.frozen? ⟨w.heap.size,0,none⟩=false:=frz_later hb5 (frz_later (below_a _ (.cells #[.int .u64 0,.int .u32 0,.int .u32 0] 107)) (frz_nw w #[.int .u64 v,.int .u32 r,.int .u32 k] 107 0) (by simp)) (by simp;omega)
   have g1:w5.frozen? ⟨w.heap.size,1,none⟩=false:=frz_later hb5 (frz_later (below_a _ (.cells #[.int .u64 0,.int .u32 0,.int .u32 0] 107)) (frz_nw w #[.int .u64 v,.int .u32 r,.int .u32 k] 107 1) (by simp)) (by simp;omega)
   have y0:w5.cell? ⟨w.heap.size+1,0,none⟩=some (.int .u64 0):=cell_later hb5 (cell_nwE (b:=w.heap.size+1) (by simp) #[.int .u64 0,.int .u32 0,.int .u32 0] 107 0 _ rfl)
   have y1:w5.cell? ⟨w.heap.size+1,1,none⟩=some (.int .u32 0):=cell_later hb5 (cell_nwE (b:=w.heap.size+1) (by simp) #[.int .u64 0,.int .u32 0,.int .u32 0] 107 1 _ rfl)
   have y2:w5.cell? ⟨w.heap.size+1,2,none⟩=some (.int .u32 0):=cell_later hb5 (cell_nwE (b:=w.heap.size+1) (by simp) #[.int .u64 0,.int .u32 0,.int .u32 0] 107 2 _ rfl)
   have f0:w5.frozen? ⟨w.heap.size+1,0,none⟩=false:=frz_later hb5 (frz_nwE (b:=w.heap.size+1) (by simp) #[.int .u64 0,.int .u32 0,.int .u32 0] 107 0) (by simp)
   have f1:w5.frozen? ⟨w.heap.size+1,1,none⟩=false:=frz_later hb5 (frz_nwE (b:=w.heap.size+1) (by simp) #[.int .u64 0,.int .u32 0,.int .u32 0] 107 1) (by simp)
   have f2:w5.frozen? ⟨w.heap.size+1,2,none⟩=false:=frz_later hb5 (frz_nwE (b:=w.heap.size+1) (by simp) #[.int .u64 0,.int .u32 0,.int .u32 0] 107 2) (by simp)
   have HB5:=Lib.hid (Below.step (Below.allocS (below_a w (.cells #[.int .u64 v,.int .u32 r,.int .u32 k] 107)) (.cells #[.int .u64 0,.int .u32 0,.int .u32 0] 107)) hb5)
   clear hb5
   go_wp2_with fail
   refine (A2.out _).mono ?_;rintro e w6 ⟨rfl,rfl⟩
   go_wp2_with fail
   refine bodyPost_ret (v:=.tuple #[.agg #[.int .u64 V,.int .u32 r,.int .u32 k],.int .i64 0]) (by simp [results,Tryz.results216,go_sem, *]) rfl ⟨rfl,?_⟩
   repeat (refine Below.setCell ?_ (by simp) _)
   exact HB5.out
end Go.Proofs.YtapnaocdehahdaaGreat
