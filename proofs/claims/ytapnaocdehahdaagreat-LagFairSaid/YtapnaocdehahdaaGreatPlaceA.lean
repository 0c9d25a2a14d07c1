/-
  Layer 23 (place): New, Woken, Moved.
-/
import Derived.Test.YtapnaocdehahdaaGreatTreeM
namespace Go.Proofs.YtapnaocdehahdaaGreat
open Go.RowKit Go.Maps Go.IntWalk Go.Lib
set_option linter.unusedVariables false
set_option linter.unusedSimpArgs false
set_option maxRecDepth 100000 in
theorem plNew_at (fl k:Int) (w:World) (hf:0≤fl∧fl≤18446744073709551615) (hk:(Lit.int .i64 k).wf=true):Calls Tryz.prog 149 #[.int .u64 fl,.int .i64 k] w (PlP w (newX fl k) (newC k)):=by
 have b:=wf_i64 hk
 obtain ⟨u,hu⟩:∃ u,IntKind.u32.wrap k=u:=⟨_,rfl⟩
 have hu0:0≤u∧u≤4294967295:=by rw [← hu,IntKind.wrap_u32];omega
 have huk:u=k↔0≤k∧k≤4294967295:=by rw [← hu,IntKind.wrap_u32];omega
 have hui:IntKind.i64.wrap u=u:=IntWalk.i64_in _ (by omega)
 have A1:=Lib.hid fun W=>right_any fl 0 u W (by unfold Ch.Fits;omega)
 unfold newX newC
 clear hk
 by_cases h1:u=k
 ·have z1:(u != k)=false:=by simp [h1]
  by_cases h2:1≤k∧k≤65536
  ·have HO:=Lib.hid (Ch.okB_t (show Ch.Ok fl 0 u by unfold Ch.Ok;omega))
   rw [if_pos h2,if_pos h2]
   have HU:=Lib.hid h1
   clear h1 h2 huk b hf hu0
   go_enter Tryz.func149,Tryz.ntmps149
   go_wp2_with fail
   refine (A1.out _).mono ?_;rintro e w5 ⟨rfl,hb5⟩;rw [HO.out]
   have z0:w5.cell? ⟨w.heap.size,0,none⟩=some (.int .u64 0):=cell_later hb5 (cell_al (.cells #[.int .u64 fl,.int .u32 0,.int .u32 u] 107) (cell_nw w #[.int .u64 0,.int .u32 0,.int .u32 0] 107 0 _ rfl))
   have f0:w5.frozen? ⟨w.heap.size,0,none⟩=false:=frz_later hb5 (frz_later (below_a _ (.cells #[.int .u64 fl,.int .u32 0,.int .u32 u] 107)) (frz_nw w #[.int .u64 0,.int .u32 0,.int .u32 0] 107 0) (by simp)) (by simp;omega)
   have z1:w5.cell? ⟨w.heap.size,1,none⟩=some (.int .u32 0):=cell_later hb5 (cell_al (.cells #[.int .u64 fl,.int .u32 0,.int .u32 u] 107) (cell_nw w #[.int .u64 0,.int .u32 0,.int .u32 0] 107 1 _ rfl))
   have f1:w5.frozen? ⟨w.heap.size,1,none⟩=false:=frz_later hb5 (frz_later (below_a _ (.cells #[.int .u64 fl,.int .u32 0,.int .u32 u] 107)) (frz_nw w #[.int .u64 0,.int .u32 0,.int .u32 0] 107 1) (by simp)) (by simp;omega)
   have z2:w5.cell? ⟨w.heap.size,2,none⟩=some (.int .u32 0):=cell_later hb5 (cell_al (.cells #[.int .u64 fl,.int .u32 0,.int .u32 u] 107) (cell_nw w #[.int .u64 0,.int .u32 0,.int .u32 0] 107 2 _ rfl))
   have f2:w5.frozen? ⟨w.heap.size,2,none⟩=false:=frz_later hb5 (frz_later (below_a _ (.cells #[.int .u64 fl,.int .u32 0,.int .u32 u] 107)) (frz_nw w #[.int .u64 0,.int .u32 0,.int .u32 0] 107 2) (by simp)) (by simp;omega)
   have y0:w5.cell? ⟨w.heap.size+1,0,none⟩=some (.int .u64 fl):=cell_later hb5 (cell_nwE (b:=w.heap.size+1) (by simp) #[.int .u64 fl,.int .u32 0,.int .u32 u] 107 0 _ rfl)
   have y1:w5.cell? ⟨w.heap.size+1,1,none⟩=some (.int .u32 0):=cell_later hb5 (cell_nwE (b:=w.heap.size+1) (by simp) #[.int .u64 fl,.int .u32 0,.int .u32 u] 107 1 _ rfl)
   have y2:w5.cell? ⟨w.heap.size+1,2,none⟩=some (.int .u32 u):=cell_later hb5 (cell_nwE (b:=w.heap.size+1) (by simp) #[.int .u64 fl,.int .u32 0,.int .u32 u] 107 2 _ rfl)
   have HB5:=Lib.hid (Below.step (Below.allocS (below_a w (.cells #[.int .u64 0,.int .u32 0,.int .u32 0] 107)) (.cells #[.int .u64 fl,.int .u32 0,.int .u32 u] 107)) hb5)
   clear hb5
   go_wp2_with fail
   rw [← HU.out]
   refine bodyPost_ret (v:=.tuple #[.agg #[.int .u64 fl,.int .u32 0,.int .u32 u],.int .i64 0]) (by simp [results,Tryz.results149,go_sem, *]) rfl ⟨rfl,?_⟩
   exact ((HB5.out.setCell (by simp) _).setCell (by simp) _).setCell (by simp) _
  ·have HO:=Lib.hid (Ch.okB_f (show ¬ Ch.Ok fl 0 u by unfold Ch.Ok;omega))
   rw [if_neg h2,if_neg h2]
   have HU:=Lib.hid h1
   clear h1 h2 huk b hf hu0
   go_enter Tryz.func149,Tryz.ntmps149
   go_wp2_with fail
   refine (A1.out _).mono ?_;rintro e w5 ⟨rfl,hb5⟩;rw [HO.out]
   have z0:w5.cell? ⟨w.heap.size,0,none⟩=some (.int .u64 0):=cell_later hb5 (cell_al (.cells #[.int .u64 fl,.int .u32 0,.int .u32 u] 107) (cell_nw w #[.int .u64 0,.int .u32 0,.int .u32 0] 107 0 _ rfl))
   have f0:w5.frozen? ⟨w.heap.size,0,none⟩=false:=frz_later hb5 (frz_later (below_a _ (.cells #[.int .u64 fl,.int .u32 0,.int .u32 u] 107)) (frz_nw w #[.int .u64 0,.int .u32 0,.int .u32 0] 107 0) (by simp)) (by simp;omega)
   have z1:w5.cell? ⟨w.heap.size,1,none⟩=some (.int .u32 0):=cell_later hb5 (cell_al (.cells #[.int .u64 fl,.int .u32 0,.int .u32 u] 107) (cell_nw w #[.int .u64 0,.int .u32 0,.int .u32 0] 107 1 _ rfl))
   have f1:w5.frozen? ⟨w.heap.size,1,none⟩=false:=frz_later hb5 (frz_later (below_a _ (.cells #[.int .u64 fl,.int .u32 0,.int .u32 u] 107)) (frz_nw w #[.int .u64 0,.int .u32 0,.int .u32 0] 107 1) (by simp)) (by simp;omega)
   have z2:w5.cell? ⟨w.heap.size,2,none⟩=some (.int .u32 0):=cell_later hb5 (cell_al (.cells #[.int .u64 fl,.int .u32 0,.int .u32 u] 107) (cell_nw w #[.int .u64 0,.int .u32 0,.int .u32 0] 107 2 _ rfl))
   have f2:w5.frozen? ⟨w.heap.size,2,none⟩=false:=frz_later hb5 (frz_later (below_a _ (.cells #[.int .u64 fl,.int .u32 0,.int .u32 u] 107)) (frz_nw w #[.int .u64 0,.int .u32 0,.int .u32 0] 107 2) (by simp)) (by simp;omega)
   have y0:w5.cell? ⟨w.heap.size+1,0,none⟩=some (.int .u64 fl):=cell_later hb5 (cell_nwE (b:=w.heap.size+1) (by simp) #[.int .u64 fl,.int .u32 0,.int .u32 u] 107 0 _ rfl)
   have y1:w5.cell? ⟨w.heap.size+1,1,none⟩=some (.int .u32 0):=cell_later hb5 (cell_nwE (b:=w.heap.size+1) (by simp) #[.int .u64 fl,.int .u32 0,.int .u32 u] 107 1 _ rfl)
   have y2:w5.cell? ⟨w.heap.size+1,2,none⟩=some (.int .u32 u):=cell_later hb5 (cell_nwE (b:=w.heap.size+1) (by simp) #[.int .u64 fl,.int .u32 0,.int .u32 u] 107 2 _ rfl)
   have HB5:=Lib.hid (Below.step (Below.allocS (below_a w (.cells #[.int .u64 0,.int .u32 0,.int .u32 0] 107)) (.cells #[.int .u64 fl,.int .u32 0,.int .u32 u] 107)) hb5)
   clear hb5
   go_wp2_with fail
   refine bodyPost_ret (v:=.tuple #[.agg #[.int .u64 0,.int .u32 0,.int .u32 0],.int .i64 2]) (by simp [results,Tryz.results149,go_sem, *]) rfl ⟨rfl,?_⟩
   exact ((HB5.out.setCell (by simp) _).setCell (by simp) _).setCell (by simp) _
 ·have z1:(u != k)=true:=by simp [h1]
  have h2:¬ (1≤k∧k≤65536):=by omega
  rw [if_neg h2,if_neg h2]
  clear h1 h2 huk b hf hu0
  go_enter Tryz.func149,Tryz.ntmps149
  go_wp2_with fail
  refine bodyPost_ret (v:=.tuple #[.agg #[.int .u64 0,.int .u32 0,.int .u32 0],.int .i64 2]) (by simp [results,Tryz.results149,go_sem]) rfl ⟨rfl,?_⟩
  repeat (first | exact Below.refl _ _ | refine Below.step ?_ (by assumption) | refine Below.setCell ?_ (by first | (simp;done) | (simp;omega) | omega) _ | refine Below.allocS ?_ _ | refine Below.drew ?_ | refine below_drewN ?_ _)
end Go.Proofs.YtapnaocdehahdaaGreat
