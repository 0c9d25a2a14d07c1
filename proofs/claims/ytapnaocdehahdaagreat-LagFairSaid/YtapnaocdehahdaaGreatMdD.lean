/-
  Layer 30 (model): small functions; first.
-/
import Derived.Test.YtapnaocdehahdaaGreatLgE
import Derived.Test.YtapnaocdehahdaaGreatPlaceA
namespace Go.Proofs.YtapnaocdehahdaaGreat
open Go.RowKit Go.Maps Go.IntWalk Go.Lib
set_option linter.unusedVariables false
set_option linter.unusedSimpArgs false
theorem mentity_at (v r k:Int) (w:World) (hk:0≤k∧k≤4294967295):Calls Tryz.prog 156 #[.int .u64 v,.int .u32 r,.int .i64 k] w fun e w'=>e=.returned (.agg #[.int .u64 v,.int .u32 r,.int .u32 k])∧Below w.heap.size w w':=by
 have z:IntKind.u32.wrap k=k:=by rw [IntKind.wrap_u32];omega
 clear hk
 go_enter Tryz.func156,Tryz.ntmps156
 go_wp2_with fail
 refine bodyPost_ret (v:=.agg #[.int .u64 v,.int .u32 r,.int .u32 k]) (by simp [results,Tryz.results156,go_sem]) rfl ⟨rfl,?_⟩
 repeat (first | exact Below.refl _ _ | refine Below.step ?_ (by assumption) | refine Below.setCell ?_ (by first | (simp;done) | (simp;omega) | omega) _ | refine Below.allocS ?_ _ | refine Below.drew ?_ | refine below_drewN ?_ _)
theorem mtask_at (id:Int) (w:World):Calls Tryz.prog 145 #[.int .i64 id] w fun e w'=>e=.returned (.bool (nameV id))∧w=w':=by
 unfold nameV
 by_cases h1:1≤id
 ·have z1:decide (id ≥ 1)=true:=decide_eq_true h1
  by_cases h2:id≤65535
  ·have e:decide (1≤id∧id≤65535)=true:=decide_eq_true ⟨h1,h2⟩
   rw [e]
   clear e
   go_enter Tryz.func145,Tryz.ntmps145
   go_wp2_with fail
   go_ret
   exact ⟨rfl,rfl⟩
  ·have e:decide (1≤id∧id≤65535)=false:=decide_eq_false fun q=>h2 q.2
   rw [e]
   clear e
   go_enter Tryz.func145,Tryz.ntmps145
   go_wp2_with fail
   go_ret
   exact ⟨rfl,rfl⟩
 ·have e:decide (1≤id∧id≤65535)=false:=decide_eq_false fun q=>h1 q.1
  rw [e]
  clear e
  go_enter Tryz.func145,Tryz.ntmps145
  go_wp2_with fail
  go_ret
  exact ⟨rfl,rfl⟩
theorem mweighs_at (k:Int) (w:World):Calls Tryz.prog 146 #[.int .i64 k] w fun e w'=>e=.returned (.bool (decide (1≤k∧k≤65536)))∧w=w':=by
 by_cases h1:1≤k
 ·have z1:decide (k ≥ 1)=true:=decide_eq_true h1
  by_cases h2:k≤65536
  ·have e:decide (1≤k∧k≤65536)=true:=decide_eq_true ⟨h1,h2⟩
   rw [e]
   clear e
   go_enter Tryz.func146,Tryz.ntmps146
   go_wp2_with fail
   go_ret
   exact ⟨rfl,rfl⟩
  ·have e:decide (1≤k∧k≤65536)=false:=decide_eq_false fun q=>h2 q.2
   rw [e]
   clear e
   go_enter Tryz.func146,Tryz.ntmps146
   go_wp2_with fail
   go_ret
   exact ⟨rfl,rfl⟩
 ·have e:decide (1≤k∧k≤65536)=false:=decide_eq_false fun q=>h1 q.1
  rw [e]
  clear e
  go_enter Tryz.func146,Tryz.ntmps146
  go_wp2_with fail
  go_ret
  exact ⟨rfl,rfl⟩
section
variable {w:World} {x:Nat} {L:MLay} {m:MSt}
theorem mcpu_at (c:Int) (h:MIn w x L m):Calls Tryz.prog 144 #[.pointer (some ⟨x,0,none⟩),.int .i64 c] w fun e w'=>e=.returned (.bool (hasV (m.C:Int) c))∧w=w':=by
 have c0:=h.c0
 unfold hasV
 clear h
 by_cases h1:0≤c
 ·have z1:decide (c ≥ 0)=true:=decide_eq_true h1
  by_cases h2:c<(m.C:Int)
  ·have e:decide (0≤c∧c<(m.C:Int))=true:=decide_eq_true ⟨h1,h2⟩
   rw [e]
   clear e
   go_enter Tryz.func144,Tryz.ntmps144
   go_wp2_with fail
   go_ret
   exact ⟨rfl,rfl⟩
  ·have e:decide (0≤c∧c<(m.C:Int))=false:=decide_eq_false fun q=>h2 q.2
   rw [e]
   clear e
   go_enter Tryz.func144,Tryz.ntmps144
   go_wp2_with fail
   go_ret
   exact ⟨rfl,rfl⟩
 ·have e:decide (0≤c∧c<(m.C:Int))=false:=decide_eq_false fun q=>h1 q.1
  rw [e]
  clear e
  go_enter Tryz.func144,Tryz.ntmps144
  go_wp2_with fail
  go_ret
  exact ⟨rfl,rfl⟩
theorem mleast_at {g c:Nat} (h:MIn w x L m) (ho:MOk2 m) (hg:g<m.n) (hc:c<m.C):Calls Tryz.prog 138 #[.pointer (some ⟨x,0,none⟩),.int .i64 g,.int .i64 c] w (LeastP m.sta g c w):=by
 have hn:=ho.pos
 have hts:=ho.few
 exact least_go c (fun y hy=>by have:=(ho.task y hy).id;omega) (by show m.ts.length≤_;omega) (by rw [sta_len];omega) ho.right (by rw [sta_len];rfl) (fun l hl=>by
  obtain ⟨j,_,rfl⟩:=List.mem_map.1 hl
  simpa using hc) _ g w (Nat.le_refl _) (h.mh hn.1 (by have:=ho.cpus;omega)) (by rw [sta_len];exact hg)
theorem mfind_in (t:Int) (h:MIn w x L m) (ho:MOk2 m):Calls Tryz.prog 137 #[.pointer (some ⟨x,0,none⟩),.int .i64 t] w fun e w'=>e=.returned (.int .i64 (findM m.ts t))∧Below w.heap.size w w':=
 mfind_at (σ:=m.sta) t (h.mh ho.pos.1 (by have:=ho.cpus;omega)) ho.ids (by have:=ho.few;show m.ts.length≤_;omega)
set_option maxRecDepth 100000 in
set_option maxHeartbeats 1000000 in
theorem mfirst_at {c:Nat} (h:MIn w x L m) (ho:MOk2 m) (hc:c<m.C):Calls Tryz.prog 159 #[.pointer (some ⟨x,0,none⟩),.int .i64 c] w fun e w'=>e=.returned (.int .i64 (firstM m.sta c))∧Below w.heap.size w w':=by
 obtain ⟨R,hR⟩:∃ R,R=firstM m.sta c:=⟨_,rfl⟩
 rw [← hR]
 have HR:=Lib.hid (show firstG m.sta c 0=R by rw [hR];rfl)
 have HM:=Lib.hid h
 have HO:=Lib.hid ho
 have HC:=Lib.hid hc
 have hn:=ho.pos
 have HB0:=Lib.hid (Below.refl w.heap.size w)
 have h00:0<m.n:=hn.1
 clear h ho hc hR
 go_enter Tryz.func159,Tryz.ntmps159
 go_wp2_with fail
 go_loopw [5] (fun v wr=>∃ g:Nat,g<m.n∧v=.int .i64 g∧Hid (firstG m.sta c g=R)∧Hid (Below w.heap.size w wr)) (fun v _=>m.n - (RowKit.intOf v).toNat)
 case atStart=>exact ⟨0,h00,rfl,HR,HB0⟩
 case round =>
  clear HR HB0
  obtain ⟨g,hg,rfl,HR,HB⟩:=hrel
  have HV:=Lib.hid HO.out.vs
  have hgl:=Lib.hid (show g<m.sta.sp.length by rw [sta_len];exact hg)
  have AF:=Lib.hid (mleast_at (HM.out.below HB.out) HO.out hg HC.out)
  unfold LeastP at AF
  cases hs:(leastM m.sta g c).1 with
  | false =>
   have HR2:=Lib.hid (show R=0 by rw [← HR.out];exact firstG_none hgl.out hs)
   rw [hs] at AF
   clear hs
   generalize (leastM m.sta g c).2 0=a0 at AF
   generalize (leastM m.sta g c).2 1=a1 at AF
   generalize (leastM m.sta g c).2 2=a2 at AF
   go_wp2_with fail
   refine AF.out.mono ?_;clear AF;rintro e w5 ⟨rfl,hb5⟩
   go_wp2_with fail
   go_ret
   exact ⟨by rw [HR2.out];rfl,Below.step (Below.step HB.out hb5) (below_a _ _)⟩
  | true =>
   rcases least_two HV.out hgl.out hs with ⟨y,hy,_,e2⟩ | ⟨k,hgk,hk,_,_,e2⟩
   ·have HR2:=Lib.hid (show R=y.id by rw [← HR.out,firstG_task hgl.out hs (by rw [e2];rfl),e2];rfl)
    have hyi:=(HO.out.task y hy).id
    have zw:IntKind.i64.wrap y.id=y.id:=IntWalk.i64_in _ (by omega)
    rw [hs,e2] at AF
    replace AF:Hid (Calls Tryz.prog 138 #[.pointer (some ⟨x,0,none⟩),.int .i64 g,.int .i64 c] wr fun e w'=>e=.returned (.tuple #[.agg #[.int .u64 y.v,.int .u64 0,.int .u64 y.id],.bool true])∧Below wr.heap.size wr w'):=AF
    clear hs e2 hyi hy
    go_wp2_with fail
    refine AF.out.mono ?_;clear AF;rintro e w5 ⟨rfl,hb5⟩
    go_wp2_with fail
    go_ret
    exact ⟨by rw [HR2.out];rfl,Below.step (Below.step HB.out hb5) (below_a _ _)⟩
   ·have hkn:k<m.n:=by rwa [sta_len] at hk
    have HR2:=Lib.hid (show firstG m.sta c k=R by rw [← HR.out];exact (firstG_group HV.out hgl.out hs e2 hgk hk).symm)
    have zw:IntKind.i64.wrap (k:Int)=(k:Int):=IntWalk.i64_in _ (by omega)
    rw [hs,e2] at AF
    generalize spotV m.sta k c=sv at AF
    replace AF:Hid (Calls Tryz.prog 138 #[.pointer (some ⟨x,0,none⟩),.int .i64 g,.int .i64 c] wr fun e w'=>e=.returned (.tuple #[.agg #[.int .u64 sv,.int .u64 1,.int .u64 (k:Int)],.bool true])∧Below wr.heap.size wr w'):=AF
    clear hs e2
    go_wp2_with fail
    refine AF.out.mono ?_;clear AF;rintro e w5 ⟨rfl,hb5⟩
    go_wp2_with fail
    go_roundw
    case rel=>exact ⟨k,hkn,rfl,HR2,Lib.hid (Below.step (Below.step HB.out hb5) (below_a _ _))⟩
    case measure=>simp [RowKit.intOf];omega
end
end Go.Proofs.YtapnaocdehahdaaGreat
