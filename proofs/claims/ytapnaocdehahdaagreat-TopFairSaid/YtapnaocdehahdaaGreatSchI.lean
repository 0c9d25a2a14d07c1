/-
  Layer 31 (sched): the operation of an op; what is asked first.
-/
import Derived.Test.YtapnaocdehahdaaGreatSchP
import Derived.Handy
namespace Go.Proofs.YtapnaocdehahdaaGreat
open Go.RowKit Go.Maps Go.IntWalk Go.Lib
set_option linter.unusedVariables false
set_option linter.unusedSimpArgs false
def kindV (o:OpV):Value:=
 if o.kind=1 then .iface 196 (encO o)
 else if o.kind=2 then .iface 199 (encO o)
 else if o.kind=3 then .iface 200 (encO o)
 else if o.kind=4 then .iface 201 (encO o)
 else if o.kind=5 then .iface 202 (encO o)
 else if o.kind=6 then .iface 203 (encO o)
 else if o.kind=7 then .iface 204 (encO o)
 else if o.kind=8 then .iface 205 (encO o)
 else if o.kind=9 then .iface 206 (encO o)
 else if o.kind=10 then .iface 207 (encO o)
 else .nilIface
set_option maxRecDepth 100000 in
set_option maxHeartbeats 8000000 in
theorem skind_at (o:OpV) (w:World):Calls Tryz.prog 55 #[encO o] w fun e w'=>e=.returned (kindV o)∧Below w.heap.size w w':=by
 have HE:=Lib.hid (show kindV o=kindV o from rfl)
 by_cases e1:o.kind=1
 ·have E:=Lib.hid (show kindV o=.iface 196 (encO o) by unfold kindV;rw [if_pos e1])
  have z1:(o.kind == 1)=true:=by simpa using e1
  clear HE e1
  rw [E.out]
  unfold encO
  go_enter Tryz.func55,Tryz.ntmps55
  go_wp2_with (refine wp_lit #[(0,.agg #[.int .u8 o.kind,.int .i64 o.cpu,.int .i64 o.task,.int .i64 o.group,.int .i64 o.weight,.int .i64 o.dst,.int .i64 o.ticks,.int .u64 o.mask])] #[.int .u8 o.kind,.int .i64 o.cpu,.int .i64 o.task,.int .i64 o.group,.int .i64 o.weight,.int .i64 o.dst,.int .i64 o.ticks,.int .u64 o.mask] (by kernel_rfl) (by kernel_rfl) ?_;(try simp only [Act.put,List.setIfInBounds_toArray,List.set_cons_zero,List.set_cons_succ]))
  go_ret
  exact ⟨rfl,below_a _ _⟩
 by_cases e2:o.kind=2
 ·have E:=Lib.hid (show kindV o=.iface 199 (encO o) by unfold kindV;rw [if_neg e1,if_pos e2])
  have z1:(o.kind == 1)=false:=by simpa using e1
  have z2:(o.kind == 2)=true:=by simpa using e2
  clear HE e1 e2
  rw [E.out]
  unfold encO
  go_enter Tryz.func55,Tryz.ntmps55
  go_wp2_with (refine wp_lit #[(0,.agg #[.int .u8 o.kind,.int .i64 o.cpu,.int .i64 o.task,.int .i64 o.group,.int .i64 o.weight,.int .i64 o.dst,.int .i64 o.ticks,.int .u64 o.mask])] #[.int .u8 o.kind,.int .i64 o.cpu,.int .i64 o.task,.int .i64 o.group,.int .i64 o.weight,.int .i64 o.dst,.int .i64 o.ticks,.int .u64 o.mask] (by kernel_rfl) (by kernel_rfl) ?_;(try simp only [Act.put,List.setIfInBounds_toArray,List.set_cons_zero,List.set_cons_succ]))
  go_ret
  exact ⟨rfl,below_a _ _⟩
 by_cases e3:o.kind=3
 ·have E:=Lib.hid (show kindV o=.iface 200 (encO o) by unfold kindV;rw [if_neg e1,if_neg e2,if_pos e3])
  have z1:(o.kind == 1)=false:=by simpa using e1
  have z2:(o.kind == 2)=false:=by simpa using e2
  have z3:(o.kind == 3)=true:=by simpa using e3
  clear HE e1 e2 e3
  rw [E.out]
  unfold encO
  go_enter Tryz.func55,Tryz.ntmps55
  go_wp2_with (refine wp_lit #[(0,.agg #[.int .u8 o.kind,.int .i64 o.cpu,.int .i64 o.task,.int .i64 o.group,.int .i64 o.weight,.int .i64 o.dst,.int .i64 o.ticks,.int .u64 o.mask])] #[.int .u8 o.kind,.int .i64 o.cpu,.int .i64 o.task,.int .i64 o.group,.int .i64 o.weight,.int .i64 o.dst,.int .i64 o.ticks,.int .u64 o.mask] (by kernel_rfl) (by kernel_rfl) ?_;(try simp only [Act.put,List.setIfInBounds_toArray,List.set_cons_zero,List.set_cons_succ]))
  go_ret
  exact ⟨rfl,below_a _ _⟩
 by_cases e4:o.kind=4
 ·have E:=Lib.hid (show kindV o=.iface 201 (encO o) by unfold kindV;rw [if_neg e1,if_neg e2,if_neg e3,if_pos e4])
  have z1:(o.kind == 1)=false:=by simpa using e1
  have z2:(o.kind == 2)=false:=by simpa using e2
  have z3:(o.kind == 3)=false:=by simpa using e3
  have z4:(o.kind == 4)=true:=by simpa using e4
  clear HE e1 e2 e3 e4
  rw [E.out]
  unfold encO
  go_enter Tryz.func55,Tryz.ntmps55
  go_wp2_with (refine wp_lit #[(0,.agg #[.int .u8 o.kind,.int .i64 o.cpu,.int .i64 o.task,.int .i64 o.group,.int .i64 o.weight,.int .i64 o.dst,.int .i64 o.ticks,.int .u64 o.mask])] #[.int .u8 o.kind,.int .i64 o.cpu,.int .i64 o.task,.int .i64 o.group,.int .i64 o.weight,.int .i64 o.dst,.int .i64 o.ticks,.int .u64 o.mask] (by kernel_rfl) (by kernel_rfl) ?_;(try simp only [Act.put,List.setIfInBounds_toArray,List.set_cons_zero,List.set_cons_succ]))
  go_ret
  exact ⟨rfl,below_a _ _⟩
 by_cases e5:o.kind=5
 ·have E:=Lib.hid (show kindV o=.iface 202 (encO o) by unfold kindV;rw [if_neg e1,if_neg e2,if_neg e3,if_neg e4,if_pos e5])
  have z1:(o.kind == 1)=false:=by simpa using e1
  have z2:(o.kind == 2)=false:=by simpa using e2
  have z3:(o.kind == 3)=false:=by simpa using e3
  have z4:(o.kind == 4)=false:=by simpa using e4
  have z5:(o.kind == 5)=true:=by simpa using e5
  clear HE e1 e2 e3 e4 e5
  rw [E.out]
  unfold encO
  go_enter Tryz.func55,Tryz.ntmps55
  go_wp2_with (refine wp_lit #[(0,.agg #[.int .u8 o.kind,.int .i64 o.cpu,.int .i64 o.task,.int .i64 o.group,.int .i64 o.weight,.int .i64 o.dst,.int .i64 o.ticks,.int .u64 o.mask])] #[.int .u8 o.kind,.int .i64 o.cpu,.int .i64 o.task,.int .i64 o.group,.int .i64 o.weight,.int .i64 o.dst,.int .i64 o.ticks,.int .u64 o.mask] (by kernel_rfl) (by kernel_rfl) ?_;(try simp only [Act.put,List.setIfInBounds_toArray,List.set_cons_zero,List.set_cons_succ]))
  go_ret
  exact ⟨rfl,below_a _ _⟩
 by_cases e6:o.kind=6
 ·have E:=Lib.hid (show kindV o=.iface 203 (encO o) by unfold kindV;rw [if_neg e1,if_neg e2,if_neg e3,if_neg e4,if_neg e5,if_pos e6])
  have z1:(o.kind == 1)=false:=by simpa using e1
  have z2:(o.kind == 2)=false:=by simpa using e2
  have z3:(o.kind == 3)=false:=by simpa using e3
  have z4:(o.kind == 4)=false:=by simpa using e4
  have z5:(o.kind == 5)=false:=by simpa using e5
  have z6:(o.kind == 6)=true:=by simpa using e6
  clear HE e1 e2 e3 e4 e5 e6
  rw [E.out]
  unfold encO
  go_enter Tryz.func55,Tryz.ntmps55
  go_wp2_with (refine wp_lit #[(0,.agg #[.int .u8 o.kind,.int .i64 o.cpu,.int .i64 o.task,.int .i64 o.group,.int .i64 o.weight,.int .i64 o.dst,.int .i64 o.ticks,.int .u64 o.mask])] #[.int .u8 o.kind,.int .i64 o.cpu,.int .i64 o.task,.int .i64 o.group,.int .i64 o.weight,.int .i64 o.dst,.int .i64 o.ticks,.int .u64 o.mask] (by kernel_rfl) (by kernel_rfl) ?_;(try simp only [Act.put,List.setIfInBounds_toArray,List.set_cons_zero,List.set_cons_succ]))
  go_ret
  exact ⟨rfl,below_a _ _⟩
 by_cases e7:o.kind=7
 ·have E:=Lib.hid (show kindV o=.iface 204 (encO o) by unfold kindV;rw [if_neg e1,if_neg e2,if_neg e3,if_neg e4,if_neg e5,if_neg e6,if_pos e7])
  have z1:(o.kind == 1)=false:=by simpa using e1
  have z2:(o.kind == 2)=false:=by simpa using e2
  have z3:(o.kind == 3)=false:=by simpa using e3
  have z4:(o.kind == 4)=false:=by simpa using e4
  have z5:(o.kind == 5)=false:=by simpa using e5
  have z6:(o.kind == 6)=false:=by simpa using e6
  have z7:(o.kind == 7)=true:=by simpa using e7
  clear HE e1 e2 e3 e4 e5 e6 e7
  rw [E.out]
  unfold encO
  go_enter Tryz.func55,Tryz.ntmps55
  go_wp2_with (refine wp_lit #[(0,.agg #[.int .u8 o.kind,.int .i64 o.cpu,.int .i64 o.task,.int .i64 o.group,.int .i64 o.weight,.int .i64 o.dst,.int .i64 o.ticks,.int .u64 o.mask])] #[.int .u8 o.kind,.int .i64 o.cpu,.int .i64 o.task,.int .i64 o.group,.int .i64 o.weight,.int .i64 o.dst,.int .i64 o.ticks,.int .u64 o.mask] (by kernel_rfl) (by kernel_rfl) ?_;(try simp only [Act.put,List.setIfInBounds_toArray,List.set_cons_zero,List.set_cons_succ]))
  go_ret
  exact ⟨rfl,below_a _ _⟩
 by_cases e8:o.kind=8
 ·have E:=Lib.hid (show kindV o=.iface 205 (encO o) by unfold kindV;rw [if_neg e1,if_neg e2,if_neg e3,if_neg e4,if_neg e5,if_neg e6,if_neg e7,if_pos e8])
  have z1:(o.kind == 1)=false:=by simpa using e1
  have z2:(o.kind == 2)=false:=by simpa using e2
  have z3:(o.kind == 3)=false:=by simpa using e3
  have z4:(o.kind == 4)=false:=by simpa using e4
  have z5:(o.kind == 5)=false:=by simpa using e5
  have z6:(o.kind == 6)=false:=by simpa using e6
  have z7:(o.kind == 7)=false:=by simpa using e7
  have z8:(o.kind == 8)=true:=by simpa using e8
  clear HE e1 e2 e3 e4 e5 e6 e7 e8
  rw [E.out]
  unfold encO
  go_enter Tryz.func55,Tryz.ntmps55
  go_wp2_with (refine wp_lit #[(0,.agg #[.int .u8 o.kind,.int .i64 o.cpu,.int .i64 o.task,.int .i64 o.group,.int .i64 o.weight,.int .i64 o.dst,.int .i64 o.ticks,.int .u64 o.mask])] #[.int .u8 o.kind,.int .i64 o.cpu,.int .i64 o.task,.int .i64 o.group,.int .i64 o.weight,.int .i64 o.dst,.int .i64 o.ticks,.int .u64 o.mask] (by kernel_rfl) (by kernel_rfl) ?_;(try simp only [Act.put,List.setIfInBounds_toArray,List.set_cons_zero,List.set_cons_succ]))
  go_ret
  exact ⟨rfl,below_a _ _⟩
 by_cases e9:o.kind=9
 ·have E:=Lib.hid (show kindV o=.iface 206 (encO o) by unfold kindV;rw [if_neg e1,if_neg e2,if_neg e3,if_neg e4,if_neg e5,if_neg e6,if_neg e7,if_neg e8,if_pos e9])
  have z1:(o.kind == 1)=false:=by simpa using e1
  have z2:(o.kind == 2)=false:=by simpa using e2
  have z3:(o.kind == 3)=false:=by simpa using e3
  have z4:(o.kind == 4)=false:=by simpa using e4
  have z5:(o.kind == 5)=false:=by simpa using e5
  have z6:(o.kind == 6)=false:=by simpa using e6
  have z7:(o.kind == 7)=false:=by simpa using e7
  have z8:(o.kind == 8)=false:=by simpa using e8
  have z9:(o.kind == 9)=true:=by simpa using e9
  clear HE e1 e2 e3 e4 e5 e6 e7 e8 e9
  rw [E.out]
  unfold encO
  go_enter Tryz.func55,Tryz.ntmps55
  go_wp2_with (refine wp_lit #[(0,.agg #[.int .u8 o.kind,.int .i64 o.cpu,.int .i64 o.task,.int .i64 o.group,.int .i64 o.weight,.int .i64 o.dst,.int .i64 o.ticks,.int .u64 o.mask])] #[.int .u8 o.kind,.int .i64 o.cpu,.int .i64 o.task,.int .i64 o.group,.int .i64 o.weight,.int .i64 o.dst,.int .i64 o.ticks,.int .u64 o.mask] (by kernel_rfl) (by kernel_rfl) ?_;(try simp only [Act.put,List.setIfInBounds_toArray,List.set_cons_zero,List.set_cons_succ]))
  go_ret
  exact ⟨rfl,below_a _ _⟩
 by_cases e10:o.kind=10
 ·have E:=Lib.hid (show kindV o=.iface 207 (encO o) by unfold kindV;rw [if_neg e1,if_neg e2,if_neg e3,if_neg e4,if_neg e5,if_neg e6,if_neg e7,if_neg e8,if_neg e9,if_pos e10])
  have z1:(o.kind == 1)=false:=by simpa using e1
  have z2:(o.kind == 2)=false:=by simpa using e2
  have z3:(o.kind == 3)=false:=by simpa using e3
  have z4:(o.kind == 4)=false:=by simpa using e4
  have z5:(o.kind == 5)=false:=by simpa using e5
  have z6:(o.kind == 6)=false:=by simpa using e6
  have z7:(o.kind == 7)=false:=by simpa using e7
  have z8:(o.kind == 8)=false:=by simpa using e8
  have z9:(o.kind == 9)=false:=by simpa using e9
  have z10:(o.kind == 10)=true:=by simpa using e10
  clear HE e1 e2 e3 e4 e5 e6 e7 e8 e9 e10
  rw [E.out]
  unfold encO
  go_enter Tryz.func55,Tryz.ntmps55
  go_wp2_with (refine wp_lit #[(0,.agg #[.int .u8 o.kind,.int .i64 o.cpu,.int .i64 o.task,.int .i64 o.group,.int .i64 o.weight,.int .i64 o.dst,.int .i64 o.ticks,.int .u64 o.mask])] #[.int .u8 o.kind,.int .i64 o.cpu,.int .i64 o.task,.int .i64 o.group,.int .i64 o.weight,.int .i64 o.dst,.int .i64 o.ticks,.int .u64 o.mask] (by kernel_rfl) (by kernel_rfl) ?_;(try simp only [Act.put,List.setIfInBounds_toArray,List.set_cons_zero,List.set_cons_succ]))
  go_ret
  exact ⟨rfl,below_a _ _⟩
 have E:=Lib.hid (show kindV o=.nilIface by unfold kindV;rw [if_neg e1,if_neg e2,if_neg e3,if_neg e4,if_neg e5,if_neg e6,if_neg e7,if_neg e8,if_neg e9,if_neg e10])
 have z1:(o.kind == 1)=false:=by simpa using e1
 have z2:(o.kind == 2)=false:=by simpa using e2
 have z3:(o.kind == 3)=false:=by simpa using e3
 have z4:(o.kind == 4)=false:=by simpa using e4
 have z5:(o.kind == 5)=false:=by simpa using e5
 have z6:(o.kind == 6)=false:=by simpa using e6
 have z7:(o.kind == 7)=false:=by simpa using e7
 have z8:(o.kind == 8)=false:=by simpa using e8
 have z9:(o.kind == 9)=false:=by simpa using e9
 have z10:(o.kind == 10)=false:=by simpa using e10
 clear HE e1 e2 e3 e4 e5 e6 e7 e8 e9 e10
 rw [E.out]
 unfold encO
 go_enter Tryz.func55,Tryz.ntmps55
 go_wp2_with fail
 go_ret
 exact ⟨rfl,below_a _ _⟩
end Go.Proofs.YtapnaocdehahdaaGreat
