/-
  Layers 30 and 31: rows that are made.
-/
import Derived.Test.YtapnaocdehahdaaGreatSchS
namespace Go.Proofs.YtapnaocdehahdaaGreat
open Go.RowKit Go.Maps Go.IntWalk Go.Lib
set_option linter.unusedVariables false
set_option linter.unusedSimpArgs false
theorem made1_at {C k:Nat} (z:Value) (h:k<C):(madeCells #[z] (C*1))[k]?=some z:=by
 simp [madeCells,h,Nat.mod_one]
theorem made3_at {C k i:Nat} (z0 z1 z2:Value) (h:k<C) (hi:i<3):(madeCells #[z0,z1,z2] (C*3))[k*3+i]?=some (#[z0,z1,z2][i]!):=by
 have h1:k*3+i<C*3:=by omega
 have h2:(k*3+i) % 3=i:=by omega
 simp [madeCells,h1,h2]
theorem makes (W:World) {C:Nat} (hC:C≤64) (t e:TypeId) (i:TypeInfo) (z:Value) (size bytes:Nat) (ht:Tryz.prog.underlying t=some (.slice e)) (hi:Tryz.prog.info? e=some i) (hz:i.zero=some z) (h1:i.size=size) (h2:i.bytes=bytes) (h3:bytes≤16) :
  (Instr.makeSlice t (.int .i64 (C:Int)) (.int .i64 (C:Int))).run Tryz.prog W=.ok (.slice (some ⟨W.heap.size,0,none⟩) C C) (W.alloc (.cells (madeCells z.cells (C*size)) e)):=by
 have hb:(i.bytes:Int)*(C:Int)≤281474976710656:=by
  have:i.bytes*C≤16*64:=Nat.mul_le_mul (by omega) hC
  have h:((i.bytes*C:Nat):Int)≤281474976710656:=by omega
  rwa [Int.natCast_mul] at h
 have hr:=run_make (P:=Tryz.prog) W t e i z ht hi hz .i64 .i64 C C (by omega) (Int.le_refl _) hb (by omega)
 simp only [Int.toNat_natCast,h1] at hr
 exact hr
theorem IntsAt.made (W:World) (C:Nat) (t:TypeId):IntsAt (W.alloc (.cells (madeCells #[.int .i64 0] (C*1)) t)) W.heap.size C (fun _=>0):=
 ⟨fun k hk=>cell_nw W _ t k _ (made1_at _ hk),fun j=>frz_nw W _ t j,by simp⟩
theorem IntsAt.made' (W:World) (C:Nat) (t:TypeId) {b:Nat} (hb:b=W.heap.size):IntsAt (W.alloc (.cells (madeCells #[.int .i64 0] C) t)) b C (fun _=>0):=by
 subst hb
 have:=IntsAt.made W C t
 rw [Nat.mul_one] at this
 exact this
end Go.Proofs.YtapnaocdehahdaaGreat
