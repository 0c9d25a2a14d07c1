/-
  Layers 30 and 31: masks.
-/
import Derived.Test.YtapnaocdehahdaaGreatSchKa
import Derived.Test.YtapnaocdehahdaaGreatKitN
namespace Go.Proofs.YtapnaocdehahdaaGreat
open Go.RowKit Go.Maps Go.IntWalk Go.Lib
set_option linter.unusedVariables false
set_option linter.unusedSimpArgs false
def wideM (m:Int) (C:Nat):Bool:=decide (m / 2 ^ C≠0)
theorem wide_shift {m:Int} {C:Nat} (h1:1≤C) (h2:C≤64):∃ v1 v2:Int,Op.shift .shr .u64 m .i64 ((C:Int) - 1)=pure (.int .u64 v1)∧Op.shift .shr .u64 v1 .u64 1=pure (.int .u64 v2)∧(v2 != 0)=wideM m C:=by
 refine ⟨m / 2 ^ ((C:Int) - 1).toNat,m / 2 ^ ((C:Int) - 1).toNat / 2 ^ (1:Int).toNat,shift_shr_u64 _ _ _ (by omega) (by omega),shift_shr_u64 _ _ _ (by decide) (by decide),?_⟩
 have e1:((C:Int) - 1).toNat=C - 1:=by omega
 have e2:(1:Int).toNat=1:=rfl
 have e3:(2:Int) ^ C=2 ^ (C - 1)*2:=by
  obtain ⟨d,rfl⟩:∃ d,C=d+1:=⟨C - 1,by omega⟩
  rw [Nat.add_sub_cancel,Int.pow_succ]
 have e4:m / 2 ^ (C - 1) / 2 ^ 1=m / 2 ^ C:=by
  rw [e3,Int.pow_one]
  exact Int.ediv_ediv_of_nonneg (Int.le_of_lt (Int.pow_pos (by decide)))
 unfold wideM
 rw [e1,e2,e4]
 by_cases h:m / 2 ^ C=0 <;> simp [h]
theorem bit_shift {m:Int} {k:Nat} (h2:k≤64) (hm:0≤m∧m≤18446744073709551615):∃ v:Int,Op.shift .shr .u64 m .i64 (k:Int)=pure (.int .u64 v)∧(bits BinOp.and IntKind.u64 v 1 == 0)=!bitM m k:=by
 have hp:(0:Int)<2 ^ k:=Int.pow_pos (by decide)
 have h0:0≤m / 2 ^ k:=Int.ediv_nonneg hm.1 (Int.le_of_lt hp)
 have h1:m / 2 ^ k≤m:=Int.ediv_le_self _ hm.1
 refine ⟨m / 2 ^ (k:Int).toNat,shift_shr_u64 _ _ _ (by omega) (by omega),?_⟩
 rw [Int.toNat_natCast,and_one_u64 _ h0 (Int.le_trans h1 hm.2)]
 unfold bitM
 rcases Int.emod_two_eq (m / 2 ^ k) with h | h <;> simp [h]
end Go.Proofs.YtapnaocdehahdaaGreat
