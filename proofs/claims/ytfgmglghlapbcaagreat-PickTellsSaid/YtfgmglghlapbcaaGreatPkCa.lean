/-
  Layer 25 (pick): what a charge changes (plain).
  Layer 25 (pick): rows of entities and of bools in cells.
-/
import Derived.Test.YtfgmglghlapbcaaGreatPkY
namespace Go.Proofs.YtfgmglghlapbcaaGreat
open Go.RowKit Go.Maps Go.IntWalk Go.Lib Go.Sort Go.Shelf
set_option linter.unusedVariables false
set_option linter.unusedSimpArgs false
theorem own_pos {w:World} {base e size:Nat} {v:Value} {n:Nat} {xs:List Value} (h:w.ownsRow base e size v n xs) (h0:0<n):∃ g c,v=.slice (some ⟨g,0,none⟩) n c:=by
 obtain ⟨m,rfl⟩:∃ m,n=m+1:=⟨n - 1,by omega⟩
 exact own_some h
def eqE (b c d b' c' d':Int):Bool:=decide (b=b'∧c=c'∧d=d')
theorem eqIn_ent (D:Nat) (w:World) (b c d b' c' d':Int):(Op.equalIn (D+3) 40 (.agg #[.int .u64 b,.int .u32 c,.int .u32 d]) (.agg #[.int .u64 b',.int .u32 c',.int .u32 d'])).run Tryz.prog w=.ok (eqE b c d b' c' d') w:=by
 rw [run_equalIn_agg w (D+2) _ _ _ (by kernel_rfl) (by kernel_rfl)]
 simp [go_sem,Tryz.underlying40]
 unfold eqE
 by_cases h1:b=b' <;> by_cases h2:c=c' <;> by_cases h3:d=d' <;> simp [h1,h2,h3]
@[go_sem] theorem eg_ent:Tryz.prog.eqGuardType Tryz.prog.depth 40=false:=by kernel_rfl
@[go_sem high] theorem run_neq_ent (w:World) (b c d b' c' d':Int):(binOp .neq 40 (.agg #[.int .u64 b,.int .u32 c,.int .u32 d]) (.agg #[.int .u64 b',.int .u32 c',.int .u32 d'])).run Tryz.prog w=.ok (.bool (!(eqE b c d b' c' d'))) w:=by
 rw [run_neq_struct,eqIn_ent 9997]
 rfl
end Go.Proofs.YtfgmglghlapbcaaGreat
