/-
  Layer 31's statements: the example, step by step.
-/
import Derived.Test.YtapnaocdehahdaaGreatSchTk
import Derived.Test.YtapnaocdehahdaaGreatSchWm
import Derived.Test.YtapnaocdehahdaaGreatSchU
namespace Go.Proofs.YtapnaocdehahdaaGreat
open Go.RowKit Go.Maps Go.IntWalk Go.Lib
set_option linter.unusedVariables false
set_option linter.unusedSimpArgs false
instance:Inhabited OpV:=⟨⟨0,0,0,0,0,0,0,0⟩⟩
abbrev ExR:=OpV×Int×Int×Int
def encX (y:ExR):List Value:=[.int .u8 y.1.kind,.int .i64 y.1.cpu,.int .i64 y.1.task,.int .i64 y.1.group,.int .i64 y.1.weight,.int .i64 y.1.dst,.int .i64 y.1.ticks,.int .u64 y.1.mask,.int .i64 y.2.1,.int .i64 y.2.2.1,.int .i64 y.2.2.2]
theorem encX_ok:Enc encX 11:=⟨fun _=>rfl,fun x u hu=>by simp [encX] at hu;rcases hu with rfl | rfl | rfl | rfl | rfl | rfl | rfl | rfl | rfl | rfl | rfl <;> rfl,by decide⟩
def exL:List ExR:=[(⟨1,0,5,0,1024,0,0,1⟩,0,1,0),(⟨1,0,6,1,1,0,0,1⟩,0,2,0),(⟨6,0,0,0,0,0,0,0⟩,5,1,0),(⟨5,0,0,0,0,0,1,0⟩,5,1,0),(⟨6,0,0,0,0,0,0,0⟩,6,2,0),(⟨5,0,0,0,0,0,1,0⟩,6,2,0),(⟨6,0,0,0,0,0,0,0⟩,5,1,0),(⟨3,0,0,0,0,0,0,0⟩,5,1,0),(⟨6,0,0,0,0,0,0,0⟩,6,2,0),(⟨5,0,0,0,0,0,2,0⟩,6,2,0),(⟨2,0,5,0,0,0,0,0⟩,0,1,0),(⟨9,0,6,0,0,1,0,0⟩,0,0,300)]
theorem exL_recs (w:World):RecsAt encX (w.alloc (.cells #[.int .u8 1,.int .i64 0,.int .i64 5,.int .i64 0,.int .i64 1024,.int .i64 0,.int .i64 0,.int .u64 1,.int .i64 0,.int .i64 1,.int .i64 0,.int .u8 1,.int .i64 0,.int .i64 6,.int .i64 1,.int .i64 1,.int .i64 0,.int .i64 0,.int .u64 1,.int .i64 0,.int .i64 2,.int .i64 0,.int .u8 6,.int .i64 0,.int .i64 0,.int .i64 0,.int .i64 0,.int .i64 0,.int .i64 0,.int .u64 0,.int .i64 5,.int .i64 1,.int .i64 0,.int .u8 5,.int .i64 0,.int .i64 0,.int .i64 0,.int .i64 0,.int .i64 0,.int .i64 1,.int .u64 0,.int .i64 5,.int .i64 1,.int .i64 0,.int .u8 6,.int .i64 0,.int .i64 0,.int .i64 0,.int .i64 0,.int .i64 0,.int .i64 0,.int .u64 0,.int .i64 6,.int .i64 2,.int .i64 0,.int .u8 5,.int .i64 0,.int .i64 0,.int .i64 0,.int .i64 0,.int .i64 0,.int .i64 1,.int .u64 0,.int .i64 6,.int .i64 2,.int .i64 0,.int .u8 6,.int .i64 0,.int .i64 0,.int .i64 0,.int .i64 0,.int .i64 0,.int .i64 0,.int .u64 0,.int .i64 5,.int .i64 1,.int .i64 0,.int .u8 3,.int .i64 0,.int .i64 0,.int .i64 0,.int .i64 0,.int .i64 0,.int .i64 0,.int .u64 0,.int .i64 5,.int .i64 1,.int .i64 0,.int .u8 6,.int .i64 0,.int .i64 0,.int .i64 0,.int .i64 0,.int .i64 0,.int .i64 0,.int .u64 0,.int .i64 6,.int .i64 2,.int .i64 0,.int .u8 5,.int .i64 0,.int .i64 0,.int .i64 0,.int .i64 0,.int .i64 0,.int .i64 2,.int .u64 0,.int .i64 6,.int .i64 2,.int .i64 0,.int .u8 2,.int .i64 0,.int .i64 5,.int .i64 0,.int .i64 0,.int .i64 0,.int .i64 0,.int .u64 0,.int .i64 0,.int .i64 1,.int .i64 0,.int .u8 9,.int .i64 0,.int .i64 6,.int .i64 0,.int .i64 0,.int .i64 1,.int .i64 0,.int .u64 0,.int .i64 0,.int .i64 0,.int .i64 300] 135)) (.slice (some ⟨w.heap.size,0,none⟩) 12 12) exL:=lit_recs encX_ok w exL _ (by decide)
def exRun:SSt→List ExR→Bool
 | _,[]=>true
 | s,y::r=>decide ((doR s y.1).1=y.2.1) && (decide ((doR s y.1).2.1=y.2.2.2) && (decide ((doR s y.1).2.2.wk=y.2.2.1) && exRun (doR s y.1).2.2 r))
def exSt (s:SSt) (l:List ExR):Nat→SSt
 | 0=>s
 | k+1=>(doR (exSt s l k) (l[k]!).1).2.2
theorem exSt_cons (s:SSt) (y:ExR) (r:List ExR):∀ k,exSt s (y::r) (k+1)=exSt (doR s y.1).2.2 r k
 | 0=>rfl
 | k+1=>by
  show (doR (exSt s (y::r) (k+1)) ((y::r)[k+1]!).1).2.2=(doR (exSt (doR s y.1).2.2 r k) (r[k]!).1).2.2
  rw [exSt_cons s y r k]
  rfl
theorem exRun_at:∀ {l:List ExR} {s:SSt},exRun s l=true→∀ k,k<l.length→doR (exSt s l k) (l[k]!).1=((l[k]!).2.1,(l[k]!).2.2.2,exSt s l (k+1))∧(exSt s l (k+1)).wk=(l[k]!).2.2.1
 | [],_,_,k,hk=>by simp at hk
 | y::r,s,h,0,_=>by
  unfold exRun at h
  simp only [Bool.and_eq_true,decide_eq_true_eq] at h
  obtain ⟨h1,h2,h3,_⟩:=h
  show doR s y.1=(y.2.1,y.2.2.2,(doR s y.1).2.2)∧(doR s y.1).2.2.wk=y.2.2.1
  exact ⟨by rw [← h1,← h2],h3⟩
 | y::r,s,h,k+1,hk=>by
  unfold exRun at h
  simp only [Bool.and_eq_true,decide_eq_true_eq] at h
  obtain ⟨h1,h2,h3,h4⟩:=h
  have:=exRun_at h4 k (by simpa using hk)
  rw [exSt_cons,exSt_cons]
  exact this
def exS0:SSt:=firstS exGs 1 0
theorem exRun_ok:exRun exS0 exL=true:=by kernel_rfl
def exLast (s:SSt):Bool:=match s.T 5 with
 | some t=>t.rdy && decide ((ranX s 5 t).1=3072)
 | none=>false
theorem exLast_ok:exLast (exSt exS0 exL 12)=true:=by kernel_rfl
theorem ex_last:∃ t,(exSt exS0 exL 12).T 5=some t∧t.rdy=true∧(ranX (exSt exS0 exL 12) 5 t).1=3072:=by
 have h:=exLast_ok
 unfold exLast at h
 split at h
 ·rename_i t ht
  simp only [Bool.and_eq_true,decide_eq_true_eq] at h
  exact ⟨t,ht,h.1,h.2⟩
 ·cases h
theorem ex_len:(exSt exS0 exL 12).c=2:=by kernel_rfl
theorem ex_wf:∀ y∈exL,y.1.Wf:=by
 intro y hy
 unfold exL at hy
 simp only [List.mem_cons,List.not_mem_nil,or_false] at hy
 rcases hy with rfl | rfl | rfl | rfl | rfl | rfl | rfl | rfl | rfl | rfl | rfl | rfl <;> exact ⟨by decide,by decide,by decide,by decide,by decide,by decide,by decide,by decide⟩
theorem ex_ok:∀ k,k≤12→SOk (exSt exS0 exL k)
 | 0,_=>SOk.begun right_exGs ⟨by decide,by decide⟩ ⟨by decide,by decide⟩
 | k+1,hk=>(ex_ok k (by omega)).done (ex_wf _ (by
   have:k<exL.length:=by show k<12;omega
   rw [getElem!_pos exL k this];exact List.getElem_mem this))
end Go.Proofs.YtapnaocdehahdaaGreat
