/-
  Layer 18 (heap): New; from call to call.
-/
import Derived.Test.YtapnaocdehahdaaGreatHpP
import Derived.Test.YtapnaocdehahdaaGreatKtB
namespace Go.Proofs.YtapnaocdehahdaaGreat
open Go.RowKit Go.Maps Go.IntWalk Go.Lib
set_option linter.unusedVariables false
theorem New_in (n:Int) (w:World) (h0:1≤n) (h1:n≤131072):Calls Tryz.prog 107 #[.int .i64 n] w fun e w'=>e=.returned (.tuple #[.pointer (some ⟨w.heap.size+1,0,none⟩),.int .i64 0])∧HeapIn w' (w.heap.size+1) [w.heap.size+1,w.heap.size] n []∧Below w.heap.size w w':=by
 refine (New_raw n w h0 h1).mono ?_
 rintro e w' ⟨rfl,hr,hb⟩
 refine ⟨rfl,⟨none,0,w.heap.size,[],fun _=>none,⟨hr,fun i _ h=>by simp at h,fun i j h=>by simp at h,fun id q=>?_⟩,rfl,List.Perm.refl _,List.Pairwise.nil⟩,hb⟩
 constructor
 ·intro h;cases h
 ·rintro ⟨j,h,_⟩;simp at h
structure Step (F:List Nat) (w:World) (F':List Nat) (w':World):Prop where
 kept:Kept F w w'
 new:∀ b∈F',b∈F∨w.heap.size≤b
theorem Step.cell {F F':List Nat} {w w':World} (h:Step F w F' w') {b o:Nat} {v:Value} (hb:b∉F) (hc:w.cell? ⟨b,o,none⟩=some v):w'.cell? ⟨b,o,none⟩=some v:=h.kept.cellAt hc hb
theorem Step.off {F F':List Nat} {w w':World} (h:Step F w F' w') {b:Nat} (hb:b∉F) (hl:b<w.heap.size):b∉F':=fun m=>by
 rcases h.new b m with q | q
 ·exact hb q
 ·omega
theorem Step.of {F:List Nat} {w w':World} (h:Below w.heap.size w w'):Step F w F w':=⟨Kept.of h,fun b hb=>Or.inl hb⟩
theorem Step.trans {F F' F2:List Nat} {a b c:World} (h:Step F a F' b) (k:Step F' b F2 c):Step F a F2 c:=by
 refine ⟨⟨k.kept.os.trans h.kept.os,k.kept.tape.trans h.kept.tape,k.kept.output.trans h.kept.output,Nat.le_trans h.kept.size k.kept.size,fun i hi hn=>?_⟩,fun x hx=>?_⟩
 ·rw [k.kept.block i (Nat.lt_of_lt_of_le hi h.kept.size) (h.off hn hi)]
  exact h.kept.block i hi hn
 ·rcases k.new x hx with q | q
  ·exact h.new x q
  ·exact Or.inr (Nat.le_trans h.kept.size q)
theorem After.split {w w':World} {p:Nat} {F:List Nat} {n:Int} {S:Items} (h:After w p F n S w'):∃ F',HeapIn w' p F' n S∧Step F w F' w':=by
 obtain ⟨F',h1,h2,h3⟩:=h
 exact ⟨F',h1,h2,h3⟩
end Go.Proofs.YtapnaocdehahdaaGreat
