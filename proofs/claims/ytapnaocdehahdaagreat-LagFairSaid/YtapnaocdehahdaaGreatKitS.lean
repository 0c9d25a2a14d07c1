/-
  slices.SortFunc at structs: what its contract says in lists; frames.
-/
import Derived.Test.YtapnaocdehahdaaGreatKtA
import Derived.Shelf.SlSortCmp.WholeK
import Derived.Shelf.SlSortFuncK.HeapSortK
import Derived.Shelf.SlSortFuncK.ComposeK
namespace Go.Proofs.YtapnaocdehahdaaGreat
open Go.RowKit Go.Lib Go.Sort Go.Shelf
set_option linter.unusedVariables false
variable {α:Type} [Inhabited α]
theorem sortWorldK_kept (enc:α→List Value) (k:Nat) (w:World) (blk off n:Nat) (dk:Array α) (os:Array Obj):Kept [blk] w (sortWorldK enc k w blk off n dk os):=by
 refine ⟨rfl,rfl,rfl,?_,fun j hj hn=>?_⟩
 ·unfold sortWorldK grow
  simp only [Array.size_append,size_putRowK]
  show w.heap.size≤w.heap.size+os.size
  omega
 ·simp only [List.mem_singleton] at hn
  unfold sortWorldK grow
  rw [Array.getElem?_append_left (by rw [size_putRowK];exact hj)]
  show (w.heap.modify blk _)[j]?=_
  rw [Array.getElem?_modify,if_neg (by omega)]
theorem perm_of (d d':Array α) (h:PermIn 0 d.size d d'):d'.toList.Perm d.toList:=by
 obtain ⟨h1,_,h3⟩:=h
 have e1:d'.extract 0 d.size=d':=by rw [← h1];simp
 have e2:d.extract 0 d.size=d:=by simp
 rwa [e1,e2] at h3
theorem sorted_of (lt:α→α→Bool) (d:Array α) (n:Nat) (hn:n=d.size) (h:SortedIn lt 0 n d):d.toList.Pairwise fun x y=>lt y x=false:=by
 subst hn
 rw [List.pairwise_iff_getElem]
 intro i j hi hj hij
 have:=h i j (Nat.zero_le _) hij (by simpa using hj)
 simp only [Array.length_toList] at hi hj
 rw [getElem!_pos d j hj,getElem!_pos d i hi] at this
 simpa using this
end Go.Proofs.YtapnaocdehahdaaGreat
