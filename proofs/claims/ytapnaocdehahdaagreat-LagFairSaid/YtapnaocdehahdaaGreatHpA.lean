/-
  Layer 18 (heap): plain facts on heaps in lists; no program.
-/
import Derived.Test.YtapnaocdehahdaaGreatKtA
namespace Go.Proofs.YtapnaocdehahdaaGreat
set_option linter.unusedVariables false
def ltI (a b:Int×Int):Prop:=a.2<b.2∨a.2=b.2∧a.1<b.1
instance (a b:Int×Int):Decidable (ltI a b):=by unfold ltI;infer_instance
abbrev Items:=List (Int×Int)
def par (i:Nat):Nat:=(i - 1) / 2
theorem holes_le:∀ (n:Nat) (l:List Int),l.Nodup→(∀ x∈l,0≤x∧x<n)→l.length≤n:=by
 intro n
 induction n with
 | zero=>intro l _ h;cases l with
  | nil=>simp
  | cons a r=>have:=h a (by simp);omega
 | succ n ih =>
  intro l hn h
  have e:=ih (l.erase (n:Int)) (hn.erase _) (fun x hx=>by
   have h1:=h x (List.mem_of_mem_erase hx)
   have h2:=(hn.mem_erase_iff.1 hx).1
   omega)
  have:=List.le_length_erase (l:=l) (a:=(n:Int))
  omega
end Go.Proofs.YtapnaocdehahdaaGreat
