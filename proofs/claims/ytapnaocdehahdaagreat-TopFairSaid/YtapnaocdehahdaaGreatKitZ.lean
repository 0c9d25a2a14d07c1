/-
  A range over a map from numbers, whatever the order is: the keys that have come are a list.
-/
import Derived.Test.YtapnaocdehahdaaGreatKtA
import Derived.Maps.RangeWalk
namespace Go.Proofs.YtapnaocdehahdaaGreat
open Go.RowKit Go.Maps
set_option linter.unusedVariables false
section
variable {α:Type}
structure ReadsG (dat:α→DataW Unit) (ok:α→Prop) (D:DataW Unit) (f:Int→Option α):Prop where
 has:∀ id,has D (.int .i64 id)=(f id).isSome
 at':∀ id p,f id=some p→ok p∧∀ z,D.atKey (.int .i64 id) z=dat p
structure RangeG (R:Value→Option (DataW Unit×List MemPlace)) (w:World) (b r n:Nat) (D:DataW Unit) (f:Int→Option α) (l:List Int):Prop where
 run:∃ left cnt,w.ranges Tryz.prog 3 R b r n D left cnt∧∀ id,left (.int .i64 id)=true↔((f id).isSome=true∧id∉l)
 nod:l.Nodup
 mem:∀ id∈l,(f id).isSome=true
variable {enc:α→Value} {dat:α→DataW Unit} {R:Value→Option (DataW Unit×List MemPlace)} {ok:α→Prop} {w:World} {b r n:Nat} {D:DataW Unit} {f:Int→Option α} {l:List Int}
theorem RangeG.start {w0:World} (hD:ReadsG dat ok D f) (h:w0.ranges Tryz.prog 3 R b r n D (Maps.has D) (Maps.size D)):RangeG R w0 b r n D f []:=
 ⟨⟨_,_,h,fun id=>by rw [hD.has];simp⟩,List.nodup_nil,fun id h=>by cases h⟩
theorem RangeG.drew (h:RangeG R w b r n D f l):RangeG R w.drew b r n D f l:=⟨h.run,h.nod,h.mem⟩
theorem left_drew (w:World) (b r:Nat):w.drew.rangeLeft b r=w.rangeLeft b r:=rfl
theorem wpList_next_G {ops:Array Oper} {rest:List Oper} {o:Oper} {a:Act} {Q:Exit→Act→World→Prop} (hE:ElemG enc dat R ok) (hg:o.guard=none) (it:Operand) (hop:o.op=Op.next it false) (hit:a.eval it=.pointer (some ⟨r,0,none⟩)) (hD:ReadsG dat ok D f) (h:RangeG R w b r n D f l)
  (hDone:(∀ id,(f id).isSome=true→id∈l)→wpList Tryz.prog ops Q rest (a.put o.dst (.tuple #[.bool false])) w)
  (hMore:∀ (id:Int) (p:α) (w':World),f id=some p→id∉l→RangeG R w' b r n D f (l++[id])→w'.rangeLeft b r<w.rangeLeft b r→w.grownBy w' (some r)→w'.heap.size=w.heap.size →
   (Instr.entry (.pointer (some ⟨r,0,none⟩))).run Tryz.prog w'=.ok (.tuple #[.int .i64 id,enc p]) w'→wpList Tryz.prog ops Q rest (a.put o.dst (.tuple #[.bool true,.int .i64 id,enc p])) w') :
  wpList Tryz.prog ops Q (o::rest) a w:=by
 obtain ⟨⟨left,cnt,hr,hl⟩,hn,hm⟩:=h
 refine wpList_next_ranges (P:=Tryz.prog) w hg it hop 3 lawI R (Value.int .i64) enc (fun key kl hk=>by obtain ⟨x,rfl,_⟩:=Maps.keyOf_int_inv Tryz.underlying3 hk;exact ⟨x,rfl⟩) (fun v y hv=>by obtain ⟨c,_,rfl,_⟩:=hE.inv v y hv;exact ⟨c,rfl⟩) b r n D left cnt hit hr ?_ ?_
 ·intro h0 hall
  refine hDone fun id hi=>Decidable.byContradiction fun q=>?_
  have:=(hl id).2 ⟨hi,q⟩
  rw [hall] at this
  cases this
 ·intro x c kl y w' cnt' hkey hlk hv hat hrg hlt hgr hsz hen
  obtain ⟨x',ex,rfl,_⟩:=Maps.keyOf_int_inv Tryz.underlying3 hkey
  cases ex
  obtain ⟨hs,hx⟩:=(hl x).1 hlk
  obtain ⟨p,hp⟩:∃ p,f x=some p:=Option.isSome_iff_exists.1 hs
  obtain ⟨c',_,ec,ey⟩:=hE.inv _ _ hv
  have e1:dat c'=dat p:=by
   have q1:=hat D
   have q2:=(hD.at' x p hp).2 D
   rw [q1] at q2
   rw [← ey];exact q2
  have e2:=hE.inj _ _ e1
  subst e2
  rw [ec] at hen ⊢
  refine hMore x c' w' hp hx ⟨⟨_,cnt',hrg,fun id=>?_⟩,?_,?_⟩ ?_ hgr hsz hen
  ·rw [Bool.and_eq_true,hl id]
   by_cases e:id=x
   ·subst e;simp [Lit.sameKey]
   ·simp [e,Lit.sameKey]
  ·refine List.nodup_append.2 ⟨hn,by simp,?_⟩
   intro a ha b hb e
   simp at hb;subst hb;subst e;exact hx ha
  ·intro id hi
   rcases List.mem_append.1 hi with q | q
   ·exact hm id q
   ·simp at q;subst q;exact hs
  ·rw [hrg.left_eq,hr.left_eq];exact hlt
end
end Go.Proofs.YtapnaocdehahdaaGreat
