/-
  Boxes: the cells of one, as a bundle; packed and unpacked.
-/
import Derived.Test.YtfgmglghlapbcaaGreatKtA
import Derived.Test.YtfgmglghlapbcaaGreatKtB
import Derived.SizedLaws
namespace Go.Proofs.YtfgmglghlapbcaaGreat
open Go.RowKit
set_option linter.unusedVariables false
def CellsF (w:World) (b:Nat) (vals:List Value):Prop:=∀ j u,vals[j]?=some u→w.cell? ⟨b,j,none⟩=some u∧w.frozen? ⟨b,j,none⟩=false
theorem CellsF.kept {S:List Nat} {w w':World} {b:Nat} {vals:List Value} (h:CellsF w b vals) (hk:Kept S w w') (hb:b∉S):CellsF w' b vals:=fun j u hu=>⟨hk.cellAt (h j u hu).1 hb,hk.frz (h j u hu).2 (lt_of_cell (h j u hu).1) hb⟩
theorem CellsF.later {w w':World} {b:Nat} {vals:List Value} (h:CellsF w b vals) (hb:Below w.heap.size w w'):CellsF w' b vals:=h.kept (S:=[]) (Kept.of hb) (by simp)
theorem CellsF.new {n:Nat} {w:World} {l:List Value} {t:TypeId} (hn:n=w.heap.size):CellsF (w.alloc (.cells l.toArray t)) n l:=fun j u hu=>by
 subst hn
 exact ⟨cell_nw _ _ _ j _ (by simpa using hu),frz_nw _ _ _ j⟩
theorem cells_set {w:World} {b i:Nat} {vals:List Value} {v:Value} (h:CellsF w b vals):CellsF (w.setCell ⟨b,i,none⟩ v) b (vals.set i v):=fun j u hu=>by
 refine ⟨?_,?_⟩
 ·rw [List.getElem?_set] at hu
  by_cases e:i=j
  ·subst e
   rw [if_pos rfl] at hu
   split at hu
   ·rename_i q
    cases hu
    have:=(h i vals[i] (List.getElem?_eq_getElem q)).1
    exact cell_set_eq this
   ·cases hu
  ·rw [if_neg e] at hu
   exact cell_set_ne (h j u hu).1 (Or.inr (fun q=>e q.symm))
 ·rw [World.frozen?_setCell]
  rw [List.getElem?_set] at hu
  by_cases e:i=j
  ·subst e
   rw [if_pos rfl] at hu
   split at hu
   ·rename_i q
    exact (h i vals[i] (List.getElem?_eq_getElem q)).2
   ·cases hu
  ·rw [if_neg e] at hu
   exact (h j u hu).2
theorem cells_other {w:World} {b b' i:Nat} {vals:List Value} {v:Value} (h:CellsF w b vals) (hn:b≠b'):CellsF (w.setCell ⟨b',i,none⟩ v) b vals:=fun j u hu=>⟨cell_set_ne (h j u hu).1 (Or.inl hn),by rw [World.frozen?_setCell];exact (h j u hu).2⟩
theorem uc3 {w:World} {b:Nat} {u0 u1 u2:Value} (h:CellsF w b [u0,u1,u2]):w.cell? ⟨b,0,none⟩=some u0∧w.frozen? ⟨b,0,none⟩=false∧w.cell? ⟨b,1,none⟩=some u1∧w.frozen? ⟨b,1,none⟩=false∧w.cell? ⟨b,2,none⟩=some u2∧w.frozen? ⟨b,2,none⟩=false:=
 ⟨(h 0 _ rfl).1,(h 0 _ rfl).2,(h 1 _ rfl).1,(h 1 _ rfl).2,(h 2 _ rfl).1,(h 2 _ rfl).2⟩
theorem pc3 {w:World} {b:Nat} {u0 u1 u2:Value} (c0:w.cell? ⟨b,0,none⟩=some u0) (f0:w.frozen? ⟨b,0,none⟩=false) (c1:w.cell? ⟨b,1,none⟩=some u1) (f1:w.frozen? ⟨b,1,none⟩=false) (c2:w.cell? ⟨b,2,none⟩=some u2) (f2:w.frozen? ⟨b,2,none⟩=false):CellsF w b [u0,u1,u2]:=fun j u hu=>by
 match j,hu with
 | 0,hu=>cases hu;exact ⟨c0,f0⟩
 | 1,hu=>cases hu;exact ⟨c1,f1⟩
 | 2,hu=>cases hu;exact ⟨c2,f2⟩
 | j+3,hu=>simp at hu
theorem uc5 {w:World} {b:Nat} {u0 u1 u2 u3 u4:Value} (h:CellsF w b [u0,u1,u2,u3,u4]):w.cell? ⟨b,0,none⟩=some u0∧w.frozen? ⟨b,0,none⟩=false∧w.cell? ⟨b,1,none⟩=some u1∧w.frozen? ⟨b,1,none⟩=false∧w.cell? ⟨b,2,none⟩=some u2∧w.frozen? ⟨b,2,none⟩=false∧w.cell? ⟨b,3,none⟩=some u3∧w.frozen? ⟨b,3,none⟩=false∧w.cell? ⟨b,4,none⟩=some u4∧w.frozen? ⟨b,4,none⟩=false:=
 ⟨(h 0 _ rfl).1,(h 0 _ rfl).2,(h 1 _ rfl).1,(h 1 _ rfl).2,(h 2 _ rfl).1,(h 2 _ rfl).2,(h 3 _ rfl).1,(h 3 _ rfl).2,(h 4 _ rfl).1,(h 4 _ rfl).2⟩
theorem pc5 {w:World} {b:Nat} {u0 u1 u2 u3 u4:Value} (c0:w.cell? ⟨b,0,none⟩=some u0) (f0:w.frozen? ⟨b,0,none⟩=false) (c1:w.cell? ⟨b,1,none⟩=some u1) (f1:w.frozen? ⟨b,1,none⟩=false) (c2:w.cell? ⟨b,2,none⟩=some u2) (f2:w.frozen? ⟨b,2,none⟩=false) (c3:w.cell? ⟨b,3,none⟩=some u3) (f3:w.frozen? ⟨b,3,none⟩=false) (c4:w.cell? ⟨b,4,none⟩=some u4) (f4:w.frozen? ⟨b,4,none⟩=false):CellsF w b [u0,u1,u2,u3,u4]:=fun j u hu=>by
 match j,hu with
 | 0,hu=>cases hu;exact ⟨c0,f0⟩
 | 1,hu=>cases hu;exact ⟨c1,f1⟩
 | 2,hu=>cases hu;exact ⟨c2,f2⟩
 | 3,hu=>cases hu;exact ⟨c3,f3⟩
 | 4,hu=>cases hu;exact ⟨c4,f4⟩
 | j+5,hu=>simp at hu
theorem uc8 {w:World} {b:Nat} {u0 u1 u2 u3 u4 u5 u6 u7:Value} (h:CellsF w b [u0,u1,u2,u3,u4,u5,u6,u7]):w.cell? ⟨b,0,none⟩=some u0∧w.frozen? ⟨b,0,none⟩=false∧w.cell? ⟨b,1,none⟩=some u1∧w.frozen? ⟨b,1,none⟩=false∧w.cell? ⟨b,2,none⟩=some u2∧w.frozen? ⟨b,2,none⟩=false∧w.cell? ⟨b,3,none⟩=some u3∧w.frozen? ⟨b,3,none⟩=false∧w.cell? ⟨b,4,none⟩=some u4∧w.frozen? ⟨b,4,none⟩=false∧w.cell? ⟨b,5,none⟩=some u5∧w.frozen? ⟨b,5,none⟩=false∧w.cell? ⟨b,6,none⟩=some u6∧w.frozen? ⟨b,6,none⟩=false∧w.cell? ⟨b,7,none⟩=some u7∧w.frozen? ⟨b,7,none⟩=false:=
 ⟨(h 0 _ rfl).1,(h 0 _ rfl).2,(h 1 _ rfl).1,(h 1 _ rfl).2,(h 2 _ rfl).1,(h 2 _ rfl).2,(h 3 _ rfl).1,(h 3 _ rfl).2,(h 4 _ rfl).1,(h 4 _ rfl).2,(h 5 _ rfl).1,(h 5 _ rfl).2,(h 6 _ rfl).1,(h 6 _ rfl).2,(h 7 _ rfl).1,(h 7 _ rfl).2⟩
theorem pc8 {w:World} {b:Nat} {u0 u1 u2 u3 u4 u5 u6 u7:Value} (c0:w.cell? ⟨b,0,none⟩=some u0) (f0:w.frozen? ⟨b,0,none⟩=false) (c1:w.cell? ⟨b,1,none⟩=some u1) (f1:w.frozen? ⟨b,1,none⟩=false) (c2:w.cell? ⟨b,2,none⟩=some u2) (f2:w.frozen? ⟨b,2,none⟩=false) (c3:w.cell? ⟨b,3,none⟩=some u3) (f3:w.frozen? ⟨b,3,none⟩=false) (c4:w.cell? ⟨b,4,none⟩=some u4) (f4:w.frozen? ⟨b,4,none⟩=false) (c5:w.cell? ⟨b,5,none⟩=some u5) (f5:w.frozen? ⟨b,5,none⟩=false) (c6:w.cell? ⟨b,6,none⟩=some u6) (f6:w.frozen? ⟨b,6,none⟩=false) (c7:w.cell? ⟨b,7,none⟩=some u7) (f7:w.frozen? ⟨b,7,none⟩=false):CellsF w b [u0,u1,u2,u3,u4,u5,u6,u7]:=fun j u hu=>by
 match j,hu with
 | 0,hu=>cases hu;exact ⟨c0,f0⟩
 | 1,hu=>cases hu;exact ⟨c1,f1⟩
 | 2,hu=>cases hu;exact ⟨c2,f2⟩
 | 3,hu=>cases hu;exact ⟨c3,f3⟩
 | 4,hu=>cases hu;exact ⟨c4,f4⟩
 | 5,hu=>cases hu;exact ⟨c5,f5⟩
 | 6,hu=>cases hu;exact ⟨c6,f6⟩
 | 7,hu=>cases hu;exact ⟨c7,f7⟩
 | j+8,hu=>simp at hu
theorem cs5 {w:World} {b:Nat} {u0 u1 u2 u3 u4:Value} (v0 v1 v2 v3 v4:Value) (h:CellsF w b [u0,u1,u2,u3,u4]):CellsF (((((w.setCell ⟨b,0,none⟩ v0).setCell ⟨b,1,none⟩ v1).setCell ⟨b,2,none⟩ v2).setCell ⟨b,3,none⟩ v3).setCell ⟨b,4,none⟩ v4) b [v0,v1,v2,v3,v4]:=cells_set (i:=4) (cells_set (i:=3) (cells_set (i:=2) (cells_set (i:=1) (cells_set (i:=0) h))))
theorem co5 {w:World} {b b':Nat} {l:List Value} (v0 v1 v2 v3 v4:Value) (h:CellsF w b' l) (hn:b'≠b):CellsF (((((w.setCell ⟨b,0,none⟩ v0).setCell ⟨b,1,none⟩ v1).setCell ⟨b,2,none⟩ v2).setCell ⟨b,3,none⟩ v3).setCell ⟨b,4,none⟩ v4) b' l:=cells_other (cells_other (cells_other (cells_other (cells_other h hn) hn) hn) hn) hn
theorem ks5 {S:List Nat} {w:World} {b:Nat} (v0 v1 v2 v3 v4:Value) (hb:b∈S):Kept S w (((((w.setCell ⟨b,0,none⟩ v0).setCell ⟨b,1,none⟩ v1).setCell ⟨b,2,none⟩ v2).setCell ⟨b,3,none⟩ v3).setCell ⟨b,4,none⟩ v4):=(((((Kept.refl _ _).setCell (Or.inl hb) _).setCell (Or.inl hb) _).setCell (Or.inl hb) _).setCell (Or.inl hb) _).setCell (Or.inl hb) _
end Go.Proofs.YtfgmglghlapbcaaGreat
namespace Go.Proofs.YtfgmglghlapbcaaGreat
open Go.RowKit Go.WideShapes
set_option linter.unusedVariables false
set_option linter.unusedSimpArgs false
abbrev NK:=Sum (Option IntKind) (List (Option IntKind))
def NFit (w:World):NK→Value→Prop
 | .inl k,v=>CellFit k v
 | .inr ks,v=>∃ a l c F,v=.slice a l c∧PlainRow ks w a l c F
def joinN (K:TypeId→Option (List NK)) (size:TypeId→Nat):List (Nat×TypeId)→Nat→Option (List NK)
 | [],_=>some []
 | p::r,o=>if p.1=o then
   match K p.2 with
   | some k=>if size p.2=k.length then (joinN K size r (o+k.length)).map (k++·) else none
   | none=>none
  else none
def nestKinds (P:Program):Nat→TypeId→Option (List NK)
 | 0,_=>none
 | n+1,t =>
  match P.underlying t with
  | some (.int k)=>some [.inl (some k)]
  | some .bool=>some [.inl none]
  | some (.struct fs)=>joinN (nestKinds P n) P.cellsOf (fs.toList.map fun f=>(f.offset,f.type)) 0
  | some (.array m e)=>joinN (nestKinds P n) P.cellsOf ((List.range m).map fun i=>(i*P.cellsOf e,e)) 0
  | some (.slice e)=>match plainKinds P n e with
   | some ks=>if P.cellsOf e=ks.length∧0<ks.length then some [.inr ks] else none
   | none=>none
  | _=>none
def NFitsAt (w:World) (ks:List NK) (cs:List Value):Prop:=∀ (j:Nat) (k:NK),ks[j]?=some k→∃ v,cs[j]?=some v∧NFit w k v
theorem joinN_fits {w:World} {K:TypeId→Option (List NK)} {size:TypeId→Nat} {cs:List Value}:∀ (ps:List (Nat×TypeId)) (o:Nat) (ks:List NK),
  joinN K size ps o=some ks→(∀ p∈ps,∀ k,K p.2=some k→NFitsAt w k ((cs.drop p.1).take (size p.2)))→NFitsAt w ks (cs.drop o):=by
 intro ps
 induction ps with
 | nil =>
  intro o ks h _ j k hj
  simp only [joinN,Option.some.injEq] at h
  subst h
  simp at hj
 | cons p r ih =>
  intro o ks h hp
  unfold joinN at h
  by_cases ho:p.1=o
  ·rw [if_pos ho] at h
   cases hk:K p.2 with
   | none=>rw [hk] at h;cases h
   | some k =>
    rw [hk] at h
    by_cases hs:size p.2=k.length
    ·simp only [hs,if_true,Option.map_eq_some_iff] at h
     obtain ⟨rest,hr,rfl⟩:=h
     intro j kj hj
     by_cases hlt:j<k.length
     ·rw [List.getElem?_append_left hlt] at hj
      obtain ⟨v,hv,hf⟩:=hp p (by simp) k hk j kj hj
      refine ⟨v,?_,hf⟩
      rw [List.getElem?_take,if_pos (by omega),ho] at hv
      exact hv
     ·rw [List.getElem?_append_right (by omega)] at hj
      obtain ⟨v,hv,hf⟩:=ih (o+k.length) rest hr (fun q hq=>hp q (by simp [hq])) (j - k.length) kj hj
      refine ⟨v,?_,hf⟩
      rw [List.getElem?_drop] at hv ⊢
      rw [show o+j=o+k.length+(j - k.length) by omega]
      exact hv
    ·simp only [hs,if_false] at h;cases h
  ·rw [if_neg ho] at h;cases h
section
variable {H:Type} {enc:TypeId×Value→H} {P:Program} {w:World} {base:Nat} {spare:Nat→Bool} {held:Bool}
theorem rows_of {t e:TypeId} {ks:List (Option IntKind)} {cs:List Value} {fuel:Nat} {x:DataW H×List MemPlace} (n:Nat) (ht:P.underlying t=some (.slice e)) (hk:plainKinds P n e=some ks) (hl:P.cellsOf e=ks.length) (hpos:0<ks.length)
  (hf:DataW.trod enc P w base spare held fuel t cs=some x):∃ a len cap F,cs=[.slice a len cap]∧PlainRow ks w a len cap F:=by
 obtain ⟨d,p⟩:=x
 rcases Deep.open_slice ht hf with ⟨hcs,_⟩ | ⟨x,l,c,m,q,D,Pl,hcs,_,hlc,hm,hmm,_,hel⟩
 ·exact ⟨none,0,0,fun _ _=>.nilIface,hcs,Or.inl ⟨rfl,rfl,rfl⟩⟩
 ·refine ⟨some x,l,c,?_⟩
  obtain ⟨F,hF⟩:=open_rows (enc:=enc) (w:=w) (base:=base) (spare:=spare) (held:=held) (a:=some x) (len:=l) (cap:=c) (d:=d) (p:=p) n ht hk hl hpos ⟨fuel,by rw [hcs] at hf;simpa [Value.cells] using hf⟩
  exact ⟨F,hcs,hF⟩
theorem nest_fits:∀ (n:Nat) (t:TypeId) (ks:List NK) (fuel:Nat) (cs:List Value) (x:DataW H×List MemPlace),
  nestKinds P n t=some ks→DataW.trod enc P w base spare held fuel t cs=some x→NFitsAt w ks cs:=by
 intro n
 induction n with
 | zero=>intro t ks fuel cs x h;cases h
 | succ n ih =>
  intro t ks fuel cs x h hd
  unfold nestKinds at h
  cases hu:P.underlying t with
  | none=>rw [hu] at h;cases h
  | some d =>
   rw [hu] at h
   cases d with
   | int k =>
    simp only [Option.some.injEq] at h
    subst h
    obtain ⟨a,rfl,_,wa⟩:=DataW.trod_int hu hd
    intro j kj hj
    cases j with
    | zero=>simp at hj;subst hj;exact ⟨_,rfl,a,rfl,wa⟩
    | succ j=>simp at hj
   | bool =>
    simp only [Option.some.injEq] at h
    subst h
    obtain ⟨b,rfl,_⟩:=DataW.trod_bool hu hd
    intro j kj hj
    cases j with
    | zero=>simp at hj;subst hj;exact ⟨_,rfl,b,rfl⟩
    | succ j=>simp at hj
   | struct fs =>
    obtain ⟨xs,m,_,_,_,hl,hx⟩:=DataW.trod_struct hu hd
    have:=joinN_fits (w:=w) (cs:=cs) _ 0 ks h (by
     intro p hp k hk
     simp only [List.mem_map] at hp
     obtain ⟨f,hf,rfl⟩:=hp
     obtain ⟨i,hi,hfi⟩:=List.getElem_of_mem hf
     have hi':i<fs.size:=by simpa using hi
     have h1:=hx i f (by rw [← hfi];simp [hi'])
     rw [List.getElem?_eq_getElem (by omega)] at h1
     exact ih f.type k m _ _ hk h1)
    simpa using this
   | array m e =>
    obtain ⟨xs,q,_,_,_,hl,hx⟩:=DataW.trod_array hu hd
    have:=joinN_fits (w:=w) (cs:=cs) _ 0 ks h (by
     intro p hp k hk
     simp only [List.mem_map,List.mem_range] at hp
     obtain ⟨i,hi,rfl⟩:=hp
     have h1:=hx i hi
     rw [List.getElem?_eq_getElem (by omega)] at h1
     exact ih e k q _ _ hk h1)
    simpa using this
   | slice e =>
    dsimp only at h
    cases hk:plainKinds P n e with
    | none=>rw [hk] at h;cases h
    | some k =>
     rw [hk] at h
     dsimp only at h
     split at h
     ·rename_i hh
      simp only [Option.some.injEq] at h
      subst h
      obtain ⟨a,len,cap,F,rfl,hr⟩:=rows_of n hu hk hh.1 hh.2 hd
      intro j kj hj
      cases j with
      | zero=>simp at hj;subst hj;exact ⟨_,rfl,a,len,cap,F,rfl,hr⟩
      | succ j=>simp at hj
     ·cases h
   | _=>cases h
def NestRow (ks:List NK) (w:World) (a:Option Addr) (len cap:Nat) (F:Nat→Nat→Value):Prop:=
 (a=none∧len=0∧cap=0)∨(len=0∧cap≤maxLen∧∃ x,a=some x)∨(0<len∧len≤cap∧cap≤maxLen∧∃ b off,a=some ⟨b,off,none⟩ ∧
  ∀ i,i<len→∀ (j:Nat) (k:NK),ks[j]?=some k→w.cell? ⟨b,off+i*ks.length+j,none⟩=some (F i j)∧NFit w k (F i j))
theorem open_nest {t e:TypeId} {ks:List NK} {a:Option Addr} {len cap:Nat} {d:DataW H} {p:List MemPlace} (n:Nat) (ht:P.underlying t=some (.slice e)) (hk:nestKinds P n e=some ks) (hl:P.cellsOf e=ks.length) (hpos:0<ks.length)
  (h:DataW.Trod enc P w base spare held t (.slice a len cap) d p):∃ F,NestRow ks w a len cap F:=by
 obtain ⟨fuel,hf⟩:=h
 rcases Deep.open_slice ht hf with ⟨hcs,_⟩ | ⟨x,l,c,m,q,D,Pl,hcs,_,hlc,hm,hmm,_,hel⟩
 ·simp [Value.cells] at hcs
  obtain ⟨rfl,rfl,rfl⟩:=hcs
  exact ⟨fun _ _=>.nilIface,Or.inl ⟨rfl,rfl,rfl⟩⟩
 ·simp [Value.cells] at hcs
  obtain ⟨rfl,rfl,rfl⟩:=hcs
  have hlm:len≤m:=by rw [hmm];split <;> omega
  have key:∀ i,i<len→∃ cs',(∀ j,j<ks.length→w.cell? ((x.add (i*ks.length)).add j)=cs'[j]?)∧NFitsAt w ks cs':=by
   intro i hi
   obtain ⟨cs',h1,h2⟩:=hel i (by omega)
   rw [hl] at h1
   obtain ⟨_,h3,h4⟩:=World.cells?_some h1
   exact ⟨cs',h4,nest_fits n e ks q cs' _ hk h2⟩
  obtain ⟨b,off,spot⟩:=x
  by_cases h0:len=0
  ·subst h0;exact ⟨fun _ _=>.nilIface,Or.inr (Or.inl ⟨rfl,hm,_,rfl⟩)⟩
  ·have hs:spot=none:=by
    obtain ⟨cs',h4,h5⟩:=key 0 (by omega)
    obtain ⟨k,hk0⟩:∃ k,ks[0]?=some k:=⟨_,List.getElem?_eq_getElem hpos⟩
    obtain ⟨v,hv,_⟩:=h5 0 k hk0
    have:=h4 0 hpos
    rw [hv] at this
    simpa [Addr.add] using World.cell?_spot this
   subst hs
   refine ⟨fun i j=>(w.cell? ⟨b,off+i*ks.length+j,none⟩).getD .nilIface,Or.inr (Or.inr ⟨by omega,hlc,hm,b,off,rfl,?_⟩)⟩
   intro i hi j k hj
   obtain ⟨cs',h4,h5⟩:=key i hi
   obtain ⟨v,hv,hf⟩:=h5 j k hj
   have hjl:j<ks.length:=by
    rcases Nat.lt_or_ge j ks.length with h | h
    ·exact h
    ·rw [List.getElem?_eq_none h] at hj;cases hj
   have h6:=h4 j hjl
   rw [hv] at h6
   have h7:w.cell? ⟨b,off+i*ks.length+j,none⟩=some v:=by rw [addr_add,addr_add] at h6;exact h6
   simp only [h7,Option.getD_some,true_and]
   exact hf
end
theorem slice_reach {H:Type} {enc:TypeId×Value→H} {P:Program} {w:World} {base:Nat} {held:Bool} {t e:TypeId} {a:Option Addr} {len cap j:Nat} {d:DataW H} {p:List MemPlace} {ts:List TypeId} {ds:List (DataW H)}
  (hsz:(DataW.weightsEach P ts ds).all (·≤reachBytes)=true) (ht:P.underlying t=some (.slice e)) (hj:ts[j]?=some t) (hd:ds[j]?=some d) (h:DataW.Trod enc P w base (fun _=>true) held t (.slice a len cap) d p):len*P.bytesOf e≤140737488355328:=by
 obtain ⟨fuel,hf⟩:=h
 rcases Deep.open_slice ht hf with ⟨hcs,_⟩ | ⟨x,l,c,m,q,D,Pl,hcs,_,hlc,hm,hmm,hx,hel⟩
 ·simp [Value.cells] at hcs
  obtain ⟨rfl,rfl,rfl⟩:=hcs
  simp
 ·simp [Value.cells] at hcs
  obtain ⟨rfl,rfl,rfl⟩:=hcs
  obtain ⟨rfl,_⟩:=Prod.mk.inj hx
  have h1:=sized_slice hsz hj hd ht
  simp only [List.length_map,List.length_range] at h1
  have h2:=reachBytes_lt
  have h3:len*P.bytesOf e≤(len+(m - len))*P.bytesOf e:=Nat.mul_le_mul_right _ (by omega)
  omega
end Go.Proofs.YtfgmglghlapbcaaGreat
