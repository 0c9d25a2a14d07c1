/-
  Slices of records: lists in memory; append of such.
-/
import Derived.Test.YtapnaocdehahdaaGreatKtA
import Derived.Laws.OwnMore
import Derived.RangeFuncNested
import Derived.RangeFuncBound
import Derived.RangeFuncBox
import Derived.OrdersIn
import Derived.RangeFuncCalls
namespace Go.Proofs.YtapnaocdehahdaaGreat
open Go.RowKit
set_option linter.unusedVariables false
theorem own_below {w w':World} {base e size:Nat} {v:Value} {n:Nat} {xs:List Value} (h:w.ownsRow base e size v n xs) (hb:Below w.heap.size w w'):w'.ownsRow base e size v n xs:=by
 refine ⟨h.1,?_⟩
 rcases h.2 with h2 | ⟨g,cap,cur,h1,h2,h3,h4⟩
 ·exact Or.inl h2
 ·have hg:g<w.heap.size:=by
   rcases Nat.lt_or_ge g w.heap.size with q | q
   ·exact q
   ·rw [Array.getElem?_eq_none q] at h3;cases h3
  exact Or.inr ⟨g,cap,cur,h1,h2,by rw [hb.block g hg];exact h3,h4⟩
section
variable {α:Type}
def flatR (enc:α→List Value) (L:List α):List Value:=L.flatMap enc
structure Enc (enc:α→List Value) (k:Nat):Prop where
 len:∀ x,(enc x).length=k
 one:∀ x,∀ u∈enc x,u.oneCell'=true
 pos:0<k
variable {enc:α→List Value} {k:Nat}
theorem flatR_app (L M:List α):flatR enc (L++M)=flatR enc L++flatR enc M:=by simp [flatR]
theorem flatR_len (h:Enc enc k) (L:List α):(flatR enc L).length=L.length*k:=by
 induction L with
 | nil=>simp [flatR]
 | cons x r ih =>
  have e:flatR enc (x::r)=enc x++flatR enc r:=rfl
  rw [e,List.length_append,h.len,ih,List.length_cons,Nat.add_mul];omega
theorem flatR_one (h:Enc enc k) (L:List α):∀ u∈flatR enc L,u.oneCell'=true:=by
 intro u hu
 simp only [flatR,List.mem_flatMap] at hu
 obtain ⟨x,_,hx⟩:=hu
 exact h.one x u hx
theorem flatR_at (h:Enc enc k):∀ {L:List α} {i:Nat} {x:α},L[i]?=some x→∀ j,j<k→(flatR enc L)[i*k+j]?=(enc x)[j]?
 | [],i,x,hx,j,hj=>by simp at hx
 | y::r,0,x,hx,j,hj=>by
  simp only [List.getElem?_cons_zero,Option.some.injEq] at hx
  subst hx
  have e:flatR enc (y::r)=enc y++flatR enc r:=rfl
  rw [e,Nat.zero_mul,Nat.zero_add,List.getElem?_append_left (by rw [h.len];exact hj)]
 | y::r,i+1,x,hx,j,hj=>by
  have e:flatR enc (y::r)=enc y++flatR enc r:=rfl
  rw [e,List.getElem?_append_right (by rw [h.len,Nat.add_mul];omega),h.len,show (i+1)*k+j - k=i*k+j by rw [Nat.add_mul];omega]
  exact flatR_at h (by simpa using hx) j hj
def RecsAt (enc:α→List Value) (w:World) (v:Value) (L:List α):Prop:=∃ a cap,v=.slice a L.length cap∧L.length≤cap∧cap≤9223372036854775807∧(a=none→cap=0)∧(L=[]∨∃ b off,a=some ⟨b,off,none⟩∧∀ j u,(flatR enc L)[j]?=some u→w.cell? ⟨b,off+j,none⟩=some u)
theorem RecsAt.later {w w':World} {v:Value} {L:List α} (h:RecsAt enc w v L) (hb:Below w.heap.size w w'):RecsAt enc w' v L:=by
 obtain ⟨a,cap,e,h1,h2,h3,h⟩:=h
 exact ⟨a,cap,e,h1,h2,h3,h.imp id fun ⟨b,off,e,hc⟩=>⟨b,off,e,fun j u hu=>cell_later hb (hc j u hu)⟩⟩
end
section
variable {α:Type} {enc:α→List Value} {P:Program} {w:World} (base:Nat) (t ty e:TypeId) (i:TypeInfo) (z:Value) (size bytes:Nat)
end
section
variable {α:Type} {enc:α→List Value} {P:Program} {ops:Array Oper} {o:Oper} {a:Act} {w:World} {K:Act→World→Prop} {Q:Exit→Act→World→Prop} {E:Prop} {rest:List Oper}
end
section
variable {α:Type} {enc:α→List Value} {k:Nat}
def HeldR (enc:α→List Value) (F:List Nat) (w:World) (v:Value) (L:List α):Prop:=∃ a cap,v=.slice a L.length cap∧L.length≤cap∧cap≤9223372036854775807∧(a=none→cap=0)∧(L=[]∨∃ b off,a=some ⟨b,off,none⟩∧(b∉F∧b<w.heap.size)∧∀ j u,(flatR enc L)[j]?=some u→w.cell? ⟨b,off+j,none⟩=some u)
theorem HeldR.step {F F':List Nat} {w w':World} {v:Value} {L:List α} (h:HeldR enc F w v L) (hk:Kept F w w') (hn:∀ b∈F',b∈F∨w.heap.size≤b):HeldR enc F' w' v L:=by
 obtain ⟨a,cap,e,h1,h2,h3,h⟩:=h
 refine ⟨a,cap,e,h1,h2,h3,h.imp id fun ⟨b,off,e,⟨q1,q2⟩,hc⟩=>⟨b,off,e,⟨fun m=>?_,Nat.lt_of_lt_of_le q2 hk.size⟩,fun j u hu=>hk.cellAt (hc j u hu) q1⟩⟩
 rcases hn b m with q | q
 ·exact q1 q
 ·omega
theorem HeldR.kept {F:List Nat} {w w':World} {v:Value} {L:List α} (h:HeldR enc F w v L) (hk:Kept F w w'):HeldR enc F w' v L:=h.step hk fun b hb=>Or.inl hb
theorem HeldR.later {F:List Nat} {w w':World} {v:Value} {L:List α} (h:HeldR enc F w v L) (hb:Below w.heap.size w w'):HeldR enc F w' v L:=h.kept (Kept.of hb)
end
theorem Kept.frz {S:List Nat} {w w':World} (h:Kept S w w') {b o:Nat} (hf:w.frozen? ⟨b,o,none⟩=false) (hl:b<w.heap.size) (hn:b∉S):w'.frozen? ⟨b,o,none⟩=false:=(World.frozen?_of_block (w:=w) (w':=w') (a:=⟨b,o,none⟩) (h.block b hl hn)).trans hf
theorem cell_nwE {w:World} {b:Nat} (hb:b=w.heap.size) (c:Array Value) (t:TypeId) (i:Nat) (v:Value) (h:c[i]?=some v):(w.alloc (.cells c t)).cell? ⟨b,i,none⟩=some v:=by subst hb;exact cell_nw w c t i v h
theorem frz_nwE {w:World} {b:Nat} (hb:b=w.heap.size) (c:Array Value) (t:TypeId) (i:Nat):(w.alloc (.cells c t)).frozen? ⟨b,i,none⟩=false:=by subst hb;exact frz_nw w c t i
theorem heldK_9 {S:List Nat} {W a b:World} {b0 o0 b1 o1 b2 o2 b3 o3 b4 o4 b5 o5 b6 o6 b7 o7 b8 o8:Nat} {x0 x1 x2 x3 x4 x5 x6 x7 x8:Value} (hb:Kept S a b) (h:Kept S W a∧a.cell? ⟨b0,o0,none⟩=some x0∧a.cell? ⟨b1,o1,none⟩=some x1∧a.cell? ⟨b2,o2,none⟩=some x2∧a.cell? ⟨b3,o3,none⟩=some x3∧a.cell? ⟨b4,o4,none⟩=some x4∧a.cell? ⟨b5,o5,none⟩=some x5∧a.cell? ⟨b6,o6,none⟩=some x6∧a.cell? ⟨b7,o7,none⟩=some x7∧a.cell? ⟨b8,o8,none⟩=some x8) (h0:b0∉S:=by assumption) (h1:b1∉S:=by assumption) (h2:b2∉S:=by assumption) (h3:b3∉S:=by assumption) (h4:b4∉S:=by assumption) (h5:b5∉S:=by assumption) (h6:b6∉S:=by assumption) (h7:b7∉S:=by assumption) (h8:b8∉S:=by assumption):Kept S W b∧b.cell? ⟨b0,o0,none⟩=some x0∧b.cell? ⟨b1,o1,none⟩=some x1∧b.cell? ⟨b2,o2,none⟩=some x2∧b.cell? ⟨b3,o3,none⟩=some x3∧b.cell? ⟨b4,o4,none⟩=some x4∧b.cell? ⟨b5,o5,none⟩=some x5∧b.cell? ⟨b6,o6,none⟩=some x6∧b.cell? ⟨b7,o7,none⟩=some x7∧b.cell? ⟨b8,o8,none⟩=some x8:=
 ⟨h.1.trans hb,hb.cellAt h.2.1 h0,hb.cellAt h.2.2.1 h1,hb.cellAt h.2.2.2.1 h2,hb.cellAt h.2.2.2.2.1 h3,hb.cellAt h.2.2.2.2.2.1 h4,hb.cellAt h.2.2.2.2.2.2.1 h5,hb.cellAt h.2.2.2.2.2.2.2.1 h6,hb.cellAt h.2.2.2.2.2.2.2.2.1 h7,hb.cellAt h.2.2.2.2.2.2.2.2.2 h8⟩
theorem kpK_9 {X:Prop} (h:X:=by first | with_reducible assumption | (refine heldK_9 (by (repeat (with_reducible refine Kept.setCell ?_ (Or.inl (by simp)) _));exact Kept.refl _ _) ?_;with_reducible assumption) | (refine heldK_9 (by assumption) ?_;assumption) | (refine heldK_9 (Kept.of (below_ad _ _)) ?_;assumption) | (refine heldK_9 (Kept.of (below_a _ _)) ?_;assumption)):X:=h
end Go.Proofs.YtapnaocdehahdaaGreat
namespace Go.Proofs.YtapnaocdehahdaaGreat
open Go Go.RowKit Go.Lib
set_option linter.unusedVariables false
variable {F:Fence} {n:Nat} {P:Program} {w:World}
def BoxFree {β:Type} (Bg:Nat) (J:β→World→Prop):Prop:=∀ s A v,J s A→J s (A.setCell ⟨Bg,0,none⟩ v)
structure OwnLoop {β:Type} (B:Nat) (I:β→World→Prop):Prop where
 alloc:∀ {s:β} {W:World} (o:Obj),I s W→I s (W.alloc o)
 drew:∀ {s:β} {W:World},I s W→I s W.drew
 putObj:∀ {s:β} {W:World} {l:Nat} {o:Obj} (o':Obj),I s W→B≤l→W.heap[l]?=some o→o.isCells=false→o.isWalk=false→I s (W.putObj l o')
theorem OwnFrom.loop {β:Type} {B:Nat} {I:β→World→Prop} (h:OwnFrom B I):OwnLoop B I:=⟨fun o hs=>h.alloc o hs,fun {s W} hs=>h s W W.drew none hs ⟨rfl,rfl,rfl,Nat.le_refl _,fun _ _ _=>rfl⟩ (fun r e=>by cases e),fun o' hs hB hl ho _=>h.putObj o' hs hB hl ho⟩
theorem ownLoop_pure {β:Type} {B:Nat} (p:β→Prop):OwnLoop B (fun s (_:World)=>p s):=⟨fun _ hs=>hs,fun hs=>hs,fun _ hs _ _ _ _=>hs⟩
def SeqBox {α:Type} (F:Fence) (n:Nat) (P:Program) (g:Nat) (lb:Array Value) (encs:α→Array Value) (Kp:World→World→Prop) (Bg:Nat) (S Sp:List α→Prop) (w:World):Prop:=
 ∀ (l:Nat) (J Jx:List α→World→Prop) (W:World),Below w.heap.size w W→BoxFree Bg J→BoxFree Bg Jx→(∀ s A,J s A→J s A.drew) →
  (∀ pre x W1,J pre W1→Sp (pre++[x])→YieldAt F (n - 1) P l (encs x) W1 fun e W' =>
   (e=.returned (.bool true)∧J (pre++[x]) W'∧Kp W1 W')∨(e=.returned (.bool false)∧Jx (pre++[x]) W')) →
  J [] W →
  CallsIn F n P g (#[.func (.yield l) #[] #[]]++lb) W fun e W'=>(∃ v,e=.returned v)∧((∃ xs,S xs∧J xs W')∨(∃ pre,Sp pre∧Jx pre W'))
structure KeepsLoop (B:Nat) (W W':World):Prop where
 size:W.heap.size≤W'.heap.size
 same:∀ (k:Nat) (o:Obj),B≤k→W.heap[k]?=some o→o.isCells=false→o.isWalk=false→W'.heap[k]?=some o
theorem keeps_loop {B:Nat} {W W':World} (h:KeepsFrom B W W'):KeepsLoop B W W':=⟨h.size,fun k o hB hk ho _=>h.same k o hB hk ho⟩
theorem KeepsLoop.refl (B:Nat) (W:World):KeepsLoop B W W:=keeps_loop (KeepsFrom.refl B W)
def ownPostL {α:Type} (B:Nat) (Kp:World→World→Prop) (I:List α→World→Prop) (Ix:Code→List α→World→Prop) (xs:List α) (W:World):Exit→Act→World→Prop
 | .normal,_,W'=>KeepsLoop B W W'∧Kp W W'∧I xs W'
 | .ret,_,W'=>KeepsLoop B W W'∧Ix .ret xs W'
 | .exit id,_,W'=>KeepsLoop B W W'∧Ix (.exit id) xs W'
 | .goto t,_,W'=>KeepsLoop B W W'∧Ix (.goto t) xs W'
 | .panic _,_,_=>False
 | .outgrown,_,_=>False
def Rec2 (D:Nat) (r:Loop) (W:World):Prop:=W.heap[D+1]?=some (.loop r)∧W.heap[D]?=some (.deferred (some []))
theorem Rec2.lt {D:Nat} {r:Loop} {W:World} (h:Rec2 D r W):D+1<W.heap.size:=(Array.getElem?_eq_some_iff.1 h.1).1
theorem Rec2.set {D Bg:Nat} {r:Loop} {A:World} (h:Rec2 D r A) (hB:Bg<D) (v:Value):Rec2 D r (A.setCell ⟨Bg,0,none⟩ v):=
 ⟨(heap_set_ne (by omega)).trans h.1,(heap_set_ne (by omega)).trans h.2⟩
theorem Rec2.kept {D:Nat} {r:Loop} {A B:World} (h:Rec2 D r A) (hk:KeepsLoop D A B):Rec2 D r B:=⟨hk.same _ _ (by omega) h.1 rfl rfl,hk.same _ _ (Nat.le_refl _) h.2 rfl rfl⟩
theorem Rec2.put {D:Nat} {r r':Loop} {A:World} (h:Rec2 D r A):Rec2 D r' (A.putObj (D+1) (.loop r')):=⟨World.putObj_heap_same h.lt,(World.putObj_heap_other (by omega)).trans h.2⟩
theorem range_box {α:Type} {g:Operand} {ps:Array Tmp} {assign body:Code} {Q:Exit→Act→World→Prop} {a:Act}
  (hro:F.round=none) (h1:1≤n) {gf:Nat} {lb:Array Value} (hg:a.eval g=.func (.func gf) #[] lb) (hFg:F.fn gf) (eg:∀ args w,(callFunc gf args).run P w=.ok (.enter gf args) w)
  {encs:α→Array Value} {Kp:World→World→Prop} {Bg:Nat} {S Sp:List α→Prop} {w0:World} (hBg:Bg<w.heap.size) (hseq:SeqBox F (n - 1) P gf lb encs Kp Bg S Sp w0)
  (hKt:∀ {A B C:World},Kp A B→Kp B C→Kp A C) (hKb:∀ (W:World) (l:Nat) (o o':Obj),w.heap.size≤l→W.heap[l]?=some o→o.isCells=false→o.isWalk=false→Kp W (W.putObj l o')) (hb0:Below w0.heap.size w0 w) (hps:∀ x,(encs x).size=ps.size)
  (I:List α→World→Prop) (Ix:Code→List α→World→Prop) (hI:OwnLoop w.heap.size I) (hIx:∀ c,OwnLoop w.heap.size (Ix c)) (hIb:BoxFree Bg I) (hIxb:∀ c,BoxFree Bg (Ix c)) (h0:I [] w) (Ax:α→Act→World→Prop) (hAx:∀ x a',OwnLoop w.heap.size (fun (_:Unit) W=>Ax x a' W))
  (hassign:∀ (l:Nat) (pre:List α) (x:α) (W:World) (K:Act→World→Prop),I pre W→(∀ a' W',KeepsLoop w.heap.size W W'→Kp W W'→I pre W'→Ax x a' W'→K a' W') →
   assign.wpIn (F.inRound l) (n - 1 - 1) P (Exit.then K (fun _ _ _=>False)) { tmps:=(ps.zip (encs x)).foldl (fun t (p,v)=>t.setIfInBounds p v) a.tmps,defers:=[] } W)
  (hbody:∀ (l:Nat) (pre:List α) (x:α) (a':Act) (W:World),w.heap.size≤l→(∃ r,W.heap[l]?=some (.loop r))→I pre W→Ax x a' W→Sp (pre++[x])→body.wpIn (F.inRound l) (n - 1 - 1) P (ownPostL w.heap.size Kp I Ix (pre++[x]) W) a' W)
  (hdone:∀ (D:Nat) (xs:List α) (W:World),w.heap.size≤D→S xs→I xs W→W.heap[D]?=some (.deferred (some []))→Q .normal { a with defers:={ target:=.collected D,args:=#[] }::a.defers } W)
  (hstop:∀ (D:Nat) (c:Code) (pre:List α) (W:World),w.heap.size≤D→Sp pre→Ix c pre W→W.heap[D]?=some (.deferred (some []))→c.wpIn F n P Q { a with defers:={ target:=.collected D,args:=#[] }::a.defers } W) :
  (Code.rangeFunc g ps assign body).wpIn F n P Q a w:=by
 refine wpIn_rangeFunc fun fn hfn=>?_
 rw [hro]
 -- the record,by its state and what is pending
 have mk:∃ R:LoopState→Option Code→Loop,(∀ s p,(R s p).state=s)∧(∀ s p,(R s p).pending=p)∧(∀ s p s' p',({ R s p with state:=s',pending:=p' }:Loop)=R s' p')∧(∀ s p s',({ R s p with state:=s' }:Loop)=R s' p)∧(∀ s p,(R s p).params=ps)∧(∀ s p,(R s p).fn=fn)∧(∀ s p,(R s p).tmps=a.tmps)∧(∀ s p,(R s p).assign=assign)∧(∀ s p,(R s p).body=body)∧R .ready none={ state:=.ready,pending:=none,fn:=fn,tmps:=a.tmps,params:=ps,assign:=assign,body:=body,defers:=w.heap.size }:=
  ⟨fun s p=>{ state:=s,pending:=p,fn:=fn,tmps:=a.tmps,params:=ps,assign:=assign,body:=body,defers:=w.heap.size },fun _ _=>rfl,fun _ _=>rfl,fun _ _ _ _=>rfl,fun _ _ _=>rfl,fun _ _=>rfl,fun _ _=>rfl,fun _ _=>rfl,fun _ _=>rfl,fun _ _=>rfl,rfl⟩
 obtain ⟨R,rs,rp,rr,rq,rps,rfn,rt,ra,rb,r0⟩:=mk
 obtain ⟨W1,e1⟩:∃ X,X=(w.alloc (.deferred (some []))).alloc (.loop (R .ready none)):=⟨_,rfl⟩
 have hT:Rec2 w.heap.size (R .ready none) W1:=by
  rw [e1]
  refine ⟨?_,(Below.heap_alloc _ _ _ (by simp)).trans (World.alloc_heap_new w _)⟩
  have:=World.alloc_heap_new (w.alloc (.deferred (some []))) (.loop (R .ready none))
  rwa [World.size_alloc] at this
 have hsz:W1.heap.size=w.heap.size+2:=by rw [e1];simp
 have hb1:Below w0.heap.size w0 W1:=hb0.trans (by rw [e1];exact (((Below.refl _ w).alloc (Nat.le_refl _) _).alloc (by simp) _).mono hb0.size)
 have hI1:I [] W1:=by rw [e1];exact hI.alloc _ (hI.alloc _ h0)
 have call:∀ args w,(callFunc gf args).run P w=.ok (.enter gf args) w:=eg
 refine ⟨w.heap.size+1,[{ target:=.collected w.heap.size,args:=#[] }],W1,{ target:=.fn (.func gf) lb,args:=#[.func (.yield (w.heap.size+1)) #[] #[]] },W1,gf,#[.func (.yield (w.heap.size+1)) #[] #[]]++lb,W1,?_,?_,?_,?_,fun _=>h1,?_⟩
 ·rw [e1,r0];exact run_enterLoop_outer _ _ _ _ _
 ·simp only [resolve,hg]
  simp [go_sem]
 ·intro f' hf'
  simp [Target.leads] at hf'
  subst hf'
  exact hFg
 ·simp [invoke,go_sem,call]
 have keyJ:CallsIn F (n - 1) P gf (#[.func (.yield (w.heap.size+1)) #[] #[]]++lb) W1 fun e W'=>(∃ v,e=.returned v)∧((∃ xs,S xs∧(I xs W'∧Rec2 w.heap.size (R .ready none) W'))∨(∃ pre,Sp pre∧∃ c,Ix c pre W'∧Rec2 w.heap.size (R .done (some c)) W')):=by
  refine hseq (w.heap.size+1) (fun pre W=>I pre W∧Rec2 w.heap.size (R .ready none) W) (fun pre W=>∃ c,Ix c pre W∧Rec2 w.heap.size (R .done (some c)) W) W1 hb1 ?_ ?_ (fun s A h=>⟨hI.drew h.1,h.2⟩) ?_ ⟨hI1,hT⟩
  ·rintro s A v ⟨q1,q2⟩
   exact ⟨hIb s A v q1,q2.set hBg v⟩
  ·rintro s A v ⟨c,q1,q2⟩
   exact ⟨c,hIxb c s A v q1,q2.set hBg v⟩
  rintro pre x W ⟨hi,ht⟩ hlen
  have hy:=run_yield (P:=P) (args:=encs x) ht.1 (by rw [rps];exact hps x)
  rw [rps,rfn,rt,ra,rb] at hy
  refine ⟨fn,_,assign,body,hy,roundIn_of_wpIn hfn (hassign _ pre x W _ hi ?_)⟩
  intro a' Wa hka hpa hia hax
  have hta:=ht.kept hka
  refine ⟨_,run_beginRound hta.1 (rs _ _),?_⟩
  rw [rq]
  have htb:Rec2 w.heap.size (R .busy none) (Wa.putObj (w.heap.size+1) (.loop (R .busy none))):=hta.put
  have hpb:Kp Wa (Wa.putObj (w.heap.size+1) (.loop (R .busy none))):=hKb _ _ _ _ (by omega) hta.1 rfl rfl
  refine wpIn_mono (hbody _ pre x a' _ (by omega) ⟨_,htb.1⟩ (hI.putObj _ hia (by omega) hta.1 rfl rfl) ((hAx x a').putObj (s:=()) _ hax (by omega) hta.1 rfl rfl) hlen) ?_
  have fin:∀ (j:Option Code) (W3:World),KeepsLoop w.heap.size (Wa.putObj (w.heap.size+1) (.loop (R .busy none))) W3 →
    Rec2 w.heap.size (R .busy none) W3∧(Instr.endRound (w.heap.size+1) j).run P W3=.ok (.bool j.isNone) (W3.putObj (w.heap.size+1) (.loop (R (if j.isNone then .ready else .done) j))):=fun j W3 hk3=>by
   have h3:=htb.kept hk3
   have h4:=run_endRound (P:=P) j h3.1
   rw [rr] at h4
   exact ⟨h3,h4⟩
  have out:∀ (c:Code) (W3:World),KeepsLoop w.heap.size (Wa.putObj (w.heap.size+1) (.loop (R .busy none))) W3→Ix c (pre++[x]) W3 →
    ∃ v w',(Instr.endRound (w.heap.size+1) (some c)).run P W3=.ok v w'∧(((.returned v:Ending)=.returned (.bool true)∧(I (pre++[x]) w'∧Rec2 w.heap.size (R .ready none) w')∧Kp W w')∨((.returned v:Ending)=.returned (.bool false)∧∃ c,Ix c (pre++[x]) w'∧Rec2 w.heap.size (R .done (some c)) w')):=fun c W3 hk3 hi3=>by
   obtain ⟨h3,h4⟩:=fin (some c) W3 hk3
   exact ⟨_,_,h4,Or.inr ⟨rfl,c,(hIx c).putObj _ hi3 (by omega) h3.1 rfl rfl,h3.put⟩⟩
  rintro e a3 W3 hp
  cases e with
  | normal =>
   obtain ⟨hk3,hp3,hi3⟩:=hp
   obtain ⟨h3,h4⟩:=fin none W3 hk3
   exact ⟨_,_,h4,Or.inl ⟨rfl,⟨hI.putObj _ hi3 (by omega) h3.1 rfl rfl,h3.put⟩,hKt hpa (hKt hpb (hKt hp3 (hKb _ _ _ _ (by omega) h3.1 rfl rfl)))⟩⟩
  | ret=>exact out _ W3 hp.1 hp.2
  | exit id=>exact out _ W3 hp.1 hp.2
  | goto t=>exact out _ W3 hp.1 hp.2
  | panic ch=>exact hp.elim
  | outgrown=>exact hp.elim
 refine keyJ.mono ?_
 rintro e W2 ⟨⟨v,rfl⟩,(⟨xs,hS,hi,ht⟩ | ⟨pre,hSp,c,hi,ht⟩)⟩
 ·refine ⟨none,_,by have:=run_endLoop (P:=P) ht.1 (by rw [rs];decide);rwa [rp] at this,?_⟩
  exact hdone _ xs _ (Nat.le_refl _) hS (hI.putObj _ hi (by omega) ht.1 rfl rfl) ((World.putObj_heap_other (by omega)).trans ht.2)
 ·refine ⟨some c,_,by have:=run_endLoop (P:=P) ht.1 (by rw [rs];decide);rwa [rp] at this,?_⟩
  exact hstop _ c pre _ (Nat.le_refl _) hSp ((hIx c).putObj _ hi (by omega) ht.1 rfl rfl) ((World.putObj_heap_other (by omega)).trans ht.2)
section
variable {P:Program} {n l:Nat} {ops:Array Oper}
end
section
variable {P:Program} {n l:Nat} {ops:Array Oper} {Q:Exit→Act→World→Prop} {S:World→Prop}
end
section
variable {P:Program} {ops:Array Oper} {Q:Exit→Act→World→Prop} {S:World→Prop}
end
section
variable {F:Fence} {n:Nat} {P:Program} {ops:Array Oper} {Q:Exit→Act→World→Prop} {md:Region.Mode} {S:World→Prop} {U:List Nat}
end
end Go.Proofs.YtapnaocdehahdaaGreat
