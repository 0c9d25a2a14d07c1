/-
  Layer 30 (model): rows of the call's own become a model's.
-/
import Derived.Test.YtapnaocdehahdaaGreatLgE
import Derived.Test.YtapnaocdehahdaaGreatSchKc
namespace Go.Proofs.YtapnaocdehahdaaGreat
open Go.RowKit Go.Maps Go.IntWalk Go.Lib
set_option linter.unusedVariables false
set_option linter.unusedSimpArgs false
theorem sps_recs {w:World} {b n:Nat} {f:Nat→Int×Int×Int} (h:SpsAt w b n f):∀ j u,(flatR encSp ((List.range n).map f))[j]?=some u→w.cell? ⟨b,j,none⟩=some u:=fun j u hu=>by
 have hj:j<n*3:=by
  have:=(List.getElem?_eq_some_iff.1 hu).1
  rw [flatR_len encSp_ok] at this
  simpa using this
 have hk:j / 3<n:=by omega
 have h1:=flatR_at encSp_ok (L:=(List.range n).map f) (i:=j / 3) (x:=f (j / 3)) (by rw [List.getElem?_map,List.getElem?_range hk];rfl) (j % 3) (by omega)
 rw [show j / 3*3+j % 3=j by omega,hu] at h1
 obtain ⟨q0,q1,q2⟩:=h.c (j / 3) hk
 rcases (show j % 3=0∨j % 3=1∨j % 3=2 by omega) with q | q | q
 ·rw [q] at h1;cases h1;rw [show j / 3*3=j by omega] at q0;exact q0
 ·rw [q] at h1;cases h1;rw [show j / 3*3+1=j by omega] at q1;exact q1
 ·rw [q] at h1;cases h1;rw [show j / 3*3+2=j by omega] at q2;exact q2
set_option maxRecDepth 100000 in
set_option maxHeartbeats 1000000 in
theorem SpClone_at {w:World} {b c:Nat} {f:Nat→Int×Int×Int} {n:Nat} (h:SpsAt w b n f) (h0:0<n) (h1:n≤64):Calls Tryz.prog 165 #[.slice (some ⟨b,0,none⟩) n c] w (ClonP (flatR encSp ((List.range n).map f)) 121 3 n w):=by
 obtain ⟨i0,hi,hz0,hz1,hz2⟩:=info_parts infoSpt
 have hs:=@Lib.run_eql_slice_nil Tryz.prog
 have HC:=Lib.hid (sps_recs h)
 have HL:=Lib.hid (show (flatR encSp ((List.range n).map f)).length=n*3 by rw [flatR_len encSp_ok];first | done | simp)
 have HO1:=Lib.hid (flatR_one encSp_ok)
 obtain ⟨xs,hxs⟩:∃ xs,xs=flatR encSp ((List.range n).map f):=⟨_,rfl⟩
 have HO2:=Lib.hid (show ∀ u∈xs,u.oneCell'=true by rw [hxs];exact HO1.out _)
 rw [← hxs] at HC HL ⊢
 obtain ⟨N,hn⟩:∃ N,N=n:=⟨_,rfl⟩
 rw [← hn] at HL h0 h1 ⊢
 clear h hn hxs HO1
 go_enter Tryz.func165,Tryz.ntmps165
 go_wp2_with (at_builtin;refine wpList_append_own _ rfl _ _ 69 rfl w.heap.size 121 i0 (.agg #[.int .u64 0,.int .u32 0,.int .u64 0]) 3 24 Tryz.underlying69 hi hz0 hz1 hz2 rfl (by decide) _ 0 [] rfl (World.ownsRow_lit w #[] 0 (Nat.le_refl _) (by unfold maxLen;omega) rfl) ⟨b,0,none⟩ N c xs rfl ?c1 ?c2 HO2.out ?c3 ?c4 ?c5 ?_)
 case c1=>exact HL.out
 case c2=>exact fun j u hu=>by rw [addN,Nat.zero_add];exact cell_al _ (HC.out j u hu)
 case c3=>unfold maxLen;omega
 case c4=>omega
 case c5=>simp
 intro v' w1 hown hgrow _
 have hbw:Below w.heap.size w w1:=(Below.allocS (Below.refl _ _) _).grown hgrow (by simp) (fun k hk=>by cases hk;exact Nat.le_refl _)
 obtain ⟨g',cap',rfl⟩:∃ g' cap',v'=.slice (some ⟨g',0,none⟩) N cap':=by
  rcases hown.2 with ⟨_,h⟩ | ⟨g',cap',_,rfl,_⟩
  ·omega
  ·exact ⟨g',cap',rfl⟩
 have HOW:=Lib.hid hown
 clear hown hgrow
 go_wp2_with fail
 go_ret
 exact ⟨g',cap',rfl,HOW.out,hbw⟩
section
variable {w:World} {base b n c t:Nat}
theorem own_ints {f:Nat→Int} (h:w.ownsRow base t 1 (.slice (some ⟨b,0,none⟩) n c) n (flatR encZ1 ((List.range n).map f))):IntsAt w b n f:=by
 refine ⟨fun k hk=>?_,fun j=>h.frozenAt j,(h.lt b rfl).2⟩
 rw [h.cellAt k (by omega)]
 have:=flatR_at encZ1_ok (L:=(List.range n).map f) (i:=k) (x:=f k) (by rw [List.getElem?_map,List.getElem?_range hk];rfl) 0 (by decide)
 rw [Nat.mul_one,Nat.add_zero] at this
 exact this
theorem own_sps {f:Nat→Int×Int×Int} (h:w.ownsRow base t 3 (.slice (some ⟨b,0,none⟩) n c) n (flatR encSp ((List.range n).map f))):SpsAt w b n f:=by
 have hx:∀ k,k<n→((List.range n).map f)[k]?=some (f k):=fun k hk=>by rw [List.getElem?_map,List.getElem?_range hk];rfl
 refine ⟨fun k hk=>⟨?_,?_,?_⟩,fun j=>h.frozenAt j,(h.lt b rfl).2⟩
 ·have:=flatR_at encSp_ok (hx k hk) 0 (by decide);rw [Nat.add_zero] at this;rw [h.cellAt _ (by omega)];exact this
 ·rw [h.cellAt _ (by omega)];exact flatR_at encSp_ok (hx k hk) 1 (by decide)
 ·rw [h.cellAt _ (by omega)];exact flatR_at encSp_ok (hx k hk) 2 (by decide)
theorem own_grps {Gs:Grps} (h:w.ownsRow base t 2 (.slice (some ⟨b,0,none⟩) Gs.length c) Gs.length (flatR encG Gs)):GrpsAt w b Gs:=by
 have hx:∀ k,k<Gs.length→Gs[k]?=some Gs[k]!:=fun k hk=>by rw [getElem!_pos Gs k hk];exact List.getElem?_eq_getElem hk
 refine ⟨fun k hk=>⟨?_,?_⟩,fun j=>h.frozenAt j,(h.lt b rfl).2⟩
 ·have:=flatR_at encG_ok (hx k hk) 0 (by decide);rw [Nat.add_zero] at this;rw [h.cellAt _ (by omega)];exact this
 ·rw [h.cellAt _ (by omega)];exact flatR_at encG_ok (hx k hk) 1 (by decide)
end
def labOf (g l u:Nat) (t:Option Nat) (s n:Nat) (rr:Nat→Nat) (b:Nat):Nat×Nat:=
 if b=g then (1,1) else if b=l then (1,2) else if b=u then (1,3) else if t=some b then (1,4) else if b=s then (1,5) else match (List.range n).find? (fun i=>rr i == b) with | some i=>(2,i) | none=>(0,0)
structure ChainB (g l u:Nat) (t:Option Nat) (s n:Nat) (rr:Nat→Nat):Prop where
 gl:g<l
 lu:l<u
 us:u<s
 t:∀ b,t=some b→u<b∧b<s
 r:∀ i,i<n→s<rr i
 rs:∀ i j,i<j→j<n→rr i<rr j
section
variable {g l u s n:Nat} {t:Option Nat} {rr:Nat→Nat}
theorem ChainB.lg (h:ChainB g l u t s n rr):labOf g l u t s n rr g=(1,1):=if_pos rfl
theorem ChainB.ll (h:ChainB g l u t s n rr):labOf g l u t s n rr l=(1,2):=by have:=h.gl;unfold labOf;rw [if_neg (by omega),if_pos rfl]
theorem ChainB.lu' (h:ChainB g l u t s n rr):labOf g l u t s n rr u=(1,3):=by have:=h.gl;have:=h.lu;unfold labOf;rw [if_neg (by omega),if_neg (by omega),if_pos rfl]
theorem ChainB.lt (h:ChainB g l u t s n rr) (b:Nat) (q:t=some b):labOf g l u t s n rr b=(1,4):=by
 have:=h.gl;have:=h.lu;have:=h.t b q
 unfold labOf;rw [if_neg (by omega),if_neg (by omega),if_neg (by omega),if_pos q]
theorem ChainB.ls (h:ChainB g l u t s n rr):labOf g l u t s n rr s=(1,5):=by
 have:=h.gl;have:=h.lu;have:=h.us
 unfold labOf;rw [if_neg (by omega),if_neg (by omega),if_neg (by omega),if_neg (fun q=>by have:=h.t s q;omega),if_pos rfl]
theorem ChainB.lr (h:ChainB g l u t s n rr) (i:Nat) (hi:i<n):labOf g l u t s n rr (rr i)=(2,i):=by
 have:=h.gl;have:=h.lu;have:=h.us;have:=h.r i hi
 unfold labOf;rw [if_neg (by omega),if_neg (by omega),if_neg (by omega),if_neg (fun q=>by have:=h.t _ q;omega),if_neg (by omega)]
 have e:(List.range n).find? (fun j=>rr j == rr i)=some i:=by
  rw [List.find?_range_eq_some]
  refine ⟨by simp,List.mem_range.2 hi,fun j hj=>?_⟩
  have:=h.rs j i hj hi
  simp;omega
 rw [e]
theorem labOf_lt {B:Nat} {b:Nat} (q:labOf g l u t s n rr b≠(0,0)) (hg:g<B) (hl:l<B) (hu:u<B) (ht:∀ b,t=some b→b<B) (hs:s<B) (hr:∀ i,i<n→rr i<B):b<B:=by
 unfold labOf at q
 by_cases q1:b=g
 ·omega
 ·rw [if_neg q1] at q
  by_cases q2:b=l
  ·omega
  ·rw [if_neg q2] at q
   by_cases q3:b=u
   ·omega
   ·rw [if_neg q3] at q
    by_cases q4:t=some b
    ·exact ht b q4
    ·rw [if_neg q4] at q
     by_cases q5:b=s
     ·omega
     ·rw [if_neg q5] at q
      cases e:(List.range n).find? (fun i=>rr i == b) with
      | none=>rw [e] at q;exact absurd rfl q
      | some i =>
       have h1:=List.find?_some e
       have h2:=List.mem_range.1 (List.mem_of_find?_eq_some e)
       simp at h1
       rw [← h1];exact hr i h2
theorem labOf_ge {B:Nat} {b:Nat} (h:ChainB g l u t s n rr) (q:labOf g l u t s n rr b≠(0,0)) (hg:B≤g):B≤b:=by
 have:=h.gl;have:=h.lu;have:=h.us
 unfold labOf at q
 by_cases q1:b=g
 ·omega
 ·rw [if_neg q1] at q
  by_cases q2:b=l
  ·omega
  ·rw [if_neg q2] at q
   by_cases q3:b=u
   ·omega
   ·rw [if_neg q3] at q
    by_cases q4:t=some b
    ·have:=h.t b q4;omega
    ·rw [if_neg q4] at q
     by_cases q5:b=s
     ·omega
     ·rw [if_neg q5] at q
      cases e:(List.range n).find? (fun i=>rr i == b) with
      | none=>rw [e] at q;exact absurd rfl q
      | some i =>
       have h1:=List.find?_some e
       have h2:=List.mem_range.1 (List.mem_of_find?_eq_some e)
       simp at h1
       have:=h.r i h2
       omega
end
end Go.Proofs.YtapnaocdehahdaaGreat
