/-
  Plain mathematics of layer 22 (charge): no program in sight. Entities (v, r, c): virtual runtime, rest, weight.
-/
import Derived.Test.YtapnaocdehahdaaGreatRows
import Derived.Test.YtapnaocdehahdaaGreatKtA
namespace Go.Proofs.YtapnaocdehahdaaGreat.Ch
set_option linter.unusedVariables false
def wB (a:Int):Bool:=decide (1≤a∧a≤65536)
def tB (a:Int):Bool:=decide (0≤a∧a≤4294967295)
theorem wB_t {a:Int} (h:1≤a) (h':a≤65536):wB a=true:=by simp [wB,h,h']
theorem wB_f {a:Int} (h:¬ (1≤a∧a≤65536)):wB a=false:=by simp only [wB,h,decide_false]
theorem tB_t {a:Int} (h:0≤a) (h':a≤4294967295):tB a=true:=by simp [tB,h,h']
def Fits (v r c:Int):Prop:=0≤v∧v≤18446744073709551615∧0≤r∧r≤4294967295∧0≤c∧c≤4294967295
def Ok (v r c:Int):Prop:=0≤v∧v≤18446744073709551615∧0≤r∧r<c∧1≤c∧c≤65536∧(v<18446744073709551615∨r=0)
instance (v r c:Int):Decidable (Ok v r c):=by unfold Ok;infer_instance
def okB (v r c:Int):Bool:=decide (Ok v r c)
theorem okB_t {v r c:Int} (h:Ok v r c):okB v r c=true:=decide_eq_true h
theorem okB_f {v r c:Int} (h:¬ Ok v r c):okB v r c=false:=decide_eq_false h
theorem Ok.fits {v r c:Int} (h:Ok v r c):Fits v r c:=by unfold Ok at h;unfold Fits;omega
def atEnd (v r c t:Int):Prop:=18446744073709551615 - v≤(t*1048576+r) / c
instance (v r c t:Int):Decidable (atEnd v r c t):=by unfold atEnd;infer_instance
def addV (v r c t:Int):Int:=if atEnd v r c t then 18446744073709551615 else v+(t*1048576+r) / c
def addR (v r c t:Int):Int:=if atEnd v r c t then 0 else (t*1048576+r) % c
def capV (s c:Int):Int:=if 18446744073709551615*c≤s then 18446744073709551615 else s / c
def capR (s c:Int):Int:=if 18446744073709551615*c≤s then 0 else s % c
theorem atEnd_iff {v r c t:Int} (hc:1≤c):atEnd v r c t↔18446744073709551615*c≤v*c+r+t*1048576:=by
 unfold atEnd
 rw [Int.le_ediv_iff_mul_le (by omega),Int.sub_mul]
 omega
theorem addV_cap {v r c t:Int} (hc:1≤c):addV v r c t=capV (v*c+r+t*1048576) c:=by
 unfold addV capV
 by_cases h:atEnd v r c t
 ·rw [if_pos h,if_pos ((atEnd_iff hc).1 h)]
 ·rw [if_neg h,if_neg (fun k=>h ((atEnd_iff hc).2 k)),show v*c+r+t*1048576=(t*1048576+r)+v*c by omega,Int.add_mul_ediv_right _ _ (by omega)]
  omega
theorem addR_cap {v r c t:Int} (hc:1≤c):addR v r c t=capR (v*c+r+t*1048576) c:=by
 unfold addR capR
 by_cases h:atEnd v r c t
 ·rw [if_pos h,if_pos ((atEnd_iff hc).1 h)]
 ·rw [if_neg h,if_neg (fun k=>h ((atEnd_iff hc).2 k)),show v*c+r+t*1048576=(t*1048576+r)+v*c by omega,Int.add_mul_emod_self_right]
theorem ok_sum {v r c:Int} (h:Ok v r c):0≤v*c+r:=by
 obtain ⟨h1,h2,h3,h4,h5,h6,h7⟩:=h
 have:=Int.mul_nonneg h1 (show 0≤c by omega)
 omega
theorem cap_ok {s c:Int} (hs:0≤s) (hc:1≤c) (hc':c≤65536):Ok (capV s c) (capR s c) c:=by
 unfold Ok capV capR
 by_cases h:18446744073709551615*c≤s
 ·rw [if_pos h,if_pos h];omega
 ·rw [if_neg h,if_neg h]
  have h1:=Int.emod_nonneg s (show c≠0 by omega)
  have h2:=Int.emod_lt_of_pos s (show 0<c by omega)
  have h3:=Int.ediv_nonneg hs (show 0≤c by omega)
  have h4:s / c<18446744073709551615:=Int.ediv_lt_of_lt_mul (by omega) (by omega)
  omega
theorem cap_sum {s c:Int} (hc:1≤c):capV s c*c+capR s c=if 18446744073709551615*c≤s then 18446744073709551615*c else s:=by
 unfold capV capR
 by_cases h:18446744073709551615*c≤s
 ·rw [if_pos h,if_pos h,if_pos h];omega
 ·rw [if_neg h,if_neg h,if_neg h]
  have:=Int.mul_ediv_add_emod s c
  rw [Int.mul_comm] at this
  exact this
theorem add_ok {v r c t:Int} (h:Ok v r c) (ht:0≤t):Ok (addV v r c t) (addR v r c t) c:=by
 have hc:1≤c:=h.2.2.2.2.1
 rw [addV_cap hc,addR_cap hc]
 exact cap_ok (by have:=ok_sum h;omega) hc h.2.2.2.2.2.1
theorem addV_ge {v r c t:Int} (h:Ok v r c) (ht:0≤t):v≤addV v r c t:=by
 obtain ⟨h1,h2,h3,h4,h5,h6,h7⟩:=h
 unfold addV
 by_cases he:atEnd v r c t
 ·rw [if_pos he];omega
 ·rw [if_neg he]
  have:=Int.ediv_nonneg (show 0≤t*1048576+r by omega) (show 0≤c by omega)
  omega
theorem add_exact {v r c t:Int} (h:Ok v r c) (hv:v≤70368744177664) (ht0:0≤t) (ht:t≤65535) :
  addV v r c t*c+addR v r c t=v*c+r+t*1048576∧addV v r c t*c≤4611686087146864640∧0≤v*c∧v*c≤4611686018427387904:=by
 have h0:=h
 obtain ⟨h1,h2,h3,h4,h5,h6,h7⟩:=h
 have p1:=Int.mul_le_mul_of_nonneg_right hv (show 0≤c by omega)
 have p2:=Int.mul_nonneg h1 (show 0≤c by omega)
 have e:addV v r c t*c+addR v r c t=v*c+r+t*1048576:=by
  rw [addV_cap h5,addR_cap h5,cap_sum h5,if_neg (by omega)]
 have h8:=add_ok h0 ht0
 obtain ⟨_,_,g3,g4,_,_,_⟩:=h8
 exact ⟨e,by omega,p2,by omega⟩
end Go.Proofs.YtapnaocdehahdaaGreat.Ch
namespace Go.Proofs.YtapnaocdehahdaaGreat
open Go.RowKit
set_option linter.unusedVariables false
@[go_sem] theorem run_field_ent0 (a:Value) (b c:Value) (w:World):Sem.run Tryz.prog (Instr.field 107 (.agg #[a,b,c]) 0) w=.ok a w:=by kernel_rfl
set_option maxHeartbeats 400000 in
theorem weighs_any (a:Int) (w:World) :
  Calls Tryz.prog 91 #[.int .i64 a] w fun e w'=>e=.returned (.bool (Ch.wB a))∧w=w':=by
 by_cases h1:1≤a
 all_goals by_cases h2:a≤65536
 all_goals
  go_enter Tryz.func91,Tryz.ntmps91
  go_wp2
  go_ret
  exact ⟨ret_bool (by simp [Ch.wB];omega),rfl⟩
set_option maxHeartbeats 400000 in
theorem ticked_any (a:Int) (w:World) :
  Calls Tryz.prog 92 #[.int .i64 a] w fun e w'=>e=.returned (.bool (Ch.tB a))∧w=w':=by
 by_cases h1:0≤a
 all_goals by_cases h2:a≤4294967295
 all_goals
  go_enter Tryz.func92,Tryz.ntmps92
  go_wp2
  go_ret
  exact ⟨ret_bool (by simp [Ch.tB];omega),rfl⟩
set_option maxHeartbeats 400000 in
theorem right_any (v r c:Int) (w:World) (hf:Ch.Fits v r c) :
  Calls Tryz.prog 202 #[.agg #[.int .u64 v,.int .u32 r,.int .u32 c]] w fun e w'=>e=.returned (.bool (Ch.okB v r c))∧Below w.heap.size w w':=by
 obtain ⟨hv0,hv1,hr0,hr1,hc0,hc1⟩:=hf
 by_cases h1:1≤c∧c≤65536
 ·obtain ⟨h1,h2⟩:=h1
  by_cases h3:r<c
  ·by_cases h4:v<18446744073709551615
   ·rw [Ch.okB_t (by unfold Ch.Ok;omega)]
    go_enter Tryz.func202,Tryz.ntmps202
    go_wp2_with (go_at_call 91;refine (weighs_any _ _).mono ?_;rintro e w' ⟨rfl,rfl⟩;rw [Ch.wB_t h1 h2])
    go_ret
    exact ⟨rfl,(Below.refl _ _).alloc (Nat.le_refl _) _⟩
   ·by_cases h5:r=0
    ·rw [Ch.okB_t (by unfold Ch.Ok;omega)]
     go_enter Tryz.func202,Tryz.ntmps202
     go_wp2_with (go_at_call 91;refine (weighs_any _ _).mono ?_;rintro e w' ⟨rfl,rfl⟩;rw [Ch.wB_t h1 h2])
     go_ret
     exact ⟨rfl,(Below.refl _ _).alloc (Nat.le_refl _) _⟩
    ·rw [Ch.okB_f (by unfold Ch.Ok;omega)]
     have h5:(r == 0)=false:=by simpa using h5
     go_enter Tryz.func202,Tryz.ntmps202
     go_wp2_with (go_at_call 91;refine (weighs_any _ _).mono ?_;rintro e w' ⟨rfl,rfl⟩;rw [Ch.wB_t h1 h2])
     go_ret
     exact ⟨ret_bool (by simp;omega),(Below.refl _ _).alloc (Nat.le_refl _) _⟩
  ·rw [Ch.okB_f (by unfold Ch.Ok;omega)]
   go_enter Tryz.func202,Tryz.ntmps202
   go_wp2_with (go_at_call 91;refine (weighs_any _ _).mono ?_;rintro e w' ⟨rfl,rfl⟩;rw [Ch.wB_t h1 h2])
   go_ret
   exact ⟨rfl,(Below.refl _ _).alloc (Nat.le_refl _) _⟩
 ·rw [Ch.okB_f (by unfold Ch.Ok;omega)]
  go_enter Tryz.func202,Tryz.ntmps202
  go_wp2_with (go_at_call 91;refine (weighs_any _ _).mono ?_;rintro e w' ⟨rfl,rfl⟩;rw [Ch.wB_f h1])
  go_ret
  exact ⟨rfl,(Below.refl _ _).alloc (Nat.le_refl _) _⟩
set_option maxHeartbeats 400000 in
theorem add_any (v r c t:Int) (w:World) (h:Ch.Ok v r c) (ht:0≤t∧t≤4294967295) :
  Calls Tryz.prog 93 #[.agg #[.int .u64 v,.int .u32 r,.int .u32 c],.int .i64 t] w fun e w'=>e=.returned (.agg #[.int .u64 (Ch.addV v r c t),.int .u32 (Ch.addR v r c t),.int .u32 c])∧Below w.heap.size w w':=by
 obtain ⟨hv0,hv1,hr0,hr1,hc0,hc1,_⟩:=h
 obtain ⟨ht0,ht1⟩:=ht
 have hn:0≤t*1048576+r∧t*1048576+r≤4503599627370496:=by omega
 have hq:=IntWalk.tdiv_le (t*1048576+r) c hn.1 hc0
 have hm0:=Int.emod_nonneg (t*1048576+r) (show c≠0 by omega)
 have hm1:=Int.emod_lt_of_pos (t*1048576+r) (show 0<c by omega)
 by_cases he:Ch.atEnd v r c t
 ·rw [show Ch.addV v r c t=18446744073709551615 by simp [Ch.addV,he],show Ch.addR v r c t=0 by simp [Ch.addR,he]]
  unfold Ch.atEnd at he
  go_enter Tryz.func93,Tryz.ntmps93
  go_wp2
  go_quiet (fail)
  go_wp2
  refine bodyPost_ret (v:=.agg #[.int .u64 (18446744073709551615),.int .u32 (0),.int .u32 c]) (by simp [results,Tryz.results93,go_sem]) rfl ⟨rfl,?_⟩
  repeat (first | exact Below.refl _ _ | refine Below.step ?_ (by assumption) | refine Below.setCell ?_ (by first | (simp;done) | (simp;omega) | omega) _ | refine Below.allocS ?_ _ | refine Below.drew ?_ | refine below_drewN ?_ _)
 ·rw [show Ch.addV v r c t=v+(t*1048576+r) / c by simp [Ch.addV,he],show Ch.addR v r c t=(t*1048576+r) % c by simp [Ch.addR,he]]
  unfold Ch.atEnd at he
  have he2:v+(t*1048576+r) / c≤18446744073709551615:=by omega
  go_enter Tryz.func93,Tryz.ntmps93
  go_wp2
  go_quiet (fail)
  go_wp2
  refine bodyPost_ret (v:=.agg #[.int .u64 (v+(t*1048576+r) / c),.int .u32 ((t*1048576+r) % c),.int .u32 c]) (by simp [results,Tryz.results93,go_sem]) rfl ⟨rfl,?_⟩
  repeat (first | exact Below.refl _ _ | refine Below.step ?_ (by assumption) | refine Below.setCell ?_ (by first | (simp;done) | (simp;omega) | omega) _ | refine Below.allocS ?_ _ | refine Below.drew ?_ | refine below_drewN ?_ _)
set_option maxHeartbeats 400000 in
theorem Add_ok (v r c t:Int) (w:World) (h:Ch.Ok v r c) (ht:0≤t∧t≤4294967295) :
  Calls Tryz.prog 158 #[.agg #[.int .u64 v,.int .u32 r,.int .u32 c],.int .i64 t] w fun e w'=>e=.returned (.tuple #[.agg #[.int .u64 (Ch.addV v r c t),.int .u32 (Ch.addR v r c t),.int .u32 c],.int .i64 0])∧Below w.heap.size w w':=by
 have k1:=Ch.okB_t h
 have k2:=Ch.tB_t ht.1 ht.2
 have hf:=h.fits
 go_enter Tryz.func158,Tryz.ntmps158
 go_wp2_with fail
 refine (right_any _ _ _ _ hf).mono ?_;rintro e w1 ⟨rfl,hb1⟩;rw [k1]
 obtain ⟨hc1,hf1⟩:=bcell hb1
 have hz1:w.heap.size+1<w1.heap.size:=by have:=hb1.size;simp at this;omega
 go_wp2_with fail
 refine (ticked_any _ _).mono ?_;rintro e w2 ⟨rfl,rfl⟩;rw [k2]
 go_wp2_with fail
 refine (add_any _ _ _ _ _ h ht).mono ?_;rintro e w3 ⟨rfl,hb3⟩
 obtain ⟨hc3,hf3⟩:=bcell hb3
 have hz3:w.heap.size+1<w3.heap.size:=by have:=hb3.size;omega
 go_wp2_with fail
 refine bodyPost_ret (v:=.tuple #[.agg #[.int .u64 (Ch.addV v r c t),.int .u32 (Ch.addR v r c t),.int .u32 c],.int .i64 0]) (by simp [results,Tryz.results158,go_sem,hc1,hc3,hz1]) rfl ⟨rfl,?_⟩
 repeat (first | exact Below.refl _ _ | refine Below.step ?_ (by assumption) | refine Below.setCell ?_ (by first | (simp;done) | (simp;omega) | omega) _ | refine Below.allocS ?_ _ | refine Below.drew ?_ | refine below_drewN ?_ _)
end Go.Proofs.YtapnaocdehahdaaGreat
