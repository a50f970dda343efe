/- What the law FnExactCut needs, part 13 of 15: the Lean functions of the Go functions that it reaches, with the proofs that the calls come to what they say, and plain facts about them. Conditions: those that each theorem states. Written by a session and by its programs (after the kit's printer). -/
import Derived.Test.YtpcllejjdmmjcaaGreatDoorXFnExactCut9
import Derived.Test.YtpcllejjdmmjcaaGreatDoorXFnExactCut10
import Derived.Test.YtpcllejjdmmjcaaGreatDoorXFnExactCut11
open Go.IntKind renaming wrap → Ya, max → Yua
open Option renaming bind_some → Yb, bind → Yp, bind_eq_some_iff → Ylb
open Bool renaming and_eq_true → Yc, true_and → Yg, not_true → Yo, or_true → Yq, false_ne_true → Y1, or_false → Y6, and_self → Yea, false_and → Yfa, false_or → Yga, true_or → Yha, not_false → Yra, or_eq_false_iff → Ysa, or_eq_true → Yta
open List renaming replicate → Yd, length_take → Yf, getElem?_eq_getElem → Yh, length_append → Yi, getElem_map → Yj, length_map → Yk, mem_cons → Yl, getElem_mem → Ym, range → Yn, append_assoc → Ys, getD_eq_getElem?_getD → Yt, length_cons → Yu, mem_cons_self → Yv, mem_iff_getElem → Yw, take_length → Yx, getElem_take → Yy, append_nil → Y3, mem_cons_of_mem → Y4, not_mem_nil → Y5, drop_zero → Y9, length_drop → Yaa, mem_map → Yba, pairwise_iff_getElem → Yca, ext_getElem → Yja, getElem_drop → Yka, length_nil → Yla, length_replicate → Yma, any_eq_false → Yva, any_eq_true → Ywa, drop_of_length_le → Yxa, flatMap_append → Yya, flatMap_cons → Yza, getElem?_eq_some_iff → Y0a, getElem_range → Y1a, getLast?_concat → Y2a, length_filter_le → Y3a, length_range → Y4a, length_set → Y5a, map_map → Y6a, map_take → Y7a, mem_append → Y8a, mem_range → Y9a, mem_singleton → Yab, nil_append → Ybb, pairwise_cons → Ycb, replicate_zero → Ydb, take_of_length_le → Yeb
open Nat renaming le_refl → Ye, mod_eq_of_lt → Yz, le_of_eq → Yna, mod_lt → Yoa, div_lt_of_lt_mul → Yfb, lt_trichotomy → Ygb, or_lt_two_pow → Yhb, pow_succ → Yib, sub_zero → Yjb, testBit_or → Ykb
open Int renaming toNat_natCast → Yr, tmod → Y2, le_refl → Y7, tmod_eq_emod_of_nonneg → Y8, toNat_of_nonneg → Yia
open BitVec renaming toNat_ofNat → Y0, ofNat → Yda, ofInt → Ypa, ofInt_natCast → Yqa
namespace Go.Proofs.Qz
open Go Go.RowKit
set_option linter.unusedVariables false
def dgT (x n:Int):Int:=intBits .or .u32 (shr .u32 x n) (shl .u32 x (32-n))
theorem Zomb (x y:Int):intBits .or .u32 x y=intBits .or .u32 y x:=by
 unfold intBits
 simp [BitVec.or_comm]
theorem Znm {n:Int} (x:Int) (hn:n∈([2,6,7,11,13,17,18,19,22,25]:List Int)):Z3h x n=some (dgT x n):=by
 have h:intBits .and .u64 (Ya .u64 (Ya .i64 (0-n))) 31=32-n∧Ya .u64 (32-(32-n))=n∧0≤n∧n≤32:=by
  revert n
  decide +kernel
 obtain ⟨h1,h2,h3,h4⟩:=h
 unfold Z3h Zgr
 rw [h1]
 dsimp only
 rw [h2,Z3c (by omega),Z3c h3]
 simp only [Yb]
 rw [Zomb]
 rfl
theorem Z4m {n:Int} (x:Int) (h:0≤n∧n≤32):Z8h x n=some (dgT x n):=by
 unfold Z8h
 have h2:Ya .u64 (32-n)=32-n:=by rw [Zih];omega
 dsimp only
 rw [Z3c h.1,h2,Z3c (by omega)]
 rfl
def Z8x (b:Str) (i:Nat):Int:=Ya .u32 (((b.getD i 0).toNat:Nat):Int)
def dgW (b:Str) (i:Nat):Int:=intBits .or .u32 (intBits .or .u32 (intBits .or .u32 (shl .u32 (Z8x b (4*i)) 24) (shl .u32 (Z8x b (4*i+1)) 16)) (shl .u32 (Z8x b (4*i+2)) 8)) (Z8x b (4*i+3))
theorem atD {α:Type} {l:List α} {j:Int} {n:Nat} (d:α) (hj:j=(n:Int)) (h:n<l.length):at? l j=some (l.getD n d):=by
 rw [hj,Zi h,Yt,Yh h]
 rfl
theorem Zreb {α:Type} {l:List α} {i:Nat} {x:α} (h:i<l.length):Zhs l (i:Int) x=some (l.set i x):=by
 unfold Zhs
 rw [Xc ⟨by omega,by omega⟩]
 rfl
theorem Z5kb (b:Str) {i:Nat} (h:4*i+4≤b.length):Z9o (b.drop (4*i))=some (dgW b i):=by
 have hd:∀q,q<4→(b.drop (4*i)).getD q 0=b.getD (4*i+q) 0:=fun q _=>by
  rw [Yt,Yt,List.getElem?_drop]
 have hl:(b.drop (4*i)).length=b.length-4*i:=by simp
 unfold Z9o
 rw [atD (j:=0) (n:=0) 0 rfl (by omega),atD (j:=1) (n:=1) 0 rfl (by omega),atD (j:=2) (n:=2) 0 rfl (by omega),atD (j:=3) (n:=3) 0 rfl (by omega),hd 0 (by omega),hd 1 (by omega),hd 2 (by omega),hd 3 (by omega)]
 rfl
def dgN (w:List Int) (i:Nat):Int:=Ya .u32 ((Ya .u32 ((Ya .u32 (w.getD (i-16) 0+(intBits .xor .u32 (intBits .xor .u32 (dgT (w.getD (i-15) 0) 7) (dgT (w.getD (i-15) 0) 18)) (shr .u32 (w.getD (i-15) 0) 3))))+w.getD (i-7) 0))+(intBits .xor .u32 (intBits .xor .u32 (dgT (w.getD (i-2) 0) 17) (dgT (w.getD (i-2) 0) 19)) (shr .u32 (w.getD (i-2) 0) 10)))
def dgS (b:Str):Nat→List Int
 | 0=>Yd 64 0
 | i+1=>(dgS b i).set i (if i<16 then dgW b i else dgN (dgS b i) i)
theorem Zbt (b:Str):∀i,(dgS b i).length=64
 | 0=>by simp [dgS]
 | i+1=>by rw [dgS,Y5a,Zbt b i]
theorem Z6q {i d:Nat} (h:d≤i) (hi:i<64):Ya .i64 ((i:Int)-(d:Int))=((i-d:Nat):Int):=by rw [w64] <;> omega
theorem Zqkb {b:Str} (hb:b.length=64):∀k,64<k→Zqb.l0 k b 0 (Yd 64 (0:Int))=some (dgS b 64):=by
 refine Zrb (fun j i=>Zqb.l0 j b (i:Int) (dgS b i)) 64 _ (fun i hi j=>?_) fun j=>?_
 ·have hl:=Zbt b i
  conv=>lhs;unfold Zqb.l0
  rw [Xa (by omega:(i:Int)<64),Zn (by omega)];dsimp only;rw [Xe]
  by_cases h16:i<16
  ·rw [Xa (by omega:(i:Int)<16),w64 (n:=4*(i:Int)) (by omega) (by omega)]
   have hc:Zob b (4*(i:Int)) (b.length:Int)=some (b.drop (4*i)):=by
    have:=Znf (l:=b) (i:=4*i) (j:=b.length) (by omega) (Ye _);rw [Yx] at this;rw [show (4*(i:Int))=((4*i:Nat):Int) by omega];exact this
   rw [hc];simp only [Xe,Yb];rw [Z5kb b (by omega)];simp only [Yb];rw [atD (n:=i) 0 rfl (by omega)];simp only [Yb];rw [Zreb (by omega)];simp only [Yb];rw [dgS,Xc h16]
  ·rw [Xb (by omega:¬(i:Int)<16)]
   simp only [Xf];rw [show (15:Int)=((15:Nat):Int) from rfl,show (2:Int)=((2:Nat):Int) from rfl,show (16:Int)=((16:Nat):Int) from rfl,Z6q (by omega) hi,Z6q (by omega) hi,Z6q (by omega) hi];rw [show Ya .i64 ((i:Int)-7)=((i-7:Nat):Int) from Z6q (d:=7) (by omega) hi];rw [atD (n:=i-15) 0 rfl (by omega),atD (n:=i-2) 0 rfl (by omega),atD (n:=i-16) 0 rfl (by omega),atD (n:=i-7) 0 rfl (by omega),atD (n:=i) 0 rfl (by omega)];simp only [Yb];rw [Znm _ (by decide),Znm _ (by decide),Z3c (by omega),Znm _ (by decide),Znm _ (by decide),Z3c (by omega)];simp only [Yb];rw [Zreb (by omega)];simp only [Yb];rw [dgS,Xd h16];rfl
 ·conv=>lhs;unfold Zqb.l0
  rw [Xb (by omega:¬((64:Nat):Int)<64)];rfl
theorem Ztob {b:Str} (hb:b.length=64):∀k,16<k→Z8.l0 k b 0 (Yd 64 (0:Int))=some (dgS b 16):=by
 refine Zrb (fun j i=>Z8.l0 j b (i:Int) (dgS b i)) 16 _ (fun i hi j=>?_) fun j=>?_
 ·have hl:=Zbt b i
  conv=>lhs;unfold Z8.l0
  rw [Xa (by omega:(i:Int)<16),Zn (by omega),w64 (n:=4*(i:Int)) (by omega) (by omega)];dsimp only;rw [Xe,w64 (n:=4*(i:Int)+1) (by omega) (by omega),w64 (n:=4*(i:Int)+2) (by omega) (by omega),w64 (n:=4*(i:Int)+3) (by omega) (by omega)];rw [atD (j:=4*(i:Int)) (n:=4*i) 0 (by omega) (by omega),atD (j:=4*(i:Int)+1) (n:=4*i+1) 0 (by omega) (by omega),atD (j:=4*(i:Int)+2) (n:=4*i+2) 0 (by omega) (by omega),atD (j:=4*(i:Int)+3) (n:=4*i+3) 0 (by omega) (by omega),atD (j:=(i:Int)) (n:=i) 0 rfl (by omega)];rw [Z3c (by omega),Z3c (by omega),Z3c (by omega)];simp only [Yb,Yr];rw [dgS,Xc hi];rfl
 ·conv=>lhs;unfold Z8.l0
  rw [Xb (by omega:¬((16:Nat):Int)<16)];rfl
theorem Zuob {b:Str} (hb:b.length=64):∀(d i j:Nat),i+d=64→16≤i→d<j→Z8.l1 j (i:Int) (dgS b i)=some (dgS b 64):=by
 intro d
 induction d with
 | zero=>
  intro i j h1 h2 h3;obtain rfl:i=64:=by omega
  obtain ⟨j,rfl⟩:∃q,j=q+1:=⟨j-1,by omega⟩
  conv=>lhs;unfold Z8.l1
  rw [Xb (by omega:¬((64:Nat):Int)<64)];rfl
 | succ d ih=>
  intro i j h1 h2 h3;obtain ⟨j,rfl⟩:∃q,j=q+1:=⟨j-1,by omega⟩;have hi:i<64:=by omega
  have hl:=Zbt b i;rw [← ih (i+1) j (by omega) (by omega) (by omega)]
  conv=>lhs;unfold Z8.l1
  rw [Xa (by omega:(i:Int)<64),Zn (by omega)];dsimp only;rw [Xe];rw [show Ya .i64 ((i:Int)-15)=((i-15:Nat):Int) from Z6q (d:=15) (by omega) hi,show Ya .i64 ((i:Int)-2)=((i-2:Nat):Int) from Z6q (d:=2) (by omega) hi,show Ya .i64 ((i:Int)-16)=((i-16:Nat):Int) from Z6q (d:=16) (by omega) hi,show Ya .i64 ((i:Int)-7)=((i-7:Nat):Int) from Z6q (d:=7) (by omega) hi];rw [atD (n:=i-15) 0 rfl (by omega),atD (n:=i-2) 0 rfl (by omega),atD (n:=i-16) 0 rfl (by omega),atD (n:=i-7) 0 rfl (by omega),atD (j:=(i:Int)) (n:=i) 0 rfl (by omega)];simp only [Yb];rw [Z4m _ (by omega),Z4m _ (by omega),Z3c (by omega),Z4m _ (by omega),Z4m _ (by omega),Z3c (by omega)];simp only [Yb,Yr];rw [dgS,Xd (by omega)];rfl
abbrev S8:=Int×Int×Int×Int×Int×Int×Int×Int
def Zh9 (key w:Int) (s:S8):Int:=Ya .u32 ((Ya .u32 ((Ya .u32 ((Ya .u32 (s.2.2.2.2.2.2.2+(intBits .xor .u32 (intBits .xor .u32 (dgT s.2.2.2.2.1 6) (dgT s.2.2.2.2.1 11)) (dgT s.2.2.2.2.1 25))))+(intBits .xor .u32 (intBits .and .u32 s.2.2.2.2.1 s.2.2.2.2.2.1) (intBits .and .u32 (intBits .xor .u32 (Yua .u32) s.2.2.2.2.1) s.2.2.2.2.2.2.1))))+key))+w)
def dgR2 (s:S8):Int:=Ya .u32 ((intBits .xor .u32 (intBits .xor .u32 (dgT s.1 2) (dgT s.1 13)) (dgT s.1 22))+(intBits .xor .u32 (intBits .xor .u32 (intBits .and .u32 s.1 s.2.1) (intBits .and .u32 s.1 s.2.2.1)) (intBits .and .u32 s.2.1 s.2.2.1)))
def dgR (key w:Int) (s:S8):S8:=(Ya .u32 (Zh9 key w s+dgR2 s),s.1,s.2.1,s.2.2.1,Ya .u32 (s.2.2.2.1+Zh9 key w s),s.2.2.2.2.1,s.2.2.2.2.2.1,s.2.2.2.2.2.2.1)
def dgI (w:List Int) (s:S8):Nat→S8
 | 0=>s
 | i+1=>dgR (Zcn.getD i 0) (w.getD i 0) (dgI w s i)
theorem Zebb:Zcn.length=64:=by decide
theorem Zglb:Zms=some Zcn:=rfl
theorem Znkb {w:List Int} (hw:w.length=64) (s:S8):∀k,64<k→Zqb.l1 k s.1 s.2.1 s.2.2.1 s.2.2.2.1 s.2.2.2.2.1 s.2.2.2.2.2.1 s.2.2.2.2.2.2.1 s.2.2.2.2.2.2.2 0 w=some (dgI w s 64):=by
 have hk:=Zebb
 refine Zrb (fun j i=>Zqb.l1 j (dgI w s i).1 (dgI w s i).2.1 (dgI w s i).2.2.1 (dgI w s i).2.2.2.1 (dgI w s i).2.2.2.2.1 (dgI w s i).2.2.2.2.2.1 (dgI w s i).2.2.2.2.2.2.1 (dgI w s i).2.2.2.2.2.2.2 (i:Int) w) 64 _ (fun i hi j=>?_) fun j=>?_
 ·conv=>lhs;unfold Zqb.l1
  rw [Xa (by omega:(i:Int)<64),Zn (by omega),Xe];rw [Znm _ (by decide),Znm _ (by decide),Znm _ (by decide),Znm _ (by decide),Znm _ (by decide),Znm _ (by decide)];simp only [Yb];rw [atD (l:=Zcn) (j:=(i:Int)) (n:=i) 0 rfl (by omega),atD (l:=w) (j:=(i:Int)) (n:=i) 0 rfl (by omega)];simp only [Yb];rfl
 ·conv=>lhs;unfold Zqb.l1
  rw [Xb (by omega:¬((64:Nat):Int)<64)];rfl
theorem Zqob {w:List Int} (hw:w.length=64) (s:S8):∀k,64<k→Z8.l2 k s.1 s.2.1 s.2.2.1 s.2.2.2.1 s.2.2.2.2.1 s.2.2.2.2.2.1 s.2.2.2.2.2.2.1 s.2.2.2.2.2.2.2 0 w Zcn=some (dgI w s 64):=by
 have hk:=Zebb
 refine Zrb (fun j i=>Z8.l2 j (dgI w s i).1 (dgI w s i).2.1 (dgI w s i).2.2.1 (dgI w s i).2.2.2.1 (dgI w s i).2.2.2.2.1 (dgI w s i).2.2.2.2.2.1 (dgI w s i).2.2.2.2.2.2.1 (dgI w s i).2.2.2.2.2.2.2 (i:Int) w Zcn) 64 _ (fun i hi j=>?_) fun j=>?_
 ·conv=>lhs;unfold Z8.l2
  rw [Xa (by omega:(i:Int)<64),Zn (by omega),Xe];rw [Z4m _ (by omega),Z4m _ (by omega),Z4m _ (by omega),Z4m _ (by omega),Z4m _ (by omega),Z4m _ (by omega)];simp only [Yb];rw [atD (l:=Zcn) (j:=(i:Int)) (n:=i) 0 rfl (by omega),atD (l:=w) (j:=(i:Int)) (n:=i) 0 rfl (by omega)];simp only [Yb];rfl
 ·conv=>lhs;unfold Z8.l2
  rw [Xb (by omega:¬((64:Nat):Int)<64)];rfl
def lst (s:S8):List Int:=[s.1,s.2.1,s.2.2.1,s.2.2.2.1,s.2.2.2.2.1,s.2.2.2.2.2.1,s.2.2.2.2.2.2.1,s.2.2.2.2.2.2.2]
def dgP (x r:S8):S8:=(Ya .u32 (x.1+r.1),Ya .u32 (x.2.1+r.2.1),Ya .u32 (x.2.2.1+r.2.2.1),Ya .u32 (x.2.2.2.1+r.2.2.2.1),Ya .u32 (x.2.2.2.2.1+r.2.2.2.2.1),Ya .u32 (x.2.2.2.2.2.1+r.2.2.2.2.2.1),Ya .u32 (x.2.2.2.2.2.2.1+r.2.2.2.2.2.2.1),Ya .u32 (x.2.2.2.2.2.2.2+r.2.2.2.2.2.2.2))
def W32 (n:Int):Prop:=0≤n∧n<4294967296
def U32 (s:S8):Prop:=W32 s.1∧W32 s.2.1∧W32 s.2.2.1∧W32 s.2.2.2.1∧W32 s.2.2.2.2.1∧W32 s.2.2.2.2.2.1∧W32 s.2.2.2.2.2.2.1∧W32 s.2.2.2.2.2.2.2
theorem Zgo (n:Int):W32 (Ya .u32 n):=by
 unfold W32
 rw [Zts]
 omega
theorem Zfo {n:Int} (h:W32 n):Ya .u32 n=n:=by
 unfold W32 at h
 rw [Zts]
 omega
theorem w32l {n:Int} (h:W32 n):Ya .i64 n=n:=by
 unfold W32 at h
 exact w64 (by omega) (by omega)
theorem Zthb (x r:S8):U32 (dgP x r):=⟨Zgo _,Zgo _,Zgo _,Zgo _,Zgo _,Zgo _,Zgo _,Zgo _⟩
theorem lt8 {i:Nat} (h:i<8):i=0∨i=1∨i=2∨i=3∨i=4∨i=5∨i=6∨i=7:=by omega
theorem Zzkb (x r:S8):∀k,8<k→Zqb.l2 k r.1 r.2.1 r.2.2.1 r.2.2.2.1 r.2.2.2.2.1 r.2.2.2.2.2.1 r.2.2.2.2.2.2.1 r.2.2.2.2.2.2.2 0 (lst x)=some (lst (dgP x r)):=by
 refine Zrb (fun j i=>Zqb.l2 j r.1 r.2.1 r.2.2.1 r.2.2.2.1 r.2.2.2.2.1 r.2.2.2.2.2.1 r.2.2.2.2.2.2.1 r.2.2.2.2.2.2.2 (i:Int) ((lst (dgP x r)).take i++(lst x).drop i)) 8 _ (fun i hi j=>?_) fun j=>?_
 ·rcases lt8 hi with rfl | rfl | rfl | rfl | rfl | rfl | rfl | rfl <;> kernel_rfl
 ·kernel_rfl
def dgQ (x r:Int):Int:=Ya .i64 (Ya .u32 (Ya .u32 x+r))
def dgL (x r:S8):List Int:=[dgQ x.1 r.1,dgQ x.2.1 r.2.1,dgQ x.2.2.1 r.2.2.1,dgQ x.2.2.2.1 r.2.2.2.1,dgQ x.2.2.2.2.1 r.2.2.2.2.1,dgQ x.2.2.2.2.2.1 r.2.2.2.2.2.1,dgQ x.2.2.2.2.2.2.1 r.2.2.2.2.2.2.1,dgQ x.2.2.2.2.2.2.2 r.2.2.2.2.2.2.2]
theorem Z2ob (x r:S8):∀k,8<k→Z8.l3 k (lst x) 0 (lst r) []=some (dgL x r):=by
 refine Zrb (fun j i=>Z8.l3 j (lst x) (i:Int) (lst r) ((dgL x r).take i)) 8 _ (fun i hi j=>?_) fun j=>?_
 ·rcases lt8 hi with rfl | rfl | rfl | rfl | rfl | rfl | rfl | rfl <;> kernel_rfl
 ·kernel_rfl
theorem Zto {x:Int} (r:Int) (h:W32 x):dgQ x r=Ya .u32 (x+r):=by
 unfold dgQ
 rw [Zfo h,w32l (Zgo _)]
def dgB (x:S8) (b:Str):S8:=dgP x (dgI (dgS b 64) x 64)
theorem Zubb (x:S8):at? (lst x) 0=some x.1∧at? (lst x) 1=some x.2.1∧at? (lst x) 2=some x.2.2.1∧at? (lst x) 3=some x.2.2.2.1∧at? (lst x) 4=some x.2.2.2.2.1∧at? (lst x) 5=some x.2.2.2.2.2.1∧at? (lst x) 6=some x.2.2.2.2.2.2.1∧at? (lst x) 7=some x.2.2.2.2.2.2.2:=⟨rfl,rfl,rfl,rfl,rfl,rfl,rfl,rfl⟩
theorem Zqjb (x:S8) {b:Str} (hb:b.length=64) {k:Nat} (hk:66≤k):Zqb k (lst x) b=some (lst (dgB x b)):=by
 obtain ⟨a0,a1,a2,a3,a4,a5,a6,a7⟩:=Zubb x
 unfold Zqb
 refine Za (Zqkb hb _ (by omega)) ?_
 refine Za a0 (Za a0 (Za a1 (Za a1 (Za a2 (Za a2 (Za a3 (Za a3 (Za a4 (Za a4 (Za a5 (Za a5 (Za a6 (Za a6 (Za a7 (Za a7 ?_)))))))))))))))
 refine Za (Znkb (Zbt b 64) x _ (by omega)) ?_
 refine Za (Zzkb x _ _ (by omega)) ?_
 rw [dgB]
theorem Zunb {x:S8} (hx:U32 x) {b:Str} (hb:b.length=64) {k:Nat} (hk:66≤k):Z8 k (lst x) b=some (lst (dgB x b)):=by
 obtain ⟨h0,h1,h2,h3,h4,h5,h6,h7⟩:=hx
 obtain ⟨a0,a1,a2,a3,a4,a5,a6,a7⟩:=Zubb x
 have hm:Ztg 4 64 64 (0:Int)=some (Yd 64 0):=rfl
 have hs:Z8.l1 k 16 (dgS b 16)=some (dgS b 64):=Zuob hb 48 16 _ rfl (Ye _) (by omega)
 unfold Z8
 refine Za hm (Za (Ztob hb _ (by omega)) (Za hs ?_))
 refine Za a0 (Za a1 (Za a2 (Za a3 (Za a4 (Za a5 (Za a6 (Za a7 (Za Zglb ?_))))))))
 rw [Zfo h0,Zfo h1,Zfo h2,Zfo h3,Zfo h4,Zfo h5,Zfo h6,Zfo h7]
 refine Za (Zqob (Zbt b 64) x _ (by omega)) ?_
 refine Za (Z2ob x (dgI (dgS b 64) x 64) _ (by omega)) ?_
 unfold dgL
 rw [Zto _ h0,Zto _ h1,Zto _ h2,Zto _ h3,Zto _ h4,Zto _ h5,Zto _ h6,Zto _ h7,dgB,dgP,lst]
def dgF:Nat→Str→S8→S8
 | 0,_,x=>x
 | n+1,s,x=>dgF n (s.drop 64) (dgB x (s.take 64))
theorem Zg9 (x:S8) (b:Str):U32 (dgB x b):=Zthb _ _
theorem Z72:∀(n:Nat) (s:Str) {x:S8},U32 x→U32 (dgF n s x)
 | 0,_,_,h=>h
 | n+1,s,x,_=>Z72 n _ (Zg9 _ _)
theorem Zrjb {k:Nat} (hk:66≤k):∀(n:Nat) (s:Str) (x:S8) (j:Nat),s.length=64*n→n<j→Znc.l0 k j s (lst x)=some (lst (dgF n s x)):=by
 intro n
 induction n with
 | zero=>
  intro s x j hs hj;obtain ⟨j,rfl⟩:∃q,j=q+1:=⟨j-1,by omega⟩;obtain rfl:s=[]:=List.eq_nil_of_length_eq_zero (by omega);rfl
 | succ n ih=>
  intro s x j hs hj;obtain ⟨j,rfl⟩:∃q,j=q+1:=⟨j-1,by omega⟩
  have hne:(s==[])=false:=by
   cases s with
   | nil=>simp at hs
   | cons a s=>rfl
  have h1:Zob s 0 64=some (s.take 64):=Znf (l:=s) (i:=0) (j:=64) (by omega) (by omega)
  have h2:Zob s 64 (s.length:Int)=some (s.drop 64):=by
   have:=Znf (l:=s) (i:=64) (j:=s.length) (by omega) (Ye _);rw [Yx] at this;exact this
  unfold Znc.l0;rw [hne];simp only [Yra,Xe];refine Za h1 (Za (Zqjb x (by simp;omega) hk) (Za h2 ?_));rw [ih (s.drop 64) _ j (by simp;omega) (by omega),dgF]
theorem Zwnb {k:Nat} (hk:66≤k) (all:Str) (hal:all.length≤1000000):∀(d q:Nat) (x:S8) (j:Nat),all.length=64*(q+d)→d<j→U32 x→Z5.l2 k j (Zgb all) ((64*q:Nat):Int) (lst x)=some (lst (dgF d (all.drop (64*q)) x)):=by
 have hbl:(Zgb all).length=all.length:=Zl2 all
 intro d
 induction d with
 | zero=>
  intro q x j h1 hj hx;obtain ⟨j,rfl⟩:∃q,j=q+1:=⟨j-1,by omega⟩;unfold Z5.l2;rw [Xb (by omega:¬((64*q:Nat):Int)<((Zgb all).length:Int))];rfl
 | succ d ih=>
  intro q x j h1 hj hx;obtain ⟨j,rfl⟩:∃q,j=q+1:=⟨j-1,by omega⟩;have hw:Ya .i64 (((64*q:Nat):Int)+64)=((64*(q+1):Nat):Int):=by rw [w64] <;> omega
  have hc:Zob (Zgb all) ((64*q:Nat):Int) ((64*(q+1):Nat):Int)=some (Zgb ((all.drop (64*q)).take 64)):=by
   rw [Znf (by omega) (by omega)];unfold Zgb;rw [← Y7a,← List.map_drop,List.drop_take];congr 3;omega
  unfold Z5.l2;rw [Xa (by omega:((64*q:Nat):Int)<((Zgb all).length:Int)),hw];simp only [Xe];refine Za hc ?_;rw [Zqlb];refine Za (Zunb hx (by simp;omega) hk) ?_;rw [ih (q+1) _ j (by omega) (by omega) (Zg9 _ _),dgF,List.drop_drop];rfl
def Zdf (n:Nat):Nat:=(119-n%64)%64
def shN (n:Int):Nat→Int
 | 0=>n
 | q+1=>shr .u64 (shN n q) 8
def bb (c:Nat) (n:Int) (i:Nat):List Int:=Yd (c-i) 0++((Yn i).reverse.map fun q=>Ya .u8 (shN n q))
theorem Zpjb (n:Int):∀k,8<k→Zwd k n 8=some (Znb (bb 8 n 8)):=by
 intro k hk
 have h:∀k,8<k→Zwd.l0 k n (7-((0:Nat):Int)) (bb 8 n 0)=some (bb 8 n 8):=by
  refine Zrb (fun j i=>Zwd.l0 j (shN n i) (7-(i:Int)) (bb 8 n i)) 8 _ (fun i hi j=>?_) fun j=>?_
  ·rcases lt8 hi with rfl | rfl | rfl | rfl | rfl | rfl | rfl | rfl <;> kernel_rfl
  ·kernel_rfl
 have hm:Ztg 1 8 8 (0:Int)=some (Yd 8 0):=rfl
 unfold Zwd
 refine Za hm (Za (h k hk) rfl)
theorem Zojb (n:Int):∀k,4<k→Zwd k n 4=some (Znb (bb 4 n 4)):=by
 intro k hk
 have h:∀k,4<k→Zwd.l0 k n (3-((0:Nat):Int)) (bb 4 n 0)=some (bb 4 n 4):=by
  refine Zrb (fun j i=>Zwd.l0 j (shN n i) (3-(i:Int)) (bb 4 n i)) 4 _ (fun i hi j=>?_) fun j=>?_
  ·rcases (by omega:i=0∨i=1∨i=2∨i=3) with rfl | rfl | rfl | rfl <;> kernel_rfl
  ·kernel_rfl
 have hm:Ztg 1 4 4 (0:Int)=some (Yd 4 0):=rfl
 unfold Zwd
 refine Za hm (Za (h k hk) rfl)
theorem Zseb (N:Nat):∀q,shN (N:Int) q=((N/2^(8*q):Nat):Int)
 | 0=>by simp [shN]
 | q+1=>by
  rw [shN,Zseb N q,show (8:Int)=((8:Nat):Int) from rfl,Zpi .u64 _ 8 (by decide),Nat.div_div_eq_div_mul,← Nat.pow_add,Nat.mul_add]
theorem Ze8 (c:Nat) (N:Nat):bb c (N:Int) c=(Yn c).map fun i=>((N/2^(8*(c-1-i))%256:Nat):Int):=by
 unfold bb
 rw [Nat.sub_self,Ydb,Ybb]
 apply Yja
 ·simp
 ·intro i h1 h2
  simp only [Yk,List.length_reverse,Y4a] at h1;simp only [Yj,List.getElem_reverse,Y1a,Y4a];rw [Zseb,u8w];omega
def be8 (N:Nat):List Int:=(Yn 8).map fun i=>((N/2^(8*(8-1-i))%256:Nat):Int)
theorem Zeob (N:Nat) (b:List Int) (hb:b.length≤1000000):∀k,8<k→Z5.l1 k (N:Int) 56 b=some (b++be8 N):=by
 have hl:(be8 N).length=8:=by simp [be8]
 have h:=Zrb (fun j i=>Z5.l1 j (N:Int) (56-8*(i:Int)) (b++(be8 N).take i)) 8 (b++be8 N) (fun i hi j=>?_) fun j=>?_
 ·intro k hk
  have:=h k hk;simpa using this
 ·have hn:(56:Int)-8*(i:Int)=((56-8*i:Nat):Int):=by omega
  conv=>lhs;unfold Z5.l1
  rw [Xa (by omega:(0:Int)≤56-8*(i:Int)),show Ya .i64 ((56:Int)-8*(i:Int)-8)=56-8*((i+1:Nat):Int) by rw [w64] <;> omega,Zi7 (by omega) (by omega)];simp only [Xe]
  have he:Ya .u8 (shr .u64 (N:Int) (56-8*(i:Int)))=(be8 N)[i]'(by omega):=by
   rw [hn,Zpi .u64 _ _ (by show 56-8*i≤64;omega),u8w];simp only [be8,Yj,Y1a];rw [show 8*(8-1-i)=56-8*i by omega];omega
  refine Za (Z3c (by omega)) (Za (Z4 (by simp;omega)) ?_);rw [he,Zai (by omega),Ys]
 ·conv=>lhs;unfold Z5.l1
  rw [Xb (by omega:¬(0:Int)≤56-8*((8:Nat):Int)),Yeb (by omega)];rfl
theorem Zygb {a b:Int} (h:a≠b):(a != b)=true:=by simp [h]
theorem Zapb (b:List Int) (n:Nat) (hb:b.length=n+1) (hn:n≤1000000):∀k,64<k→Z5.l0 k b=some (b++Yd (Zdf n) 0):=by
 have hz:Zdf n<64:=Yoa _ (by omega)
 have h:=Zrb (fun j i=>Z5.l0 j (b++Yd i 0)) (Zdf n) (b++Yd (Zdf n) 0) (fun i hi j=>?_) fun j=>?_
 ·intro k hk
  have:=h k (by omega);rw [Ydb,Y3] at this;exact this
 ·have hm:Y2 (((b++Yd i (0:Int)).length:Nat):Int) 64=(((n+1+i)%64:Nat):Int):=by
   rw [Y8 (by omega),Yi,Yma,hb];omega
  conv=>lhs;unfold Z5.l0
  refine Za (Z7p (by decide)) ?_;rw [hm,Zygb (by unfold Zdf at hi;omega)];simp only [Xe];refine Za (Z4 (by simp;omega)) ?_;rw [Ys,← List.replicate_succ']
 ·have hm:Y2 (((b++Yd (Zdf n) (0:Int)).length:Nat):Int) 64=56:=by
   rw [Y8 (by omega),Yi,Yma,hb];unfold Zdf;omega
  conv=>lhs;unfold Z5.l0
  refine Za (Z7p (by decide)) ?_;rw [hm];rfl
def Z9p (t:Str):Str:=t++([128]:Str)++Yd (Zdf t.length) 0++Znb (be8 (8*t.length))
theorem Zmcb (t:Str):(Z9p t).length=64*((t.length+9+Zdf t.length)/64):=by
 unfold Z9p
 have:(Znb (be8 (8*t.length))).length=8:=by rw [Zyk];simp [be8]
 simp only [Yi,Yma,this,List.length_singleton]
 unfold Zdf
 omega
def Zor:S8:=(1779033703,3144134277,1013904242,2773480762,1359893119,2600822924,528734635,1541459225)
def Zuh (x:Int):List Int:=bb 4 x 4
def Zoi (t:Str):Str:=Znb ((lst (dgF ((t.length+9+Zdf t.length)/64) (Z9p t) Zor)).flatMap Zuh)
theorem iOut (x:S8) (hx:U32 x) {k:Nat} (hk:10≤k):Znc.l1 k k [] x.1 x.2.1 x.2.2.1 x.2.2.2.1 x.2.2.2.2.1 x.2.2.2.2.2.1 x.2.2.2.2.2.2.1 x.2.2.2.2.2.2.2 0=some (Znb ((lst x).flatMap Zuh)):=by
 have hl:(lst x).length=8:=rfl
 have hU:∀v∈lst x,W32 v:=by
  obtain ⟨h0,h1,h2,h3,h4,h5,h6,h7⟩:=hx;intro v hv;simp only [lst,Yl,Y5,or_false] at hv;rcases hv with rfl | rfl | rfl | rfl | rfl | rfl | rfl | rfl <;> assumption
 have ho:∀v,(Zuh v).length=4:=fun v=>by simp [Zuh,bb]
 have hfl:∀i,i≤8→(((lst x).take i).flatMap Zuh).length=4*i:=by
  intro i hi
  have:∀l:List Int,(l.flatMap Zuh).length=4*l.length:=fun l=>by
   induction l with
   | nil=>rfl
   | cons a l ih=>rw [Yza,Yi,ih,ho,Yu];omega
  rw [this,Yf,hl];omega
 have h:=Zrb (fun j i=>Znc.l1 k j (Znb (((lst x).take i).flatMap Zuh)) x.1 x.2.1 x.2.2.1 x.2.2.2.1 x.2.2.2.2.1 x.2.2.2.2.2.1 x.2.2.2.2.2.2.1 x.2.2.2.2.2.2.2 (i:Int)) 8 (Znb ((lst x).flatMap Zuh)) (fun i hi j=>?_) fun j=>?_
 ·exact h k (by omega)
 ·conv=>lhs;unfold Znc.l1
  rw [Xa (by omega:(i:Int)<8),Zn (by omega)];simp only [Xe];have hat:at? [x.1,x.2.1,x.2.2.1,x.2.2.2.1,x.2.2.2.2.1,x.2.2.2.2.2.1,x.2.2.2.2.2.2.1,x.2.2.2.2.2.2.2] (i:Int)=some ((lst x)[i]'(by omega)):=Zi (l:=lst x) (by omega);refine Za hat ?_;have hw:=hU _ (Ym (show i<(lst x).length by omega));rw [show Ya .u64 ((lst x)[i]'(by omega))=(lst x)[i]'(by omega) by unfold W32 at hw;exact Zi7 hw.1 (by omega)];refine Za (Zojb _ k (by omega)) ?_;refine Za (Zvc (by rw [Zyk,Zyk,hfl i (by omega)];have:=ho ((lst x)[i]'(by omega));unfold Zuh at this;rw [this];omega)) ?_;rw [Zai (by omega),Yya,Zplb];simp [Zuh]
 ·conv=>lhs;unfold Znc.l1
  rw [Xb (by omega:¬((8:Nat):Int)<8)];rfl
theorem sOut (x:S8) (hx:U32 x):∀k,8<k→Z5.l3 k 0 (lst x) []=some ((lst x).flatMap Zuh):=by
 have hl:(lst x).length=8:=rfl
 have hU:∀v∈lst x,W32 v:=by
  obtain ⟨h0,h1,h2,h3,h4,h5,h6,h7⟩:=hx;intro v hv;simp only [lst,Yl,Y5,or_false] at hv;rcases hv with rfl | rfl | rfl | rfl | rfl | rfl | rfl | rfl <;> assumption
 have ho:∀v,(Zuh v).length=4:=fun v=>by simp [Zuh,bb]
 have hfl:∀i,i≤8→(((lst x).take i).flatMap Zuh).length=4*i:=by
  intro i hi
  have:∀l:List Int,(l.flatMap Zuh).length=4*l.length:=fun l=>by
   induction l with
   | nil=>rfl
   | cons a l ih=>rw [Yza,Yi,ih,ho,Yu];omega
  rw [this,Yf,hl];omega
 refine Zrb (fun j i=>Z5.l3 j (i:Int) (lst x) (((lst x).take i).flatMap Zuh)) 8 _ (fun i hi j=>?_) fun j=>?_
 ·conv=>lhs;unfold Z5.l3
  rw [Xa (by omega:(i:Int)<8),Zn (by omega)];simp only [Xe];have hat:at? (lst x) (i:Int)=some ((lst x)[i]'(by omega)):=Zi (by omega);have hw:=hU _ (Ym (show i<(lst x).length by omega));refine Za hat (Za hat (Za (Z3c (by omega)) (Za (Z3c (by omega)) (Za (Z3c (by omega)) (Za (Z4 (by rw [hfl i (by omega)];simp;omega)) ?_)))));rw [Zai (by omega),Yya]
  have he:[Ya .u8 (shr .i64 ((lst x)[i]'(by omega)) 24),Ya .u8 (shr .i64 ((lst x)[i]'(by omega)) 16),Ya .u8 (shr .i64 ((lst x)[i]'(by omega)) 8),Ya .u8 ((lst x)[i]'(by omega))]=Zuh ((lst x)[i]'(by omega)):=by
   generalize (lst x)[i]'(by omega)=v at hw;unfold W32 at hw;obtain ⟨N,rfl⟩:∃N:Nat,v=(N:Int):=⟨v.toNat,by omega⟩;unfold Zuh;rw [Ze8,show (24:Int)=((24:Nat):Int) from rfl,show (16:Int)=((16:Nat):Int) from rfl,show (8:Int)=((8:Nat):Int) from rfl,Zpi .i64 _ 24 (by decide),Zpi .i64 _ 16 (by decide),Zpi .i64 _ 8 (by decide),u8w,u8w,u8w,u8w];simp [Yn,Yn.loop]
  rw [he];simp
 ·conv=>lhs;unfold Z5.l3
  rw [Xb (by omega:¬((8:Nat):Int)<8)];rfl
theorem Z82:U32 Zor:=by unfold U32 W32 Zor;decide
theorem Z5gb (n:Nat):Zgb (Yd n 0)=Yd n 0:=by simp [Zgb]
theorem Z4gb (N:Nat):Zgb (Znb (be8 N))=be8 N:=by
 unfold Zgb Znb
 rw [Y6a]
 have:∀z∈be8 N,0≤z∧z<256:=by
  intro z hz;obtain ⟨i,_,rfl⟩:=Yba.1 hz;omega
 have h2:∀l:List Int,(∀z∈l,0≤z∧z<256)→l.map ((fun b:UInt8=>((b.toNat:Nat):Int)) ∘ fun n:Int=>UInt8.ofNat n.toNat)=l:=by
  intro l
  induction l with
  | nil=>intro _;rfl
  | cons a l ih=>
   intro h;have ha:=h a Yv;rw [List.map_cons,ih fun z hz=>h z (Y4 _ hz)];congr 1;show (((UInt8.ofNat a.toNat).toNat:Nat):Int)=a;rw [UInt8.toNat_ofNat'];omega
 exact h2 _ this
theorem iSha (t:Str) (ht:t.length≤100000) {k:Nat} (hk:200000≤k):Znc k t=some (Zoi t):=by
 have hz:Zdf t.length<64:=Yoa _ (by omega)
 have hm:Y2 (Ya .i64 (119-(Y2 ((t.length):Int) 64))) 64=(Zdf t.length:Int):=by
  have h1:Y2 ((t.length):Int) 64=((t.length%64:Nat):Int):=by rw [Y8 (by omega)];omega
  rw [h1,w64 (by omega) (by omega),Y8 (by omega)];unfold Zdf;omega
 have hr:strings_Repeat ([0]:Str) (Zdf t.length:Int)=some (Yd (Zdf t.length) 0):=by
  unfold strings_Repeat;rw [Xc ⟨by omega,by simp;omega,by omega⟩];have:Lib.repeatL ([0]:Str) (Zdf t.length)=Yd (Zdf t.length*1) 0:=Lib.repeatL_replicate 0 1 (Zdf t.length);rw [Yr,this,Nat.mul_one]
 have hb:Ya .u64 (8*(Ya .u64 ((t.length):Int)))=((8*t.length:Nat):Int):=by rw [Zih,Zih];omega
 have h8:Zwd k ((8*t.length:Nat):Int) 8=some (Znb (be8 (8*t.length))):=by
  rw [Zpjb _ k (by omega),Ze8];rfl
 have hl8:(Znb (be8 (8*t.length))).length=8:=by rw [Zyk];simp [be8]
 unfold Znc
 rw [hm,hb]
 refine Za (Z7p (by decide)) (Za (Z7p (by decide)) (Za (Zvc (by simp;omega)) (Za hr (Za (Zvc (by simp;omega)) (Za h8 (Za (Zvc (by rw [hl8];simp;omega)) ?_))))))
 have hp:=Zmcb t
 have hF:=Zrjb (k:=k) (by omega) ((t.length+9+Zdf t.length)/64) (Z9p t) Zor k hp (by omega)
 refine Za hF ?_
 refine Za (iOut (dgF ((t.length+9+Zdf t.length)/64) (Z9p t) Zor) (Z72 _ _ Z82) (by omega)) ?_
 rw [Zoi]
theorem sSha (t:Str) (ht:t.length≤100000) {k:Nat} (hk:200000≤k):Z5 k t=some (Zoi t):=by
 have hz:Zdf t.length<64:=Yoa _ (by omega)
 have hbl:=Zl2 t
 have h0:Zs 1 (Zgb t) [128]=some (Zgb t++[128]):=Z4 (by simp;omega)
 have h1:=Zapb (Zgb t++[128]) t.length (by simp [hbl]) (by omega) k (by omega)
 have hw:Ya .u64 (Ya .i64 (8*((t.length):Int)))=((8*t.length:Nat):Int):=by rw [w64 (by omega) (by omega),Zi7 (by omega) (by omega)];omega
 have h2:=Zeob (8*t.length) (Zgb t++[128]++Yd (Zdf t.length) 0) (by simp [hbl];omega) k (by omega)
 have hall:Zgb t++[128]++Yd (Zdf t.length) 0++be8 (8*t.length)=Zgb (Z9p t):=by
  unfold Z9p;rw [Zk2,Zk2,Zk2,Z5gb,Z4gb];rfl
 have hp:=Zmcb t
 have h3:=Zwnb (k:=k) (by omega) (Z9p t) (by omega) ((t.length+9+Zdf t.length)/64) 0 Zor k (by omega) (by omega) Z82
 unfold Z5
 rw [hw]
 refine Za (Zkdb (by omega)) (Za h0 (Za h1 (Za h2 ?_)))
 rw [hall]
 refine Za (a:=lst Zor) rfl (Za h3 ?_)
 refine Za (sOut _ (Z72 _ _ Z82) k (by omega)) ?_
 rw [Zoi,Nat.mul_zero,Y9]
end Go.Proofs.Qz
namespace Go.Proofs.Qz
open Go
set_option linter.unusedVariables false
theorem Zelb (l:List Str):Lib.join l []=l.flatten:=by
 cases l with
 | nil=>rfl
 | cons x r=>
  rw [Lib.join_cons,Lib.joinTail,List.flatten_cons];congr 2;exact List.map_id' r
theorem Zzjb {l:List Str} (h:Zki l=true) {k:Nat} (hk:200000≤k):Zdp k l=some (Zoi l.flatten):=by
 obtain ⟨h1,h2,h3⟩:=Zzv h
 have hf:=Zq3 l 8 fun s hs=>Yna (h3 s hs)
 have hj:strings_Join l []=some l.flatten:=by
  unfold strings_Join;rw [Zelb,Xc ⟨by omega,by omega⟩]
 unfold Zdp
 exact Za hj (Za (iSha _ (by omega) hk) rfl)
theorem Z4nb {l:List Str} (h:Zki l=true):Ze fun k=>Zao k l=some (Zoi l.flatten):=by
 obtain ⟨h1,h2,h3⟩:=Zzv h
 have hf:=Zq3 l 8 fun s hs=>Yna (h3 s hs)
 have run:=Zfhb (fun k j acc i=>Zye.l0 j l acc i) l id 8 100000 (fun s hs=>Yna (h3 s hs)) (fun i hi=>Ze.of fun k acc j ha=>by
  show Zye.l0 (j+1) l acc (i:Int)=_;have:=h3 _ (Ym hi)
  conv=>lhs;unfold Zye.l0
  rw [dlt hi,Zi hi,Zn (by omega)];simp only [Xe,Yb];rw [Zvc (by omega)];rfl) (fun k acc j=>by
  show Zye.l0 (j+1) l acc (l.length:Int)=_;unfold Zye.l0;rw [Zv (Ye _)];rfl) [] (by simp;omega)
 refine (run.and (Ze.ge 200000 fun k hk=>hk)).mono fun k ⟨run,hk⟩=>?_
 have hj:Zye k l=some l.flatten:=by
  have run:Zye.l0 k l [] 0=some ([]++(l.map id).flatten):=run;rw [List.map_id,Ybb] at run;unfold Zye;exact Za run rfl
 unfold Zao Zks
 refine Za (Zg6 l (by omega)) ?_
 rw [h]
 simp only [Yo,Xf]
 refine Za hj ?_
 rw [Xb (by omega:¬(8000<(l.flatten.length:Int)))]
 exact Za (Za (sSha _ (by omega) hk) rfl) rfl
def Zax (m:Zr) (st dn:Int) (w:Nat):Bool:=decide (Zdb (Zc m st w) m.1=0)&&(decide (Z7b (Zg (Zc m st w))≤st)&&decide (dn≤((Zg (Zc m st w)).length:Int)))
def Zsh (m:Zr):Bool:=match stM m with
 | some (ph,tr,nd,st,dn,dg,v,w)=>Zki (Zxb m)&&(decide (ph≤2)||Zax m st dn w)
 | none=>false
theorem Z4eb {s:Str} {a b c d e:Int} {x:Str} {v w:Nat} (h:Zdo s=some (a,b,c,d,e,x,v,w)):Zxh a b c d e x v w=true∧v<16777216∧w<16777216:=by
 unfold Zdo at h
 split at h
 ·split at h
  ·rename_i hc
   cases h;refine ⟨hc.2.2.2,?_,?_⟩
   ·have:=hc.2.1;omega
   ·have:=hc.2.2.1;omega
  ·cases h
 ·cases h
theorem Z90 {m:Zr} {a b c d e:Int} {x:Str} {v w:Nat} (h:stM m=some (a,b,c,d,e,x,v,w)):Fit m d w∧(1≤a∧a≤5)∧Zxh a b c d e x v w=true:=by
 unfold stM at h
 split at h
 ·rename_i hc
  split at h
  ·have h:=(Z4eb h).1
   have h0:=h;unfold Zxh at h;rw [Yc,Yc,decide_eq_true_eq,decide_eq_true_eq,Yc] at h;refine ⟨⟨hc.1,hc.2.1,hc.2.2,?_⟩,h.1,h0⟩;have h2:=h.2.2;split at h2
   ·have h2:=of_decide_eq_true h2
    omega
   ·have h2:=of_decide_eq_true h2
    omega
  ·cases h
 ·cases h
theorem Z4y (m:Zr) (hl:m.2.1.length≤1048576) (hl2:m.2.2.length≤1048576):Ze fun k=>Ztn k m=some (Zsh m):=by
 unfold Zsh
 cases hs:stM m with
 | none=>
  refine (Z8y m hl hl2).mono fun k e=>?_
  rw [hs] at e;unfold Ztn;exact Za e rfl
 | some z=>
  obtain ⟨ph,tr,nd,st,dn,dg,v,w⟩:=z;obtain ⟨hf,hph,hst⟩:=Z90 hs;have hb:=hf.b;have hn:=hf.n;have hll:=Ziz m st w;dsimp only;have pre:Ze fun k=>Zqh k m=some (Zas (some (ph,tr,nd,st,dn,dg,v,w))):=by rw [← hs];exact Z8y m hl hl2
  refine ((((pre.and (Zyv ph tr nd st dn dg (Zb v) hf)).and (Zaz (Zc m st w) m.1 (by omega))).and (Ze.ge 1048577 fun k hk=>hk)).and (if hc:Zdb (Zc m st w) m.1=0 then (Znt (Zc m st w) (Z7f hc).1 (Z7i hc)).mono fun k e _=>e else Ze.of fun k q=>absurd q hc:Ze fun k=>Zdb (Zc m st w) m.1=0→Zmb k (Zc m st w)=some (Zg (Zc m st w)))).mono fun k ⟨⟨⟨⟨e1,e2⟩,e3⟩,hk⟩,e4⟩=>?_
  unfold Ztn;refine Za e1 ?_;show (bif !true then _ else _)=_;rw [Yo,Xf];refine Za (Z23 (m:=m) ⟨by omega,hb.2⟩ (by omega) hl2 hk) (Za (Z7jb (Zxb m) (by omega)) ?_);cases Zki (Zxb m) with
  | false=>rfl
  | true=>
   rw [Yo,Xf,Yg];show (bif (ph==1)||(ph==2) then _ else _)=_
   by_cases hp:ph≤2
   ·rw [show ((ph==1)||(ph==2))=true by
     rcases (by omega:ph=1∨ph=2) with q | q <;> rw [q] <;> rfl,Xa hp]
    rfl
   ·rw [show ((ph==1)||(ph==2))=false by
     have h1:(ph==1)=false:=by simp;omega
     have h2:(ph==2)=false:=by simp;omega
     rw [h1,h2];rfl,Xb hp,Xf,Yga]
    refine Za e2 (Za e3 ?_);unfold Zax
    by_cases hc:Zdb (Zc m st w) m.1=0
    ·have hpl:=Zmw _ (Z7f hc).1 (Z7i hc)
     rw [show (Zdb (Zc m st w) m.1 != 0)=false by simpa using hc,Xf,Xa hc,Yg];refine Za (e4 hc) (Za (Z2ab _ (by omega) k (by omega)) ?_);show (bif decide (Z7b (Zg (Zc m st w))≤st) then _ else _)=_;cases decide (Z7b (Zg (Zc m st w))≤st) <;> rfl
    ·rw [show (Zdb (Zc m st w) m.1 != 0)=true by simpa using hc,Xb hc]
     rfl
theorem Zlu (m:Zr) (hl:m.2.1.length≤1048576) (hl2:m.2.2.length≤1048576):Ze fun k=>Zbo k m=some (Zsh m):=by
 unfold Zsh
 cases hs:stM m with
 | none=>
  refine (Zl6 m hl hl2).mono fun k e=>?_
  rw [hs] at e;unfold Zbo;exact Za e rfl
 | some z=>
  obtain ⟨ph,tr,nd,st,dn,dg,v,w⟩:=z;obtain ⟨hf,hph,hst⟩:=Z90 hs;have hb:=hf.b;have hn:=hf.n;have hll:=Ziz m st w;dsimp only;have pre:Ze fun k=>Z0i k m=some (Zas (some (ph,tr,nd,st,dn,dg,v,w))):=by rw [← hs];exact Zl6 m hl hl2
  refine ((((pre.and (Zgq ph tr nd st dn dg (Zb v) hf)).and (Z00 (Zc m st w) m.1 (by omega))).and (Ze.ge 1048577 fun k hk=>hk))).mono fun k ⟨⟨⟨e1,e2⟩,e3⟩,hk⟩=>?_
  unfold Zbo;refine Za e1 ?_;show (bif true then _ else _)=_;rw [Xe];refine Za (Zd6 (m:=m) ⟨by omega,hb.2⟩ (by omega) hl2 hk) (Za (Zg6 (Zxb m) (by omega)) ?_);cases Zki (Zxb m) with
  | false=>rfl
  | true=>
   rw [Xe,Yg];refine Za (a:=decide (ph≤2)||Zax m st dn w) ?_ rfl;unfold Zps;show (bif decide (ph≤2) then _ else _)=_
   by_cases hp:ph≤2
   ·rw [Xa hp]
    rfl
   ·rw [Xb hp,Xf,Yga]
    refine Za e2 ?_;unfold Zqj Zax;rw [Xb (by omega:¬(400<((Zc m st w).length:Int))),Xf]
    by_cases hc:Zdb (Zc m st w) m.1=0
    ·have hpl:=Zmw _ (Z7f hc).1 (Z7i hc)
     refine Za (a:=(Zg (Zc m st w),0)) ?_ ?_
     ·refine Za e3 ?_
      rw [show (Zdb (Zc m st w) m.1 != 0)=false by simpa using hc,Xf];exact Za (Zbeb _ (Z7f hc).1 (Z7i hc) k (by omega)) rfl
     rw [Xa hc,Yg];show (bif ((0:Int)==0) then _ else _)=_;rw [show ((0:Int)==0)=true from rfl,Xe];refine Za (Zfeb (Zg (Zc m st w)) (by omega) k (by omega)) ?_;show (bif decide (Z7b (Zg (Zc m st w))≤st) then _ else _)=_;cases decide (Z7b (Zg (Zc m st w))≤st) <;> rfl
    ·refine Za (a:=([],Zdb (Zc m st w) m.1)) ?_ ?_
     ·refine Za e3 ?_
      rw [show (Zdb (Zc m st w) m.1 != 0)=true by simpa using hc];rfl
     rw [Xb hc];show (bif (Zdb (Zc m st w) m.1==0) then _ else _)=_;rw [show (Zdb (Zc m st w) m.1==0)=false by simpa using hc];rfl
def Z4l (b:Int) (m:Zuc):Bool:=(m.1==1)&&(m.2.2.1==b)
def doP (b:Int) (m:Zuc):Bool:=(m.1==2)&&(m.2.2.1==b)
def Zuj (mv:List Zuc) (dn:Nat) (b:Int):Int:=match Zsb (Z4l b) (mv.take dn) 0 with
 | some i=>(mv.getD i (0,(0,(0,0)))).2.2.2
 | none=>-1
theorem Zxy {l:List Zuc} {i:Nat} (h:i<l.length):l.getD i (0,(0,(0,0)))=l[i]:=by
 rw [Yt,Yh h]
 rfl
theorem Ztkb {mv:List Zuc} {dn:Nat} (h:dn≤mv.length) (hl:mv.length≤40) (b:Int) {k:Nat} (hk:100≤k):Zrd k mv (dn:Int) b=some (Zuj mv dn b):=by
 have hlen:(mv.take dn).length=dn:=by rw [Yf];omega
 have run:=Zrh (fun j i=>Zrd.l0 j b (mv.take dn) ((mv.take dn).length:Int) i) (mv.take dn) (Z4l b) (.inl ()) (fun i=>.inr (mv.getD i (0,(0,(0,0)))).2.2.2) (fun i hi=>⟨fun hp j=>?_,fun hp j=>?_⟩) (fun j=>?_) (k:=k) (by omega)
 ·have run:Zrd.l0 k b (mv.take dn) ((mv.take dn).length:Int) 0=_:=run
  have hc:Zob mv 0 (dn:Int)=some (mv.take dn):=by
   have:=Znf (l:=mv) (i:=0) (j:=dn) (by omega) h
   rwa [Y9] at this
  unfold Zrd Zuj;refine Za hc (Za run ?_);cases Zsb (Z4l b) (mv.take dn) 0 <;> rfl
 ·show Zrd.l0 (j+1) b (mv.take dn) _ (i:Int)=Zrd.l0 j b (mv.take dn) _ ((i+1:Nat):Int)
  conv=>lhs;unfold Zrd.l0
  rw [dlt hi,Zn (by omega),Xe];refine Za (Zi hi) ?_;unfold Z4l at hp;rw [hp];rfl
 ·show Zrd.l0 (j+1) b (mv.take dn) _ (i:Int)=_
  conv=>lhs;unfold Zrd.l0
  rw [dlt hi,Zn (by omega),Xe];refine Za (Zi hi) ?_;unfold Z4l at hp;rw [hp,Xe,Zxy (by omega),Yy]
 ·show Zrd.l0 (j+1) b (mv.take dn) _ _=_
  unfold Zrd.l0;rw [Zv (Ye _)];rfl
theorem Zwob {mv:List Zuc} {dn:Nat} (h:dn≤mv.length) (hl:mv.length≤40) (b:Int) {k:Nat} (hk:100≤k):Znd k mv (dn:Int) b=some (Zuj mv dn b):=by
 have hlen:(mv.take dn).length=dn:=by rw [Yf];omega
 have run:=Zrh (fun j i=>Znd.l0 j mv (dn:Int) b i) (mv.take dn) (Z4l b) (.inl ()) (fun i=>.inr (mv.getD i (0,(0,(0,0)))).2.2.2) (fun i hi=>⟨fun hp j=>?_,fun hp j=>?_⟩) (fun j=>?_) (k:=k) (by omega)
 ·have run:Znd.l0 k mv (dn:Int) b 0=_:=run
  unfold Znd Zuj;refine Za run ?_;cases Zsb (Z4l b) (mv.take dn) 0 <;> rfl
 ·show Znd.l0 (j+1) mv (dn:Int) b (i:Int)=Znd.l0 j mv (dn:Int) b ((i+1:Nat):Int)
  rw [Yy] at hp
  conv=>lhs;unfold Znd.l0
  rw [dlt (by omega:i<dn),Zn (by omega),Xe];refine Za (Zi (by omega)) ?_;dsimp only;unfold Z4l at hp;cases h1:(mv[i]'(by omega)).1==1 with
  | false=>rfl
  | true=>
   rw [h1,Yg] at hp;rw [Xe];refine Za (Zi (by omega)) ?_;rw [hp];rfl
 ·show Znd.l0 (j+1) mv (dn:Int) b (i:Int)=_
  rw [Yy] at hp;unfold Z4l at hp;rw [Yc] at hp
  conv=>lhs;unfold Znd.l0
  rw [dlt (by omega:i<dn),Zn (by omega),Xe];refine Za (Zi (by omega)) ?_;dsimp only;rw [hp.1,Xe];refine Za (Zi (by omega)) ?_;rw [hp.2,Xe];refine Za (Zi (by omega)) ?_;rw [Zxy (by omega)]
 ·show Znd.l0 (j+1) mv (dn:Int) b ((mv.take dn).length:Int)=_
  rw [hlen];unfold Znd.l0;rw [Zv (Ye _)];rfl
theorem Z1eb {l:List Zk} {n:Int} (h:Zdb l n=0) (dn:Nat) (b:Int):Zuj (Zg l) dn b = -1∨(0≤Zuj (Zg l) dn b∧Zuj (Zg l) dn b<Z7b (Zg l)):=by
 unfold Zuj
 cases hf:Zsb (Z4l b) ((Zg l).take dn) 0 with
 | none=>exact .inl rfl
 | some i=>
  right;obtain ⟨_,hi,hp,_⟩:=Zml hf;simp only [Yjb] at hi hp;rw [Yf] at hi;rw [Yy] at hp;dsimp only;rw [Zxy (by omega)];have hm:(Zg l)[i]? = some (Zg l)[i]:=Yh (by omega);unfold Z4l at hp;rw [Yc] at hp;have h1:(Zg l)[i].1=1:=by simpa using hp.1
  obtain ⟨j,_,q | q⟩:=(Z2z h).form i _ hm
  ·rw [q] at h1
   cases h1
  ·have hs:(Zg l)[i].2.2.2=Z7b ((Zg l).take i):=by rw [q]
   rw [hs];exact ⟨(Z80 _).1,Zxeb hm h1⟩
def Zzo (m:Zr) (w:Nat) (mv:List Zuc) (dn:Nat) (x:Zk):Str:=if x.1=3∨x.1=4 then (if 0≤Zuj mv dn x.2.2.1 then Zz m.2 (3+m.1+(Zb w).getD (Zuj mv dn x.2.2.1).toNat 0) else Zz m.2 (3+x.2.2.1)) else []
def Zeh (m:Zr) (w:Nat) (mv:List Zuc) (dn:Nat) (x:Zk):Str:=Zfh x (Zzo m w mv dn x)
structure Sound (m:Zr) (st dn:Int) (w:Nat):Prop where
 fit:Fit m st w
 code:Zdb (Zc m st w) m.1=0
 slots:Z7b (Zg (Zc m st w))≤st
 dn:0≤dn∧dn≤((Zg (Zc m st w)).length:Int)
theorem Sound.plan {m:Zr} {st dn:Int} {w:Nat} (h:Sound m st dn w):(Zg (Zc m st w)).length≤28:=Zmw _ (Z7f h.code).1 (Z7i h.code)
theorem Z2s {w:Nat} {n:Int} (h0:0≤n) (h1:n<((Zb w).length:Int)):at? (Zb w) n=some ((Zb w).getD n.toNat 0)∧0≤(Zb w).getD n.toNat 0∧(Zb w).getD n.toNat 0≤23:=by
 obtain ⟨i,rfl⟩:∃i:Nat,n=(i:Int):=⟨n.toNat,by omega⟩
 have hi:i<(Zb w).length:=by omega
 have hg:(Zb w).getD i 0=(Zb w)[i]:=by
  rw [Yt,Yh hi];rfl
 rw [Yr,hg]
 exact ⟨Zi hi,Zyj hi⟩
theorem Zvab {m:Zr} {st:Int} {w:Nat} (h:Fit m st w) {n:Int} (h0:0≤n) (h1:n≤23) {k:Nat} (hk:1048577≤k):Zbj k (m.1,(m.2.1,m.2.2)) n=some (Zz m.2 (3+m.1+n)):=by
 have hb:=h.b
 have hn:=h.n
 unfold Zbj Zph
 rw [w64 (n:=3+m.1) (by omega) (by omega),w64 (by omega) (by omega)]
 exact Za rfl (Za (Z1o m.2 _ h.dirt (by omega) (by omega) (by have:=h.dirt;omega)) rfl)
theorem Z3w {m:Zr} {st:Int} {w:Nat} (h:Fit m st w) {n:Int} (h0:0≤n) (h1:n≤23):Z5g m n=some (3+m.1+n):=by
 have hb:=h.b
 unfold Z5g
 rw [w64 (n:=3+m.1) (by omega) (by omega),w64 (by omega) (by omega)]
theorem Zzy {m:Zr} {st:Int} {w:Nat} (h:Fit m st w) {n:Int} (h0:0≤n) (h1:n≤23):Zph m n=some (3+m.1+n):=by
 have hb:=h.b
 unfold Zph
 rw [w64 (n:=3+m.1) (by omega) (by omega),w64 (by omega) (by omega)]
theorem Zzab {m:Zr} {st dn:Int} {w:Nat} (h:Sound m st dn w) (ph tr nd:Int) (dg:Str) (v:List Int) {x:Zk} (hx:WriteOk x m.1) {k:Nat} (hk:1048577≤k):
  Zbg k m (ph,(tr,(nd,(st,(dn,(dg,(v,Zb w))))))) (Zg (Zc m st w)) x=some (Zeh m w (Zg (Zc m st w)) dn.toNat x):=by
 have hb:=h.fit.b
 have hn:=h.fit.n
 have hd:=h.fit.dirt
 have hdn:=h.dn
 have hpl:=h.plan
 have hsl:=h.slots
 have hs:=h.fit.s
 have hsrc:=hx.src
 have hrd:Zag k (m.2.1,m.2.2) (3+x.2.2.1)=some (Zz m.2 (3+x.2.2.1)):=Z1o m.2 _ hd (by omega) (by omega) (by omega)
 have hso:=Ztkb (mv:=Zg (Zc m st w)) (dn:=dn.toNat) (by omega) (by omega) x.2.2.1 (k:=k) (by omega)
 rw [Yia hdn.1] at hso
 have hj:Zbg.j0 k (Zg (Zc m st w)) m.1 m.2.1 m.2.2 ph tr nd st dn dg v (Zb w) [] x.1 x.2.1 x.2.2.1 x.2.2.2=some (Zzo m w (Zg (Zc m st w)) dn.toNat x,x):=by
  unfold Zbg.j0 Zzo
  by_cases c:x.1=3∨x.1=4
  ·rw [Xc c,show ((x.1==3)||(x.1==4))=true by rcases c with q | q <;> rw [q] <;> rfl,Xe,w64 (n:=3+x.2.2.1) (by omega) (by omega)]
   refine Za hrd (Za hso ?_);rcases Z1eb h.code dn.toNat x.2.2.1 with q | ⟨q1,q2⟩
   ·rw [q]
    rfl
   ·obtain ⟨e1,e2,e3⟩:=Z2s (w:=w) (n:=Zuj (Zg (Zc m st w)) dn.toNat x.2.2.1) q1 (by omega)
    rw [Xa q1,Xe,Xc q1];exact Za e1 (Za (Zvab h.fit e2 e3 hk) rfl)
  ·rw [Xd c,show ((x.1==3)||(x.1==4))=false by
    rw [Ysa];exact ⟨by simp;omega,by simp;omega⟩]
   rfl
 unfold Zbg Zeh
 refine Za hj ?_
 dsimp only
 by_cases c4:x.1=4
 ·by_cases c8:(Zzo m w (Zg (Zc m st w)) dn.toNat x).length=8
  ·rw [show ((x.1==4)&&(((Zzo m w (Zg (Zc m st w)) dn.toNat x).length:Int) != 8))=false by rw [c8];simp,Xf]
   have hdata:x.2.2.2.length=8:=by rcases hx.kind with q | q | q | q;omega;omega;omega;exact q.2
   exact Za (Z53 (.inr (.inr (.inr ⟨c8,hdata⟩))) (by omega)) rfl
  ·rw [show ((x.1==4)&&(((Zzo m w (Zg (Zc m st w)) dn.toNat x).length:Int) != 8))=true by
    rw [Yc];exact ⟨by simpa using c4,by simp;omega⟩]
   unfold Zfh Zys;rw [Xd (by omega),Xd (by omega),Xd (by omega),Xd (fun q=>c8 q.1)];rfl
 ·rw [show (x.1==4)=false by simpa using c4,Yfa,Xf]
  exact Za (Z53 (by rcases hx.kind with q | q | q | q;exact .inl q;exact .inr (.inl q);exact .inr (.inr (.inl q));exact absurd q.1 c4) (by omega)) rfl
theorem Z7db {m:Zr} {st dn:Int} {w:Nat} (h:Sound m st dn w) (ph tr nd:Int) (dg:Str) (v:List Int) {x:Zk} (hx:WriteOk x m.1) {k:Nat} (hk:1048577≤k):
  Zan k m (ph,(tr,(nd,(st,(dn,(dg,(v,Zb w))))))) (Zg (Zc m st w)) x=some (Zeh m w (Zg (Zc m st w)) dn.toNat x):=by
 have hb:=h.fit.b
 have hn:=h.fit.n
 have hd:=h.fit.dirt
 have hdn:=h.dn
 have hpl:=h.plan
 have hsl:=h.slots
 have hs:=h.fit.s
 have hsrc:=hx.src
 have hrd:Ztb k m.2 (3+x.2.2.1)=some (Zz m.2 (3+x.2.2.1)):=Z8n m.2 _ hd (by omega) (by omega) (by omega)
 have hso:=Zwob (mv:=Zg (Zc m st w)) (dn:=dn.toNat) (by omega) (by omega) x.2.2.1 (k:=k) (by omega)
 rw [Yia hdn.1] at hso
 unfold Zan Zeh Zzo
 by_cases c:x.1=3∨x.1=4
 ·rw [Xc c,show ((x.1==3)||(x.1==4))=true by rcases c with q | q <;> rw [q] <;> rfl,Xe,w64 (n:=3+x.2.2.1) (by omega) (by omega)]
  refine Za hrd (Za hso ?_);rcases Z1eb h.code dn.toNat x.2.2.1 with q | ⟨q1,q2⟩
  ·rw [q]
   exact Za (Zv0 _ _ (by omega)) rfl
  ·obtain ⟨e1,e2,e3⟩:=Z2s (w:=w) (n:=Zuj (Zg (Zc m st w)) dn.toNat x.2.2.1) q1 (by omega)
   rw [Xa q1,Xe,Xc q1]
   have hst:Zwq k m (ph,(tr,(nd,(st,(dn,(dg,(v,Zb w))))))) (Zuj (Zg (Zc m st w)) dn.toNat x.2.2.1)=some (Zz m.2 (3+m.1+(Zb w).getD (Zuj (Zg (Zc m st w)) dn.toNat x.2.2.1).toNat 0)):=by
    unfold Zwq;exact Za e1 (Za (Z3w h.fit e2 e3) (Za (Z8n m.2 _ hd (by omega) (by omega) (by omega)) rfl))
   exact Za hst (Za (Zv0 _ _ (by omega)) rfl)
 ·rw [Xd c,show ((x.1==3)||(x.1==4))=false by
   rw [Ysa];exact ⟨by simp;omega,by simp;omega⟩]
  exact Za (Zv0 _ _ (by omega)) rfl
def Z1j (mv:List Zuc) (dn:Nat) (b:Int):Bool:=(mv.take dn).any (doP b)
def Zxs (m:Zr) (st dn:Int) (w:Nat):List Str:=Z6c (Zxb m) (Zh (Zc m st w)) (Z1j (Zg (Zc m st w)) dn.toNat) (Zeh m w (Zg (Zc m st w)) dn.toNat)
theorem Z3x (m:Zr):(Zxb m).length=m.1.toNat:=by simp [Zxb]
theorem Z0jb (l:List Zuc) (hl:l.length≤40) (b:Int) {k:Nat} (hk:100≤k):Zhq k l b=some (l.any (doP b),b):=by
 have run:=Zrh (fun j i=>Z0d.l0 j l (l.length:Int) i b) l (doP b) (.inl b) (fun i=>.inr ((i:Int),b)) (fun i hi=>⟨fun hp j=>?_,fun hp j=>?_⟩) (fun j=>?_) (k:=k) (by omega)
 ·have run:Z0d.l0 k l (l.length:Int) 0 b=_:=run
  have hany:=Zit (p:=doP b) (l:=l) (n:=0);unfold Zhq Z0d;rw [run];cases hf:Zsb (doP b) l 0 with
  | none=>
   rw [hf] at hany;rw [← hany];rfl
  | some i=>
   rw [hf] at hany;rw [← hany];simp only [Yb];rw [Xa (by omega:(0:Int)≤(i:Int))];rfl
 ·show Z0d.l0 (j+1) l _ (i:Int) b=Z0d.l0 j l _ ((i+1:Nat):Int) b
  conv=>lhs;unfold Z0d.l0
  rw [dlt hi,Zn (by omega),Xe];refine Za (Zi hi) ?_;unfold Z8o;unfold doP at hp;rw [hp];rfl
 ·show Z0d.l0 (j+1) l _ (i:Int) b=_
  conv=>lhs;unfold Z0d.l0
  rw [dlt hi,Zn (by omega),Xe];refine Za (Zi hi) ?_;unfold Z8o;unfold doP at hp;rw [hp];rfl
 ·show Z0d.l0 (j+1) l _ _ b=_
  unfold Z0d.l0;rw [Zv (Ye _)];rfl
theorem Z4kb {m:Zr} {st dn:Int} {w:Nat} (h:Sound m st dn w) (ph tr nd:Int) (dg:Str) (v:List Int) {k:Nat} (hk:1048577≤k):
  Zqe.l0 k k m.1 m.2.1 m.2.2 (Zh (Zc m st w)) ((Zh (Zc m st w)).length:Int) 0 ph tr nd st dn dg (Zxb m) v (Zb w) (Zg (Zc m st w))=some (ph,(tr,(nd,(st,(dn,(dg,(Zxs m st dn w,(v,(Zb w,Zg (Zc m st w)))))))))):=by
 have hb:=h.fit.b
 have hdn:=h.dn
 have hpl:=h.plan
 have hbl:=Z3x m
 have hll:=Ziz m st w
 have hwl:(Zh (Zc m st w)).length≤(Zc m st w).length:=Y3a _ _
 have hnd:((Zh (Zc m st w)).map fun x=>x.2.1).Nodup:=(Z7f h.code).2.2.2.2.1
 have run:=Zrb (fun j i=>Zqe.l0 k j m.1 m.2.1 m.2.2 (Zh (Zc m st w)) ((Zh (Zc m st w)).length:Int) (i:Int) ph tr nd st dn dg (Z6c (Zxb m) ((Zh (Zc m st w)).take i) (Z1j (Zg (Zc m st w)) dn.toNat) (Zeh m w (Zg (Zc m st w)) dn.toNat)) v (Zb w) (Zg (Zc m st w))) (Zh (Zc m st w)).length (ph,(tr,(nd,(st,(dn,(dg,(Zxs m st dn w,(v,(Zb w,Zg (Zc m st w)))))))))) (fun i hi j=>?_) (fun j=>?_) k (by omega)
 ·have run:Zqe.l0 k k m.1 m.2.1 m.2.2 (Zh (Zc m st w)) ((Zh (Zc m st w)).length:Int) 0 ph tr nd st dn dg (Z6c (Zxb m) [] (Z1j (Zg (Zc m st w)) dn.toNat) (Zeh m w (Zg (Zc m st w)) dn.toNat)) v (Zb w) (Zg (Zc m st w))=_:=run
  rw [Ze7] at run;exact run
 ·have hx:=Zsu h.code _ (Ym hi)
  have hto:=hx.tgt;have hv:(Z6c (Zxb m) ((Zh (Zc m st w)).take i) (Z1j (Zg (Zc m st w)) dn.toNat) (Zeh m w (Zg (Zc m st w)) dn.toNat)).length=(Zxb m).length:=Zyh _ _ _ _;have hat:=Zmo (l:=Z6c (Zxb m) ((Zh (Zc m st w)).take i) (Z1j (Zg (Zc m st w)) dn.toNat) (Zeh m w (Zg (Zc m st w)) dn.toNat)) hto.1 (by rw [hv];omega)
  have hcut:Zob (Zg (Zc m st w)) 0 dn=some ((Zg (Zc m st w)).take dn.toNat):=by
   have:=Znf (l:=Zg (Zc m st w)) (i:=0) (j:=dn.toNat) (by omega) (by omega);rw [Y9,Yia hdn.1] at this;exact this
  have hdone:Z7o k (Zh (Zc m st w))[i].2.1 (Zg (Zc m st w)) (ph,(tr,(nd,(st,(dn,(dg,(v,Zb w)))))))=some (Z1j (Zg (Zc m st w)) dn.toNat (Zh (Zc m st w))[i].2.1):=by
   unfold Z7o;exact Za hcut (Za (Z0jb _ (by rw [Yf];omega) _ (by omega)) rfl)
  conv=>lhs;unfold Zqe.l0
  rw [dlt hi,Zn (by omega),Xe];refine Za (Zi hi) (Za hdone ?_);rw [Zf7 hnd hi hto.1 (by omega)];cases hq:Z1j (Zg (Zc m st w)) dn.toNat (Zh (Zc m st w))[i].2.1 with
  | true=>rfl
  | false=>
   rw [Yra,Xe,Xd Y1];exact Za (Zzab h ph tr nd dg v hx hk) (Za hat (Za hat rfl))
 ·conv=>lhs;unfold Zqe.l0
  rw [Zv (Ye _),Yx];rfl
def Z0g (mv:List Zuc) (dn i:Nat) (b:Int):Bool:=((mv.take i).drop dn).any (doP b)
theorem Z9hb {w:List Zk} (hn:(w.map fun x=>x.2.1).Nodup) {j:Nat} (h:j<w.length):w.find? (fun x=>x.2.1==w[j].2.1)=some w[j]:=by
 cases hf:w.find? (fun x=>x.2.1==w[j].2.1) with
 | none=>exact absurd (List.find?_eq_none.1 hf _ (Ym h)) (by simp)
 | some x=>
  have hx:=List.mem_of_find?_eq_some hf;have he:x.2.1=w[j].2.1:=by simpa using List.find?_some hf
  obtain ⟨q,hq,rfl⟩:=Yw.1 hx
  have:q=j:=by
   rcases Ygb q j with c | c | c
   ·have:=Yca.1 hn q j (by rw [Yk];exact hq) (by rw [Yk];exact h) c
    rw [Yj,Yj] at this;exact absurd he this
   ·exact c
   ·have:=Yca.1 hn j q (by rw [Yk];exact h) (by rw [Yk];exact hq) c
    rw [Yj,Yj] at this;exact absurd he.symm this
  subst this;rfl
theorem Zhqb {base:List Str} {w:List Zk} {f g:Int→Bool} {mk:Zk→Str} (hn:(w.map fun x=>x.2.1).Nodup) {j:Nat} (h:j<w.length) (h0:0≤w[j].2.1) (h1:w[j].2.1<(base.length:Int)) (hg:∀b,g b=(f b||(b==w[j].2.1))):
  Z6c base w (fun b=>!(g b)) mk=(Z6c base w (fun b=>!(f b)) mk).set w[j].2.1.toNat (mk w[j]):=by
 refine Yja ?_ fun b k1 k2=>?_
 ·rw [Zyh,Y5a,Zyh]
 ·rw [Zyh] at k1
  rw [Z5q k1,List.getElem_set]
  by_cases hb:w[j].2.1=(b:Int)
  ·rw [Xc (by omega),← hb,Z9hb hn h]
   dsimp only;rw [hg,show (w[j].2.1==w[j].2.1)=true by simp,Yq,Xd (by simp)]
  ·rw [Xd (by omega),Z5q k1]
   have:((b:Int)==w[j].2.1)=false:=by simp;omega
   rw [hg,this,Y6]
theorem Zilb {mv:List Zuc} {dn i:Nat} (h:i<mv.length) (b:Int):Z0g mv dn (i+1) b=(Z0g mv dn i b||(decide (dn≤i)&&doP b mv[i])):=by
 unfold Z0g
 rw [Zai h]
 by_cases c:dn≤i
 ·rw [Xa c,Yg,List.drop_append_of_le_length (by rw [Yf];omega),List.any_append]
  simp
 ·rw [Xb c,Yfa,Y6,Yxa (by simp;omega),Yxa (by simp;omega)]
theorem Zhlb {l:List Zk} {n:Int} (h:Zdb l n=0) {dn:Nat} (hd:dn≤(Zg l).length):∀x∈Zh l,(!(Z0g (Zg l) dn (Zg l).length x.2.1))=Z1j (Zg l) dn x.2.1:=by
 intro x hx
 obtain ⟨j,hj,rfl⟩:=Yw.1 hx
 have hnd:((Zh l).map fun x=>x.2.1).Nodup:=(Z7f h).2.2.2.2.1
 have hF:=Z2z h
 obtain ⟨i,hi⟩:=hF.all j hj
 rw [Zng hj] at hi
 have only:∀(i':Nat) (m:Zuc),(Zg l)[i']? = some m→doP (Zh l)[j].2.1 m=true→i'=i:=fun i' m hm hp=>by
  unfold doP at hp;rw [Yc] at hp;have h2:m.1=2:=by simpa using hp.1
  have hb:m.2.2.1=(Zh l)[j].2.1:=by simpa using hp.2
  obtain ⟨j',hj',q | q⟩:=hF.form i' m hm
  ·rw [Zng hj'] at q
   have hb':(Zh l)[j'].2.1=(Zh l)[j].2.1:=by rw [q] at hb;exact hb
   have hjj:j'=j:=by
    rcases Ygb j' j with c | c | c
    ·have:=Yca.1 hnd j' j (by rw [Yk];exact hj') (by rw [Yk];exact hj) c
     rw [Yj,Yj] at this;exact absurd hb' this
    ·exact c
    ·have:=Yca.1 hnd j j' (by rw [Yk];exact hj) (by rw [Yk];exact hj') c
     rw [Yj,Yj] at this;exact absurd hb'.symm this
   subst hjj;exact hF.one i' i m _ hm hi h2 rfl (by rw [q])
  ·rw [q] at h2
   cases h2
 have self:doP (Zh l)[j].2.1 (2,((j:Int),((Zh l)[j].2.1,0)))=true:=by simp [doP]
 have hil:i<(Zg l).length:=(Y0a.1 hi).1
 have hie:(Zg l)[i]=(2,((j:Int),((Zh l)[j].2.1,0))):=(Y0a.1 hi).2
 have e1:Z1j (Zg l) dn (Zh l)[j].2.1=decide (i<dn):=by
  unfold Z1j
  by_cases c:i<dn
  ·rw [Xa c]
   refine Ywa.2 ⟨(Zg l)[i],?_,by rw [hie];exact self⟩;exact Yw.2 ⟨i,by rw [Yf];omega,by rw [Yy]⟩
  ·rw [Xb c]
   refine Yva.2 fun m hm hp=>?_
   obtain ⟨q,hq,rfl⟩:=Yw.1 hm;rw [Yf] at hq;rw [Yy] at hp;have:=only q _ (Yh (by omega)) hp;omega
 have e2:Z0g (Zg l) dn (Zg l).length (Zh l)[j].2.1=decide (dn≤i):=by
  unfold Z0g;rw [Yx]
  by_cases c:dn≤i
  ·rw [Xa c]
   refine Ywa.2 ⟨(Zg l)[i],?_,by rw [hie];exact self⟩;exact Yw.2 ⟨i-dn,by rw [Yaa];omega,by rw [Yka];congr 1;omega⟩
  ·rw [Xb c]
   refine Yva.2 fun m hm hp=>?_
   obtain ⟨q,hq,rfl⟩:=Yw.1 hm;rw [Yaa] at hq;rw [Yka] at hp;have:=only (dn+q) _ (Yh (by omega)) hp;omega
 rw [e1,e2]
 by_cases c:dn≤i
 ·rw [Xa c,Xb (by omega:¬i<dn)]
  rfl
 ·rw [Xb c,Xa (by omega:i<dn)]
  rfl
theorem Z6ob {m:Zr} {st dn:Int} {w:Nat} (h:Sound m st dn w) (ph tr nd:Int) (dg:Str) (v:List Int) {k:Nat} (hk:1048577≤k):
  Z1e.l0 k k m.1 m.2.1 m.2.2 ph tr nd st dn dg v (Zb w) 0 (Zg (Zc m st w)) (Zh (Zc m st w)) (Zxb m)=some (Zxs m st dn w):=by
 have hb:=h.fit.b
 have hdn:=h.dn
 have hpl:=h.plan
 have hbl:=Z3x m
 have hF:=Z2z h.code
 have hnd:((Zh (Zc m st w)).map fun x=>x.2.1).Nodup:=(Z7f h.code).2.2.2.2.1
 have run:=Zrb (fun j i=>Z1e.l0 k j m.1 m.2.1 m.2.2 ph tr nd st dn dg v (Zb w) (i:Int) (Zg (Zc m st w)) (Zh (Zc m st w)) (Z6c (Zxb m) (Zh (Zc m st w)) (fun b=>!(Z0g (Zg (Zc m st w)) dn.toNat i b)) (Zeh m w (Zg (Zc m st w)) dn.toNat))) (Zg (Zc m st w)).length (Zxs m st dn w) (fun i hi j=>?_) (fun j=>?_) k (by omega)
 ·have run:Z1e.l0 k k m.1 m.2.1 m.2.2 ph tr nd st dn dg v (Zb w) 0 (Zg (Zc m st w)) (Zh (Zc m st w)) (Z6c (Zxb m) (Zh (Zc m st w)) (fun b=>!(Z0g (Zg (Zc m st w)) dn.toNat 0 b)) (Zeh m w (Zg (Zc m st w)) dn.toNat))=_:=run
  have e:Z6c (Zxb m) (Zh (Zc m st w)) (fun b=>!(Z0g (Zg (Zc m st w)) dn.toNat 0 b)) (Zeh m w (Zg (Zc m st w)) dn.toNat)=Zxb m:=by
   refine Yja (Zyh _ _ _ _) fun b h1 h2=>?_
   rw [Z5q h2];have hz:Z0g (Zg (Zc m st w)) dn.toNat 0 (b:Int)=false:=by simp [Z0g]
   have hg:(Zxb m).getD b []=(Zxb m)[b]:=by
    rw [Yt,Yh h2];rfl
   rw [hz,hg];cases (Zh (Zc m st w)).find? (fun x=>x.2.1==(b:Int)) <;> rfl
  rw [e] at run;exact run
 ·conv=>lhs;unfold Z1e.l0
  rw [dlt hi,Zn (by omega),Xe];refine Za (Zi hi) (Za (Zi hi) ?_);dsimp only;have hstep:=Zilb (mv:=Zg (Zc m st w)) (dn:=dn.toNat) hi;obtain ⟨q,hq,hm | hm⟩:=hF.form i _ (Yh hi)
  ·rw [Zng hq] at hm
   by_cases c:dn.toNat≤i
   ·rw [hm]
    rw [show ((((2:Int),((q:Int),((Zh (Zc m st w))[q].2.1,(0:Int)))).1==2)&&decide (dn≤(i:Int)))=true by rw [Xa (by omega:dn≤(i:Int))];rfl,Xe];have hx:=Zsu h.code _ (Ym hq);have hto:=hx.tgt;have hat:at? (Zg (Zc m st w)) (i:Int)=some (2,((q:Int),((Zh (Zc m st w))[q].2.1,0))):=by rw [Zi hi,hm]
    have hv:(Z6c (Zxb m) (Zh (Zc m st w)) (fun b=>!(Z0g (Zg (Zc m st w)) dn.toNat i b)) (Zeh m w (Zg (Zc m st w)) dn.toNat)).length=(Zxb m).length:=Zyh _ _ _ _;have hat2:=Zmo (l:=Z6c (Zxb m) (Zh (Zc m st w)) (fun b=>!(Z0g (Zg (Zc m st w)) dn.toNat i b)) (Zeh m w (Zg (Zc m st w)) dn.toNat)) hto.1 (by rw [hv];omega);refine Za hat (Za hat (Za hat (Za hat ?_)));refine Za (Zi hq) (Za (Zi hq) (Za (Z7db h ph tr nd dg v hx hk) (Za hat2 (Za hat2 ?_))))
    have hset:=Zhqb (base:=Zxb m) (w:=Zh (Zc m st w)) (f:=Z0g (Zg (Zc m st w)) dn.toNat i) (g:=Z0g (Zg (Zc m st w)) dn.toNat (i+1)) (mk:=Zeh m w (Zg (Zc m st w)) dn.toNat) hnd hq hto.1 (by omega) (fun b=>by
     rw [hstep b,Xa c,Yg,hm];congr 1;unfold doP;rw [show (((2:Int),((q:Int),((Zh (Zc m st w))[q].2.1,(0:Int)))).1==2)=true from rfl,Yg];exact Bool.beq_comm)
    rw [hset]
   ·rw [show (((Zg (Zc m st w))[i].1==2)&&decide (dn≤(i:Int)))=false by rw [Xb (by omega:¬dn≤(i:Int)),Bool.and_false],Xf]
    have:(fun b=>!(Z0g (Zg (Zc m st w)) dn.toNat (i+1) b))=fun b=>!(Z0g (Zg (Zc m st w)) dn.toNat i b):=by
     funext b
     rw [hstep b,Xb c,Yfa,Y6]
    rw [this]
  ·rw [show (((Zg (Zc m st w))[i].1==2)&&decide (dn≤(i:Int)))=false by rw [hm];rfl,Xf]
   have:(fun b=>!(Z0g (Zg (Zc m st w)) dn.toNat (i+1) b))=fun b=>!(Z0g (Zg (Zc m st w)) dn.toNat i b):=by
    funext b
    rw [hstep b,hm];simp [doP]
   rw [this]
 ·have e:Z6c (Zxb m) (Zh (Zc m st w)) (fun b=>!(Z0g (Zg (Zc m st w)) dn.toNat (Zg (Zc m st w)).length b)) (Zeh m w (Zg (Zc m st w)) dn.toNat)=Zxs m st dn w:=Zgqb (Zhlb h.code (by omega)) (fun _ _=>rfl)
  conv=>lhs;unfold Z1e.l0
  rw [Zv (Ye _),e];rfl
theorem Znmb:∀a:Nat,a<256→intBits .or .u8 ((a:Nat):Int) 128=((a%128+128:Nat):Int):=by decide +kernel
theorem iput:∀(f u:Nat) (acc:List Int) (j:Nat),u<128^f→u<18446744073709551616→acc.length+f≤100→0<f→f<j+1→∃p:Int×List Int,Zfc.l1 j (u:Int) acc=some p∧p.2.length≤100∧p.2++[Ya .u8 p.1]=acc++Zkc f u
 | 0,_,_,_,_,_,_,h,_=>absurd h (by omega)
 | f+1,u,acc,0,hu,hb,hl,_,hj=>by omega
 | f+1,u,acc,j+1,hu,hb,hl,_,hj=>by
  unfold Zfc.l1
  by_cases h:128≤u
  ·have hf:0<f:=by
    rcases Nat.eq_zero_or_pos f with rfl | h'
    ·simp at hu;omega
    ·exact h'
   obtain ⟨p,e,e1,e2⟩:=iput f (u/128) (acc++[((u%128+128:Nat):Int)]) j (by rw [Yib] at hu;exact Yfb (by rw [Nat.mul_comm];exact hu)) (by omega) (by simp;omega) hf (by omega);refine ⟨p,?_,e1,?_⟩
   ·have e3:intBits .or .u8 (Ya .u8 (u:Int)) 128=((u%128+128:Nat):Int):=by
     rw [u8w,show (u:Int)%256=((u%256:Nat):Int) by omega,Znmb _ (by omega)];congr 1;omega
    have e4:shr .u64 (u:Int) 7=((u/128:Nat):Int):=Zpi .u64 u 7 (by decide);rw [Xa (by omega:(127:Int)<(u:Int)),e3,e4];simp only [Xe];rw [Z4 (by simp;omega),Z3c (by omega)];exact e
   ·rw [e2,Ys]
    simp [Zkc,h]
  ·refine ⟨((u:Int),acc),?_,by show acc.length≤100;omega,?_⟩
   ·rw [Xb (by omega:¬((127:Int)<(u:Int)))]
    rfl
   ·show acc++[Ya .u8 (u:Int)]=_
    rw [u8w,show ((u:Int)%256)=(u:Int) by omega];simp [Zkc,h]
theorem Zdmb (a:Nat) (h:a<18446744073709551616):intBits .xor .u64 (Yua .u64) (a:Int)=((18446744073709551615-a:Nat):Int):=by
 show Ya .u64 (((Ypa 64 ((18446744073709551615:Nat):Int)) ^^^ (Ypa 64 (a:Int))).toNat:Int)=_
 have e:(Yda 64 18446744073709551615)=BitVec.allOnes 64:=by decide
 rw [Yqa,Yqa,e,BitVec.allOnes_xor,BitVec.toNat_not,Y0,Zih,Yz (show a<2^64 by omega)]
 omega
theorem Z5y (n:Int) (h:Num n):Ze fun k=>Zfc k n=some (Zm n):=by
 refine Ze.ge 10 fun k hk=>?_
 have hz:=Zl7 h
 obtain ⟨p,e,e1,e2⟩:=iput 10 (zig n) [] k (by omega) hz (by simp) (by omega) (by omega)
 have hs:Zfc.j0 n (shl .u64 (Ya .u64 n) 1)=some ((zig n:Nat):Int):=by
  unfold Num at h
  have e0:shl .u64 (Ya .u64 n) 1=(2*n)%18446744073709551616:=by
   have:shl .u64 (Ya .u64 n) 1=Ya .u64 (Ya .u64 n*2):=rfl;rw [this,Zih,Zih];omega
  unfold Zfc.j0;rw [e0]
  by_cases hn:n<0
  ·rw [Xa hn,show (2*n)%18446744073709551616=((18446744073709551616+2*n).toNat:Int) by omega,Xe,Zdmb _ (by omega)]
   congr 1;unfold zig;rw [Xc hn];omega
  ·rw [Xb hn,Xf]
   congr 1;unfold zig;rw [Xd hn];omega
 unfold Zfc
 rw [Z3c (by omega),hs]
 simp only [Yb]
 rw [e]
 simp only [Yb]
 rw [Z4 (by simp;omega),e2]
 rfl
def Zbk:List Int→Str
 | []=>[]
 | n::l=>Zm n++Zbk l
theorem Zy5:∀l:List Int,(Zbk l).length≤10*l.length
 | []=>Nat.zero_le _
 | n::l=>by
  have:=Zhc n;have:=Zy5 l;simp only [Zbk,Yi,Yu];omega
theorem Z83 (l:List Int) (hw:∀n∈l,Num n) (hl:l.length≤1000000):Ze fun k=>Zxd k l=some (Zbk l):=by
 have hp:Ze fun k=>∀i,i<l.length→∀n,l[i]? = some n→Zfc k n=some (Zm n):=Ze.all fun i hi=>(Z5y l[i] (hw _ (Ym hi))).mono fun k h n hn=>by
  rw [Yh hi] at hn;cases hn;exact h
 have key:∀(d i:Nat) (acc:Str),l.length-i=d→i≤l.length→acc.length≤10*i→Ze fun k=>∀j,d<j→Zxd.l0 k j acc l (l.length:Int) (i:Int)=some (acc++Zbk (l.drop i)):=by
  intro d
  induction d with
  | zero=>
   intro i acc hd hi ha;refine Ze.of fun k j hj=>?_
   obtain ⟨j,rfl⟩:∃m,j=m+1:=⟨j-1,by omega⟩;unfold Zxd.l0;rw [Xb (by omega:¬((i:Int)<(l.length:Int))),List.drop_eq_nil_of_le (by omega)];simp only [Xf,Zbk,Y3]
  | succ d ih=>
   intro i acc hd hi ha;have hlt:i<l.length:=by omega
   have:=Zhc l[i];refine (hp.and (ih (i+1) (acc++Zm l[i]) (by omega) (by omega) (by rw [Yi];omega))).mono fun k ⟨h1,h2⟩ j hj=>?_
   obtain ⟨j,rfl⟩:∃m,j=m+1:=⟨j-1,by omega⟩;unfold Zxd.l0;rw [Xa (by omega:(i:Int)<(l.length:Int)),Zi hlt];simp only [Xe,Yb];rw [h1 i hlt _ (Yh hlt)];simp only [Yb];rw [Zvc (by omega)];simp only [Yb];rw [Zn (by omega),h2 j (by omega),List.drop_eq_getElem_cons hlt,Zbk,Ys]
 obtain ⟨K,h⟩:=key l.length 0 [] (by omega) (by omega) (by simp)
 refine Ze.ge (K+l.length+1) fun k hk=>?_
 have h:=h k (by omega) k (by omega)
 have h:Zxd.l0 k k [] l (l.length:Int) 0=some (Zbk l):=h
 unfold Zxd
 rw [h]
 rfl
theorem Z6y (s:Str) (h:s.length≤1000000):Ze fun k=>Zcj k s=some (Z3b s):=by
 refine (Z5y (s.length:Int) (by constructor <;> omega)).mono fun k e=>?_
 have:=Zhc (s.length:Int)
 unfold Zcj Z3b
 rw [e]
 simp only [Yb]
 rw [Zvc (by omega)]
 rfl
def Zrs (x:Zk):Str:=Zm x.1++Zm x.2.1++Zm x.2.2.1++Z3b x.2.2.2
def Zr1 (x:Zk):Prop:=Num x.1∧Num x.2.1∧Num x.2.2.1
theorem Zwmb (x y z:Int):Zbk [x,y,z]=Zm x++Zm y++Zm z:=by simp [Zbk]
theorem Zykb (x:Zk) (hn:Zr1 x) (h:x.2.2.2.length≤8):Ze fun k=>Zrp k x=some (Zrs x):=by
 have l1:=Zhc x.1
 have l2:=Zhc x.2.1
 have l3:=Zhc x.2.2.1
 have l4:=Zij x.2.2.2
 refine ((Z83 [x.1,x.2.1,x.2.2.1] (by
  intro n hm;simp only [Yl,Y5,or_false] at hm;rcases hm with rfl | rfl | rfl
  ·exact hn.1
  ·exact hn.2.1
  ·exact hn.2.2) (by simp)).and (Z6y x.2.2.2 (by omega))).mono fun k ⟨h1,h2⟩=>?_
 unfold Zrp Zrs
 rw [h1,h2,Zwmb]
 simp only [Yb]
 rw [Zvc (by simp;omega)]
 rfl
abbrev Zjf:=Bool×Int×Str
def Z9h:Zjf:=(true,(0,[]))
def Zrz (n:Int) (t:Str):Str:=Z4g (Zm n++Z3b t)
def Zxn (f:Z2) (t:Str):List Zjf:=if (Zlb f).1<1000000 then [(false,((if (Zlb f).2.2.2=0 then 1 else 0),Zrz ((Zlb f).1+1) t)),Z9h] else []
theorem Zpl (f:Z2) (t:Str):(Zxn f t).length≤2:=by unfold Zxn;split <;> simp
theorem Z3bb (s:Str):0≤(Zsd s).1∧(Zsd s).1≤1000000:=by
 unfold Zsd
 split
 ·split
  ·split
   ·rename_i h
    have h:=h.2;unfold Z3n at h;simp only [Yc,decide_eq_true_eq] at h;exact ⟨by show 0≤_;omega,h.1.2⟩
   ·simp
  ·simp
 ·simp
theorem Zqz (f:Z2):0≤(Zlb f).1∧(Zlb f).1≤1000000:=by
 unfold Zlb
 split
 ·exact Z3bb _
 ·split
  ·exact Z3bb _
  ·simp
theorem Zakb (n:Int) (t:Str) (hn:Num n) (ht:t.length≤80):Ze fun k=>Zun k n t=some (Zrz n t):=by
 have l1:=Zhc n
 have l4:=Zij t
 refine (((Z5y n hn).and (Z6y t (by omega))).and (Z7y (Zm n++Z3b t) (by simp;omega))).mono fun k ⟨⟨a,b⟩,c⟩=>?_
 unfold Zun
 exact Za a (Za b (Za (Zvc (by omega)) (Za c rfl)))
theorem Z9jb {f:Z2} (h:Z9f f=true) (h2:2≤f.1.length) (t:Str) (ht:t.length≤80):Ze fun k=>Zjp k f t=some (Zxn f t):=by
 have hg:=Zqz f
 refine ((Z63 h h2).and (Zakb ((Zlb f).1+1) t (by constructor <;> omega) ht)).mono fun k ⟨a,b⟩=>?_
 unfold Zjp Zxn
 refine Za a ?_
 dsimp only
 rw [w64 (n:=(Zlb f).1+1) (by omega) (by omega)]
 by_cases c:(Zlb f).1<1000000
 ·rw [Xc c,Xb (by omega:¬((1000000:Int)<(Zlb f).1+1)),Xf]
  by_cases d:(Zlb f).2.2.2=0
  ·rw [Xc d,show ((Zlb f).2.2.2==0)=true by simpa using d,Xe]
   exact Za b rfl
  ·rw [Xd d,show ((Zlb f).2.2.2==0)=false by simpa using d,Xf]
   exact Za b rfl
 ·rw [Xd c,Xa (by omega:(1000000:Int)<(Zlb f).1+1)]
  rfl
theorem Zgob {f:Z2} (h:Z9f f=true) (h2:2≤f.1.length) (t:Str) (ht:t.length≤80):Ze fun k=>Zuq k f t=some (Zxn f t):=by
 have hg:=Zqz f
 refine ((Zw0 h h2).and (Z8db ((Zlb f).1+1) t (by constructor <;> omega) (by omega))).mono fun k ⟨a,b⟩=>?_
 unfold Zuq Zxn
 refine Za a ?_
 dsimp only
 by_cases c:(Zlb f).1<1000000
 ·have hm:Z3n ((Zlb f).1+1) t=true:=by
   unfold Z3n;rw [Xa (by omega:1≤(Zlb f).1+1),Xa (by omega:(Zlb f).1+1≤1000000),Xa ht];rfl
  rw [hm,Xc rfl] at b;rw [Xc c,Xb (by omega:¬((1000000:Int)≤(Zlb f).1)),Xf,w64 (n:=(Zlb f).1+1) (by omega) (by omega)]
  by_cases d:(Zlb f).2.2.2=0
  ·rw [Xc d,show ((Zlb f).2.2.2 != 0)=false by simpa using d,Xf]
   exact Za b rfl
  ·rw [Xd d,show ((Zlb f).2.2.2 != 0)=true by simpa using d,Xe]
   exact Za b rfl
 ·rw [Xd c,Xa (by omega:(1000000:Int)≤(Zlb f).1)]
  rfl
theorem Zyy:∀(f u b:Nat),u<128^b→0<b→(Zkc f u).length≤b
 | 0,_,_,_,_=>by simp [Zkc]
 | f+1,u,b,h,hb=>by
  unfold Zkc;split
  ·rename_i h8
   obtain ⟨b,rfl⟩:∃q,b=q+1:=⟨b-1,by omega⟩;cases b with
   | zero=>simp at h;omega
   | succ b=>
    have:=Zyy f (u/128) (b+1) (by rw [Yib] at h;exact Yfb (by omega)) (by omega);simp only [Yu];omega
  ·simp;omega
theorem Zow {n:Int} (h0:0≤n) (h:n<64):(Zm n).length≤1:=by
 unfold Zm
 rw [Zyk]
 refine Zyy 10 _ 1 ?_ (by omega)
 unfold zig
 rw [Xd (by omega)]
 omega
theorem Zucb {n:Nat} (h:n<16777216):(Zm (n:Int)).length≤4:=by
 unfold Zm
 rw [Zyk]
 refine Zyy 10 _ 4 ?_ (by omega)
 unfold zig
 rw [Xd (by omega)]
 omega
structure Keep (a b c d e:Int) (x:Str) (v w:Nat):Prop where
 a:0≤a∧a<64
 b:0≤b∧b<64
 c:0≤c∧c<64
 d:0≤d∧d<64
 e:0≤e∧e<64
 x:x.length≤32
 v:v<16777216
 w:w<16777216
theorem Z1m {n:Int} (h:0≤n∧n<64):Num n:=by constructor <;> omega
theorem Keep.len {a b c d e:Int} {x:Str} {v w:Nat} (h:Keep a b c d e x v w):(Z9d (a,b,c,d,e,(v:Int),(w:Int),x)).length≤80:=by
 have h1:=Zow h.a.1 h.a.2
 have h2:=Zow h.b.1 h.b.2
 have h3:=Zow h.c.1 h.c.2
 have h4:=Zow h.d.1 h.d.2
 have h5:=Zow h.e.1 h.e.2
 have h6:=Zucb h.v
 have h7:=Zucb h.w
 have h8:=Zij x
 have hx:=h.x
 unfold Z9d
 simp only [Yi]
 omega
theorem Zukb {a b c d e:Int} {x:Str} {v w:Nat} (h:Keep a b c d e x v w):Ze fun k=>Zvn k (stT a b c d e x v w)=some (Z9d (a,b,c,d,e,(v:Int),(w:Int),x)):=by
 have hx:=h.x
 have hp:=Zy5 [a,b,c,d,e,(v:Int),(w:Int)]
 simp only [Yu,Yla] at hp
 have h8:=Zij x
 refine (((Z83 [a,b,c,d,e,(v:Int),(w:Int)] (fun n hn=>?_) (by simp)).and (Z6y x (by omega))).and (Ze.ge 100 fun k hk=>hk)).mono fun k ⟨⟨q1,q2⟩,hk⟩=>?_
 ·simp only [Yl,Y5,or_false] at hn
  rcases hn with rfl | rfl | rfl | rfl | rfl | rfl | rfl
  ·exact Z1m h.a
  ·exact Z1m h.b
  ·exact Z1m h.c
  ·exact Z1m h.d
  ·exact Z1m h.e
  ·exact Z3t h.v
  ·exact Z3t h.w
 ·unfold Zvn stT
  refine Za (Z0o v h.v k (by omega)) (Za (Z0o w h.w k (by omega)) (Za q1 (Za q2 (Za (Zvc (by omega)) ?_))));unfold Z9d;simp only [Zbk,Ys,Y3]
def Zie (f:Z2) (a b c d e:Int) (x:Str) (v w:Nat):List Zjf:=Zxn f (Z9d (a,b,c,d,e,(v:Int),(w:Int),x))
theorem Z4j {m:Zr} (hf:Z9f m.2=true) (h2:2≤m.2.1.length) {a b c d e:Int} {x:Str} {v w:Nat} (h:Keep a b c d e x v w):Ze fun k=>Zfe k m (a,b,c,d,e,x,Zb v,Zb w)=some (Zie m.2 a b c d e x v w):=by
 refine ((Zukb h).and (Z9jb hf h2 _ h.len)).mono fun k ⟨q1,q2⟩=>?_
 have q1:Zvn k (a,b,c,d,e,x,Zb v,Zb w)=_:=q1
 unfold Zfe
 exact Za q1 (Za q2 rfl)
theorem Zgk {m:Zr} (hf:Z9f m.2=true) (h2:2≤m.2.1.length) {a b c d e:Int} {x:Str} {v w:Nat} (h:Keep a b c d e x v w):Ze fun k=>Z0e k m (a,b,c,d,e,x,Zb v,Zb w)=some (Zie m.2 a b c d e x v w):=by
 have hx:=h.x
 refine ((sL12 a b c d e x v w (Z1m h.a) (Z1m h.b) (Z1m h.c) (Z1m h.d) (Z1m h.e) h.v h.w (by omega)).and (Zgob hf h2 _ h.len)).mono fun k ⟨q1,q2⟩=>?_
 have q1:Z3l k (a,b,c,d,e,x,Zb v,Zb w)=_:=q1
 unfold Z0e
 exact Za q1 (Za q2 rfl)
def Zul (n a:Int) (t:Str):Str:=Zm n++Zm a++Z3b t
def Zak (n a:Int) (t:Str):Str:=Z4g (Zul n a t)
def Zzm (n a:Int) (t:Str):Bool:=(decide (0≤n)&&decide (n≤1000000))&&((decide (0≤a)&&decide (a≤39))&&decide (t.length=8))
theorem Ziw {n a:Int} {t:Str}:Zzm n a t=true ↔ (0≤n∧n≤1000000)∧(0≤a∧a≤39)∧t.length=8:=by
 unfold Zzm
 simp only [Yc,decide_eq_true_eq]
theorem Zbcb (n a:Int) (t:Str):(Zul n a t).length≤30+t.length:=by
 have:=Zhc n
 have:=Zhc a
 have:=Zij t
 unfold Zul
 simp only [Yi]
 omega
theorem Zdkb (n a:Int) (t:Str) (hn:Num n) (ha:Num a) (ht:t.length≤8000):Ze fun k=>Zkp k n a t=some (Zak n a t):=by
 have l:=Zbcb n a t
 have hp:=Zy5 [n,a]
 simp only [Yu,Yla] at hp
 have h4:=Zij t
 refine (((Z83 [n,a] (fun z hz=>?_) (by simp)).and (Z6y t (by omega))).and (Z7y (Zul n a t) (by omega))).mono fun k ⟨⟨q1,q2⟩,q3⟩=>?_
 ·simp only [Yl,Y5,or_false] at hz
  rcases hz with rfl | rfl
  ·exact hn
  ·exact ha
 ·have e:Zbk [n,a]++Z3b t=Zul n a t:=by simp only [Zbk,Zul,Ys,Y3]
  unfold Zkp;refine Za q1 (Za q2 (Za (Zvc (by omega)) ?_));rw [e];exact Za q3 rfl
theorem Zaeb (n a:Int) (t:Str) (hn:Num n) (ha:Num a) (ht:t.length≤8000):Ze fun k=>Z0l k n a t=some (if Zzm n a t=true then Zak n a t else []):=by
 have W1:Zfb n 0 1000000=some (decide (0≤n)&&decide (n≤1000000)):=rfl
 have W2:Zfb a 0 39=some (decide (0≤a)&&decide (a≤39)):=rfl
 have l1:=Zhc n
 have l2:=Zhc a
 have l4:=Zij t
 by_cases hB:Zzm n a t=true
 ·obtain ⟨h1,h2,h3⟩:=Ziw.1 hB
  have l:=Zbcb n a t;refine ((((Zyi n hn).and (Zyi a ha)).and (Zy0 t ht)).and (Zk6 (Zul n a t) (by omega))).mono fun k ⟨⟨⟨q1,q2⟩,q3⟩,q4⟩=>?_
  rw [Xc hB];unfold Z0l;refine Za W1 ?_;rw [Xa h1.1,Xa h1.2,Yea,Yo,Xf];refine Za W2 ?_;rw [Xa h2.1,Xa h2.2,show (((t.length:Nat):Int) != 8)=false by rw [h3];rfl,Yea,Yo,Bool.or_self,Xf];refine Za q1 (Za q2 (Za (Zvc (by omega)) (Za q3 (Za (Zvc (by simp;omega)) (Za q4 rfl)))))
 ·refine Ze.of fun k=>?_
  rw [Xd hB];unfold Zzm at hB;unfold Z0l;refine Za W1 ?_;cases c1:decide (0≤n)&&decide (n≤1000000) with
  | false=>rfl
  | true=>
   rw [Yo,Xf];refine Za W2 ?_;rw [c1,Yg] at hB
   have:(!(decide (0≤a)&&decide (a≤39))||(((t.length:Nat):Int) != 8))=true:=by
    cases c2:decide (0≤a)&&decide (a≤39) with
    | false=>rfl
    | true=>
     rw [c2,Yg] at hB;have h8:t.length≠8:=fun q=>hB (Xa q)
     simp;omega
   rw [this];rfl
def Z0m (s:Str):Option ((Int×Int×Str)×Nat):=(Zpb s 0).bind fun x=>(Zpb s x.2).bind fun y=>(Zug s y.2).map fun t=>((x.1,(y.1,t.1)),t.2)
theorem Zgmb {s:Str} {n a:Int} {t:Str} {d:Nat} (h:Z0m s=some ((n,(a,t)),d)):Num n∧Num a∧t.length≤8000∧(Zul n a t=s ↔ d=s.length):=by
 unfold Z0m at h
 obtain ⟨⟨n1,a1⟩,h1,h⟩:=Ylb.1 h
 obtain ⟨⟨n2,a2⟩,h2,h⟩:=Ylb.1 h
 obtain ⟨⟨t',d'⟩,h8,h⟩:=Option.map_eq_some_iff.1 h
 simp only [Prod.mk.injEq] at h
 obtain ⟨⟨x1,x2,x3⟩,x4⟩:=h
 replace x1:=x1.symm
 replace x2:=x2.symm
 replace x3:=x3.symm
 replace x4:=x4.symm
 subst x1 x2 x3 x4
 have g1:=Zwi h1
 have g2:=Zwi h2
 have g3:=Z66 h8
 refine ⟨g1.range,g2.range,g3.size,?_⟩
 have e0:s=Zm n++(Zm a++(Z3b t++s.drop d)):=by
  have q:=g1.eq;rw [Y9,g2.eq,g3.eq] at q;exact q
 have p1:=g1.at'
 have p2:=g2.at'
 have p3:=g3.at'
 dsimp only at p1 p2 p3
 constructor
 ·intro q
  have hl:=congrArg List.length q;unfold Zul at hl;simp only [Yi] at hl;omega
 ·intro q
  rw [q,List.drop_length,Y3] at e0;unfold Zul;rw [Ys];exact e0.symm
theorem Zhmb:Z0m []=none:=rfl
def Zt1 (s:Str) (v4 v5:Int×Str×Int×Bool) (v6:Str×Str×Int×Bool):Prop:=(∃n a t,∃d:Nat,Z0m s=some ((n,(a,t)),d)∧v4.1=n∧v5.1=a∧v6=(t,(s,((d:Int),false))))∨(Z0m s=none∧v6.2.2.2=true)
theorem Zbdb {s:Str} {v4 v5:Int×Str×Int×Bool} {v6:Str×Str×Int×Bool} (h4:StS s v4.2 (Zd s (some 0))) (g4:∀a n a',(some 0:Option Nat)=some a→Zpb s a=some (n,a')→v4.1=n)
  (h5:StS s v5.2 (Zd s (Zd s (some 0)))) (g5:∀a n a',Zd s (some 0)=some a→Zpb s a=some (n,a')→v5.1=n) (h6:StS s v6.2 (Zcb s (Zd s (Zd s (some 0))))) (g6:∀a n a',Zd s (Zd s (some 0))=some a→Zug s a=some (n,a')→v6.1=n):Zt1 s v4 v5 v6:=by
 have bad:StS s v6.2 none→v6.2.2.2=true:=fun h=>h.2.choose_spec.2.2
 cases x1:Zpb s 0 with
 | none=>
  refine .inr ⟨by simp [Z0m,x1],bad ?_⟩;have:Zcb s (Zd s (Zd s (some 0)))=none:=by simp [Zd,Zcb,x1]
  rwa [this] at h6
 | some y1=>
  obtain ⟨n1,a1⟩:=y1;have p1:Zd s (some 0)=some a1:=by simp [Zd,x1]
  cases x2:Zpb s a1 with
  | none=>
   refine .inr ⟨by simp [Z0m,x1,x2],bad ?_⟩;have:Zcb s (Zd s (Zd s (some 0)))=none:=by simp [Zd,Zcb,x1,x2]
   rwa [this] at h6
  | some y2=>
   obtain ⟨n2,a2⟩:=y2;have p2:Zd s (Zd s (some 0))=some a2:=by simp [Zd,x1,x2]
   cases x3:Zug s a2 with
   | none=>
    refine .inr ⟨by simp [Z0m,x1,x2,x3],bad ?_⟩;have:Zcb s (Zd s (Zd s (some 0)))=none:=by simp [Zd,Zcb,x1,x2,x3]
    rwa [this] at h6
   | some y3=>
    obtain ⟨t,d⟩:=y3;have p3:Zcb s (Zd s (Zd s (some 0)))=some d:=by simp [Zd,Zcb,x1,x2,x3]
    refine .inl ⟨n1,n2,t,d,by simp [Z0m,x1,x2,x3],g4 _ _ _ rfl x1,g5 _ _ _ p1 x2,?_⟩;have r6:=g6 _ _ _ p2 x3;rw [p3] at h6;rcases h6.form with ⟨b,e,_,q⟩ | ⟨b,e,_,q⟩
    ·cases e
     rw [← r6,← q]
    ·cases e
theorem Z3eb (s:Str):StS s (s,(((0:Nat):Int),false)) (some 0):=⟨rfl,0,rfl,by omega,rfl,rfl⟩
theorem Zikb (s:Str) (hs:s.length≤8000):∃v4 v5 v6,(Ze fun k=>Zgc k (s,(0,false))=some v4∧Zgc k v4.2=some v5∧Zyg k v5.2=some v6)∧Zt1 s v4 v5 v6:=by
 obtain ⟨v4,q4,h4,g4⟩:=Z5j hs (Z3eb s)
 obtain ⟨v5,q5,h5,g5⟩:=Z5j hs h4
 obtain ⟨v6,q6,h6,g6⟩:=Z93 hs h5
 exact ⟨v4,v5,v6,((q4.and q5).and q6).mono fun k h=>⟨h.1.1,h.1.2,h.2⟩,Zbdb h4 g4 h5 g5 h6 g6⟩
theorem Zmob (s:Str) (hs:s.length≤8000):∃v4 v5 v6,(Ze fun k=>Zdc k (s,(0,false))=some v4∧Zdc k v4.2=some v5∧Zwh k v5.2=some v6)∧Zt1 s v4 v5 v6:=by
 obtain ⟨v4,q4,h4,g4⟩:=Z3m hs (Z3eb s)
 obtain ⟨v5,q5,h5,g5⟩:=Z3m hs h4
 obtain ⟨v6,q6,h6,g6⟩:=Zieb hs h5
 exact ⟨v4,v5,v6,((q4.and q5).and q6).mono fun k h=>⟨h.1.1,h.1.2,h.2⟩,Zbdb h4 g4 h5 g5 h6 g6⟩
def Zjd (s:Str) (n:Int):Zjf:=if (Zyc s).2=0 then match Z0m (Zl s) with
  | some ((n',(a,t)),d)=>if (d=(Zl s).length∧n'=n)∧Zzm n a t=true then (false,(a,t)) else Z9h
  | none=>Z9h
 else Z9h
theorem Ze5 (s:Str) (n:Int) (h:(Zjd s n).1=false):0≤(Zjd s n).2.1∧(Zjd s n).2.1≤39:=by
 unfold Zjd at h ⊢
 split at h
 ·rename_i q
  rw [Xc q];split at h
  ·split at h
   ·rename_i q2
    rw [Xc q2];exact (Ziw.1 q2.2).2.1
   ·cases h
  ·cases h
 ·cases h
theorem Zekb (s:Str) (hs:s.length≤8000) (n:Int):Ze fun k=>Zlp k s n=some (Zjd s n):=by
 have hl:=Zpfb s
 obtain ⟨v4,v5,v6,hE,h3⟩:=Zikb (Zyc s).1 (by omega)
 refine ((Zot s (by omega)).and hE).mono fun k ⟨u,q4,q5,q6⟩=>?_
 have hT:Zli n=some (decide (0≤n)&&decide (n≤1000000)):=rfl
 unfold Zlp Zjd
 refine Za u (Za q4 (Za q5 (Za q6 ?_)))
 by_cases hu:(Zyc s).2=0
 ·obtain ⟨e1,e2,_⟩:=Zru hu
  have e0:(Zyc s).1=Zl s:=by rw [e1]
  rw [Xc hu,show ((Zyc s).2 != 0)=false by simpa using hu,e0];rw [e0] at h3;rcases h3 with ⟨n',a,t,d,hz,h4,h5,h6⟩ | ⟨hz,hb⟩
  ·rw [hz,h6,h4]
   dsimp only;have hW:Zhb v5.1 0 39=some (decide (0≤v5.1)&&decide (v5.1≤39)):=rfl;rw [h5] at hW ⊢
   by_cases cd:d=(Zl s).length
   ·by_cases cn:n'=n
    ·rw [show ((((false||false)||(((d:Nat):Int) != ((Zl s).length:Int))))||(n' != n))=false by rw [cd,cn];simp,Xf]
     refine Za hT ?_;unfold Zzm;cases c1:decide (0≤n)&&decide (n≤1000000) with
     | false=>
      rw [Xd (fun q=>by cases q.2)];rfl
     | true=>
      rw [Yo,Xf];refine Za hW ?_;cases c2:decide (0≤a)&&decide (a≤39) with
      | false=>
       rw [Xd (fun q=>by cases q.2)];rfl
      | true=>
       by_cases c8:t.length=8
       ·rw [Xc ⟨⟨cd,cn⟩,by rw [Xa c8];rfl⟩,show (((t.length:Nat):Int) != 8)=false by rw [c8];rfl]
        rfl
       ·rw [Xd (fun q=>by rw [Xb c8] at q;cases q.2),show (((t.length:Nat):Int) != 8)=true by simp;omega]
        rfl
    ·rw [Xd (fun q=>cn q.1.2),show (n' != n)=true by simpa using cn,Yq]
     rfl
   ·rw [Xd (fun q=>cd q.1.1),show (((d:Nat):Int) != ((Zl s).length:Int))=true by simp;omega]
    simp only [Yq,Yha,Xe];rfl
  ·rw [hz,hb]
   simp only [Yq,Yha,Xe];rfl
 ·rw [Xd hu,show ((Zyc s).2 != 0)=true by simpa using hu]
  simp only [Yha,Xe];rfl
theorem Ziob (s:Str) (hs:s.length≤8000) (n:Int):Ze fun k=>Z7m k s n=some (Zjd s n):=by
 have hl:=Zpfb s
 obtain ⟨v4,v5,v6,hE,h3⟩:=Zmob (Zyc s).1 (by omega)
 by_cases hu:(Zyc s).2=0
 ·obtain ⟨e1,e2,e3⟩:=Zru hu
  have e0:(Zyc s).1=Zl s:=by rw [e1]
  rw [e0] at h3;rcases h3 with ⟨n',a,t,d,hz,h4,h5,h6⟩ | ⟨hz,hb⟩
  ·obtain ⟨r1,r2,r3,r4⟩:=Zgmb hz
   refine (((Zyl s hs).and hE).and (Zaeb n' a t r1 r2 r3)).mono fun k ⟨⟨u,q4,q5,q6⟩,q7⟩=>?_
   unfold Z7m Zjd;refine Za u (Za q4 (Za q5 (Za q6 ?_)));rw [Xc hu,hz,h6,h4,h5];dsimp only;rw [show (false||(s==[]))=false by cases s with | nil=>simp at e3 | cons _ _=>rfl,Xf];refine Za q7 ?_
   by_cases cn:n'=n
   ·subst cn
    rw [show (n' != n')=false by simp,Y6]
    by_cases cB:Zzm n' a t=true
    ·rw [Xc cB]
     by_cases cd:d=(Zl s).length
     ·have:Zak n' a t=s:=by
       unfold Zak;rw [r4.2 cd,e2]
      rw [Xc ⟨⟨cd,rfl⟩,cB⟩,this,show (s==s)=true by simp];rfl
     ·have:Zak n' a t≠s:=fun q=>by
       unfold Zak at q;rw [← e2] at q;exact cd (r4.1 (Zpeb.1 q))
      rw [Xd (fun q=>cd q.1.1),show (Zak n' a t==s)=false by simpa using this];rfl
    ·rw [Xd cB,Xd (fun q=>cB q.2),show (([]:Str)==s)=false by cases s with | nil=>simp at e3 | cons _ _=>rfl]
     rfl
   ·rw [show (n' != n)=true by simpa using cn,Yq,Xd (fun (q:(d=(Zl s).length∧n'=n)∧Zzm n a t=true)=>cn q.1.2)]
    rfl
  ·refine ((Zyl s hs).and hE).mono fun k ⟨u,q4,q5,q6⟩=>?_
   unfold Z7m Zjd;refine Za u (Za q4 (Za q5 (Za q6 ?_)));rw [Xc hu,hz,hb];rfl
 ·have e0:=Zbqb hu
  rw [e0] at h3;rcases h3 with ⟨n',a,t,d,hz,_⟩ | ⟨hz,hb⟩
  ·rw [Zhmb] at hz
   cases hz
  ·refine ((Zyl s hs).and hE).mono fun k ⟨u,q4,q5,q6⟩=>?_
   unfold Z7m Zjd;refine Za u (Za q4 (Za q5 (Za q6 ?_)));rw [Xd hu,hb];rfl
structure MS0 (m:Zr) (ph tr nd st dn:Int) (dg:Str) (v w:Nat):Prop where
 fit:Fit m st w
 hph:1≤ph∧ph≤5
 sb:Zxh ph tr nd st dn dg v w=true
 hv:v<16777216
 hw:w<16777216
structure MSt (m:Zr) (ph tr nd st dn:Int) (dg:Str) (v w:Nat):Prop extends MS0 m ph tr nd st dn dg v w where
 img:Zki (Zxb m)=true
 snd:3≤ph→Sound m st dn w
theorem Z84 {m:Zr} {ph tr nd st dn:Int} {dg:Str} {v w:Nat} (hs:stM m=some (ph,(tr,(nd,(st,(dn,(dg,(v,w)))))))):MS0 m ph tr nd st dn dg v w:=by
 obtain ⟨h1,h2,h3⟩:=Z90 hs
 have hvw:v<16777216∧w<16777216:=by
  unfold stM at hs;split at hs
  ·split at hs
   ·exact (Z4eb hs).2
   ·cases hs
  ·cases hs
 exact ⟨h1,h2,h3,hvw.1,hvw.2⟩
theorem Z94 {m:Zr} {ph tr nd st dn:Int} {dg:Str} {v w:Nat} (hs:stM m=some (ph,(tr,(nd,(st,(dn,(dg,(v,w)))))))) (hm:Zsh m=true):MSt m ph tr nd st dn dg v w:=by
 have h0:=Z84 hs
 obtain ⟨h1,h2,h3⟩:=Z90 hs
 unfold Zsh at hm
 rw [hs] at hm
 dsimp only at hm
 rw [Yc,Yta] at hm
 refine ⟨h0,hm.1,fun hp=>?_⟩
 rcases hm.2 with q | q
 ·have:=of_decide_eq_true q
  omega
 ·unfold Zax at q
  rw [Yc,Yc,decide_eq_true_eq,decide_eq_true_eq,decide_eq_true_eq] at q;refine ⟨h1,q.1,q.2.1,?_,q.2.2⟩;unfold Zxh at h3;have h3:=((Yc _ _).mp ((Yc _ _).mp h3).2).2;rw [Xd (by omega)] at h3;have h3:=of_decide_eq_true h3;omega
def Zyn (l:List Zk):Nat→Int
 | 0=>0
 | i+1=>if (wAt l i).1=5 then (i:Int)+1 else Zyn l i
def Zdh (l:List Zk):Int:=Zyn l l.length
theorem Zg4 (l:List Zk):∀i,0≤Zyn l i∧Zyn l i≤(i:Int)
 | 0=>⟨Y7 _,Y7 _⟩
 | i+1=>by
  have:=Zg4 l i;unfold Zyn;split <;> omega
theorem Zyab (l:List Zk) (hl:l.length≤20) {k:Nat} (hk:100≤k):Zge k l=some (Zdh l):=by
 have run:=Zrb (fun j i=>Zge.l0 j (Zyn l i) l (l.length:Int) (i:Int)) l.length (Zdh l) (fun i hi j=>?_) (fun j=>?_) k (by omega)
 ·have run:Zge.l0 k 0 l (l.length:Int) 0=some (Zdh l):=run
  unfold Zge;exact Za run rfl
 ·conv=>lhs;unfold Zge.l0
  rw [dlt hi,Zn (by omega),Xe];refine Za (Zi hi) ?_;dsimp only;rw [Zyn,Zng hi]
  by_cases c:l[i].1=5
  ·rw [Xc c,show (l[i].1==5)=true by simpa using c,Xe]
   rfl
  ·rw [Xd c,show (l[i].1==5)=false by simpa using c,Xf]
 ·conv=>lhs;unfold Zge.l0
  rw [Zv (Ye _)];rfl
theorem Z5db (l:List Zk) (hl:l.length≤20) {k:Nat} (hk:100≤k):Zke k l=some (Zdh l):=by
 have run:=Zrb (fun j i=>Zke.l0 j l (Zyn l i) (i:Int)) l.length (Zdh l) (fun i hi j=>?_) (fun j=>?_) k (by omega)
 ·have run:Zke.l0 k l 0 0=some (Zdh l):=run
  unfold Zke;exact Za run rfl
 ·conv=>lhs;unfold Zke.l0
  rw [dlt hi,Zn (by omega),Xa (by omega:(l.length:Int)≤20),Yea,Xe];refine Za (Zi hi) ?_;dsimp only;rw [Zyn,Zng hi]
  by_cases c:l[i].1=5
  ·rw [Xc c,show (l[i].1==5)=true by simpa using c,Xe]
   rfl
  ·rw [Xd c,show (l[i].1==5)=false by simpa using c,Xf]
 ·conv=>lhs;unfold Zke.l0
  rw [Zv (Ye _)];rfl
def Zxr (m:Zr) (x:Int):Bool:=!(Zz m.2 (3+m.1+x)==[])
def Z4e (m:Zr) (l:List Int):List Zjf:=(l.filter (Zxr m)).map fun x=>(false,(3+m.1+x,[]))
theorem Z49 {m:Zr} {l:List Int} {i:Nat} (h:i<l.length):Z4e m (l.take (i+1))=if Zxr m l[i]=true then Z4e m (l.take i)++[(false,(3+m.1+l[i],[]))] else Z4e m (l.take i):=by
 unfold Z4e
 rw [Zai h,List.filter_append]
 cases hp:Zxr m l[i] with
 | true=>rw [Xc rfl,List.filter_cons_of_pos hp,List.map_append];rfl
 | false=>rw [Xd Y1,List.filter_cons_of_neg (by rw [hp];exact Y1)];simp
theorem Znv (m:Zr) (l:List Int):(Z4e m l).length≤l.length:=by
 unfold Z4e
 rw [Yk]
 exact Y3a _ _
def Z4p (m:Zr) (l:List Int):List Zjf:=if Z4e m l=[] then [] else Z4e m l++[Z9h]
section
variable {m:Zr} {ph tr nd st dn:Int} {dg:Str} {v w:Nat}
theorem MS0.idle (h:MS0 m ph tr nd st dn dg v w) (h1:ph=1):tr=0∧nd=0∧st=0∧dn=0∧dg=[]∧(Zb w).length=0:=by
 have q:=h.sb
 unfold Zxh at q
 have q:=((Yc _ _).mp ((Yc _ _).mp q).2).2
 rw [Xc h1] at q
 exact of_decide_eq_true q
theorem MS0.busy (h:MS0 m ph tr nd st dn dg v w) (h1:ph≠1):(1≤nd∧nd≤20)∧(0≤st∧st≤4)∧((Zb w).length:Int)=nd+st∧dg.length=32∧(0≤tr∧tr≤2)∧(0≤dn∧dn≤40)∧(tr=0∨ph=4)∧(dn=0∨ph=5):=by
 have q:=h.sb
 unfold Zxh at q
 have q:=((Yc _ _).mp ((Yc _ _).mp q).2).2
 rw [Xd h1] at q
 exact of_decide_eq_true q
theorem MS0.apart (h:MS0 m ph tr nd st dn dg v w):v &&& w=0:=by
 have q:=h.sb
 unfold Zxh at q
 exact of_decide_eq_true ((Yc _ _).mp ((Yc _ _).mp q).2).1
theorem MS0.keep (h:MS0 m ph tr nd st dn dg v w):Keep ph tr nd st dn dg v w:=by
 have hp:=h.hph
 by_cases c:ph=1
 ·obtain ⟨q1,q2,q3,q4,q5,q6⟩:=h.idle c
  exact ⟨by omega,by omega,by omega,by omega,by omega,by rw [q5];simp,h.hv,h.hw⟩
 ·obtain ⟨q1,q2,q3,q4,q5,q6,q7,q8⟩:=h.busy c
  exact ⟨by omega,by omega,by omega,by omega,by omega,by omega,h.hv,h.hw⟩
theorem Zvm (hv:v<16777216):Keep 1 0 0 0 0 [] v 0:=⟨by omega,by omega,by omega,by omega,by omega,by simp,hv,by omega⟩
theorem MS0.log (h:MS0 m ph tr nd st dn dg v w):((Zc m st w).length:Int)≤nd∧(Zc m st w).length≤20∧0≤st∧st+((Zc m st w).length:Int)≤((Zb w).length:Int):=by
 have hl:(Zc m st w).length≤(Z4i m st w).length:=Zp6 _ _
 have ha:(Z4i m st w).length=(Zb w).length-st.toNat:=by unfold Z4i;simp
 have hs:=h.fit.s
 by_cases c:ph=1
 ·obtain ⟨q1,q2,q3,q4,q5,q6⟩:=h.idle c
  omega
 ·obtain ⟨q1,q2,q3,q4,q5,q6,q7,q8⟩:=h.busy c
  omega
theorem MS0.two (h:MS0 m ph tr nd st dn dg v w):2≤m.2.1.length:=by
 have:=h.fit.n
 have:=h.fit.b
 omega
theorem Z3y (v:Nat) (ph tr nd st dn:Int) (dg:Str) (x:List Int):Zej (ph,(tr,(nd,(st,(dn,(dg,(Zb v,x)))))))=some (1,(0,(0,(0,(0,([],(Zb v,Zb 0))))))):=by
 have:=Z7c v
 have hc:Zoj (Zb v)=some (Zb v):=by
  unfold Zoj;exact Za (Z4 (by simp;omega)) rfl
 unfold Zej
 refine Za hc ?_
 rw [Zer]
theorem Zu0 (v:Nat) (ph tr nd st dn:Int) (dg:Str) (x:List Int):Zsj (ph,(tr,(nd,(st,(dn,(dg,(Zb v,x)))))))=some (1,(0,(0,(0,(0,([],(Zb v,Zb 0))))))):=by
 have:=Z7c v
 have hc:Zs 8 ([]:List Int) (Zb v)=some (Zb v):=Z4 (by simp;omega)
 unfold Zsj
 refine Za hc ?_
 rw [Zer]
theorem Z7n (v w:Nat) (ph tr nd st dn:Int) (dg:Str):Zrj (ph,(tr,(nd,(st,(dn,(dg,(Zb v,Zb w)))))))=some (ph,(tr,(nd,(st,(dn,(dg,(Zb v,Zb w))))))):=by
 have:=Z7c v
 have:=Z7c w
 have hc:Zs 8 ([]:List Int) (Zb v)=some (Zb v):=Z4 (by simp;omega)
 have hd:Zs 8 ([]:List Int) (Zb w)=some (Zb w):=Z4 (by simp;omega)
 unfold Zrj
 exact Za hc (Za hd rfl)
theorem Z1jb (h:Fit m st w) (l:List Int) (hl:l.length≤24) (hx:∀x∈l,0≤x∧x≤23) {k:Nat} (hk:1048577≤k):Zqd.l0 k k l (l.length:Int) 0 m.1 m.2.1 m.2.2 []=some (m.1,(m.2.1,(m.2.2,Z4e m l))):=by
 have run:=Zrb (fun j i=>Zqd.l0 k j l (l.length:Int) (i:Int) m.1 m.2.1 m.2.2 (Z4e m (l.take i))) l.length (m.1,(m.2.1,(m.2.2,Z4e m l))) (fun i hi j=>?_) (fun j=>?_) k (by omega)
 ·exact run
 ·have hr:=hx _ (Ym hi)
  have he:=Znv m (l.take i);rw [Yf] at he
  conv=>lhs;unfold Zqd.l0
  rw [dlt hi,Zn (by omega),Xe,Z49 hi];refine Za (Zi hi) (Za (Zvab h hr.1 hr.2 hk) ?_);dsimp only;rw [show (!(Zz m.2 (3+m.1+l[i])==[]))=Zxr m l[i] from rfl];cases hp:Zxr m l[i] with
  | true=>
   rw [Xe,Xc rfl];exact Za (Zzy h hr.1 hr.2) (Za (Z4 (by simp;omega)) rfl)
  | false=>rw [Xf,Xd Y1]
 ·conv=>lhs;unfold Zqd.l0
  rw [Zv (Ye _),Yx];rfl
theorem Z6nb (h:Fit m st w) (ph tr nd dn:Int) (dg:Str) (v:List Int) (p:Nat) (hp:p≤(Zb w).length) {k:Nat} (hk:1048577≤k):Zhf.l0 k k m.1 m.2.1 m.2.2 ph tr nd st dn dg v (Zb w) (p:Int) []=some (Z4e m ((Zb w).drop p)):=by
 have hb:=h.b
 have hn:=h.n
 have hw:=Z7c w
 have run:=Zrb (fun j i=>Zhf.l0 k j m.1 m.2.1 m.2.2 ph tr nd st dn dg v (Zb w) ((p+i:Nat):Int) (Z4e m (((Zb w).drop p).take i))) ((Zb w).drop p).length (Z4e m ((Zb w).drop p)) (fun i hi j=>?_) (fun j=>?_) k (by simp;omega)
 ·exact run
 ·have hi2:p+i<(Zb w).length:=by simp at hi;omega
  have hr:=Zyj hi2;have hg:((Zb w).drop p)[i]=(Zb w)[p+i]:=Yka;have he:=Znv m (((Zb w).drop p).take i);rw [Yf] at he
  conv=>lhs;unfold Zhf.l0
  rw [dlt hi2,Zn (by omega),Xe,Z49 hi,hg];refine Za (Zi hi2) (Za (Z3w h hr.1 hr.2) (Za (Z8n m.2 _ h.dirt (by omega) (by omega) (by have:=h.dirt;omega)) ?_));dsimp only;rw [show (!(Zz m.2 (3+m.1+(Zb w)[p+i])==[]))=Zxr m (Zb w)[p+i] from rfl];cases hq:Zxr m (Zb w)[p+i] with
  | true=>
   rw [Xe,Xc rfl];exact Za (Z4 (by simp;omega)) rfl
  | false=>rw [Xf,Xd Y1];rfl
 ·have hq:p+((Zb w).drop p).length=(Zb w).length:=by simp;omega
  conv=>lhs;unfold Zhf.l0
  rw [hq,Zv (Ye _),Yx];rfl
def Zmn (m:Zr) (ph tr nd st dn:Int) (dg:Str) (v w:Nat):List Zjf:=if ph=2 then Z4p m ((Zb w).drop (st+Zdh (Zc m st w)).toNat) else if ph=3 then Zie m.2 4 2 nd st dn dg v w else if ph=4 then (if tr=0 then Zie m.2 1 0 0 0 0 [] v 0 else Zie m.2 4 (tr-1) nd st dn dg v w) else if ph=5 then (if ((Zjd (Zz m.2 2) dn).1=true∨dn=40)∨(m.2.1.length:Int)≤(Zjd (Zz m.2 2) dn).2.1 then [] else [Zjd (Zz m.2 2) dn,Z9h]++Zie m.2 5 tr nd st (dn+1) dg v w) else []
theorem Ztbb (m:Zr) (l:List Int):(bif decide (0<((Z4e m l).length:Int)) then some (Z4e m l++[Z9h]) else some (Z4e m l))=some (Z4p m l):=by
 unfold Z4p
 by_cases c:Z4e m l=[]
 ·rw [Xc c,c]
  rfl
 ·have:0<(Z4e m l).length:=List.length_pos_iff.2 c
  rw [Xd c,Xa (by omega:(0:Int)<((Z4e m l).length:Int))];rfl
theorem Zsjb (h:MS0 m ph tr nd st dn dg v w):Ze fun k=>Zqd k m (ph,(tr,(nd,(st,(dn,(dg,(Zb v,Zb w)))))))=some (Zmn m ph tr nd st dn dg v w):=by
 have hf:=h.fit
 have hb:=hf.b
 have hn:=hf.n
 have hk0:=h.keep
 have hll:=h.log
 have hkl:=Zg4 (Zc m st w) (Zc m st w).length
 have hlw:=Z7c w
 have h2:=h.two
 unfold Zmn
 by_cases c2:ph=2
 ·subst c2
  obtain ⟨p,hp⟩:∃p:Nat,st+Zdh (Zc m st w)=(p:Int):=⟨(st+Zdh (Zc m st w)).toNat,by unfold Zdh;omega⟩;have hple:p≤(Zb w).length:=by unfold Zdh at hp;omega
  refine ((Zyv 2 tr nd st dn dg (Zb v) hf).and (Ze.ge 1048577 fun k hk=>hk)).mono fun k ⟨e,hk⟩=>?_
  rw [Xc rfl,hp,Yr]
  have hc:Zob (Zb w) ((p:Nat):Int) ((Zb w).length:Int)=some ((Zb w).drop p):=by
   have:=Znf (l:=Zb w) (i:=p) (j:=(Zb w).length) hple (Ye _)
   rwa [Yx] at this
  have hel:=Znv m ((Zb w).drop p);rw [Yaa] at hel;unfold Zqd;show (bif ((2:Int)==2) then _ else _)=_;rw [show ((2:Int)==2)=true from rfl,Xe];refine Za e (Za (Zyab _ hll.2.1 (by omega)) ?_);show Yp (Zob (Zb w) (Ya .i64 (st+Zdh (Zc m st w))) ((Zb w).length:Int)) _=_;rw [hp,wn (by omega)];refine Za hc (Za (Z1jb hf _ (by simp;omega) (fun x hx=>?_) hk) ?_)
  ·obtain ⟨j,hj,rfl⟩:=Yw.1 (List.mem_of_mem_drop hx)
   exact Zyj hj
  ·rw [← Ztbb]
   show (bif decide (0<((Z4e m ((Zb w).drop p)).length:Int)) then _ else _)=_;cases decide (0<((Z4e m ((Zb w).drop p)).length:Int)) with
   | true=>exact Za (Z4 (by simp;omega)) rfl
   | false=>rfl
 ·rw [Xd c2]
  by_cases c3:ph=3
  ·subst c3
   rw [Xc rfl];refine (Z4j (m:=m) hf.f h2 (a:=4) (b:=2) { hk0 with a:=by omega,b:=by omega }).mono fun k e=>?_
   unfold Zqd;exact Za e rfl
  ·rw [Xd c3]
   by_cases c4:ph=4
   ·subst c4
    rw [Xc rfl]
    by_cases ct:tr=0
    ·subst ct
     rw [Xc rfl];refine (Z4j (m:=m) hf.f h2 (Zvm h.hv)).mono fun k e=>?_
     unfold Zqd;exact Za (Z3y v _ _ _ _ _ _ _) (Za e rfl)
    ·rw [Xd ct]
     have hbz:=(h.busy (by omega)).2.2.2.2.1;refine (Z4j (m:=m) hf.f h2 (a:=4) (b:=tr-1) { hk0 with a:=by omega,b:=by omega }).mono fun k e=>?_
     unfold Zqd;show (bif (tr==0) then _ else _)=_;rw [show (tr==0)=false by simpa using ct,Xf];show Yp (Zfe k m (4,(Ya .i64 (tr-1),(nd,(st,(dn,(dg,(Zb v,Zb w)))))))) _=_;rw [w64 (n:=tr-1) (by omega) (by omega)];exact Za e rfl
   ·rw [Xd c4]
    by_cases c5:ph=5
    ·subst c5
     rw [Xc rfl];obtain ⟨q1,q2,q3,q4,q5,q6,q7,q8⟩:=h.busy (by omega);have hat:=Ze5 (Zz m.2 2) dn;have hdr:=hf.dirt;have hl:m.2.1.length≤1048576:=by omega
     refine (((Zekb (Zz m.2 2) (by have:=Zkm hf.f 2;omega) dn).and (Z4j (m:=m) hf.f h2 (a:=5) (e:=dn+1) { hk0 with a:=by omega,e:=by omega })).and (Ze.ge 1048577 fun k hk=>hk)).mono fun k ⟨⟨e1,e2⟩,hk⟩=>?_
     unfold Zqd;show Yp (Zag k m.2 2) _=_;refine Za (Z1o m.2 2 hdr (by omega) (by omega) (by omega)) (Za e1 ?_);show (bif (Zjd (Zz m.2 2) dn).1||(dn==40) then _ else _)=_;cases hsy:(Zjd (Zz m.2 2) dn).1 with
     | true=>
      rw [Xc (.inl (.inl rfl))];rfl
     | false=>
      rw [Yga]
      by_cases c40:dn=40
      ·rw [Xc (.inl (.inr c40)),show (dn==40)=true by simpa using c40]
       rfl
      ·have hat:=hat hsy
       rw [show (dn==40)=false by simpa using c40,Xf];refine Za (Zz3 hl m.2.2 _) ?_;rw [Xa hat.1,Yg]
       by_cases cl:(m.2.1.length:Int)≤(Zjd (Zz m.2 2) dn).2.1
       ·rw [Xc (.inr cl),Xb (by omega)]
        rfl
       ·rw [Xd (by rintro ((q | q) | q);cases q;exact c40 q;exact cl q),Xa (by omega:(Zjd (Zz m.2 2) dn).2.1≤(m.2.1.length:Int)-1),Yo,Xf]
        show Yp (Zfe k m (5,(tr,(nd,(st,(Ya .i64 (dn+1),(dg,(Zb v,Zb w)))))))) _=_;rw [w64 (n:=dn+1) (by omega) (by omega)];refine Za e2 ?_;have hkl2:=Zpl m.2 (Z9d (5,tr,nd,st,dn+1,(v:Int),(w:Int),dg));exact Za (Z4 (by unfold Zie;simp;omega)) rfl
    ·rw [Xd c5]
     refine Ze.of fun k=>?_
     have hph:=h.hph;have:ph=1:=by omega
     subst this;rfl
theorem Zxnb (h:MS0 m ph tr nd st dn dg v w):Ze fun k=>Zkk k m (ph,(tr,(nd,(st,(dn,(dg,(Zb v,Zb w)))))))=some (Zmn m ph tr nd st dn dg v w):=by
 have hf:=h.fit
 have hb:=hf.b
 have hn:=hf.n
 have hk0:=h.keep
 have hll:=h.log
 have hkl:=Zg4 (Zc m st w) (Zc m st w).length
 have hlw:=Z7c w
 have h2:=h.two
 unfold Zmn
 by_cases c2:ph=2
 ·subst c2
  obtain ⟨p,hp⟩:∃p:Nat,st+Zdh (Zc m st w)=(p:Int):=⟨(st+Zdh (Zc m st w)).toNat,by unfold Zdh;omega⟩;have hple:p≤(Zb w).length:=by unfold Zdh at hp;omega
  refine ((Zgq 2 tr nd st dn dg (Zb v) hf).and (Ze.ge 1048577 fun k hk=>hk)).mono fun k ⟨e,hk⟩=>?_
  rw [Xc rfl,hp,Yr];have hel:=Znv m ((Zb w).drop p);rw [Yaa] at hel;unfold Zkk;refine Za (Z7n v w _ _ _ _ _ _) ?_;show (bif ((2:Int)==2) then _ else _)=_;rw [show ((2:Int)==2)=true from rfl,Xe];refine Za (a:=Z4p m ((Zb w).drop p)) ?_ rfl;unfold Zhf;refine Za e (Za (Z5db _ hll.2.1 (by omega)) ?_);show Yp (Zhf.l0 k k m.1 m.2.1 m.2.2 2 tr nd st dn dg (Zb v) (Zb w) (Ya .i64 (st+Zdh (Zc m st w))) []) _=_;rw [hp,wn (by omega)];refine Za (Z6nb hf 2 tr nd dn dg (Zb v) p hple hk) ?_;rw [← Ztbb];cases decide (0<((Z4e m ((Zb w).drop p)).length:Int)) with
  | true=>exact Za (Z4 (by simp;omega)) rfl
  | false=>rfl
 ·rw [Xd c2]
  by_cases c3:ph=3
  ·subst c3
   rw [Xc rfl];refine (Zgk (m:=m) hf.f h2 (a:=4) (b:=2) { hk0 with a:=by omega,b:=by omega }).mono fun k e=>?_
   unfold Zkk;exact Za (Z7n v w _ _ _ _ _ _) (Za e rfl)
  ·rw [Xd c3]
   by_cases c4:ph=4
   ·subst c4
    rw [Xc rfl]
    by_cases ct:tr=0
    ·subst ct
     rw [Xc rfl];refine (Zgk (m:=m) hf.f h2 (Zvm h.hv)).mono fun k e=>?_
     unfold Zkk;exact Za (Z7n v w _ _ _ _ _ _) (Za (Zu0 v _ _ _ _ _ _ _) (Za e rfl))
    ·rw [Xd ct]
     have hbz:=(h.busy (by omega)).2.2.2.2.1;refine (Zgk (m:=m) hf.f h2 (a:=4) (b:=tr-1) { hk0 with a:=by omega,b:=by omega }).mono fun k e=>?_
     unfold Zkk;refine Za (Z7n v w _ _ _ _ _ _) ?_;show (bif (tr==0) then _ else _)=_;rw [show (tr==0)=false by simpa using ct,Xf];show Yp (Z0e k m (4,(Ya .i64 (tr-1),(nd,(st,(dn,(dg,(Zb v,Zb w)))))))) _=_;rw [w64 (n:=tr-1) (by omega) (by omega)];exact Za e rfl
   ·rw [Xd c4]
    by_cases c5:ph=5
    ·subst c5
     rw [Xc rfl];obtain ⟨q1,q2,q3,q4,q5,q6,q7,q8⟩:=h.busy (by omega);have hat:=Ze5 (Zz m.2 2) dn;have hdr:=hf.dirt;have hl:m.2.1.length≤1048576:=by omega
     refine (((Ziob (Zz m.2 2) (by have:=Zkm hf.f 2;omega) dn).and (Zgk (m:=m) hf.f h2 (a:=5) (e:=dn+1) { hk0 with a:=by omega,e:=by omega })).and (Ze.ge 1048577 fun k hk=>hk)).mono fun k ⟨⟨e1,e2⟩,hk⟩=>?_
     unfold Zkk;refine Za (Z7n v w _ _ _ _ _ _) ?_;show Yp (Ztb k m.2 2) _=_;refine Za (Z8n m.2 2 hdr (by omega) (by omega) (by omega)) (Za e1 ?_);show (bif ((Zjd (Zz m.2 2) dn).1||decide (40≤dn))||decide ((m.2.1.length:Int)≤(Zjd (Zz m.2 2) dn).2.1) then _ else _)=_
     by_cases cc:((Zjd (Zz m.2 2) dn).1=true∨dn=40)∨(m.2.1.length:Int)≤(Zjd (Zz m.2 2) dn).2.1
     ·rw [Xc cc,show (((Zjd (Zz m.2 2) dn).1||decide (40≤dn))||decide ((m.2.1.length:Int)≤(Zjd (Zz m.2 2) dn).2.1))=true by
       rcases cc with (q | q) | q
       ·rw [q];rfl
       ·rw [Xa (by omega:(40:Int)≤dn),Yq];rfl
       ·rw [Xa q,Yq]]
      rfl
     ·rw [Xd cc,show (((Zjd (Zz m.2 2) dn).1||decide (40≤dn))||decide ((m.2.1.length:Int)≤(Zjd (Zz m.2 2) dn).2.1))=false by
       have a1:(Zjd (Zz m.2 2) dn).1=false:=by
        cases q:(Zjd (Zz m.2 2) dn).1 with
        | false=>rfl
        | true=>exact absurd (.inl (.inl q)) cc
       rw [a1,Xb (fun q=>cc (.inl (.inr (by omega)))),Xb (fun q=>cc (.inr q))];rfl,Xf]
      show Yp (Z0e k m (5,(tr,(nd,(st,(Ya .i64 (dn+1),(dg,(Zb v,Zb w)))))))) _=_;rw [w64 (n:=dn+1) (by omega) (by omega)];refine Za e2 ?_;have hkl2:=Zpl m.2 (Z9d (5,tr,nd,st,dn+1,(v:Int),(w:Int),dg));exact Za (Z4 (by unfold Zie;simp;omega)) rfl
    ·rw [Xd c5]
     refine Ze.of fun k=>?_
     have hph:=h.hph;have:ph=1:=by omega
     subst this;unfold Zkk;exact Za (Z7n v w _ _ _ _ _ _) rfl
end
theorem Zzeb:∀{a b:List Nat},a.Pairwise (· < ·)→b.Pairwise (· < ·)→(∀x,x∈a ↔ x∈b)→a=b
 | [],[],_,_,_=>rfl
 | [],y::b,_,_,h=>by have:=(h y).2 Yv;cases this
 | x::a,[],_,_,h=>by have:=(h x).1 Yv;cases this
 | x::a,y::b,ha,hb,h=>by
  have ha':=Ycb.1 ha;have hb':=Ycb.1 hb
  have e:x=y:=by
   rcases Yl.1 ((h x).1 Yv) with e | e
   ·exact e
   ·rcases Yl.1 ((h y).2 Yv) with f | f
    ·exact f.symm
    ·have:=hb'.1 x e
     have:=ha'.1 y f;omega
  subst e;rw [Zzeb ha'.2 hb'.2 fun z=>⟨fun hz=>?_,fun hz=>?_⟩]
  ·rcases Yl.1 ((h z).1 (Y4 _ hz)) with e | e
   ·have:=ha'.1 z hz;omega
   ·exact e
  ·rcases Yl.1 ((h z).2 (Y4 _ hz)) with e | e
   ·have:=hb'.1 z hz;omega
   ·exact e
def orP:List Nat→Nat
 | []=>0
 | x::l=>2^x ||| orP l
theorem Zxz (l:List Nat) (i:Nat):(orP l).testBit i=decide (i∈l):=by
 induction l with
 | nil=>simp [orP]
 | cons x l ih=>
  rw [orP,Ykb,ih,Nat.testBit_two_pow];rw [Bool.eq_iff_iff];simp only [Yta,decide_eq_true_eq,Yl];constructor
  ·rintro (h | h)
   ·exact .inl h.symm
   ·exact .inr h
  ·rintro (h | h)
   ·exact .inl h.symm
   ·exact .inr h
theorem Zjcb {l:List Nat} (h:∀x∈l,x<24):orP l<16777216:=by
 have:orP l<2^24:=by
  induction l with
  | nil=>simp [orP]
  | cons x l ih=>
   rw [orP];exact Yhb (Nat.pow_lt_pow_right (by omega) (h x Yv)) (ih fun y hy=>h y (Y4 _ hy))
 simpa using this
theorem Zh8 {l:List Nat} (hs:l.Pairwise (· < ·)) (h:∀x∈l,x<24):Zub (orP l) 24=l:=by
 refine Zzeb (Zdv _ _) hs fun x=>?_
 unfold Zub
 rw [List.mem_filter,Y9a,Zxz,decide_eq_true_eq]
 exact ⟨fun q=>q.2,fun q=>⟨h x q,q⟩⟩
theorem Zjgb {v u:Nat} (h:∀i,i<24→¬(v.testBit i=true∧u.testBit i=true)) (hv:v<16777216):v &&& u=0:=by
 refine Nat.eq_of_testBit_eq fun i=>?_
 rw [Nat.testBit_and,Nat.zero_testBit]
 by_cases hi:i<24
 ·have:=h i hi
  cases h1:v.testBit i with
  | false=>rfl
  | true=>
   cases h2:u.testBit i with
   | false=>rfl
   | true=>exact absurd ⟨h1,h2⟩ this
 ·rw [Nat.testBit_lt_two_pow (Nat.lt_of_lt_of_le (show v<2^24 by simpa using hv) (Nat.pow_le_pow_right (by omega) (by omega)))]
  rfl
theorem Zfgb {v u:Nat} (hv:v<16777216) (hu:u<16777216) (h:v &&& u=0):v+u=v ||| u:=by
 have h1:=BitVec.add_eq_or_of_and_eq_zero (Yda 32 v) (Yda 32 u) (by
  apply BitVec.eq_of_toNat_eq;rw [BitVec.toNat_and,Y0,Y0,Yz (by omega),Yz (by omega),h];rfl)
 have h2:=congrArg BitVec.toNat h1
 rw [BitVec.toNat_add,BitVec.toNat_or,Y0,Y0,Yz (a:=v) (by omega),Yz (a:=u) (by omega),Yz (by omega)] at h2
 exact h2
def Zyb (v w:Nat):Nat:=16777215 ^^^ (v ||| w)
theorem Zgcb {i:Nat} (h:i<24):(16777215:Nat).testBit i=true:=by
 have:(2^24-1).testBit i=decide (i<24):=Nat.testBit_two_pow_sub_one 24 i
 rw [Xa h] at this
 exact this
theorem Zt3 {v w i:Nat} (h:i<24):(Zyb v w).testBit i=(!(v.testBit i) && !(w.testBit i)):=by
 unfold Zyb
 rw [Nat.testBit_xor,Zgcb h,Ykb]
 cases v.testBit i <;> cases w.testBit i <;> rfl
theorem Zvv {v w:Nat} (hv:v<16777216) (hw:w<16777216):Zyb v w<16777216:=by
 have h:v ||| w<2^24:=Yhb (by simpa using hv) (by simpa using hw)
 have:Zyb v w<2^24:=Nat.xor_lt_two_pow (by omega) h
 simpa using this
abbrev Zog:=Int×Int
def Zcm (acc:List Zog) (n:Int):List Zog:=match acc.getLast? with
 | some e=>if e.1+e.2=n then acc.dropLast++[(e.1,e.2+1)] else acc++[(n,1)]
 | none=>[(n,1)]
def Zeb (l:List Int):List Zog:=l.foldl Zcm []
def Z3u (l:List Int) (acc:List Zog):Prop:=∀e∈acc,1≤e.2∧∀x,e.1≤x→x<e.1+e.2→x∈l
theorem Zdgb {l:List Int} {acc:List Zog} (h:Z3u l acc) {n:Int} (hn:n∈l):Z3u l (Zcm acc n):=by
 have one:∀e∈[((n,1):Zog)],1≤e.2∧∀x,e.1≤x→x<e.1+e.2→x∈l:=fun e he=>by
  rw [Yab.1 he];refine ⟨Y7 _,fun x h1 h2=>?_⟩;have h1:n≤x:=h1;have h2:x<n+1:=h2;rw [show x=n by omega];exact hn
 unfold Zcm
 cases hl:acc.getLast? with
 | none=>exact one
 | some e=>
  have hm:e∈acc:=List.mem_of_getLast? hl;dsimp only;split
  ·rename_i he
   intro z hz;rcases Y8a.1 hz with hz | hz
   ·exact h z (List.dropLast_subset _ hz)
   ·rw [Yab.1 hz]
    obtain ⟨h1,h2⟩:=h e hm;refine ⟨by show 1≤e.2+1;omega,fun x q1 q2=>?_⟩;have q1:e.1≤x:=q1;have q2:x<e.1+(e.2+1):=q2
    by_cases c:x<e.1+e.2
    ·exact h2 x q1 c
    ·rw [show x=n by omega]
     exact hn
  ·intro z hz
   rcases Y8a.1 hz with hz | hz
   ·exact h z hz
   ·exact one z hz
theorem Zydb (l:List Int):Z3u l (Zeb l):=by
 have:∀(r:List Int) (acc:List Zog),(∀x∈r,x∈l)→Z3u l acc→Z3u l (r.foldl Zcm acc):=by
  intro r
  induction r with
  | nil=>intro acc _ h;exact h
  | cons x r ih=>
   intro acc hx h;exact ih _ (fun y hy=>hx y (Y4 _ hy)) (Zdgb h (hx x Yv))
 exact this l [] (fun x hx=>hx) (fun e he=>nomatch he)
theorem Zegb (acc:List Zog) (n:Int):(Zcm acc n).length≤acc.length+1:=by
 unfold Zcm
 cases hl:acc.getLast? with
 | none=>simp
 | some e=>
  dsimp only;split
  ·rw [Yi,List.length_dropLast,Yu,Yla];omega
  ·simp
theorem Zo0 {l:List Int} {i:Nat} (h:i<l.length):Zeb (l.take (i+1))=Zcm (Zeb (l.take i)) l[i]:=by
 unfold Zeb
 rw [Zai h,List.foldl_append]
 rfl
theorem Zn0 (l:List Int):∀i,(Zeb (l.take i)).length≤i
 | 0=>by simp [Zeb]
 | i+1=>by
  have ih:=Zn0 l i
  by_cases h:i<l.length
  ·rw [Zo0 h]
   have:=Zegb (Zeb (l.take i)) l[i];omega
  ·rw [Yeb (by omega)] at ih ⊢
   omega
theorem Zpnb {l:List Int}:∀i,(h:i<l.length)→∃e,(Zeb (l.take (i+1))).getLast? = some e∧e.1+e.2=l[i]+1:=by
 intro i h
 rw [Zo0 h]
 unfold Zcm
 cases hl:(Zeb (l.take i)).getLast? with
 | none=>exact ⟨(l[i],1),rfl,rfl⟩
 | some e=>
  dsimp only;split
  ·rename_i he
   exact ⟨(e.1,e.2+1),Y2a,by show e.1+(e.2+1)=_;omega⟩
  ·exact ⟨(l[i],1),Y2a,rfl⟩
def Zvh (a:Int) (n:Nat):List Int:=(Yn n).map fun (i:Nat)=>a+(i:Int)
def Zgh (f:Nat) (n:Int):Option (List Int):=
 if ((Zb f).length:Int)<n then none
 else match Zsb (fun (e:Zog)=>decide (n≤e.2)) (Zeb (Zb f)) 0 with
  | some i=>some (Zvh ((Zeb (Zb f)).getD i (0,0)).1 n.toNat)
  | none=>some ((Zb f).take n.toNat)
theorem Zdpb {a n:Nat} (h:a+n≤24):∃u,u<16777216∧Zb u=Zvh (a:Int) n∧∀i,u.testBit i=true→a≤i∧i<a+n:=by
 have hs:((Yn n).map (a + ·)).Pairwise (· < ·):=by
  rw [List.pairwise_map];exact List.pairwise_lt_range.imp fun h=>by omega
 have hm:∀x∈(Yn n).map (a + ·),a≤x∧x<a+n:=fun x hx=>by
  obtain ⟨y,hy,rfl⟩:=Yba.1 hx;rw [Y9a] at hy;omega
 refine ⟨orP ((Yn n).map (a + ·)),Zjcb fun x hx=>by have:=hm x hx;omega,?_,fun i hi=>?_⟩
 ·unfold Zb Zvh
  rw [Zh8 hs fun x hx=>by have:=hm x hx;omega,Y6a];refine List.map_congr_left fun i _=>?_
  show ((a+i:Nat):Int)=_;omega
 ·rw [Zxz,decide_eq_true_eq] at hi
  exact hm i hi
theorem Zypb (f n:Nat) (hf:f<16777216):∃u,u<16777216∧Zb u=(Zb f).take n∧∀i,u.testBit i=true→f.testBit i=true:=by
 have hs:((Zub f 24).take n).Pairwise (· < ·):=(Zdv f 24).sublist (List.take_sublist _ _)
 have hm:∀x∈(Zub f 24).take n,x<24∧f.testBit x=true:=fun x hx=>Z4s (List.mem_of_mem_take hx)
 refine ⟨orP ((Zub f 24).take n),Zjcb fun x hx=>(hm x hx).1,?_,fun i hi=>?_⟩
 ·unfold Zb
  rw [Zh8 hs fun x hx=>(hm x hx).1,Y7a]
 ·rw [Zxz,decide_eq_true_eq] at hi
  exact (hm i hi).2
theorem Zhdb {f:Nat} (hf:f<16777216) {n:Int} (h0:1≤n) {l:List Int} (h:Zgh f n=some l):(∃u,u<16777216∧l=Zb u∧∀i,u.testBit i=true→f.testBit i=true)∧(l.length:Int)=n:=by
 unfold Zgh at h
 split at h
 ·cases h
 ·rename_i hn
  cases hi:Zsb (fun (e:Zog)=>decide (n≤e.2)) (Zeb (Zb f)) 0 with
  | none=>
   rw [hi] at h;cases h;obtain ⟨u,h1,h2,h3⟩:=Zypb f n.toNat hf;exact ⟨⟨u,h1,h2.symm,h3⟩,by rw [Yf];omega⟩
  | some i=>
   rw [hi] at h;cases h;obtain ⟨_,hlt,hp,_⟩:=Zml hi;have hp:=of_decide_eq_true hp;simp only [Yjb] at hlt hp
   have hd:(Zeb (Zb f)).getD i (0,0)=(Zeb (Zb f))[i]:=by
    rw [Yt,Yh hlt];rfl
   rw [hd];have hr:=(Zydb (Zb f) _ (Ym hlt)).2;generalize (Zeb (Zb f))[i]=e at hp hr;have m0:=hr e.1 (Y7 _) (by omega);have m1:=hr (e.1+n-1) (by omega) (by omega)
   obtain ⟨a,ha⟩:∃a:Nat,e.1=(a:Int):=by
    obtain ⟨y,_,hy⟩:=Yba.1 (show e.1∈(Zub f 24).map _ from m0);exact ⟨y,hy.symm⟩
   obtain ⟨k,rfl⟩:∃k:Nat,n=(k:Int):=⟨n.toNat,by omega⟩
   have b1:a+k≤24:=by
    obtain ⟨y,hy,hy2⟩:=Yba.1 (show e.1+(k:Int)-1∈(Zub f 24).map _ from m1);have:=(Z4s hy).1;have hy2:((y:Nat):Int)=e.1+(k:Int)-1:=hy2;omega
   obtain ⟨u,u1,u2,u3⟩:=Zdpb b1;rw [Yr,ha];refine ⟨⟨u,u1,u2.symm,fun i hi=>?_⟩,by simp [Zvh]⟩;have:=u3 i hi;have hm:=hr (i:Int) (by omega) (by omega);exact (Z2n.1 hm).2
end Go.Proofs.Qz
