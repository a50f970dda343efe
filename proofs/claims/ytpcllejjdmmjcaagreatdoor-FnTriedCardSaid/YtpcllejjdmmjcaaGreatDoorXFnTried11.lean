/- What the law FnTried needs, part 12 of 14: the Lean functions of the Go functions that it reaches, with the proofs that the calls come to what they say, and plain facts about them. Conditions: those that each theorem states. Written by a session and by its programs (after the kit's printer). -/
import Derived.Lib.Join
import Derived.Test.YtpcllejjdmmjcaaGreatDoorXFnTried8
import Derived.Test.YtpcllejjdmmjcaaGreatDoorXFnTried9
import Derived.Test.YtpcllejjdmmjcaaGreatDoorXFnTried10
open Go.IntKind renaming wrap → Ya, max → Yra
open Option renaming bind_some → Yb, bind → Yx
open Bool renaming and_eq_true → Yc, not_true → Yq, false_ne_true → Yy, true_and → Yz, or_true → Yaa, true_or → Yba, false_or → Yna, not_false → Yoa, or_eq_true → Ypa
open List renaming replicate → Yd, length_append → Yf, mem_cons → Yg, getElem?_eq_getElem → Yh, getElem_mem → Yi, range → Yj, take_length → Yk, getD_eq_getElem?_getD → Ym, length_cons → Yn, length_take → Yo, mem_cons_self → Yp, append_assoc → Ys, mem_cons_of_mem → Yv, not_mem_nil → Yw, append_nil → Y1, drop_zero → Y2, length_nil → Y3, mem_iff_getElem → Y4, mem_map → Y5, length_map → Yca, length_replicate → Yda, length_singleton → Yea, map_map → Yfa, mem_filter → Yga, mem_range → Yha, flatMap_append → Ysa, flatMap_cons → Yta, getElem_map → Yua, getElem_range → Yva, getElem_take → Ywa, length_filter_le → Yxa, length_range → Yya, map_append → Yza, map_id' → Y0a, map_take → Y1a, mem_append → Y2a, mem_of_getLast? → Y3a, mem_of_mem_take → Y4a, mem_singleton → Y5a, nil_append → Y6a, pairwise_cons → Y7a, replicate_zero → Y8a, take_of_length_le → Y9a
open Nat renaming le_refl → Ye, lt_of_lt_of_le → Y6, pow_le_pow_right → Y7, testBit_lt_two_pow → Y8, eq_of_testBit_eq → Yia, le_of_eq → Yja, mod_lt → Yka, or_lt_two_pow → Yla, div_lt_of_lt_mul → Yab, pow_succ → Ybb, sub_self → Ycb, sub_zero → Ydb, testBit_and → Yeb, testBit_or → Yfb, testBit_xor → Ygb, xor_lt_two_pow → Yhb, zero_testBit → Yib
open BitVec renaming ofInt → Yl, getLsbD → Y9, ofInt_natCast → Yma
open Int renaming toNat_natCast → Yr, le_refl → Yt, tmod → Yu, tmod_eq_emod_of_nonneg → Y0, toNat_of_nonneg → Yqa
namespace Go.Proofs.Qz
open Go Go.RowKit
set_option linter.unusedVariables false
def dgT (x n:Int):Int:=intBits .or .u32 (shr .u32 x n) (shl .u32 x (32-n))
theorem Zflb (x y:Int):intBits .or .u32 x y=intBits .or .u32 y x:=by
 unfold intBits
 simp [BitVec.or_comm]
theorem Zal {n:Int} (x:Int) (hn:n∈([2,6,7,11,13,17,18,19,22,25]:List Int)):Zah x n=some (dgT x n):=by
 have h:intBits .and .u64 (Ya .u64 (Ya .i64 (0-n))) 31=32-n∧Ya .u64 (32-(32-n))=n∧0≤n∧n≤32:=by
  revert n
  decide +kernel
 obtain ⟨h1,h2,h3,h4⟩:=h
 unfold Zah Zsp
 rw [h1]
 dsimp only
 rw [h2,Zvb (by omega),Zvb h3]
 simp only [Yb]
 rw [Zflb]
 rfl
theorem Zvl {n:Int} (x:Int) (h:0≤n∧n≤32):Ztg x n=some (dgT x n):=by
 unfold Ztg
 have h2:Ya .u64 (32-n)=32-n:=by rw [Zuf];omega
 dsimp only
 rw [Zvb h.1,h2,Zvb (by omega)]
 rfl
def Z6v (b:Str) (i:Nat):Int:=Ya .u32 (((b.getD i 0).toNat:Nat):Int)
def dgW (b:Str) (i:Nat):Int:=intBits .or .u32 (intBits .or .u32 (intBits .or .u32 (shl .u32 (Z6v b (4*i)) 24) (shl .u32 (Z6v b (4*i+1)) 16)) (shl .u32 (Z6v b (4*i+2)) 8)) (Z6v b (4*i+3))
theorem atD {α:Type} {l:List α} {j:Int} {n:Nat} (d:α) (hj:j=(n:Int)) (h:n<l.length):at? l j=some (l.getD n d):=by
 rw [hj,Zh h,Ym,Yh h]
 rfl
theorem Zrcb {α:Type} {l:List α} {i:Nat} {x:α} (h:i<l.length):Zpq l (i:Int) x=some (l.set i x):=by
 unfold Zpq
 rw [Xc ⟨by omega,by omega⟩]
 rfl
theorem Zsjb (b:Str) {i:Nat} (h:4*i+4≤b.length):Z5n (b.drop (4*i))=some (dgW b i):=by
 have hd:∀q,q<4→(b.drop (4*i)).getD q 0=b.getD (4*i+q) 0:=fun q _=>by
  rw [Ym,Ym,List.getElem?_drop]
 have hl:(b.drop (4*i)).length=b.length-4*i:=by simp
 unfold Z5n
 rw [atD (j:=0) (n:=0) 0 rfl (by omega),atD (j:=1) (n:=1) 0 rfl (by omega),atD (j:=2) (n:=2) 0 rfl (by omega),atD (j:=3) (n:=3) 0 rfl (by omega),hd 0 (by omega),hd 1 (by omega),hd 2 (by omega),hd 3 (by omega)]
 rfl
def dgN (w:List Int) (i:Nat):Int:=Ya .u32 ((Ya .u32 ((Ya .u32 (w.getD (i-16) 0+(intBits .xor .u32 (intBits .xor .u32 (dgT (w.getD (i-15) 0) 7) (dgT (w.getD (i-15) 0) 18)) (shr .u32 (w.getD (i-15) 0) 3))))+w.getD (i-7) 0))+(intBits .xor .u32 (intBits .xor .u32 (dgT (w.getD (i-2) 0) 17) (dgT (w.getD (i-2) 0) 19)) (shr .u32 (w.getD (i-2) 0) 10)))
def dgS (b:Str):Nat→List Int
 | 0=>Yd 64 0
 | i+1=>(dgS b i).set i (if i<16 then dgW b i else dgN (dgS b i) i)
theorem Zhr (b:Str):∀i,(dgS b i).length=64
 | 0=>by simp [dgS]
 | i+1=>by rw [dgS,List.length_set,Zhr b i]
theorem Zjp {i d:Nat} (h:d≤i) (hi:i<64):Ya .i64 ((i:Int)-(d:Int))=((i-d:Nat):Int):=by rw [w64] <;> omega
theorem Zfjb {b:Str} (hb:b.length=64):∀k,64<k→Zmb.l0 k b 0 (Yd 64 (0:Int))=some (dgS b 64):=by
 refine Zbc (fun j i=>Zmb.l0 j b (i:Int) (dgS b i)) 64 _ (fun i hi j=>?_) fun j=>?_
 ·have hl:=Zhr b i
  conv=>lhs;unfold Zmb.l0
  rw [Xa (by omega:(i:Int)<64),Zs (by omega)];dsimp only;rw [Xe]
  by_cases h16:i<16
  ·rw [Xa (by omega:(i:Int)<16),w64 (n:=4*(i:Int)) (by omega) (by omega)]
   have hc:Z3b b (4*(i:Int)) (b.length:Int)=some (b.drop (4*i)):=by
    have:=Z9f (l:=b) (i:=4*i) (j:=b.length) (by omega) (Ye _);rw [Yk] at this;rw [show (4*(i:Int))=((4*i:Nat):Int) by omega];exact this
   rw [hc];simp only [Xe,Yb];rw [Zsjb b (by omega)];simp only [Yb];rw [atD (n:=i) 0 rfl (by omega)];simp only [Yb];rw [Zrcb (by omega)];simp only [Yb];rw [dgS,Xc h16]
  ·rw [Xb (by omega:¬(i:Int)<16)]
   simp only [Xf];rw [show (15:Int)=((15:Nat):Int) from rfl,show (2:Int)=((2:Nat):Int) from rfl,show (16:Int)=((16:Nat):Int) from rfl,Zjp (by omega) hi,Zjp (by omega) hi,Zjp (by omega) hi];rw [show Ya .i64 ((i:Int)-7)=((i-7:Nat):Int) from Zjp (d:=7) (by omega) hi];rw [atD (n:=i-15) 0 rfl (by omega),atD (n:=i-2) 0 rfl (by omega),atD (n:=i-16) 0 rfl (by omega),atD (n:=i-7) 0 rfl (by omega),atD (n:=i) 0 rfl (by omega)];simp only [Yb];rw [Zal _ (by decide),Zal _ (by decide),Zvb (by omega),Zal _ (by decide),Zal _ (by decide),Zvb (by omega)];simp only [Yb];rw [Zrcb (by omega)];simp only [Yb];rw [dgS,Xd h16];rfl
 ·conv=>lhs;unfold Zmb.l0
  rw [Xb (by omega:¬((64:Nat):Int)<64)];rfl
theorem Zenb {b:Str} (hb:b.length=64):∀k,16<k→Zq.l0 k b 0 (Yd 64 (0:Int))=some (dgS b 16):=by
 refine Zbc (fun j i=>Zq.l0 j b (i:Int) (dgS b i)) 16 _ (fun i hi j=>?_) fun j=>?_
 ·have hl:=Zhr b i
  conv=>lhs;unfold Zq.l0
  rw [Xa (by omega:(i:Int)<16),Zs (by omega),w64 (n:=4*(i:Int)) (by omega) (by omega)];dsimp only;rw [Xe,w64 (n:=4*(i:Int)+1) (by omega) (by omega),w64 (n:=4*(i:Int)+2) (by omega) (by omega),w64 (n:=4*(i:Int)+3) (by omega) (by omega)];rw [atD (j:=4*(i:Int)) (n:=4*i) 0 (by omega) (by omega),atD (j:=4*(i:Int)+1) (n:=4*i+1) 0 (by omega) (by omega),atD (j:=4*(i:Int)+2) (n:=4*i+2) 0 (by omega) (by omega),atD (j:=4*(i:Int)+3) (n:=4*i+3) 0 (by omega) (by omega),atD (j:=(i:Int)) (n:=i) 0 rfl (by omega)];rw [Zvb (by omega),Zvb (by omega),Zvb (by omega)];simp only [Yb,Yr];rw [dgS,Xc hi];rfl
 ·conv=>lhs;unfold Zq.l0
  rw [Xb (by omega:¬((16:Nat):Int)<16)];rfl
theorem Zfnb {b:Str} (hb:b.length=64):∀(d i j:Nat),i+d=64→16≤i→d<j→Zq.l1 j (i:Int) (dgS b i)=some (dgS b 64):=by
 intro d
 induction d with
 | zero=>
  intro i j h1 h2 h3;obtain rfl:i=64:=by omega
  obtain ⟨j,rfl⟩:∃q,j=q+1:=⟨j-1,by omega⟩
  conv=>lhs;unfold Zq.l1
  rw [Xb (by omega:¬((64:Nat):Int)<64)];rfl
 | succ d ih=>
  intro i j h1 h2 h3;obtain ⟨j,rfl⟩:∃q,j=q+1:=⟨j-1,by omega⟩;have hi:i<64:=by omega
  have hl:=Zhr b i;rw [← ih (i+1) j (by omega) (by omega) (by omega)]
  conv=>lhs;unfold Zq.l1
  rw [Xa (by omega:(i:Int)<64),Zs (by omega)];dsimp only;rw [Xe];rw [show Ya .i64 ((i:Int)-15)=((i-15:Nat):Int) from Zjp (d:=15) (by omega) hi,show Ya .i64 ((i:Int)-2)=((i-2:Nat):Int) from Zjp (d:=2) (by omega) hi,show Ya .i64 ((i:Int)-16)=((i-16:Nat):Int) from Zjp (d:=16) (by omega) hi,show Ya .i64 ((i:Int)-7)=((i-7:Nat):Int) from Zjp (d:=7) (by omega) hi];rw [atD (n:=i-15) 0 rfl (by omega),atD (n:=i-2) 0 rfl (by omega),atD (n:=i-16) 0 rfl (by omega),atD (n:=i-7) 0 rfl (by omega),atD (j:=(i:Int)) (n:=i) 0 rfl (by omega)];simp only [Yb];rw [Zvl _ (by omega),Zvl _ (by omega),Zvb (by omega),Zvl _ (by omega),Zvl _ (by omega),Zvb (by omega)];simp only [Yb,Yr];rw [dgS,Xd (by omega)];rfl
abbrev S8:=Int×Int×Int×Int×Int×Int×Int×Int
def Zk7 (key w:Int) (s:S8):Int:=Ya .u32 ((Ya .u32 ((Ya .u32 ((Ya .u32 (s.2.2.2.2.2.2.2+(intBits .xor .u32 (intBits .xor .u32 (dgT s.2.2.2.2.1 6) (dgT s.2.2.2.2.1 11)) (dgT s.2.2.2.2.1 25))))+(intBits .xor .u32 (intBits .and .u32 s.2.2.2.2.1 s.2.2.2.2.2.1) (intBits .and .u32 (intBits .xor .u32 (Yra .u32) s.2.2.2.2.1) s.2.2.2.2.2.2.1))))+key))+w)
def dgR2 (s:S8):Int:=Ya .u32 ((intBits .xor .u32 (intBits .xor .u32 (dgT s.1 2) (dgT s.1 13)) (dgT s.1 22))+(intBits .xor .u32 (intBits .xor .u32 (intBits .and .u32 s.1 s.2.1) (intBits .and .u32 s.1 s.2.2.1)) (intBits .and .u32 s.2.1 s.2.2.1)))
def dgR (key w:Int) (s:S8):S8:=(Ya .u32 (Zk7 key w s+dgR2 s),s.1,s.2.1,s.2.2.1,Ya .u32 (s.2.2.2.1+Zk7 key w s),s.2.2.2.2.1,s.2.2.2.2.2.1,s.2.2.2.2.2.2.1)
def dgI (w:List Int) (s:S8):Nat→S8
 | 0=>s
 | i+1=>dgR (Z4l.getD i 0) (w.getD i 0) (dgI w s i)
theorem Zn9:Z4l.length=64:=by decide
theorem Z3jb:Zbp=some Z4l:=rfl
theorem Zcjb {w:List Int} (hw:w.length=64) (s:S8):∀k,64<k→Zmb.l1 k s.1 s.2.1 s.2.2.1 s.2.2.2.1 s.2.2.2.2.1 s.2.2.2.2.2.1 s.2.2.2.2.2.2.1 s.2.2.2.2.2.2.2 0 w=some (dgI w s 64):=by
 have hk:=Zn9
 refine Zbc (fun j i=>Zmb.l1 j (dgI w s i).1 (dgI w s i).2.1 (dgI w s i).2.2.1 (dgI w s i).2.2.2.1 (dgI w s i).2.2.2.2.1 (dgI w s i).2.2.2.2.2.1 (dgI w s i).2.2.2.2.2.2.1 (dgI w s i).2.2.2.2.2.2.2 (i:Int) w) 64 _ (fun i hi j=>?_) fun j=>?_
 ·conv=>lhs;unfold Zmb.l1
  rw [Xa (by omega:(i:Int)<64),Zs (by omega),Xe];rw [Zal _ (by decide),Zal _ (by decide),Zal _ (by decide),Zal _ (by decide),Zal _ (by decide),Zal _ (by decide)];simp only [Yb];rw [atD (l:=Z4l) (j:=(i:Int)) (n:=i) 0 rfl (by omega),atD (l:=w) (j:=(i:Int)) (n:=i) 0 rfl (by omega)];simp only [Yb];rfl
 ·conv=>lhs;unfold Zmb.l1
  rw [Xb (by omega:¬((64:Nat):Int)<64)];rfl
theorem Zdnb {w:List Int} (hw:w.length=64) (s:S8):∀k,64<k→Zq.l2 k s.1 s.2.1 s.2.2.1 s.2.2.2.1 s.2.2.2.2.1 s.2.2.2.2.2.1 s.2.2.2.2.2.2.1 s.2.2.2.2.2.2.2 0 w Z4l=some (dgI w s 64):=by
 have hk:=Zn9
 refine Zbc (fun j i=>Zq.l2 j (dgI w s i).1 (dgI w s i).2.1 (dgI w s i).2.2.1 (dgI w s i).2.2.2.1 (dgI w s i).2.2.2.2.1 (dgI w s i).2.2.2.2.2.1 (dgI w s i).2.2.2.2.2.2.1 (dgI w s i).2.2.2.2.2.2.2 (i:Int) w Z4l) 64 _ (fun i hi j=>?_) fun j=>?_
 ·conv=>lhs;unfold Zq.l2
  rw [Xa (by omega:(i:Int)<64),Zs (by omega),Xe];rw [Zvl _ (by omega),Zvl _ (by omega),Zvl _ (by omega),Zvl _ (by omega),Zvl _ (by omega),Zvl _ (by omega)];simp only [Yb];rw [atD (l:=Z4l) (j:=(i:Int)) (n:=i) 0 rfl (by omega),atD (l:=w) (j:=(i:Int)) (n:=i) 0 rfl (by omega)];simp only [Yb];rfl
 ·conv=>lhs;unfold Zq.l2
  rw [Xb (by omega:¬((64:Nat):Int)<64)];rfl
def lst (s:S8):List Int:=[s.1,s.2.1,s.2.2.1,s.2.2.2.1,s.2.2.2.2.1,s.2.2.2.2.2.1,s.2.2.2.2.2.2.1,s.2.2.2.2.2.2.2]
def dgP (x r:S8):S8:=(Ya .u32 (x.1+r.1),Ya .u32 (x.2.1+r.2.1),Ya .u32 (x.2.2.1+r.2.2.1),Ya .u32 (x.2.2.2.1+r.2.2.2.1),Ya .u32 (x.2.2.2.2.1+r.2.2.2.2.1),Ya .u32 (x.2.2.2.2.2.1+r.2.2.2.2.2.1),Ya .u32 (x.2.2.2.2.2.2.1+r.2.2.2.2.2.2.1),Ya .u32 (x.2.2.2.2.2.2.2+r.2.2.2.2.2.2.2))
def W32 (n:Int):Prop:=0≤n∧n<4294967296
def U32 (s:S8):Prop:=W32 s.1∧W32 s.2.1∧W32 s.2.2.1∧W32 s.2.2.2.1∧W32 s.2.2.2.2.1∧W32 s.2.2.2.2.2.1∧W32 s.2.2.2.2.2.2.1∧W32 s.2.2.2.2.2.2.2
theorem Zcn (n:Int):W32 (Ya .u32 n):=by
 unfold W32
 rw [Z0q]
 omega
theorem Zbn {n:Int} (h:W32 n):Ya .u32 n=n:=by
 unfold W32 at h
 rw [Z0q]
 omega
theorem w32l {n:Int} (h:W32 n):Ya .i64 n=n:=by
 unfold W32 at h
 exact w64 (by omega) (by omega)
theorem Z4fb (x r:S8):U32 (dgP x r):=⟨Zcn _,Zcn _,Zcn _,Zcn _,Zcn _,Zcn _,Zcn _,Zcn _⟩
theorem lt8 {i:Nat} (h:i<8):i=0∨i=1∨i=2∨i=3∨i=4∨i=5∨i=6∨i=7:=by omega
theorem Znjb (x r:S8):∀k,8<k→Zmb.l2 k r.1 r.2.1 r.2.2.1 r.2.2.2.1 r.2.2.2.2.1 r.2.2.2.2.2.1 r.2.2.2.2.2.2.1 r.2.2.2.2.2.2.2 0 (lst x)=some (lst (dgP x r)):=by
 refine Zbc (fun j i=>Zmb.l2 j r.1 r.2.1 r.2.2.1 r.2.2.2.1 r.2.2.2.2.1 r.2.2.2.2.2.1 r.2.2.2.2.2.2.1 r.2.2.2.2.2.2.2 (i:Int) ((lst (dgP x r)).take i++(lst x).drop i)) 8 _ (fun i hi j=>?_) fun j=>?_
 ·rcases lt8 hi with rfl | rfl | rfl | rfl | rfl | rfl | rfl | rfl <;> kernel_rfl
 ·kernel_rfl
def dgQ (x r:Int):Int:=Ya .i64 (Ya .u32 (Ya .u32 x+r))
def dgL (x r:S8):List Int:=[dgQ x.1 r.1,dgQ x.2.1 r.2.1,dgQ x.2.2.1 r.2.2.1,dgQ x.2.2.2.1 r.2.2.2.1,dgQ x.2.2.2.2.1 r.2.2.2.2.1,dgQ x.2.2.2.2.2.1 r.2.2.2.2.2.1,dgQ x.2.2.2.2.2.2.1 r.2.2.2.2.2.2.1,dgQ x.2.2.2.2.2.2.2 r.2.2.2.2.2.2.2]
theorem Zjnb (x r:S8):∀k,8<k→Zq.l3 k (lst x) 0 (lst r) []=some (dgL x r):=by
 refine Zbc (fun j i=>Zq.l3 j (lst x) (i:Int) (lst r) ((dgL x r).take i)) 8 _ (fun i hi j=>?_) fun j=>?_
 ·rcases lt8 hi with rfl | rfl | rfl | rfl | rfl | rfl | rfl | rfl <;> kernel_rfl
 ·kernel_rfl
theorem Zqn {x:Int} (r:Int) (h:W32 x):dgQ x r=Ya .u32 (x+r):=by
 unfold dgQ
 rw [Zbn h,w32l (Zcn _)]
def dgB (x:S8) (b:Str):S8:=dgP x (dgI (dgS b 64) x 64)
theorem Z49 (x:S8):at? (lst x) 0=some x.1∧at? (lst x) 1=some x.2.1∧at? (lst x) 2=some x.2.2.1∧at? (lst x) 3=some x.2.2.2.1∧at? (lst x) 4=some x.2.2.2.2.1∧at? (lst x) 5=some x.2.2.2.2.2.1∧at? (lst x) 6=some x.2.2.2.2.2.2.1∧at? (lst x) 7=some x.2.2.2.2.2.2.2:=⟨rfl,rfl,rfl,rfl,rfl,rfl,rfl,rfl⟩
theorem Zfib (x:S8) {b:Str} (hb:b.length=64) {k:Nat} (hk:66≤k):Zmb k (lst x) b=some (lst (dgB x b)):=by
 obtain ⟨a0,a1,a2,a3,a4,a5,a6,a7⟩:=Z49 x
 unfold Zmb
 refine Za (Zfjb hb _ (by omega)) ?_
 refine Za a0 (Za a0 (Za a1 (Za a1 (Za a2 (Za a2 (Za a3 (Za a3 (Za a4 (Za a4 (Za a5 (Za a5 (Za a6 (Za a6 (Za a7 (Za a7 ?_)))))))))))))))
 refine Za (Zcjb (Zhr b 64) x _ (by omega)) ?_
 refine Za (Znjb x _ _ (by omega)) ?_
 rw [dgB]
theorem Zqmb {x:S8} (hx:U32 x) {b:Str} (hb:b.length=64) {k:Nat} (hk:66≤k):Zq k (lst x) b=some (lst (dgB x b)):=by
 obtain ⟨h0,h1,h2,h3,h4,h5,h6,h7⟩:=hx
 obtain ⟨a0,a1,a2,a3,a4,a5,a6,a7⟩:=Z49 x
 have hm:Zdg 4 64 64 (0:Int)=some (Yd 64 0):=rfl
 have hs:Zq.l1 k 16 (dgS b 16)=some (dgS b 64):=Zfnb hb 48 16 _ rfl (Ye _) (by omega)
 unfold Zq
 refine Za hm (Za (Zenb hb _ (by omega)) (Za hs ?_))
 refine Za a0 (Za a1 (Za a2 (Za a3 (Za a4 (Za a5 (Za a6 (Za a7 (Za Z3jb ?_))))))))
 rw [Zbn h0,Zbn h1,Zbn h2,Zbn h3,Zbn h4,Zbn h5,Zbn h6,Zbn h7]
 refine Za (Zdnb (Zhr b 64) x _ (by omega)) ?_
 refine Za (Zjnb x (dgI (dgS b 64) x 64) _ (by omega)) ?_
 unfold dgL
 rw [Zqn _ h0,Zqn _ h1,Zqn _ h2,Zqn _ h3,Zqn _ h4,Zqn _ h5,Zqn _ h6,Zqn _ h7,dgB,dgP,lst]
def dgF:Nat→Str→S8→S8
 | 0,_,x=>x
 | n+1,s,x=>dgF n (s.drop 64) (dgB x (s.take 64))
theorem Zj7 (x:S8) (b:Str):U32 (dgB x b):=Z4fb _ _
theorem Z10:∀(n:Nat) (s:Str) {x:S8},U32 x→U32 (dgF n s x)
 | 0,_,_,h=>h
 | n+1,s,x,_=>Z10 n _ (Zj7 _ _)
theorem Zgib {k:Nat} (hk:66≤k):∀(n:Nat) (s:Str) (x:S8) (j:Nat),s.length=64*n→n<j→Zoc.l0 k j s (lst x)=some (lst (dgF n s x)):=by
 intro n
 induction n with
 | zero=>
  intro s x j hs hj;obtain ⟨j,rfl⟩:∃q,j=q+1:=⟨j-1,by omega⟩;obtain rfl:s=[]:=List.eq_nil_of_length_eq_zero (by omega);rfl
 | succ n ih=>
  intro s x j hs hj;obtain ⟨j,rfl⟩:∃q,j=q+1:=⟨j-1,by omega⟩
  have hne:(s==[])=false:=by
   cases s with
   | nil=>simp at hs
   | cons a s=>rfl
  have h1:Z3b s 0 64=some (s.take 64):=Z9f (l:=s) (i:=0) (j:=64) (by omega) (by omega)
  have h2:Z3b s 64 (s.length:Int)=some (s.drop 64):=by
   have:=Z9f (l:=s) (i:=64) (j:=s.length) (by omega) (Ye _);rw [Yk] at this;exact this
  unfold Zoc.l0;rw [hne];simp only [Yoa,Xe];refine Za h1 (Za (Zfib x (by simp;omega) hk) (Za h2 ?_));rw [ih (s.drop 64) _ j (by simp;omega) (by omega),dgF]
theorem Zsmb {k:Nat} (hk:66≤k) (all:Str) (hal:all.length≤1000000):∀(d q:Nat) (x:S8) (j:Nat),all.length=64*(q+d)→d<j→U32 x→Zr.l2 k j (Z9 all) ((64*q:Nat):Int) (lst x)=some (lst (dgF d (all.drop (64*q)) x)):=by
 have hbl:(Z9 all).length=all.length:=Zf0 all
 intro d
 induction d with
 | zero=>
  intro q x j h1 hj hx;obtain ⟨j,rfl⟩:∃q,j=q+1:=⟨j-1,by omega⟩;unfold Zr.l2;rw [Xb (by omega:¬((64*q:Nat):Int)<((Z9 all).length:Int))];rfl
 | succ d ih=>
  intro q x j h1 hj hx;obtain ⟨j,rfl⟩:∃q,j=q+1:=⟨j-1,by omega⟩;have hw:Ya .i64 (((64*q:Nat):Int)+64)=((64*(q+1):Nat):Int):=by rw [w64] <;> omega
  have hc:Z3b (Z9 all) ((64*q:Nat):Int) ((64*(q+1):Nat):Int)=some (Z9 ((all.drop (64*q)).take 64)):=by
   rw [Z9f (by omega) (by omega)];unfold Z9;rw [← Y1a,← List.map_drop,List.drop_take];congr 3;omega
  unfold Zr.l2;rw [Xa (by omega:((64*q:Nat):Int)<((Z9 all).length:Int)),hw];simp only [Xe];refine Za hc ?_;rw [Zbkb];refine Za (Zqmb hx (by simp;omega) hk) ?_;rw [ih (q+1) _ j (by omega) (by omega) (Zj7 _ _),dgF,List.drop_drop];rfl
def Zze (n:Nat):Nat:=(119-n%64)%64
def shN (n:Int):Nat→Int
 | 0=>n
 | q+1=>shr .u64 (shN n q) 8
def bb (c:Nat) (n:Int) (i:Nat):List Int:=Yd (c-i) 0++((Yj i).reverse.map fun q=>Ya .u8 (shN n q))
theorem Zeib (n:Int):∀k,8<k→Zrd k n 8=some (Zhb (bb 8 n 8)):=by
 intro k hk
 have h:∀k,8<k→Zrd.l0 k n (7-((0:Nat):Int)) (bb 8 n 0)=some (bb 8 n 8):=by
  refine Zbc (fun j i=>Zrd.l0 j (shN n i) (7-(i:Int)) (bb 8 n i)) 8 _ (fun i hi j=>?_) fun j=>?_
  ·rcases lt8 hi with rfl | rfl | rfl | rfl | rfl | rfl | rfl | rfl <;> kernel_rfl
  ·kernel_rfl
 have hm:Zdg 1 8 8 (0:Int)=some (Yd 8 0):=rfl
 unfold Zrd
 refine Za hm (Za (h k hk) rfl)
theorem Zdib (n:Int):∀k,4<k→Zrd k n 4=some (Zhb (bb 4 n 4)):=by
 intro k hk
 have h:∀k,4<k→Zrd.l0 k n (3-((0:Nat):Int)) (bb 4 n 0)=some (bb 4 n 4):=by
  refine Zbc (fun j i=>Zrd.l0 j (shN n i) (3-(i:Int)) (bb 4 n i)) 4 _ (fun i hi j=>?_) fun j=>?_
  ·rcases (by omega:i=0∨i=1∨i=2∨i=3) with rfl | rfl | rfl | rfl <;> kernel_rfl
  ·kernel_rfl
 have hm:Zdg 1 4 4 (0:Int)=some (Yd 4 0):=rfl
 unfold Zrd
 refine Za hm (Za (h k hk) rfl)
theorem Zscb (N:Nat):∀q,shN (N:Int) q=((N/2^(8*q):Nat):Int)
 | 0=>by simp [shN]
 | q+1=>by
  rw [shN,Zscb N q,show (8:Int)=((8:Nat):Int) from rfl,Zqh .u64 _ 8 (by decide),Nat.div_div_eq_div_mul,← Nat.pow_add,Nat.mul_add]
theorem Za6 (c:Nat) (N:Nat):bb c (N:Int) c=(Yj c).map fun i=>((N/2^(8*(c-1-i))%256:Nat):Int):=by
 unfold bb
 rw [Ycb,Y8a,Y6a]
 apply List.ext_getElem
 ·simp
 ·intro i h1 h2
  simp only [Yca,List.length_reverse,Yya] at h1;simp only [Yua,List.getElem_reverse,Yva,Yya];rw [Zscb,u8w];omega
def be8 (N:Nat):List Int:=(Yj 8).map fun i=>((N/2^(8*(8-1-i))%256:Nat):Int)
theorem Z3mb (N:Nat) (b:List Int) (hb:b.length≤1000000):∀k,8<k→Zr.l1 k (N:Int) 56 b=some (b++be8 N):=by
 have hl:(be8 N).length=8:=by simp [be8]
 have h:=Zbc (fun j i=>Zr.l1 j (N:Int) (56-8*(i:Int)) (b++(be8 N).take i)) 8 (b++be8 N) (fun i hi j=>?_) fun j=>?_
 ·intro k hk
  have:=h k hk;simpa using this
 ·have hn:(56:Int)-8*(i:Int)=((56-8*i:Nat):Int):=by omega
  conv=>lhs;unfold Zr.l1
  rw [Xa (by omega:(0:Int)≤56-8*(i:Int)),show Ya .i64 ((56:Int)-8*(i:Int)-8)=56-8*((i+1:Nat):Int) by rw [w64] <;> omega,Ziz (by omega) (by omega)];simp only [Xe]
  have he:Ya .u8 (shr .u64 (N:Int) (56-8*(i:Int)))=(be8 N)[i]'(by omega):=by
   rw [hn,Zqh .u64 _ _ (by show 56-8*i≤64;omega),u8w];simp only [be8,Yua,Yva];rw [show 8*(8-1-i)=56-8*i by omega];omega
  refine Za (Zvb (by omega)) (Za (Zlb (by simp;omega)) ?_);rw [he,Zhj (by omega),Ys]
 ·conv=>lhs;unfold Zr.l1
  rw [Xb (by omega:¬(0:Int)≤56-8*((8:Nat):Int)),Y9a (by omega)];rfl
theorem Z5eb {a b:Int} (h:a≠b):(a != b)=true:=by simp [h]
theorem Zonb (b:List Int) (n:Nat) (hb:b.length=n+1) (hn:n≤1000000):∀k,64<k→Zr.l0 k b=some (b++Yd (Zze n) 0):=by
 have hz:Zze n<64:=Yka _ (by omega)
 have h:=Zbc (fun j i=>Zr.l0 j (b++Yd i 0)) (Zze n) (b++Yd (Zze n) 0) (fun i hi j=>?_) fun j=>?_
 ·intro k hk
  have:=h k (by omega);rw [Y8a,Y1] at this;exact this
 ·have hm:Yu (((b++Yd i (0:Int)).length:Nat):Int) 64=(((n+1+i)%64:Nat):Int):=by
   rw [Y0 (by omega),Yf,Yda,hb];omega
  conv=>lhs;unfold Zr.l0
  refine Za (Zoi (by decide)) ?_;rw [hm,Z5eb (by unfold Zze at hi;omega)];simp only [Xe];refine Za (Zlb (by simp;omega)) ?_;rw [Ys,← List.replicate_succ']
 ·have hm:Yu (((b++Yd (Zze n) (0:Int)).length:Nat):Int) 64=56:=by
   rw [Y0 (by omega),Yf,Yda,hb];unfold Zze;omega
  conv=>lhs;unfold Zr.l0
  refine Za (Zoi (by decide)) ?_;rw [hm];rfl
def Zqo (t:Str):Str:=t++([128]:Str)++Yd (Zze t.length) 0++Zhb (be8 (8*t.length))
theorem Zwab (t:Str):(Zqo t).length=64*((t.length+9+Zze t.length)/64):=by
 unfold Zqo
 have:(Zhb (be8 (8*t.length))).length=8:=by rw [Z3g];simp [be8]
 simp only [Yf,Yda,this,Yea]
 unfold Zze
 omega
def Zzp:S8:=(1779033703,3144134277,1013904242,2773480762,1359893119,2600822924,528734635,1541459225)
def Zeg (x:Int):List Int:=bb 4 x 4
def Zsg (t:Str):Str:=Zhb ((lst (dgF ((t.length+9+Zze t.length)/64) (Zqo t) Zzp)).flatMap Zeg)
theorem iOut (x:S8) (hx:U32 x) {k:Nat} (hk:10≤k):Zoc.l1 k k [] x.1 x.2.1 x.2.2.1 x.2.2.2.1 x.2.2.2.2.1 x.2.2.2.2.2.1 x.2.2.2.2.2.2.1 x.2.2.2.2.2.2.2 0=some (Zhb ((lst x).flatMap Zeg)):=by
 have hl:(lst x).length=8:=rfl
 have hU:∀v∈lst x,W32 v:=by
  obtain ⟨h0,h1,h2,h3,h4,h5,h6,h7⟩:=hx;intro v hv;simp only [lst,Yg,Yw,or_false] at hv;rcases hv with rfl | rfl | rfl | rfl | rfl | rfl | rfl | rfl <;> assumption
 have ho:∀v,(Zeg v).length=4:=fun v=>by simp [Zeg,bb]
 have hfl:∀i,i≤8→(((lst x).take i).flatMap Zeg).length=4*i:=by
  intro i hi
  have:∀l:List Int,(l.flatMap Zeg).length=4*l.length:=fun l=>by
   induction l with
   | nil=>rfl
   | cons a l ih=>rw [Yta,Yf,ih,ho,Yn];omega
  rw [this,Yo,hl];omega
 have h:=Zbc (fun j i=>Zoc.l1 k j (Zhb (((lst x).take i).flatMap Zeg)) x.1 x.2.1 x.2.2.1 x.2.2.2.1 x.2.2.2.2.1 x.2.2.2.2.2.1 x.2.2.2.2.2.2.1 x.2.2.2.2.2.2.2 (i:Int)) 8 (Zhb ((lst x).flatMap Zeg)) (fun i hi j=>?_) fun j=>?_
 ·exact h k (by omega)
 ·conv=>lhs;unfold Zoc.l1
  rw [Xa (by omega:(i:Int)<8),Zs (by omega)];simp only [Xe];have hat:at? [x.1,x.2.1,x.2.2.1,x.2.2.2.1,x.2.2.2.2.1,x.2.2.2.2.2.1,x.2.2.2.2.2.2.1,x.2.2.2.2.2.2.2] (i:Int)=some ((lst x)[i]'(by omega)):=Zh (l:=lst x) (by omega);refine Za hat ?_;have hw:=hU _ (Yi (show i<(lst x).length by omega));rw [show Ya .u64 ((lst x)[i]'(by omega))=(lst x)[i]'(by omega) by unfold W32 at hw;exact Ziz hw.1 (by omega)];refine Za (Zdib _ k (by omega)) ?_;refine Za (Zjf (by rw [Z3g,Z3g,hfl i (by omega)];have:=ho ((lst x)[i]'(by omega));unfold Zeg at this;rw [this];omega)) ?_;rw [Zhj (by omega),Ysa,Zakb];simp [Zeg]
 ·conv=>lhs;unfold Zoc.l1
  rw [Xb (by omega:¬((8:Nat):Int)<8)];rfl
theorem sOut (x:S8) (hx:U32 x):∀k,8<k→Zr.l3 k 0 (lst x) []=some ((lst x).flatMap Zeg):=by
 have hl:(lst x).length=8:=rfl
 have hU:∀v∈lst x,W32 v:=by
  obtain ⟨h0,h1,h2,h3,h4,h5,h6,h7⟩:=hx;intro v hv;simp only [lst,Yg,Yw,or_false] at hv;rcases hv with rfl | rfl | rfl | rfl | rfl | rfl | rfl | rfl <;> assumption
 have ho:∀v,(Zeg v).length=4:=fun v=>by simp [Zeg,bb]
 have hfl:∀i,i≤8→(((lst x).take i).flatMap Zeg).length=4*i:=by
  intro i hi
  have:∀l:List Int,(l.flatMap Zeg).length=4*l.length:=fun l=>by
   induction l with
   | nil=>rfl
   | cons a l ih=>rw [Yta,Yf,ih,ho,Yn];omega
  rw [this,Yo,hl];omega
 refine Zbc (fun j i=>Zr.l3 j (i:Int) (lst x) (((lst x).take i).flatMap Zeg)) 8 _ (fun i hi j=>?_) fun j=>?_
 ·conv=>lhs;unfold Zr.l3
  rw [Xa (by omega:(i:Int)<8),Zs (by omega)];simp only [Xe];have hat:at? (lst x) (i:Int)=some ((lst x)[i]'(by omega)):=Zh (by omega);have hw:=hU _ (Yi (show i<(lst x).length by omega));refine Za hat (Za hat (Za (Zvb (by omega)) (Za (Zvb (by omega)) (Za (Zvb (by omega)) (Za (Zlb (by rw [hfl i (by omega)];simp;omega)) ?_)))));rw [Zhj (by omega),Ysa]
  have he:[Ya .u8 (shr .i64 ((lst x)[i]'(by omega)) 24),Ya .u8 (shr .i64 ((lst x)[i]'(by omega)) 16),Ya .u8 (shr .i64 ((lst x)[i]'(by omega)) 8),Ya .u8 ((lst x)[i]'(by omega))]=Zeg ((lst x)[i]'(by omega)):=by
   generalize (lst x)[i]'(by omega)=v at hw;unfold W32 at hw;obtain ⟨N,rfl⟩:∃N:Nat,v=(N:Int):=⟨v.toNat,by omega⟩;unfold Zeg;rw [Za6,show (24:Int)=((24:Nat):Int) from rfl,show (16:Int)=((16:Nat):Int) from rfl,show (8:Int)=((8:Nat):Int) from rfl,Zqh .i64 _ 24 (by decide),Zqh .i64 _ 16 (by decide),Zqh .i64 _ 8 (by decide),u8w,u8w,u8w,u8w];simp [Yj,Yj.loop]
  rw [he];simp
 ·conv=>lhs;unfold Zr.l3
  rw [Xb (by omega:¬((8:Nat):Int)<8)];rfl
theorem Z20:U32 Zzp:=by unfold U32 W32 Zzp;decide
theorem Zcfb (n:Nat):Z9 (Yd n 0)=Yd n 0:=by simp [Z9]
theorem Zbfb (N:Nat):Z9 (Zhb (be8 N))=be8 N:=by
 unfold Z9 Zhb
 rw [Yfa]
 have:∀z∈be8 N,0≤z∧z<256:=by
  intro z hz;obtain ⟨i,_,rfl⟩:=Y5.1 hz;omega
 have h2:∀l:List Int,(∀z∈l,0≤z∧z<256)→l.map ((fun b:UInt8=>((b.toNat:Nat):Int)) ∘ fun n:Int=>UInt8.ofNat n.toNat)=l:=by
  intro l
  induction l with
  | nil=>intro _;rfl
  | cons a l ih=>
   intro h;have ha:=h a Yp;rw [List.map_cons,ih fun z hz=>h z (Yv _ hz)];congr 1;show (((UInt8.ofNat a.toNat).toNat:Nat):Int)=a;rw [UInt8.toNat_ofNat'];omega
 exact h2 _ this
theorem iSha (t:Str) (ht:t.length≤100000) {k:Nat} (hk:200000≤k):Zoc k t=some (Zsg t):=by
 have hz:Zze t.length<64:=Yka _ (by omega)
 have hm:Yu (Ya .i64 (119-(Yu ((t.length):Int) 64))) 64=(Zze t.length:Int):=by
  have h1:Yu ((t.length):Int) 64=((t.length%64:Nat):Int):=by rw [Y0 (by omega)];omega
  rw [h1,w64 (by omega) (by omega),Y0 (by omega)];unfold Zze;omega
 have hr:strings_Repeat ([0]:Str) (Zze t.length:Int)=some (Yd (Zze t.length) 0):=by
  unfold strings_Repeat;rw [Xc ⟨by omega,by simp;omega,by omega⟩];have:Lib.repeatL ([0]:Str) (Zze t.length)=Yd (Zze t.length*1) 0:=Lib.repeatL_replicate 0 1 (Zze t.length);rw [Yr,this,Nat.mul_one]
 have hb:Ya .u64 (8*(Ya .u64 ((t.length):Int)))=((8*t.length:Nat):Int):=by rw [Zuf,Zuf];omega
 have h8:Zrd k ((8*t.length:Nat):Int) 8=some (Zhb (be8 (8*t.length))):=by
  rw [Zeib _ k (by omega),Za6];rfl
 have hl8:(Zhb (be8 (8*t.length))).length=8:=by rw [Z3g];simp [be8]
 unfold Zoc
 rw [hm,hb]
 refine Za (Zoi (by decide)) (Za (Zoi (by decide)) (Za (Zjf (by simp;omega)) (Za hr (Za (Zjf (by simp;omega)) (Za h8 (Za (Zjf (by rw [hl8];simp;omega)) ?_))))))
 have hp:=Zwab t
 have hF:=Zgib (k:=k) (by omega) ((t.length+9+Zze t.length)/64) (Zqo t) Zzp k hp (by omega)
 refine Za hF ?_
 refine Za (iOut (dgF ((t.length+9+Zze t.length)/64) (Zqo t) Zzp) (Z10 _ _ Z20) (by omega)) ?_
 rw [Zsg]
theorem sSha (t:Str) (ht:t.length≤100000) {k:Nat} (hk:200000≤k):Zr k t=some (Zsg t):=by
 have hz:Zze t.length<64:=Yka _ (by omega)
 have hbl:=Zf0 t
 have h0:Zfb 1 (Z9 t) [128]=some (Z9 t++[128]):=Zlb (by simp;omega)
 have h1:=Zonb (Z9 t++[128]) t.length (by simp [hbl]) (by omega) k (by omega)
 have hw:Ya .u64 (Ya .i64 (8*((t.length):Int)))=((8*t.length:Nat):Int):=by rw [w64 (by omega) (by omega),Ziz (by omega) (by omega)];omega
 have h2:=Z3mb (8*t.length) (Z9 t++[128]++Yd (Zze t.length) 0) (by simp [hbl];omega) k (by omega)
 have hall:Z9 t++[128]++Yd (Zze t.length) 0++be8 (8*t.length)=Z9 (Zqo t):=by
  unfold Zqo;rw [Ze0,Ze0,Ze0,Zcfb,Zbfb];rfl
 have hp:=Zwab t
 have h3:=Zsmb (k:=k) (by omega) (Zqo t) (by omega) ((t.length+9+Zze t.length)/64) 0 Zzp k (by omega) (by omega) Z20
 unfold Zr
 rw [hw]
 refine Za (Z33 (by omega)) (Za h0 (Za h1 (Za h2 ?_)))
 rw [hall]
 refine Za (a:=lst Zzp) rfl (Za h3 ?_)
 refine Za (sOut _ (Z10 _ _ Z20) k (by omega)) ?_
 rw [Zsg,Nat.mul_zero,Y2]
end Go.Proofs.Qz
namespace Go.Proofs.Qz
open Go
set_option linter.unusedVariables false
theorem Z1jb (l:List Str):Lib.join l []=l.flatten:=by
 cases l with
 | nil=>rfl
 | cons x r=>
  rw [Lib.join_cons,Lib.joinTail,List.flatten_cons];congr 2;exact Y0a r
theorem Zpib {l:List Str} (h:Zec l=true) {k:Nat} (hk:200000≤k):Z8n k l=some (Zsg l.flatten):=by
 obtain ⟨h1,h2,h3⟩:=Znh h
 have hf:=Zl1 l 8 fun s hs=>Yja (h3 s hs)
 have hj:strings_Join l []=some l.flatten:=by
  unfold strings_Join;rw [Z1jb,Xc ⟨by omega,by omega⟩]
 unfold Z8n
 exact Za hj (Za (iSha _ (by omega) hk) rfl)
theorem Zxmb {l:List Str} (h:Zec l=true):Zc fun k=>Z6o k l=some (Zsg l.flatten):=by
 obtain ⟨h1,h2,h3⟩:=Znh h
 have hf:=Zl1 l 8 fun s hs=>Yja (h3 s hs)
 have run:=Znfb (fun k j acc i=>Zue.l0 j l acc i) l id 8 100000 (fun s hs=>Yja (h3 s hs)) (fun i hi=>Zc.of fun k acc j ha=>by
  show Zue.l0 (j+1) l acc (i:Int)=_;have:=h3 _ (Yi hi)
  conv=>lhs;unfold Zue.l0
  rw [dlt hi,Zh hi,Zs (by omega)];simp only [Xe,Yb];rw [Zjf (by omega)];rfl) (fun k acc j=>by
  show Zue.l0 (j+1) l acc (l.length:Int)=_;unfold Zue.l0;rw [Zbb (Ye _)];rfl) [] (by simp;omega)
 refine (run.and (Zc.ge 200000 fun k hk=>hk)).mono fun k ⟨run,hk⟩=>?_
 have hj:Zue k l=some l.flatten:=by
  have run:Zue.l0 k l [] 0=some ([]++(l.map id).flatten):=run;rw [List.map_id,Y6a] at run;unfold Zue;exact Za run rfl
 unfold Z6o Z3m
 refine Za (Ze4 l (by omega)) ?_
 rw [h]
 simp only [Yq,Xf]
 refine Za hj ?_
 rw [Xb (by omega:¬(8000<(l.flatten.length:Int)))]
 exact Za (Za (sSha _ (by omega) hk) rfl) rfl
def Zxl (m:Zp) (st dn:Int) (w:Nat):Bool:=decide (Zwb (Ze m st w) m.1=0)&&(decide (Zob (Zl (Ze m st w))≤st)&&decide (dn≤((Zl (Ze m st w)).length:Int)))
def Z2f (m:Zp):Bool:=match stM m with
 | some (ph,tr,nd,st,dn,dg,v,w)=>Zec (Zpd m)&&(decide (ph≤2)||Zxl m st dn w)
 | none=>false
theorem Z4cb {s:Str} {a b c d e:Int} {x:Str} {v w:Nat} (h:Zfp s=some (a,b,c,d,e,x,v,w)):Zpf a b c d e x v w=true∧v<16777216∧w<16777216:=by
 unfold Zfp at h
 split at h
 ·split at h
  ·rename_i hc
   cases h;refine ⟨hc.2.2.2,?_,?_⟩
   ·have:=hc.2.1;omega
   ·have:=hc.2.2.1;omega
  ·cases h
 ·cases h
theorem Zp4 {m:Zp} {a b c d e:Int} {x:Str} {v w:Nat} (h:stM m=some (a,b,c,d,e,x,v,w)):Fit m d w∧(1≤a∧a≤5)∧Zpf a b c d e x v w=true:=by
 unfold stM at h
 split at h
 ·rename_i hc
  split at h
  ·have h:=(Z4cb h).1
   have h0:=h;unfold Zpf at h;rw [Yc,Yc,decide_eq_true_eq,decide_eq_true_eq,Yc] at h;refine ⟨⟨hc.1,hc.2.1,hc.2.2,?_⟩,h.1,h0⟩;have h2:=h.2.2;split at h2
   ·have h2:=of_decide_eq_true h2
    omega
   ·have h2:=of_decide_eq_true h2
    omega
  ·cases h
 ·cases h
theorem Zdx (m:Zp) (hl:m.2.1.length≤1048576) (hl2:m.2.2.length≤1048576):Zc fun k=>Z0h k m=some (Z2f m):=by
 unfold Z2f
 cases hs:stM m with
 | none=>
  refine (Zvr m hl hl2).mono fun k e=>?_
  rw [hs] at e;unfold Z0h;exact Za e rfl
 | some z=>
  obtain ⟨ph,tr,nd,st,dn,dg,v,w⟩:=z;obtain ⟨hf,hph,hst⟩:=Zp4 hs;have hb:=hf.b;have hn:=hf.n;have hll:=Zl2 m st w;dsimp only;have pre:Zc fun k=>Zsf k m=some (Z6x (some (ph,tr,nd,st,dn,dg,v,w))):=by rw [← hs];exact Zvr m hl hl2
  refine ((((pre.and (Z1t ph tr nd st dn dg (Zb v) hf)).and (Zix (Ze m st w) m.1 (by omega))).and (Zc.ge 1048577 fun k hk=>hk)).and (if hc:Zwb (Ze m st w) m.1=0 then (Zur (Ze m st w) (Z8f hc).1 (Znj hc)).mono fun k e _=>e else Zc.of fun k q=>absurd q hc:Zc fun k=>Zwb (Ze m st w) m.1=0→Zib k (Ze m st w)=some (Zl (Ze m st w)))).mono fun k ⟨⟨⟨⟨e1,e2⟩,e3⟩,hk⟩,e4⟩=>?_
  unfold Z0h;refine Za e1 ?_;show (bif !true then _ else _)=_;rw [Yq,Xf];refine Za (Z7w (m:=m) ⟨by omega,hb.2⟩ (by omega) hl2 hk) (Za (Z18 (Zpd m) (by omega)) ?_);cases Zec (Zpd m) with
  | false=>rfl
  | true=>
   rw [Yq,Xf,Yz];show (bif (ph==1)||(ph==2) then _ else _)=_
   by_cases hp:ph≤2
   ·rw [show ((ph==1)||(ph==2))=true by
     rcases (by omega:ph=1∨ph=2) with q | q <;> rw [q] <;> rfl,Xa hp]
    rfl
   ·rw [show ((ph==1)||(ph==2))=false by
     have h1:(ph==1)=false:=by simp;omega
     have h2:(ph==2)=false:=by simp;omega
     rw [h1,h2];rfl,Xb hp,Xf,Yna]
    refine Za e2 (Za e3 ?_);unfold Zxl
    by_cases hc:Zwb (Ze m st w) m.1=0
    ·have hpl:=Zay _ (Z8f hc).1 (Znj hc)
     rw [show (Zwb (Ze m st w) m.1 != 0)=false by simpa using hc,Xf,Xa hc,Yz];refine Za (e4 hc) (Za (Z78 _ (by omega) k (by omega)) ?_);show (bif decide (Zob (Zl (Ze m st w))≤st) then _ else _)=_;cases decide (Zob (Zl (Ze m st w))≤st) <;> rfl
    ·rw [show (Zwb (Ze m st w) m.1 != 0)=true by simpa using hc,Xb hc]
     rfl
def Zvq (b:Int) (m:Zsc):Bool:=(m.1==1)&&(m.2.2.1==b)
def doP (b:Int) (m:Zsc):Bool:=(m.1==2)&&(m.2.2.1==b)
def Z8m (mv:List Zsc) (dn:Nat) (b:Int):Int:=match Zgb (Zvq b) (mv.take dn) 0 with
 | some i=>(mv.getD i (0,(0,(0,0)))).2.2.2
 | none=>-1
theorem Zn1 {l:List Zsc} {i:Nat} (h:i<l.length):l.getD i (0,(0,(0,0)))=l[i]:=by
 rw [Ym,Yh h]
 rfl
theorem Zijb {mv:List Zsc} {dn:Nat} (h:dn≤mv.length) (hl:mv.length≤40) (b:Int) {k:Nat} (hk:100≤k):Zmd k mv (dn:Int) b=some (Z8m mv dn b):=by
 have hlen:(mv.take dn).length=dn:=by rw [Yo];omega
 have run:=Z1h (fun j i=>Zmd.l0 j b (mv.take dn) ((mv.take dn).length:Int) i) (mv.take dn) (Zvq b) (.inl ()) (fun i=>.inr (mv.getD i (0,(0,(0,0)))).2.2.2) (fun i hi=>⟨fun hp j=>?_,fun hp j=>?_⟩) (fun j=>?_) (k:=k) (by omega)
 ·have run:Zmd.l0 k b (mv.take dn) ((mv.take dn).length:Int) 0=_:=run
  have hc:Z3b mv 0 (dn:Int)=some (mv.take dn):=by
   have:=Z9f (l:=mv) (i:=0) (j:=dn) (by omega) h
   rwa [Y2] at this
  unfold Zmd Z8m;refine Za hc (Za run ?_);cases Zgb (Zvq b) (mv.take dn) 0 <;> rfl
 ·show Zmd.l0 (j+1) b (mv.take dn) _ (i:Int)=Zmd.l0 j b (mv.take dn) _ ((i+1:Nat):Int)
  conv=>lhs;unfold Zmd.l0
  rw [dlt hi,Zs (by omega),Xe];refine Za (Zh hi) ?_;unfold Zvq at hp;rw [hp];rfl
 ·show Zmd.l0 (j+1) b (mv.take dn) _ (i:Int)=_
  conv=>lhs;unfold Zmd.l0
  rw [dlt hi,Zs (by omega),Xe];refine Za (Zh hi) ?_;unfold Zvq at hp;rw [hp,Xe,Zn1 (by omega),Ywa]
 ·show Zmd.l0 (j+1) b (mv.take dn) _ _=_
  unfold Zmd.l0;rw [Zbb (Ye _)];rfl
theorem Z4nb {l:List Zg} {n:Int} (h:Zwb l n=0) (dn:Nat) (b:Int):Z8m (Zl l) dn b = -1∨(0≤Z8m (Zl l) dn b∧Z8m (Zl l) dn b<Zob (Zl l)):=by
 unfold Z8m
 cases hf:Zgb (Zvq b) ((Zl l).take dn) 0 with
 | none=>exact .inl rfl
 | some i=>
  right;obtain ⟨_,hi,hp,_⟩:=Z4i hf;simp only [Ydb] at hi hp;rw [Yo] at hi;rw [Ywa] at hp;dsimp only;rw [Zn1 (by omega)];have hm:(Zl l)[i]? = some (Zl l)[i]:=Yh (by omega);unfold Zvq at hp;rw [Yc] at hp;have h1:(Zl l)[i].1=1:=by simpa using hp.1
  obtain ⟨j,_,q | q⟩:=(Z1ab h).form i _ hm
  ·rw [q] at h1
   cases h1
  ·have hs:(Zl l)[i].2.2.2=Zob ((Zl l).take i):=by rw [q]
   rw [hs];exact ⟨(Z8u _).1,Zxcb hm h1⟩
def Z5p (m:Zp) (w:Nat) (mv:List Zsc) (dn:Nat) (x:Zg):Str:=if x.1=3∨x.1=4 then (if 0≤Z8m mv dn x.2.2.1 then Zk m.2 (3+m.1+(Zb w).getD (Z8m mv dn x.2.2.1).toNat 0) else Zk m.2 (3+x.2.2.1)) else []
def Zol (m:Zp) (w:Nat) (mv:List Zsc) (dn:Nat) (x:Zg):Str:=Zaj x (Z5p m w mv dn x)
structure Sound (m:Zp) (st dn:Int) (w:Nat):Prop where
 fit:Fit m st w
 code:Zwb (Ze m st w) m.1=0
 slots:Zob (Zl (Ze m st w))≤st
 dn:0≤dn∧dn≤((Zl (Ze m st w)).length:Int)
theorem Sound.plan {m:Zp} {st dn:Int} {w:Nat} (h:Sound m st dn w):(Zl (Ze m st w)).length≤28:=Zay _ (Z8f h.code).1 (Znj h.code)
theorem Zzv {w:Nat} {n:Int} (h0:0≤n) (h1:n<((Zb w).length:Int)):at? (Zb w) n=some ((Zb w).getD n.toNat 0)∧0≤(Zb w).getD n.toNat 0∧(Zb w).getD n.toNat 0≤23:=by
 obtain ⟨i,rfl⟩:∃i:Nat,n=(i:Int):=⟨n.toNat,by omega⟩
 have hi:i<(Zb w).length:=by omega
 have hg:(Zb w).getD i 0=(Zb w)[i]:=by
  rw [Ym,Yh hi];rfl
 rw [Yr,hg]
 exact ⟨Zh hi,Z2k hi⟩
theorem Zx8 {m:Zp} {st:Int} {w:Nat} (h:Fit m st w) {n:Int} (h0:0≤n) (h1:n≤23) {k:Nat} (hk:1048577≤k):Zfi k (m.1,(m.2.1,m.2.2)) n=some (Zk m.2 (3+m.1+n)):=by
 have hb:=h.b
 have hn:=h.n
 unfold Zfi Z2g
 rw [w64 (n:=3+m.1) (by omega) (by omega),w64 (by omega) (by omega)]
 exact Za rfl (Za (Zvn m.2 _ h.dirt (by omega) (by omega) (by have:=h.dirt;omega)) rfl)
theorem Z6w {m:Zp} {st:Int} {w:Nat} (h:Fit m st w) {n:Int} (h0:0≤n) (h1:n≤23):Z2g m n=some (3+m.1+n):=by
 have hb:=h.b
 unfold Z2g
 rw [w64 (n:=3+m.1) (by omega) (by omega),w64 (by omega) (by omega)]
theorem Z38 {m:Zp} {st dn:Int} {w:Nat} (h:Sound m st dn w) (ph tr nd:Int) (dg:Str) (v:List Int) {x:Zg} (hx:WriteOk x m.1) {k:Nat} (hk:1048577≤k):
  Zmf k m (ph,(tr,(nd,(st,(dn,(dg,(v,Zb w))))))) (Zl (Ze m st w)) x=some (Zol m w (Zl (Ze m st w)) dn.toNat x):=by
 have hb:=h.fit.b
 have hn:=h.fit.n
 have hd:=h.fit.dirt
 have hdn:=h.dn
 have hpl:=h.plan
 have hsl:=h.slots
 have hs:=h.fit.s
 have hsrc:=hx.src
 have hrd:Zlf k (m.2.1,m.2.2) (3+x.2.2.1)=some (Zk m.2 (3+x.2.2.1)):=Zvn m.2 _ hd (by omega) (by omega) (by omega)
 have hso:=Zijb (mv:=Zl (Ze m st w)) (dn:=dn.toNat) (by omega) (by omega) x.2.2.1 (k:=k) (by omega)
 rw [Yqa hdn.1] at hso
 have hj:Zmf.j0 k (Zl (Ze m st w)) m.1 m.2.1 m.2.2 ph tr nd st dn dg v (Zb w) [] x.1 x.2.1 x.2.2.1 x.2.2.2=some (Z5p m w (Zl (Ze m st w)) dn.toNat x,x):=by
  unfold Zmf.j0 Z5p
  by_cases c:x.1=3∨x.1=4
  ·rw [Xc c,show ((x.1==3)||(x.1==4))=true by rcases c with q | q <;> rw [q] <;> rfl,Xe,w64 (n:=3+x.2.2.1) (by omega) (by omega)]
   refine Za hrd (Za hso ?_);rcases Z4nb h.code dn.toNat x.2.2.1 with q | ⟨q1,q2⟩
   ·rw [q]
    rfl
   ·obtain ⟨e1,e2,e3⟩:=Zzv (w:=w) (n:=Z8m (Zl (Ze m st w)) dn.toNat x.2.2.1) q1 (by omega)
    rw [Xa q1,Xe,Xc q1];exact Za e1 (Za (Zx8 h.fit e2 e3 hk) rfl)
  ·rw [Xd c,show ((x.1==3)||(x.1==4))=false by
    rw [Bool.or_eq_false_iff];exact ⟨by simp;omega,by simp;omega⟩]
   rfl
 unfold Zmf Zol
 refine Za hj ?_
 dsimp only
 by_cases c4:x.1=4
 ·by_cases c8:(Z5p m w (Zl (Ze m st w)) dn.toNat x).length=8
  ·rw [show ((x.1==4)&&(((Z5p m w (Zl (Ze m st w)) dn.toNat x).length:Int) != 8))=false by rw [c8];simp,Xf]
   have hdata:x.2.2.2.length=8:=by rcases hx.kind with q | q | q | q;omega;omega;omega;exact q.2
   exact Za (Zv1 (.inr (.inr (.inr ⟨c8,hdata⟩))) (by omega)) rfl
  ·rw [show ((x.1==4)&&(((Z5p m w (Zl (Ze m st w)) dn.toNat x).length:Int) != 8))=true by
    rw [Yc];exact ⟨by simpa using c4,by simp;omega⟩]
   unfold Zaj Zsh;rw [Xd (by omega),Xd (by omega),Xd (by omega),Xd (fun q=>c8 q.1)];rfl
 ·rw [show (x.1==4)=false by simpa using c4,Bool.false_and,Xf]
  exact Za (Zv1 (by rcases hx.kind with q | q | q | q;exact .inl q;exact .inr (.inl q);exact .inr (.inr (.inl q));exact absurd q.1 c4) (by omega)) rfl
def Z5k (mv:List Zsc) (dn:Nat) (b:Int):Bool:=(mv.take dn).any (doP b)
def Zfz (m:Zp) (st dn:Int) (w:Nat):List Str:=Z5g (Zpd m) (Zi (Ze m st w)) (Z5k (Zl (Ze m st w)) dn.toNat) (Zol m w (Zl (Ze m st w)) dn.toNat)
theorem Z95 (m:Zp):(Zpd m).length=m.1.toNat:=by simp [Zpd]
theorem Zrib (l:List Zsc) (hl:l.length≤40) (b:Int) {k:Nat} (hk:100≤k):Zyo k l b=some (l.any (doP b),b):=by
 have run:=Z1h (fun j i=>Zvd.l0 j l (l.length:Int) i b) l (doP b) (.inl b) (fun i=>.inr ((i:Int),b)) (fun i hi=>⟨fun hp j=>?_,fun hp j=>?_⟩) (fun j=>?_) (k:=k) (by omega)
 ·have run:Zvd.l0 k l (l.length:Int) 0 b=_:=run
  have hany:=Ztt (p:=doP b) (l:=l) (n:=0);unfold Zyo Zvd;rw [run];cases hf:Zgb (doP b) l 0 with
  | none=>
   rw [hf] at hany;rw [← hany];rfl
  | some i=>
   rw [hf] at hany;rw [← hany];simp only [Yb];rw [Xa (by omega:(0:Int)≤(i:Int))];rfl
 ·show Zvd.l0 (j+1) l _ (i:Int) b=Zvd.l0 j l _ ((i+1:Nat):Int) b
  conv=>lhs;unfold Zvd.l0
  rw [dlt hi,Zs (by omega),Xe];refine Za (Zh hi) ?_;unfold Z4n;unfold doP at hp;rw [hp];rfl
 ·show Zvd.l0 (j+1) l _ (i:Int) b=_
  conv=>lhs;unfold Zvd.l0
  rw [dlt hi,Zs (by omega),Xe];refine Za (Zh hi) ?_;unfold Z4n;unfold doP at hp;rw [hp];rfl
 ·show Zvd.l0 (j+1) l _ _ b=_
  unfold Zvd.l0;rw [Zbb (Ye _)];rfl
theorem Zrjb {m:Zp} {st dn:Int} {w:Nat} (h:Sound m st dn w) (ph tr nd:Int) (dg:Str) (v:List Int) {k:Nat} (hk:1048577≤k):
  Zqd.l0 k k m.1 m.2.1 m.2.2 (Zi (Ze m st w)) ((Zi (Ze m st w)).length:Int) 0 ph tr nd st dn dg (Zpd m) v (Zb w) (Zl (Ze m st w))=some (ph,(tr,(nd,(st,(dn,(dg,(Zfz m st dn w,(v,(Zb w,Zl (Ze m st w)))))))))):=by
 have hb:=h.fit.b
 have hdn:=h.dn
 have hpl:=h.plan
 have hbl:=Z95 m
 have hll:=Zl2 m st w
 have hwl:(Zi (Ze m st w)).length≤(Ze m st w).length:=Yxa _ _
 have hnd:((Zi (Ze m st w)).map fun x=>x.2.1).Nodup:=(Z8f h.code).2.2.2.2.1
 have run:=Zbc (fun j i=>Zqd.l0 k j m.1 m.2.1 m.2.2 (Zi (Ze m st w)) ((Zi (Ze m st w)).length:Int) (i:Int) ph tr nd st dn dg (Z5g (Zpd m) ((Zi (Ze m st w)).take i) (Z5k (Zl (Ze m st w)) dn.toNat) (Zol m w (Zl (Ze m st w)) dn.toNat)) v (Zb w) (Zl (Ze m st w))) (Zi (Ze m st w)).length (ph,(tr,(nd,(st,(dn,(dg,(Zfz m st dn w,(v,(Zb w,Zl (Ze m st w)))))))))) (fun i hi j=>?_) (fun j=>?_) k (by omega)
 ·have run:Zqd.l0 k k m.1 m.2.1 m.2.2 (Zi (Ze m st w)) ((Zi (Ze m st w)).length:Int) 0 ph tr nd st dn dg (Z5g (Zpd m) [] (Z5k (Zl (Ze m st w)) dn.toNat) (Zol m w (Zl (Ze m st w)) dn.toNat)) v (Zb w) (Zl (Ze m st w))=_:=run
  rw [Zsdb] at run;exact run
 ·have hx:=Zhz h.code _ (Yi hi)
  have hto:=hx.tgt;have hv:(Z5g (Zpd m) ((Zi (Ze m st w)).take i) (Z5k (Zl (Ze m st w)) dn.toNat) (Zol m w (Zl (Ze m st w)) dn.toNat)).length=(Zpd m).length:=Zij _ _ _ _;have hat:=Zyv (l:=Z5g (Zpd m) ((Zi (Ze m st w)).take i) (Z5k (Zl (Ze m st w)) dn.toNat) (Zol m w (Zl (Ze m st w)) dn.toNat)) hto.1 (by rw [hv];omega)
  have hcut:Z3b (Zl (Ze m st w)) 0 dn=some ((Zl (Ze m st w)).take dn.toNat):=by
   have:=Z9f (l:=Zl (Ze m st w)) (i:=0) (j:=dn.toNat) (by omega) (by omega);rw [Y2,Yqa hdn.1] at this;exact this
  have hdone:Z3n k (Zi (Ze m st w))[i].2.1 (Zl (Ze m st w)) (ph,(tr,(nd,(st,(dn,(dg,(v,Zb w)))))))=some (Z5k (Zl (Ze m st w)) dn.toNat (Zi (Ze m st w))[i].2.1):=by
   unfold Z3n;exact Za hcut (Za (Zrib _ (by rw [Yo];omega) _ (by omega)) rfl)
  conv=>lhs;unfold Zqd.l0
  rw [dlt hi,Zs (by omega),Xe];refine Za (Zh hi) (Za hdone ?_);rw [Ztdb hnd hi hto.1 (by omega)];cases hq:Z5k (Zl (Ze m st w)) dn.toNat (Zi (Ze m st w))[i].2.1 with
  | true=>rfl
  | false=>
   rw [Yoa,Xe,Xd Yy];exact Za (Z38 h ph tr nd dg v hx hk) (Za hat (Za hat rfl))
 ·conv=>lhs;unfold Zqd.l0
  rw [Zbb (Ye _),Yk];rfl
theorem Zelb:∀a:Nat,a<256→intBits .or .u8 ((a:Nat):Int) 128=((a%128+128:Nat):Int):=by decide +kernel
theorem Zf9:∀(f u:Nat) (acc:List Int) (j:Nat),u<128^f→u<18446744073709551616→acc.length+f≤100→0<f→f<j+1→∃p:Int×List Int,Z8b.l1 j (u:Int) acc=some p∧p.2.length≤100∧p.2++[Ya .u8 p.1]=acc++Zjc f u
 | 0,_,_,_,_,_,_,h,_=>absurd h (by omega)
 | f+1,u,acc,0,hu,hb,hl,_,hj=>by omega
 | f+1,u,acc,j+1,hu,hb,hl,_,hj=>by
  unfold Z8b.l1
  by_cases h:128≤u
  ·have hf:0<f:=by
    rcases Nat.eq_zero_or_pos f with rfl | h'
    ·simp at hu;omega
    ·exact h'
   obtain ⟨p,e,e1,e2⟩:=Zf9 f (u/128) (acc++[((u%128+128:Nat):Int)]) j (by rw [Ybb] at hu;exact Yab (by rw [Nat.mul_comm];exact hu)) (by omega) (by simp;omega) hf (by omega);refine ⟨p,?_,e1,?_⟩
   ·have e3:intBits .or .u8 (Ya .u8 (u:Int)) 128=((u%128+128:Nat):Int):=by
     rw [u8w,show (u:Int)%256=((u%256:Nat):Int) by omega,Zelb _ (by omega)];congr 1;omega
    have e4:shr .u64 (u:Int) 7=((u/128:Nat):Int):=Zqh .u64 u 7 (by decide);rw [Xa (by omega:(127:Int)<(u:Int)),e3,e4];simp only [Xe];rw [Zlb (by simp;omega),Zvb (by omega)];exact e
   ·rw [e2,Ys]
    simp [Zjc,h]
  ·refine ⟨((u:Int),acc),?_,by show acc.length≤100;omega,?_⟩
   ·rw [Xb (by omega:¬((127:Int)<(u:Int)))]
    rfl
   ·show acc++[Ya .u8 (u:Int)]=_
    rw [u8w,show ((u:Int)%256)=(u:Int) by omega];simp [Zjc,h]
theorem Z4kb (a:Nat) (h:a<18446744073709551616):intBits .xor .u64 (Yra .u64) (a:Int)=((18446744073709551615-a:Nat):Int):=by
 show Ya .u64 (((Yl 64 ((18446744073709551615:Nat):Int)) ^^^ (Yl 64 (a:Int))).toNat:Int)=_
 have e:(BitVec.ofNat 64 18446744073709551615)=BitVec.allOnes 64:=by decide
 rw [Yma,Yma,e,BitVec.allOnes_xor,BitVec.toNat_not,BitVec.toNat_ofNat,Zuf,Nat.mod_eq_of_lt (show a<2^64 by omega)]
 omega
theorem Zex (n:Int) (h:Num n):Zc fun k=>Z8b k n=some (Zj n):=by
 refine Zc.ge 10 fun k hk=>?_
 have hz:=Zd5 h
 obtain ⟨p,e,e1,e2⟩:=Zf9 10 (zig n) [] k (by omega) hz (by simp) (by omega) (by omega)
 have hs:Z8b.j0 n (shl .u64 (Ya .u64 n) 1)=some ((zig n:Nat):Int):=by
  unfold Num at h
  have e0:shl .u64 (Ya .u64 n) 1=(2*n)%18446744073709551616:=by
   have:shl .u64 (Ya .u64 n) 1=Ya .u64 (Ya .u64 n*2):=rfl;rw [this,Zuf,Zuf];omega
  unfold Z8b.j0;rw [e0]
  by_cases hn:n<0
  ·rw [Xa hn,show (2*n)%18446744073709551616=((18446744073709551616+2*n).toNat:Int) by omega,Xe,Z4kb _ (by omega)]
   congr 1;unfold zig;rw [Xc hn];omega
  ·rw [Xb hn,Xf]
   congr 1;unfold zig;rw [Xd hn];omega
 unfold Z8b
 rw [Zvb (by omega),hs]
 simp only [Yb]
 rw [e]
 simp only [Yb]
 rw [Zlb (by simp;omega),e2]
 rfl
def Zbj:List Int→Str
 | []=>[]
 | n::l=>Zj n++Zbj l
theorem Zv3:∀l:List Int,(Zbj l).length≤10*l.length
 | []=>Nat.zero_le _
 | n::l=>by
  have:=Zhe n;have:=Zv3 l;simp only [Zbj,Yf,Yn];omega
theorem Zy1 (l:List Int) (hw:∀n∈l,Num n) (hl:l.length≤1000000):Zc fun k=>Zsd k l=some (Zbj l):=by
 have hp:Zc fun k=>∀i,i<l.length→∀n,l[i]? = some n→Z8b k n=some (Zj n):=Zc.all fun i hi=>(Zex l[i] (hw _ (Yi hi))).mono fun k h n hn=>by
  rw [Yh hi] at hn;cases hn;exact h
 have key:∀(d i:Nat) (acc:Str),l.length-i=d→i≤l.length→acc.length≤10*i→Zc fun k=>∀j,d<j→Zsd.l0 k j acc l (l.length:Int) (i:Int)=some (acc++Zbj (l.drop i)):=by
  intro d
  induction d with
  | zero=>
   intro i acc hd hi ha;refine Zc.of fun k j hj=>?_
   obtain ⟨j,rfl⟩:∃m,j=m+1:=⟨j-1,by omega⟩;unfold Zsd.l0;rw [Xb (by omega:¬((i:Int)<(l.length:Int))),List.drop_eq_nil_of_le (by omega)];simp only [Xf,Zbj,Y1]
  | succ d ih=>
   intro i acc hd hi ha;have hlt:i<l.length:=by omega
   have:=Zhe l[i];refine (hp.and (ih (i+1) (acc++Zj l[i]) (by omega) (by omega) (by rw [Yf];omega))).mono fun k ⟨h1,h2⟩ j hj=>?_
   obtain ⟨j,rfl⟩:∃m,j=m+1:=⟨j-1,by omega⟩;unfold Zsd.l0;rw [Xa (by omega:(i:Int)<(l.length:Int)),Zh hlt];simp only [Xe,Yb];rw [h1 i hlt _ (Yh hlt)];simp only [Yb];rw [Zjf (by omega)];simp only [Yb];rw [Zs (by omega),h2 j (by omega),List.drop_eq_getElem_cons hlt,Zbj,Ys]
 obtain ⟨K,h⟩:=key l.length 0 [] (by omega) (by omega) (by simp)
 refine Zc.ge (K+l.length+1) fun k hk=>?_
 have h:=h k (by omega) k (by omega)
 have h:Zsd.l0 k k [] l (l.length:Int) 0=some (Zbj l):=h
 unfold Zsd
 rw [h]
 rfl
theorem Zfx (s:Str) (h:s.length≤1000000):Zc fun k=>Zgi k s=some (Znb s):=by
 refine (Zex (s.length:Int) (by constructor <;> omega)).mono fun k e=>?_
 have:=Zhe (s.length:Int)
 unfold Zgi Znb
 rw [e]
 simp only [Yb]
 rw [Zjf (by omega)]
 rfl
def Ztk (x:Zg):Str:=Zj x.1++Zj x.2.1++Zj x.2.2.1++Znb x.2.2.2
def Zmz (x:Zg):Prop:=Num x.1∧Num x.2.1∧Num x.2.2.1
theorem Zslb (x y z:Int):Zbj [x,y,z]=Zj x++Zj y++Zj z:=by simp [Zbj]
theorem Zmjb (x:Zg) (hn:Zmz x) (h:x.2.2.2.length≤8):Zc fun k=>Zko k x=some (Ztk x):=by
 have l1:=Zhe x.1
 have l2:=Zhe x.2.1
 have l3:=Zhe x.2.2.1
 have l4:=Ztl x.2.2.2
 refine ((Zy1 [x.1,x.2.1,x.2.2.1] (by
  intro n hm;simp only [Yg,Yw,or_false] at hm;rcases hm with rfl | rfl | rfl
  ·exact hn.1
  ·exact hn.2.1
  ·exact hn.2.2) (by simp)).and (Zfx x.2.2.2 (by omega))).mono fun k ⟨h1,h2⟩=>?_
 unfold Zko Ztk
 rw [h1,h2,Zslb]
 simp only [Yb]
 rw [Zjf (by simp;omega)]
 rfl
abbrev Z4b:=Bool×Int×Str
def Zzc:Z4b:=(true,(0,[]))
def Zkk (n:Int) (t:Str):Str:=Z4f (Zj n++Znb t)
def Zml (f:Zy) (t:Str):List Z4b:=if (Zm f).1<1000000 then [(false,((if (Zm f).2.2.2=0 then 1 else 0),Zkk ((Zm f).1+1) t)),Zzc] else []
theorem Z0r (f:Zy) (t:Str):(Zml f t).length≤2:=by unfold Zml;split <;> simp
theorem Zaab (s:Str):0≤(Z0b s).1∧(Z0b s).1≤1000000:=by
 unfold Z0b
 split
 ·split
  ·split
   ·rename_i h
    have h:=h.2;unfold Zpl at h;simp only [Yc,decide_eq_true_eq] at h;exact ⟨by show 0≤_;omega,h.1.2⟩
   ·simp
  ·simp
 ·simp
theorem Zxx (f:Zy):0≤(Zm f).1∧(Zm f).1≤1000000:=by
 unfold Zm
 split
 ·exact Zaab _
 ·split
  ·exact Zaab _
  ·simp
theorem Zzib (n:Int) (t:Str) (hn:Num n) (ht:t.length≤80):Zc fun k=>Ztm k n t=some (Zkk n t):=by
 have l1:=Zhe n
 have l4:=Ztl t
 refine (((Zex n hn).and (Zfx t (by omega))).and (Zgx (Zj n++Znb t) (by simp;omega))).mono fun k ⟨⟨a,b⟩,c⟩=>?_
 unfold Ztm
 exact Za a (Za b (Za (Zjf (by omega)) (Za c rfl)))
theorem Z48 {f:Zy} (h:Z0f f=true) (h2:2≤f.1.length) (t:Str) (ht:t.length≤80):Zc fun k=>Zil k f t=some (Zml f t):=by
 have hg:=Zxx f
 refine ((Zw1 h h2).and (Zzib ((Zm f).1+1) t (by constructor <;> omega) ht)).mono fun k ⟨a,b⟩=>?_
 unfold Zil Zml
 refine Za a ?_
 dsimp only
 rw [w64 (n:=(Zm f).1+1) (by omega) (by omega)]
 by_cases c:(Zm f).1<1000000
 ·rw [Xc c,Xb (by omega:¬((1000000:Int)<(Zm f).1+1)),Xf]
  by_cases d:(Zm f).2.2.2=0
  ·rw [Xc d,show ((Zm f).2.2.2==0)=true by simpa using d,Xe]
   exact Za b rfl
  ·rw [Xd d,show ((Zm f).2.2.2==0)=false by simpa using d,Xf]
   exact Za b rfl
 ·rw [Xd c,Xa (by omega:(1000000:Int)<(Zm f).1+1)]
  rfl
theorem Z6mb {f:Zy} (h:Z0f f=true) (h2:2≤f.1.length) (t:Str) (ht:t.length≤80):Zc fun k=>Zcp k f t=some (Zml f t):=by
 have hg:=Zxx f
 refine ((Z7mb h h2).and (Zdcb ((Zm f).1+1) t (by constructor <;> omega) (by omega))).mono fun k ⟨a,b⟩=>?_
 unfold Zcp Zml
 refine Za a ?_
 dsimp only
 by_cases c:(Zm f).1<1000000
 ·have hm:Zpl ((Zm f).1+1) t=true:=by
   unfold Zpl;rw [Xa (by omega:1≤(Zm f).1+1),Xa (by omega:(Zm f).1+1≤1000000),Xa ht];rfl
  rw [hm,Xc rfl] at b;rw [Xc c,Xb (by omega:¬((1000000:Int)≤(Zm f).1)),Xf,w64 (n:=(Zm f).1+1) (by omega) (by omega)]
  by_cases d:(Zm f).2.2.2=0
  ·rw [Xc d,show ((Zm f).2.2.2 != 0)=false by simpa using d,Xf]
   exact Za b rfl
  ·rw [Xd d,show ((Zm f).2.2.2 != 0)=true by simpa using d,Xe]
   exact Za b rfl
 ·rw [Xd c,Xa (by omega:(1000000:Int)≤(Zm f).1)]
  rfl
theorem Z3w:∀(f u b:Nat),u<128^b→0<b→(Zjc f u).length≤b
 | 0,_,_,_,_=>by simp [Zjc]
 | f+1,u,b,h,hb=>by
  unfold Zjc;split
  ·rename_i h8
   obtain ⟨b,rfl⟩:∃q,b=q+1:=⟨b-1,by omega⟩;cases b with
   | zero=>simp at h;omega
   | succ b=>
    have:=Z3w f (u/128) (b+1) (by rw [Ybb] at h;exact Yab (by omega)) (by omega);simp only [Yn];omega
  ·simp;omega
theorem Zou {n:Int} (h0:0≤n) (h:n<64):(Zj n).length≤1:=by
 unfold Zj
 rw [Z3g]
 refine Z3w 10 _ 1 ?_ (by omega)
 unfold zig
 rw [Xd (by omega)]
 omega
theorem Z6ab {n:Nat} (h:n<16777216):(Zj (n:Int)).length≤4:=by
 unfold Zj
 rw [Z3g]
 refine Z3w 10 _ 4 ?_ (by omega)
 unfold zig
 rw [Xd (by omega)]
 omega
structure Keep (a b c d e:Int) (x:Str) (v w:Nat):Prop where
 a:0≤a∧a<64
 b:0≤b∧b<64
 c:0≤c∧c<64
 d:0≤d∧d<64
 e:0≤e∧e<64
 x:x.length≤32
 v:v<16777216
 w:w<16777216
theorem Zrl {n:Int} (h:0≤n∧n<64):Num n:=by constructor <;> omega
theorem Keep.len {a b c d e:Int} {x:Str} {v w:Nat} (h:Keep a b c d e x v w):(Ztf (a,b,c,d,e,(v:Int),(w:Int),x)).length≤80:=by
 have h1:=Zou h.a.1 h.a.2
 have h2:=Zou h.b.1 h.b.2
 have h3:=Zou h.c.1 h.c.2
 have h4:=Zou h.d.1 h.d.2
 have h5:=Zou h.e.1 h.e.2
 have h6:=Z6ab h.v
 have h7:=Z6ab h.w
 have h8:=Ztl x
 have hx:=h.x
 unfold Ztf
 simp only [Yf]
 omega
theorem Z88 {a b c d e:Int} {x:Str} {v w:Nat} (h:Keep a b c d e x v w):Zc fun k=>Zgk k (stT a b c d e x v w)=some (Ztf (a,b,c,d,e,(v:Int),(w:Int),x)):=by
 have hx:=h.x
 have hp:=Zv3 [a,b,c,d,e,(v:Int),(w:Int)]
 simp only [Yn,Y3] at hp
 have h8:=Ztl x
 refine (((Zy1 [a,b,c,d,e,(v:Int),(w:Int)] (fun n hn=>?_) (by simp)).and (Zfx x (by omega))).and (Zc.ge 100 fun k hk=>hk)).mono fun k ⟨⟨q1,q2⟩,hk⟩=>?_
 ·simp only [Yg,Yw,or_false] at hn
  rcases hn with rfl | rfl | rfl | rfl | rfl | rfl | rfl
  ·exact Zrl h.a
  ·exact Zrl h.b
  ·exact Zrl h.c
  ·exact Zrl h.d
  ·exact Zrl h.e
  ·exact Zbs h.v
  ·exact Zbs h.w
 ·unfold Zgk stT
  refine Za (Zun v h.v k (by omega)) (Za (Zun w h.w k (by omega)) (Za q1 (Za q2 (Za (Zjf (by omega)) ?_))));unfold Ztf;simp only [Zbj,Ys,Y1]
def Zzb (f:Zy) (a b c d e:Int) (x:Str) (v w:Nat):List Z4b:=Zml f (Ztf (a,b,c,d,e,(v:Int),(w:Int),x))
theorem Z6i {m:Zp} (hf:Z0f m.2=true) (h2:2≤m.2.1.length) {a b c d e:Int} {x:Str} {v w:Nat} (h:Keep a b c d e x v w):Zc fun k=>Zde k m (a,b,c,d,e,x,Zb v,Zb w)=some (Zzb m.2 a b c d e x v w):=by
 refine ((Z88 h).and (Z48 hf h2 _ h.len)).mono fun k ⟨q1,q2⟩=>?_
 have q1:Zgk k (a,b,c,d,e,x,Zb v,Zb w)=_:=q1
 unfold Zde
 exact Za q1 (Za q2 rfl)
def Zhq (n a:Int) (t:Str):Str:=Zj n++Zj a++Znb t
def Ziu (n a:Int) (t:Str):Str:=Z4f (Zhq n a t)
def Z4x (n a:Int) (t:Str):Bool:=(decide (0≤n)&&decide (n≤1000000))&&((decide (0≤a)&&decide (a≤39))&&decide (t.length=8))
theorem Ziab {n a:Int} {t:Str}:Z4x n a t=true ↔ (0≤n∧n≤1000000)∧(0≤a∧a≤39)∧t.length=8:=by
 unfold Z4x
 simp only [Yc,decide_eq_true_eq]
theorem Z7kb (n a:Int) (t:Str):(Zhq n a t).length≤30+t.length:=by
 have:=Zhe n
 have:=Zhe a
 have:=Ztl t
 unfold Zhq
 simp only [Yf]
 omega
theorem Z2ib (n a:Int) (t:Str) (hn:Num n) (ha:Num a) (ht:t.length≤8000):Zc fun k=>Zdo k n a t=some (Ziu n a t):=by
 have l:=Z7kb n a t
 have hp:=Zv3 [n,a]
 simp only [Yn,Y3] at hp
 have h4:=Ztl t
 refine (((Zy1 [n,a] (fun z hz=>?_) (by simp)).and (Zfx t (by omega))).and (Zgx (Zhq n a t) (by omega))).mono fun k ⟨⟨q1,q2⟩,q3⟩=>?_
 ·simp only [Yg,Yw,or_false] at hz
  rcases hz with rfl | rfl
  ·exact hn
  ·exact ha
 ·have e:Zbj [n,a]++Znb t=Zhq n a t:=by simp only [Zbj,Zhq,Ys,Y1]
  unfold Zdo;refine Za q1 (Za q2 (Za (Zjf (by omega)) ?_));rw [e];exact Za q3 rfl
def Ziq (s:Str):Option ((Int×Int×Str)×Nat):=(Z5b s 0).bind fun x=>(Z5b s x.2).bind fun y=>(Zug s y.2).map fun t=>((x.1,(y.1,t.1)),t.2)
def Zf5 (s:Str) (v4 v5:Int×Str×Int×Bool) (v6:Str×Str×Int×Bool):Prop:=(∃n a t,∃d:Nat,Ziq s=some ((n,(a,t)),d)∧v4.1=n∧v5.1=a∧v6=(t,(s,((d:Int),false))))∨(Ziq s=none∧v6.2.2.2=true)
theorem Zzlb {s:Str} {v4 v5:Int×Str×Int×Bool} {v6:Str×Str×Int×Bool} (h4:StS s v4.2 (Zf s (some 0))) (g4:∀a n a',(some 0:Option Nat)=some a→Z5b s a=some (n,a')→v4.1=n)
  (h5:StS s v5.2 (Zf s (Zf s (some 0)))) (g5:∀a n a',Zf s (some 0)=some a→Z5b s a=some (n,a')→v5.1=n) (h6:StS s v6.2 (Zcc s (Zf s (Zf s (some 0))))) (g6:∀a n a',Zf s (Zf s (some 0))=some a→Zug s a=some (n,a')→v6.1=n):Zf5 s v4 v5 v6:=by
 have bad:StS s v6.2 none→v6.2.2.2=true:=fun h=>h.2.choose_spec.2.2
 cases x1:Z5b s 0 with
 | none=>
  refine .inr ⟨by simp [Ziq,x1],bad ?_⟩;have:Zcc s (Zf s (Zf s (some 0)))=none:=by simp [Zf,Zcc,x1]
  rwa [this] at h6
 | some y1=>
  obtain ⟨n1,a1⟩:=y1;have p1:Zf s (some 0)=some a1:=by simp [Zf,x1]
  cases x2:Z5b s a1 with
  | none=>
   refine .inr ⟨by simp [Ziq,x1,x2],bad ?_⟩;have:Zcc s (Zf s (Zf s (some 0)))=none:=by simp [Zf,Zcc,x1,x2]
   rwa [this] at h6
  | some y2=>
   obtain ⟨n2,a2⟩:=y2;have p2:Zf s (Zf s (some 0))=some a2:=by simp [Zf,x1,x2]
   cases x3:Zug s a2 with
   | none=>
    refine .inr ⟨by simp [Ziq,x1,x2,x3],bad ?_⟩;have:Zcc s (Zf s (Zf s (some 0)))=none:=by simp [Zf,Zcc,x1,x2,x3]
    rwa [this] at h6
   | some y3=>
    obtain ⟨t,d⟩:=y3;have p3:Zcc s (Zf s (Zf s (some 0)))=some d:=by simp [Zf,Zcc,x1,x2,x3]
    refine .inl ⟨n1,n2,t,d,by simp [Ziq,x1,x2,x3],g4 _ _ _ rfl x1,g5 _ _ _ p1 x2,?_⟩;have r6:=g6 _ _ _ p2 x3;rw [p3] at h6;rcases h6.form with ⟨b,e,_,q⟩ | ⟨b,e,_,q⟩
    ·cases e
     rw [← r6,← q]
    ·cases e
theorem Z6nb (s:Str):StS s (s,(((0:Nat):Int),false)) (some 0):=⟨rfl,0,rfl,by omega,rfl,rfl⟩
theorem Z7ib (s:Str) (hs:s.length≤8000):∃v4 v5 v6,(Zc fun k=>Z9b k (s,(0,false))=some v4∧Z9b k v4.2=some v5∧Zbg k v5.2=some v6)∧Zf5 s v4 v5 v6:=by
 obtain ⟨v4,q4,h4,g4⟩:=Z7i hs (Z6nb s)
 obtain ⟨v5,q5,h5,g5⟩:=Z7i hs h4
 obtain ⟨v6,q6,h6,g6⟩:=Z01 hs h5
 exact ⟨v4,v5,v6,((q4.and q5).and q6).mono fun k h=>⟨h.1.1,h.1.2,h.2⟩,Zzlb h4 g4 h5 g5 h6 g6⟩
def Zph (s:Str) (n:Int):Z4b:=if (Zod s).2=0 then match Ziq (Zt s) with
  | some ((n',(a,t)),d)=>if (d=(Zt s).length∧n'=n)∧Z4x n a t=true then (false,(a,t)) else Zzc
  | none=>Zzc
 else Zzc
theorem Zjab (s:Str) (n:Int) (h:(Zph s n).1=false):0≤(Zph s n).2.1∧(Zph s n).2.1≤39:=by
 unfold Zph at h ⊢
 split at h
 ·rename_i q
  rw [Xc q];split at h
  ·split at h
   ·rename_i q2
    rw [Xc q2];exact (Ziab.1 q2.2).2.1
   ·cases h
  ·cases h
 ·cases h
theorem Z3ib (s:Str) (hs:s.length≤8000) (n:Int):Zc fun k=>Zeo k s n=some (Zph s n):=by
 have hl:=Ztob s
 obtain ⟨v4,v5,v6,hE,h3⟩:=Z7ib (Zod s).1 (by omega)
 refine ((Zwr s (by omega)).and hE).mono fun k ⟨u,q4,q5,q6⟩=>?_
 have hT:Zoh n=some (decide (0≤n)&&decide (n≤1000000)):=rfl
 unfold Zeo Zph
 refine Za u (Za q4 (Za q5 (Za q6 ?_)))
 by_cases hu:(Zod s).2=0
 ·obtain ⟨e1,e2,_⟩:=Zcz hu
  have e0:(Zod s).1=Zt s:=by rw [e1]
  rw [Xc hu,show ((Zod s).2 != 0)=false by simpa using hu,e0];rw [e0] at h3;rcases h3 with ⟨n',a,t,d,hz,h4,h5,h6⟩ | ⟨hz,hb⟩
  ·rw [hz,h6,h4]
   dsimp only;have hW:Zcb v5.1 0 39=some (decide (0≤v5.1)&&decide (v5.1≤39)):=rfl;rw [h5] at hW ⊢
   by_cases cd:d=(Zt s).length
   ·by_cases cn:n'=n
    ·rw [show ((((false||false)||(((d:Nat):Int) != ((Zt s).length:Int))))||(n' != n))=false by rw [cd,cn];simp,Xf]
     refine Za hT ?_;unfold Z4x;cases c1:decide (0≤n)&&decide (n≤1000000) with
     | false=>
      rw [Xd (fun q=>by cases q.2)];rfl
     | true=>
      rw [Yq,Xf];refine Za hW ?_;cases c2:decide (0≤a)&&decide (a≤39) with
      | false=>
       rw [Xd (fun q=>by cases q.2)];rfl
      | true=>
       by_cases c8:t.length=8
       ·rw [Xc ⟨⟨cd,cn⟩,by rw [Xa c8];rfl⟩,show (((t.length:Nat):Int) != 8)=false by rw [c8];rfl]
        rfl
       ·rw [Xd (fun q=>by rw [Xb c8] at q;cases q.2),show (((t.length:Nat):Int) != 8)=true by simp;omega]
        rfl
    ·rw [Xd (fun q=>cn q.1.2),show (n' != n)=true by simpa using cn,Yaa]
     rfl
   ·rw [Xd (fun q=>cd q.1.1),show (((d:Nat):Int) != ((Zt s).length:Int))=true by simp;omega]
    simp only [Yaa,Yba,Xe];rfl
  ·rw [hz,hb]
   simp only [Yaa,Yba,Xe];rfl
 ·rw [Xd hu,show ((Zod s).2 != 0)=true by simpa using hu]
  simp only [Yba,Xe];rfl
structure MS0 (m:Zp) (ph tr nd st dn:Int) (dg:Str) (v w:Nat):Prop where
 fit:Fit m st w
 hph:1≤ph∧ph≤5
 sb:Zpf ph tr nd st dn dg v w=true
 hv:v<16777216
 hw:w<16777216
structure MSt (m:Zp) (ph tr nd st dn:Int) (dg:Str) (v w:Nat):Prop extends MS0 m ph tr nd st dn dg v w where
 img:Zec (Zpd m)=true
 snd:3≤ph→Sound m st dn w
theorem Z7r {m:Zp} {ph tr nd st dn:Int} {dg:Str} {v w:Nat} (hs:stM m=some (ph,(tr,(nd,(st,(dn,(dg,(v,w)))))))):MS0 m ph tr nd st dn dg v w:=by
 obtain ⟨h1,h2,h3⟩:=Zp4 hs
 have hvw:v<16777216∧w<16777216:=by
  unfold stM at hs;split at hs
  ·split at hs
   ·exact (Z4cb hs).2
   ·cases hs
  ·cases hs
 exact ⟨h1,h2,h3,hvw.1,hvw.2⟩
theorem Z42 {m:Zp} {ph tr nd st dn:Int} {dg:Str} {v w:Nat} (hs:stM m=some (ph,(tr,(nd,(st,(dn,(dg,(v,w)))))))) (hm:Z2f m=true):MSt m ph tr nd st dn dg v w:=by
 have h0:=Z7r hs
 obtain ⟨h1,h2,h3⟩:=Zp4 hs
 unfold Z2f at hm
 rw [hs] at hm
 dsimp only at hm
 rw [Yc,Ypa] at hm
 refine ⟨h0,hm.1,fun hp=>?_⟩
 rcases hm.2 with q | q
 ·have:=of_decide_eq_true q
  omega
 ·unfold Zxl at q
  rw [Yc,Yc,decide_eq_true_eq,decide_eq_true_eq,decide_eq_true_eq] at q;refine ⟨h1,q.1,q.2.1,?_,q.2.2⟩;unfold Zpf at h3;have h3:=((Yc _ _).mp ((Yc _ _).mp h3).2).2;rw [Xd (by omega)] at h3;have h3:=of_decide_eq_true h3;omega
def Zbq (l:List Zg):Nat→Int
 | 0=>0
 | i+1=>if (wAt l i).1=5 then (i:Int)+1 else Zbq l i
def Zjk (l:List Zg):Int:=Zbq l l.length
theorem Zm9 (l:List Zg):∀i,0≤Zbq l i∧Zbq l i≤(i:Int)
 | 0=>⟨Yt _,Yt _⟩
 | i+1=>by
  have:=Zm9 l i;unfold Zbq;split <;> omega
theorem Z28 (l:List Zg) (hl:l.length≤20) {k:Nat} (hk:100≤k):Zee k l=some (Zjk l):=by
 have run:=Zbc (fun j i=>Zee.l0 j (Zbq l i) l (l.length:Int) (i:Int)) l.length (Zjk l) (fun i hi j=>?_) (fun j=>?_) k (by omega)
 ·have run:Zee.l0 k 0 l (l.length:Int) 0=some (Zjk l):=run
  unfold Zee;exact Za run rfl
 ·conv=>lhs;unfold Zee.l0
  rw [dlt hi,Zs (by omega),Xe];refine Za (Zh hi) ?_;dsimp only;rw [Zbq,Zvg hi]
  by_cases c:l[i].1=5
  ·rw [Xc c,show (l[i].1==5)=true by simpa using c,Xe]
   rfl
  ·rw [Xd c,show (l[i].1==5)=false by simpa using c,Xf]
 ·conv=>lhs;unfold Zee.l0
  rw [Zbb (Ye _)];rfl
def Zyt (m:Zp) (x:Int):Bool:=!(Zk m.2 (3+m.1+x)==[])
def Zzf (m:Zp) (l:List Int):List Z4b:=(l.filter (Zyt m)).map fun x=>(false,(3+m.1+x,[]))
theorem Zkgb {m:Zp} {l:List Int} {i:Nat} (h:i<l.length):Zzf m (l.take (i+1))=if Zyt m l[i]=true then Zzf m (l.take i)++[(false,(3+m.1+l[i],[]))] else Zzf m (l.take i):=by
 unfold Zzf
 rw [Zhj h,List.filter_append]
 cases hp:Zyt m l[i] with
 | true=>rw [Xc rfl,List.filter_cons_of_pos hp,Yza];rfl
 | false=>rw [Xd Yy,List.filter_cons_of_neg (by rw [hp];exact Yy)];simp
theorem Z90 (m:Zp) (l:List Int):(Zzf m l).length≤l.length:=by
 unfold Zzf
 rw [Yca]
 exact Yxa _ _
def Zdq (m:Zp) (l:List Int):List Z4b:=if Zzf m l=[] then [] else Zzf m l++[Zzc]
section
variable {m:Zp} {ph tr nd st dn:Int} {dg:Str} {v w:Nat}
theorem MS0.idle (h:MS0 m ph tr nd st dn dg v w) (h1:ph=1):tr=0∧nd=0∧st=0∧dn=0∧dg=[]∧(Zb w).length=0:=by
 have q:=h.sb
 unfold Zpf at q
 have q:=((Yc _ _).mp ((Yc _ _).mp q).2).2
 rw [Xc h1] at q
 exact of_decide_eq_true q
theorem MS0.busy (h:MS0 m ph tr nd st dn dg v w) (h1:ph≠1):(1≤nd∧nd≤20)∧(0≤st∧st≤4)∧((Zb w).length:Int)=nd+st∧dg.length=32∧(0≤tr∧tr≤2)∧(0≤dn∧dn≤40)∧(tr=0∨ph=4)∧(dn=0∨ph=5):=by
 have q:=h.sb
 unfold Zpf at q
 have q:=((Yc _ _).mp ((Yc _ _).mp q).2).2
 rw [Xd h1] at q
 exact of_decide_eq_true q
theorem MS0.apart (h:MS0 m ph tr nd st dn dg v w):v &&& w=0:=by
 have q:=h.sb
 unfold Zpf at q
 exact of_decide_eq_true ((Yc _ _).mp ((Yc _ _).mp q).2).1
theorem MS0.keep (h:MS0 m ph tr nd st dn dg v w):Keep ph tr nd st dn dg v w:=by
 have hp:=h.hph
 by_cases c:ph=1
 ·obtain ⟨q1,q2,q3,q4,q5,q6⟩:=h.idle c
  exact ⟨by omega,by omega,by omega,by omega,by omega,by rw [q5];simp,h.hv,h.hw⟩
 ·obtain ⟨q1,q2,q3,q4,q5,q6,q7,q8⟩:=h.busy c
  exact ⟨by omega,by omega,by omega,by omega,by omega,by omega,h.hv,h.hw⟩
theorem Zik (hv:v<16777216):Keep 1 0 0 0 0 [] v 0:=⟨by omega,by omega,by omega,by omega,by omega,by simp,hv,by omega⟩
theorem MS0.log (h:MS0 m ph tr nd st dn dg v w):((Ze m st w).length:Int)≤nd∧(Ze m st w).length≤20∧0≤st∧st+((Ze m st w).length:Int)≤((Zb w).length:Int):=by
 have hl:(Ze m st w).length≤(Zwh m st w).length:=Zh4 _ _
 have ha:(Zwh m st w).length=(Zb w).length-st.toNat:=by unfold Zwh;simp
 have hs:=h.fit.s
 by_cases c:ph=1
 ·obtain ⟨q1,q2,q3,q4,q5,q6⟩:=h.idle c
  omega
 ·obtain ⟨q1,q2,q3,q4,q5,q6,q7,q8⟩:=h.busy c
  omega
theorem MS0.two (h:MS0 m ph tr nd st dn dg v w):2≤m.2.1.length:=by
 have:=h.fit.n
 have:=h.fit.b
 omega
theorem Zbx (v:Nat) (ph tr nd st dn:Int) (dg:Str) (x:List Int):Zii (ph,(tr,(nd,(st,(dn,(dg,(Zb v,x)))))))=some (1,(0,(0,(0,(0,([],(Zb v,Zb 0))))))):=by
 have:=Zyg v
 have hc:Zui (Zb v)=some (Zb v):=by
  unfold Zui;exact Za (Zlb (by simp;omega)) rfl
 unfold Zii
 refine Za hc ?_
 rw [Zrp]
theorem Zsib (h:Fit m st w) (l:List Int) (hl:l.length≤24) (hx:∀x∈l,0≤x∧x≤23) {k:Nat} (hk:1048577≤k):Z6c.l0 k k l (l.length:Int) 0 m.1 m.2.1 m.2.2 []=some (m.1,(m.2.1,(m.2.2,Zzf m l))):=by
 have run:=Zbc (fun j i=>Z6c.l0 k j l (l.length:Int) (i:Int) m.1 m.2.1 m.2.2 (Zzf m (l.take i))) l.length (m.1,(m.2.1,(m.2.2,Zzf m l))) (fun i hi j=>?_) (fun j=>?_) k (by omega)
 ·exact run
 ·have hr:=hx _ (Yi hi)
  have he:=Z90 m (l.take i);rw [Yo] at he
  conv=>lhs;unfold Z6c.l0
  rw [dlt hi,Zs (by omega),Xe,Zkgb hi];refine Za (Zh hi) (Za (Zx8 h hr.1 hr.2 hk) ?_);dsimp only;rw [show (!(Zk m.2 (3+m.1+l[i])==[]))=Zyt m l[i] from rfl];cases hp:Zyt m l[i] with
  | true=>
   rw [Xe,Xc rfl];exact Za (Z6w h hr.1 hr.2) (Za (Zlb (by simp;omega)) rfl)
  | false=>rw [Xf,Xd Yy]
 ·conv=>lhs;unfold Z6c.l0
  rw [Zbb (Ye _),Yk];rfl
def Z0i (m:Zp) (ph tr nd st dn:Int) (dg:Str) (v w:Nat):List Z4b:=if ph=2 then Zdq m ((Zb w).drop (st+Zjk (Ze m st w)).toNat) else if ph=3 then Zzb m.2 4 2 nd st dn dg v w else if ph=4 then (if tr=0 then Zzb m.2 1 0 0 0 0 [] v 0 else Zzb m.2 4 (tr-1) nd st dn dg v w) else if ph=5 then (if ((Zph (Zk m.2 2) dn).1=true∨dn=40)∨(m.2.1.length:Int)≤(Zph (Zk m.2 2) dn).2.1 then [] else [Zph (Zk m.2 2) dn,Zzc]++Zzb m.2 5 tr nd st (dn+1) dg v w) else []
theorem Zekb (m:Zp) (l:List Int):(bif decide (0<((Zzf m l).length:Int)) then some (Zzf m l++[Zzc]) else some (Zzf m l))=some (Zdq m l):=by
 unfold Zdq
 by_cases c:Zzf m l=[]
 ·rw [Xc c,c]
  rfl
 ·have:0<(Zzf m l).length:=List.length_pos_iff.2 c
  rw [Xd c,Xa (by omega:(0:Int)<((Zzf m l).length:Int))];rfl
theorem Zy8 (h:MS0 m ph tr nd st dn dg v w):Zc fun k=>Z6c k m (ph,(tr,(nd,(st,(dn,(dg,(Zb v,Zb w)))))))=some (Z0i m ph tr nd st dn dg v w):=by
 have hf:=h.fit
 have hb:=hf.b
 have hn:=hf.n
 have hk0:=h.keep
 have hll:=h.log
 have hkl:=Zm9 (Ze m st w) (Ze m st w).length
 have hlw:=Zyg w
 have h2:=h.two
 unfold Z0i
 by_cases c2:ph=2
 ·subst c2
  obtain ⟨p,hp⟩:∃p:Nat,st+Zjk (Ze m st w)=(p:Int):=⟨(st+Zjk (Ze m st w)).toNat,by unfold Zjk;omega⟩;have hple:p≤(Zb w).length:=by unfold Zjk at hp;omega
  refine ((Z1t 2 tr nd st dn dg (Zb v) hf).and (Zc.ge 1048577 fun k hk=>hk)).mono fun k ⟨e,hk⟩=>?_
  rw [Xc rfl,hp,Yr]
  have hc:Z3b (Zb w) ((p:Nat):Int) ((Zb w).length:Int)=some ((Zb w).drop p):=by
   have:=Z9f (l:=Zb w) (i:=p) (j:=(Zb w).length) hple (Ye _)
   rwa [Yk] at this
  have hel:=Z90 m ((Zb w).drop p);rw [List.length_drop] at hel;unfold Z6c;show (bif ((2:Int)==2) then _ else _)=_;rw [show ((2:Int)==2)=true from rfl,Xe];refine Za e (Za (Z28 _ hll.2.1 (by omega)) ?_);show Yx (Z3b (Zb w) (Ya .i64 (st+Zjk (Ze m st w))) ((Zb w).length:Int)) _=_;rw [hp,wn (by omega)];refine Za hc (Za (Zsib hf _ (by simp;omega) (fun x hx=>?_) hk) ?_)
  ·obtain ⟨j,hj,rfl⟩:=Y4.1 (List.mem_of_mem_drop hx)
   exact Z2k hj
  ·rw [← Zekb]
   show (bif decide (0<((Zzf m ((Zb w).drop p)).length:Int)) then _ else _)=_;cases decide (0<((Zzf m ((Zb w).drop p)).length:Int)) with
   | true=>exact Za (Zlb (by simp;omega)) rfl
   | false=>rfl
 ·rw [Xd c2]
  by_cases c3:ph=3
  ·subst c3
   rw [Xc rfl];refine (Z6i (m:=m) hf.f h2 (a:=4) (b:=2) { hk0 with a:=by omega,b:=by omega }).mono fun k e=>?_
   unfold Z6c;exact Za e rfl
  ·rw [Xd c3]
   by_cases c4:ph=4
   ·subst c4
    rw [Xc rfl]
    by_cases ct:tr=0
    ·subst ct
     rw [Xc rfl];refine (Z6i (m:=m) hf.f h2 (Zik h.hv)).mono fun k e=>?_
     unfold Z6c;exact Za (Zbx v _ _ _ _ _ _ _) (Za e rfl)
    ·rw [Xd ct]
     have hbz:=(h.busy (by omega)).2.2.2.2.1;refine (Z6i (m:=m) hf.f h2 (a:=4) (b:=tr-1) { hk0 with a:=by omega,b:=by omega }).mono fun k e=>?_
     unfold Z6c;show (bif (tr==0) then _ else _)=_;rw [show (tr==0)=false by simpa using ct,Xf];show Yx (Zde k m (4,(Ya .i64 (tr-1),(nd,(st,(dn,(dg,(Zb v,Zb w)))))))) _=_;rw [w64 (n:=tr-1) (by omega) (by omega)];exact Za e rfl
   ·rw [Xd c4]
    by_cases c5:ph=5
    ·subst c5
     rw [Xc rfl];obtain ⟨q1,q2,q3,q4,q5,q6,q7,q8⟩:=h.busy (by omega);have hat:=Zjab (Zk m.2 2) dn;have hdr:=hf.dirt;have hl:m.2.1.length≤1048576:=by omega
     refine (((Z3ib (Zk m.2 2) (by have:=Znm hf.f 2;omega) dn).and (Z6i (m:=m) hf.f h2 (a:=5) (e:=dn+1) { hk0 with a:=by omega,e:=by omega })).and (Zc.ge 1048577 fun k hk=>hk)).mono fun k ⟨⟨e1,e2⟩,hk⟩=>?_
     unfold Z6c;show Yx (Zlf k m.2 2) _=_;refine Za (Zvn m.2 2 hdr (by omega) (by omega) (by omega)) (Za e1 ?_);show (bif (Zph (Zk m.2 2) dn).1||(dn==40) then _ else _)=_;cases hsy:(Zph (Zk m.2 2) dn).1 with
     | true=>
      rw [Xc (.inl (.inl rfl))];rfl
     | false=>
      rw [Yna]
      by_cases c40:dn=40
      ·rw [Xc (.inl (.inr c40)),show (dn==40)=true by simpa using c40]
       rfl
      ·have hat:=hat hsy
       rw [show (dn==40)=false by simpa using c40,Xf];refine Za (Zr1 hl m.2.2 _) ?_;rw [Xa hat.1,Yz]
       by_cases cl:(m.2.1.length:Int)≤(Zph (Zk m.2 2) dn).2.1
       ·rw [Xc (.inr cl),Xb (by omega)]
        rfl
       ·rw [Xd (by rintro ((q | q) | q);cases q;exact c40 q;exact cl q),Xa (by omega:(Zph (Zk m.2 2) dn).2.1≤(m.2.1.length:Int)-1),Yq,Xf]
        show Yx (Zde k m (5,(tr,(nd,(st,(Ya .i64 (dn+1),(dg,(Zb v,Zb w)))))))) _=_;rw [w64 (n:=dn+1) (by omega) (by omega)];refine Za e2 ?_;have hkl2:=Z0r m.2 (Ztf (5,tr,nd,st,dn+1,(v:Int),(w:Int),dg));exact Za (Zlb (by unfold Zzb;simp;omega)) rfl
    ·rw [Xd c5]
     refine Zc.of fun k=>?_
     have hph:=h.hph;have:ph=1:=by omega
     subst this;rfl
end
theorem Z0cb:∀{a b:List Nat},a.Pairwise (· < ·)→b.Pairwise (· < ·)→(∀x,x∈a ↔ x∈b)→a=b
 | [],[],_,_,_=>rfl
 | [],y::b,_,_,h=>by have:=(h y).2 Yp;cases this
 | x::a,[],_,_,h=>by have:=(h x).1 Yp;cases this
 | x::a,y::b,ha,hb,h=>by
  have ha':=Y7a.1 ha;have hb':=Y7a.1 hb
  have e:x=y:=by
   rcases Yg.1 ((h x).1 Yp) with e | e
   ·exact e
   ·rcases Yg.1 ((h y).2 Yp) with f | f
    ·exact f.symm
    ·have:=hb'.1 x e
     have:=ha'.1 y f;omega
  subst e;rw [Z0cb ha'.2 hb'.2 fun z=>⟨fun hz=>?_,fun hz=>?_⟩]
  ·rcases Yg.1 ((h z).1 (Yv _ hz)) with e | e
   ·have:=ha'.1 z hz;omega
   ·exact e
  ·rcases Yg.1 ((h z).2 (Yv _ hz)) with e | e
   ·have:=hb'.1 z hz;omega
   ·exact e
def orP:List Nat→Nat
 | []=>0
 | x::l=>2^x ||| orP l
theorem Z5x (l:List Nat) (i:Nat):(orP l).testBit i=decide (i∈l):=by
 induction l with
 | nil=>simp [orP]
 | cons x l ih=>
  rw [orP,Yfb,ih,Nat.testBit_two_pow];rw [Bool.eq_iff_iff];simp only [Ypa,decide_eq_true_eq,Yg];constructor
  ·rintro (h | h)
   ·exact .inl h.symm
   ·exact .inr h
  ·rintro (h | h)
   ·exact .inl h.symm
   ·exact .inr h
theorem Zrab {l:List Nat} (h:∀x∈l,x<24):orP l<16777216:=by
 have:orP l<2^24:=by
  induction l with
  | nil=>simp [orP]
  | cons x l ih=>
   rw [orP];exact Yla (Nat.pow_lt_pow_right (by omega) (h x Yp)) (ih fun y hy=>h y (Yv _ hy))
 simpa using this
theorem Zd6 {l:List Nat} (hs:l.Pairwise (· < ·)) (h:∀x∈l,x<24):Ztb (orP l) 24=l:=by
 refine Z0cb (Zar _ _) hs fun x=>?_
 unfold Ztb
 rw [Yga,Yha,Z5x,decide_eq_true_eq]
 exact ⟨fun q=>q.2,fun q=>⟨h x q,q⟩⟩
theorem and_zero {v u:Nat} (h:∀i,i<24→¬(v.testBit i=true∧u.testBit i=true)) (hv:v<16777216):v &&& u=0:=by
 refine Yia fun i=>?_
 rw [Yeb,Yib]
 by_cases hi:i<24
 ·have:=h i hi
  cases h1:v.testBit i with
  | false=>rfl
  | true=>
   cases h2:u.testBit i with
   | false=>rfl
   | true=>exact absurd ⟨h1,h2⟩ this
 ·rw [Y8 (Y6 (show v<2^24 by simpa using hv) (Y7 (by omega) (by omega)))]
  rfl
def Zqc (v w:Nat):Nat:=16777215 ^^^ (v ||| w)
theorem Zoab {i:Nat} (h:i<24):(16777215:Nat).testBit i=true:=by
 have:(2^24-1).testBit i=decide (i<24):=Nat.testBit_two_pow_sub_one 24 i
 rw [Xa h] at this
 exact this
theorem Zi8 {v w i:Nat} (h:i<24):(Zqc v w).testBit i=(!(v.testBit i) && !(w.testBit i)):=by
 unfold Zqc
 rw [Ygb,Zoab h,Yfb]
 cases v.testBit i <;> cases w.testBit i <;> rfl
theorem Zsr {v w:Nat} (hv:v<16777216) (hw:w<16777216):Zqc v w<16777216:=by
 have h:v ||| w<2^24:=Yla (by simpa using hv) (by simpa using hw)
 have:Zqc v w<2^24:=Yhb (by omega) h
 simpa using this
abbrev Zvf:=Int×Int
def Zdm (acc:List Zvf) (n:Int):List Zvf:=match acc.getLast? with
 | some e=>if e.1+e.2=n then acc.dropLast++[(e.1,e.2+1)] else acc++[(n,1)]
 | none=>[(n,1)]
def Zgc (l:List Int):List Zvf:=l.foldl Zdm []
def Z6s (l:List Int) (acc:List Zvf):Prop:=∀e∈acc,1≤e.2∧∀x,e.1≤x→x<e.1+e.2→x∈l
theorem Zbeb {l:List Int} {acc:List Zvf} (h:Z6s l acc) {n:Int} (hn:n∈l):Z6s l (Zdm acc n):=by
 have one:∀e∈[((n,1):Zvf)],1≤e.2∧∀x,e.1≤x→x<e.1+e.2→x∈l:=fun e he=>by
  rw [Y5a.1 he];refine ⟨Yt _,fun x h1 h2=>?_⟩;have h1:n≤x:=h1;have h2:x<n+1:=h2;rw [show x=n by omega];exact hn
 unfold Zdm
 cases hl:acc.getLast? with
 | none=>exact one
 | some e=>
  have hm:e∈acc:=Y3a hl;dsimp only;split
  ·rename_i he
   intro z hz;rcases Y2a.1 hz with hz | hz
   ·exact h z (List.dropLast_subset _ hz)
   ·rw [Y5a.1 hz]
    obtain ⟨h1,h2⟩:=h e hm;refine ⟨by show 1≤e.2+1;omega,fun x q1 q2=>?_⟩;have q1:e.1≤x:=q1;have q2:x<e.1+(e.2+1):=q2
    by_cases c:x<e.1+e.2
    ·exact h2 x q1 c
    ·rw [show x=n by omega]
     exact hn
  ·intro z hz
   rcases Y2a.1 hz with hz | hz
   ·exact h z hz
   ·exact one z hz
theorem Z5bb (l:List Int):Z6s l (Zgc l):=by
 have:∀(r:List Int) (acc:List Zvf),(∀x∈r,x∈l)→Z6s l acc→Z6s l (r.foldl Zdm acc):=by
  intro r
  induction r with
  | nil=>intro acc _ h;exact h
  | cons x r ih=>
   intro acc hx h;exact ih _ (fun y hy=>hx y (Yv _ hy)) (Zbeb h (hx x Yp))
 exact this l [] (fun x hx=>hx) (fun e he=>nomatch he)
theorem Zceb (acc:List Zvf) (n:Int):(Zdm acc n).length≤acc.length+1:=by
 unfold Zdm
 cases hl:acc.getLast? with
 | none=>simp
 | some e=>
  dsimp only;split
  ·rw [Yf,List.length_dropLast,Yn,Y3];omega
  ·simp
theorem Z6bb {l:List Int} {i:Nat} (h:i<l.length):Zgc (l.take (i+1))=Zdm (Zgc (l.take i)) l[i]:=by
 unfold Zgc
 rw [Zhj h,List.foldl_append]
 rfl
theorem Zc4 (l:List Int):∀i,(Zgc (l.take i)).length≤i
 | 0=>by simp [Zgc]
 | i+1=>by
  have ih:=Zc4 l i
  by_cases h:i<l.length
  ·rw [Z6bb h]
   have:=Zceb (Zgc (l.take i)) l[i];omega
  ·rw [Y9a (by omega)] at ih ⊢
   omega
def Zej (a:Int) (n:Nat):List Int:=(Yj n).map fun (i:Nat)=>a+(i:Int)
def Z4h (f:Nat) (n:Int):Option (List Int):=
 if ((Zb f).length:Int)<n then none
 else match Zgb (fun (e:Zvf)=>decide (n≤e.2)) (Zgc (Zb f)) 0 with
  | some i=>some (Zej ((Zgc (Zb f)).getD i (0,0)).1 n.toNat)
  | none=>some ((Zb f).take n.toNat)
theorem Ztnb {a n:Nat} (h:a+n≤24):∃u,u<16777216∧Zb u=Zej (a:Int) n∧∀i,u.testBit i=true→a≤i∧i<a+n:=by
 have hs:((Yj n).map (a + ·)).Pairwise (· < ·):=by
  rw [List.pairwise_map];exact List.pairwise_lt_range.imp fun h=>by omega
 have hm:∀x∈(Yj n).map (a + ·),a≤x∧x<a+n:=fun x hx=>by
  obtain ⟨y,hy,rfl⟩:=Y5.1 hx;rw [Yha] at hy;omega
 refine ⟨orP ((Yj n).map (a + ·)),Zrab fun x hx=>by have:=hm x hx;omega,?_,fun i hi=>?_⟩
 ·unfold Zb Zej
  rw [Zd6 hs fun x hx=>by have:=hm x hx;omega,Yfa];refine List.map_congr_left fun i _=>?_
  show ((a+i:Nat):Int)=_;omega
 ·rw [Z5x,decide_eq_true_eq] at hi
  exact hm i hi
theorem Zkob (f n:Nat) (hf:f<16777216):∃u,u<16777216∧Zb u=(Zb f).take n∧∀i,u.testBit i=true→f.testBit i=true:=by
 have hs:((Ztb f 24).take n).Pairwise (· < ·):=(Zar f 24).sublist (List.take_sublist _ _)
 have hm:∀x∈(Ztb f 24).take n,x<24∧f.testBit x=true:=fun x hx=>Z9q (Y4a hx)
 refine ⟨orP ((Ztb f 24).take n),Zrab fun x hx=>(hm x hx).1,?_,fun i hi=>?_⟩
 ·unfold Zb
  rw [Zd6 hs fun x hx=>(hm x hx).1,Y1a]
 ·rw [Z5x,decide_eq_true_eq] at hi
  exact (hm i hi).2
theorem Zy3 {f:Nat} (hf:f<16777216) {n:Int} (h0:1≤n) {l:List Int} (h:Z4h f n=some l):(∃u,u<16777216∧l=Zb u∧∀i,u.testBit i=true→f.testBit i=true)∧(l.length:Int)=n:=by
 unfold Z4h at h
 split at h
 ·cases h
 ·rename_i hn
  cases hi:Zgb (fun (e:Zvf)=>decide (n≤e.2)) (Zgc (Zb f)) 0 with
  | none=>
   rw [hi] at h;cases h;obtain ⟨u,h1,h2,h3⟩:=Zkob f n.toNat hf;exact ⟨⟨u,h1,h2.symm,h3⟩,by rw [Yo];omega⟩
  | some i=>
   rw [hi] at h;cases h;obtain ⟨_,hlt,hp,_⟩:=Z4i hi;have hp:=of_decide_eq_true hp;simp only [Ydb] at hlt hp
   have hd:(Zgc (Zb f)).getD i (0,0)=(Zgc (Zb f))[i]:=by
    rw [Ym,Yh hlt];rfl
   rw [hd];have hr:=(Z5bb (Zb f) _ (Yi hlt)).2;generalize (Zgc (Zb f))[i]=e at hp hr;have m0:=hr e.1 (Yt _) (by omega);have m1:=hr (e.1+n-1) (by omega) (by omega)
   obtain ⟨a,ha⟩:∃a:Nat,e.1=(a:Int):=by
    obtain ⟨y,_,hy⟩:=Y5.1 (show e.1∈(Ztb f 24).map _ from m0);exact ⟨y,hy.symm⟩
   obtain ⟨k,rfl⟩:∃k:Nat,n=(k:Int):=⟨n.toNat,by omega⟩
   have b1:a+k≤24:=by
    obtain ⟨y,hy,hy2⟩:=Y5.1 (show e.1+(k:Int)-1∈(Ztb f 24).map _ from m1);have:=(Z9q hy).1;have hy2:((y:Nat):Int)=e.1+(k:Int)-1:=hy2;omega
   obtain ⟨u,u1,u2,u3⟩:=Ztnb b1;rw [Yr,ha];refine ⟨⟨u,u1,u2.symm,fun i hi=>?_⟩,by simp [Zej]⟩;have:=u3 i hi;have hm:=hr (i:Int) (by omega) (by omega);exact (Zpkb.1 hm).2
theorem Zkeb (a:Nat) (ha:a<16777216):intBits .andNot .i64 16777215 (a:Int)=((16777215 ^^^ a:Nat):Int):=by
 have h0:(Yl 64 (a:Int)).toNat=a:=by
  rw [BitVec.toNat_ofInt];omega
 have h1:(Yl 64 16777215 &&& ~~~ Yl 64 (a:Int)).toNat=16777215 ^^^ a:=by
  refine Yia fun i=>?_
  rw [← Y9,BitVec.getLsbD_and,BitVec.getLsbD_not,Ygb,Y9,Y9,h0];have h5:(Yl 64 16777215).toNat=16777215:=rfl;rw [h5]
  by_cases hi:i<24
  ·rw [Zoab hi,Xa (by omega:i<64)]
   cases a.testBit i <;> rfl
  ·have q1:(16777215:Nat).testBit i=false:=Y8 (Y6 (by decide:16777215<2^24) (Y7 (by omega) (by omega)))
   have q2:a.testBit i=false:=Y8 (Y6 (show a<2^24 by simpa using ha) (Y7 (by omega) (by omega)));rw [q1,q2];simp
 have hlt:16777215 ^^^ a<2^24:=Yhb (by omega) (by simpa using ha)
 have hlt:16777215 ^^^ a<16777216:=by simpa using hlt
 unfold intBits
 show Ya .i64 (((Yl 64 16777215 &&& ~~~ Yl 64 (a:Int)).toNat:Nat):Int)=_
 rw [h1]
 exact w64 (by omega) (by omega)
theorem Z08 (v w:Nat) (hv:v<16777216) (hw:w<16777216) {k:Nat} (hk:24<k):Zfl k (Zb v) (Zb w)=some (Zb (Zqc v w)):=by
 have ho:v ||| w<16777216:=by
  have:v ||| w<2^24:=Yla (by simpa using hv) (by simpa using hw);simpa using this
 unfold Zfl
 refine Za (Zun v hv k hk) (Za (Zun w hw k hk) ?_)
 rw [ori v w (by omega) (by omega),Zkeb _ ho]
 exact Za (Z9w _ (Zsr hv hw) k hk) rfl
theorem Zvnb (l:List Zvf) (x y:Zvf):(l++[x]).set l.length y=l++[y]:=by
 rw [List.set_append_right _ _ (Ye _),Ycb]
 rfl
theorem Zt9 {acc:List Zvf} {e:Zvf} (h:acc.getLast? = some e):acc=acc.dropLast++[e]∧at? acc (((acc.length-1:Nat)):Int)=some e∧0<acc.length:=by
 have h1:acc=acc.dropLast++[e]:=by
  rw [List.getLast?_eq_some_iff] at h;obtain ⟨l,rfl⟩:=h;rw [List.dropLast_concat]
 have h2:0<acc.length:=by rw [h1];simp
 refine ⟨h1,?_,h2⟩
 rw [Zh (by omega)]
 rw [List.getLast?_eq_getElem?] at h
 rw [Yh (by omega)] at h
 exact h
theorem Zdeb {acc:List Zvf} {e:Zvf} (h:acc.getLast? = some e) (n:Int):Zdm acc n=if e.1+e.2=n then acc.set (acc.length-1) (e.1,e.2+1) else acc++[(n,1)]:=by
 have h1:=(Zt9 h).1
 unfold Zdm
 rw [h]
 dsimp only
 split
 ·generalize acc.dropLast=d at h1
  subst h1;rw [Yf,Yea,Nat.add_sub_cancel,Zvnb]
 ·rfl
theorem Z3bb {v:Nat} {i:Nat} {e:Zvf} (h:e∈Zgc ((Zb v).take i)):0≤e.1∧1≤e.2∧e.1+e.2≤24:=by
 obtain ⟨h1,h2⟩:=Z5bb _ e h
 have lim:∀x∈(Zb v).take i,0≤x∧x≤23:=fun x hx=>by
  obtain ⟨j,hj,rfl⟩:=Y4.1 (Y4a hx);exact Z2k hj
 have:=lim _ (h2 e.1 (Yt _) (by omega))
 have:=lim _ (h2 (e.1+e.2-1) (by omega) (by omega))
 omega
theorem Zdjb (v:Nat) {k:Nat} (hk:100<k):Zme k (Zb v)=some (Zgc (Zb v)):=by
 have hlv:=Zyg v
 have run:=Zbc (fun j i=>Zme.l0 j (Zb v) ((Zb v).length:Int) (i:Int) (Zgc ((Zb v).take i))) (Zb v).length (Zgc (Zb v)) (fun i hi j=>?_) (fun j=>?_) k (by omega)
 ·have run:Zme.l0 k (Zb v) ((Zb v).length:Int) 0 []=some (Zgc (Zb v)):=run
  unfold Zme;exact Za run rfl
 ·have hrl:=Zc4 (Zb v) i
  have hx:=Z2k hi
  conv=>lhs;unfold Zme.l0
  rw [dlt hi,Zs (by omega),Xe,Z6bb hi];refine Za (Zh hi) ?_;dsimp only;rw [w64 (n:=((Zgc ((Zb v).take i)).length:Int)-1) (by omega) (by omega)];cases hl:(Zgc ((Zb v).take i)).getLast? with
  | none=>
   have he:Zgc ((Zb v).take i)=[]:=List.getLast?_eq_none_iff.1 hl;rw [he];have ha:Zfb 16 ([]:List Zvf) [((Zb v)[i],1)]=some [((Zb v)[i],1)]:=Zlb (by simp only [Y3,Yea];omega);exact Za ha rfl
  | some e=>
   obtain ⟨h1,h2,h3⟩:=Zt9 hl;have hr:=Z3bb (v:=v) (i:=i) (e:=e) (Y3a hl)
   have hat:at? (Zgc ((Zb v).take i)) (((Zgc ((Zb v).take i)).length:Int)-1)=some e:=by
    have q:((Zgc ((Zb v).take i)).length:Int)-1=(((Zgc ((Zb v).take i)).length-1:Nat):Int):=by omega
    rw [q];exact h2
   rw [Xa (by omega:(0:Int)≤((Zgc ((Zb v).take i)).length:Int)-1),Xe];refine Za hat (Za hat (Za hat (Za hat ?_)));rw [w64 (n:=e.1+e.2) (by omega) (by omega),Zdeb hl]
   by_cases c:e.1+e.2=(Zb v)[i]
   ·rw [Xc c,show (e.1+e.2==(Zb v)[i])=true by simpa using c,Xe]
    refine Za hat (Za hat (Za hat (Za hat ?_)));rw [w64 (n:=e.2+1) (by omega) (by omega),show (((Zgc ((Zb v).take i)).length:Int)-1).toNat=(Zgc ((Zb v).take i)).length-1 by omega]
   ·rw [Xd c,show (e.1+e.2==(Zb v)[i])=false by simpa using c,Xf]
    exact Za (Zlb (by simp;omega)) rfl
 ·conv=>lhs;unfold Zme.l0
  rw [Zbb (Ye _),Yk];rfl
theorem Zsnb (a:Int) (n:Nat):Zej a (n+1)=Zej a n++[a+(n:Int)]:=by
 unfold Zej
 rw [List.range_succ,Yza]
 rfl
theorem Zpcb (a:Int) (n:Nat):(Zej a n).length=n:=by simp [Zej]
theorem iSeq {a n:Nat} (h:a+n≤24) (z:Int) {k:Nat} (hk:60≤k):Zub.l0 k (n:Int) 0 (a:Int) z []=some ((a:Int),z,Zej (a:Int) n):=by
 have run:=Zbc (fun j i=>Zub.l0 j (n:Int) (i:Int) (a:Int) z (Zej (a:Int) i)) n ((a:Int),z,Zej (a:Int) n) (fun i hi j=>?_) (fun j=>?_) k (by omega)
 ·exact run
 ·conv=>lhs;unfold Zub.l0
  rw [dlt hi,w64 (n:=(a:Int)+(i:Int)) (by omega) (by omega),Zs (by omega),Xe];refine Za (Zlb (by rw [Zpcb];simp;omega)) ?_;rw [Zsnb]
 ·conv=>lhs;unfold Zub.l0
  rw [Zbb (Ye _)];rfl
theorem Zkmb {v:Nat} {e:Zvf} (h:e∈Zgc (Zb v)):∃a c:Nat,e=((a:Int),(c:Int))∧1≤c∧a+c≤24:=by
 have:=Z3bb (v:=v) (i:=(Zb v).length) (e:=e) (by rw [Yk];exact h)
 exact ⟨e.1.toNat,e.2.toNat,Prod.ext (by show e.1=_;omega) (by show e.2=_;omega),by omega,by omega⟩
theorem Zpmb (v:Nat):(Zgc (Zb v)).length≤24:=by
 have:=Zc4 (Zb v) (Zb v).length
 rw [Yk] at this
 have:=Zyg v
 omega
theorem Zyfb {α:Type} {l:List α} {n:Nat} (h:n≤l.length):Z3b l 0 (n:Int)=some (l.take n):=by
 have:=Z9f (l:=l) (i:=0) (j:=n) (by omega) h
 rw [Y2] at this
 exact this
theorem Z68 (v w n:Nat) (hv:v<16777216) (hw:w<16777216) (h1:1≤n) {k:Nat} (hk:200≤k):Zub k (Zb v) (Zb w) (n:Int)=some (match Z4h (Zqc v w) (n:Int) with
  | some l=>(l,true)
  | none=>([],false)):=by
 have hz:Z9i (Zb (Zqc v w))=some ((Zb (Zqc v w)).length:Int):=rfl
 have hrl:=Zpmb (Zqc v w)
 unfold Zub Z4h
 refine Za (Z08 v w hv hw (by omega)) (Za hz ?_)
 by_cases c:((Zb (Zqc v w)).length:Int)<(n:Int)
 ·rw [Xa c,Xc c]
  rfl
 ·rw [Xb c,Xd c,Xf]
  refine Za (Zdjb _ (by omega)) ?_;have run:=Z1h (fun j i=>Zub.l1 k j (n:Int) ((Zgc (Zb (Zqc v w))).length:Int) i (Zgc (Zb (Zqc v w)))) (Zgc (Zb (Zqc v w))) (fun e=>decide ((n:Int)≤e.2)) (.inl ()) (fun i=>.inr (true,Zej ((Zgc (Zb (Zqc v w))).getD i (0,0)).1 n)) (fun i hi=>⟨fun hp j=>?_,fun hp j=>?_⟩) (fun j=>?_) (k:=k) (by omega)
  ·have run:Zub.l1 k k (n:Int) ((Zgc (Zb (Zqc v w))).length:Int) 0 (Zgc (Zb (Zqc v w)))=_:=run
   refine Za run ?_;cases Zgb (fun (e:Zvf)=>decide ((n:Int)≤e.2)) (Zgc (Zb (Zqc v w))) 0 with
   | none=>exact Za (Zyfb (by omega)) rfl
   | some i=>rfl
  ·show Zub.l1 k (j+1) (n:Int) _ (i:Int) _=Zub.l1 k j (n:Int) _ ((i+1:Nat):Int) _
   conv=>lhs;unfold Zub.l1
   rw [dlt hi,Zs (by omega),Xe];refine Za (Zh hi) (Za (Zh hi) ?_);rw [hp];rfl
  ·show Zub.l1 k (j+1) (n:Int) _ (i:Int) _=_
   obtain ⟨a,q,he,q1,q2⟩:=Zkmb (Yi hi)
   have hd:(Zgc (Zb (Zqc v w))).getD i (0,0)=((a:Int),(q:Int)):=by
    rw [Ym,Yh hi];exact he
   have hp':=of_decide_eq_true hp;rw [he] at hp';have hp':(n:Int)≤(q:Int):=hp'
   conv=>lhs;unfold Zub.l1
   rw [dlt hi,Zs (by omega),Xe];refine Za (Zh hi) (Za (Zh hi) ?_);rw [hp,Xe,he,hd];exact Za (iSeq (by omega) _ (by omega)) rfl
  ·show Zub.l1 k (j+1) (n:Int) _ _ _=_
   unfold Zub.l1;rw [Zbb (Ye _)];rfl
abbrev Zjg:=Int×Int×Int×Str×Zg
def Zmv (s:Zg):Bool:=decide (s.1=0)&&(decide (s.2.1=0)&&(decide (s.2.2.1=0)&&(s.2.2.2==[])))
def Z7f (c:Zjg):Bool:=if c.1=1 then (decide (1≤c.2.1)&&decide (c.2.1≤20))&&(decide (0≤c.2.2.1)&&decide (c.2.2.1≤4))&&decide ((c.2.2.2.1.length:Int)=32)&&Zmv c.2.2.2.2 else if c.1=2 then decide (c.2.1=0)&&decide (c.2.2.1=0)&&(c.2.2.2.1==[])&&Zuc c.2.2.2.2.1 c.2.2.2.2.2.1 c.2.2.2.2.2.2.1 c.2.2.2.2.2.2.2 8 else if c.1=9 then (decide (1≤c.2.1)&&decide (c.2.1≤24))&&decide (c.2.2.1=0)&&(c.2.2.2.1==[])&&Zmv c.2.2.2.2 else if c.1=7 then (decide (0≤c.2.1)&&decide (c.2.1≤1000000))&&decide (c.2.2.1=0)&&(c.2.2.2.1==[])&&Zmv c.2.2.2.2 else (decide (1≤c.1)&&decide (c.1≤11))&&decide (c.2.1=0)&&decide (c.2.2.1=0)&&(c.2.2.2.1==[])&&Zmv c.2.2.2.2
theorem Zz8 (c:Zjg):Zgl c=some (Z7f c):=by
 obtain ⟨o,a,b,t,s⟩:=c
 have hs:Zpc s 8=some (Zuc s.1 s.2.1 s.2.2.1 s.2.2.2 8):=Zhx s.1 s.2.1 s.2.2.1 s.2.2.2 8 (by decide) (by decide)
 unfold Zgl Z7f Zmv
 simp only [Zcb,Zoh,Yb,hs,Zjh]
 generalize (decide (s.1=0)&&(decide (s.2.1=0)&&(decide (s.2.2.1=0)&&(s.2.2.2==[]))))=Z
 generalize (t==([]:Str))=E
 generalize Zuc s.1 s.2.1 s.2.2.1 s.2.2.2 8=S
 by_cases c1:o=1
 ·subst c1;simp
 by_cases c2:o=2
 ·subst c2;simp
 by_cases c9:o=9
 ·subst c9;simp
 by_cases c7:o=7
 ·subst c7;simp
 simp [c1,c2,c9,c7]
abbrev Zuk:=List Z4b×Str×List Int×Int
def Z1f (c:Int):Zuk:=([],([],([],c)))
def Zih (l:List Z4b):Zuk:=(l,([],([],0)))
theorem Zydb (a b:Str):(Zth a b).length=8:=by simp [Zth,Zhb]
theorem Zrlb {l:List Zg} {n:Int} (h:Zwb l n=0):∀x∈Zi l,x.1=2→x.2.2.2.length=8:=by
 intro x hx h2
 obtain ⟨_,h1,_,hs,_⟩:=Z8f h
 unfold Zi at hx
 have hs:=hs x (Yga.1 hx).1
 unfold Z6d Zuc at hs
 rw [Xd (by omega),Xc h2] at hs
 simp only [Yc,decide_eq_true_eq] at hs
 omega
theorem Znkb {x:Zg} {n:Int} (h:WriteOk x n) (h2:x.1=2→x.2.2.2.length=8) {s:Str} (hs:s.length=8):(Zaj x s).length=8:=by
 unfold Zaj
 split
 ·rfl
 ·split
  ·rename_i q
   exact h2 q
  ·split
   ·exact hs
   ·have:x.2.2.2.length=8:=by rcases h.kind with q | q | q | q;omega;omega;omega;exact q.2
    unfold Zsh;rw [Xc ⟨hs,this⟩];exact Zydb _ _
theorem Zqeb {base:List Str} {l:List Zg} {n:Int} (hc:Zwb l n=0) (hb:(base.length:Int)=n) (hi:Zec base=true):Zec (Zmg base l)=true:=by
 obtain ⟨h1,h8,hs⟩:=Znh hi
 have hl:(Zmg base l).length=base.length:=Zij _ _ _ _
 unfold Zec
 rw [hl,Xa h1,Xa h8]
 show (true&&(Zmg base l).all Zvj)=true
 rw [Yz]
 refine List.all_eq_true.2 fun s hm=>?_
 obtain ⟨b,hb1,rfl⟩:=Y4.1 hm
 rw [hl] at hb1
 have hg:(base.getD b []).length=8:=hs _ (Zm1 hb1)
 have:((Zmg base l)[b]'(by rw [hl];exact hb1)).length=8:=by
  unfold Zmg;rw [Zxs hb1];cases hf:(Zi l).find? (fun x=>x.2.1==(b:Int)) with
  | none=>exact hg
  | some x=>
   have hx:=List.mem_of_find?_eq_some hf;have hw:=Zhz hc x hx;have hsrc:=hw.src;exact Znkb hw (Zrlb hc x hx) (hs _ (Zm1 (by omega)))
 unfold Zvj
 exact Xa this
def Z6j (m:Zp) (ph st dn:Int) (w:Nat):List Str:=if ph=4 then Zmg (Zpd m) (Ze m st w) else if ph=5 then Zfz m st dn w else Zpd m
section
variable {m:Zp} {ph tr nd st dn:Int} {dg:Str} {v w:Nat}
theorem MSt.base8 (h:MSt m ph tr nd st dn dg v w):∀s∈Zpd m,s.length=8:=(Znh h.img).2.2
theorem MSt.base (h:MSt m ph tr nd st dn dg v w):((Zpd m).length:Int)=m.1:=by
 have:=h.fit.b
 rw [Z95]
 omega
theorem Z0ob (h:MSt m ph tr nd st dn dg v w):((Z6j m ph st dn w).length:Int)=m.1:=by
 have:=h.base
 unfold Z6j Zmg Zfz
 split
 ·rw [Zij];exact this
 ·split
  ·rw [Zij];exact this
  ·exact this
theorem Z98 (hs:stM m=some (ph,(tr,(nd,(st,(dn,(dg,(v,w)))))))) (h:MSt m ph tr nd st dn dg v w):Zc fun k=>Zqd k m=some (Z6j m ph st dn w):=by
 have hf:=h.fit
 have hb:=hf.b
 have hn:=hf.n
 have hdr:=hf.dirt
 have hl:m.2.1.length≤1048576:=by omega
 have hfl:=(Z4p hf.f).1
 have pre:Zc fun k=>Zsf k m=some (Z6x (some (ph,tr,nd,st,dn,dg,v,w))):=by rw [← hs];exact Zvr m hl (by omega)
 have hll:=h.log
 have hplan:Zc fun k=>Zwb (Ze m st w) m.1=0→Zib k (Ze m st w)=some (Zl (Ze m st w)):=if hc:Zwb (Ze m st w) m.1=0 then (Zur (Ze m st w) (Z8f hc).1 (Znj hc)).mono fun k e _=>e else Zc.of fun k q=>absurd q hc
 refine (((pre.and (Z1t ph tr nd st dn dg (Zb v) hf)).and hplan).and (Zc.ge 1048577 fun k hk=>hk)).mono fun k ⟨⟨⟨e1,e2⟩,e3⟩,hk⟩=>?_
 unfold Zqd Z6j
 refine Za e1 (Za (Z7w (m:=m) ⟨by omega,hb.2⟩ (by omega) (by omega) hk) (Za e2 ?_))
 show (bif ph==4 then _ else _)=_
 by_cases c4:ph=4
 ·have hS:=h.snd (by omega)
  rw [Xc c4,show (ph==4)=true by simpa using c4,Xe];exact Za (Zw8 hS.code h.base h.base8 (by omega)) rfl
 ·rw [Xd c4,show (ph==4)=false by simpa using c4,Xf]
  show (bif ph==5 then _ else _)=_
  by_cases c5:ph=5
  ·have hS:=h.snd (by omega)
   rw [Xc c5,show (ph==5)=true by simpa using c5,Xe];exact Za (e3 hS.code) (Za (Zjx _ (by omega) k (by omega)) (Za (Zrjb hS ph tr nd dg (Zb v) hk) rfl))
  ·rw [Xd c5,show (ph==5)=false by simpa using c5]
   rfl
theorem Z0ib (h:MSt m ph tr nd st dn dg v w) (h3:3≤ph):Zc fun k=>Zsm k m (ph,(tr,(nd,(st,(dn,(dg,(Zb v,Zb w)))))))=some (Zl (Ze m st w)):=by
 have hc:=(h.snd h3).code
 refine (((Z1t ph tr nd st dn dg (Zb v) h.fit).and (Zix (Ze m st w) m.1 (by have:=Zl2 m st w;omega))).and (Zur _ (Z8f hc).1 (Znj hc))).mono fun k ⟨⟨e1,e2⟩,e3⟩=>?_
 unfold Zsm
 refine Za e1 (Za e2 ?_)
 rw [hc]
 exact Za e3 rfl
end
def Zxh (l:List Int):Nat:=orP (l.map Int.toNat)
theorem Zf6 {u:Nat} (h:u<16777216):Zxh (Zb u)=u:=by
 have e:(Zb u).map Int.toNat=Ztb u 24:=by
  unfold Zb;rw [Yfa];exact Y0a _
 unfold Zxh
 rw [e]
 refine Yia fun i=>?_
 rw [Z5x]
 by_cases hi:i<24
 ·cases hb:u.testBit i with
  | true=>exact Xa (by unfold Ztb;rw [Yga,Yha];exact ⟨hi,hb⟩)
  | false=>exact Xb fun q=>by rw [(Z9q q).2] at hb;cases hb
 ·rw [Y8 (Y6 (show u<2^24 by simpa using h) (Y7 (by omega) (by omega)))]
  exact Xb fun q=>hi (Z9q q).1
theorem Za7 {v w:Nat} (h:v &&& w=0):∀n,n≤24→(Ztb v n).length+(Ztb w n).length+(Ztb (Zqc v w) n).length=n
 | 0,_=>by simp [Ztb]
 | n+1,hn=>by
  have ih:=Za7 h n (by omega);have hb:(v &&& w).testBit n=false:=by rw [h];exact Yib n
  rw [Yeb] at hb;rw [Zit,Zit,Zit,Zi8 (by omega)];cases h1:v.testBit n <;> cases h2:w.testBit n <;> simp only [h1,h2] at hb ⊢
  ·simp;omega
  ·simp;omega
  ·simp;omega
  ·cases hb
theorem Zx0 {v w:Nat} (h:v &&& w=0):(Zb v).length+(Zb w).length+(Zb (Zqc v w)).length=24:=by
 have:=Za7 h 24 (Ye _)
 unfold Zb
 simp only [Yca]
 exact this
def Zfh (m:Zp) (l:List Int):List Z4b:=l.map fun x=>(false,(3+m.1+x,[]))
section
variable {m:Zp} {ph tr nd st dn:Int} {dg:Str} {v w:Nat}
theorem Z3ob {l:List Int} {i:Nat} (h:i<l.length):Zfh m (l.take (i+1))=Zfh m (l.take i)++[(false,(3+m.1+l[i],[]))]:=Z9cb _ h
theorem Zujb (h:Fit m st w) (l:List Int) (hl:l.length≤24) (hx:∀x∈l,0≤x∧x≤23) {k:Nat} (hk:100≤k):Zle.l0 k m.1 m.2.1 m.2.2 l (l.length:Int) 0 []=some (Zfh m l):=by
 have run:=Zbc (fun j i=>Zle.l0 j m.1 m.2.1 m.2.2 l (l.length:Int) (i:Int) (Zfh m (l.take i))) l.length (Zfh m l) (fun i hi j=>?_) (fun j=>?_) k (by omega)
 ·exact run
 ·have hr:=hx _ (Yi hi)
  conv=>lhs;unfold Zle.l0
  rw [dlt hi,Zs (by omega),Xe,Z3ob hi];exact Za (Zh hi) (Za (Z6w h hr.1 hr.2) (Za (Zlb (by simp [Zfh];omega)) rfl))
 ·conv=>lhs;unfold Zle.l0
  rw [Zbb (Ye _),Yk];rfl
def Zqp (m:Zp) (ph:Int) (v:Nat) (a b:Int) (dg:Str):Zuk:=if ph=1 then (match Z4h (Zqc v 0) (a+b) with
 | some l=>Zih ((Zfh m l++[Zzc])++Zzb m.2 2 0 a b 0 dg v (Zxh l))
 | none=>Z1f 11) else Z1f 10
theorem Zz3 {f:Nat} (hf:f<16777216) {n:Int} (h0:1≤n) {l:List Int} (h:Z4h f n=some l):∃u,u<16777216∧l=Zb u∧Zxh l=u∧l.length≤24∧∀x∈l,0≤x∧x≤23:=by
 obtain ⟨⟨u,h1,h2,_⟩,_⟩:=Zy3 hf h0 h
 subst h2
 refine ⟨u,h1,rfl,Zf6 h1,Zyg u,fun x hx=>?_⟩
 obtain ⟨j,hj,rfl⟩:=Y4.1 hx
 exact Z2k hj
theorem Zcib (h:MSt m ph tr nd st dn dg v w) (c:Zjg) (ha:1≤c.2.1∧c.2.1≤20) (hb:0≤c.2.2.1∧c.2.2.1≤4) (hd:c.2.2.2.1.length≤32):Zc fun k=>Zle k m (ph,(tr,(nd,(st,(dn,(dg,(Zb v,Zb w))))))) c=some (Zqp m ph v c.2.1 c.2.2.1 c.2.2.2.1):=by
 unfold Zqp
 by_cases c1:ph=1
 ·obtain ⟨n,hn⟩:∃n:Nat,c.2.1+c.2.2.1=(n:Int):=⟨(c.2.1+c.2.2.1).toNat,by omega⟩
  have hfl:=Zsr h.hv (by omega:0<16777216)
  have hr:∀k,200≤k→Zub k (Zb v) [] (Ya .i64 (c.2.1+c.2.2.1))=some (match Z4h (Zqc v 0) (c.2.1+c.2.2.1) with
   | some l=>(l,true)
   | none=>([],false)):=fun k hk=>by
   have:=Z68 v 0 n h.hv (by omega) (by omega) hk;rw [Zrp] at this;rw [hn,wn (by omega)];exact this
  rw [Xc c1];cases hres:Z4h (Zqc v 0) (c.2.1+c.2.2.1) with
  | none=>
   refine (Zc.ge 200 fun k hk=>hk).mono fun k hk=>?_
   have hr:=hr k hk;rw [hres] at hr;unfold Zle;show (bif ph != 1 then _ else _)=_;rw [show (ph != 1)=false by simpa using c1,Xf];exact Za hr rfl
  | some l=>
   obtain ⟨u,u1,u2,u3,u4,u5⟩:=Zz3 hfl (by omega) hres;dsimp only;rw [u3];refine ((Z6i (m:=m) h.fit.f h.two (a:=2) (b:=0) (c:=c.2.1) (d:=c.2.2.1) (e:=0) (x:=c.2.2.2.1) (v:=v) (w:=u) ⟨by omega,by omega,by omega,by omega,by omega,hd,h.hv,u1⟩).and (Zc.ge 200 fun k hk=>hk)).mono fun k ⟨e,hk⟩=>?_
   have hr:=hr k hk;rw [hres] at hr;rw [← u2] at e;have hkl:=Z0r m.2 (Ztf (2,0,c.2.1,c.2.2.1,0,(v:Int),(u:Int),c.2.2.2.1));unfold Zle;show (bif ph != 1 then _ else _)=_;rw [show (ph != 1)=false by simpa using c1,Xf];refine Za hr ?_;rw [Yq,Xf];refine Za (Zujb h.fit l u4 u5 (by omega)) (Za (Zlb (by simp [Zfh];omega)) (Za e (Za (Zlb (by unfold Zzb;simp [Zfh];omega)) ?_)));rfl
 ·refine Zc.of fun k=>?_
  unfold Zle;show (bif ph != 1 then _ else _)=_;rw [show (ph != 1)=true by simpa using c1,Xd c1];rfl
theorem Zkab {x:Zg} (h:Zuc x.1 x.2.1 x.2.2.1 x.2.2.2 8=true):Zmz x:=by
 unfold Zuc at h
 unfold Zmz Num
 split at h
 ·simp only [Yc,decide_eq_true_eq] at h;omega
 ·split at h
  ·simp only [Yc,decide_eq_true_eq] at h;omega
  ·split at h
   ·simp only [Yc,decide_eq_true_eq] at h;omega
   ·split at h
    ·simp only [Yc,decide_eq_true_eq] at h;omega
    ·split at h
     ·simp only [Yc,decide_eq_true_eq] at h;omega
     ·cases h
def Z3h (n:Int) (x:Zg):Str:=Z4f (Zj n++Ztk x)
theorem Zajb (n:Int) (x:Zg) (h0:0≤n∧n≤1000000) (h:Zuc x.1 x.2.1 x.2.2.1 x.2.2.2 8=true):Zc fun k=>Zio k n x=some (Z3h n x):=by
 have l0:=Zhe n
 have l1:=Zhe x.1
 have l2:=Zhe x.2.1
 have l3:=Zhe x.2.2.1
 have l4:=Ztl x.2.2.2
 have l5:=Z9u h
 have lX:(Ztk x).length≤60:=by unfold Ztk;simp only [Yf];omega
 refine (((Zex n (by constructor <;> omega)).and (Zmjb x (Zkab h) l5)).and (Zgx (Zj n++Ztk x) (by simp;omega))).mono fun k ⟨⟨a,b⟩,c⟩=>?_
 unfold Zio
 exact Za a (Za b (Za (Zjf (by omega)) (Za c rfl)))
def Zwq (m:Zp) (ph nd st:Int) (w:Nat) (x:Zg):Zuk:=if ph=2 then (if ((Ze m st w).length:Int)=nd then Z1f 9 else if Zwb (Ze m st w++[x]) m.1=0 then Zih ((false,(3+m.1+(Zb w).getD (st+((Ze m st w).length:Int)).toNat 0,Z3h ((Ze m st w).length:Int) x))::(if x.1=5 then [Zzc] else [])) else Z1f (Zwb (Ze m st w++[x]) m.1)) else Z1f 10
theorem Zkjb (h:MSt m ph tr nd st dn dg v w) (x:Zg) (hx:Zuc x.1 x.2.1 x.2.2.1 x.2.2.2 8=true):Zc fun k=>Z2n k m (ph,(tr,(nd,(st,(dn,(dg,(Zb v,Zb w))))))) (Ze m st w) x=some (Zwq m ph nd st w x):=by
 have hll:=h.log
 have hlw:=Zyg w
 refine (((Zix (Ze m st w++[x]) m.1 (by simp;omega)).and (Zajb ((Ze m st w).length:Int) x (by omega) hx)).and (Zc.ge 100 fun k hk=>hk)).mono fun k ⟨⟨e1,e2⟩,hk⟩=>?_
 have hz:Ztj (Ze m st w)=some ((Ze m st w).length:Int):=rfl
 unfold Z2n Zwq
 show (bif ph != 2 then _ else _)=_
 by_cases c2:ph=2
 ·rw [Xc c2,show (ph != 2)=false by simpa using c2,Xf]
  obtain ⟨q1,q2,q3,q4,q5,q6,q7,q8⟩:=h.busy (by omega);refine Za hz ?_;show (bif ((Ze m st w).length:Int)==nd then _ else _)=_
  by_cases cn:((Ze m st w).length:Int)=nd
  ·rw [Xc cn,show (((Ze m st w).length:Int)==nd)=true by simpa using cn]
   rfl
  ·rw [Xd cn,show (((Ze m st w).length:Int)==nd)=false by simpa using cn,Xf]
   refine Za (Zlb (by simp;omega)) (Za e1 ?_)
   by_cases cc:Zwb (Ze m st w++[x]) m.1=0
   ·rw [Xc cc,show (Zwb (Ze m st w++[x]) m.1 != 0)=false by simpa using cc,Xf]
    obtain ⟨a1,a2,a3⟩:=Zzv (w:=w) (n:=st+((Ze m st w).length:Int)) (by omega) (by omega);show Yx (at? (Zb w) (Ya .i64 (st+((Ze m st w).length:Int)))) _=_;rw [w64 (n:=st+((Ze m st w).length:Int)) (by omega) (by omega)];refine Za a1 (Za (Z6w h.fit a2 a3) (Za e2 ?_));show (bif x.1==5 then _ else _)=_
    by_cases c5:x.1=5
    ·rw [Xc c5,show (x.1==5)=true by simpa using c5,Xe]
     exact Za (Zlb (by simp)) rfl
    ·rw [Xd c5,show (x.1==5)=false by simpa using c5]
     rfl
   ·rw [Xd cc,show (Zwb (Ze m st w++[x]) m.1 != 0)=true by simpa using cc]
    rfl
 ·rw [Xd c2,show (ph != 2)=true by simpa using c2]
  rfl
end
end Go.Proofs.Qz
