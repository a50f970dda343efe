/- What the law FnFold needs, part 12 of 15: the Lean functions of the Go functions that it reaches, with the proofs that the calls come to what they say, and plain facts about them. Conditions: those that each theorem states. Written by a session and by its programs (after the kit's printer). -/
import Derived.Lib.Join
import Derived.Test.YtmohoeinamddcaaGreatDoorXFnFold8
import Derived.Test.YtmohoeinamddcaaGreatDoorXFnFold9
import Derived.Test.YtmohoeinamddcaaGreatDoorXFnFold10
open Go.IntKind renaming wrap → Ya, max → Ysa
open Option renaming bind_some → Yb, bind → Y2, bind_eq_some_iff → Ylb
open Bool renaming and_eq_true → Yc, not_true → Ys, false_ne_true → Y3, true_and → Y4, or_true → Yca, true_or → Yda, false_or → Yoa, not_false → Ypa, or_eq_true → Yqa
open List renaming replicate → Yd, length_append → Yf, getElem_mem → Yg, mem_cons → Yh, getElem?_eq_getElem → Yi, range → Yj, take_length → Yk, append_assoc → Ym, getD_eq_getElem?_getD → Yn, length_cons → Yo, length_map → Yp, length_take → Yq, mem_cons_self → Yr, getElem_map → Yu, append_nil → Yx, drop_zero → Yy, mem_cons_of_mem → Yz, mem_iff_getElem → Y0, not_mem_nil → Y1, length_nil → Y6, mem_map → Y7, length_replicate → Yea, length_singleton → Yfa, map_map → Yga, mem_filter → Yha, mem_range → Yia, flatMap_append → Yta, flatMap_cons → Yua, getElem_range → Yva, getElem_take → Ywa, length_filter_le → Yxa, length_range → Yya, map_append → Yza, map_id' → Y0a, map_take → Y1a, mem_append → Y2a, mem_of_find?_eq_some → Y3a, mem_of_getLast? → Y4a, mem_of_mem_take → Y5a, mem_singleton → Y6a, nil_append → Y7a, pairwise_cons → Y8a, pairwise_iff_getElem → Y9a, replicate_zero → Yab, take_of_length_le → Ybb
open Nat renaming le_refl → Ye, lt_of_lt_of_le → Y8, pow_le_pow_right → Y9, testBit_lt_two_pow → Yaa, eq_of_testBit_eq → Yja, le_of_eq → Yka, mod_lt → Yla, or_lt_two_pow → Yma, div_lt_of_lt_mul → Ycb, pow_succ → Ydb, sub_self → Yeb, sub_zero → Yfb, testBit_and → Ygb, testBit_or → Yhb, testBit_xor → Yib, xor_lt_two_pow → Yjb, zero_testBit → Ykb
open BitVec renaming ofInt → Yl, getLsbD → Yba, ofInt_natCast → Yna
open Int renaming toNat_natCast → Yt, le_refl → Yv, tmod → Yw, tmod_eq_emod_of_nonneg → Y5, toNat_of_nonneg → Yra
namespace Go.Proofs.Qz
open Go Go.RowKit
set_option linter.unusedVariables false
def dgT (x n:Int):Int:=intBits .or .u32 (shr .u32 x n) (shl .u32 x (32-n))
theorem Z8lb (x y:Int):intBits .or .u32 x y=intBits .or .u32 y x:=by
 unfold intBits
 simp [BitVec.or_comm]
theorem Z0l {n:Int} (x:Int) (hn:n∈([2,6,7,11,13,17,18,19,22,25]:List Int)):Zsh x n=some (dgT x n):=by
 have h:intBits .and .u64 (Ya .u64 (Ya .i64 (0-n))) 31=32-n∧Ya .u64 (32-(32-n))=n∧0≤n∧n≤32:=by
  revert n
  decide +kernel
 obtain ⟨h1,h2,h3,h4⟩:=h
 unfold Zsh Znq
 rw [h1]
 dsimp only
 rw [h2,Z3b (by omega),Z3b h3]
 simp only [Yb]
 rw [Z8lb]
 rfl
theorem Zjm {n:Int} (x:Int) (h:0≤n∧n≤32):Z8g x n=some (dgT x n):=by
 unfold Z8g
 have h2:Ya .u64 (32-n)=32-n:=by rw [Z9f];omega
 dsimp only
 rw [Z3b h.1,h2,Z3b (by omega)]
 rfl
def Z6w (b:Str) (i:Nat):Int:=Ya .u32 (((b.getD i 0).toNat:Nat):Int)
def dgW (b:Str) (i:Nat):Int:=intBits .or .u32 (intBits .or .u32 (intBits .or .u32 (shl .u32 (Z6w b (4*i)) 24) (shl .u32 (Z6w b (4*i+1)) 16)) (shl .u32 (Z6w b (4*i+2)) 8)) (Z6w b (4*i+3))
theorem atD {α:Type} {l:List α} {j:Int} {n:Nat} (d:α) (hj:j=(n:Int)) (h:n<l.length):at? l j=some (l.getD n d):=by
 rw [hj,Zm h,Yn,Yi h]
 rfl
theorem Zkdb {α:Type} {l:List α} {i:Nat} {x:α} (h:i<l.length):Zjr l (i:Int) x=some (l.set i x):=by
 unfold Zjr
 rw [Xc ⟨by omega,by omega⟩]
 rfl
theorem Zkkb (b:Str) {i:Nat} (h:4*i+4≤b.length):Zxo (b.drop (4*i))=some (dgW b i):=by
 have hd:∀q,q<4→(b.drop (4*i)).getD q 0=b.getD (4*i+q) 0:=fun q _=>by
  rw [Yn,Yn,List.getElem?_drop]
 have hl:(b.drop (4*i)).length=b.length-4*i:=by simp
 unfold Zxo
 rw [atD (j:=0) (n:=0) 0 rfl (by omega),atD (j:=1) (n:=1) 0 rfl (by omega),atD (j:=2) (n:=2) 0 rfl (by omega),atD (j:=3) (n:=3) 0 rfl (by omega),hd 0 (by omega),hd 1 (by omega),hd 2 (by omega),hd 3 (by omega)]
 rfl
def dgN (w:List Int) (i:Nat):Int:=Ya .u32 ((Ya .u32 ((Ya .u32 (w.getD (i-16) 0+(intBits .xor .u32 (intBits .xor .u32 (dgT (w.getD (i-15) 0) 7) (dgT (w.getD (i-15) 0) 18)) (shr .u32 (w.getD (i-15) 0) 3))))+w.getD (i-7) 0))+(intBits .xor .u32 (intBits .xor .u32 (dgT (w.getD (i-2) 0) 17) (dgT (w.getD (i-2) 0) 19)) (shr .u32 (w.getD (i-2) 0) 10)))
def dgS (b:Str):Nat→List Int
 | 0=>Yd 64 0
 | i+1=>(dgS b i).set i (if i<16 then dgW b i else dgN (dgS b i) i)
theorem Z7r (b:Str):∀i,(dgS b i).length=64
 | 0=>by simp [dgS]
 | i+1=>by rw [dgS,List.length_set,Z7r b i]
theorem Zeq {i d:Nat} (h:d≤i) (hi:i<64):Ya .i64 ((i:Int)-(d:Int))=((i-d:Nat):Int):=by rw [w64] <;> omega
theorem Z6jb {b:Str} (hb:b.length=64):∀k,64<k→Ztb.l0 k b 0 (Yd 64 (0:Int))=some (dgS b 64):=by
 refine Zgc (fun j i=>Ztb.l0 j b (i:Int) (dgS b i)) 64 _ (fun i hi j=>?_) fun j=>?_
 ·have hl:=Z7r b i
  conv=>lhs;unfold Ztb.l0
  rw [Xa (by omega:(i:Int)<64),Zv (by omega)];dsimp only;rw [Xe]
  by_cases h16:i<16
  ·rw [Xa (by omega:(i:Int)<16),w64 (n:=4*(i:Int)) (by omega) (by omega)]
   have hc:Z9b b (4*(i:Int)) (b.length:Int)=some (b.drop (4*i)):=by
    have:=Zng (l:=b) (i:=4*i) (j:=b.length) (by omega) (Ye _);rw [Yk] at this;rw [show (4*(i:Int))=((4*i:Nat):Int) by omega];exact this
   rw [hc];simp only [Xe,Yb];rw [Zkkb b (by omega)];simp only [Yb];rw [atD (n:=i) 0 rfl (by omega)];simp only [Yb];rw [Zkdb (by omega)];simp only [Yb];rw [dgS,Xc h16]
  ·rw [Xb (by omega:¬(i:Int)<16)]
   simp only [Xf];rw [show (15:Int)=((15:Nat):Int) from rfl,show (2:Int)=((2:Nat):Int) from rfl,show (16:Int)=((16:Nat):Int) from rfl,Zeq (by omega) hi,Zeq (by omega) hi,Zeq (by omega) hi];rw [show Ya .i64 ((i:Int)-7)=((i-7:Nat):Int) from Zeq (d:=7) (by omega) hi];rw [atD (n:=i-15) 0 rfl (by omega),atD (n:=i-2) 0 rfl (by omega),atD (n:=i-16) 0 rfl (by omega),atD (n:=i-7) 0 rfl (by omega),atD (n:=i) 0 rfl (by omega)];simp only [Yb];rw [Z0l _ (by decide),Z0l _ (by decide),Z3b (by omega),Z0l _ (by decide),Z0l _ (by decide),Z3b (by omega)];simp only [Yb];rw [Zkdb (by omega)];simp only [Yb];rw [dgS,Xd h16];rfl
 ·conv=>lhs;unfold Ztb.l0
  rw [Xb (by omega:¬((64:Nat):Int)<64)];rfl
theorem Z8nb {b:Str} (hb:b.length=64):∀k,16<k→Zr.l0 k b 0 (Yd 64 (0:Int))=some (dgS b 16):=by
 refine Zgc (fun j i=>Zr.l0 j b (i:Int) (dgS b i)) 16 _ (fun i hi j=>?_) fun j=>?_
 ·have hl:=Z7r b i
  conv=>lhs;unfold Zr.l0
  rw [Xa (by omega:(i:Int)<16),Zv (by omega),w64 (n:=4*(i:Int)) (by omega) (by omega)];dsimp only;rw [Xe,w64 (n:=4*(i:Int)+1) (by omega) (by omega),w64 (n:=4*(i:Int)+2) (by omega) (by omega),w64 (n:=4*(i:Int)+3) (by omega) (by omega)];rw [atD (j:=4*(i:Int)) (n:=4*i) 0 (by omega) (by omega),atD (j:=4*(i:Int)+1) (n:=4*i+1) 0 (by omega) (by omega),atD (j:=4*(i:Int)+2) (n:=4*i+2) 0 (by omega) (by omega),atD (j:=4*(i:Int)+3) (n:=4*i+3) 0 (by omega) (by omega),atD (j:=(i:Int)) (n:=i) 0 rfl (by omega)];rw [Z3b (by omega),Z3b (by omega),Z3b (by omega)];simp only [Yb,Yt];rw [dgS,Xc hi];rfl
 ·conv=>lhs;unfold Zr.l0
  rw [Xb (by omega:¬((16:Nat):Int)<16)];rfl
theorem Z9nb {b:Str} (hb:b.length=64):∀(d i j:Nat),i+d=64→16≤i→d<j→Zr.l1 j (i:Int) (dgS b i)=some (dgS b 64):=by
 intro d
 induction d with
 | zero=>
  intro i j h1 h2 h3;obtain rfl:i=64:=by omega
  obtain ⟨j,rfl⟩:∃q,j=q+1:=⟨j-1,by omega⟩
  conv=>lhs;unfold Zr.l1
  rw [Xb (by omega:¬((64:Nat):Int)<64)];rfl
 | succ d ih=>
  intro i j h1 h2 h3;obtain ⟨j,rfl⟩:∃q,j=q+1:=⟨j-1,by omega⟩;have hi:i<64:=by omega
  have hl:=Z7r b i;rw [← ih (i+1) j (by omega) (by omega) (by omega)]
  conv=>lhs;unfold Zr.l1
  rw [Xa (by omega:(i:Int)<64),Zv (by omega)];dsimp only;rw [Xe];rw [show Ya .i64 ((i:Int)-15)=((i-15:Nat):Int) from Zeq (d:=15) (by omega) hi,show Ya .i64 ((i:Int)-2)=((i-2:Nat):Int) from Zeq (d:=2) (by omega) hi,show Ya .i64 ((i:Int)-16)=((i-16:Nat):Int) from Zeq (d:=16) (by omega) hi,show Ya .i64 ((i:Int)-7)=((i-7:Nat):Int) from Zeq (d:=7) (by omega) hi];rw [atD (n:=i-15) 0 rfl (by omega),atD (n:=i-2) 0 rfl (by omega),atD (n:=i-16) 0 rfl (by omega),atD (n:=i-7) 0 rfl (by omega),atD (j:=(i:Int)) (n:=i) 0 rfl (by omega)];simp only [Yb];rw [Zjm _ (by omega),Zjm _ (by omega),Z3b (by omega),Zjm _ (by omega),Zjm _ (by omega),Z3b (by omega)];simp only [Yb,Yt];rw [dgS,Xd (by omega)];rfl
abbrev S8:=Int×Int×Int×Int×Int×Int×Int×Int
def Z97 (key w:Int) (s:S8):Int:=Ya .u32 ((Ya .u32 ((Ya .u32 ((Ya .u32 (s.2.2.2.2.2.2.2+(intBits .xor .u32 (intBits .xor .u32 (dgT s.2.2.2.2.1 6) (dgT s.2.2.2.2.1 11)) (dgT s.2.2.2.2.1 25))))+(intBits .xor .u32 (intBits .and .u32 s.2.2.2.2.1 s.2.2.2.2.2.1) (intBits .and .u32 (intBits .xor .u32 (Ysa .u32) s.2.2.2.2.1) s.2.2.2.2.2.2.1))))+key))+w)
def dgR2 (s:S8):Int:=Ya .u32 ((intBits .xor .u32 (intBits .xor .u32 (dgT s.1 2) (dgT s.1 13)) (dgT s.1 22))+(intBits .xor .u32 (intBits .xor .u32 (intBits .and .u32 s.1 s.2.1) (intBits .and .u32 s.1 s.2.2.1)) (intBits .and .u32 s.2.1 s.2.2.1)))
def dgR (key w:Int) (s:S8):S8:=(Ya .u32 (Z97 key w s+dgR2 s),s.1,s.2.1,s.2.2.1,Ya .u32 (s.2.2.2.1+Z97 key w s),s.2.2.2.2.1,s.2.2.2.2.2.1,s.2.2.2.2.2.2.1)
def dgI (w:List Int) (s:S8):Nat→S8
 | 0=>s
 | i+1=>dgR (Zrm.getD i 0) (w.getD i 0) (dgI w s i)
theorem Zdab:Zrm.length=64:=by decide
theorem Zwkb:Z3p=some Zrm:=rfl
theorem Z3jb {w:List Int} (hw:w.length=64) (s:S8):∀k,64<k→Ztb.l1 k s.1 s.2.1 s.2.2.1 s.2.2.2.1 s.2.2.2.2.1 s.2.2.2.2.2.1 s.2.2.2.2.2.2.1 s.2.2.2.2.2.2.2 0 w=some (dgI w s 64):=by
 have hk:=Zdab
 refine Zgc (fun j i=>Ztb.l1 j (dgI w s i).1 (dgI w s i).2.1 (dgI w s i).2.2.1 (dgI w s i).2.2.2.1 (dgI w s i).2.2.2.2.1 (dgI w s i).2.2.2.2.2.1 (dgI w s i).2.2.2.2.2.2.1 (dgI w s i).2.2.2.2.2.2.2 (i:Int) w) 64 _ (fun i hi j=>?_) fun j=>?_
 ·conv=>lhs;unfold Ztb.l1
  rw [Xa (by omega:(i:Int)<64),Zv (by omega),Xe];rw [Z0l _ (by decide),Z0l _ (by decide),Z0l _ (by decide),Z0l _ (by decide),Z0l _ (by decide),Z0l _ (by decide)];simp only [Yb];rw [atD (l:=Zrm) (j:=(i:Int)) (n:=i) 0 rfl (by omega),atD (l:=w) (j:=(i:Int)) (n:=i) 0 rfl (by omega)];simp only [Yb];rfl
 ·conv=>lhs;unfold Ztb.l1
  rw [Xb (by omega:¬((64:Nat):Int)<64)];rfl
theorem Z7nb {w:List Int} (hw:w.length=64) (s:S8):∀k,64<k→Zr.l2 k s.1 s.2.1 s.2.2.1 s.2.2.2.1 s.2.2.2.2.1 s.2.2.2.2.2.1 s.2.2.2.2.2.2.1 s.2.2.2.2.2.2.2 0 w Zrm=some (dgI w s 64):=by
 have hk:=Zdab
 refine Zgc (fun j i=>Zr.l2 j (dgI w s i).1 (dgI w s i).2.1 (dgI w s i).2.2.1 (dgI w s i).2.2.2.1 (dgI w s i).2.2.2.2.1 (dgI w s i).2.2.2.2.2.1 (dgI w s i).2.2.2.2.2.2.1 (dgI w s i).2.2.2.2.2.2.2 (i:Int) w Zrm) 64 _ (fun i hi j=>?_) fun j=>?_
 ·conv=>lhs;unfold Zr.l2
  rw [Xa (by omega:(i:Int)<64),Zv (by omega),Xe];rw [Zjm _ (by omega),Zjm _ (by omega),Zjm _ (by omega),Zjm _ (by omega),Zjm _ (by omega),Zjm _ (by omega)];simp only [Yb];rw [atD (l:=Zrm) (j:=(i:Int)) (n:=i) 0 rfl (by omega),atD (l:=w) (j:=(i:Int)) (n:=i) 0 rfl (by omega)];simp only [Yb];rfl
 ·conv=>lhs;unfold Zr.l2
  rw [Xb (by omega:¬((64:Nat):Int)<64)];rfl
def lst (s:S8):List Int:=[s.1,s.2.1,s.2.2.1,s.2.2.2.1,s.2.2.2.2.1,s.2.2.2.2.2.1,s.2.2.2.2.2.2.1,s.2.2.2.2.2.2.2]
def dgP (x r:S8):S8:=(Ya .u32 (x.1+r.1),Ya .u32 (x.2.1+r.2.1),Ya .u32 (x.2.2.1+r.2.2.1),Ya .u32 (x.2.2.2.1+r.2.2.2.1),Ya .u32 (x.2.2.2.2.1+r.2.2.2.2.1),Ya .u32 (x.2.2.2.2.2.1+r.2.2.2.2.2.1),Ya .u32 (x.2.2.2.2.2.2.1+r.2.2.2.2.2.2.1),Ya .u32 (x.2.2.2.2.2.2.2+r.2.2.2.2.2.2.2))
def W32 (n:Int):Prop:=0≤n∧n<4294967296
def U32 (s:S8):Prop:=W32 s.1∧W32 s.2.1∧W32 s.2.2.1∧W32 s.2.2.2.1∧W32 s.2.2.2.2.1∧W32 s.2.2.2.2.2.1∧W32 s.2.2.2.2.2.2.1∧W32 s.2.2.2.2.2.2.2
theorem Zyn (n:Int):W32 (Ya .u32 n):=by
 unfold W32
 rw [Zsr]
 omega
theorem Zxn {n:Int} (h:W32 n):Ya .u32 n=n:=by
 unfold W32 at h
 rw [Zsr]
 omega
theorem w32l {n:Int} (h:W32 n):Ya .i64 n=n:=by
 unfold W32 at h
 exact w64 (by omega) (by omega)
theorem Zrgb (x r:S8):U32 (dgP x r):=⟨Zyn _,Zyn _,Zyn _,Zyn _,Zyn _,Zyn _,Zyn _,Zyn _⟩
theorem lt8 {i:Nat} (h:i<8):i=0∨i=1∨i=2∨i=3∨i=4∨i=5∨i=6∨i=7:=by omega
theorem Zekb (x r:S8):∀k,8<k→Ztb.l2 k r.1 r.2.1 r.2.2.1 r.2.2.2.1 r.2.2.2.2.1 r.2.2.2.2.2.1 r.2.2.2.2.2.2.1 r.2.2.2.2.2.2.2 0 (lst x)=some (lst (dgP x r)):=by
 refine Zgc (fun j i=>Ztb.l2 j r.1 r.2.1 r.2.2.1 r.2.2.2.1 r.2.2.2.2.1 r.2.2.2.2.2.1 r.2.2.2.2.2.2.1 r.2.2.2.2.2.2.2 (i:Int) ((lst (dgP x r)).take i++(lst x).drop i)) 8 _ (fun i hi j=>?_) fun j=>?_
 ·rcases lt8 hi with rfl | rfl | rfl | rfl | rfl | rfl | rfl | rfl <;> kernel_rfl
 ·kernel_rfl
def dgQ (x r:Int):Int:=Ya .i64 (Ya .u32 (Ya .u32 x+r))
def dgL (x r:S8):List Int:=[dgQ x.1 r.1,dgQ x.2.1 r.2.1,dgQ x.2.2.1 r.2.2.1,dgQ x.2.2.2.1 r.2.2.2.1,dgQ x.2.2.2.2.1 r.2.2.2.2.1,dgQ x.2.2.2.2.2.1 r.2.2.2.2.2.1,dgQ x.2.2.2.2.2.2.1 r.2.2.2.2.2.2.1,dgQ x.2.2.2.2.2.2.2 r.2.2.2.2.2.2.2]
theorem Zdob (x r:S8):∀k,8<k→Zr.l3 k (lst x) 0 (lst r) []=some (dgL x r):=by
 refine Zgc (fun j i=>Zr.l3 j (lst x) (i:Int) (lst r) ((dgL x r).take i)) 8 _ (fun i hi j=>?_) fun j=>?_
 ·rcases lt8 hi with rfl | rfl | rfl | rfl | rfl | rfl | rfl | rfl <;> kernel_rfl
 ·kernel_rfl
theorem Zco {x:Int} (r:Int) (h:W32 x):dgQ x r=Ya .u32 (x+r):=by
 unfold dgQ
 rw [Zxn h,w32l (Zyn _)]
def dgB (x:S8) (b:Str):S8:=dgP x (dgI (dgS b 64) x 64)
theorem Zuab (x:S8):at? (lst x) 0=some x.1∧at? (lst x) 1=some x.2.1∧at? (lst x) 2=some x.2.2.1∧at? (lst x) 3=some x.2.2.2.1∧at? (lst x) 4=some x.2.2.2.2.1∧at? (lst x) 5=some x.2.2.2.2.2.1∧at? (lst x) 6=some x.2.2.2.2.2.2.1∧at? (lst x) 7=some x.2.2.2.2.2.2.2:=⟨rfl,rfl,rfl,rfl,rfl,rfl,rfl,rfl⟩
theorem Z6ib (x:S8) {b:Str} (hb:b.length=64) {k:Nat} (hk:66≤k):Ztb k (lst x) b=some (lst (dgB x b)):=by
 obtain ⟨a0,a1,a2,a3,a4,a5,a6,a7⟩:=Zuab x
 unfold Ztb
 refine Za (Z6jb hb _ (by omega)) ?_
 refine Za a0 (Za a0 (Za a1 (Za a1 (Za a2 (Za a2 (Za a3 (Za a3 (Za a4 (Za a4 (Za a5 (Za a5 (Za a6 (Za a6 (Za a7 (Za a7 ?_)))))))))))))))
 refine Za (Z3jb (Z7r b 64) x _ (by omega)) ?_
 refine Za (Zekb x _ _ (by omega)) ?_
 rw [dgB]
theorem Zknb {x:S8} (hx:U32 x) {b:Str} (hb:b.length=64) {k:Nat} (hk:66≤k):Zr k (lst x) b=some (lst (dgB x b)):=by
 obtain ⟨h0,h1,h2,h3,h4,h5,h6,h7⟩:=hx
 obtain ⟨a0,a1,a2,a3,a4,a5,a6,a7⟩:=Zuab x
 have hm:Zrg 4 64 64 (0:Int)=some (Yd 64 0):=rfl
 have hs:Zr.l1 k 16 (dgS b 16)=some (dgS b 64):=Z9nb hb 48 16 _ rfl (Ye _) (by omega)
 unfold Zr
 refine Za hm (Za (Z8nb hb _ (by omega)) (Za hs ?_))
 refine Za a0 (Za a1 (Za a2 (Za a3 (Za a4 (Za a5 (Za a6 (Za a7 (Za Zwkb ?_))))))))
 rw [Zxn h0,Zxn h1,Zxn h2,Zxn h3,Zxn h4,Zxn h5,Zxn h6,Zxn h7]
 refine Za (Z7nb (Z7r b 64) x _ (by omega)) ?_
 refine Za (Zdob x (dgI (dgS b 64) x 64) _ (by omega)) ?_
 unfold dgL
 rw [Zco _ h0,Zco _ h1,Zco _ h2,Zco _ h3,Zco _ h4,Zco _ h5,Zco _ h6,Zco _ h7,dgB,dgP,lst]
def dgF:Nat→Str→S8→S8
 | 0,_,x=>x
 | n+1,s,x=>dgF n (s.drop 64) (dgB x (s.take 64))
theorem Z87 (x:S8) (b:Str):U32 (dgB x b):=Zrgb _ _
theorem Zo1:∀(n:Nat) (s:Str) {x:S8},U32 x→U32 (dgF n s x)
 | 0,_,_,h=>h
 | n+1,s,x,_=>Zo1 n _ (Z87 _ _)
theorem Z7ib {k:Nat} (hk:66≤k):∀(n:Nat) (s:Str) (x:S8) (j:Nat),s.length=64*n→n<j→Zsc.l0 k j s (lst x)=some (lst (dgF n s x)):=by
 intro n
 induction n with
 | zero=>
  intro s x j hs hj;obtain ⟨j,rfl⟩:∃q,j=q+1:=⟨j-1,by omega⟩;obtain rfl:s=[]:=List.eq_nil_of_length_eq_zero (by omega);rfl
 | succ n ih=>
  intro s x j hs hj;obtain ⟨j,rfl⟩:∃q,j=q+1:=⟨j-1,by omega⟩
  have hne:(s==[])=false:=by
   cases s with
   | nil=>simp at hs
   | cons a s=>rfl
  have h1:Z9b s 0 64=some (s.take 64):=Zng (l:=s) (i:=0) (j:=64) (by omega) (by omega)
  have h2:Z9b s 64 (s.length:Int)=some (s.drop 64):=by
   have:=Zng (l:=s) (i:=64) (j:=s.length) (by omega) (Ye _);rw [Yk] at this;exact this
  unfold Zsc.l0;rw [hne];simp only [Ypa,Xe];refine Za h1 (Za (Z6ib x (by simp;omega) hk) (Za h2 ?_));rw [ih (s.drop 64) _ j (by simp;omega) (by omega),dgF]
theorem Zmnb {k:Nat} (hk:66≤k) (all:Str) (hal:all.length≤1000000):∀(d q:Nat) (x:S8) (j:Nat),all.length=64*(q+d)→d<j→U32 x→Zs.l2 k j (Zfb all) ((64*q:Nat):Int) (lst x)=some (lst (dgF d (all.drop (64*q)) x)):=by
 have hbl:(Zfb all).length=all.length:=Z20 all
 intro d
 induction d with
 | zero=>
  intro q x j h1 hj hx;obtain ⟨j,rfl⟩:∃q,j=q+1:=⟨j-1,by omega⟩;unfold Zs.l2;rw [Xb (by omega:¬((64*q:Nat):Int)<((Zfb all).length:Int))];rfl
 | succ d ih=>
  intro q x j h1 hj hx;obtain ⟨j,rfl⟩:∃q,j=q+1:=⟨j-1,by omega⟩;have hw:Ya .i64 (((64*q:Nat):Int)+64)=((64*(q+1):Nat):Int):=by rw [w64] <;> omega
  have hc:Z9b (Zfb all) ((64*q:Nat):Int) ((64*(q+1):Nat):Int)=some (Zfb ((all.drop (64*q)).take 64)):=by
   rw [Zng (by omega) (by omega)];unfold Zfb;rw [← Y1a,← List.map_drop,List.drop_take];congr 3;omega
  unfold Zs.l2;rw [Xa (by omega:((64*q:Nat):Int)<((Zfb all).length:Int)),hw];simp only [Xe];refine Za hc ?_;rw [Z4kb];refine Za (Zknb hx (by simp;omega) hk) ?_;rw [ih (q+1) _ j (by omega) (by omega) (Z87 _ _),dgF,List.drop_drop];rfl
def Zcf (n:Nat):Nat:=(119-n%64)%64
def shN (n:Int):Nat→Int
 | 0=>n
 | q+1=>shr .u64 (shN n q) 8
def bb (c:Nat) (n:Int) (i:Nat):List Int:=Yd (c-i) 0++((Yj i).reverse.map fun q=>Ya .u8 (shN n q))
theorem Z5ib (n:Int):∀k,8<k→Zwd k n 8=some (Znb (bb 8 n 8)):=by
 intro k hk
 have h:∀k,8<k→Zwd.l0 k n (7-((0:Nat):Int)) (bb 8 n 0)=some (bb 8 n 8):=by
  refine Zgc (fun j i=>Zwd.l0 j (shN n i) (7-(i:Int)) (bb 8 n i)) 8 _ (fun i hi j=>?_) fun j=>?_
  ·rcases lt8 hi with rfl | rfl | rfl | rfl | rfl | rfl | rfl | rfl <;> kernel_rfl
  ·kernel_rfl
 have hm:Zrg 1 8 8 (0:Int)=some (Yd 8 0):=rfl
 unfold Zwd
 refine Za hm (Za (h k hk) rfl)
theorem Z4ib (n:Int):∀k,4<k→Zwd k n 4=some (Znb (bb 4 n 4)):=by
 intro k hk
 have h:∀k,4<k→Zwd.l0 k n (3-((0:Nat):Int)) (bb 4 n 0)=some (bb 4 n 4):=by
  refine Zgc (fun j i=>Zwd.l0 j (shN n i) (3-(i:Int)) (bb 4 n i)) 4 _ (fun i hi j=>?_) fun j=>?_
  ·rcases (by omega:i=0∨i=1∨i=2∨i=3) with rfl | rfl | rfl | rfl <;> kernel_rfl
  ·kernel_rfl
 have hm:Zrg 1 4 4 (0:Int)=some (Yd 4 0):=rfl
 unfold Zwd
 refine Za hm (Za (h k hk) rfl)
theorem Zldb (N:Nat):∀q,shN (N:Int) q=((N/2^(8*q):Nat):Int)
 | 0=>by simp [shN]
 | q+1=>by
  rw [shN,Zldb N q,show (8:Int)=((8:Nat):Int) from rfl,Z3h .u64 _ 8 (by decide),Nat.div_div_eq_div_mul,← Nat.pow_add,Nat.mul_add]
theorem Zy6 (c:Nat) (N:Nat):bb c (N:Int) c=(Yj c).map fun i=>((N/2^(8*(c-1-i))%256:Nat):Int):=by
 unfold bb
 rw [Yeb,Yab,Y7a]
 apply List.ext_getElem
 ·simp
 ·intro i h1 h2
  simp only [Yp,List.length_reverse,Yya] at h1;simp only [Yu,List.getElem_reverse,Yva,Yya];rw [Zldb,u8w];omega
def be8 (N:Nat):List Int:=(Yj 8).map fun i=>((N/2^(8*(8-1-i))%256:Nat):Int)
theorem Zxnb (N:Nat) (b:List Int) (hb:b.length≤1000000):∀k,8<k→Zs.l1 k (N:Int) 56 b=some (b++be8 N):=by
 have hl:(be8 N).length=8:=by simp [be8]
 have h:=Zgc (fun j i=>Zs.l1 j (N:Int) (56-8*(i:Int)) (b++(be8 N).take i)) 8 (b++be8 N) (fun i hi j=>?_) fun j=>?_
 ·intro k hk
  have:=h k hk;simpa using this
 ·have hn:(56:Int)-8*(i:Int)=((56-8*i:Nat):Int):=by omega
  conv=>lhs;unfold Zs.l1
  rw [Xa (by omega:(0:Int)≤56-8*(i:Int)),show Ya .i64 ((56:Int)-8*(i:Int)-8)=56-8*((i+1:Nat):Int) by rw [w64] <;> omega,Z7z (by omega) (by omega)];simp only [Xe]
  have he:Ya .u8 (shr .u64 (N:Int) (56-8*(i:Int)))=(be8 N)[i]'(by omega):=by
   rw [hn,Z3h .u64 _ _ (by show 56-8*i≤64;omega),u8w];simp only [be8,Yu,Yva];rw [show 8*(8-1-i)=56-8*i by omega];omega
  refine Za (Z3b (by omega)) (Za (Zsb (by simp;omega)) ?_);rw [he,Z0j (by omega),Ym]
 ·conv=>lhs;unfold Zs.l1
  rw [Xb (by omega:¬(0:Int)≤56-8*((8:Nat):Int)),Ybb (by omega)];rfl
theorem Ztfb {a b:Int} (h:a≠b):(a != b)=true:=by simp [h]
theorem Ziob (b:List Int) (n:Nat) (hb:b.length=n+1) (hn:n≤1000000):∀k,64<k→Zs.l0 k b=some (b++Yd (Zcf n) 0):=by
 have hz:Zcf n<64:=Yla _ (by omega)
 have h:=Zgc (fun j i=>Zs.l0 j (b++Yd i 0)) (Zcf n) (b++Yd (Zcf n) 0) (fun i hi j=>?_) fun j=>?_
 ·intro k hk
  have:=h k (by omega);rw [Yab,Yx] at this;exact this
 ·have hm:Yw (((b++Yd i (0:Int)).length:Nat):Int) 64=(((n+1+i)%64:Nat):Int):=by
   rw [Y5 (by omega),Yf,Yea,hb];omega
  conv=>lhs;unfold Zs.l0
  refine Za (Z7i (by decide)) ?_;rw [hm,Ztfb (by unfold Zcf at hi;omega)];simp only [Xe];refine Za (Zsb (by simp;omega)) ?_;rw [Ym,← List.replicate_succ']
 ·have hm:Yw (((b++Yd (Zcf n) (0:Int)).length:Nat):Int) 64=56:=by
   rw [Y5 (by omega),Yf,Yea,hb];unfold Zcf;omega
  conv=>lhs;unfold Zs.l0
  refine Za (Z7i (by decide)) ?_;rw [hm];rfl
def Zip (t:Str):Str:=t++([128]:Str)++Yd (Zcf t.length) 0++Znb (be8 (8*t.length))
theorem Zpbb (t:Str):(Zip t).length=64*((t.length+9+Zcf t.length)/64):=by
 unfold Zip
 have:(Znb (be8 (8*t.length))).length=8:=by rw [Zhh];simp [be8]
 simp only [Yf,Yea,this,Yfa]
 unfold Zcf
 omega
def Zvq:S8:=(1779033703,3144134277,1013904242,2773480762,1359893119,2600822924,528734635,1541459225)
def Zsg (x:Int):List Int:=bb 4 x 4
def Z7g (t:Str):Str:=Znb ((lst (dgF ((t.length+9+Zcf t.length)/64) (Zip t) Zvq)).flatMap Zsg)
theorem iOut (x:S8) (hx:U32 x) {k:Nat} (hk:10≤k):Zsc.l1 k k [] x.1 x.2.1 x.2.2.1 x.2.2.2.1 x.2.2.2.2.1 x.2.2.2.2.2.1 x.2.2.2.2.2.2.1 x.2.2.2.2.2.2.2 0=some (Znb ((lst x).flatMap Zsg)):=by
 have hl:(lst x).length=8:=rfl
 have hU:∀v∈lst x,W32 v:=by
  obtain ⟨h0,h1,h2,h3,h4,h5,h6,h7⟩:=hx;intro v hv;simp only [lst,Yh,Y1,or_false] at hv;rcases hv with rfl | rfl | rfl | rfl | rfl | rfl | rfl | rfl <;> assumption
 have ho:∀v,(Zsg v).length=4:=fun v=>by simp [Zsg,bb]
 have hfl:∀i,i≤8→(((lst x).take i).flatMap Zsg).length=4*i:=by
  intro i hi
  have:∀l:List Int,(l.flatMap Zsg).length=4*l.length:=fun l=>by
   induction l with
   | nil=>rfl
   | cons a l ih=>rw [Yua,Yf,ih,ho,Yo];omega
  rw [this,Yq,hl];omega
 have h:=Zgc (fun j i=>Zsc.l1 k j (Znb (((lst x).take i).flatMap Zsg)) x.1 x.2.1 x.2.2.1 x.2.2.2.1 x.2.2.2.2.1 x.2.2.2.2.2.1 x.2.2.2.2.2.2.1 x.2.2.2.2.2.2.2 (i:Int)) 8 (Znb ((lst x).flatMap Zsg)) (fun i hi j=>?_) fun j=>?_
 ·exact h k (by omega)
 ·conv=>lhs;unfold Zsc.l1
  rw [Xa (by omega:(i:Int)<8),Zv (by omega)];simp only [Xe];have hat:at? [x.1,x.2.1,x.2.2.1,x.2.2.2.1,x.2.2.2.2.1,x.2.2.2.2.2.1,x.2.2.2.2.2.2.1,x.2.2.2.2.2.2.2] (i:Int)=some ((lst x)[i]'(by omega)):=Zm (l:=lst x) (by omega);refine Za hat ?_;have hw:=hU _ (Yg (show i<(lst x).length by omega));rw [show Ya .u64 ((lst x)[i]'(by omega))=(lst x)[i]'(by omega) by unfold W32 at hw;exact Z7z hw.1 (by omega)];refine Za (Z4ib _ k (by omega)) ?_;refine Za (Zyf (by rw [Zhh,Zhh,hfl i (by omega)];have:=ho ((lst x)[i]'(by omega));unfold Zsg at this;rw [this];omega)) ?_;rw [Z0j (by omega),Yta,Z3kb];simp [Zsg]
 ·conv=>lhs;unfold Zsc.l1
  rw [Xb (by omega:¬((8:Nat):Int)<8)];rfl
theorem sOut (x:S8) (hx:U32 x):∀k,8<k→Zs.l3 k 0 (lst x) []=some ((lst x).flatMap Zsg):=by
 have hl:(lst x).length=8:=rfl
 have hU:∀v∈lst x,W32 v:=by
  obtain ⟨h0,h1,h2,h3,h4,h5,h6,h7⟩:=hx;intro v hv;simp only [lst,Yh,Y1,or_false] at hv;rcases hv with rfl | rfl | rfl | rfl | rfl | rfl | rfl | rfl <;> assumption
 have ho:∀v,(Zsg v).length=4:=fun v=>by simp [Zsg,bb]
 have hfl:∀i,i≤8→(((lst x).take i).flatMap Zsg).length=4*i:=by
  intro i hi
  have:∀l:List Int,(l.flatMap Zsg).length=4*l.length:=fun l=>by
   induction l with
   | nil=>rfl
   | cons a l ih=>rw [Yua,Yf,ih,ho,Yo];omega
  rw [this,Yq,hl];omega
 refine Zgc (fun j i=>Zs.l3 j (i:Int) (lst x) (((lst x).take i).flatMap Zsg)) 8 _ (fun i hi j=>?_) fun j=>?_
 ·conv=>lhs;unfold Zs.l3
  rw [Xa (by omega:(i:Int)<8),Zv (by omega)];simp only [Xe];have hat:at? (lst x) (i:Int)=some ((lst x)[i]'(by omega)):=Zm (by omega);have hw:=hU _ (Yg (show i<(lst x).length by omega));refine Za hat (Za hat (Za (Z3b (by omega)) (Za (Z3b (by omega)) (Za (Z3b (by omega)) (Za (Zsb (by rw [hfl i (by omega)];simp;omega)) ?_)))));rw [Z0j (by omega),Yta]
  have he:[Ya .u8 (shr .i64 ((lst x)[i]'(by omega)) 24),Ya .u8 (shr .i64 ((lst x)[i]'(by omega)) 16),Ya .u8 (shr .i64 ((lst x)[i]'(by omega)) 8),Ya .u8 ((lst x)[i]'(by omega))]=Zsg ((lst x)[i]'(by omega)):=by
   generalize (lst x)[i]'(by omega)=v at hw;unfold W32 at hw;obtain ⟨N,rfl⟩:∃N:Nat,v=(N:Int):=⟨v.toNat,by omega⟩;unfold Zsg;rw [Zy6,show (24:Int)=((24:Nat):Int) from rfl,show (16:Int)=((16:Nat):Int) from rfl,show (8:Int)=((8:Nat):Int) from rfl,Z3h .i64 _ 24 (by decide),Z3h .i64 _ 16 (by decide),Z3h .i64 _ 8 (by decide),u8w,u8w,u8w,u8w];simp [Yj,Yj.loop]
  rw [he];simp
 ·conv=>lhs;unfold Zs.l3
  rw [Xb (by omega:¬((8:Nat):Int)<8)];rfl
theorem Zp1:U32 Zvq:=by unfold U32 W32 Zvq;decide
theorem Z0fb (n:Nat):Zfb (Yd n 0)=Yd n 0:=by simp [Zfb]
theorem Zzfb (N:Nat):Zfb (Znb (be8 N))=be8 N:=by
 unfold Zfb Znb
 rw [Yga]
 have:∀z∈be8 N,0≤z∧z<256:=by
  intro z hz;obtain ⟨i,_,rfl⟩:=Y7.1 hz;omega
 have h2:∀l:List Int,(∀z∈l,0≤z∧z<256)→l.map ((fun b:UInt8=>((b.toNat:Nat):Int)) ∘ fun n:Int=>UInt8.ofNat n.toNat)=l:=by
  intro l
  induction l with
  | nil=>intro _;rfl
  | cons a l ih=>
   intro h;have ha:=h a Yr;rw [List.map_cons,ih fun z hz=>h z (Yz _ hz)];congr 1;show (((UInt8.ofNat a.toNat).toNat:Nat):Int)=a;rw [UInt8.toNat_ofNat'];omega
 exact h2 _ this
theorem iSha (t:Str) (ht:t.length≤100000) {k:Nat} (hk:200000≤k):Zsc k t=some (Z7g t):=by
 have hz:Zcf t.length<64:=Yla _ (by omega)
 have hm:Yw (Ya .i64 (119-(Yw ((t.length):Int) 64))) 64=(Zcf t.length:Int):=by
  have h1:Yw ((t.length):Int) 64=((t.length%64:Nat):Int):=by rw [Y5 (by omega)];omega
  rw [h1,w64 (by omega) (by omega),Y5 (by omega)];unfold Zcf;omega
 have hr:strings_Repeat ([0]:Str) (Zcf t.length:Int)=some (Yd (Zcf t.length) 0):=by
  unfold strings_Repeat;rw [Xc ⟨by omega,by simp;omega,by omega⟩];have:Lib.repeatL ([0]:Str) (Zcf t.length)=Yd (Zcf t.length*1) 0:=Lib.repeatL_replicate 0 1 (Zcf t.length);rw [Yt,this,Nat.mul_one]
 have hb:Ya .u64 (8*(Ya .u64 ((t.length):Int)))=((8*t.length:Nat):Int):=by rw [Z9f,Z9f];omega
 have h8:Zwd k ((8*t.length:Nat):Int) 8=some (Znb (be8 (8*t.length))):=by
  rw [Z5ib _ k (by omega),Zy6];rfl
 have hl8:(Znb (be8 (8*t.length))).length=8:=by rw [Zhh];simp [be8]
 unfold Zsc
 rw [hm,hb]
 refine Za (Z7i (by decide)) (Za (Z7i (by decide)) (Za (Zyf (by simp;omega)) (Za hr (Za (Zyf (by simp;omega)) (Za h8 (Za (Zyf (by rw [hl8];simp;omega)) ?_))))))
 have hp:=Zpbb t
 have hF:=Z7ib (k:=k) (by omega) ((t.length+9+Zcf t.length)/64) (Zip t) Zvq k hp (by omega)
 refine Za hF ?_
 refine Za (iOut (dgF ((t.length+9+Zcf t.length)/64) (Zip t) Zvq) (Zo1 _ _ Zp1) (by omega)) ?_
 rw [Z7g]
theorem sSha (t:Str) (ht:t.length≤100000) {k:Nat} (hk:200000≤k):Zs k t=some (Z7g t):=by
 have hz:Zcf t.length<64:=Yla _ (by omega)
 have hbl:=Z20 t
 have h0:Zmb 1 (Zfb t) [128]=some (Zfb t++[128]):=Zsb (by simp;omega)
 have h1:=Ziob (Zfb t++[128]) t.length (by simp [hbl]) (by omega) k (by omega)
 have hw:Ya .u64 (Ya .i64 (8*((t.length):Int)))=((8*t.length:Nat):Int):=by rw [w64 (by omega) (by omega),Z7z (by omega) (by omega)];omega
 have h2:=Zxnb (8*t.length) (Zfb t++[128]++Yd (Zcf t.length) 0) (by simp [hbl];omega) k (by omega)
 have hall:Zfb t++[128]++Yd (Zcf t.length) 0++be8 (8*t.length)=Zfb (Zip t):=by
  unfold Zip;rw [Z10,Z10,Z10,Z0fb,Zzfb];rfl
 have hp:=Zpbb t
 have h3:=Zmnb (k:=k) (by omega) (Zip t) (by omega) ((t.length+9+Zcf t.length)/64) 0 Zvq k (by omega) (by omega) Zp1
 unfold Zs
 rw [hw]
 refine Za (Zt4 (by omega)) (Za h0 (Za h1 (Za h2 ?_)))
 rw [hall]
 refine Za (a:=lst Zvq) rfl (Za h3 ?_)
 refine Za (sOut _ (Zo1 _ _ Zp1) k (by omega)) ?_
 rw [Z7g,Nat.mul_zero,Yy]
end Go.Proofs.Qz
namespace Go.Proofs.Qz
open Go
set_option linter.unusedVariables false
theorem Zukb (l:List Str):Lib.join l []=l.flatten:=by
 cases l with
 | nil=>rfl
 | cons x r=>
  rw [Lib.join_cons,Lib.joinTail,List.flatten_cons];congr 2;exact Y0a r
theorem Zgjb {l:List Str} (h:Zvb l=true) {k:Nat} (hk:200000≤k):Z0o k l=some (Z7g l.flatten):=by
 obtain ⟨h1,h2,h3⟩:=Zig h
 have hf:=Z81 l 8 fun s hs=>Yka (h3 s hs)
 have hj:strings_Join l []=some l.flatten:=by
  unfold strings_Join;rw [Zukb,Xc ⟨by omega,by omega⟩]
 unfold Z0o
 exact Za hj (Za (iSha _ (by omega) hk) rfl)
theorem Zrnb {l:List Str} (h:Zvb l=true):Zc fun k=>Zyp k l=some (Z7g l.flatten):=by
 obtain ⟨h1,h2,h3⟩:=Zig h
 have hf:=Z81 l 8 fun s hs=>Yka (h3 s hs)
 have run:=Zbgb (fun k j acc i=>Z5e.l0 j l acc i) l id 8 100000 (fun s hs=>Yka (h3 s hs)) (fun i hi=>Zc.of fun k acc j ha=>by
  show Z5e.l0 (j+1) l acc (i:Int)=_;have:=h3 _ (Yg hi)
  conv=>lhs;unfold Z5e.l0
  rw [dlt hi,Zm hi,Zv (by omega)];simp only [Xe,Yb];rw [Zyf (by omega)];rfl) (fun k acc j=>by
  show Z5e.l0 (j+1) l acc (l.length:Int)=_;unfold Z5e.l0;rw [Zib (Ye _)];rfl) [] (by simp;omega)
 refine (run.and (Zc.ge 200000 fun k hk=>hk)).mono fun k ⟨run,hk⟩=>?_
 have hj:Z5e k l=some l.flatten:=by
  have run:Z5e.l0 k l [] 0=some ([]++(l.map id).flatten):=run;rw [List.map_id,Y7a] at run;unfold Z5e;exact Za run rfl
 unfold Zyp Zpn
 refine Za (Z44 l (by omega)) ?_
 rw [h]
 simp only [Ys,Xf]
 refine Za hj ?_
 rw [Xb (by omega:¬(8000<(l.flatten.length:Int)))]
 exact Za (Za (sSha _ (by omega) hk) rfl) rfl
def Zel (m:Zn) (st dn:Int) (w:Nat):Bool:=decide (Zwb (Zh m st w) m.1=0)&&(decide (Zob (Zg (Zh m st w))≤st)&&decide (dn≤((Zg (Zh m st w)).length:Int)))
def Zaf (m:Zn):Bool:=match stM m with
 | some (ph,tr,nd,st,dn,dg,v,w)=>Zvb (Ztd m)&&(decide (ph≤2)||Zel m st dn w)
 | none=>false
theorem Zwdb {s:Str} {a b c d e:Int} {x:Str} {v w:Nat} (h:Z7p s=some (a,b,c,d,e,x,v,w)):Zre a b c d e x v w=true∧v<16777216∧w<16777216:=by
 unfold Z7p at h
 split at h
 ·split at h
  ·rename_i hc
   cases h;refine ⟨hc.2.2.2,?_,?_⟩
   ·have:=hc.2.1;omega
   ·have:=hc.2.2.1;omega
  ·cases h
 ·cases h
theorem Zg5 {m:Zn} {a b c d e:Int} {x:Str} {v w:Nat} (h:stM m=some (a,b,c,d,e,x,v,w)):Fit m d w∧(1≤a∧a≤5)∧Zre a b c d e x v w=true:=by
 unfold stM at h
 split at h
 ·rename_i hc
  split at h
  ·have h:=(Zwdb h).1
   have h0:=h;unfold Zre at h;rw [Yc,Yc,decide_eq_true_eq,decide_eq_true_eq,Yc] at h;refine ⟨⟨hc.1,hc.2.1,hc.2.2,?_⟩,h.1,h0⟩;have h2:=h.2.2;split at h2
   ·have h2:=of_decide_eq_true h2
    omega
   ·have h2:=of_decide_eq_true h2
    omega
  ·cases h
 ·cases h
theorem Z8x (m:Zn) (hl:m.2.1.length≤1048576) (hl2:m.2.2.length≤1048576):Zc fun k=>Zii k m=some (Zaf m):=by
 unfold Zaf
 cases hs:stM m with
 | none=>
  refine (Z2q m hl hl2).mono fun k e=>?_
  rw [hs] at e;unfold Zii;exact Za e rfl
 | some z=>
  obtain ⟨ph,tr,nd,st,dn,dg,v,w⟩:=z;obtain ⟨hf,hph,hst⟩:=Zg5 hs;have hb:=hf.b;have hn:=hf.n;have hll:=Z82 m st w;dsimp only;have pre:Zc fun k=>Zpf k m=some (Zzy (some (ph,tr,nd,st,dn,dg,v,w))):=by rw [← hs];exact Z2q m hl hl2
  refine ((((pre.and (Zyu ph tr nd st dn dg (Zb v) hf)).and (Zdy (Zh m st w) m.1 (by omega))).and (Zc.ge 1048577 fun k hk=>hk)).and (if hc:Zwb (Zh m st w) m.1=0 then (Zos (Zh m st w) (Zue hc).1 (Zrh hc)).mono fun k e _=>e else Zc.of fun k q=>absurd q hc:Zc fun k=>Zwb (Zh m st w) m.1=0→Zpb k (Zh m st w)=some (Zg (Zh m st w)))).mono fun k ⟨⟨⟨⟨e1,e2⟩,e3⟩,hk⟩,e4⟩=>?_
  unfold Zii;refine Za e1 ?_;show (bif !true then _ else _)=_;rw [Ys,Xf];refine Za (Z2x (m:=m) ⟨by omega,hb.2⟩ (by omega) hl2 hk) (Za (Zr9 (Ztd m) (by omega)) ?_);cases Zvb (Ztd m) with
  | false=>rfl
  | true=>
   rw [Ys,Xf,Y4];show (bif (ph==1)||(ph==2) then _ else _)=_
   by_cases hp:ph≤2
   ·rw [show ((ph==1)||(ph==2))=true by
     rcases (by omega:ph=1∨ph=2) with q | q <;> rw [q] <;> rfl,Xa hp]
    rfl
   ·rw [show ((ph==1)||(ph==2))=false by
     have h1:(ph==1)=false:=by simp;omega
     have h2:(ph==2)=false:=by simp;omega
     rw [h1,h2];rfl,Xb hp,Xf,Yoa]
    refine Za e2 (Za e3 ?_);unfold Zel
    by_cases hc:Zwb (Zh m st w) m.1=0
    ·have hpl:=Zjp _ (Zue hc).1 (Zrh hc)
     rw [show (Zwb (Zh m st w) m.1 != 0)=false by simpa using hc,Xf,Xa hc,Y4];refine Za (e4 hc) (Za (Zy9 _ (by omega) k (by omega)) ?_);show (bif decide (Zob (Zg (Zh m st w))≤st) then _ else _)=_;cases decide (Zob (Zg (Zh m st w))≤st) <;> rfl
    ·rw [show (Zwb (Zh m st w) m.1 != 0)=true by simpa using hc,Xb hc]
     rfl
def Zfj (b:Int) (m:Zbc):Bool:=(m.1==1)&&(m.2.2.1==b)
def doP (b:Int) (m:Zbc):Bool:=(m.1==2)&&(m.2.2.1==b)
def Zvh (mv:List Zbc) (dn:Nat) (b:Int):Int:=match Zab (Zfj b) (mv.take dn) 0 with
 | some i=>(mv.getD i (0,(0,(0,0)))).2.2.2
 | none=>-1
theorem Zvu {l:List Zbc} {i:Nat} (h:i<l.length):l.getD i (0,(0,(0,0)))=l[i]:=by
 rw [Yn,Yi h]
 rfl
theorem Z9jb {mv:List Zbc} {dn:Nat} (h:dn≤mv.length) (hl:mv.length≤40) (b:Int) {k:Nat} (hk:100≤k):Zrd k mv (dn:Int) b=some (Zvh mv dn b):=by
 have hlen:(mv.take dn).length=dn:=by rw [Yq];omega
 have run:=Zki (fun j i=>Zrd.l0 j b (mv.take dn) ((mv.take dn).length:Int) i) (mv.take dn) (Zfj b) (.inl ()) (fun i=>.inr (mv.getD i (0,(0,(0,0)))).2.2.2) (fun i hi=>⟨fun hp j=>?_,fun hp j=>?_⟩) (fun j=>?_) (k:=k) (by omega)
 ·have run:Zrd.l0 k b (mv.take dn) ((mv.take dn).length:Int) 0=_:=run
  have hc:Z9b mv 0 (dn:Int)=some (mv.take dn):=by
   have:=Zng (l:=mv) (i:=0) (j:=dn) (by omega) h
   rwa [Yy] at this
  unfold Zrd Zvh;refine Za hc (Za run ?_);cases Zab (Zfj b) (mv.take dn) 0 <;> rfl
 ·show Zrd.l0 (j+1) b (mv.take dn) _ (i:Int)=Zrd.l0 j b (mv.take dn) _ ((i+1:Nat):Int)
  conv=>lhs;unfold Zrd.l0
  rw [dlt hi,Zv (by omega),Xe];refine Za (Zm hi) ?_;unfold Zfj at hp;rw [hp];rfl
 ·show Zrd.l0 (j+1) b (mv.take dn) _ (i:Int)=_
  conv=>lhs;unfold Zrd.l0
  rw [dlt hi,Zv (by omega),Xe];refine Za (Zm hi) ?_;unfold Zfj at hp;rw [hp,Xe,Zvu (by omega),Ywa]
 ·show Zrd.l0 (j+1) b (mv.take dn) _ _=_
  unfold Zrd.l0;rw [Zib (Ye _)];rfl
theorem Zyob {l:List Zk} {n:Int} (h:Zwb l n=0) (dn:Nat) (b:Int):Zvh (Zg l) dn b = -1∨(0≤Zvh (Zg l) dn b∧Zvh (Zg l) dn b<Zob (Zg l)):=by
 unfold Zvh
 cases hf:Zab (Zfj b) ((Zg l).take dn) 0 with
 | none=>exact .inl rfl
 | some i=>
  right;obtain ⟨_,hi,hp,_⟩:=Zmj hf;simp only [Yfb] at hi hp;rw [Yq] at hi;rw [Ywa] at hp;dsimp only;rw [Zvu (by omega)];have hm:(Zg l)[i]? = some (Zg l)[i]:=Yi (by omega);unfold Zfj at hp;rw [Yc] at hp;have h1:(Zg l)[i].1=1:=by simpa using hp.1
  obtain ⟨j,_,q | q⟩:=(Ztbb h).form i _ hm
  ·rw [q] at h1
   cases h1
  ·have hs:(Zg l)[i].2.2.2=Zob ((Zg l).take i):=by rw [q]
   rw [hs];exact ⟨(Z4v _).1,Zd5 hm h1⟩
def Zio (m:Zn) (w:Nat) (mv:List Zbc) (dn:Nat) (x:Zk):Str:=if x.1=3∨x.1=4 then (if 0≤Zvh mv dn x.2.2.1 then Zd m.2 (3+m.1+(Zb w).getD (Zvh mv dn x.2.2.1).toNat 0) else Zd m.2 (3+x.2.2.1)) else []
def Zli (m:Zn) (w:Nat) (mv:List Zbc) (dn:Nat) (x:Zk):Str:=Zmi x (Zio m w mv dn x)
structure Sound (m:Zn) (st dn:Int) (w:Nat):Prop where
 fit:Fit m st w
 code:Zwb (Zh m st w) m.1=0
 slots:Zob (Zg (Zh m st w))≤st
 dn:0≤dn∧dn≤((Zg (Zh m st w)).length:Int)
theorem Sound.plan {m:Zn} {st dn:Int} {w:Nat} (h:Sound m st dn w):(Zg (Zh m st w)).length≤28:=Zjp _ (Zue h.code).1 (Zrh h.code)
theorem Zyw {w:Nat} {n:Int} (h0:0≤n) (h1:n<((Zb w).length:Int)):at? (Zb w) n=some ((Zb w).getD n.toNat 0)∧0≤(Zb w).getD n.toNat 0∧(Zb w).getD n.toNat 0≤23:=by
 obtain ⟨i,rfl⟩:∃i:Nat,n=(i:Int):=⟨n.toNat,by omega⟩
 have hi:i<(Zb w).length:=by omega
 have hg:(Zb w).getD i 0=(Zb w)[i]:=by
  rw [Yn,Yi hi];rfl
 rw [Yt,hg]
 exact ⟨Zm hi,Zrl hi⟩
theorem Zn9 {m:Zn} {st:Int} {w:Nat} (h:Fit m st w) {n:Int} (h0:0≤n) (h1:n≤23) {k:Nat} (hk:1048577≤k):Zzi k (m.1,(m.2.1,m.2.2)) n=some (Zd m.2 (3+m.1+n)):=by
 have hb:=h.b
 have hn:=h.n
 unfold Zzi Zgh
 rw [w64 (n:=3+m.1) (by omega) (by omega),w64 (by omega) (by omega)]
 exact Za rfl (Za (Zlo m.2 _ h.dirt (by omega) (by omega) (by have:=h.dirt;omega)) rfl)
theorem Z1x {m:Zn} {st:Int} {w:Nat} (h:Fit m st w) {n:Int} (h0:0≤n) (h1:n≤23):Zgh m n=some (3+m.1+n):=by
 have hb:=h.b
 unfold Zgh
 rw [w64 (n:=3+m.1) (by omega) (by omega),w64 (by omega) (by omega)]
theorem Zt9 {m:Zn} {st dn:Int} {w:Nat} (h:Sound m st dn w) (ph tr nd:Int) (dg:Str) (v:List Int) {x:Zk} (hx:WriteOk x m.1) {k:Nat} (hk:1048577≤k):
  Z1f k m (ph,(tr,(nd,(st,(dn,(dg,(v,Zb w))))))) (Zg (Zh m st w)) x=some (Zli m w (Zg (Zh m st w)) dn.toNat x):=by
 have hb:=h.fit.b
 have hn:=h.fit.n
 have hd:=h.fit.dirt
 have hdn:=h.dn
 have hpl:=h.plan
 have hsl:=h.slots
 have hs:=h.fit.s
 have hsrc:=hx.src
 have hrd:Z0f k (m.2.1,m.2.2) (3+x.2.2.1)=some (Zd m.2 (3+x.2.2.1)):=Zlo m.2 _ hd (by omega) (by omega) (by omega)
 have hso:=Z9jb (mv:=Zg (Zh m st w)) (dn:=dn.toNat) (by omega) (by omega) x.2.2.1 (k:=k) (by omega)
 rw [Yra hdn.1] at hso
 have hj:Z1f.j0 k (Zg (Zh m st w)) m.1 m.2.1 m.2.2 ph tr nd st dn dg v (Zb w) [] x.1 x.2.1 x.2.2.1 x.2.2.2=some (Zio m w (Zg (Zh m st w)) dn.toNat x,x):=by
  unfold Z1f.j0 Zio
  by_cases c:x.1=3∨x.1=4
  ·rw [Xc c,show ((x.1==3)||(x.1==4))=true by rcases c with q | q <;> rw [q] <;> rfl,Xe,w64 (n:=3+x.2.2.1) (by omega) (by omega)]
   refine Za hrd (Za hso ?_);rcases Zyob h.code dn.toNat x.2.2.1 with q | ⟨q1,q2⟩
   ·rw [q]
    rfl
   ·obtain ⟨e1,e2,e3⟩:=Zyw (w:=w) (n:=Zvh (Zg (Zh m st w)) dn.toNat x.2.2.1) q1 (by omega)
    rw [Xa q1,Xe,Xc q1];exact Za e1 (Za (Zn9 h.fit e2 e3 hk) rfl)
  ·rw [Xd c,show ((x.1==3)||(x.1==4))=false by
    rw [Bool.or_eq_false_iff];exact ⟨by simp;omega,by simp;omega⟩]
   rfl
 unfold Z1f Zli
 refine Za hj ?_
 dsimp only
 by_cases c4:x.1=4
 ·by_cases c8:(Zio m w (Zg (Zh m st w)) dn.toNat x).length=8
  ·rw [show ((x.1==4)&&(((Zio m w (Zg (Zh m st w)) dn.toNat x).length:Int) != 8))=false by rw [c8];simp,Xf]
   have hdata:x.2.2.2.length=8:=by rcases hx.kind with q | q | q | q;omega;omega;omega;exact q.2
   exact Za (Zi2 (.inr (.inr (.inr ⟨c8,hdata⟩))) (by omega)) rfl
  ·rw [show ((x.1==4)&&(((Zio m w (Zg (Zh m st w)) dn.toNat x).length:Int) != 8))=true by
    rw [Yc];exact ⟨by simpa using c4,by simp;omega⟩]
   unfold Zmi Z5h;rw [Xd (by omega),Xd (by omega),Xd (by omega),Xd (fun q=>c8 q.1)];rfl
 ·rw [show (x.1==4)=false by simpa using c4,Bool.false_and,Xf]
  exact Za (Zi2 (by rcases hx.kind with q | q | q | q;exact .inl q;exact .inr (.inl q);exact .inr (.inr (.inl q));exact absurd q.1 c4) (by omega)) rfl
def Zhe (mv:List Zbc) (dn:Nat) (b:Int):Bool:=(mv.take dn).any (doP b)
def Zst (m:Zn) (st dn:Int) (w:Nat):List Str:=Zkh (Ztd m) (Zj (Zh m st w)) (Zhe (Zg (Zh m st w)) dn.toNat) (Zli m w (Zg (Zh m st w)) dn.toNat)
theorem Zx6 (m:Zn):(Ztd m).length=m.1.toNat:=by simp [Ztd]
theorem Zijb (l:List Zbc) (hl:l.length≤40) (b:Int) {k:Nat} (hk:100≤k):Zqp k l b=some (l.any (doP b),b):=by
 have run:=Zki (fun j i=>Z0d.l0 j l (l.length:Int) i b) l (doP b) (.inl b) (fun i=>.inr ((i:Int),b)) (fun i hi=>⟨fun hp j=>?_,fun hp j=>?_⟩) (fun j=>?_) (k:=k) (by omega)
 ·have run:Z0d.l0 k l (l.length:Int) 0 b=_:=run
  have hany:=Zqu (p:=doP b) (l:=l) (n:=0);unfold Zqp Z0d;rw [run];cases hf:Zab (doP b) l 0 with
  | none=>
   rw [hf] at hany;rw [← hany];rfl
  | some i=>
   rw [hf] at hany;rw [← hany];simp only [Yb];rw [Xa (by omega:(0:Int)≤(i:Int))];rfl
 ·show Z0d.l0 (j+1) l _ (i:Int) b=Z0d.l0 j l _ ((i+1:Nat):Int) b
  conv=>lhs;unfold Z0d.l0
  rw [dlt hi,Zv (by omega),Xe];refine Za (Zm hi) ?_;unfold Zvo;unfold doP at hp;rw [hp];rfl
 ·show Z0d.l0 (j+1) l _ (i:Int) b=_
  conv=>lhs;unfold Z0d.l0
  rw [dlt hi,Zv (by omega),Xe];refine Za (Zm hi) ?_;unfold Zvo;unfold doP at hp;rw [hp];rfl
 ·show Z0d.l0 (j+1) l _ _ b=_
  unfold Z0d.l0;rw [Zib (Ye _)];rfl
theorem Zikb {m:Zn} {st dn:Int} {w:Nat} (h:Sound m st dn w) (ph tr nd:Int) (dg:Str) (v:List Int) {k:Nat} (hk:1048577≤k):
  Zvd.l0 k k m.1 m.2.1 m.2.2 (Zj (Zh m st w)) ((Zj (Zh m st w)).length:Int) 0 ph tr nd st dn dg (Ztd m) v (Zb w) (Zg (Zh m st w))=some (ph,(tr,(nd,(st,(dn,(dg,(Zst m st dn w,(v,(Zb w,Zg (Zh m st w)))))))))):=by
 have hb:=h.fit.b
 have hdn:=h.dn
 have hpl:=h.plan
 have hbl:=Zx6 m
 have hll:=Z82 m st w
 have hwl:(Zj (Zh m st w)).length≤(Zh m st w).length:=Yxa _ _
 have hnd:((Zj (Zh m st w)).map fun x=>x.2.1).Nodup:=(Zue h.code).2.2.2.2.1
 have run:=Zgc (fun j i=>Zvd.l0 k j m.1 m.2.1 m.2.2 (Zj (Zh m st w)) ((Zj (Zh m st w)).length:Int) (i:Int) ph tr nd st dn dg (Zkh (Ztd m) ((Zj (Zh m st w)).take i) (Zhe (Zg (Zh m st w)) dn.toNat) (Zli m w (Zg (Zh m st w)) dn.toNat)) v (Zb w) (Zg (Zh m st w))) (Zj (Zh m st w)).length (ph,(tr,(nd,(st,(dn,(dg,(Zst m st dn w,(v,(Zb w,Zg (Zh m st w)))))))))) (fun i hi j=>?_) (fun j=>?_) k (by omega)
 ·have run:Zvd.l0 k k m.1 m.2.1 m.2.2 (Zj (Zh m st w)) ((Zj (Zh m st w)).length:Int) 0 ph tr nd st dn dg (Zkh (Ztd m) [] (Zhe (Zg (Zh m st w)) dn.toNat) (Zli m w (Zg (Zh m st w)) dn.toNat)) v (Zb w) (Zg (Zh m st w))=_:=run
  rw [Zkeb] at run;exact run
 ·have hx:=Zdq h.code _ (Yg hi)
  have hto:=hx.tgt;have hv:(Zkh (Ztd m) ((Zj (Zh m st w)).take i) (Zhe (Zg (Zh m st w)) dn.toNat) (Zli m w (Zg (Zh m st w)) dn.toNat)).length=(Ztd m).length:=Zqi _ _ _ _;have hat:=Zxw (l:=Zkh (Ztd m) ((Zj (Zh m st w)).take i) (Zhe (Zg (Zh m st w)) dn.toNat) (Zli m w (Zg (Zh m st w)) dn.toNat)) hto.1 (by rw [hv];omega)
  have hcut:Z9b (Zg (Zh m st w)) 0 dn=some ((Zg (Zh m st w)).take dn.toNat):=by
   have:=Zng (l:=Zg (Zh m st w)) (i:=0) (j:=dn.toNat) (by omega) (by omega);rw [Yy,Yra hdn.1] at this;exact this
  have hdone:Zuo k (Zj (Zh m st w))[i].2.1 (Zg (Zh m st w)) (ph,(tr,(nd,(st,(dn,(dg,(v,Zb w)))))))=some (Zhe (Zg (Zh m st w)) dn.toNat (Zj (Zh m st w))[i].2.1):=by
   unfold Zuo;exact Za hcut (Za (Zijb _ (by rw [Yq];omega) _ (by omega)) rfl)
  conv=>lhs;unfold Zvd.l0
  rw [dlt hi,Zv (by omega),Xe];refine Za (Zm hi) (Za hdone ?_);rw [Zleb hnd hi hto.1 (by omega)];cases hq:Zhe (Zg (Zh m st w)) dn.toNat (Zj (Zh m st w))[i].2.1 with
  | true=>rfl
  | false=>
   rw [Ypa,Xe,Xd Y3];exact Za (Zt9 h ph tr nd dg v hx hk) (Za hat (Za hat rfl))
 ·conv=>lhs;unfold Zvd.l0
  rw [Zib (Ye _),Yk];rfl
theorem Zfhb {w:List Zk} (hn:(w.map fun x=>x.2.1).Nodup) {j:Nat} (h:j<w.length):w.find? (fun x=>x.2.1==w[j].2.1)=some w[j]:=by
 cases hf:w.find? (fun x=>x.2.1==w[j].2.1) with
 | none=>exact absurd (List.find?_eq_none.1 hf _ (Yg h)) (by simp)
 | some x=>
  have hx:=Y3a hf;have he:x.2.1=w[j].2.1:=by simpa using List.find?_some hf
  obtain ⟨q,hq,rfl⟩:=Y0.1 hx
  have:q=j:=by
   rcases Nat.lt_trichotomy q j with c | c | c
   ·have:=Y9a.1 hn q j (by rw [Yp];exact hq) (by rw [Yp];exact h) c
    rw [Yu,Yu] at this;exact absurd he this
   ·exact c
   ·have:=Y9a.1 hn j q (by rw [Yp];exact h) (by rw [Yp];exact hq) c
    rw [Yu,Yu] at this;exact absurd he.symm this
  subst this;rfl
theorem Z7lb:∀a:Nat,a<256→intBits .or .u8 ((a:Nat):Int) 128=((a%128+128:Nat):Int):=by decide +kernel
theorem Z69:∀(f u:Nat) (acc:List Int) (j:Nat),u<128^f→u<18446744073709551616→acc.length+f≤100→0<f→f<j+1→∃p:Int×List Int,Zec.l1 j (u:Int) acc=some p∧p.2.length≤100∧p.2++[Ya .u8 p.1]=acc++Zpc f u
 | 0,_,_,_,_,_,_,h,_=>absurd h (by omega)
 | f+1,u,acc,0,hu,hb,hl,_,hj=>by omega
 | f+1,u,acc,j+1,hu,hb,hl,_,hj=>by
  unfold Zec.l1
  by_cases h:128≤u
  ·have hf:0<f:=by
    rcases Nat.eq_zero_or_pos f with rfl | h'
    ·simp at hu;omega
    ·exact h'
   obtain ⟨p,e,e1,e2⟩:=Z69 f (u/128) (acc++[((u%128+128:Nat):Int)]) j (by rw [Ydb] at hu;exact Ycb (by rw [Nat.mul_comm];exact hu)) (by omega) (by simp;omega) hf (by omega);refine ⟨p,?_,e1,?_⟩
   ·have e3:intBits .or .u8 (Ya .u8 (u:Int)) 128=((u%128+128:Nat):Int):=by
     rw [u8w,show (u:Int)%256=((u%256:Nat):Int) by omega,Z7lb _ (by omega)];congr 1;omega
    have e4:shr .u64 (u:Int) 7=((u/128:Nat):Int):=Z3h .u64 u 7 (by decide);rw [Xa (by omega:(127:Int)<(u:Int)),e3,e4];simp only [Xe];rw [Zsb (by simp;omega),Z3b (by omega)];exact e
   ·rw [e2,Ym]
    simp [Zpc,h]
  ·refine ⟨((u:Int),acc),?_,by show acc.length≤100;omega,?_⟩
   ·rw [Xb (by omega:¬((127:Int)<(u:Int)))]
    rfl
   ·show acc++[Ya .u8 (u:Int)]=_
    rw [u8w,show ((u:Int)%256)=(u:Int) by omega];simp [Zpc,h]
theorem Zvlb (a:Nat) (h:a<18446744073709551616):intBits .xor .u64 (Ysa .u64) (a:Int)=((18446744073709551615-a:Nat):Int):=by
 show Ya .u64 (((Yl 64 ((18446744073709551615:Nat):Int)) ^^^ (Yl 64 (a:Int))).toNat:Int)=_
 have e:(BitVec.ofNat 64 18446744073709551615)=BitVec.allOnes 64:=by decide
 rw [Yna,Yna,e,BitVec.allOnes_xor,BitVec.toNat_not,BitVec.toNat_ofNat,Z9f,Nat.mod_eq_of_lt (show a<2^64 by omega)]
 omega
theorem Z9x (n:Int) (h:Num n):Zc fun k=>Zec k n=some (Zl n):=by
 refine Zc.ge 10 fun k hk=>?_
 have hz:=Z15 h
 obtain ⟨p,e,e1,e2⟩:=Z69 10 (zig n) [] k (by omega) hz (by simp) (by omega) (by omega)
 have hs:Zec.j0 n (shl .u64 (Ya .u64 n) 1)=some ((zig n:Nat):Int):=by
  unfold Num at h
  have e0:shl .u64 (Ya .u64 n) 1=(2*n)%18446744073709551616:=by
   have:shl .u64 (Ya .u64 n) 1=Ya .u64 (Ya .u64 n*2):=rfl;rw [this,Z9f,Z9f];omega
  unfold Zec.j0;rw [e0]
  by_cases hn:n<0
  ·rw [Xa hn,show (2*n)%18446744073709551616=((18446744073709551616+2*n).toNat:Int) by omega,Xe,Zvlb _ (by omega)]
   congr 1;unfold zig;rw [Xc hn];omega
  ·rw [Xb hn,Xf]
   congr 1;unfold zig;rw [Xd hn];omega
 unfold Zec
 rw [Z3b (by omega),hs]
 simp only [Yb]
 rw [e]
 simp only [Yb]
 rw [Zsb (by simp;omega),e2]
 rfl
def Zuj:List Int→Str
 | []=>[]
 | n::l=>Zl n++Zuj l
theorem Zl4:∀l:List Int,(Zuj l).length≤10*l.length
 | []=>Nat.zero_le _
 | n::l=>by
  have:=Zpe n;have:=Zl4 l;simp only [Zuj,Yf,Yo];omega
theorem Zl2 (l:List Int) (hw:∀n∈l,Num n) (hl:l.length≤1000000):Zc fun k=>Zxd k l=some (Zuj l):=by
 have hp:Zc fun k=>∀i,i<l.length→∀n,l[i]? = some n→Zec k n=some (Zl n):=Zc.all fun i hi=>(Z9x l[i] (hw _ (Yg hi))).mono fun k h n hn=>by
  rw [Yi hi] at hn;cases hn;exact h
 have key:∀(d i:Nat) (acc:Str),l.length-i=d→i≤l.length→acc.length≤10*i→Zc fun k=>∀j,d<j→Zxd.l0 k j acc l (l.length:Int) (i:Int)=some (acc++Zuj (l.drop i)):=by
  intro d
  induction d with
  | zero=>
   intro i acc hd hi ha;refine Zc.of fun k j hj=>?_
   obtain ⟨j,rfl⟩:∃m,j=m+1:=⟨j-1,by omega⟩;unfold Zxd.l0;rw [Xb (by omega:¬((i:Int)<(l.length:Int))),List.drop_eq_nil_of_le (by omega)];simp only [Xf,Zuj,Yx]
  | succ d ih=>
   intro i acc hd hi ha;have hlt:i<l.length:=by omega
   have:=Zpe l[i];refine (hp.and (ih (i+1) (acc++Zl l[i]) (by omega) (by omega) (by rw [Yf];omega))).mono fun k ⟨h1,h2⟩ j hj=>?_
   obtain ⟨j,rfl⟩:∃m,j=m+1:=⟨j-1,by omega⟩;unfold Zxd.l0;rw [Xa (by omega:(i:Int)<(l.length:Int)),Zm hlt];simp only [Xe,Yb];rw [h1 i hlt _ (Yi hlt)];simp only [Yb];rw [Zyf (by omega)];simp only [Yb];rw [Zv (by omega),h2 j (by omega),List.drop_eq_getElem_cons hlt,Zuj,Ym]
 obtain ⟨K,h⟩:=key l.length 0 [] (by omega) (by omega) (by simp)
 refine Zc.ge (K+l.length+1) fun k hk=>?_
 have h:=h k (by omega) k (by omega)
 have h:Zxd.l0 k k [] l (l.length:Int) 0=some (Zuj l):=h
 unfold Zxd
 rw [h]
 rfl
theorem Zay (s:Str) (h:s.length≤1000000):Zc fun k=>Z0i k s=some (Z4 s):=by
 refine (Z9x (s.length:Int) (by constructor <;> omega)).mono fun k e=>?_
 have:=Zpe (s.length:Int)
 unfold Z0i Z4
 rw [e]
 simp only [Yb]
 rw [Zyf (by omega)]
 rfl
def Zhl (x:Zk):Str:=Zl x.1++Zl x.2.1++Zl x.2.2.1++Z4 x.2.2.2
def Zb0 (x:Zk):Prop:=Num x.1∧Num x.2.1∧Num x.2.2.1
theorem Zmmb (x y z:Int):Zuj [x,y,z]=Zl x++Zl y++Zl z:=by simp [Zuj]
theorem Zdkb (x:Zk) (hn:Zb0 x) (h:x.2.2.2.length≤8):Zc fun k=>Zcp k x=some (Zhl x):=by
 have l1:=Zpe x.1
 have l2:=Zpe x.2.1
 have l3:=Zpe x.2.2.1
 have l4:=Zhm x.2.2.2
 refine ((Zl2 [x.1,x.2.1,x.2.2.1] (by
  intro n hm;simp only [Yh,Y1,or_false] at hm;rcases hm with rfl | rfl | rfl
  ·exact hn.1
  ·exact hn.2.1
  ·exact hn.2.2) (by simp)).and (Zay x.2.2.2 (by omega))).mono fun k ⟨h1,h2⟩=>?_
 unfold Zcp Zhl
 rw [h1,h2,Zmmb]
 simp only [Yb]
 rw [Zyf (by simp;omega)]
 rfl
abbrev Z0b:=Bool×Int×Str
def Zp:Z0b:=(true,(0,[]))
def Z0e (n:Int) (t:Str):Str:=Zuf (Zl n++Z4 t)
def Zam (f:Zu) (t:Str):List Z0b:=if (Zf f).1<1000000 then [(false,((if (Zf f).2.2.2=0 then 1 else 0),Z0e ((Zf f).1+1) t)),Zp] else []
theorem Zts (f:Zu) (t:Str):(Zam f t).length≤2:=by unfold Zam;split <;> simp
theorem Z0ab (s:Str):0≤(Z6 s).1∧(Z6 s).1≤1000000:=by
 unfold Z6
 split
 ·split
  ·split
   ·rename_i h
    have h:=h.2;unfold Ztj at h;simp only [Yc,decide_eq_true_eq] at h;exact ⟨by show 0≤_;omega,h.1.2⟩
   ·simp
  ·simp
 ·simp
theorem Z0s (f:Zu):0≤(Zf f).1∧(Zf f).1≤1000000:=by
 unfold Zf
 split
 ·exact Z0ab _
 ·split
  ·exact Z0ab _
  ·simp
theorem Zqjb (n:Int) (t:Str) (hn:Num n) (ht:t.length≤80):Zc fun k=>Zen k n t=some (Z0e n t):=by
 have l1:=Zpe n
 have l4:=Zhm t
 refine (((Z9x n hn).and (Zay t (by omega))).and (Zby (Zl n++Z4 t) (by simp;omega))).mono fun k ⟨⟨a,b⟩,c⟩=>?_
 unfold Zen
 exact Za a (Za b (Za (Zyf (by omega)) (Za c rfl)))
theorem Zu9 {f:Zu} (h:Zgg f=true) (h2:2≤f.1.length) (t:Str) (ht:t.length≤80):Zc fun k=>Z6l k f t=some (Zam f t):=by
 have hg:=Z0s f
 refine ((Zj2 h h2).and (Zqjb ((Zf f).1+1) t (by constructor <;> omega) ht)).mono fun k ⟨a,b⟩=>?_
 unfold Z6l Zam
 refine Za a ?_
 dsimp only
 rw [w64 (n:=(Zf f).1+1) (by omega) (by omega)]
 by_cases c:(Zf f).1<1000000
 ·rw [Xc c,Xb (by omega:¬((1000000:Int)<(Zf f).1+1)),Xf]
  by_cases d:(Zf f).2.2.2=0
  ·rw [Xc d,show ((Zf f).2.2.2==0)=true by simpa using d,Xe]
   exact Za b rfl
  ·rw [Xd d,show ((Zf f).2.2.2==0)=false by simpa using d,Xf]
   exact Za b rfl
 ·rw [Xd c,Xa (by omega:(1000000:Int)<(Zf f).1+1)]
  rfl
theorem Z0nb {f:Zu} (h:Zgg f=true) (h2:2≤f.1.length) (t:Str) (ht:t.length≤80):Zc fun k=>Z4p k f t=some (Zam f t):=by
 have hg:=Z0s f
 refine ((Z1nb h h2).and (Z6cb ((Zf f).1+1) t (by constructor <;> omega) (by omega))).mono fun k ⟨a,b⟩=>?_
 unfold Z4p Zam
 refine Za a ?_
 dsimp only
 by_cases c:(Zf f).1<1000000
 ·have hm:Ztj ((Zf f).1+1) t=true:=by
   unfold Ztj;rw [Xa (by omega:1≤(Zf f).1+1),Xa (by omega:(Zf f).1+1≤1000000),Xa ht];rfl
  rw [hm,Xc rfl] at b;rw [Xc c,Xb (by omega:¬((1000000:Int)≤(Zf f).1)),Xf,w64 (n:=(Zf f).1+1) (by omega) (by omega)]
  by_cases d:(Zf f).2.2.2=0
  ·rw [Xc d,show ((Zf f).2.2.2 != 0)=false by simpa using d,Xf]
   exact Za b rfl
  ·rw [Xd d,show ((Zf f).2.2.2 != 0)=true by simpa using d,Xe]
   exact Za b rfl
 ·rw [Xd c,Xa (by omega:(1000000:Int)≤(Zf f).1)]
  rfl
theorem Zzx:∀(f u b:Nat),u<128^b→0<b→(Zpc f u).length≤b
 | 0,_,_,_,_=>by simp [Zpc]
 | f+1,u,b,h,hb=>by
  unfold Zpc;split
  ·rename_i h8
   obtain ⟨b,rfl⟩:∃q,b=q+1:=⟨b-1,by omega⟩;cases b with
   | zero=>simp at h;omega
   | succ b=>
    have:=Zzx f (u/128) (b+1) (by rw [Ydb] at h;exact Ycb (by omega)) (by omega);simp only [Yo];omega
  ·simp;omega
theorem Zkv {n:Int} (h0:0≤n) (h:n<64):(Zl n).length≤1:=by
 unfold Zl
 rw [Zhh]
 refine Zzx 10 _ 1 ?_ (by omega)
 unfold zig
 rw [Xd (by omega)]
 omega
theorem Zybb {n:Nat} (h:n<16777216):(Zl (n:Int)).length≤4:=by
 unfold Zl
 rw [Zhh]
 refine Zzx 10 _ 4 ?_ (by omega)
 unfold zig
 rw [Xd (by omega)]
 omega
structure Keep (a b c d e:Int) (x:Str) (v w:Nat):Prop where
 a:0≤a∧a<64
 b:0≤b∧b<64
 c:0≤c∧c<64
 d:0≤d∧d<64
 e:0≤e∧e<64
 x:x.length≤32
 v:v<16777216
 w:w<16777216
theorem Zfm {n:Int} (h:0≤n∧n<64):Num n:=by constructor <;> omega
theorem Keep.len {a b c d e:Int} {x:Str} {v w:Nat} (h:Keep a b c d e x v w):(Z6e (a,b,c,d,e,(v:Int),(w:Int),x)).length≤80:=by
 have h1:=Zkv h.a.1 h.a.2
 have h2:=Zkv h.b.1 h.b.2
 have h3:=Zkv h.c.1 h.c.2
 have h4:=Zkv h.d.1 h.d.2
 have h5:=Zkv h.e.1 h.e.2
 have h6:=Zybb h.v
 have h7:=Zybb h.w
 have h8:=Zhm x
 have hx:=h.x
 unfold Z6e
 simp only [Yf]
 omega
theorem Zz9 {a b c d e:Int} {x:Str} {v w:Nat} (h:Keep a b c d e x v w):Zc fun k=>Z1k k (stT a b c d e x v w)=some (Z6e (a,b,c,d,e,(v:Int),(w:Int),x)):=by
 have hx:=h.x
 have hp:=Zl4 [a,b,c,d,e,(v:Int),(w:Int)]
 simp only [Yo,Y6] at hp
 have h8:=Zhm x
 refine (((Zl2 [a,b,c,d,e,(v:Int),(w:Int)] (fun n hn=>?_) (by simp)).and (Zay x (by omega))).and (Zc.ge 100 fun k hk=>hk)).mono fun k ⟨⟨q1,q2⟩,hk⟩=>?_
 ·simp only [Yh,Y1,or_false] at hn
  rcases hn with rfl | rfl | rfl | rfl | rfl | rfl | rfl
  ·exact Zfm h.a
  ·exact Zfm h.b
  ·exact Zfm h.c
  ·exact Zfm h.d
  ·exact Zfm h.e
  ·exact Z5s h.v
  ·exact Z5s h.w
 ·unfold Z1k stT
  refine Za (Zko v h.v k (by omega)) (Za (Zko w h.w k (by omega)) (Za q1 (Za q2 (Za (Zyf (by omega)) ?_))));unfold Z6e;simp only [Zuj,Ym,Yx]
def Zgb (f:Zu) (a b c d e:Int) (x:Str) (v w:Nat):List Z0b:=Zam f (Z6e (a,b,c,d,e,(v:Int),(w:Int),x))
theorem Zpj {m:Zn} (hf:Zgg m.2=true) (h2:2≤m.2.1.length) {a b c d e:Int} {x:Str} {v w:Nat} (h:Keep a b c d e x v w):Zc fun k=>Zke k m (a,b,c,d,e,x,Zb v,Zb w)=some (Zgb m.2 a b c d e x v w):=by
 refine ((Zz9 h).and (Zu9 hf h2 _ h.len)).mono fun k ⟨q1,q2⟩=>?_
 have q1:Z1k k (a,b,c,d,e,x,Zb v,Zb w)=_:=q1
 unfold Zke
 exact Za q1 (Za q2 rfl)
def Zoe (n a:Int) (t:Str):Str:=Zl n++Zl a++Z4 t
def Zcb (n a:Int) (t:Str):Str:=Zuf (Zoe n a t)
def Zgk (n a:Int) (t:Str):Bool:=(decide (0≤n)&&decide (n≤1000000))&&((decide (0≤a)&&decide (a≤39))&&decide (t.length=8))
theorem Zem {n a:Int} {t:Str}:Zgk n a t=true ↔ (0≤n∧n≤1000000)∧(0≤a∧a≤39)∧t.length=8:=by
 unfold Zgk
 simp only [Yc,decide_eq_true_eq]
theorem Zxlb (n a:Int) (t:Str):(Zoe n a t).length≤30+t.length:=by
 have:=Zpe n
 have:=Zpe a
 have:=Zhm t
 unfold Zoe
 simp only [Yf]
 omega
theorem Ztjb (n a:Int) (t:Str) (hn:Num n) (ha:Num a) (ht:t.length≤8000):Zc fun k=>Z5o k n a t=some (Zcb n a t):=by
 have l:=Zxlb n a t
 have hp:=Zl4 [n,a]
 simp only [Yo,Y6] at hp
 have h4:=Zhm t
 refine (((Zl2 [n,a] (fun z hz=>?_) (by simp)).and (Zay t (by omega))).and (Zby (Zoe n a t) (by omega))).mono fun k ⟨⟨q1,q2⟩,q3⟩=>?_
 ·simp only [Yh,Y1,or_false] at hz
  rcases hz with rfl | rfl
  ·exact hn
  ·exact ha
 ·have e:Zuj [n,a]++Z4 t=Zoe n a t:=by simp only [Zuj,Zoe,Ym,Yx]
  unfold Z5o;refine Za q1 (Za q2 (Za (Zyf (by omega)) ?_));rw [e];exact Za q3 rfl
def Zhk (s:Str):Option ((Int×Int×Str)×Nat):=(Zac s 0).bind fun x=>(Zac s x.2).bind fun y=>(Zvg s y.2).map fun t=>((x.1,(y.1,t.1)),t.2)
theorem Zylb {s:Str} {n a:Int} {t:Str} {d:Nat} (h:Zhk s=some ((n,(a,t)),d)):Num n∧Num a∧t.length≤8000∧(Zoe n a t=s ↔ d=s.length):=by
 unfold Zhk at h
 obtain ⟨⟨n1,a1⟩,h1,h⟩:=Ylb.1 h
 obtain ⟨⟨n2,a2⟩,h2,h⟩:=Ylb.1 h
 obtain ⟨⟨t',d'⟩,h8,h⟩:=Option.map_eq_some_iff.1 h
 simp only [Prod.mk.injEq] at h
 obtain ⟨⟨x1,x2,x3⟩,x4⟩:=h
 replace x1:=x1.symm
 replace x2:=x2.symm
 replace x3:=x3.symm
 replace x4:=x4.symm
 subst x1 x2 x3 x4
 have g1:=Zcr h1
 have g2:=Zcr h2
 have g3:=Z6db h8
 refine ⟨g1.range,g2.range,g3.size,?_⟩
 have e0:s=Zl n++(Zl a++(Z4 t++s.drop d)):=by
  have q:=g1.eq;rw [Yy,g2.eq,g3.eq] at q;exact q
 have p1:=g1.at'
 have p2:=g2.at'
 have p3:=g3.at'
 dsimp only at p1 p2 p3
 constructor
 ·intro q
  have hl:=congrArg List.length q;unfold Zoe at hl;simp only [Yf] at hl;omega
 ·intro q
  rw [q,List.drop_length,Yx] at e0;unfold Zoe;rw [Ym];exact e0.symm
def Z35 (s:Str) (v4 v5:Int×Str×Int×Bool) (v6:Str×Str×Int×Bool):Prop:=(∃n a t,∃d:Nat,Zhk s=some ((n,(a,t)),d)∧v4.1=n∧v5.1=a∧v6=(t,(s,((d:Int),false))))∨(Zhk s=none∧v6.2.2.2=true)
theorem Ztmb {s:Str} {v4 v5:Int×Str×Int×Bool} {v6:Str×Str×Int×Bool} (h4:StS s v4.2 (Zi s (some 0))) (g4:∀a n a',(some 0:Option Nat)=some a→Zac s a=some (n,a')→v4.1=n)
  (h5:StS s v5.2 (Zi s (Zi s (some 0)))) (g5:∀a n a',Zi s (some 0)=some a→Zac s a=some (n,a')→v5.1=n) (h6:StS s v6.2 (Zhc s (Zi s (Zi s (some 0))))) (g6:∀a n a',Zi s (Zi s (some 0))=some a→Zvg s a=some (n,a')→v6.1=n):Z35 s v4 v5 v6:=by
 have bad:StS s v6.2 none→v6.2.2.2=true:=fun h=>h.2.choose_spec.2.2
 cases x1:Zac s 0 with
 | none=>
  refine .inr ⟨by simp [Zhk,x1],bad ?_⟩;have:Zhc s (Zi s (Zi s (some 0)))=none:=by simp [Zi,Zhc,x1]
  rwa [this] at h6
 | some y1=>
  obtain ⟨n1,a1⟩:=y1;have p1:Zi s (some 0)=some a1:=by simp [Zi,x1]
  cases x2:Zac s a1 with
  | none=>
   refine .inr ⟨by simp [Zhk,x1,x2],bad ?_⟩;have:Zhc s (Zi s (Zi s (some 0)))=none:=by simp [Zi,Zhc,x1,x2]
   rwa [this] at h6
  | some y2=>
   obtain ⟨n2,a2⟩:=y2;have p2:Zi s (Zi s (some 0))=some a2:=by simp [Zi,x1,x2]
   cases x3:Zvg s a2 with
   | none=>
    refine .inr ⟨by simp [Zhk,x1,x2,x3],bad ?_⟩;have:Zhc s (Zi s (Zi s (some 0)))=none:=by simp [Zi,Zhc,x1,x2,x3]
    rwa [this] at h6
   | some y3=>
    obtain ⟨t,d⟩:=y3;have p3:Zhc s (Zi s (Zi s (some 0)))=some d:=by simp [Zi,Zhc,x1,x2,x3]
    refine .inl ⟨n1,n2,t,d,by simp [Zhk,x1,x2,x3],g4 _ _ _ rfl x1,g5 _ _ _ p1 x2,?_⟩;have r6:=g6 _ _ _ p2 x3;rw [p3] at h6;rcases h6.form with ⟨b,e,_,q⟩ | ⟨b,e,_,q⟩
    ·cases e
     rw [← r6,← q]
    ·cases e
theorem Z0ob (s:Str):StS s (s,(((0:Nat):Int),false)) (some 0):=⟨rfl,0,rfl,by omega,rfl,rfl⟩
theorem Zyjb (s:Str) (hs:s.length≤8000):∃v4 v5 v6,(Zc fun k=>Zfc k (s,(0,false))=some v4∧Zfc k v4.2=some v5∧Zpg k v5.2=some v6)∧Z35 s v4 v5 v6:=by
 obtain ⟨v4,q4,h4,g4⟩:=Zqj hs (Z0ob s)
 obtain ⟨v5,q5,h5,g5⟩:=Zqj hs h4
 obtain ⟨v6,q6,h6,g6⟩:=Zn2 hs h5
 exact ⟨v4,v5,v6,((q4.and q5).and q6).mono fun k h=>⟨h.1.1,h.1.2,h.2⟩,Ztmb h4 g4 h5 g5 h6 g6⟩
def Z4b (s:Str) (n:Int):Z0b:=if (Zcd s).2=0 then match Zhk (Zt s) with
  | some ((n',(a,t)),d)=>if (d=(Zt s).length∧n'=n)∧Zgk n a t=true then (false,(a,t)) else Zp
  | none=>Zp
 else Zp
theorem Zbbb (s:Str) (n:Int) (h:(Z4b s n).1=false):0≤(Z4b s n).2.1∧(Z4b s n).2.1≤39:=by
 unfold Z4b at h ⊢
 split at h
 ·rename_i q
  rw [Xc q];split at h
  ·split at h
   ·rename_i q2
    rw [Xc q2];exact (Zem.1 q2.2).2.1
   ·cases h
  ·cases h
 ·cases h
theorem Zujb (s:Str) (hs:s.length≤8000) (n:Int):Zc fun k=>Z6o k s n=some (Z4b s n):=by
 have hl:=Zmpb s
 obtain ⟨v4,v5,v6,hE,h3⟩:=Zyjb (Zcd s).1 (by omega)
 refine ((Zps s (by omega)).and hE).mono fun k ⟨u,q4,q5,q6⟩=>?_
 have hT:Z2h n=some (decide (0≤n)&&decide (n≤1000000)):=rfl
 unfold Z6o Z4b
 refine Za u (Za q4 (Za q5 (Za q6 ?_)))
 by_cases hu:(Zcd s).2=0
 ·obtain ⟨e1,e2,_⟩:=Zrt hu
  have e0:(Zcd s).1=Zt s:=by rw [e1]
  rw [Xc hu,show ((Zcd s).2 != 0)=false by simpa using hu,e0];rw [e0] at h3;rcases h3 with ⟨n',a,t,d,hz,h4,h5,h6⟩ | ⟨hz,hb⟩
  ·rw [hz,h6,h4]
   dsimp only;have hW:Zjb v5.1 0 39=some (decide (0≤v5.1)&&decide (v5.1≤39)):=rfl;rw [h5] at hW ⊢
   by_cases cd:d=(Zt s).length
   ·by_cases cn:n'=n
    ·rw [show ((((false||false)||(((d:Nat):Int) != ((Zt s).length:Int))))||(n' != n))=false by rw [cd,cn];simp,Xf]
     refine Za hT ?_;unfold Zgk;cases c1:decide (0≤n)&&decide (n≤1000000) with
     | false=>
      rw [Xd (fun q=>by cases q.2)];rfl
     | true=>
      rw [Ys,Xf];refine Za hW ?_;cases c2:decide (0≤a)&&decide (a≤39) with
      | false=>
       rw [Xd (fun q=>by cases q.2)];rfl
      | true=>
       by_cases c8:t.length=8
       ·rw [Xc ⟨⟨cd,cn⟩,by rw [Xa c8];rfl⟩,show (((t.length:Nat):Int) != 8)=false by rw [c8];rfl]
        rfl
       ·rw [Xd (fun q=>by rw [Xb c8] at q;cases q.2),show (((t.length:Nat):Int) != 8)=true by simp;omega]
        rfl
    ·rw [Xd (fun q=>cn q.1.2),show (n' != n)=true by simpa using cn,Yca]
     rfl
   ·rw [Xd (fun q=>cd q.1.1),show (((d:Nat):Int) != ((Zt s).length:Int))=true by simp;omega]
    simp only [Yca,Yda,Xe];rfl
  ·rw [hz,hb]
   simp only [Yca,Yda,Xe];rfl
 ·rw [Xd hu,show ((Zcd s).2 != 0)=true by simpa using hu]
  simp only [Yda,Xe];rfl
structure MS0 (m:Zn) (ph tr nd st dn:Int) (dg:Str) (v w:Nat):Prop where
 fit:Fit m st w
 hph:1≤ph∧ph≤5
 sb:Zre ph tr nd st dn dg v w=true
 hv:v<16777216
 hw:w<16777216
structure MSt (m:Zn) (ph tr nd st dn:Int) (dg:Str) (v w:Nat):Prop extends MS0 m ph tr nd st dn dg v w where
 img:Zvb (Ztd m)=true
 snd:3≤ph→Sound m st dn w
theorem Z1s {m:Zn} {ph tr nd st dn:Int} {dg:Str} {v w:Nat} (hs:stM m=some (ph,(tr,(nd,(st,(dn,(dg,(v,w)))))))):MS0 m ph tr nd st dn dg v w:=by
 obtain ⟨h1,h2,h3⟩:=Zg5 hs
 have hvw:v<16777216∧w<16777216:=by
  unfold stM at hs;split at hs
  ·split at hs
   ·exact (Zwdb hs).2
   ·cases hs
  ·cases hs
 exact ⟨h1,h2,h3,hvw.1,hvw.2⟩
theorem Zvy {m:Zn} {ph tr nd st dn:Int} {dg:Str} {v w:Nat} (hs:stM m=some (ph,(tr,(nd,(st,(dn,(dg,(v,w)))))))) (hm:Zaf m=true):MSt m ph tr nd st dn dg v w:=by
 have h0:=Z1s hs
 obtain ⟨h1,h2,h3⟩:=Zg5 hs
 unfold Zaf at hm
 rw [hs] at hm
 dsimp only at hm
 rw [Yc,Yqa] at hm
 refine ⟨h0,hm.1,fun hp=>?_⟩
 rcases hm.2 with q | q
 ·have:=of_decide_eq_true q
  omega
 ·unfold Zel at q
  rw [Yc,Yc,decide_eq_true_eq,decide_eq_true_eq,decide_eq_true_eq] at q;refine ⟨h1,q.1,q.2.1,?_,q.2.2⟩;unfold Zre at h3;have h3:=((Yc _ _).mp ((Yc _ _).mp h3).2).2;rw [Xd (by omega)] at h3;have h3:=of_decide_eq_true h3;omega
def Z7q (l:List Zk):Nat→Int
 | 0=>0
 | i+1=>if (wAt l i).1=5 then (i:Int)+1 else Z7q l i
def Z3k (l:List Zk):Int:=Z7q l l.length
theorem Zcab (l:List Zk):∀i,0≤Z7q l i∧Z7q l i≤(i:Int)
 | 0=>⟨Yv _,Yv _⟩
 | i+1=>by
  have:=Zcab l i;unfold Z7q;split <;> omega
theorem Zs9 (l:List Zk) (hl:l.length≤20) {k:Nat} (hk:100≤k):Zle k l=some (Z3k l):=by
 have run:=Zgc (fun j i=>Zle.l0 j (Z7q l i) l (l.length:Int) (i:Int)) l.length (Z3k l) (fun i hi j=>?_) (fun j=>?_) k (by omega)
 ·have run:Zle.l0 k 0 l (l.length:Int) 0=some (Z3k l):=run
  unfold Zle;exact Za run rfl
 ·conv=>lhs;unfold Zle.l0
  rw [dlt hi,Zv (by omega),Xe];refine Za (Zm hi) ?_;dsimp only;rw [Z7q,Zed hi]
  by_cases c:l[i].1=5
  ·rw [Xc c,show (l[i].1==5)=true by simpa using c,Xe]
   rfl
  ·rw [Xd c,show (l[i].1==5)=false by simpa using c,Xf]
 ·conv=>lhs;unfold Zle.l0
  rw [Zib (Ye _)];rfl
def Ztu (m:Zn) (x:Int):Bool:=!(Zd m.2 (3+m.1+x)==[])
def Zfg (m:Zn) (l:List Int):List Z0b:=(l.filter (Ztu m)).map fun x=>(false,(3+m.1+x,[]))
theorem Z7gb {m:Zn} {l:List Int} {i:Nat} (h:i<l.length):Zfg m (l.take (i+1))=if Ztu m l[i]=true then Zfg m (l.take i)++[(false,(3+m.1+l[i],[]))] else Zfg m (l.take i):=by
 unfold Zfg
 rw [Z0j h,List.filter_append]
 cases hp:Ztu m l[i] with
 | true=>rw [Xc rfl,List.filter_cons_of_pos hp,Yza];rfl
 | false=>rw [Xd Y3,List.filter_cons_of_neg (by rw [hp];exact Y3)];simp
theorem Zw1 (m:Zn) (l:List Int):(Zfg m l).length≤l.length:=by
 unfold Zfg
 rw [Yp]
 exact Yxa _ _
def Z9q (m:Zn) (l:List Int):List Z0b:=if Zfg m l=[] then [] else Zfg m l++[Zp]
section
variable {m:Zn} {ph tr nd st dn:Int} {dg:Str} {v w:Nat}
theorem MS0.idle (h:MS0 m ph tr nd st dn dg v w) (h1:ph=1):tr=0∧nd=0∧st=0∧dn=0∧dg=[]∧(Zb w).length=0:=by
 have q:=h.sb
 unfold Zre at q
 have q:=((Yc _ _).mp ((Yc _ _).mp q).2).2
 rw [Xc h1] at q
 exact of_decide_eq_true q
theorem MS0.busy (h:MS0 m ph tr nd st dn dg v w) (h1:ph≠1):(1≤nd∧nd≤20)∧(0≤st∧st≤4)∧((Zb w).length:Int)=nd+st∧dg.length=32∧(0≤tr∧tr≤2)∧(0≤dn∧dn≤40)∧(tr=0∨ph=4)∧(dn=0∨ph=5):=by
 have q:=h.sb
 unfold Zre at q
 have q:=((Yc _ _).mp ((Yc _ _).mp q).2).2
 rw [Xd h1] at q
 exact of_decide_eq_true q
theorem MS0.apart (h:MS0 m ph tr nd st dn dg v w):v &&& w=0:=by
 have q:=h.sb
 unfold Zre at q
 exact of_decide_eq_true ((Yc _ _).mp ((Yc _ _).mp q).2).1
theorem MS0.keep (h:MS0 m ph tr nd st dn dg v w):Keep ph tr nd st dn dg v w:=by
 have hp:=h.hph
 by_cases c:ph=1
 ·obtain ⟨q1,q2,q3,q4,q5,q6⟩:=h.idle c
  exact ⟨by omega,by omega,by omega,by omega,by omega,by rw [q5];simp,h.hv,h.hw⟩
 ·obtain ⟨q1,q2,q3,q4,q5,q6,q7,q8⟩:=h.busy c
  exact ⟨by omega,by omega,by omega,by omega,by omega,by omega,h.hv,h.hw⟩
theorem Zek (hv:v<16777216):Keep 1 0 0 0 0 [] v 0:=⟨by omega,by omega,by omega,by omega,by omega,by simp,hv,by omega⟩
theorem MS0.log (h:MS0 m ph tr nd st dn dg v w):((Zh m st w).length:Int)≤nd∧(Zh m st w).length≤20∧0≤st∧st+((Zh m st w).length:Int)≤((Zb w).length:Int):=by
 have hl:(Zh m st w).length≤(Zbi m st w).length:=Z74 _ _
 have ha:(Zbi m st w).length=(Zb w).length-st.toNat:=by unfold Zbi;simp
 have hs:=h.fit.s
 by_cases c:ph=1
 ·obtain ⟨q1,q2,q3,q4,q5,q6⟩:=h.idle c
  omega
 ·obtain ⟨q1,q2,q3,q4,q5,q6,q7,q8⟩:=h.busy c
  omega
theorem MS0.two (h:MS0 m ph tr nd st dn dg v w):2≤m.2.1.length:=by
 have:=h.fit.n
 have:=h.fit.b
 omega
theorem Z6x (v:Nat) (ph tr nd st dn:Int) (dg:Str) (x:List Int):Z2i (ph,(tr,(nd,(st,(dn,(dg,(Zb v,x)))))))=some (1,(0,(0,(0,(0,([],(Zb v,Zb 0))))))):=by
 have:=Zbh v
 have hc:Zdj (Zb v)=some (Zb v):=by
  unfold Zdj;exact Za (Zsb (by simp;omega)) rfl
 unfold Z2i
 refine Za hc ?_
 rw [Zmq]
theorem Zjjb (h:Fit m st w) (l:List Int) (hl:l.length≤24) (hx:∀x∈l,0≤x∧x≤23) {k:Nat} (hk:1048577≤k):Z9c.l0 k k l (l.length:Int) 0 m.1 m.2.1 m.2.2 []=some (m.1,(m.2.1,(m.2.2,Zfg m l))):=by
 have run:=Zgc (fun j i=>Z9c.l0 k j l (l.length:Int) (i:Int) m.1 m.2.1 m.2.2 (Zfg m (l.take i))) l.length (m.1,(m.2.1,(m.2.2,Zfg m l))) (fun i hi j=>?_) (fun j=>?_) k (by omega)
 ·exact run
 ·have hr:=hx _ (Yg hi)
  have he:=Zw1 m (l.take i);rw [Yq] at he
  conv=>lhs;unfold Z9c.l0
  rw [dlt hi,Zv (by omega),Xe,Z7gb hi];refine Za (Zm hi) (Za (Zn9 h hr.1 hr.2 hk) ?_);dsimp only;rw [show (!(Zd m.2 (3+m.1+l[i])==[]))=Ztu m l[i] from rfl];cases hp:Ztu m l[i] with
  | true=>
   rw [Xe,Xc rfl];exact Za (Z1x h hr.1 hr.2) (Za (Zsb (by simp;omega)) rfl)
  | false=>rw [Xf,Xd Y3]
 ·conv=>lhs;unfold Z9c.l0
  rw [Zib (Ye _),Yk];rfl
def Z6j (m:Zn) (ph tr nd st dn:Int) (dg:Str) (v w:Nat):List Z0b:=if ph=2 then Z9q m ((Zb w).drop (st+Z3k (Zh m st w)).toNat) else if ph=3 then Zgb m.2 4 2 nd st dn dg v w else if ph=4 then (if tr=0 then Zgb m.2 1 0 0 0 0 [] v 0 else Zgb m.2 4 (tr-1) nd st dn dg v w) else if ph=5 then (if ((Z4b (Zd m.2 2) dn).1=true∨dn=40)∨(m.2.1.length:Int)≤(Z4b (Zd m.2 2) dn).2.1 then [] else [Z4b (Zd m.2 2) dn,Zp]++Zgb m.2 5 tr nd st (dn+1) dg v w) else []
theorem Z7kb (m:Zn) (l:List Int):(bif decide (0<((Zfg m l).length:Int)) then some (Zfg m l++[Zp]) else some (Zfg m l))=some (Z9q m l):=by
 unfold Z9q
 by_cases c:Zfg m l=[]
 ·rw [Xc c,c]
  rfl
 ·have:0<(Zfg m l).length:=List.length_pos_iff.2 c
  rw [Xd c,Xa (by omega:(0:Int)<((Zfg m l).length:Int))];rfl
theorem Zo9 (h:MS0 m ph tr nd st dn dg v w):Zc fun k=>Z9c k m (ph,(tr,(nd,(st,(dn,(dg,(Zb v,Zb w)))))))=some (Z6j m ph tr nd st dn dg v w):=by
 have hf:=h.fit
 have hb:=hf.b
 have hn:=hf.n
 have hk0:=h.keep
 have hll:=h.log
 have hkl:=Zcab (Zh m st w) (Zh m st w).length
 have hlw:=Zbh w
 have h2:=h.two
 unfold Z6j
 by_cases c2:ph=2
 ·subst c2
  obtain ⟨p,hp⟩:∃p:Nat,st+Z3k (Zh m st w)=(p:Int):=⟨(st+Z3k (Zh m st w)).toNat,by unfold Z3k;omega⟩;have hple:p≤(Zb w).length:=by unfold Z3k at hp;omega
  refine ((Zyu 2 tr nd st dn dg (Zb v) hf).and (Zc.ge 1048577 fun k hk=>hk)).mono fun k ⟨e,hk⟩=>?_
  rw [Xc rfl,hp,Yt]
  have hc:Z9b (Zb w) ((p:Nat):Int) ((Zb w).length:Int)=some ((Zb w).drop p):=by
   have:=Zng (l:=Zb w) (i:=p) (j:=(Zb w).length) hple (Ye _)
   rwa [Yk] at this
  have hel:=Zw1 m ((Zb w).drop p);rw [List.length_drop] at hel;unfold Z9c;show (bif ((2:Int)==2) then _ else _)=_;rw [show ((2:Int)==2)=true from rfl,Xe];refine Za e (Za (Zs9 _ hll.2.1 (by omega)) ?_);show Y2 (Z9b (Zb w) (Ya .i64 (st+Z3k (Zh m st w))) ((Zb w).length:Int)) _=_;rw [hp,wn (by omega)];refine Za hc (Za (Zjjb hf _ (by simp;omega) (fun x hx=>?_) hk) ?_)
  ·obtain ⟨j,hj,rfl⟩:=Y0.1 (List.mem_of_mem_drop hx)
   exact Zrl hj
  ·rw [← Z7kb]
   show (bif decide (0<((Zfg m ((Zb w).drop p)).length:Int)) then _ else _)=_;cases decide (0<((Zfg m ((Zb w).drop p)).length:Int)) with
   | true=>exact Za (Zsb (by simp;omega)) rfl
   | false=>rfl
 ·rw [Xd c2]
  by_cases c3:ph=3
  ·subst c3
   rw [Xc rfl];refine (Zpj (m:=m) hf.f h2 (a:=4) (b:=2) { hk0 with a:=by omega,b:=by omega }).mono fun k e=>?_
   unfold Z9c;exact Za e rfl
  ·rw [Xd c3]
   by_cases c4:ph=4
   ·subst c4
    rw [Xc rfl]
    by_cases ct:tr=0
    ·subst ct
     rw [Xc rfl];refine (Zpj (m:=m) hf.f h2 (Zek h.hv)).mono fun k e=>?_
     unfold Z9c;exact Za (Z6x v _ _ _ _ _ _ _) (Za e rfl)
    ·rw [Xd ct]
     have hbz:=(h.busy (by omega)).2.2.2.2.1;refine (Zpj (m:=m) hf.f h2 (a:=4) (b:=tr-1) { hk0 with a:=by omega,b:=by omega }).mono fun k e=>?_
     unfold Z9c;show (bif (tr==0) then _ else _)=_;rw [show (tr==0)=false by simpa using ct,Xf];show Y2 (Zke k m (4,(Ya .i64 (tr-1),(nd,(st,(dn,(dg,(Zb v,Zb w)))))))) _=_;rw [w64 (n:=tr-1) (by omega) (by omega)];exact Za e rfl
   ·rw [Xd c4]
    by_cases c5:ph=5
    ·subst c5
     rw [Xc rfl];obtain ⟨q1,q2,q3,q4,q5,q6,q7,q8⟩:=h.busy (by omega);have hat:=Zbbb (Zd m.2 2) dn;have hdr:=hf.dirt;have hl:m.2.1.length≤1048576:=by omega
     refine (((Zujb (Zd m.2 2) (by have:=Z9m hf.f 2;omega) dn).and (Zpj (m:=m) hf.f h2 (a:=5) (e:=dn+1) { hk0 with a:=by omega,e:=by omega })).and (Zc.ge 1048577 fun k hk=>hk)).mono fun k ⟨⟨e1,e2⟩,hk⟩=>?_
     unfold Z9c;show Y2 (Z0f k m.2 2) _=_;refine Za (Zlo m.2 2 hdr (by omega) (by omega) (by omega)) (Za e1 ?_);show (bif (Z4b (Zd m.2 2) dn).1||(dn==40) then _ else _)=_;cases hsy:(Z4b (Zd m.2 2) dn).1 with
     | true=>
      rw [Xc (.inl (.inl rfl))];rfl
     | false=>
      rw [Yoa]
      by_cases c40:dn=40
      ·rw [Xc (.inl (.inr c40)),show (dn==40)=true by simpa using c40]
       rfl
      ·have hat:=hat hsy
       rw [show (dn==40)=false by simpa using c40,Xf];refine Za (Ze2 hl m.2.2 _) ?_;rw [Xa hat.1,Y4]
       by_cases cl:(m.2.1.length:Int)≤(Z4b (Zd m.2 2) dn).2.1
       ·rw [Xc (.inr cl),Xb (by omega)]
        rfl
       ·rw [Xd (by rintro ((q | q) | q);cases q;exact c40 q;exact cl q),Xa (by omega:(Z4b (Zd m.2 2) dn).2.1≤(m.2.1.length:Int)-1),Ys,Xf]
        show Y2 (Zke k m (5,(tr,(nd,(st,(Ya .i64 (dn+1),(dg,(Zb v,Zb w)))))))) _=_;rw [w64 (n:=dn+1) (by omega) (by omega)];refine Za e2 ?_;have hkl2:=Zts m.2 (Z6e (5,tr,nd,st,dn+1,(v:Int),(w:Int),dg));exact Za (Zsb (by unfold Zgb;simp;omega)) rfl
    ·rw [Xd c5]
     refine Zc.of fun k=>?_
     have hph:=h.hph;have:ph=1:=by omega
     subst this;rfl
end
theorem Zsdb:∀{a b:List Nat},a.Pairwise (· < ·)→b.Pairwise (· < ·)→(∀x,x∈a ↔ x∈b)→a=b
 | [],[],_,_,_=>rfl
 | [],y::b,_,_,h=>by have:=(h y).2 Yr;cases this
 | x::a,[],_,_,h=>by have:=(h x).1 Yr;cases this
 | x::a,y::b,ha,hb,h=>by
  have ha':=Y8a.1 ha;have hb':=Y8a.1 hb
  have e:x=y:=by
   rcases Yh.1 ((h x).1 Yr) with e | e
   ·exact e
   ·rcases Yh.1 ((h y).2 Yr) with f | f
    ·exact f.symm
    ·have:=hb'.1 x e
     have:=ha'.1 y f;omega
  subst e;rw [Zsdb ha'.2 hb'.2 fun z=>⟨fun hz=>?_,fun hz=>?_⟩]
  ·rcases Yh.1 ((h z).1 (Yz _ hz)) with e | e
   ·have:=ha'.1 z hz;omega
   ·exact e
  ·rcases Yh.1 ((h z).2 (Yz _ hz)) with e | e
   ·have:=hb'.1 z hz;omega
   ·exact e
def orP:List Nat→Nat
 | []=>0
 | x::l=>2^x ||| orP l
theorem Zyy (l:List Nat) (i:Nat):(orP l).testBit i=decide (i∈l):=by
 induction l with
 | nil=>simp [orP]
 | cons x l ih=>
  rw [orP,Yhb,ih,Nat.testBit_two_pow];rw [Bool.eq_iff_iff];simp only [Yqa,decide_eq_true_eq,Yh];constructor
  ·rintro (h | h)
   ·exact .inl h.symm
   ·exact .inr h
  ·rintro (h | h)
   ·exact .inl h.symm
   ·exact .inr h
theorem Zkbb {l:List Nat} (h:∀x∈l,x<24):orP l<16777216:=by
 have:orP l<2^24:=by
  induction l with
  | nil=>simp [orP]
  | cons x l ih=>
   rw [orP];exact Yma (Nat.pow_lt_pow_right (by omega) (h x Yr)) (ih fun y hy=>h y (Yz _ hy))
 simpa using this
theorem Z16 {l:List Nat} (hs:l.Pairwise (· < ·)) (h:∀x∈l,x<24):Z1b (orP l) 24=l:=by
 refine Zsdb (Z1r _ _) hs fun x=>?_
 unfold Z1b
 rw [Yha,Yia,Zyy,decide_eq_true_eq]
 exact ⟨fun q=>q.2,fun q=>⟨h x q,q⟩⟩
theorem and_zero {v u:Nat} (h:∀i,i<24→¬(v.testBit i=true∧u.testBit i=true)) (hv:v<16777216):v &&& u=0:=by
 refine Yja fun i=>?_
 rw [Ygb,Ykb]
 by_cases hi:i<24
 ·have:=h i hi
  cases h1:v.testBit i with
  | false=>rfl
  | true=>
   cases h2:u.testBit i with
   | false=>rfl
   | true=>exact absurd ⟨h1,h2⟩ this
 ·rw [Yaa (Y8 (show v<2^24 by simpa using hv) (Y9 (by omega) (by omega)))]
  rfl
def Zuc (v w:Nat):Nat:=16777215 ^^^ (v ||| w)
theorem Zhbb {i:Nat} (h:i<24):(16777215:Nat).testBit i=true:=by
 have:(2^24-1).testBit i=decide (i<24):=Nat.testBit_two_pow_sub_one 24 i
 rw [Xa h] at this
 exact this
theorem Z88 {v w i:Nat} (h:i<24):(Zuc v w).testBit i=(!(v.testBit i) && !(w.testBit i)):=by
 unfold Zuc
 rw [Yib,Zhbb h,Yhb]
 cases v.testBit i <;> cases w.testBit i <;> rfl
theorem Zks {v w:Nat} (hv:v<16777216) (hw:w<16777216):Zuc v w<16777216:=by
 have h:v ||| w<2^24:=Yma (by simpa using hv) (by simpa using hw)
 have:Zuc v w<2^24:=Yjb (by omega) h
 simpa using this
abbrev Zbg:=Int×Int
def Z2m (acc:List Zbg) (n:Int):List Zbg:=match acc.getLast? with
 | some e=>if e.1+e.2=n then acc.dropLast++[(e.1,e.2+1)] else acc++[(n,1)]
 | none=>[(n,1)]
def Zlc (l:List Int):List Zbg:=l.foldl Z2m []
def Z1t (l:List Int) (acc:List Zbg):Prop:=∀e∈acc,1≤e.2∧∀x,e.1≤x→x<e.1+e.2→x∈l
theorem Zzeb {l:List Int} {acc:List Zbg} (h:Z1t l acc) {n:Int} (hn:n∈l):Z1t l (Z2m acc n):=by
 have one:∀e∈[((n,1):Zbg)],1≤e.2∧∀x,e.1≤x→x<e.1+e.2→x∈l:=fun e he=>by
  rw [Y6a.1 he];refine ⟨Yv _,fun x h1 h2=>?_⟩;have h1:n≤x:=h1;have h2:x<n+1:=h2;rw [show x=n by omega];exact hn
 unfold Z2m
 cases hl:acc.getLast? with
 | none=>exact one
 | some e=>
  have hm:e∈acc:=Y4a hl;dsimp only;split
  ·rename_i he
   intro z hz;rcases Y2a.1 hz with hz | hz
   ·exact h z (List.dropLast_subset _ hz)
   ·rw [Y6a.1 hz]
    obtain ⟨h1,h2⟩:=h e hm;refine ⟨by show 1≤e.2+1;omega,fun x q1 q2=>?_⟩;have q1:e.1≤x:=q1;have q2:x<e.1+(e.2+1):=q2
    by_cases c:x<e.1+e.2
    ·exact h2 x q1 c
    ·rw [show x=n by omega]
     exact hn
  ·intro z hz
   rcases Y2a.1 hz with hz | hz
   ·exact h z hz
   ·exact one z hz
theorem Zycb (l:List Int):Z1t l (Zlc l):=by
 have:∀(r:List Int) (acc:List Zbg),(∀x∈r,x∈l)→Z1t l acc→Z1t l (r.foldl Z2m acc):=by
  intro r
  induction r with
  | nil=>intro acc _ h;exact h
  | cons x r ih=>
   intro acc hx h;exact ih _ (fun y hy=>hx y (Yz _ hy)) (Zzeb h (hx x Yr))
 exact this l [] (fun x hx=>hx) (fun e he=>nomatch he)
theorem Z0eb (acc:List Zbg) (n:Int):(Z2m acc n).length≤acc.length+1:=by
 unfold Z2m
 cases hl:acc.getLast? with
 | none=>simp
 | some e=>
  dsimp only;split
  ·rw [Yf,List.length_dropLast,Yo,Y6];omega
  ·simp
theorem Zzcb {l:List Int} {i:Nat} (h:i<l.length):Zlc (l.take (i+1))=Z2m (Zlc (l.take i)) l[i]:=by
 unfold Zlc
 rw [Z0j h,List.foldl_append]
 rfl
theorem Z24 (l:List Int):∀i,(Zlc (l.take i)).length≤i
 | 0=>by simp [Zlc]
 | i+1=>by
  have ih:=Z24 l i
  by_cases h:i<l.length
  ·rw [Zzcb h]
   have:=Z0eb (Zlc (l.take i)) l[i];omega
  ·rw [Ybb (by omega)] at ih ⊢
   omega
def Zxj (a:Int) (n:Nat):List Int:=(Yj n).map fun (i:Nat)=>a+(i:Int)
def Zoi (f:Nat) (n:Int):Option (List Int):=
 if ((Zb f).length:Int)<n then none
 else match Zab (fun (e:Zbg)=>decide (n≤e.2)) (Zlc (Zb f)) 0 with
  | some i=>some (Zxj ((Zlc (Zb f)).getD i (0,0)).1 n.toNat)
  | none=>some ((Zb f).take n.toNat)
theorem Znob {a n:Nat} (h:a+n≤24):∃u,u<16777216∧Zb u=Zxj (a:Int) n∧∀i,u.testBit i=true→a≤i∧i<a+n:=by
 have hs:((Yj n).map (a + ·)).Pairwise (· < ·):=by
  rw [List.pairwise_map];exact List.pairwise_lt_range.imp fun h=>by omega
 have hm:∀x∈(Yj n).map (a + ·),a≤x∧x<a+n:=fun x hx=>by
  obtain ⟨y,hy,rfl⟩:=Y7.1 hx;rw [Yia] at hy;omega
 refine ⟨orP ((Yj n).map (a + ·)),Zkbb fun x hx=>by have:=hm x hx;omega,?_,fun i hi=>?_⟩
 ·unfold Zb Zxj
  rw [Z16 hs fun x hx=>by have:=hm x hx;omega,Yga];refine List.map_congr_left fun i _=>?_
  show ((a+i:Nat):Int)=_;omega
 ·rw [Zyy,decide_eq_true_eq] at hi
  exact hm i hi
theorem Zdpb (f n:Nat) (hf:f<16777216):∃u,u<16777216∧Zb u=(Zb f).take n∧∀i,u.testBit i=true→f.testBit i=true:=by
 have hs:((Z1b f 24).take n).Pairwise (· < ·):=(Z1r f 24).sublist (List.take_sublist _ _)
 have hm:∀x∈(Z1b f 24).take n,x<24∧f.testBit x=true:=fun x hx=>Z0r (Y5a hx)
 refine ⟨orP ((Z1b f 24).take n),Zkbb fun x hx=>(hm x hx).1,?_,fun i hi=>?_⟩
 ·unfold Zb
  rw [Z16 hs fun x hx=>(hm x hx).1,Y1a]
 ·rw [Zyy,decide_eq_true_eq] at hi
  exact (hm i hi).2
theorem Zo4 {f:Nat} (hf:f<16777216) {n:Int} (h0:1≤n) {l:List Int} (h:Zoi f n=some l):(∃u,u<16777216∧l=Zb u∧∀i,u.testBit i=true→f.testBit i=true)∧(l.length:Int)=n:=by
 unfold Zoi at h
 split at h
 ·cases h
 ·rename_i hn
  cases hi:Zab (fun (e:Zbg)=>decide (n≤e.2)) (Zlc (Zb f)) 0 with
  | none=>
   rw [hi] at h;cases h;obtain ⟨u,h1,h2,h3⟩:=Zdpb f n.toNat hf;exact ⟨⟨u,h1,h2.symm,h3⟩,by rw [Yq];omega⟩
  | some i=>
   rw [hi] at h;cases h;obtain ⟨_,hlt,hp,_⟩:=Zmj hi;have hp:=of_decide_eq_true hp;simp only [Yfb] at hlt hp
   have hd:(Zlc (Zb f)).getD i (0,0)=(Zlc (Zb f))[i]:=by
    rw [Yn,Yi hlt];rfl
   rw [hd];have hr:=(Zycb (Zb f) _ (Yg hlt)).2;generalize (Zlc (Zb f))[i]=e at hp hr;have m0:=hr e.1 (Yv _) (by omega);have m1:=hr (e.1+n-1) (by omega) (by omega)
   obtain ⟨a,ha⟩:∃a:Nat,e.1=(a:Int):=by
    obtain ⟨y,_,hy⟩:=Y7.1 (show e.1∈(Z1b f 24).map _ from m0);exact ⟨y,hy.symm⟩
   obtain ⟨k,rfl⟩:∃k:Nat,n=(k:Int):=⟨n.toNat,by omega⟩
   have b1:a+k≤24:=by
    obtain ⟨y,hy,hy2⟩:=Y7.1 (show e.1+(k:Int)-1∈(Z1b f 24).map _ from m1);have:=(Z0r hy).1;have hy2:((y:Nat):Int)=e.1+(k:Int)-1:=hy2;omega
   obtain ⟨u,u1,u2,u3⟩:=Znob b1;rw [Yt,ha];refine ⟨⟨u,u1,u2.symm,fun i hi=>?_⟩,by simp [Zxj]⟩;have:=u3 i hi;have hm:=hr (i:Int) (by omega) (by omega);exact (Zhlb.1 hm).2
theorem Z8eb (a:Nat) (ha:a<16777216):intBits .andNot .i64 16777215 (a:Int)=((16777215 ^^^ a:Nat):Int):=by
 have h0:(Yl 64 (a:Int)).toNat=a:=by
  rw [BitVec.toNat_ofInt];omega
 have h1:(Yl 64 16777215 &&& ~~~ Yl 64 (a:Int)).toNat=16777215 ^^^ a:=by
  refine Yja fun i=>?_
  rw [← Yba,BitVec.getLsbD_and,BitVec.getLsbD_not,Yib,Yba,Yba,h0];have h5:(Yl 64 16777215).toNat=16777215:=rfl;rw [h5]
  by_cases hi:i<24
  ·rw [Zhbb hi,Xa (by omega:i<64)]
   cases a.testBit i <;> rfl
  ·have q1:(16777215:Nat).testBit i=false:=Yaa (Y8 (by decide:16777215<2^24) (Y9 (by omega) (by omega)))
   have q2:a.testBit i=false:=Yaa (Y8 (show a<2^24 by simpa using ha) (Y9 (by omega) (by omega)));rw [q1,q2];simp
 have hlt:16777215 ^^^ a<2^24:=Yjb (by omega) (by simpa using ha)
 have hlt:16777215 ^^^ a<16777216:=by simpa using hlt
 unfold intBits
 show Ya .i64 (((Yl 64 16777215 &&& ~~~ Yl 64 (a:Int)).toNat:Nat):Int)=_
 rw [h1]
 exact w64 (by omega) (by omega)
theorem Zq9 (v w:Nat) (hv:v<16777216) (hw:w<16777216) {k:Nat} (hk:24<k):Z3l k (Zb v) (Zb w)=some (Zb (Zuc v w)):=by
 have ho:v ||| w<16777216:=by
  have:v ||| w<2^24:=Yma (by simpa using hv) (by simpa using hw);simpa using this
 unfold Z3l
 refine Za (Zko v hv k hk) (Za (Zko w hw k hk) ?_)
 rw [ori v w (by omega) (by omega),Z8eb _ ho]
 exact Za (Z4x _ (Zks hv hw) k hk) rfl
theorem Zpob (l:List Zbg) (x y:Zbg):(l++[x]).set l.length y=l++[y]:=by
 rw [List.set_append_right _ _ (Ye _),Yeb]
 rfl
theorem Zjab {acc:List Zbg} {e:Zbg} (h:acc.getLast? = some e):acc=acc.dropLast++[e]∧at? acc (((acc.length-1:Nat)):Int)=some e∧0<acc.length:=by
 have h1:acc=acc.dropLast++[e]:=by
  rw [List.getLast?_eq_some_iff] at h;obtain ⟨l,rfl⟩:=h;rw [List.dropLast_concat]
 have h2:0<acc.length:=by rw [h1];simp
 refine ⟨h1,?_,h2⟩
 rw [Zm (by omega)]
 rw [List.getLast?_eq_getElem?] at h
 rw [Yi (by omega)] at h
 exact h
theorem Z1eb {acc:List Zbg} {e:Zbg} (h:acc.getLast? = some e) (n:Int):Z2m acc n=if e.1+e.2=n then acc.set (acc.length-1) (e.1,e.2+1) else acc++[(n,1)]:=by
 have h1:=(Zjab h).1
 unfold Z2m
 rw [h]
 dsimp only
 split
 ·generalize acc.dropLast=d at h1
  subst h1;rw [Yf,Yfa,Nat.add_sub_cancel,Zpob]
 ·rfl
theorem Zwcb {v:Nat} {i:Nat} {e:Zbg} (h:e∈Zlc ((Zb v).take i)):0≤e.1∧1≤e.2∧e.1+e.2≤24:=by
 obtain ⟨h1,h2⟩:=Zycb _ e h
 have lim:∀x∈(Zb v).take i,0≤x∧x≤23:=fun x hx=>by
  obtain ⟨j,hj,rfl⟩:=Y0.1 (Y5a hx);exact Zrl hj
 have:=lim _ (h2 e.1 (Yv _) (by omega))
 have:=lim _ (h2 (e.1+e.2-1) (by omega) (by omega))
 omega
theorem Z4jb (v:Nat) {k:Nat} (hk:100<k):Zwe k (Zb v)=some (Zlc (Zb v)):=by
 have hlv:=Zbh v
 have run:=Zgc (fun j i=>Zwe.l0 j (Zb v) ((Zb v).length:Int) (i:Int) (Zlc ((Zb v).take i))) (Zb v).length (Zlc (Zb v)) (fun i hi j=>?_) (fun j=>?_) k (by omega)
 ·have run:Zwe.l0 k (Zb v) ((Zb v).length:Int) 0 []=some (Zlc (Zb v)):=run
  unfold Zwe;exact Za run rfl
 ·have hrl:=Z24 (Zb v) i
  have hx:=Zrl hi
  conv=>lhs;unfold Zwe.l0
  rw [dlt hi,Zv (by omega),Xe,Zzcb hi];refine Za (Zm hi) ?_;dsimp only;rw [w64 (n:=((Zlc ((Zb v).take i)).length:Int)-1) (by omega) (by omega)];cases hl:(Zlc ((Zb v).take i)).getLast? with
  | none=>
   have he:Zlc ((Zb v).take i)=[]:=List.getLast?_eq_none_iff.1 hl;rw [he];have ha:Zmb 16 ([]:List Zbg) [((Zb v)[i],1)]=some [((Zb v)[i],1)]:=Zsb (by simp only [Y6,Yfa];omega);exact Za ha rfl
  | some e=>
   obtain ⟨h1,h2,h3⟩:=Zjab hl;have hr:=Zwcb (v:=v) (i:=i) (e:=e) (Y4a hl)
   have hat:at? (Zlc ((Zb v).take i)) (((Zlc ((Zb v).take i)).length:Int)-1)=some e:=by
    have q:((Zlc ((Zb v).take i)).length:Int)-1=(((Zlc ((Zb v).take i)).length-1:Nat):Int):=by omega
    rw [q];exact h2
   rw [Xa (by omega:(0:Int)≤((Zlc ((Zb v).take i)).length:Int)-1),Xe];refine Za hat (Za hat (Za hat (Za hat ?_)));rw [w64 (n:=e.1+e.2) (by omega) (by omega),Z1eb hl]
   by_cases c:e.1+e.2=(Zb v)[i]
   ·rw [Xc c,show (e.1+e.2==(Zb v)[i])=true by simpa using c,Xe]
    refine Za hat (Za hat (Za hat (Za hat ?_)));rw [w64 (n:=e.2+1) (by omega) (by omega),show (((Zlc ((Zb v).take i)).length:Int)-1).toNat=(Zlc ((Zb v).take i)).length-1 by omega]
   ·rw [Xd c,show (e.1+e.2==(Zb v)[i])=false by simpa using c,Xf]
    exact Za (Zsb (by simp;omega)) rfl
 ·conv=>lhs;unfold Zwe.l0
  rw [Zib (Ye _),Yk];rfl
theorem Zmob (a:Int) (n:Nat):Zxj a (n+1)=Zxj a n++[a+(n:Int)]:=by
 unfold Zxj
 rw [List.range_succ,Yza]
 rfl
theorem Zidb (a:Int) (n:Nat):(Zxj a n).length=n:=by simp [Zxj]
theorem iSeq {a n:Nat} (h:a+n≤24) (z:Int) {k:Nat} (hk:60≤k):Z2b.l0 k (n:Int) 0 (a:Int) z []=some ((a:Int),z,Zxj (a:Int) n):=by
 have run:=Zgc (fun j i=>Z2b.l0 j (n:Int) (i:Int) (a:Int) z (Zxj (a:Int) i)) n ((a:Int),z,Zxj (a:Int) n) (fun i hi j=>?_) (fun j=>?_) k (by omega)
 ·exact run
 ·conv=>lhs;unfold Z2b.l0
  rw [dlt hi,w64 (n:=(a:Int)+(i:Int)) (by omega) (by omega),Zv (by omega),Xe];refine Za (Zsb (by rw [Zidb];simp;omega)) ?_;rw [Zmob]
 ·conv=>lhs;unfold Z2b.l0
  rw [Zib (Ye _)];rfl
theorem Zenb {v:Nat} {e:Zbg} (h:e∈Zlc (Zb v)):∃a c:Nat,e=((a:Int),(c:Int))∧1≤c∧a+c≤24:=by
 have:=Zwcb (v:=v) (i:=(Zb v).length) (e:=e) (by rw [Yk];exact h)
 exact ⟨e.1.toNat,e.2.toNat,Prod.ext (by show e.1=_;omega) (by show e.2=_;omega),by omega,by omega⟩
theorem Zjnb (v:Nat):(Zlc (Zb v)).length≤24:=by
 have:=Z24 (Zb v) (Zb v).length
 rw [Yk] at this
 have:=Zbh v
 omega
theorem Zlgb {α:Type} {l:List α} {n:Nat} (h:n≤l.length):Z9b l 0 (n:Int)=some (l.take n):=by
 have:=Zng (l:=l) (i:=0) (j:=n) (by omega) h
 rw [Yy] at this
 exact this
theorem Zx9 (v w n:Nat) (hv:v<16777216) (hw:w<16777216) (h1:1≤n) {k:Nat} (hk:200≤k):Z2b k (Zb v) (Zb w) (n:Int)=some (match Zoi (Zuc v w) (n:Int) with
  | some l=>(l,true)
  | none=>([],false)):=by
 have hz:Zsj (Zb (Zuc v w))=some ((Zb (Zuc v w)).length:Int):=rfl
 have hrl:=Zjnb (Zuc v w)
 unfold Z2b Zoi
 refine Za (Zq9 v w hv hw (by omega)) (Za hz ?_)
 by_cases c:((Zb (Zuc v w)).length:Int)<(n:Int)
 ·rw [Xa c,Xc c]
  rfl
 ·rw [Xb c,Xd c,Xf]
  refine Za (Z4jb _ (by omega)) ?_;have run:=Zki (fun j i=>Z2b.l1 k j (n:Int) ((Zlc (Zb (Zuc v w))).length:Int) i (Zlc (Zb (Zuc v w)))) (Zlc (Zb (Zuc v w))) (fun e=>decide ((n:Int)≤e.2)) (.inl ()) (fun i=>.inr (true,Zxj ((Zlc (Zb (Zuc v w))).getD i (0,0)).1 n)) (fun i hi=>⟨fun hp j=>?_,fun hp j=>?_⟩) (fun j=>?_) (k:=k) (by omega)
  ·have run:Z2b.l1 k k (n:Int) ((Zlc (Zb (Zuc v w))).length:Int) 0 (Zlc (Zb (Zuc v w)))=_:=run
   refine Za run ?_;cases Zab (fun (e:Zbg)=>decide ((n:Int)≤e.2)) (Zlc (Zb (Zuc v w))) 0 with
   | none=>exact Za (Zlgb (by omega)) rfl
   | some i=>rfl
  ·show Z2b.l1 k (j+1) (n:Int) _ (i:Int) _=Z2b.l1 k j (n:Int) _ ((i+1:Nat):Int) _
   conv=>lhs;unfold Z2b.l1
   rw [dlt hi,Zv (by omega),Xe];refine Za (Zm hi) (Za (Zm hi) ?_);rw [hp];rfl
  ·show Z2b.l1 k (j+1) (n:Int) _ (i:Int) _=_
   obtain ⟨a,q,he,q1,q2⟩:=Zenb (Yg hi)
   have hd:(Zlc (Zb (Zuc v w))).getD i (0,0)=((a:Int),(q:Int)):=by
    rw [Yn,Yi hi];exact he
   have hp':=of_decide_eq_true hp;rw [he] at hp';have hp':(n:Int)≤(q:Int):=hp'
   conv=>lhs;unfold Z2b.l1
   rw [dlt hi,Zv (by omega),Xe];refine Za (Zm hi) (Za (Zm hi) ?_);rw [hp,Xe,he,hd];exact Za (iSeq (by omega) _ (by omega)) rfl
  ·show Z2b.l1 k (j+1) (n:Int) _ _ _=_
   unfold Z2b.l1;rw [Zib (Ye _)];rfl
abbrev Zmg:=Int×Int×Int×Str×Zk
def Zlw (s:Zk):Bool:=decide (s.1=0)&&(decide (s.2.1=0)&&(decide (s.2.2.1=0)&&(s.2.2.2==[])))
def Zeg (c:Zmg):Bool:=if c.1=1 then (decide (1≤c.2.1)&&decide (c.2.1≤20))&&(decide (0≤c.2.2.1)&&decide (c.2.2.1≤4))&&decide ((c.2.2.2.1.length:Int)=32)&&Zlw c.2.2.2.2 else if c.1=2 then decide (c.2.1=0)&&decide (c.2.2.1=0)&&(c.2.2.2.1==[])&&Zxc c.2.2.2.2.1 c.2.2.2.2.2.1 c.2.2.2.2.2.2.1 c.2.2.2.2.2.2.2 8 else if c.1=9 then (decide (1≤c.2.1)&&decide (c.2.1≤24))&&decide (c.2.2.1=0)&&(c.2.2.2.1==[])&&Zlw c.2.2.2.2 else if c.1=7 then (decide (0≤c.2.1)&&decide (c.2.1≤1000000))&&decide (c.2.2.1=0)&&(c.2.2.2.1==[])&&Zlw c.2.2.2.2 else (decide (1≤c.1)&&decide (c.1≤11))&&decide (c.2.1=0)&&decide (c.2.2.1=0)&&(c.2.2.2.1==[])&&Zlw c.2.2.2.2
theorem Zp9 (c:Zmg):Z4l c=some (Zeg c):=by
 obtain ⟨o,a,b,t,s⟩:=c
 have hs:Ztc s 8=some (Zxc s.1 s.2.1 s.2.2.1 s.2.2.2 8):=Zcy s.1 s.2.1 s.2.2.1 s.2.2.2 8 (by decide) (by decide)
 unfold Z4l Zeg Zlw
 simp only [Zjb,Z2h,Yb,hs,Zqh]
 generalize (decide (s.1=0)&&(decide (s.2.1=0)&&(decide (s.2.2.1=0)&&(s.2.2.2==[]))))=Z
 generalize (t==([]:Str))=E
 generalize Zxc s.1 s.2.1 s.2.2.1 s.2.2.2 8=S
 by_cases c1:o=1
 ·subst c1;simp
 by_cases c2:o=2
 ·subst c2;simp
 by_cases c9:o=9
 ·subst c9;simp
 by_cases c7:o=7
 ·subst c7;simp
 simp [c1,c2,c9,c7]
abbrev Zjl:=List Z0b×Str×List Int×Int
def Zhg (c:Int):Zjl:=([],([],([],c)))
def Zoh (l:List Z0b):Zjl:=(l,([],([],0)))
theorem Zqeb (a b:Str):(Z6h a b).length=8:=by simp [Z6h,Znb]
theorem Zlmb {l:List Zk} {n:Int} (h:Zwb l n=0):∀x∈Zj l,x.1=2→x.2.2.2.length=8:=by
 intro x hx h2
 obtain ⟨_,h1,_,hs,_⟩:=Zue h
 unfold Zj at hx
 have hs:=hs x (Yha.1 hx).1
 unfold Zbe Zxc at hs
 rw [Xd (by omega),Xc h2] at hs
 simp only [Yc,decide_eq_true_eq] at hs
 omega
theorem Zflb {x:Zk} {n:Int} (h:WriteOk x n) (h2:x.1=2→x.2.2.2.length=8) {s:Str} (hs:s.length=8):(Zmi x s).length=8:=by
 unfold Zmi
 split
 ·rfl
 ·split
  ·rename_i q
   exact h2 q
  ·split
   ·exact hs
   ·have:x.2.2.2.length=8:=by rcases h.kind with q | q | q | q;omega;omega;omega;exact q.2
    unfold Z5h;rw [Xc ⟨hs,this⟩];exact Zqeb _ _
theorem Zefb {base:List Str} {l:List Zk} {n:Int} (hc:Zwb l n=0) (hb:(base.length:Int)=n) (hi:Zvb base=true):Zvb (Z8e base l)=true:=by
 obtain ⟨h1,h8,hs⟩:=Zig hi
 have hl:(Z8e base l).length=base.length:=Zqi _ _ _ _
 unfold Zvb
 rw [hl,Xa h1,Xa h8]
 show (true&&(Z8e base l).all Zdk)=true
 rw [Y4]
 refine List.all_eq_true.2 fun s hm=>?_
 obtain ⟨b,hb1,rfl⟩:=Y0.1 hm
 rw [hl] at hb1
 have hg:(base.getD b []).length=8:=hs _ (Z1q hb1)
 have:((Z8e base l)[b]'(by rw [hl];exact hb1)).length=8:=by
  unfold Z8e;rw [Zwn hb1];cases hf:(Zj l).find? (fun x=>x.2.1==(b:Int)) with
  | none=>exact hg
  | some x=>
   have hx:=Y3a hf;have hw:=Zdq hc x hx;have hsrc:=hw.src;exact Zflb hw (Zlmb hc x hx) (hs _ (Z1q (by omega)))
 unfold Zdk
 exact Xa this
def Z1j (m:Zn) (ph st dn:Int) (w:Nat):List Str:=if ph=4 then Z8e (Ztd m) (Zh m st w) else if ph=5 then Zst m st dn w else Ztd m
section
variable {m:Zn} {ph tr nd st dn:Int} {dg:Str} {v w:Nat}
theorem MSt.base8 (h:MSt m ph tr nd st dn dg v w):∀s∈Ztd m,s.length=8:=(Zig h.img).2.2
theorem MSt.base (h:MSt m ph tr nd st dn dg v w):((Ztd m).length:Int)=m.1:=by
 have:=h.fit.b
 rw [Zx6]
 omega
theorem Zspb (h:MSt m ph tr nd st dn dg v w):((Z1j m ph st dn w).length:Int)=m.1:=by
 have:=h.base
 unfold Z1j Z8e Zst
 split
 ·rw [Zqi];exact this
 ·split
  ·rw [Zqi];exact this
  ·exact this
theorem Z09 (hs:stM m=some (ph,(tr,(nd,(st,(dn,(dg,(v,w)))))))) (h:MSt m ph tr nd st dn dg v w):Zc fun k=>Zvd k m=some (Z1j m ph st dn w):=by
 have hf:=h.fit
 have hb:=hf.b
 have hn:=hf.n
 have hdr:=hf.dirt
 have hl:m.2.1.length≤1048576:=by omega
 have hfl:=(Zzq hf.f).1
 have pre:Zc fun k=>Zpf k m=some (Zzy (some (ph,tr,nd,st,dn,dg,v,w))):=by rw [← hs];exact Z2q m hl (by omega)
 have hll:=h.log
 have hplan:Zc fun k=>Zwb (Zh m st w) m.1=0→Zpb k (Zh m st w)=some (Zg (Zh m st w)):=if hc:Zwb (Zh m st w) m.1=0 then (Zos (Zh m st w) (Zue hc).1 (Zrh hc)).mono fun k e _=>e else Zc.of fun k q=>absurd q hc
 refine (((pre.and (Zyu ph tr nd st dn dg (Zb v) hf)).and hplan).and (Zc.ge 1048577 fun k hk=>hk)).mono fun k ⟨⟨⟨e1,e2⟩,e3⟩,hk⟩=>?_
 unfold Zvd Z1j
 refine Za e1 (Za (Z2x (m:=m) ⟨by omega,hb.2⟩ (by omega) (by omega) hk) (Za e2 ?_))
 show (bif ph==4 then _ else _)=_
 by_cases c4:ph=4
 ·have hS:=h.snd (by omega)
  rw [Xc c4,show (ph==4)=true by simpa using c4,Xe];exact Za (Zm9 hS.code h.base h.base8 (by omega)) rfl
 ·rw [Xd c4,show (ph==4)=false by simpa using c4,Xf]
  show (bif ph==5 then _ else _)=_
  by_cases c5:ph=5
  ·have hS:=h.snd (by omega)
   rw [Xc c5,show (ph==5)=true by simpa using c5,Xe];exact Za (e3 hS.code) (Za (Zey _ (by omega) k (by omega)) (Za (Zikb hS ph tr nd dg (Zb v) hk) rfl))
  ·rw [Xd c5,show (ph==5)=false by simpa using c5]
   rfl
theorem Zw9 (h:MSt m ph tr nd st dn dg v w) (h3:3≤ph):Zc fun k=>Zyk k m (ph,(tr,(nd,(st,(dn,(dg,(Zb v,Zb w)))))))=some (Zg (Zh m st w)):=by
 have hc:=(h.snd h3).code
 refine (((Zyu ph tr nd st dn dg (Zb v) h.fit).and (Zdy (Zh m st w) m.1 (by have:=Z82 m st w;omega))).and (Zos _ (Zue hc).1 (Zrh hc))).mono fun k ⟨⟨e1,e2⟩,e3⟩=>?_
 unfold Zyk
 refine Za e1 (Za e2 ?_)
 rw [hc]
 exact Za e3 rfl
end
def Zci (l:List Int):Nat:=orP (l.map Int.toNat)
theorem Z36 {u:Nat} (h:u<16777216):Zci (Zb u)=u:=by
 have e:(Zb u).map Int.toNat=Z1b u 24:=by
  unfold Zb;rw [Yga];exact Y0a _
 unfold Zci
 rw [e]
 refine Yja fun i=>?_
 rw [Zyy]
 by_cases hi:i<24
 ·cases hb:u.testBit i with
  | true=>exact Xa (by unfold Z1b;rw [Yha,Yia];exact ⟨hi,hb⟩)
  | false=>exact Xb fun q=>by rw [(Z0r q).2] at hb;cases hb
 ·rw [Yaa (Y8 (show u<2^24 by simpa using h) (Y9 (by omega) (by omega)))]
  exact Xb fun q=>hi (Z0r q).1
theorem Zy7 {v w:Nat} (h:v &&& w=0):∀n,n≤24→(Z1b v n).length+(Z1b w n).length+(Z1b (Zuc v w) n).length=n
 | 0,_=>by simp [Z1b]
 | n+1,hn=>by
  have ih:=Zy7 h n (by omega);have hb:(v &&& w).testBit n=false:=by rw [h];exact Ykb n
  rw [Ygb] at hb;rw [Zdu,Zdu,Zdu,Z88 (by omega)];cases h1:v.testBit n <;> cases h2:w.testBit n <;> simp only [h1,h2] at hb ⊢
  ·simp;omega
  ·simp;omega
  ·simp;omega
  ·cases hb
theorem Zj1 {v w:Nat} (h:v &&& w=0):(Zb v).length+(Zb w).length+(Zb (Zuc v w)).length=24:=by
 have:=Zy7 h 24 (Ye _)
 unfold Zb
 simp only [Yp]
 exact this
def Zwh (m:Zn) (l:List Int):List Z0b:=l.map fun x=>(false,(3+m.1+x,[]))
section
variable {m:Zn} {ph tr nd st dn:Int} {dg:Str} {v w:Nat}
theorem Zvpb {l:List Int} {i:Nat} (h:i<l.length):Zwh m (l.take (i+1))=Zwh m (l.take i)++[(false,(3+m.1+l[i],[]))]:=Z2db _ h
theorem Zmkb (h:Fit m st w) (l:List Int) (hl:l.length≤24) (hx:∀x∈l,0≤x∧x≤23) {k:Nat} (hk:100≤k):Zve.l0 k m.1 m.2.1 m.2.2 l (l.length:Int) 0 []=some (Zwh m l):=by
 have run:=Zgc (fun j i=>Zve.l0 j m.1 m.2.1 m.2.2 l (l.length:Int) (i:Int) (Zwh m (l.take i))) l.length (Zwh m l) (fun i hi j=>?_) (fun j=>?_) k (by omega)
 ·exact run
 ·have hr:=hx _ (Yg hi)
  conv=>lhs;unfold Zve.l0
  rw [dlt hi,Zv (by omega),Xe,Zvpb hi];exact Za (Zm hi) (Za (Z1x h hr.1 hr.2) (Za (Zsb (by simp [Zwh];omega)) rfl))
 ·conv=>lhs;unfold Zve.l0
  rw [Zib (Ye _),Yk];rfl
def Zlq (m:Zn) (ph:Int) (v:Nat) (a b:Int) (dg:Str):Zjl:=if ph=1 then (match Zoi (Zuc v 0) (a+b) with
 | some l=>Zoh ((Zwh m l++[Zp])++Zgb m.2 2 0 a b 0 dg v (Zci l))
 | none=>Zhg 11) else Zhg 10
theorem Zp4 {f:Nat} (hf:f<16777216) {n:Int} (h0:1≤n) {l:List Int} (h:Zoi f n=some l):∃u,u<16777216∧l=Zb u∧Zci l=u∧l.length≤24∧∀x∈l,0≤x∧x≤23:=by
 obtain ⟨⟨u,h1,h2,_⟩,_⟩:=Zo4 hf h0 h
 subst h2
 refine ⟨u,h1,rfl,Z36 h1,Zbh u,fun x hx=>?_⟩
 obtain ⟨j,hj,rfl⟩:=Y0.1 hx
 exact Zrl hj
theorem Z3ib (h:MSt m ph tr nd st dn dg v w) (c:Zmg) (ha:1≤c.2.1∧c.2.1≤20) (hb:0≤c.2.2.1∧c.2.2.1≤4) (hd:c.2.2.2.1.length≤32):Zc fun k=>Zve k m (ph,(tr,(nd,(st,(dn,(dg,(Zb v,Zb w))))))) c=some (Zlq m ph v c.2.1 c.2.2.1 c.2.2.2.1):=by
 unfold Zlq
 by_cases c1:ph=1
 ·obtain ⟨n,hn⟩:∃n:Nat,c.2.1+c.2.2.1=(n:Int):=⟨(c.2.1+c.2.2.1).toNat,by omega⟩
  have hfl:=Zks h.hv (by omega:0<16777216)
  have hr:∀k,200≤k→Z2b k (Zb v) [] (Ya .i64 (c.2.1+c.2.2.1))=some (match Zoi (Zuc v 0) (c.2.1+c.2.2.1) with
   | some l=>(l,true)
   | none=>([],false)):=fun k hk=>by
   have:=Zx9 v 0 n h.hv (by omega) (by omega) hk;rw [Zmq] at this;rw [hn,wn (by omega)];exact this
  rw [Xc c1];cases hres:Zoi (Zuc v 0) (c.2.1+c.2.2.1) with
  | none=>
   refine (Zc.ge 200 fun k hk=>hk).mono fun k hk=>?_
   have hr:=hr k hk;rw [hres] at hr;unfold Zve;show (bif ph != 1 then _ else _)=_;rw [show (ph != 1)=false by simpa using c1,Xf];exact Za hr rfl
  | some l=>
   obtain ⟨u,u1,u2,u3,u4,u5⟩:=Zp4 hfl (by omega) hres;dsimp only;rw [u3];refine ((Zpj (m:=m) h.fit.f h.two (a:=2) (b:=0) (c:=c.2.1) (d:=c.2.2.1) (e:=0) (x:=c.2.2.2.1) (v:=v) (w:=u) ⟨by omega,by omega,by omega,by omega,by omega,hd,h.hv,u1⟩).and (Zc.ge 200 fun k hk=>hk)).mono fun k ⟨e,hk⟩=>?_
   have hr:=hr k hk;rw [hres] at hr;rw [← u2] at e;have hkl:=Zts m.2 (Z6e (2,0,c.2.1,c.2.2.1,0,(v:Int),(u:Int),c.2.2.2.1));unfold Zve;show (bif ph != 1 then _ else _)=_;rw [show (ph != 1)=false by simpa using c1,Xf];refine Za hr ?_;rw [Ys,Xf];refine Za (Zmkb h.fit l u4 u5 (by omega)) (Za (Zsb (by simp [Zwh];omega)) (Za e (Za (Zsb (by unfold Zgb;simp [Zwh];omega)) ?_)));rfl
 ·refine Zc.of fun k=>?_
  unfold Zve;show (bif ph != 1 then _ else _)=_;rw [show (ph != 1)=true by simpa using c1,Xd c1];rfl
theorem Zdbb {x:Zk} (h:Zxc x.1 x.2.1 x.2.2.1 x.2.2.2 8=true):Zb0 x:=by
 unfold Zxc at h
 unfold Zb0 Num
 split at h
 ·simp only [Yc,decide_eq_true_eq] at h;omega
 ·split at h
  ·simp only [Yc,decide_eq_true_eq] at h;omega
  ·split at h
   ·simp only [Yc,decide_eq_true_eq] at h;omega
   ·split at h
    ·simp only [Yc,decide_eq_true_eq] at h;omega
    ·split at h
     ·simp only [Yc,decide_eq_true_eq] at h;omega
     ·cases h
def Zni (n:Int) (x:Zk):Str:=Zuf (Zl n++Zhl x)
theorem Z1jb (n:Int) (x:Zk) (h0:0≤n∧n≤1000000) (h:Zxc x.1 x.2.1 x.2.2.1 x.2.2.2 8=true):Zc fun k=>Zap k n x=some (Zni n x):=by
 have l0:=Zpe n
 have l1:=Zpe x.1
 have l2:=Zpe x.2.1
 have l3:=Zpe x.2.2.1
 have l4:=Zhm x.2.2.2
 have l5:=Z7v h
 have lX:(Zhl x).length≤60:=by unfold Zhl;simp only [Yf];omega
 refine (((Z9x n (by constructor <;> omega)).and (Zdkb x (Zdbb h) l5)).and (Zby (Zl n++Zhl x) (by simp;omega))).mono fun k ⟨⟨a,b⟩,c⟩=>?_
 unfold Zap
 exact Za a (Za b (Za (Zyf (by omega)) (Za c rfl)))
def Zpr (m:Zn) (ph nd st:Int) (w:Nat) (x:Zk):Zjl:=if ph=2 then (if ((Zh m st w).length:Int)=nd then Zhg 9 else if Zwb (Zh m st w++[x]) m.1=0 then Zoh ((false,(3+m.1+(Zb w).getD (st+((Zh m st w).length:Int)).toNat 0,Zni ((Zh m st w).length:Int) x))::(if x.1=5 then [Zp] else [])) else Zhg (Zwb (Zh m st w++[x]) m.1)) else Zhg 10
theorem Zbkb (h:MSt m ph tr nd st dn dg v w) (x:Zk) (hx:Zxc x.1 x.2.1 x.2.2.1 x.2.2.2 8=true):Zc fun k=>Zto k m (ph,(tr,(nd,(st,(dn,(dg,(Zb v,Zb w))))))) (Zh m st w) x=some (Zpr m ph nd st w x):=by
 have hll:=h.log
 have hlw:=Zbh w
 refine (((Zdy (Zh m st w++[x]) m.1 (by simp;omega)).and (Z1jb ((Zh m st w).length:Int) x (by omega) hx)).and (Zc.ge 100 fun k hk=>hk)).mono fun k ⟨⟨e1,e2⟩,hk⟩=>?_
 have hz:Zbk (Zh m st w)=some ((Zh m st w).length:Int):=rfl
 unfold Zto Zpr
 show (bif ph != 2 then _ else _)=_
 by_cases c2:ph=2
 ·rw [Xc c2,show (ph != 2)=false by simpa using c2,Xf]
  obtain ⟨q1,q2,q3,q4,q5,q6,q7,q8⟩:=h.busy (by omega);refine Za hz ?_;show (bif ((Zh m st w).length:Int)==nd then _ else _)=_
  by_cases cn:((Zh m st w).length:Int)=nd
  ·rw [Xc cn,show (((Zh m st w).length:Int)==nd)=true by simpa using cn]
   rfl
  ·rw [Xd cn,show (((Zh m st w).length:Int)==nd)=false by simpa using cn,Xf]
   refine Za (Zsb (by simp;omega)) (Za e1 ?_)
   by_cases cc:Zwb (Zh m st w++[x]) m.1=0
   ·rw [Xc cc,show (Zwb (Zh m st w++[x]) m.1 != 0)=false by simpa using cc,Xf]
    obtain ⟨a1,a2,a3⟩:=Zyw (w:=w) (n:=st+((Zh m st w).length:Int)) (by omega) (by omega);show Y2 (at? (Zb w) (Ya .i64 (st+((Zh m st w).length:Int)))) _=_;rw [w64 (n:=st+((Zh m st w).length:Int)) (by omega) (by omega)];refine Za a1 (Za (Z1x h.fit a2 a3) (Za e2 ?_));show (bif x.1==5 then _ else _)=_
    by_cases c5:x.1=5
    ·rw [Xc c5,show (x.1==5)=true by simpa using c5,Xe]
     exact Za (Zsb (by simp)) rfl
    ·rw [Xd c5,show (x.1==5)=false by simpa using c5]
     rfl
   ·rw [Xd cc,show (Zwb (Zh m st w++[x]) m.1 != 0)=true by simpa using cc]
    rfl
 ·rw [Xd c2,show (ph != 2)=true by simpa using c2]
  rfl
end
end Go.Proofs.Qz
