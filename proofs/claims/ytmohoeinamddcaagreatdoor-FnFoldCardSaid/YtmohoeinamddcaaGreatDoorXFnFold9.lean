/- What the law FnFold needs, part 10 of 15: the Lean functions of the Go functions that it reaches, with the proofs that the calls come to what they say, and plain facts about them. Conditions: those that each theorem states. Written by a session and by its programs (after the kit's printer). -/
import Derived.Laws.BitsLemmas
import Derived.Test.YtmohoeinamddcaaGreatDoorXFnFold8
open Option renaming bind_some → Ya, some → Yza, isSome_some → Yub
open Go.IntKind renaming wrap → Yb, bits → Yca, signed → Yla
open Nat renaming le_refl → Yc, zero_add → Yi, mod_eq_of_lt → Yk, not_lt_zero → Ys, lt_or_ge → Yu, pow_succ → Y0, mul_comm → Y8, xor_assoc → Yha, zero_le → Yia, add_assoc → Yva, add_comm → Ywa, mul_le_mul_right → Yxa, xor_comm → Yya, and_one_is_mod → Ylb, div_lt_of_lt_mul → Ymb, le_trans → Ynb, min_eq_left → Yob, mul_assoc → Ypb, pow_le_pow_right → Yqb, pow_zero → Yrb, xor_lt_two_pow → Ysb, xor_zero → Ytb
open List renaming replicate → Yd, range → Yf, getElem_mem → Yh, append_assoc → Yn, length_append → Yo, length_take → Yp, mem_cons_self → Yq, mem_singleton → Yr, take_length → Yt, append_nil → Yw, length_cons → Yx, length_filter_le → Yy, nodup_nil → Yz, drop_eq_getElem_cons → Y3, filter_append → Y4, length_replicate → Y5, nodup_append → Y6, nodup_cons → Y7, drop_zero → Yda, length_erase_of_mem → Yea, length_set → Yfa, mem_append → Yga, drop_drop → Yma, drop_eq_nil_of_le → Yna, find? → Yoa, getElem?_eq_getElem → Ypa, getElem_replicate → Yqa, length_drop → Yra, mem_filter → Ysa, mem_range → Yta, take → Yua, any_eq_true → Y5a, drop_length → Y6a, eq_nil_of_length_eq_zero → Y7a, filter_eq_self → Y8a, find?_eq_none → Y9a, getElem_of_mem → Yab, getElem_range → Ybb, getElem_set → Ycb, getElem_take → Ydb, length → Yeb, length_range → Yfb, mem_append_right → Ygb, mem_map → Yhb, mem_of_mem_erase → Yib, not_all_eq_any_not → Yjb, take_append_drop → Ykb
open Int renaming toNat_natCast → Ye, tmod_eq_emod_of_nonneg → Yka, eq_ofNat_of_zero_le → Y3a, tdiv_eq_ediv_of_nonneg → Y4a
open Bool renaming and_eq_true → Yg, not_true → Yv, and_false → Y1, false_eq_true → Y2, and_self → Y9, eq_false_iff → Yaa, eq_iff_iff → Yba, true_and → Yja, or_eq_true → Y1a, or_false → Y2a
open BitVec renaming ofInt → Yj, ofInt_natCast → Yl, toNat_ofNat → Ym, toNat_and → Y0a
namespace Go.Proofs.Qz
open Go
set_option linter.unusedVariables false
theorem u8w (n:Int):Yb .u8 n=n%256:=by simp [Yb,Yca,Yla]
theorem Zsr (n:Int):Yb .u32 n=n%4294967296:=by simp [Yb,Yca,Yla]
theorem Z9f (n:Int):Yb .u64 n=n%18446744073709551616:=by simp [Yb,Yca,Yla]
theorem Z7n (a b:Nat) (ha:a<4294967296) (hb:b<4294967296):intBits .xor .u32 (a:Int) (b:Int)=((a ^^^ b:Nat):Int):=by
 have hx:a ^^^ b<2^32:=Ysb (by omega) (by omega)
 show Yb .u32 (((Yj 32 (a:Int)) ^^^ (Yj 32 (b:Int))).toNat:Int)=_
 rw [Yl,Yl,BitVec.toNat_xor,Ym,Ym,Zsr,Yk (show a<2^32 by omega),Yk (show b<2^32 by omega)]
 omega
theorem Zw6 (a:Nat) (ha:a<4294967296):intBits .and .u32 (a:Int) 1=((a%2:Nat):Int):=by
 have h:a &&& 1=a%2:=Ylb a
 show Yb .u32 (((Yj 32 (a:Int)) &&& (Yj 32 ((1:Nat):Int))).toNat:Int)=_
 rw [Yl,Yl,Y0a,Ym,Ym,Zsr,Yk (show a<2^32 by omega),Yk (show 1<2^32 by omega),h]
 omega
theorem Zkfb (a:Nat) (ha:a<18446744073709551616):intBits .and .u64 (a:Int) 1=((a%2:Nat):Int):=by
 have h:a &&& 1=a%2:=Ylb a
 show Yb .u64 (((Yj 64 (a:Int)) &&& (Yj 64 ((1:Nat):Int))).toNat:Int)=_
 rw [Yl,Yl,Y0a,Ym,Ym,Z9f,Yk (show a<2^64 by omega),Yk (show 1<2^64 by omega),h]
 omega
theorem Zufb (a b:Nat) (ha:a<18446744073709551616) (hb:b<18446744073709551616):intBits .or .u64 (a:Int) (b:Int)=((a ||| b:Nat):Int):=by
 show Yb .u64 (((Yj 64 (a:Int)) ||| (Yj 64 (b:Int))).toNat:Int)=_
 have hx:a ||| b<2^64:=Nat.or_lt_two_pow (by omega) (by omega)
 rw [Yl,Yl,BitVec.toNat_or,Ym,Ym,Z9f,Yk (show a<2^64 by omega),Yk (show b<2^64 by omega)]
 omega
theorem Z7eb:∀a:Nat,a<256→intBits .and .u8 ((a:Nat):Int) 127=((a%128:Nat):Int):=by decide +kernel
theorem Z1lb (a:Nat) (h:a<9223372036854775808):intBits .xor .i64 (-1) (a:Int) = -(a:Int)-1:=by
 show Yb .i64 (((Yj 64 (-1)) ^^^ (Yj 64 (a:Int))).toNat:Int)=_
 have e:(Yj 64 (-1))=BitVec.allOnes 64:=by decide
 rw [Yl,e,BitVec.allOnes_xor,BitVec.toNat_not,Ym,IntKind.wrap_i64,Yk (show a<2^64 by omega)]
 omega
theorem Z3h (k:IntKind) (r m:Nat) (h:m≤k.bits):shr k (r:Int) (m:Int)=((r/2^m:Nat):Int):=by
 unfold shr
 rw [Ye,Yob h,Int.fdiv_eq_ediv_of_nonneg _ (by exact Int.le_of_lt (Int.pow_pos (by omega)))]
 push_cast
 rfl
theorem Z9n (c:UInt8):c.toNat<256:=c.toNat_lt
theorem Z1fb (c:UInt8):UInt8.ofNat ((c.toNat:Nat):Int).toNat=c:=by simp
def Z7j (r:Nat):Nat:=if r%2=1 then (r/2) ^^^ 3988292384 else r/2
def Zsq:Nat→Nat→Nat
 | 0,r=>r
 | n+1,r=>Zsq n (Z7j r)
def Ztq:Str→Nat→Nat
 | [],r=>r
 | c::l,r=>Ztq l (Zsq 8 (r ^^^ c.toNat))
def Zud (c:Nat) (s:Str):Nat:=(Ztq s (c ^^^ 4294967295)) ^^^ 4294967295
theorem x32 {a b:Nat} (ha:a<4294967296) (hb:b<4294967296):a ^^^ b<4294967296:=Ysb (n:=32) ha hb
theorem Ziu {r:Nat} (h:r<4294967296):Z7j r<4294967296:=by
 unfold Z7j
 split
 ·exact x32 (by omega) (by omega)
 ·omega
theorem Zgx:∀(n:Nat) {r:Nat},r<4294967296→Zsq n r<4294967296
 | 0,_,h=>h
 | n+1,_,h=>Zgx n (Ziu h)
theorem Zl1:∀(l:Str) {r:Nat},r<4294967296→Ztq l r<4294967296
 | [],_,h=>h
 | c::l,r,h=>Zl1 l (Zgx 8 (x32 h (by have:=Z9n c;omega)))
def Znj (n:Nat):Str:=Znb [((n%256:Nat):Int),((n/256%256:Nat):Int),((n/65536%256:Nat):Int),((n/16777216%256:Nat):Int)]
def Zuf (s:Str):Str:=s++Znj (Zud 0 s)
theorem Z8m (n:Nat):(Znj n).length=4:=rfl
theorem Z0v (s:Str):(Zuf s).length=s.length+4:=by unfold Zuf;rw [Yo,Z8m]
def Zt (s:Str):Str:=s.take (s.length-4)
theorem Z2r (s:Str):(Zt s).length=s.length-4:=by unfold Zt;simp
theorem Zlob {a b:Str}:Zuf a=Zuf b ↔ a=b:=by
 constructor
 ·intro h
  exact List.append_inj_left' h (by rw [Z8m,Z8m])
 ·rintro rfl;rfl
theorem Z1db (s:Str):(Znj (Zud 0 (Zt s))=s.drop (s.length-4)) ↔ Zuf (Zt s)=s:=by
 have e:s=Zt s++s.drop (s.length-4):=(Ykb _ _).symm
 unfold Zuf
 constructor
 ·intro h;rw [h];exact e.symm
 ·intro h
  exact List.append_cancel_left (h.trans e)
theorem Z3w (s:Str):Zt (Zuf s)=s:=by
 unfold Zt
 rw [Z0v,Nat.add_sub_cancel]
 unfold Zuf
 simp
def Zcd (s:Str):Str×Int:=if s.length<4 then ([],4) else if Zuf (Zt s)=s then (Zt s,0) else ([],5)
theorem Zrt {s:Str} (h:(Zcd s).2=0):Zcd s=(Zt s,0)∧Zuf (Zt s)=s∧4≤s.length:=by
 unfold Zcd at h ⊢
 by_cases h4:s.length<4
 ·rw [Xc h4] at h;simp at h
 ·rw [Xd h4] at h ⊢
  by_cases he:Zuf (Zt s)=s
  ·rw [Xc he];exact ⟨rfl,he,by omega⟩
  ·rw [Xd he] at h;simp at h
theorem Zmpb (s:Str):(Zcd s).1.length≤s.length:=by
 unfold Zcd
 split
 ·simp
 ·split
  ·rw [Z2r];omega
  ·simp
theorem Zs5 (s:Str):Zcd (Zuf s)=(s,0):=by
 unfold Zcd
 rw [Z3w,Xd (by rw [Z0v];omega),Xc rfl]
def zig (n:Int):Nat:=if n<0 then (-2*n-1).toNat else (2*n).toNat
def Zpc:Nat→Nat→List Int
 | 0,_=>[]
 | f+1,u=>if 128≤u then ((u%128+128:Nat):Int)::Zpc f (u/128) else [(u:Int)]
def Zl (n:Int):Str:=Znb (Zpc 10 (zig n))
def Num (n:Int):Prop:=-9223372036854775808≤n∧n<9223372036854775808
theorem Z15 {n:Int} (h:Num n):zig n<18446744073709551616:=by unfold Num at h;unfold zig;split <;> omega
theorem Zh9:∀(f u:Nat),(Zpc f u).length≤f
 | 0,_=>by simp [Zpc]
 | f+1,u=>by
  unfold Zpc;split
  ·simp only [Yx];have:=Zh9 f (u/128);omega
  ·simp
theorem Zhh (l:List Int):(Znb l).length=l.length:=by simp [Znb]
theorem Zpe (n:Int):(Zl n).length≤10:=by
 unfold Zl
 rw [Zhh]
 exact Zh9 10 _
theorem Zkmb (n:Int):1≤(Zl n).length:=by
 unfold Zl
 rw [Zhh]
 unfold Zpc
 split <;> simp
def Z4 (s:Str):Str:=Zl (s.length:Int)++s
theorem Zhm (s:Str):(Z4 s).length≤10+s.length:=by
 unfold Z4
 have:=Zpe (s.length:Int)
 rw [Yo]
 omega
def unz (u:Nat):Int:=if u%2=1 then -((u/2:Nat):Int)-1 else ((u/2:Nat):Int)
def gn:Nat→Nat→Nat→Str→Int×Nat×Int
 | 0,_,_,_=>(0,0,3)
 | _+1,_,_,[]=>(0,0,4)
 | f+1,i,u,b::l=>if i=9∧1<b.toNat then (0,0,3) else if 128≤b.toNat then gn f (i+1) (u+b.toNat%128*128^i) l else if b.toNat=0∧0<i then (0,0,3) else (unz (u+b.toNat%128*128^i),i+1,0)
def fin (a:Nat) (r:Int×Nat×Int):Int×Int×Int:=if r.2.2=0 then (r.1,((a+r.2.1:Nat):Int),0) else (0,0,r.2.2)
def Z8c (s:Str) (a:Nat):Int×Int×Int:=fin a (gn 10 0 0 (s.drop a))
theorem Zd4 (i:Nat):(2:Nat)^(7*i)=128^i:=by rw [Nat.pow_mul]
theorem Zwz {i u b:Nat} (_:i≤8) (hu:u<128^i):u+b%128*128^i<128^(i+1):=by
 have h1:b%128≤127:=by omega
 have h2:b%128*128^i≤127*128^i:=Yxa _ h1
 rw [Y0]
 omega
theorem Zvbb {i:Nat} (hi:i≤9):128^i≤9223372036854775808:=by
 have:128^i≤128^9:=Yqb (by omega) hi
 simpa using this
theorem Z5db {i b:Nat} (hi:i≤9) (h9:i=9→b≤1):b%128*128^i<18446744073709551616:=by
 by_cases h:i=9
 ·have:=h9 h
  subst h;have:b%128≤1:=by omega
  have:=Yxa (128^9) this;simp at this ⊢;omega
 ·have h1:128^i≤128^8:=Yqb (by omega) (by omega)
  have h2:b%128≤127:=by omega
  have:=Nat.mul_le_mul h2 h1;simp at this;omega
theorem Zl5 {i u b:Nat} (hi:i≤9) (hu:u<128^i) (h9:i=9→b≤1):u+b%128*128^i<18446744073709551616:=by
 by_cases h:i=9
 ·have:=h9 h
  subst h;have h1:b%128≤1:=by omega
  have:=Yxa (128^9) h1;simp at this hu ⊢;omega
 ·have h1:=Zwz (b:=b) (show i≤8 by omega) hu
  have h2:=Zvbb (show i+1≤9 by omega);omega
theorem Zmdb {i b:Nat} (hi:i≤9) (h9:i=9→b≤1):shl .u64 ((b%128:Nat):Int) ((7*i:Nat):Int)=((b%128*128^i:Nat):Int):=by
 unfold shl
 rw [Ye,Yob (by simp [Yca];omega),Z9f]
 have e:((b%128:Nat):Int)*2^(7*i)=((b%128*128^i:Nat):Int):=by rw [← Zd4];push_cast;rfl
 rw [e]
 have:=Z5db hi h9
 omega
theorem Z9lb {i u b:Nat} (hu:u<128^i):u ||| (b%128*128^i)=u+b%128*128^i:=by
 have h:=@Nat.shiftLeft_add_eq_or_of_lt (7*i) u (by rw [Zd4];exact hu) (b%128)
 rw [Nat.shiftLeft_eq,Zd4] at h
 rw [Nat.or_comm,← h,Ywa]
theorem Zzpb (v:Nat):zig (unz v)=v:=by
 unfold unz
 split
 ·unfold zig;split <;> omega
 ·unfold zig;split <;> omega
theorem Zopb (n:Int):unz (zig n)=n:=by
 unfold zig
 split
 ·unfold unz;split <;> omega
 ·unfold unz;split <;> omega
theorem Znpb {v:Nat} (h:v<18446744073709551616):Num (unz v):=by
 unfold Num unz
 split <;> omega
theorem Zb9:∀(f i u:Nat) (l:Str),i+f=10→i≤9→u<128^i→(gn f i u l).2.2=0 →
  ∃v,gn f i u l=(unz (u+v*128^i),i+(Zpc f v).length,0)∧l=Znb (Zpc f v)++l.drop (Zpc f v).length∧u+v*128^i<18446744073709551616∧(0<i→v≠0)
 | 0,i,u,l,hf,h9,_,_=>by omega
 | f+1,i,u,[],hf,h9,hu,h0=>by simp [gn] at h0
 | f+1,i,u,c::l,hf,hi9,hu,h0=>by
  have hb:=Z9n c;have hbc:=Z1fb c;simp only [gn] at h0 ⊢;generalize hcb:c.toNat=b at h0 hb hbc ⊢
  by_cases h9:i=9∧1<b
  ·rw [Xc h9] at h0;simp at h0
  rw [Xd h9] at h0 ⊢
  have hb9:i=9→b≤1:=fun h=>by
   rcases Yu 1 b with h1 | h1
   ·exact absurd ⟨h,h1⟩ h9
   ·exact h1
  by_cases h128:128≤b
  ·have hi8:i≤8:=by
    by_cases h:i=9
    ·have:=hb9 h;omega
    ·omega
   rw [Xc h128] at h0 ⊢;obtain ⟨v,e1,e2,e3,e4⟩:=Zb9 f (i+1) (u+b%128*128^i) l (by omega) (by omega) (Zwz hi8 hu) h0;have hv:=e4 (by omega)
   have hs:u+b%128*128^i+v*128^(i+1)=u+(b%128+128*v)*128^i:=by
    rw [Y0,Nat.add_mul,Y8 (128^i) 128,← Ypb,Y8 v 128,Yva]
   have hg:Zpc (f+1) (b%128+128*v)=(b:Int)::Zpc f v:=by
    have h1:128≤b%128+128*v:=by omega
    have h2:(b%128+128*v)/128=v:=by omega
    have h3:(b%128+128*v)%128+128=b:=by omega
    simp only [Zpc,Xc h1,h2,h3]
   refine ⟨b%128+128*v,?_,?_,?_,?_⟩
   ·rw [e1,hs,hg,Yx,Yva,Ywa 1]
   ·rw [hg]
    show c::l=UInt8.ofNat ((b:Nat):Int).toNat::(Znb (Zpc f v)++l.drop (Zpc f v).length);rw [hbc,← e2]
   ·rw [← hs];exact e3
   ·intro _;omega
  ·rw [Xd h128] at h0 ⊢
   by_cases hz:b=0∧0<i
   ·rw [Xc hz] at h0;simp at h0
   rw [Xd hz] at h0 ⊢;have hm:b%128=b:=by omega
   have hsl:=Zl5 (b:=b) hi9 hu hb9;rw [hm] at hsl ⊢;have hg:Zpc (f+1) b=[(b:Int)]:=by simp only [Zpc,Xd h128]
   refine ⟨b,?_,?_,hsl,?_⟩
   ·rw [hg];rfl
   ·rw [hg]
    show c::l=UInt8.ofNat ((b:Nat):Int).toNat::l;rw [hbc]
   ·intro hi hb0;exact hz ⟨hb0,hi⟩
structure Got (s:Str) (a:Nat) (n:Int) (a':Nat):Prop where
 at':a'=a+(Zl n).length
 le:a'≤s.length
 eq:s.drop a=Zl n++s.drop a'
 range:Num n
theorem Z9k (s:Str) (a:Nat):(∃(n:Int) (a':Nat),Z8c s a=(n,(a':Int),0)∧Got s a n a')∨∃c,c≠0∧Z8c s a=(0,0,c):=by
 unfold Z8c fin
 by_cases h:(gn 10 0 0 (s.drop a)).2.2=0
 ·left
  obtain ⟨v,e1,e2,e3,_⟩:=Zb9 10 0 0 (s.drop a) (by omega) (by omega) (by omega) h;simp only [Yrb,Nat.mul_one,Yi] at e1 e3;have hB:Zl (unz v)=Znb (Zpc 10 v):=by unfold Zl;rw [Zzpb]
  have hsz:(Zl (unz v)).length=(Zpc 10 v).length:=by rw [hB,Zhh]
  refine ⟨unz v,a+(Zl (unz v)).length,?_,rfl,?_,?_,Znpb e3⟩
  ·rw [e1,hsz]
   rfl
  ·have:=congrArg Yeb e2
   simp only [Yo,Zhh,Yra] at this;have hp:0<(Zpc 10 v).length:=by unfold Zpc;split <;> simp
   omega
  ·rw [hsz,← Yma,hB]
   exact e2
 ·right
  exact ⟨_,h,by rw [Xd h]⟩
theorem Zc9:∀(f i u v:Nat) (l:Str),i+f=10→i≤9→v<128^f→u+v*128^i<18446744073709551616→(0<i→v≠0)→gn f i u (Znb (Zpc f v)++l)=(unz (u+v*128^i),i+(Zpc f v).length,0)
 | 0,i,u,v,l,hf,h9,_,_,_=>by omega
 | f+1,i,u,v,l,hf,hi9,hv,hb,hz=>by
  have h9':i=9→v≤1:=fun h=>by subst h;simp at hb;omega
  by_cases h128:128≤v
  ·have hi8:i≤8:=by
    by_cases h:i=9
    ·have:=h9' h;omega
    ·omega
   have hg:Zpc (f+1) v=((v%128+128:Nat):Int)::Zpc f (v/128):=by simp only [Zpc,Xc h128]
   have ht:(UInt8.ofNat (((v%128+128:Nat):Int)).toNat).toNat=v%128+128:=by
    rw [Ye,UInt8.toNat_ofNat'];omega
   rw [hg];show gn (f+1) i u (UInt8.ofNat (((v%128+128:Nat):Int)).toNat::(Znb (Zpc f (v/128))++l))=_;simp only [gn];rw [ht,Xd (by omega),Xc (by omega)]
   have hs:u+(v%128+128)%128*128^i+v/128*128^(i+1)=u+v*128^i:=by
    have e:(v%128+128)%128=v%128:=by omega
    have e2:v%128*128^i+v/128*(128*128^i)=v*128^i:=by
     rw [← Ypb,← Nat.add_mul];congr 1;omega
    rw [e,Y0,Y8 (128^i) 128,Yva,e2]
   rw [Zc9 f (i+1) _ (v/128) l (by omega) (by omega) (by rw [Y0] at hv;exact Ymb (by rw [Y8];exact hv)) (by rw [hs];exact hb) (fun _=>by omega),hs];simp only [Yx,Prod.mk.injEq,and_true,true_and];omega
  ·have hg:Zpc (f+1) v=[(v:Int)]:=by simp only [Zpc,Xd h128]
   have ht:(UInt8.ofNat ((v:Int)).toNat).toNat=v:=by
    rw [Ye,UInt8.toNat_ofNat'];omega
   rw [hg];show gn (f+1) i u (UInt8.ofNat ((v:Int)).toNat::l)=_;simp only [gn];rw [ht,Xd (fun q=>by have:=h9' q.1;omega),Xd h128,Xd (fun q=>hz q.2 q.1),Yk (by omega)];rfl
theorem Zjo (n:Int) (h:Num n) (s:Str) (a:Nat) (t:Str) (hs:s.drop a=Zl n++t):Z8c s a=(n,((a+(Zl n).length:Nat):Int),0):=by
 unfold Z8c
 have hz:=Z15 h
 rw [hs]
 unfold Zl
 rw [Zc9 10 0 0 (zig n) t rfl (by omega) (by omega) (by omega) (fun q=>absurd q (by omega))]
 simp only [Yrb,Nat.mul_one,Yi,Zopb,Zhh]
 rfl
def Zeh (s:Str) (a:Nat):Str×Int×Int:=if (Z8c s a).2.2=0 then if 0≤(Z8c s a).1∧(Z8c s a).1≤8000 then if (Z8c s a).1 > (s.length:Int)-(Z8c s a).2.1 then ([],0,4) else ((s.take ((Z8c s a).2.1+(Z8c s a).1).toNat).drop (Z8c s a).2.1.toNat,(Z8c s a).2.1+(Z8c s a).1,0) else ([],0,3) else ([],0,(Z8c s a).2.2)
structure GotT (s:Str) (a:Nat) (t:Str) (a':Nat):Prop where
 at':a'=a+(Z4 t).length
 le:a'≤s.length
 eq:s.drop a=Z4 t++s.drop a'
 size:t.length≤8000
theorem Zaq (s:Str) (a:Nat):(∃t a',Zeh s a=(t,((a':Nat):Int),0)∧GotT s a t a')∨∃c,c≠0∧Zeh s a=([],0,c):=by
 unfold Zeh
 rcases Z9k s a with ⟨n,a',e,g⟩ | ⟨c,hc,e⟩
 ·rw [e]
  simp only [if_true]
  by_cases hn:0≤n∧n≤8000
  ·rw [Xc hn]
   have hle:=g.le
   by_cases hs:n > (s.length:Int)-(a':Int)
   ·rw [Xc hs]
    exact .inr ⟨4,by omega,rfl⟩
   ·rw [Xd hs]
    obtain ⟨m,rfl⟩:∃m:Nat,n=(m:Int):=⟨n.toNat,by omega⟩;have e1:((a':Int)+(m:Int)).toNat=a'+m:=by omega
    rw [e1,Ye]
    have hB:(s.take (a'+m)).drop a'=(s.drop a').take m:=by
     rw [List.drop_take,Nat.add_sub_cancel_left]
    have hsz:((s.take (a'+m)).drop a').length=m:=by
     rw [hB,Yp,Yra];omega
    refine .inl ⟨_,a'+m,by push_cast;rfl,?_,?_,?_,?_⟩
    ·unfold Z4
     rw [Yo,hsz];have:=g.at';omega
    ·omega
    ·unfold Z4
     rw [hsz,hB,g.eq,Yn,← Yma,Ykb]
    ·rw [hsz];omega
  ·rw [Xd hn]
   exact .inr ⟨3,by omega,rfl⟩
 ·rw [e]
  simp only;rw [Xd hc];exact .inr ⟨c,hc,rfl⟩
def Zkc (s:Str) (a:Nat):Int×Str×Int×Bool:=if (Z8c s a).2.2=0 then ((Z8c s a).1,s,(Z8c s a).2.1,false) else (0,s,(a:Int),true)
theorem Z13 (s:Str) (a:Nat):(∃n a',Zkc s a=(n,s,((a':Nat):Int),false)∧Got s a n a')∨Zkc s a=(0,s,(a:Int),true):=by
 unfold Zkc
 rcases Z9k s a with ⟨n,a',e,g⟩ | ⟨c,hc,e⟩
 ·left;exact ⟨n,a',by rw [e];rfl,g⟩
 ·right;rw [e,Xd hc]
def Zkg (s:Str) (a:Nat):Str×Str×Int×Bool:=if (Zeh s a).2.2=0 then ((Zeh s a).1,s,(Zeh s a).2.1,false) else ([],s,(a:Int),true)
theorem Zfpb (s:Str) (a:Nat):(∃t a',Zkg s a=(t,s,((a':Nat):Int),false)∧GotT s a t a')∨Zkg s a=([],s,(a:Int),true):=by
 unfold Zkg
 rcases Zaq s a with ⟨n,a',e,g⟩ | ⟨c,hc,e⟩
 ·left;exact ⟨n,a',by rw [e];rfl,g⟩
 ·right;rw [e,Xd hc]
theorem Zqh (a b:Int):(a==b)=decide (a=b):=by rw [Yba];simp
theorem Zi9 (r:Nat):shr .u32 (r:Int) 1=((r/2:Nat):Int):=Z3h .u32 r 1 (by decide)
theorem sl0:∀(n r j:Nat),n≤8→r<4294967296→n<j→Z7b.l0 j (r:Int) ((8-n:Nat):Int)=some ((Zsq n r:Nat):Int)
 | n,r,0,_,_,h=>absurd h (Ys n)
 | 0,r,j+1,_,_,_=>by
  unfold Z7b.l0;rfl
 | n+1,r,j+1,hn,hr,hj=>by
  have e:Yb .i64 (((8-(n+1):Nat):Int)+1)=((8-n:Nat):Int):=by rw [w64] <;> omega
  unfold Z7b.l0;rw [Xa (by omega:(((8-(n+1):Nat):Int))<8),Zw6 _ hr,Zi9,e,Z3b (by omega),Zqh];simp only [Xe,Ya]
  by_cases hp:r%2=1
  ·rw [Xa (by omega:((r%2:Nat):Int)=1),show (3988292384:Int)=((3988292384:Nat):Int) from rfl,Z7n _ _ (by omega) (by omega)]
   have e2:Z7j r=r/2 ^^^ 3988292384:=by unfold Z7j;rw [Xc hp]
   rw [Xe,← e2];exact sl0 n (Z7j r) j (by omega) (Ziu hr) (by omega)
  ·rw [Xb (by omega:¬(((r%2:Nat):Int)=1))]
   have e2:Z7j r=r/2:=by unfold Z7j;rw [Xd hp]
   rw [Xf,← e2];exact sl0 n (Z7j r) j (by omega) (Ziu hr) (by omega)
theorem sl1 (x:Str) (hx:x.length≤140737488351232) (k:Nat) (hk:9≤k):∀(d i r j:Nat),x.length-i=d→i≤x.length→r<4294967296→d<j→Z7b.l1 k j x (r:Int) (i:Int)=some ((Ztq (x.drop i) r:Nat):Int)
 | d,i,r,0,_,_,_,h=>absurd h (Ys d)
 | 0,i,r,j+1,hd,hi,hr,_=>by
  unfold Z7b.l1;rw [Xb (by omega:¬((i:Int)<(x.length:Int))),Yna (by omega)];rfl
 | d+1,i,r,j+1,hd,hi,hr,hj=>by
  have hlt:i<x.length:=by omega
  have hc:=Z9n x[i];unfold Z7b.l1;rw [Xa (by omega:(i:Int)<(x.length:Int)),Zm hlt];simp only [Xe,Ya];have hxr:=x32 hr (show x[i].toNat<4294967296 by omega);rw [Zsr,show (((x[i].toNat:Nat):Int)%4294967296)=((x[i].toNat:Nat):Int) by omega,Z7n _ _ hr (by omega),Zv (by omega)];have h8:=sl0 8 (r ^^^ x[i].toNat) k (Yc _) hxr (by omega);have h8:Z7b.l0 k ((r ^^^ x[i].toNat:Nat):Int) 0=some ((Zsq 8 (r ^^^ x[i].toNat):Nat):Int):=h8;rw [h8,Y3 hlt];simp only [Ya];exact sl1 x hx k hk d (i+1) _ j (by omega) (by omega) (Zgx 8 hxr) (by omega)
theorem sCrc (c:Nat) (s:Str) (hc:c<4294967296) (hs:s.length≤140737488351232):Zc fun k=>Z7b k (c:Int) s=some ((Zud c s:Nat):Int):=by
 refine Zc.ge (s.length+9) fun k hk=>?_
 have h:=sl1 s hs k (by omega) s.length 0 (c ^^^ 4294967295) k (by omega) (by omega) (x32 hc (by omega)) (by omega)
 have h:Z7b.l1 k k s ((c ^^^ 4294967295:Nat):Int) 0=some ((Ztq s (c ^^^ 4294967295):Nat):Int):=h
 unfold Z7b
 rw [Zsr,show ((c:Int)%4294967296)=(c:Int) by omega,show (4294967295:Int)=((4294967295:Nat):Int) from rfl,Z7n _ _ hc (by omega),h]
 simp only [Ya]
 have hl:=Zl1 s (x32 hc (show 4294967295<4294967296 by omega))
 have hl2:=x32 hl (show 4294967295<4294967296 by omega)
 rw [Z7n _ _ hl (by omega),w64 (by omega) (by omega)]
 rfl
theorem il0 (x:Str) (i:Nat) (hi:i<x.length):∀(n s r j:Nat),n≤8→s<4294967296→r=s ^^^ (x[i].toNat/2^(8-n))→n<j→Zdc.l0 j x (r:Int) (i:Int) ((8-n:Nat):Int)=some ((Zsq n s:Nat):Int)
 | n,s,r,0,_,_,_,h=>absurd h (Ys n)
 | 0,s,r,j+1,_,_,hr,_=>by
  have hc:=Z9n x[i];have:x[i].toNat/2^(8-0)=0:=Nat.div_eq_of_lt (by simpa using hc);rw [this,Ytb] at hr;subst hr;unfold Zdc.l0;rfl
 | n+1,s,r,j+1,hn,hs,hr,hj=>by
  have hc:=Z9n x[i];have e:Yb .i64 (((8-(n+1):Nat):Int)+1)=((8-n:Nat):Int):=by rw [w64] <;> omega
  have ih:=il0 x i hi n (Z7j s);unfold Zdc.l0;rw [Xa (by omega:(((8-(n+1):Nat):Int))<8),Zm hi];simp only [Xe,Ya];generalize x[i].toNat=c at hc hr ih ⊢;have hcd:c/2^(8-(n+1))<256:=Nat.lt_of_le_of_lt (Nat.div_le_self _ _) hc;have hrl:r<4294967296:=by rw [hr];exact x32 hs (by omega)
  have hsr:r ^^^ (c/2^(8-(n+1)))=s:=by rw [hr,Yha,Nat.xor_self,Ytb]
  have hhalf:r/2=s/2 ^^^ (c/2^(8-n)):=by
   have e1:c/2^(8-n)=(c/2^(8-(n+1)))/2:=by rw [Nat.div_div_eq_div_mul,← Y0];congr 2;omega
   rw [hr,e1];have:=@Nat.shiftRight_xor_distrib 1 s (c/2^(8-(n+1)));simpa [Nat.shiftRight_eq_div_pow] using this
  rw [Zsr,show ((c:Int)%4294967296)=(c:Int) by omega,Z3h .u32 c (8-(n+1)) (by show 8-(n+1)≤32;omega),Z7n _ _ hrl (by omega),hsr,Zw6 _ hs,Zi9,e,Z3b (by omega),Z3b (by omega),Zqh];simp only [Ya]
  by_cases hp:s%2=1
  ·rw [Xa (by omega:((s%2:Nat):Int)=1),show (3988292384:Int)=((3988292384:Nat):Int) from rfl,Z7n _ _ (by omega) (by omega),Xe]
   refine ih _ j (by omega) (Ziu hs) ?_ (by omega);unfold Z7j;rw [Xc hp,hhalf,Yha,Yha,Yya (c/2^(8-n))]
  ·rw [Xb (by omega:¬(((s%2:Nat):Int)=1)),Xf]
   refine ih _ j (by omega) (Ziu hs) ?_ (by omega);unfold Z7j;rw [Xd hp,hhalf]
theorem il1 (x:Str) (hx:x.length≤140737488351232) (k:Nat) (hk:9≤k):∀(d i r j:Nat),x.length-i=d→i≤x.length→r<4294967296→d<j→Zdc.l1 k j x (r:Int) (x.length:Int) (i:Int)=some ((Ztq (x.drop i) r:Nat):Int)
 | d,i,r,0,_,_,_,h=>absurd h (Ys d)
 | 0,i,r,j+1,hd,hi,hr,_=>by
  unfold Zdc.l1;rw [Xb (by omega:¬((i:Int)<(x.length:Int))),Yna (by omega)];rfl
 | d+1,i,r,j+1,hd,hi,hr,hj=>by
  have hlt:i<x.length:=by omega
  have hc:=Z9n x[i];unfold Zdc.l1;rw [Xa (by omega:(i:Int)<(x.length:Int))];have hxr:=x32 hr (show x[i].toNat<4294967296 by omega);have h8:=il0 x i hlt 8 (r ^^^ x[i].toNat) r k (Yc _) hxr (by simp [Yha]) (by omega);have h8:Zdc.l0 k x (r:Int) (i:Int) 0=some ((Zsq 8 (r ^^^ x[i].toNat):Nat):Int):=h8;rw [h8,Y3 hlt];simp only [Xe,Ya];rw [Zv (by omega)];exact il1 x hx k hk d (i+1) _ j (by omega) (by omega) (Zgx 8 hxr) (by omega)
theorem iCrc (c:Nat) (s:Str) (hc:c<4294967296) (hs:s.length≤140737488351232):Zc fun k=>Zdc k (c:Int) s=some ((Zud c s:Nat):Int):=by
 refine Zc.ge (s.length+9) fun k hk=>?_
 have h:=il1 s hs k (by omega) s.length 0 (c ^^^ 4294967295) k (by omega) (by omega) (x32 hc (by omega)) (by omega)
 have h:Zdc.l1 k k s ((c ^^^ 4294967295:Nat):Int) (s.length:Int) 0=some ((Ztq s (c ^^^ 4294967295):Nat):Int):=h
 unfold Zdc
 rw [show (IntKind.max .u32:Int)=((4294967295:Nat):Int) from rfl,Z7n _ _ (by omega) hc,Yya,h]
 simp only [Ya]
 have hl:=Zl1 s (x32 hc (show 4294967295<4294967296 by omega))
 rw [Z7n _ _ (by omega) hl,Yya]
 rfl
theorem Z4cb (n:Nat):Znm (n:Int)=some (Znj n):=by
 unfold Znm Znj
 have h8:=Z3h .i64 n 8 (by decide)
 have h16:=Z3h .i64 n 16 (by decide)
 have h24:=Z3h .i64 n 24 (by decide)
 have h8:shr .i64 (n:Int) 8=((n/256:Nat):Int):=h8
 have h16:shr .i64 (n:Int) 16=((n/65536:Nat):Int):=h16
 have h24:shr .i64 (n:Int) 24=((n/16777216:Nat):Int):=h24
 rw [Z3b (by omega),Z3b (by omega),Z3b (by omega)]
 simp only [Ya]
 rw [h8,h16,h24,u8w,u8w,u8w,u8w]
 rfl
theorem Zaob (s:Str) (hs:s.length≤7996):Zc fun k=>Zzp k s=some (Zuf s):=by
 refine (sCrc 0 s (by omega) (by omega)).mono fun k h=>?_
 have h:Z7b k 0 s=some ((Zud 0 s:Nat):Int):=h
 unfold Zzp
 rw [Xb (by omega:¬(7996<(s.length:Int))),h]
 simp only [Xf,Ya]
 rw [Z4cb]
 simp only [Ya]
 rw [Zyf (by rw [Z8m];omega)]
 rfl
theorem Zby (s:Str) (hs:s.length≤140737488351232):Zc fun k=>Z1i k s=some (Zuf s):=by
 refine (iCrc 0 s (by omega) (by omega)).mono fun k h=>?_
 have h:Zdc k 0 s=some ((Zud 0 s:Nat):Int):=h
 have h8:=Z3h .u32 (Zud 0 s) 8 (by decide)
 have h16:=Z3h .u32 (Zud 0 s) 16 (by decide)
 have h24:=Z3h .u32 (Zud 0 s) 24 (by decide)
 have h8:shr .u32 ((Zud 0 s:Nat):Int) 8=((Zud 0 s/256:Nat):Int):=h8
 have h16:shr .u32 ((Zud 0 s:Nat):Int) 16=((Zud 0 s/65536:Nat):Int):=h16
 have h24:shr .u32 ((Zud 0 s:Nat):Int) 24=((Zud 0 s/16777216:Nat):Int):=h24
 unfold Z1i
 rw [h,Z3b (by omega),Z3b (by omega),Z3b (by omega)]
 simp only [Ya]
 rw [h8,h16,h24,u8w,u8w,u8w,u8w]
 have e:Znb [((Zud 0 s:Nat):Int)%256,((Zud 0 s/256:Nat):Int)%256,((Zud 0 s/65536:Nat):Int)%256,((Zud 0 s/16777216:Nat):Int)%256]=Znj (Zud 0 s):=rfl
 rw [e,Zyf (by rw [Z8m];omega)]
 rfl
theorem Z1w (s t:Str):(s==t)=decide (s=t):=by rw [Yba];simp
theorem Zps (s:Str) (hs:s.length≤140737488351232):Zc fun k=>Zck k s=some (Zcd s):=by
 refine (Zby (Zt s) (by rw [Z2r];omega)).mono fun k h=>?_
 unfold Zck Zcd
 by_cases h4:s.length<4
 ·rw [Xa (by omega:(s.length:Int)<4),Xc h4]
  rfl
 ·rw [Xb (by omega:¬((s.length:Int)<4)),Xd h4,w64 (by omega) (by omega),show ((s.length:Int)-4)=((s.length-4:Nat):Int) by omega]
  have hc:=Zng (l:=s) (i:=0) (j:=s.length-4) (by omega) (by omega);have hc:Z9b s 0 ((s.length-4:Nat):Int)=some (Zt s):=hc;rw [hc];simp only [Xf,Ya];rw [h];simp only [Ya,Z1w]
  by_cases he:Zuf (Zt s)=s
  ·rw [Xc he,Xa he];rfl
  ·rw [Xd he,Xb he];rfl
theorem Zpz (s:Str) (hs:s.length≤8000):Zc fun k=>Z0p k s=some ((Zcd s).1,0,(Zcd s).2):=by
 refine (sCrc 0 (Zt s) (by omega) (by rw [Z2r];omega)).mono fun k h=>?_
 have h:Z7b k 0 (Zt s)=some ((Zud 0 (Zt s):Nat):Int):=h
 unfold Z0p Zcd
 rw [Xb (by omega:¬(8000<(s.length:Int)))]
 by_cases h4:s.length<4
 ·rw [Xa (by omega:(s.length:Int)<4),Xc h4]
  rfl
 ·rw [Xb (by omega:¬((s.length:Int)<4)),Xd h4,w64 (by omega) (by omega),show ((s.length:Int)-4)=((s.length-4:Nat):Int) by omega]
  have hc:=Zng (l:=s) (i:=0) (j:=s.length-4) (by omega) (by omega);have hc:Z9b s 0 ((s.length-4:Nat):Int)=some (Zt s):=hc;have hd:=Zng (l:=s) (i:=s.length-4) (j:=s.length) (by omega) (by omega);rw [Yt] at hd;simp only [Xf];rw [hc];simp only [Ya];rw [h];simp only [Ya];rw [Z4cb,hd];simp only [Ya,Z1w]
  by_cases he:Zuf (Zt s)=s
  ·rw [Xc he,Xa ((Z1db s).2 he)];rfl
  ·rw [Xd he,Xb (fun q=>he ((Z1db s).1 q))];rfl
theorem Zvnb (n:Int) (h:Num n):Z1p n=some ((zig n:Nat):Int):=by
 unfold Num at h
 unfold Z1p zig
 simp only [Z9f]
 by_cases hn:n<0
 ·rw [Xa hn,Xc hn,w64 (n:=n+1) (by omega) (by omega),w64 (by omega) (by omega)]
  rw [Xe];congr 1;omega
 ·rw [Xb hn,Xd hn,Xf]
  congr 1;omega
theorem sput:∀(f u:Nat) (acc:List Int) (j:Nat),u<128^f→u<18446744073709551616→acc.length+f≤100→0<f→f<j+1→∃p:Int×List Int,Z5c.l0 j (u:Int) acc=some p∧p.2.length≤100∧p.2++[Yb .u8 p.1]=acc++Zpc f u
 | 0,_,_,_,_,_,_,h,_=>absurd h (by omega)
 | f+1,u,acc,0,hu,hb,hl,_,hj=>by omega
 | f+1,u,acc,j+1,hu,hb,hl,_,hj=>by
  unfold Z5c.l0
  by_cases h:128≤u
  ·have hf:0<f:=by
    rcases Nat.eq_zero_or_pos f with rfl | h'
    ·simp at hu;omega
    ·exact h'
   obtain ⟨p,e,e1,e2⟩:=sput f (u/128) (acc++[((u%128+128:Nat):Int)]) j (by rw [Y0] at hu;exact Ymb (by rw [Y8];exact hu)) (by omega) (by simp;omega) hf (by omega);refine ⟨p,?_,e1,?_⟩
   ·rw [Xa (by omega:(128:Int)≤(u:Int)),Z7i (by omega:(128:Int)≠0)]
    simp only [Xe,Ya];rw [Zsb (by simp;omega),u8w,Z9f,Z9f,Yka (by omega),Y4a (by omega)];simp only [Ya];rw [show (((u:Int)/128)%18446744073709551616)=((u/128:Nat):Int) by omega,show ((((u:Int)%128+128)%18446744073709551616)%256)=((u%128+128:Nat):Int) by omega];exact e
   ·rw [e2,Yn]
    simp [Zpc,h]
  ·refine ⟨((u:Int),acc),?_,by show acc.length≤100;omega,?_⟩
   ·rw [Xb (by omega:¬((128:Int)≤(u:Int)))]
    rfl
   ·show acc++[Yb .u8 (u:Int)]=_
    rw [u8w,show ((u:Int)%256)=(u:Int) by omega];simp [Zpc,h]
theorem Znn (n:Int) (h:Num n):Zc fun k=>Z5c k n=some (Zl n):=by
 refine Zc.ge 10 fun k hk=>?_
 have hz:=Z15 h
 obtain ⟨p,e,e1,e2⟩:=sput 10 (zig n) [] k (by omega) hz (by simp) (by omega) (by omega)
 unfold Z5c
 rw [Zvnb n h]
 simp only [Ya]
 rw [e]
 simp only [Ya]
 rw [Zsb (by simp;omega),e2]
 rfl
theorem Zj8 (s:Str) (j:Nat):(s.drop j=[]∧s.length≤j)∨∃h:j<s.length,s.drop j=s[j]::s.drop (j+1):=by
 by_cases h:j<s.length
 ·exact .inr ⟨h,Y3 h⟩
 ·exact .inl ⟨Yna (by omega),by omega⟩
theorem sgn (s:Str) (hs:s.length≤140737488351232) (a:Nat) (ha:a<9223372036854775000):∀(f i u j:Nat),i+f=10→i≤9→u<128^i→(0<i→a+i≤s.length)→f<j→Z7d.l0 j s (a:Int) (u:Int) (i:Int) 0 0 0=some (.inr (fin a (gn f i u (s.drop (a+i)))))
 | f,i,u,0,_,_,_,_,h=>absurd h (Ys f)
 | 0,i,u,j+1,hf,h9,hu,hz,_=>by omega
 | f+1,i,u,j+1,hf,hi9,hu,hz,hj=>by
  unfold Z7d.l0;rw [Xa (by omega:(i:Int)<10),w64 (n:=(s.length:Int)-(i:Int)) (by omega) (by omega),Xe];rcases Zj8 s (a+i) with ⟨hd,hlen⟩ | ⟨hlt,hd⟩
  ·rw [Xa (by omega:(s.length:Int)-(i:Int)≤(a:Int)),hd]
   rfl
  ·rw [Xb (by omega:¬((s.length:Int)-(i:Int)≤(a:Int))),w64 (n:=(a:Int)+(i:Int)) (by omega) (by omega),show ((a:Int)+(i:Int))=((a+i:Nat):Int) by omega]
   simp only [Xf];rw [Zm hlt,hd];simp only [Ya,gn];have hb:=Z9n s[a+i];have ih:=fun u'=>sgn s hs a ha f (i+1) u' j
   generalize s[a+i].toNat=b at hb ⊢;rw [Z9f (b:Int),show ((b:Int)%18446744073709551616)=(b:Int) by omega,Zqh,Z7i (by omega:(128:Int)≠0)]
   by_cases h9:i=9∧1<b
   ·rw [Xa (by omega:(i:Int)=9),Xa (by omega:(1:Int)<(b:Int)),Xc h9]
    rfl
   ·rw [Xd h9,show (decide ((i:Int)=9)&&decide ((1:Int)<(b:Int)))=false by
     by_cases h:i=9
     ·rw [Xb (by omega:¬((1:Int)<(b:Int))),Y1]
     ·rw [Xb (by omega:¬((i:Int)=9))];rfl]
    have hb9:i=9→b≤1:=fun h=>by
     rcases Yu 1 b with h1 | h1
     ·exact absurd ⟨h,h1⟩ h9
     ·exact h1
    have hsl:=Zl5 (b:=b) (show i≤9 by omega) hu hb9
    have hv:Yb .u64 ((u:Int)+shl .u64 (Int.tmod (b:Int) 128) (Yb .u64 (Yb .i64 (7*(i:Int)))))=((u+b%128*128^i:Nat):Int):=by
     rw [w64 (by omega) (by omega),Z9f (7*(i:Int)),show (7*(i:Int))%18446744073709551616=((7*i:Nat):Int) by omega,Yka (by omega),show (b:Int)%128=((b%128:Nat):Int) by omega,Zmdb (by omega) hb9,Z9f];omega
    have hn:Zrb (Yb .u64 (Yb .i64 (7*(i:Int))))=some ():=Z3b (by rw [Z9f];omega);simp only [Xf,Ya];rw [hn];simp only [Ya];rw [hv]
    by_cases h128:128≤b
    ·have hi8:i≤8:=by
      by_cases h:i=9
      ·have:=hb9 h;omega
      ·omega
     rw [Xb (by omega:¬((b:Int)<128)),Xc h128,Xf,Zv (by omega),show a+i+1=a+(i+1) by omega];exact ih _ (by omega) (by omega) (Zwz hi8 hu) (fun _=>by omega) (by omega)
    ·rw [Xa (by omega:((b:Int)<128)),Xd h128,Xe,Zqh]
     by_cases h0:b=0∧0<i
     ·rw [Xa (by omega:(b:Int)=0),Xa (by omega:(0:Int)<(i:Int)),Xc h0]
      rfl
     ·rw [Xd h0,show (decide ((b:Int)=0)&&decide ((0:Int)<(i:Int)))=false by
       by_cases h:b=0
       ·rw [Xb (by omega:¬((0:Int)<(i:Int))),Y1]
       ·rw [Xb (by omega:¬((b:Int)=0))];rfl]
      generalize u+b%128*128^i=v at hsl
      have e2:Yb .i64 (Yb .u64 (Int.tdiv (v:Int) 2))=((v/2:Nat):Int):=by
       rw [Y4a (by omega),Z9f,w64 (by omega) (by omega)];omega
      rw [Xf,Z7i (by omega:(2:Int)≠0)];simp only [Ya];rw [Zv (by omega),e2,Yka (by omega),Zqh];unfold fin unz
      by_cases hp:v%2=1
      ·rw [Xa (by omega:(v:Int)%2=1),Xc hp,w64 (n:=0-((v/2:Nat):Int)) (by omega) (by omega),w64 (by omega) (by omega),Xe,show (0-((v/2:Nat):Int)-1) = -((v/2:Nat):Int)-1 by omega]
       rfl
      ·rw [Xb (by omega:¬((v:Int)%2=1)),Xd hp]
       rfl
theorem ign (s:Str) (hs:s.length≤140737488351232) (a:Nat) (ha:a<9223372036854775000):∀(f i u j:Nat),i+f=10→i≤9→u<128^i→(0<i→a+i≤s.length)→f<j→Z9e.l0 j s (a:Int) (u:Int) (i:Int)=some (fin a (gn f i u (s.drop (a+i))))
 | f,i,u,0,_,_,_,_,h=>absurd h (Ys f)
 | 0,i,u,j+1,hf,h9,hu,hz,_=>by omega
 | f+1,i,u,j+1,hf,hi9,hu,hz,hj=>by
  unfold Z9e.l0;rw [w64 (n:=(s.length:Int)-(i:Int)) (by omega) (by omega)];rcases Zj8 s (a+i) with ⟨hd,hlen⟩ | ⟨hlt,hd⟩
  ·rw [Xa (by omega:(s.length:Int)-(i:Int)≤(a:Int)),hd]
   rfl
  ·rw [Xb (by omega:¬((s.length:Int)-(i:Int)≤(a:Int))),w64 (n:=(a:Int)+(i:Int)) (by omega) (by omega),show ((a:Int)+(i:Int))=((a+i:Nat):Int) by omega]
   simp only [Xf];rw [Zm hlt,hd];simp only [Ya,gn];have hb:=Z9n s[a+i];have ih:=fun u'=>ign s hs a ha f (i+1) u' j
   generalize s[a+i].toNat=b at hb ⊢;rw [Zqh]
   by_cases h9:i=9∧1<b
   ·rw [Xa (by omega:(i:Int)=9),Xa (by omega:(1:Int)<(b:Int)),Xc h9]
    rfl
   ·rw [Xd h9,show (decide ((i:Int)=9)&&decide ((1:Int)<(b:Int)))=false by
     by_cases h:i=9
     ·rw [Xb (by omega:¬((1:Int)<(b:Int))),Y1]
     ·rw [Xb (by omega:¬((i:Int)=9))];rfl]
    have hb9:i=9→b≤1:=fun h=>by
     rcases Yu 1 b with h1 | h1
     ·exact absurd ⟨h,h1⟩ h9
     ·exact h1
    have hsl:=Zl5 (b:=b) (show i≤9 by omega) hu hb9
    have hv:intBits .or .u64 (u:Int) (shl .u64 (Yb .u64 (intBits .and .u8 (b:Int) 127)) (Yb .i64 (7*(i:Int))))=((u+b%128*128^i:Nat):Int):=by
     rw [Z7eb b hb,Z9f,show ((b%128:Nat):Int)%18446744073709551616=((b%128:Nat):Int) by omega,w64 (by omega) (by omega),show (7*(i:Int))=((7*i:Nat):Int) by omega,Zmdb (by omega) hb9,Zufb _ _ (by have:=Zvbb (show i≤9 by omega);omega) (Z5db (by omega) hb9),Z9lb hu]
    have hn:Zrb (Yb .i64 (7*(i:Int)))=some ():=Z3b (by rw [w64 (by omega) (by omega)];omega);simp only [Xf];rw [hn];simp only [Ya];rw [hv]
    by_cases h128:128≤b
    ·have hi8:i≤8:=by
      by_cases h:i=9
      ·have:=hb9 h;omega
      ·omega
     rw [Xa (by omega:((127:Int)<(b:Int))),Xc h128,Xe,Zv (by omega),show a+i+1=a+(i+1) by omega];exact ih _ (by omega) (by omega) (Zwz hi8 hu) (fun _=>by omega) (by omega)
    ·rw [Xb (by omega:¬((127:Int)<(b:Int))),Xd h128,Xf,Zqh]
     by_cases h0:b=0∧0<i
     ·rw [Xa (by omega:(b:Int)=0),Xa (by omega:(0:Int)<(i:Int)),Xc h0]
      rfl
     ·rw [Xd h0,show (decide ((b:Int)=0)&&decide ((0:Int)<(i:Int)))=false by
       by_cases h:b=0
       ·rw [Xb (by omega:¬((0:Int)<(i:Int))),Y1]
       ·rw [Xb (by omega:¬((b:Int)=0))];rfl]
      generalize u+b%128*128^i=v at hsl;have e2:shr .u64 (v:Int) 1=((v/2:Nat):Int):=Z3h .u64 v 1 (by decide);rw [Xf,Z3b (by omega:(0:Int)≤1)];simp only [Ya];rw [Zv (by omega),e2,Zkfb v hsl,w64 (n:=((v/2:Nat):Int)) (by omega) (by omega),Zqh];unfold fin unz
      by_cases hp:v%2=1
      ·rw [Xa (by omega:((v%2:Nat):Int)=1),Xc hp,Z1lb _ (by omega)]
       rfl
      ·rw [Xb (by omega:¬(((v%2:Nat):Int)=1)),Xd hp]
       rfl
section
variable (s:Str) (a:Nat) (ha:a<9223372036854775000)
include ha
theorem Z5x (hs:s.length≤140737488351232):Zc fun k=>Z9e k s (a:Int)=some (Z8c s a):=by
 refine Zc.ge 11 fun k hk=>?_
 have h:=ign s hs a ha 10 0 0 k rfl (by omega) (by omega) (fun h=>absurd h (by omega)) (by omega)
 have h:Z9e.l0 k s (a:Int) 0 0=some (Z8c s a):=h
 unfold Z9e
 rw [Xb (by omega:¬((a:Int)<0)),h]
 rfl
theorem Zoz (hs:s.length≤8000):Zc fun k=>Z7d k s (a:Int)=some (Z8c s a):=by
 refine Zc.ge 11 fun k hk=>?_
 have h:=sgn s (by omega) a ha 10 0 0 k rfl (by omega) (by omega) (fun h=>absurd h (by omega)) (by omega)
 have h:Z7d.l0 k s (a:Int) 0 0 0 0 0=some (.inr (Z8c s a)):=h
 unfold Z7d
 rw [Xb (by omega:¬(8000<(s.length:Int))),Xb (by omega:¬((a:Int)<0)),h]
 rfl
theorem Zk2 (hs:s.length≤140737488351232):Zc fun k=>Zfc k (s,((a:Int),false))=some (Zkc s a):=by
 refine (Z5x s a ha hs).mono fun k h=>?_
 unfold Zfc Zkc
 rw [h]
 rcases Z9k s a with ⟨n,a',e,g⟩ | ⟨c,hc,e⟩
 ·rw [e];rfl
 ·rw [e,Xd hc]
  simp only [Ya];rw [show (c != 0)=true by simpa using hc];rfl
theorem Zvjb (hs:s.length≤140737488351232):∃(n:Int) (a':Nat),(Zc fun k=>Zfc k (s,((a:Int),true))=some (n,s,(a':Int),true))∧a'≤max a s.length:=by
 rcases Z9k s a with ⟨n,a',e,g⟩ | ⟨c,hc,e⟩
 ·refine ⟨n,a',(Z5x s a ha hs).mono fun k h=>?_,?_⟩
  ·unfold Zfc
   rw [h,e];rfl
  ·have:=g.le;omega
 ·refine ⟨0,a,(Z5x s a ha hs).mono fun k h=>?_,by omega⟩
  unfold Zfc;rw [h,e];simp only [Ya];rw [show (c != 0)=true by simpa using hc];rfl
end
theorem Z9cb (s:Str) (h:s.length≤8000):Zc fun k=>Zmm k s=some (Z4 s):=by
 refine (Znn (s.length:Int) ⟨by omega,by omega⟩).mono fun k hk=>?_
 have:=Zpe (s.length:Int)
 unfold Zmm
 rw [Xb (by omega:¬(8000<(s.length:Int))),hk]
 simp only [Xf,Ya]
 rw [Zyf (by omega)]
 rfl
section
variable (s:Str) (a:Nat) (ha:a<9223372036854775000)
include ha
theorem Z34 (hs:s.length≤8000):Zc fun k=>Zqn k s (a:Int)=some (Zeh s a):=by
 refine (Zoz s a ha hs).mono fun k h=>?_
 unfold Zqn Zeh
 rw [h]
 rcases Z9k s a with ⟨n,a',e,g⟩ | ⟨c,hc,e⟩
 ·rw [e]
  simp only [if_true,Ya];have hle:=g.le;rw [show ((0:Int) != 0)=false from rfl,Xf]
  by_cases hn:0≤n∧n≤8000
  ·rw [Xb (by omega:¬(n<0)),Xb (by omega:¬(8000<n)),Xc hn,w64 (n:=(s.length:Int)-n) (by omega) (by omega),w64 (n:=(a':Int)+n) (by omega) (by omega)]
   by_cases hq:n > (s.length:Int)-(a':Int)
   ·rw [Xa (by omega:(s.length:Int)-n<(a':Int)),Xc hq]
    rfl
   ·rw [Xb (by omega:¬((s.length:Int)-n<(a':Int))),Xd hq]
    obtain ⟨m,rfl⟩:∃m:Nat,n=(m:Int):=⟨n.toNat,by omega⟩;rw [show ((a':Int)+(m:Int))=((a'+m:Nat):Int) by omega];have hc:=Zng (l:=s) (i:=a') (j:=a'+m) (by omega) (by omega);simp only [Y2a,Xf];rw [hc];rfl
  ·rw [Xd hn,show (decide (n<0)||decide (8000<n))=true by
    by_cases h0:n<0
    ·rw [Xa h0];rfl
    ·rw [Xa (by omega:8000<n),Bool.or_true]]
   rfl
 ·rw [e]
  simp only [Ya];rw [Xd hc,show (c != 0)=true by simpa using hc];rfl
theorem Zg2 (hs:s.length≤140737488351232):Zc fun k=>Zzo k s (a:Int)=some (Zeh s a):=by
 refine (Z5x s a ha hs).mono fun k h=>?_
 unfold Zzo Zeh
 rw [h]
 rcases Z9k s a with ⟨n,a',e,g⟩ | ⟨c,hc,e⟩
 ·rw [e]
  simp only [if_true,Ya];have hle:=g.le;rw [show ((0:Int) != 0)=false from rfl,Xf];unfold Zjb;simp only [Ya]
  by_cases hn:0≤n∧n≤8000
  ·rw [Xa (by omega:0≤n),Xa (by omega:n≤8000),Xc hn,w64 (n:=(s.length:Int)-(a':Int)) (by omega) (by omega),w64 (n:=(a':Int)+n) (by omega) (by omega)]
   by_cases hq:n > (s.length:Int)-(a':Int)
   ·rw [Xa (by omega:(s.length:Int)-(a':Int)<n),Xc hq]
    rfl
   ·rw [Xb (by omega:¬((s.length:Int)-(a':Int)<n)),Xd hq]
    obtain ⟨m,rfl⟩:∃m:Nat,n=(m:Int):=⟨n.toNat,by omega⟩;rw [show ((a':Int)+(m:Int))=((a'+m:Nat):Int) by omega];have hc:=Zng (l:=s) (i:=a') (j:=a'+m) (by omega) (by omega);simp only [Bool.and_true,Yv,Xf];rw [hc];rfl
  ·rw [Xd hn,show (decide (0≤n)&&decide (n≤8000))=false by
    by_cases h0:0≤n
    ·rw [Xb (by omega:¬(n≤8000)),Y1]
    ·rw [Xb h0];rfl]
   rfl
 ·rw [e]
  simp only [Ya];rw [Xd hc,show (c != 0)=true by simpa using hc];rfl
theorem Z19 (hs:s.length≤140737488351232):Zc fun k=>Zpg k (s,((a:Int),false))=some (Zkg s a):=by
 refine (Zg2 s a ha hs).mono fun k h=>?_
 unfold Zpg Zkg
 rw [h]
 rcases Zaq s a with ⟨n,a',e,g⟩ | ⟨c,hc,e⟩
 ·rw [e];rfl
 ·rw [e,Xd hc]
  simp only [Ya];rw [show (c != 0)=true by simpa using hc];rfl
theorem Z29 (hs:s.length≤140737488351232):∃(t:Str) (a':Nat),(Zc fun k=>Zpg k (s,((a:Int),true))=some (t,s,(a':Int),true))∧a'≤max a s.length:=by
 rcases Zaq s a with ⟨n,a',e,g⟩ | ⟨c,hc,e⟩
 ·refine ⟨n,a',(Zg2 s a ha hs).mono fun k h=>?_,?_⟩
  ·unfold Zpg
   rw [h,e];rfl
  ·have:=g.le;omega
 ·refine ⟨[],a,(Zg2 s a ha hs).mono fun k h=>?_,by omega⟩
  unfold Zpg;rw [h,e];simp only [Ya];rw [show (c != 0)=true by simpa using hc];rfl
end
def Zbt (s:Str):Option (Int×Int×Int×Str×Nat):=if (Zkc s 0).2.2.2=true then none else if (Zkc s (Zkc s 0).2.2.1.toNat).2.2.2=true then none else if (Zkc s (Zkc s (Zkc s 0).2.2.1.toNat).2.2.1.toNat).2.2.2=true then none else if (Zkg s (Zkc s (Zkc s (Zkc s 0).2.2.1.toNat).2.2.1.toNat).2.2.1.toNat).2.2.2=true then none else some ((Zkc s 0).1,(Zkc s (Zkc s 0).2.2.1.toNat).1,(Zkc s (Zkc s (Zkc s 0).2.2.1.toNat).2.2.1.toNat).1,(Zkg s (Zkc s (Zkc s (Zkc s 0).2.2.1.toNat).2.2.1.toNat).2.2.1.toNat).1,(Zkg s (Zkc s (Zkc s (Zkc s 0).2.2.1.toNat).2.2.1.toNat).2.2.1.toNat).2.2.1.toNat)
theorem Zzib {s:Str} {x y z:Int} {t:Str} {a b c d:Nat} (g1:Got s 0 x a) (g2:Got s a y b) (g3:Got s b z c) (g4:GotT s c t d):Zl x++Zl y++Zl z++Z4 t=s ↔ d=s.length:=by
 have e1:=g1.eq
 have e2:=g2.eq
 have e3:=g3.eq
 have e4:=g4.eq
 rw [Yda] at e1
 constructor
 ·intro h
  have h1:=congrArg Yeb h;rw [Yo,Yo,Yo] at h1;have:=g1.at';have:=g2.at';have:=g3.at';have:=g4.at';omega
 ·rintro rfl
  rw [List.drop_of_length_le (l:=s) (i:=s.length) (Yc _),Yw] at e4;rw [← e4,Yn,← e3,Yn,← e2,← e1]
theorem Znmb {s:Str} {x y z:Int} {t:Str} {d:Nat} (h:Zbt s=some (x,y,z,t,d)):∃a b c,Got s 0 x a∧Got s a y b∧Got s b z c∧GotT s c t d:=by
 unfold Zbt at h
 rcases Z13 s 0 with ⟨x',a,e1,g1⟩ | e1
 ·rw [e1] at h
  simp only [Ye,Y2,if_false] at h;rcases Z13 s a with ⟨y',b,e2,g2⟩ | e2
  ·rw [e2] at h
   simp only [Ye,Y2,if_false] at h;rcases Z13 s b with ⟨z',c,e3,g3⟩ | e3
   ·rw [e3] at h
    simp only [Ye,Y2,if_false] at h;rcases Zfpb s c with ⟨t',d',e4,g4⟩ | e4
    ·rw [e4] at h
     simp only [Ye,Y2,if_false,Yza.injEq,Prod.mk.injEq] at h;obtain ⟨rfl,rfl,rfl,rfl,rfl⟩:=h;exact ⟨a,b,c,g1,g2,g3,g4⟩
    ·rw [e4] at h;simp at h
   ·rw [e3] at h;simp at h
  ·rw [e2] at h;simp at h
 ·rw [e1] at h;simp at h
def Zxc (k t f:Int) (d:Str) (n:Int):Bool:=if k=1 then decide (0≤t)&&decide (t≤n-1)&&decide (f=0)&&(d==[]) else if k=2 then decide (0≤t)&&decide (t≤n-1)&&decide (f=0)&&decide ((d.length:Int)=8) else if k=3 then decide (0≤t)&&decide (t≤n-1)&&(decide (0≤f)&&decide (f≤n-1))&&(d==[]) else if k=4 then decide (0≤t)&&decide (t≤n-1)&&(decide (0≤f)&&decide (f≤n-1))&&decide ((d.length:Int)=8) else if k=5 then decide (t=0)&&(decide (0≤f)&&decide (f≤1000000))&&(d==[]) else false
theorem Zcob (k t f:Int) (d:Str) (n:Int) (h1:1≤n) (h2:n≤8):Zrn (k,(t,(f,d))) n=some (Zxc k t f d n):=by
 unfold Zrn Zld Zxc
 simp only [Ya]
 rw [w64 (n:=n-1) (by omega) (by omega),Xa h1,Xa h2]
 simp only [Zqh]
 generalize (decide (0≤t)&&decide (t≤n-1))=P
 generalize (decide (0≤f)&&decide (f≤n-1))=Q
 generalize (decide (0≤f)&&decide (f≤1000000))=R
 generalize (d==([]:Str))=E
 generalize decide ((d.length:Int)=8)=Z
 by_cases c1:k=1
 ·subst c1;cases P <;> by_cases h:f=0 <;> simp [h]
 by_cases c2:k=2
 ·subst c2;cases P <;> by_cases h:f=0 <;> simp [h]
 by_cases c3:k=3
 ·subst c3;cases P <;> cases Q <;> simp
 by_cases c4:k=4
 ·subst c4;cases P <;> cases Q <;> simp
 by_cases c5:k=5
 ·subst c5;cases R <;> by_cases h:t=0 <;> simp [h]
 simp [c1,c2,c3,c4,c5]
theorem Zcy (k t f:Int) (d:Str) (n:Int) (h1:1≤n) (h2:n≤8):Ztc (k,(t,(f,d))) n=some (Zxc k t f d n):=by
 have hw:Yb .i64 (n-1)=n-1:=w64 (by omega) (by omega)
 unfold Ztc
 simp only [Zjb,Z2h,Ya,hw,Ztc.j0,Ztc.j1,Zxc,Zqh]
 generalize (decide (0≤t)&&decide (t≤n-1))=P
 generalize (decide (0≤f)&&decide (f≤n-1))=Q
 generalize (d==([]:Str))=E
 by_cases c1:k=1
 ·subst c1;cases P <;> by_cases h:f=0 <;> simp [h]
 by_cases c2:k=2
 ·subst c2;cases P <;> by_cases h:f=0 <;> simp [h]
 by_cases c3:k=3
 ·subst c3;cases P <;> cases Q <;> simp
 by_cases c4:k=4
 ·subst c4;cases P <;> cases Q <;> simp
 by_cases c5:k=5
 ·subst c5;cases E <;> by_cases h:t=0 <;> simp [h]
 have hk:(decide (1≤k)&&decide (k≤5))=false:=by
  rw [Yaa,Ne,Yg,decide_eq_true_eq,decide_eq_true_eq];omega
 simp [c1,c2,c3,c4,c5,hk]
theorem Z7v {k t f:Int} {d:Str} {n:Int} (h:Zxc k t f d n=true):d.length≤8:=by
 unfold Zxc at h
 have e:(d==([]:Str))=true→d.length≤8:=fun q=>by
  rw [Z1w] at q;rw [of_decide_eq_true q];simp
 have e8:decide ((d.length:Int)=8)=true→d.length≤8:=fun q=>by
  have:=of_decide_eq_true q;omega
 split at h
 ·exact e ((Yg _ _).mp h).2
 split at h
 ·exact e8 ((Yg _ _).mp h).2
 split at h
 ·exact e ((Yg _ _).mp h).2
 split at h
 ·exact e8 ((Yg _ _).mp h).2
 split at h
 ·exact e ((Yg _ _).mp h).2
 ·cases h
def Zgj (s:Str):Option (Int×Int×Int×Str):=match Zbt s with
 | some (x,y,z,t,d)=>if d=s.length∧Zxc x y z t 8=true then some (x,y,z,t) else none
 | none=>none
theorem Z4ob {s:Str} {x y z:Int} {t:Str} (h:Zgj s=some (x,y,z,t)):Zxc x y z t 8=true:=by
 unfold Zgj at h
 split at h
 ·split at h
  ·rename_i hq
   cases h;exact hq.2
  ·cases h
 ·cases h
theorem Z1gb {s:Str} (h:1≤s.length):(([]:Str)==s)=false:=by
 cases s with
 | nil=>exact absurd h (by simp)
 | cons _ _=>rfl
abbrev Zk:=Int×Int×Int×Str
theorem Zclb {S R:Type} (L:Nat→S→Option R) (m:S→Nat) (I:S→Prop) (Q:R→Prop) (step:∀s,I s→(∃r,(∀j,L (j+1) s=some r)∧Q r)∨∃s',I s'∧m s'<m s∧∀j,L (j+1) s=L j s'):∀(n:Nat) (s:S),I s→m s≤n→∃r,Q r∧∀j,n<j→L j s=some r:=by
 intro n
 induction n with
 | zero=>
  intro s hi hm;rcases step s hi with ⟨r,hr,hq⟩ | ⟨s',_,hm',_⟩
  ·refine ⟨r,hq,fun j hj=>?_⟩
   obtain ⟨j,rfl⟩:∃q,j=q+1:=⟨j-1,by omega⟩;exact hr j
  ·omega
 | succ n ih=>
  intro s hi hm;rcases step s hi with ⟨r,hr,hq⟩ | ⟨s',hi',hm',hs⟩
  ·refine ⟨r,hq,fun j hj=>?_⟩
   obtain ⟨j,rfl⟩:∃q,j=q+1:=⟨j-1,by omega⟩;exact hr j
  ·obtain ⟨r,hq,hr⟩:=ih s' hi' (by omega)
   refine ⟨r,hq,fun j hj=>?_⟩;obtain ⟨j,rfl⟩:∃q,j=q+1:=⟨j-1,by omega⟩;rw [hs j];exact hr j (by omega)
theorem Zgd {α:Type} {l:List α} {i:Int} (h:0≤i) (h2:i<(l.length:Int)):∃x,at? l i=some x∧x∈l:=by
 obtain ⟨n,rfl⟩:∃n:Nat,i=(n:Int):=⟨i.toNat,by omega⟩
 exact ⟨l[n]'(by omega),Zm (by omega),Yh _⟩
theorem wid {n:Int} (h0:0≤n) (h1:n<9223372036854775808):Yb .i64 n=n:=w64 (by omega) h1
theorem Z7z {n:Int} (h0:0≤n) (h1:n<18446744073709551616):Yb .u64 n=n:=by rw [Z9f];omega
theorem Zjgb {α:Type} {l:List α} {i j:Int} (h0:0≤i) (h1:i≤j) (h2:j≤(l.length:Int)):∃t,Z9b l i j=some t∧(t.length:Int)=j-i:=by
 obtain ⟨a,rfl⟩:∃n:Nat,i=(n:Int):=⟨i.toNat,by omega⟩
 obtain ⟨b,rfl⟩:∃n:Nat,j=(n:Int):=⟨j.toNat,by omega⟩
 refine ⟨_,Zng (by omega) (by omega),?_⟩
 rw [Yra,Yp]
 omega
def Zbe (n:Int) (x:Zk):Bool:=Zxc x.1 x.2.1 x.2.2.1 x.2.2.2 n
theorem Zckb (x:Zk) (n:Int) (h1:1≤n) (h2:n≤8):Ztc x n=some (Zbe n x):=Zcy x.1 x.2.1 x.2.2.1 x.2.2.2 n h1 h2
theorem Zbdb (x:Zk) (n:Int) (h1:1≤n) (h2:n≤8):Zrn x n=some (Zbe n x):=Zcob x.1 x.2.1 x.2.2.1 x.2.2.2 n h1 h2
def isW (x:Zk):Bool:=x.1 != 5
def Zj (l:List Zk):List Zk:=l.filter isW
def Z3c (l:List Zk):List Int:=(Zj l).map fun x=>x.2.1
def Ztg:Int→List Zk→Bool
 | _,[]=>true
 | a,x::l=>if x.1=5 then decide (a<x.2.2.1)&&Ztg x.2.2.1 l else Ztg a l
def Zwb (l:List Zk) (n:Int):Int:=if 20<l.length∨¬(1≤n∧n≤8)∨l.all (Zbe n)=false then 1 else if ¬(Z3c l).Nodup then 12 else if Ztg (-1) l then 0 else 8
theorem Zbw {l:List Zk} {i:Nat} (h:i<l.length):Z3c (l.take (i+1))=if isW l[i] then Z3c (l.take i)++[(l[i]).2.1] else Z3c (l.take i):=by
 unfold Z3c Zj
 rw [Z0j h,Y4,List.map_append]
 split
 ·rename_i hw;simp [hw]
 ·rename_i hw;simp [hw]
theorem Zss {x:Zk} (h:x.1≠5):isW x=true:=by unfold isW;simpa using h
theorem Z1u {x:Zk} (h:x.1=5):isW x=false:=by unfold isW;simp [h]
theorem Zaeb {l:List Zk} (i:Nat):(Z3c (l.take i)).Sublist (Z3c l):=by
 unfold Z3c Zj
 exact (((List.take_sublist i l).filter _).map _)
theorem Zilb {l:List Zk} {b:Int}:b∈Z3c l ↔ ∃x∈l,isW x=true∧x.2.1=b:=by
 unfold Z3c Zj
 rw [Yhb]
 constructor
 ·rintro ⟨x,hx,e⟩
  rw [Ysa] at hx;exact ⟨x,hx.1,hx.2,e⟩
 ·rintro ⟨x,h1,h2,e⟩
  exact ⟨x,Ysa.2 ⟨h1,h2⟩,e⟩
theorem Zm3 {l:List Zk} {b:Int} {i:Nat}:b∈Z3c (l.take i) ↔ ∃j,∃h:j<l.length,j<i∧isW l[j]=true∧(l[j]).2.1=b:=by
 rw [Zilb]
 constructor
 ·rintro ⟨x,hx,h1,h2⟩
  obtain ⟨j,hj,rfl⟩:=Yab hx;rw [Ydb] at h1 h2;rw [Yp] at hj;exact ⟨j,by omega,by omega,h1,h2⟩
 ·rintro ⟨j,h,hji,h1,h2⟩
  refine ⟨l[j],?_,h1,h2⟩;rw [List.mem_take_iff_getElem];exact ⟨j,by omega,rfl⟩
def Zvn (b:Int) (x:Zk):Bool:=isW x&&(x.2.1==b)
def Zcw (l:List Zk) (b:Int):Int:=match Zab (Zvn b) l 0 with
 | some i=>(i:Int)
 | none=>-1
theorem Zhkb (l:List Zk) (b:Int) (hl:l.length≤1048576):∀k,l.length<k→Zep k l b=some (Zcw l b):=by
 intro k hk
 have run:=Zki (fun j i=>Z2d.l0 j l (l.length:Int) i b) l (Zvn b) (.inl b) (fun i=>.inr ((i:Int),b)) (fun i hi=>by
  have e:Z5q l[i] b=some (Zvn b l[i]):=rfl;constructor
  ·intro hp j
   show Z2d.l0 (j+1) l (l.length:Int) (i:Int) b=Z2d.l0 j l (l.length:Int) ((i+1:Nat):Int) b;rw [Z2d.l0];rw [dlt hi,Zm hi,Zv (by omega)];simp only [Xe,Ya,e,hp,Xf]
  ·intro hp j
   show Z2d.l0 (j+1) l (l.length:Int) (i:Int) b=_;unfold Z2d.l0;rw [dlt hi,Zm hi];simp only [Xe,Ya,e,hp]) (fun j=>by
  show Z2d.l0 (j+1) l (l.length:Int) (l.length:Int) b=_;unfold Z2d.l0;rw [Zib (Yc _)];rfl) hk
 have run:Z2d.l0 k l (l.length:Int) 0 b=_:=run
 unfold Zep Z2d Zcw
 rw [run]
 cases Zab (Zvn b) l 0 <;> rfl
theorem Zbeb {l:List Zk} {i:Nat} (h:i<l.length) (hw:isW l[i]=true):Zcw l (l[i]).2.1<(i:Int) ↔ (l[i]).2.1∈Z3c (l.take i):=by
 unfold Zcw
 rw [Zm3]
 cases hf:Zab (Zvn (l[i]).2.1) l 0 with
 | none=>
  have:=Zgo.1 hf l[i] (Yh h);unfold Zvn at this;rw [hw] at this;simp at this
 | some m=>
  obtain ⟨_,h2,h3,h4⟩:=Zmj hf;have h4:∀j,(hj:j<m)→Zvn (l[i]).2.1 (l[j]'(by omega))=false:=h4;unfold Zvn at h3;simp only [Yg,beq_iff_eq] at h3;constructor
  ·intro hm
   have hm:(m:Int)<(i:Int):=hm;exact ⟨m,h2,by omega,h3.1,h3.2⟩
  ·rintro ⟨j,hj,hji,h5,h6⟩
   show (m:Int)<(i:Int);rcases Yu m i with h | h
   ·omega
   ·have:=h4 j (by omega)
    unfold Zvn at this;rw [h5,h6] at this;simp at this
theorem Z1ib (l:List Zk) (n:Int) (h1:1≤n) (h2:n≤8) (hl:l.length≤1048576):∀k,l.length<k→Zrp k l n=some (!(l.all (Zbe n)),n):=by
 intro k hk
 have run:=Zki (fun j i=>Z1d.l0 j l (l.length:Int) i n) l (fun x=>!(Zbe n x)) (.inl n) (fun i=>.inr ((i:Int),n)) (fun i hi=>by
  have e:Zdp l[i] n=some (!(Zbe n l[i])):=by
   unfold Zdp;rw [Zckb _ _ h1 h2];rfl
  constructor
  ·intro hp j
   show Z1d.l0 (j+1) l (l.length:Int) (i:Int) n=Z1d.l0 j l (l.length:Int) ((i+1:Nat):Int) n;rw [Z1d.l0];rw [dlt hi,Zm hi,Zv (by omega)];simp only [Xe,Ya,e,hp,Xf]
  ·intro hp j
   show Z1d.l0 (j+1) l (l.length:Int) (i:Int) n=_;unfold Z1d.l0;rw [dlt hi,Zm hi];simp only [Xe,Ya,e,hp]) (fun j=>by
  show Z1d.l0 (j+1) l (l.length:Int) (l.length:Int) n=_;unfold Z1d.l0;rw [Zib (Yc _)];rfl) hk
 have run:Z1d.l0 k l (l.length:Int) 0 n=_:=run
 have hany:=Zqu (p:=fun x=>!(Zbe n x)) (l:=l) (n:=0)
 rw [← Yjb] at hany
 unfold Zrp Z1d
 rw [run,← hany]
 cases Zab (fun x=>!(Zbe n x)) l 0 with
 | none=>rfl
 | some m=>
  simp only [Ya,Yub];rw [Xa (by omega:(0:Int)≤(m:Int))]
theorem Z9ib (l:List Zk) (hl:l.length≤20) (k:Nat) (hk:20<k):∀(d i:Nat) (a:Int) (b:Bool),i+d=l.length→(Z3c (l.take i)).Nodup→∀j,d<j →
  Zbd.l0 k j l a b l (l.length:Int) (i:Int)=some (if (Z3c l).Nodup then .inl (b&&Ztg a (l.drop i)) else .inr 12):=by
 intro d
 induction d with
 | zero=>
  intro i a b hi hn j hj;obtain ⟨j,rfl⟩:∃q,j=q+1:=⟨j-1,by omega⟩;obtain rfl:i=l.length:=by omega
  rw [Yt] at hn;unfold Zbd.l0;rw [Zib (Yc _),Xc hn,Y6a];simp [Ztg]
 | succ d ih=>
  intro i a b hi hn j hj;obtain ⟨j,rfl⟩:∃q,j=q+1:=⟨j-1,by omega⟩;have hlt:i<l.length:=by omega
  rw [Zbd.l0,dlt hlt,Zm hlt,Zv (by omega)];simp only [Xe,Ya];rw [Y3 hlt]
  by_cases h5:(l[i]).1=5
  ·have hw:=Z1u h5
   have hn2:(Z3c (l.take (i+1))).Nodup:=by rw [Zbw hlt,hw];exact hn
   have e:((l[i]).1 != 5)=false:=by simp [h5]
   rw [e];simp only [Xf];rw [ih (i+1) _ _ (by omega) hn2 j (by omega)];simp only [Ztg,Xc h5,Bool.and_assoc]
  ·have hw:=Zss h5
   have e:((l[i]).1 != 5)=true:=by simpa using h5
   rw [e];simp only [Xe];rw [Zhkb l (l[i]).2.1 (by omega) k (by omega)];simp only [Ya]
   by_cases ht:Zcw l (l[i]).2.1<(i:Int)
   ·rw [Xa ht]
    have hin:=(Zbeb hlt hw).1 ht
    have hnd:¬(Z3c l).Nodup:=by
     intro hnd;have h3:=(Zaeb (l:=l) (i+1)).nodup hnd;rw [Zbw hlt,hw] at h3;simp only [if_true] at h3;exact (Y6.1 h3).2.2 _ hin _ (Yr.2 rfl) rfl
    rw [Xd hnd];rfl
   ·rw [Xb ht]
    have hn2:(Z3c (l.take (i+1))).Nodup:=by
     rw [Zbw hlt,hw];refine Y6.2 ⟨hn,Y7.2 ⟨(fun h=>nomatch h),Yz⟩,fun x hx y hy e=>?_⟩;rw [Yr.1 hy] at e;subst e;exact ht ((Zbeb hlt hw).2 hx)
    simp only [Xf];rw [ih (i+1) _ _ (by omega) hn2 j (by omega)];simp only [Ztg,Xd h5]
theorem Zdy (l:List Zk) (n:Int) (hl:l.length≤1048576):Zc fun k=>Zbd k l n=some (Zwb l n):=by
 refine Zc.ge (l.length+30) fun k hk=>?_
 unfold Zbd Zrj Zjb Zwb
 simp only [Ya]
 by_cases hb:1≤n∧n≤8
 ·rw [Xa hb.1,Xa hb.2]
  by_cases h20:20<l.length
  ·rw [Xa (by omega:(20:Int)<(l.length:Int)),Xc (.inl h20)]
   rfl
  ·rw [Xb (by omega:¬((20:Int)<(l.length:Int))),Z1ib l n hb.1 hb.2 hl k (by omega)]
   simp only [Y9,Yv,Y2a,Xf,Ya];cases ha:l.all (Zbe n) with
   | false=>rw [Xc (.inr (.inr rfl))];rfl
   | true=>
    rw [Xd (by rintro (h | h | h);exact h20 h;exact h hb;cases h)];simp only [Yv,Xf];have run:=Z9ib l (by omega) k (by omega) l.length 0 (-1) true (Yi _) Yz k (by omega);rw [Yda,Yja] at run;have run:Zbd.l0 k k l (-1) true l (l.length:Int) 0=_:=run;rw [run]
    by_cases hd:(Z3c l).Nodup
    ·rw [Xc hd,Xd (not_not_intro hd)]
     cases Ztg (-1) l <;> rfl
    ·rw [Xd hd,Xc hd]
     rfl
 ·have e:(!(decide (1≤n)&&decide (n≤8))||decide ((20:Int)<(l.length:Int)))=true:=by
   rw [show (decide (1≤n)&&decide (n≤8))=false by rw [Yaa,Ne,Yg,decide_eq_true_eq,decide_eq_true_eq];exact hb];rfl
  rw [e,Xc (.inr (.inl hb))];rfl
theorem Zonb (l:List Zk) (i:Nat) (hi:i<l.length) (hl:l.length≤1048576):∀(d c j:Nat),(hc:c+d=i)→d<j→(∀q,(hq:q<c)→isW l[i]=true→isW (l[q]'(by omega))=true→(l[q]'(by omega)).2.1≠(l[i]).2.1) →
  Z0.l1 j l (i:Int) (c:Int)=some (if isW l[i]=true∧(l[i]).2.1∈Z3c (l.take i) then .inr 12 else .inl ()):=by
 intro d
 induction d with
 | zero=>
  intro c j hc hj hq;obtain ⟨j,rfl⟩:∃q,j=q+1:=⟨j-1,by omega⟩;obtain rfl:c=i:=by omega
  unfold Z0.l1;rw [Zib (Yc _),Xd]
  ·rfl
  ·rintro ⟨h1,h2⟩
   obtain ⟨q,hq1,hq2,hq3,hq4⟩:=Zm3.1 h2;exact hq q hq2 h1 hq3 hq4
 | succ d ih=>
  intro c j hc hj hq;obtain ⟨j,rfl⟩:∃q,j=q+1:=⟨j-1,by omega⟩;have hcl:c<l.length:=by omega
  rw [Z0.l1,dlt (by omega:c<i),Zm hi,Zm hcl,Zv (by omega)];simp only [Xe,Ya]
  have go:(isW l[i]=true→isW l[c]=true→(l[c]).2.1≠(l[i]).2.1)→Z0.l1 j l (i:Int) ((c+1:Nat):Int)=some (if isW l[i]=true∧(l[i]).2.1∈Z3c (l.take i) then .inr 12 else .inl ()):=fun h=>by
   refine ih (c+1) j (by omega) (by omega) fun q hqc h1 h2=>?_
   rcases Yu q c with h3 | h3
   ·exact hq q h3 h1 h2
   ·obtain rfl:q=c:=by omega
    exact h h1 h2
  by_cases h5:(l[i]).1=5
  ·rw [show ((l[i]).1 != 5)=false by simp [h5]]
   simp only [Xf];exact go fun h1=>by rw [Z1u h5] at h1;cases h1
  ·rw [show ((l[i]).1 != 5)=true by simpa using h5]
   simp only [Xe]
   by_cases h6:(l[c]).1=5
   ·rw [show ((l[c]).1 != 5)=false by simp [h6]]
    simp only [Xf];exact go fun _ h1=>by rw [Z1u h6] at h1;cases h1
   ·rw [show ((l[c]).1 != 5)=true by simpa using h6]
    simp only [Xe]
    by_cases h7:(l[i]).2.1=(l[c]).2.1
    ·rw [show ((l[i]).2.1==(l[c]).2.1)=true by simpa using h7,Xc ⟨Zss h5,Zm3.2 ⟨c,hcl,by omega,Zss h6,h7.symm⟩⟩]
     rfl
    ·rw [show ((l[i]).2.1==(l[c]).2.1)=false by simpa using h7]
     simp only [Xf];exact go fun _ _ e=>h7 e.symm
theorem Zpnb (l:List Zk) (hl:l.length≤20) (k:Nat) (hk:20<k):∀(d i:Nat),i+d=l.length→(Z3c (l.take i)).Nodup→∀j,d<j →
  Z0.l2 k j l (i:Int)=some (if (Z3c l).Nodup then .inl () else .inr 12):=by
 intro d
 induction d with
 | zero=>
  intro i hi hn j hj;obtain ⟨j,rfl⟩:∃q,j=q+1:=⟨j-1,by omega⟩;obtain rfl:i=l.length:=by omega
  rw [Yt] at hn;unfold Z0.l2;rw [Zib (Yc _),Xc hn];rfl
 | succ d ih=>
  intro i hi hn j hj;obtain ⟨j,rfl⟩:∃q,j=q+1:=⟨j-1,by omega⟩;have hlt:i<l.length:=by omega
  rw [Z0.l2,dlt hlt,Zv (by omega)];have run:=Zonb l i hlt (by omega) i 0 k (Yi _) (by omega) (fun q hq=>by omega);have run:Z0.l1 k l (i:Int) 0=_:=run;simp only [Xe];rw [run]
  by_cases h:isW l[i]=true∧(l[i]).2.1∈Z3c (l.take i)
  ·rw [Xc h]
   have hnd:¬(Z3c l).Nodup:=by
    intro hnd;have h3:=(Zaeb (l:=l) (i+1)).nodup hnd;rw [Zbw hlt,h.1] at h3;simp only [if_true] at h3;exact (Y6.1 h3).2.2 _ h.2 _ (Yr.2 rfl) rfl
   rw [Xd hnd];rfl
  ·rw [Xd h]
   simp only [Ya];refine ih (i+1) (by omega) ?_ j (by omega);rw [Zbw hlt];split
   ·rename_i hw
    refine Y6.2 ⟨hn,Y7.2 ⟨(fun h=>nomatch h),Yz⟩,fun x hx y hy e=>?_⟩;rw [Yr.1 hy] at e;subst e;exact h ⟨hw,hx⟩
   ·exact hn
theorem Zqnb (l:List Zk) (hl:l.length≤20):∀(d i:Nat) (a:Int),i+d=l.length→∀j,d<j →
  Z0.l3 j l a (i:Int)=some (if Ztg a (l.drop i) then .inl () else .inr 8):=by
 intro d
 induction d with
 | zero=>
  intro i a hi j hj;obtain ⟨j,rfl⟩:∃q,j=q+1:=⟨j-1,by omega⟩;obtain rfl:i=l.length:=by omega
  unfold Z0.l3;rw [Zib (Yc _),Y6a];rfl
 | succ d ih=>
  intro i a hi j hj;obtain ⟨j,rfl⟩:∃q,j=q+1:=⟨j-1,by omega⟩;have hlt:i<l.length:=by omega
  rw [Z0.l3,dlt hlt,Zm hlt,Zv (by omega)];simp only [Xe,Ya];rw [Y3 hlt]
  by_cases h5:(l[i]).1=5
  ·rw [show ((l[i]).1 != 5)=false by simp [h5]]
   simp only [Xf,Ztg,Xc h5]
   by_cases h6:a<(l[i]).2.2.1
   ·rw [Xb (by omega:¬((l[i]).2.2.1≤a)),Xa h6,Yja]
    exact ih (i+1) _ (by omega) j (by omega)
   ·rw [Xa (by omega:(l[i]).2.2.1≤a),Xb h6]
    rfl
  ·rw [show ((l[i]).1 != 5)=true by simpa using h5]
   simp only [Xe,Ztg,Xd h5];exact ih (i+1) _ (by omega) j (by omega)
theorem Znnb (l:List Zk) (n:Int) (h1:1≤n) (h2:n≤8) (hl:l.length≤20):∀k,20<k→Z0.l0 k l n 0=some (if l.all (Zbe n) then .inl () else .inr 1):=by
 intro k hk
 have run:=Zki (fun j i=>Z0.l0 j l n i) l (fun x=>!(Zbe n x)) (.inl ()) (fun i=>.inr 1) (fun i hi=>by
  constructor
  ·intro hp j
   show Z0.l0 (j+1) l n (i:Int)=Z0.l0 j l n ((i+1:Nat):Int);rw [Z0.l0,dlt hi,Zm hi,Zv (by omega)];simp only [Xe,Ya];rw [Zbdb _ _ h1 h2];simp only [Ya,hp,Xf]
  ·intro hp j
   show Z0.l0 (j+1) l n (i:Int)=_;unfold Z0.l0;rw [dlt hi,Zm hi];simp only [Xe,Ya];rw [Zbdb _ _ h1 h2];simp only [Ya,hp,Xe]) (fun j=>by
  show Z0.l0 (j+1) l n (l.length:Int)=_;unfold Z0.l0;rw [Zib (Yc _)];rfl) (by omega:l.length<k)
 have run:Z0.l0 k l n 0=_:=run
 have hany:=Zqu (p:=fun x=>!(Zbe n x)) (l:=l) (n:=0)
 rw [← Yjb] at hany
 rw [run]
 cases hf:Zab (fun x=>!(Zbe n x)) l 0 with
 | none=>
  rw [hf] at hany;have:l.all (Zbe n)=true:=by simpa using hany.symm
  rw [this];rfl
 | some m=>
  rw [hf] at hany;have:l.all (Zbe n)=false:=by simpa using hany.symm
  rw [this];rfl
theorem Zcdb (l:List Zk) (n:Int) (hl:l.length≤1048576):Zc fun k=>Z0 k l n=some (Zwb l n):=by
 refine Zc.ge 30 fun k hk=>?_
 unfold Z0 Zld Zwb
 simp only [Ya]
 by_cases h20:20<l.length
 ·rw [Xa (by omega:(20:Int)<(l.length:Int)),Xc (.inl h20)]
  rfl
 rw [Xb (by omega:¬((20:Int)<(l.length:Int)))]
 simp only [Xf]
 by_cases hb:1≤n∧n≤8
 ·rw [Xa hb.1,Xa hb.2,Znnb l n hb.1 hb.2 (by omega) k (by omega)]
  simp only [Y9,Yv,Xf];cases ha:l.all (Zbe n) with
  | false=>simp only [Y2,if_false];rw [Xc (.inr (.inr True.intro))];rfl
  | true=>
   simp only [if_true,Ya];rw [Xd (by rintro (h | h | h);exact h20 h;exact h hb;cases h)];have r2:=Zpnb l (by omega) k (by omega) l.length 0 (Yi _) Yz k (by omega);have r2:Z0.l2 k k l 0=_:=r2;have r3:=Zqnb l (by omega) l.length 0 (-1) (Yi _) k (by omega);rw [Yda] at r3;have r3:Z0.l3 k l (-1) 0=_:=r3;rw [r2]
   by_cases hd:(Z3c l).Nodup
   ·rw [Xc hd,Xd (not_not_intro hd)]
    simp only [Ya];rw [r3];cases Ztg (-1) l <;> rfl
   ·rw [Xd hd,Xc hd]
    rfl
 ·have e:(decide (1≤n)&&decide (n≤8))=false:=by rw [Yaa,Ne,Yg,decide_eq_true_eq,decide_eq_true_eq];exact hb
  rw [e,Xc (.inr (.inl hb))];rfl
theorem Zue {l:List Zk} {n:Int} (h:Zwb l n=0):l.length≤20∧1≤n∧n≤8∧(∀x∈l,Zbe n x=true)∧(Z3c l).Nodup∧Ztg (-1) l=true:=by
 unfold Zwb at h
 split at h
 ·cases h
 ·rename_i h1
  split at h
  ·cases h
  ·rename_i h2
   split at h
   ·rename_i h3
    have h1a:¬20<l.length:=fun q=>h1 (.inl q)
    have h1b:1≤n∧n≤8:=Decidable.not_not.1 fun q=>h1 (.inr (.inl q))
    have h1c:l.all (Zbe n)=true:=by
     cases ha:l.all (Zbe n) with
     | true=>rfl
     | false=>exact absurd (.inr (.inr ha)) h1
    exact ⟨by omega,h1b.1,h1b.2,fun x hx=>List.all_eq_true.1 h1c x hx,Decidable.not_not.1 h2,h3⟩
   ·cases h
abbrev Zbc:=Int×Int×Int×Int
theorem Zgob (l:List Zk) (hl:l.length≤20):∀k,20<k→Z9d k l=some (Zj l):=by
 intro k hk
 have run:=Zalb (fun j (s:List Zk) i=>Z9d.l0 j l i s) l (fun s x=>.inl (if isW x then s++[x] else s)) (fun s=>s) (fun i s=>s=Zj (l.take i)) (fun i hi s hs=>by
  refine .inl ⟨_,rfl,?_,fun j=>?_⟩
  ·unfold Zj at hs ⊢
   rw [Z0j hi,Y4,hs]
   by_cases hw:isW l[i]=true
   ·rw [Xc hw];simp [hw]
   ·rw [Xd hw];simp [hw]
  ·show Z9d.l0 (j+1) l (i:Int) s=Z9d.l0 j l ((i+1:Nat):Int) (if isW l[i] then s++[l[i]] else s)
   have hsl:s.length≤20:=by
    rw [hs];refine Ynb (Yy _ _) ?_;rw [Yp];omega
   rw [Z9d.l0,dlt hi,Xa (by omega:(l.length:Int)≤20),Zm hi,Zv (by omega)];simp only [Y9,Xe,Ya]
   by_cases h5:(l[i]).1=5
   ·rw [show ((l[i]).1 != 5)=false by simp [h5],Z1u h5]
    rfl
   ·rw [show ((l[i]).1 != 5)=true by simpa using h5,Zss h5,Zsb (by simp;omega)]
    rfl) (fun s hs j=>by
  show Z9d.l0 (j+1) l (l.length:Int) s=some s;unfold Z9d.l0;rw [Zib (Yc _)];rfl) (s:=[]) rfl (by omega:l.length<k)
 have fold:∀(m s:List Zk),Zdl (fun s x=>.inl (if isW x then s++[x] else s)) (fun s=>s) m s=s++Zj m:=by
  intro m
  induction m with
  | nil=>intro s;simp [Zdl,Zj]
  | cons x m ih=>
   intro s;rw [Z6mb rfl,ih];unfold Zj
   by_cases hw:isW x=true
   ·rw [Xc hw,List.filter_cons_of_pos hw];simp
   ·rw [Xd hw,List.filter_cons_of_neg hw]
 rw [fold,List.nil_append] at run
 have run:Z9d.l0 k l 0 []=some (Zj l):=run
 unfold Z9d
 rw [run]
 rfl
theorem Zfjb (l:List Zk) (hl:l.length≤1048576):∀(d j0:Nat) (c:List Zk),j0+d=l.length→c.length=l.length→c.drop j0=l.drop j0→(Zj (l.take j0)).length≤j0→c.take (Zj (l.take j0)).length=Zj (l.take j0)→(Zj (l.take j0)).length<j0 →
  ∀j,d<j→∃c',Z2f.l0 j ((Zj (l.take j0)).length:Int) (j0:Int) c=some ((((Zj l).length:Nat):Int),c')∧c'.length=l.length∧c'.take (Zj l).length=Zj l:=by
 intro d
 induction d with
 | zero=>
  intro j0 c hj hc hd hle ht hlt j hjj;obtain ⟨j,rfl⟩:∃q,j=q+1:=⟨j-1,by omega⟩;obtain rfl:j0=l.length:=by omega
  rw [Yt] at ht ⊢;refine ⟨c,?_,hc,ht⟩;unfold Z2f.l0;rw [Zib (by omega:c.length≤l.length)];rfl
 | succ d ih=>
  intro j0 c hj hc hd hle ht hlt j hjj;obtain ⟨j,rfl⟩:∃q,j=q+1:=⟨j-1,by omega⟩;have h1:j0<l.length:=by omega
  have h2:j0<c.length:=by omega
  have hcj:c[j0]=l[j0]:=by
   have:=congrArg (fun z=>z[0]?) hd;simp only [List.getElem?_drop,Nat.add_zero] at this;rw [Ypa h2,Ypa h1] at this;exact Yza.inj this
  have hdrop:c.drop (j0+1)=l.drop (j0+1):=by
   have:=congrArg (fun z=>z.drop 1) hd;simpa [Yma,Ywa] using this
  rw [Z2f.l0,dlt h2,Zm h2,Zv (by omega)];simp only [Xe,Ya,Z2k,hcj]
  have htake:Zj (l.take (j0+1))=if isW l[j0] then Zj (l.take j0)++[l[j0]] else Zj (l.take j0):=by
   unfold Zj;rw [Z0j h1,Y4]
   by_cases hw:isW l[j0]=true
   ·rw [Xc hw];simp [hw]
   ·rw [Xd hw];simp [hw]
  generalize hW:Zj (l.take j0)=W at ht hle hlt htake ⊢
  by_cases h5:(l[j0]).1=5
  ·rw [show ((l[j0]).1==5)=true by simpa using h5]
   simp only [Yv,Xf];rw [Z1u h5] at htake;have htake:Zj (l.take (j0+1))=W:=htake;have:=ih (j0+1) c (by omega) hc hdrop (by rw [htake];omega) (by rw [htake];exact ht) (by rw [htake];omega) j (by omega);rw [htake] at this;exact this
  ·rw [show ((l[j0]).1==5)=false by simpa using h5]
   have hwl:W.length<c.length:=by omega
   rw [Zm hwl,Zv (by omega),Ye];simp only [Bool.not_false,Xe,Ya];rw [Zss h5] at htake;have htake:Zj (l.take (j0+1))=W++[l[j0]]:=htake;have hlen:(Zj (l.take (j0+1))).length=W.length+1:=by rw [htake];simp
   have:=ih (j0+1) (c.set W.length l[j0]) (by omega) (by simpa using hc) (by
    rw [List.drop_set_of_lt (by omega)];exact hdrop) (by omega) (by
    rw [hlen,htake,List.take_add_one,List.take_set_of_le (Yc _),ht,List.getElem?_set_self (by omega)];rfl) (by omega) j (by omega)
   rw [hlen] at this;exact this
theorem Zey (l:List Zk) (hl:l.length≤1048576):∀k,l.length<k→Z3i k l=some (Zj l):=by
 intro k hk
 have clone:Zcj l=some l:=by
  unfold Zcj;rw [Zsb (by simp;omega)];rfl
 have run:=Zki (fun j i=>Z3d.l0 j l (l.length:Int) i) l (fun x=>!(isW x)) (.inl ()) (fun i=>.inr (i:Int)) (fun i hi=>by
  have e:Z2k l[i]=some (!(isW l[i])):=by unfold Z2k isW;simp [bne]
  constructor
  ·intro hp j
   show Z3d.l0 (j+1) l (l.length:Int) (i:Int)=Z3d.l0 j l (l.length:Int) ((i+1:Nat):Int);rw [Z3d.l0,dlt hi,Zm hi,Zv (by omega)];simp only [Xe,Ya,e,hp,Xf]
  ·intro hp j
   show Z3d.l0 (j+1) l (l.length:Int) (i:Int)=_;unfold Z3d.l0;rw [dlt hi,Zm hi];simp only [Xe,Ya,e,hp]) (fun j=>by
  show Z3d.l0 (j+1) l (l.length:Int) (l.length:Int)=_;unfold Z3d.l0;rw [Zib (Yc _)];rfl) hk
 have run:Z3d.l0 k l (l.length:Int) 0=_:=run
 unfold Z3i
 rw [clone]
 simp only [Ya]
 unfold Z2f Z3d
 rw [run]
 cases hf:Zab (fun x=>!(isW x)) l 0 with
 | none=>
  have hall:=Zgo.1 hf
  have:Zj l=l:=by
   unfold Zj;exact Y8a.2 fun x hx=>by simpa using hall x hx
  rw [this];rfl
 | some m=>
  obtain ⟨_,h2,h3,h4⟩:=Zmj hf;have h2:m<l.length:=h2;have h3:(!(isW l[m]))=true:=h3;have h4:∀j,(hj:j<m)→(!(isW (l[j]'(by omega))))=false:=h4
  have hW:Zj (l.take m)=l.take m:=by
   unfold Zj;refine Y8a.2 fun x hx=>?_
   obtain ⟨j,hj,rfl⟩:=Yab hx;rw [Yp] at hj;rw [Ydb];simpa using h4 j (by omega)
  have hW2:Zj (l.take (m+1))=l.take m:=by
   have:Zj (l.take (m+1))=Zj (l.take m):=by
    unfold Zj;rw [Z0j h2,Y4];have:isW l[m]=false:=by simpa using h3
    simp [this]
   rw [this,hW]
  have hlen:(Zj (l.take (m+1))).length=m:=by rw [hW2,Yp];omega
  obtain ⟨c',e1,e2,e3⟩:=Zfjb l hl (l.length-(m+1)) (m+1) l (by omega) rfl rfl (by omega) (by rw [hlen,hW2]) (by omega) k (by omega);rw [hlen] at e1;have hne:(((m:Nat):Int) == -1)=false:=by rw [Zqh];exact Xb (by omega)
  simp only [Ya,hne,Xf];rw [Zv (by omega),e1];simp only [Ya];have hwl:(Zj l).length≤l.length:=Yy _ _
  have ht:Z9p (((Zj l).length:Nat):Int) c'.length=some ():=by
   unfold Z9p;rw [Xc ⟨by omega,by omega⟩]
  rw [ht];simp only [Ya,Ye]
  have hcut:Z9b (Yua (Zj l).length c'++Yd (c'.length-(Zj l).length) ((0,(0,(0,[]))):Zk)) 0 (((Zj l).length:Nat):Int)=some (Zj l):=by
   have hc:(Yua (Zj l).length c').length=(Zj l).length:=by rw [e3]
   have:=Zng (l:=Yua (Zj l).length c'++Yd (c'.length-(Zj l).length) ((0,(0,(0,[]))):Zk)) (i:=0) (j:=(Zj l).length) (Yia _) (by rw [Yo,hc];omega);rw [Yda,List.take_append_of_le_length (by rw [hc];omega)] at this;rw [e3] at this ⊢;rw [Yt] at this;exact this
  rw [hcut];rfl
def Zth (x:Zk) (b:Int):Bool:=((x.1==3)||(x.1==4))&&(x.2.2.1==b)
def wAt (w:List Zk) (i:Nat):Zk:=w.getD i (0,(0,(0,[])))
theorem Zed {w:List Zk} {i:Nat} (h:i<w.length):wAt w i=w[i]:=by
 unfold wAt
 rw [List.getD_eq_getElem?_getD,Ypa h]
 rfl
def Zjc (w:List Zk) (left:List Nat) (st:List Int) (i:Nat):Bool:=Zmf (wAt w i).2.1 st || !(left.any fun k=>(k != i)&&Zth (wAt w k) (wAt w i).2.1)
def Zeb (w:List Zk):Nat→List Nat→List Int→List Zbc
 | 0,_,_=>[]
 | _+1,[],_=>[]
 | n+1,i0::rest,st=>match (i0::rest).find? (Zjc w (i0::rest) st) with
  | some i=>(2,((i:Int),((wAt w i).2.1,0)))::Zeb w n ((i0::rest).erase i) st
  | none=>(1,((i0:Int),((wAt w i0).2.1,(st.length:Int))))::Zeb w n (i0::rest) (Z7c (wAt w i0).2.1 st)
def Zg (l:List Zk):List Zbc:=Zeb (Zj l) 40 (Yf (Zj l).length) []
theorem Zfv:∀(n:Nat) (l:List Nat),l.Nodup→(∀x∈l,x<n)→l.length≤n
 | 0,l,_,h=>by
  cases l with
  | nil=>exact Yc _
  | cons x l=>exact absurd (h x Yq) (Ys _)
 | n+1,l,hn,h=>by
  by_cases hm:n∈l
  ·have h1:=Zfv n (l.erase n) (hn.erase n) (fun x hx=>by
    have h2:=h x (Yib hx);have h3:=(hn.mem_erase_iff.1 hx).1;omega)
   rw [Yea hm] at h1;omega
  ·have:=Zfv n l hn (fun x hx=>by
    have h2:=h x hx;rcases Yu x n with h3 | h3
    ·exact h3
    ·have:x=n:=by omega
     exact absurd (this▸hx) hm)
   omega
theorem Zhp {l:List Int} (hn:l.Nodup) (h:∀x∈l,0≤x∧x≤7):l.length≤8:=by
 have:=Zfv 8 (l.map Int.toNat) (by
  refine List.pairwise_map.2 (hn.imp_of_mem fun {a b} ha hb hab e=>hab ?_);have:=h a ha;have:=h b hb;omega) (fun x hx=>by
  obtain ⟨y,hy,rfl⟩:=Yhb.1 hx;have:=h y hy;omega)
 simpa using this
structure PlanI (w:List Zk) (left:List Nat) (st:List Int):Prop where
 nd:left.Nodup
 lt:∀i∈left,i<w.length
 sd:st.Nodup
 sb:∀b∈st,0≤b∧b≤7
theorem Zns {k:Int} {l:List Int}:Zmf k l=true ↔ k∈l:=by
 unfold Zmf
 rw [Y5a]
 constructor
 ·rintro ⟨x,hx,e⟩
  have:k=x:=by simpa using e
  subst this;exact hx
 ·exact fun h=>⟨k,h,by simp⟩
theorem Z85 {k:Int} {l:List Int} (h:Zmf k l=false):Z7c k l=l++[k]:=by unfold Z7c;rw [h];rfl
theorem Z78 {w:List Zk} {left:List Nat} {st:List Int} {i:Nat} (h:Zjc w left st i=false):Zmf (wAt w i).2.1 st=false:=by
 unfold Zjc at h
 exact ((Bool.or_eq_false_iff).1 h).1
theorem PlanI.stash {w:List Zk} {i0:Nat} {rest:List Nat} {st:List Int} (h:PlanI w (i0::rest) st) (hw:∀x∈w,0≤x.2.1∧x.2.1≤7) (hf:(i0::rest).find? (Zjc w (i0::rest) st)=none):
  PlanI w (i0::rest) (Z7c (wAt w i0).2.1 st)∧(Z7c (wAt w i0).2.1 st).length=st.length+1∧Z7c (wAt w i0).2.1 st=st++[(wAt w i0).2.1]:=by
 have h0:=Y9a.1 hf i0 Yq
 have h1:=Z78 (Yaa.2 h0)
 have hi:=h.lt i0 Yq
 rw [Z85 h1]
 refine ⟨⟨h.nd,h.lt,?_,?_⟩,by simp,rfl⟩
 ·refine Y6.2 ⟨h.sd,Y7.2 ⟨(fun h=>nomatch h),Yz⟩,fun x hx y hy e=>?_⟩
  rw [Yr.1 hy] at e;subst e;rw [Zns.2 hx] at h1;cases h1
 ·intro b hb
  rcases Yga.1 hb with hb | hb
  ·exact h.sb b hb
  ·rw [Yr.1 hb,Zed hi]
   exact hw _ (Yh hi)
theorem PlanI.done {w:List Zk} {left:List Nat} {st:List Int} (h:PlanI w left st) (i:Nat):PlanI w (left.erase i) st:=⟨h.nd.erase i,fun j hj=>h.lt j (Yib hj),h.sd,h.sb⟩
def Z5 (l:List Nat):List Int:=List.map (fun (n:Nat)=>(n:Int)) l
theorem Zzu {l:List Nat} {i:Nat} (h:i<l.length):(Z5 l)[i]'(by simpa [Z5] using h)=((l[i]:Nat):Int):=by simp [Z5]
theorem Zrs (l:List Nat):(Z5 l).length=l.length:=by simp [Z5]
theorem Zajb (w:List Zk) (left:List Nat) (i:Nat) (b:Int) (hw:w.length≤1000) (hl:left.length≤1000) (hlt:∀q∈left,q<w.length):∀k,left.length<k →
  Zsp k (Z5 left) (i:Int) w b=some (left.any fun k=>(k != i)&&Zth (wAt w k) b,(i:Int),b):=by
 intro k hk
 have run:=Zki (fun j q=>Z4d.l0 j (Z5 left) w ((Z5 left).length:Int) q (i:Int) b) left (fun k=>(k != i)&&Zth (wAt w k) b) (.inl ((i:Int),b)) (fun q=>.inr ((q:Int),((i:Int),b))) (fun q hq=>by
  have hql:left[q]<w.length:=hlt _ (Yh hq);have hq':q<(Z5 left).length:=by rw [Zrs];exact hq
  have e:Z8o ((left[q]:Nat):Int) (i:Int) w b=some ((left[q] != i)&&Zth (wAt w left[q]) b):=by
   unfold Z8o
   by_cases hne:left[q]=i
   ·rw [show (((left[q]:Nat):Int) != (i:Int))=false by simp [hne],show (left[q] != i)=false by simp [hne]]
    rfl
   ·rw [show (((left[q]:Nat):Int) != (i:Int))=true by simp;omega,show (left[q] != i)=true by simpa using hne,Zm hql,Zed hql]
    rfl
  constructor
  ·intro hp j
   show Z4d.l0 (j+1) (Z5 left) w ((Z5 left).length:Int) (q:Int) (i:Int) b=Z4d.l0 j (Z5 left) w ((Z5 left).length:Int) ((q+1:Nat):Int) (i:Int) b;rw [Z4d.l0,dlt hq',Zm hq',Zv (by omega),Zzu hq];simp only [Xe,Ya,e,hp,Xf]
  ·intro hp j
   show Z4d.l0 (j+1) (Z5 left) w ((Z5 left).length:Int) (q:Int) (i:Int) b=_;rw [Z4d.l0,dlt hq',Zm hq',Zzu hq];simp only [Xe,Ya,e,hp]) (fun j=>by
  show Z4d.l0 (j+1) (Z5 left) w ((Z5 left).length:Int) (left.length:Int) (i:Int) b=_;unfold Z4d.l0;rw [Zib (by rw [Zrs];exact Yc _)];rfl) hk
 have run:Z4d.l0 k (Z5 left) w ((Z5 left).length:Int) 0 (i:Int) b=_:=run
 have hany:=Zqu (p:=fun k=>(k != i)&&Zth (wAt w k) b) (l:=left) (n:=0)
 unfold Zsp Z4d
 rw [run,← hany]
 cases Zab (fun k=>(k != i)&&Zth (wAt w k) b) left 0 with
 | none=>rfl
 | some m=>
  simp only [Ya,Yub];rw [Xa (by omega:(0:Int)≤(m:Int))]
theorem Znjb (w:List Zk) (left:List Nat) (st:List Int) (i:Nat) (hw:w.length≤1000) (hl:left.length≤1000) (hlt:∀q∈left,q<w.length) (hi:i<w.length):∀k,left.length<k →
  Z7o k (i:Int) w st (Z5 left)=some (Zjc w left st i,st):=by
 intro k hk
 unfold Z7o Zjc
 rw [Zm hi,Zed hi]
 simp only [Ya]
 cases Zmf (w[i]).2.1 st with
 | true=>rfl
 | false=>
  rw [Zajb w left i _ hw hl hlt k hk];rfl
theorem Zsjb (w:List Zk) (left:List Nat) (st:List Int) (hw:w.length≤1000) (hl:left.length≤1000) (hlt:∀q∈left,q<w.length):∀k,left.length<k →
  Zsd k (Z5 left) w st (Z5 left)=some (match Zab (Zjc w left st) left 0 with | some p=>(p:Int) | none=>-1,w,st):=by
 intro k hk
 have run:=Zki (fun j q=>Zsd.l0 k j (Z5 left) (Z5 left) ((Z5 left).length:Int) q w st) left (Zjc w left st) (.inl (w,st)) (fun q=>.inr ((q:Int),(w,st))) (fun q hq=>by
  have hql:left[q]<w.length:=hlt _ (Yh hq);have hq':q<(Z5 left).length:=by rw [Zrs];exact hq
  have e:=Znjb w left st left[q] hw hl hlt hql k hk;constructor
  ·intro hp j
   show Zsd.l0 k (j+1) (Z5 left) (Z5 left) ((Z5 left).length:Int) (q:Int) w st=Zsd.l0 k j (Z5 left) (Z5 left) ((Z5 left).length:Int) ((q+1:Nat):Int) w st;rw [Zsd.l0,dlt hq',Zm hq',Zv (by omega),Zzu hq];simp only [Xe,Ya,e,hp,Xf]
  ·intro hp j
   show Zsd.l0 k (j+1) (Z5 left) (Z5 left) ((Z5 left).length:Int) (q:Int) w st=_;rw [Zsd.l0,dlt hq',Zm hq',Zzu hq];simp only [Xe,Ya,e,hp]) (fun j=>by
  show Zsd.l0 k (j+1) (Z5 left) (Z5 left) ((Z5 left).length:Int) (left.length:Int) w st=_;unfold Zsd.l0;rw [Zib (by rw [Zrs];exact Yc _)];rfl) hk
 have run:Zsd.l0 k k (Z5 left) (Z5 left) ((Z5 left).length:Int) 0 w st=_:=run
 unfold Zsd
 rw [run]
 cases Zab (Zjc w left st) left 0 <;> rfl
theorem Zru {α:Type} {p:α→Bool}:∀{l:List α} {n:Nat},(Zab p l n=none∧l.find? p=none)∨∃i,∃h:i<l.length,Zab p l n=some (n+i)∧l.find? p=some l[i]∧∀j,(hj:j<i)→p (l[j]'(by omega))=false
 | [],n=>.inl ⟨rfl,rfl⟩
 | x::l,n=>by
  cases hp:p x with
  | true=>exact .inr ⟨0,by simp,by simp [Zab,hp],by simp [Yoa,hp],fun j hj=>absurd hj (Ys _)⟩
  | false=>
   have e1:Zab p (x::l) n=Zab p l (n+1):=by simp [Zab,hp]
   have e2:(x::l).find? p=l.find? p:=by simp [Yoa,hp]
   rw [e1,e2];rcases Zru (p:=p) (l:=l) (n:=n+1) with ⟨h1,h2⟩ | ⟨i,hi,h1,h2,h3⟩
   ·exact .inl ⟨h1,h2⟩
   ·refine .inr ⟨i+1,by simpa using hi,by rw [h1];congr 1;omega,by rw [h2];rfl,fun j hj=>?_⟩
    cases j with
    | zero=>exact hp
    | succ j=>exact h3 j (by omega)
theorem Zr8:∀{l:List Nat} {i:Nat} (h:i<l.length),l.Nodup→l.erase l[i]=l.take i++l.drop (i+1)
 | x::l,0,h,hn=>by simp
 | x::l,i+1,h,hn=>by
  have hi:i<l.length:=by simpa using h
  have hne:x≠l[i]:=fun e=>(Y7.1 hn).1 (e▸Yh hi)
  rw [List.getElem_cons_succ,List.erase_cons_tail (by simpa using hne),Zr8 hi (Y7.1 hn).2];rfl
theorem Zxjb (w:List Zk) (hw:w.length≤20) (hwb:∀x∈w,0≤x.2.1∧x.2.1≤7) (k:Nat) (hk:20<k):∀(d:Nat) (left:List Nat) (st:List Int) (out:List Zbc),PlanI w left st→left.length+(8-st.length)≤d→out.length+d≤100→∀n j,d<n→d<j →
  ∃f,Zpb.l1 k j w out (Z5 left) st=some (w,out++Zeb w n left st,f):=by
 intro d
 induction d with
 | zero=>
  intro left st out hI hd ho n j hn hj;obtain ⟨j,rfl⟩:∃q,j=q+1:=⟨j-1,by omega⟩;obtain ⟨n,rfl⟩:∃q,n=q+1:=⟨n-1,by omega⟩;obtain rfl:left=[]:=Y7a (by omega);refine ⟨(Z5 [],st),?_⟩;unfold Zpb.l1;rw [Xb (by simp [Z5]:¬((0:Int)<((Z5 ([]:List Nat)).length:Int)))];simp only [Xf,Zeb,Yw]
 | succ d ih=>
  intro left st out hI hd ho n j hn hj;obtain ⟨j,rfl⟩:∃q,j=q+1:=⟨j-1,by omega⟩;obtain ⟨n,rfl⟩:∃q,n=q+1:=⟨n-1,by omega⟩;have hll:left.length≤20:=Ynb (Zfv w.length left hI.nd hI.lt) hw;have hsl:=Zhp hI.sd hI.sb;cases left with
  | nil=>
   refine ⟨(Z5 [],st),?_⟩;unfold Zpb.l1;rw [Xb (by simp [Z5]:¬((0:Int)<((Z5 ([]:List Nat)).length:Int)))];simp only [Xf,Zeb,Yw]
  | cons i0 rest=>
   have hi0:=hI.lt i0 Yq;rw [Zpb.l1,Xa (by rw [Zrs,Yx];omega:(0:Int)<((Z5 (i0::rest)).length:Int)),Zsjb w (i0::rest) st (by omega) (by omega) hI.lt k (by omega)];simp only [Xe,Ya];rcases Zru (p:=Zjc w (i0::rest) st) (l:=i0::rest) (n:=0) with ⟨h1,h2⟩ | ⟨p,hp,h1,h2,h3⟩
   ·obtain ⟨g1,g2,g3⟩:=hI.stash hwb h2
    have hst:=Zhp g1.sd g1.sb;rw [g2] at hst;rw [h1];have e0:at? (Z5 (i0::rest)) 0=some (i0:Int):=rfl;rw [Xa (by decide:(-1:Int)<0),e0];simp only [Xe,Ya];rw [Zm hi0];simp only [Ya];rw [Zsb (by simp;omega)];simp only [Ya]
    have hp2:Zeb w (n+1) (i0::rest) st=(1,((i0:Int),((wAt w i0).2.1,(st.length:Int))))::Zeb w n (i0::rest) (Z7c (wAt w i0).2.1 st):=by
     simp only [Zeb,h2]
    rw [hp2,Zed hi0];rw [Zed hi0] at g1 g2;obtain ⟨f,hf⟩:=ih (i0::rest) (Z7c (w[i0]).2.1 st) (out++[(1,((i0:Int),((w[i0]).2.1,(st.length:Int))))]) g1 (by omega) (by simp;omega) n j (by omega) (by omega);exact ⟨f,by rw [hf,Yn];rfl⟩
   ·rw [h1,Yi]
    have hpi:p<(Z5 (i0::rest)).length:=by rw [Zrs];exact hp
    have hpl:=hI.lt _ (Yh hp);rw [Xb (by omega:¬((p:Int)<0)),Zm hpi,Zzu hp,Zv (by omega)];simp only [Xf,Ya];rw [Zm hpl];simp only [Ya];rw [Zsb (by simp;omega)]
    have hdel:slices_Delete_int (Z5 (i0::rest)) (p:Int) ((p+1:Nat):Int)=some (Z5 ((i0::rest).erase (i0::rest)[p])):=by
     unfold slices_Delete_int;rw [Xc ⟨by omega,by omega,by omega⟩,Ye,Ye,Zr8 hp hI.nd];simp [Z5,List.map_take,List.map_drop]
    rw [hdel];simp only [Ya]
    have hp2:Zeb w (n+1) (i0::rest) st=(2,(((i0::rest)[p]:Nat):Int),(wAt w (i0::rest)[p]).2.1,0)::Zeb w n ((i0::rest).erase (i0::rest)[p]) st:=by
     simp only [Zeb,h2]
    have hle:((i0::rest).erase (i0::rest)[p]).length=(i0::rest).length-1:=Yea (Yh hp);rw [hp2,Zed hpl]
    obtain ⟨f,hf⟩:=ih ((i0::rest).erase (i0::rest)[p]) st (out++[(2,((((i0::rest)[p]:Nat):Int),((w[(i0::rest)[p]]).2.1,0)))]) (hI.done _) (by
     rw [hle];have:(i0::rest).length=rest.length+1:=rfl;omega) (by simp;omega) n j (by omega) (by omega)
    exact ⟨f,by rw [hf,Yn];rfl⟩
theorem Zkjb (n:Nat) (hn:n≤20):∀k,n<k→Zpb.l0 k (n:Int) 0 (Yd n 0)=some (Z5 (Yf n)):=by
 intro k hk
 have run:=Zx7 (fun j i c=>Zpb.l0 j (n:Int) i c) (Z5 (Yf n)) (0:Int) (fun i hi c hc j=>by
  have hin:i<n:=by simpa [Z5] using hi
  have hl:(Z5 (Yf n)).length=n:=by simp [Z5]
  show Zpb.l0 (j+1) (n:Int) (i:Int) c=Zpb.l0 j (n:Int) ((i+1:Nat):Int) (c.set i (Z5 (Yf n))[i]);rw [Zpb.l0,dlt hin,Zm (by omega:i<c.length),Zv (by omega),Ye];simp [Z5]) (fun c j=>by
  show Zpb.l0 (j+1) (n:Int) ((Z5 (Yf n)).length:Int) c=some c;have hl:(Z5 (Yf n)).length=n:=by simp [Z5]
  unfold Zpb.l0;rw [hl,Zib (Yc _)];rfl) (k:=k) (by simp [Z5];omega)
 have hl:(Z5 (Yf n)).length=n:=by simp [Z5]
 rw [hl] at run
 exact run
theorem Z6v (w:List Zk):PlanI w (Yf w.length) []:=⟨List.nodup_range,fun i hi=>Yta.1 hi,Yz,fun b hb=>nomatch hb⟩
theorem Zos (l:List Zk) (hl:l.length≤20) (hb:∀x∈Zj l,0≤x.2.1∧x.2.1≤7):Zc fun k=>Zpb k l=some (Zg l):=by
 refine Zc.ge 60 fun k hk=>?_
 have hwl:(Zj l).length≤l.length:=Yy _ _
 unfold Zpb
 rw [Zey l (by omega) k (by omega)]
 simp only [Ya]
 rw [Zys (by omega)]
 simp only [Ya,Y5]
 rw [Zkjb _ (by omega) k (by omega)]
 simp only [Ya]
 obtain ⟨f,hf⟩:=Zxjb (Zj l) (by omega) hb k (by omega) 30 (Yf (Zj l).length) [] [] (Z6v _) (by simp;omega) (by simp) 40 k (by omega) (by omega)
 rw [hf]
 rfl
theorem Z9kb {R:Type} (L:Nat→Int→Option R) (n:Nat) (p:Nat→Bool) (a:R) (b:Nat→R)
  (hs:∀(i:Nat),i<n→(p i=false→∀j,L (j+1) (i:Int)=L j ((i+1:Nat):Int))∧(p i=true→∀j,L (j+1) (i:Int)=some (b i)))
  (he:∀j,L (j+1) (n:Int)=some a) {k:Nat} (hk:n<k):L k 0=some (match (Yf n).find? p with | some i=>b i | none=>a):=by
 have hl:(Yf n).length=n:=Yfb
 have run:=Zki L (Yf n) p a b (fun i hi=>by rw [Ybb];exact hs i (by omega)) (by rw [hl];exact he) (k:=k) (by rw [hl];exact hk)
 rw [run]
 rcases Zru (p:=p) (l:=Yf n) (n:=0) with ⟨h1,h2⟩ | ⟨q,hq,h1,h2,h3⟩
 ·rw [h1,h2]
 ·rw [h1,h2,Yi,Ybb]
def Zik:Option Nat→Int
 | some i=>(i:Int)
 | none=>-1
theorem Z83 (i:Nat):decide (Zik (some i)<0)=false:=Xb (by show ¬((i:Int)<0);omega)
theorem Zjbb:decide (Zik none<0)=true:=rfl
structure PlanR (w:List Zk) (left:List Nat) (st:List Int) (lB sB:List Bool):Prop where
 pi:PlanI w left st
 so:left.Pairwise (· < ·)
 ll:lB.length=w.length
 lm:∀i,(h:i<lB.length)→lB[i]=decide (i∈left)
 sl:sB.length=8
 sm:∀b:Nat,(h:b<sB.length)→sB[b]=Zmf (b:Int) st
section
variable {w:List Zk} {left:List Nat} {st:List Int} {lB sB:List Bool}
theorem PlanR.done (h:PlanR w left st lB sB) (i:Nat):PlanR w (left.erase i) st (lB.set i false) sB:=by
 refine ⟨h.pi.done i,h.so.sublist List.erase_sublist,by rw [Yfa];exact h.ll,fun q hq=>?_,h.sl,h.sm⟩
 rw [Yfa] at hq
 rw [Ycb]
 by_cases hi:i=q
 ·subst hi
  rw [Xc rfl,Xb];intro hm;exact (h.pi.nd.mem_erase_iff.1 hm).1 rfl
 ·rw [Xd hi,h.lm q hq,Yba,decide_eq_true_eq,decide_eq_true_eq,h.pi.nd.mem_erase_iff]
  exact ⟨fun g=>⟨fun e=>hi e.symm,g⟩,fun g=>g.2⟩
theorem PlanR.stash (h:PlanR w left st lB sB) {b:Nat} {st':List Int} (hp:PlanI w left st') (e:st'=st++[(b:Int)]):PlanR w left st' lB (sB.set b true):=by
 refine ⟨hp,h.so,h.ll,h.lm,by rw [Yfa];exact h.sl,fun q hq=>?_⟩
 rw [Yfa] at hq
 rw [Ycb,e]
 have ha:Zmf (q:Int) (st++[(b:Int)])=(Zmf (q:Int) st||((b:Int)==(q:Int)||(q:Int)==(b:Int))):=by
  rw [Yba,Zns,Y1a,Zns,Yga,Yr,Y1a,beq_iff_eq,beq_iff_eq];constructor
  ·rintro (g | g)
   ·exact .inl g
   ·exact .inr (.inr g)
  ·rintro (g | g | g)
   ·exact .inl g
   ·exact .inr g.symm
   ·exact .inr g
 rw [ha]
 by_cases hb:b=q
 ·subst hb
  rw [Xc rfl];simp
 ·rw [Xd hb,h.sm q hq]
  have e1:((b:Int)==(q:Int))=false:=by rw [Zqh];exact Xb (by omega)
  have e2:((q:Int)==(b:Int))=false:=by rw [Zqh];exact Xb (by omega)
  rw [e1,e2];simp
theorem Zlnb (h:PlanR w left st lB sB) (hw:w.length≤20) (hwb:∀x∈w,0≤x.2.1∧x.2.1≤7) (i:Nat) (hi:i<w.length):∀k,20<k→Z2c k w lB sB (i:Int)=some (!(Zjc w left st i)):=by
 intro k hk
 obtain ⟨h0,h7⟩:=hwb _ (Yh hi)
 obtain ⟨b,hb⟩:=Y3a h0
 have hbs:b<sB.length:=by have:=h.sl;omega
 have run:=Z9kb (fun j q=>Z2c.l0 j w lB (i:Int) q) w.length (fun q=>(q != i)&&(decide (q∈left)&&Zth (wAt w q) (wAt w i).2.1)) (.inl ()) (fun _=>.inr true) (fun q hq=>by
  have hql:q<lB.length:=by have:=h.ll;omega
  have e0:Zor w[q] (w[i]).2.1=some (Zth (wAt w q) (wAt w i).2.1):=by rw [Zed hq,Zed hi];rfl
  have key:∀j,Z2c.l0 (j+1) w lB (i:Int) (q:Int)=if ((q != i)&&(decide (q∈left)&&Zth (wAt w q) (wAt w i).2.1))=true then some (.inr true) else Z2c.l0 j w lB (i:Int) ((q+1:Nat):Int):=by
   intro j;rw [Z2c.l0,dlt hq,Zm hql,Zm hq,Zm hi,Zv (by omega),h.lm q hql];simp only [Xe,Ya,e0]
   by_cases hne:q=i
   ·rw [show ((q:Int) != (i:Int))=false by simp [hne],show (q != i)=false by simp [hne]]
    rfl
   ·rw [show ((q:Int) != (i:Int))=true by simp;omega,show (q != i)=true by simpa using hne]
    cases decide (q∈left) with
    | false=>rfl
    | true=>cases Zth (wAt w q) (wAt w i).2.1 <;> rfl
  constructor
  ·intro hp j
   show Z2c.l0 (j+1) w lB (i:Int) (q:Int)=Z2c.l0 j w lB (i:Int) ((q+1:Nat):Int);rw [key,Xd (by rw [hp];exact Bool.false_ne_true)]
  ·intro hp j
   show Z2c.l0 (j+1) w lB (i:Int) (q:Int)=_;rw [key,Xc hp]) (fun j=>by
  show Z2c.l0 (j+1) w lB (i:Int) (w.length:Int)=_;unfold Z2c.l0;rw [Zib (Yc _)];rfl) (by omega:w.length<k)
 have run:Z2c.l0 k w lB (i:Int) 0=_:=run
 unfold Z2c Zjc
 rw [Zm hi,Zed hi]
 simp only [Ya]
 have hat:at? sB (w[i]).2.1=some (Zmf (w[i]).2.1 st):=by
  rw [hb,Zm hbs,h.sm b hbs]
 rw [hat]
 simp only [Ya]
 cases Zmf (w[i]).2.1 st with
 | true=>rfl
 | false=>
  simp only [Xf,Bool.false_or,Bool.not_not];rw [run];rw [Zed hi];cases hf:(Yf w.length).find? (fun q=>(q != i)&&(decide (q∈left)&&Zth (wAt w q) (w[i]).2.1)) with
  | none=>
   have:=Y9a.1 hf
   have:(left.any fun k=>(k != i)&&Zth (wAt w k) (w[i]).2.1)=false:=by
    rw [List.any_eq_false];intro x hx hc;refine this x (Yta.2 (h.pi.lt x hx)) ?_;rw [Xa hx,Yja];exact hc
   rw [this];rfl
  | some q=>
   have h1:=List.find?_some hf
   have:(left.any fun k=>(k != i)&&Zth (wAt w k) (w[i]).2.1)=true:=by
    rw [Y5a];simp only [Yg,decide_eq_true_eq] at h1;exact ⟨q,h1.2.1,by rw [Yg];exact ⟨h1.1,h1.2.2⟩⟩
   rw [this];rfl
theorem Z2nb (h:PlanR w left st lB sB) (hw:w.length≤20) (hwb:∀x∈w,0≤x.2.1∧x.2.1≤7) (k:Nat) (hk:20<k):∀(d i:Nat) (dn todo:List Nat),i+d=w.length→left=dn++todo→(∀x∈dn,x<i)→(∀x∈todo,i≤x)→∀j,d<j →
  Zmd.l0 k j w lB sB (Zik (dn.find? (Zjc w left st))) (Zik dn.head?) (i:Int)=some (Zik (left.find? (Zjc w left st)),Zik left.head?):=by
 intro d
 induction d with
 | zero=>
  intro i dn todo hi hl h1 h2 j hj;obtain ⟨j,rfl⟩:∃q,j=q+1:=⟨j-1,by omega⟩;obtain rfl:i=w.length:=by omega
  have ht:todo=[]:=by
   cases todo with
   | nil=>rfl
   | cons y t=>
    have:=h2 y Yq;have:=h.pi.lt y (by rw [hl];exact Ygb _ Yq);omega
  subst ht;rw [Yw] at hl;rw [← hl];unfold Zmd.l0;rw [Zib (Yc _)];rfl
 | succ d ih=>
  intro i dn todo hi hl h1 h2 j hj;obtain ⟨j,rfl⟩:∃q,j=q+1:=⟨j-1,by omega⟩;have hiw:i<w.length:=by omega
  have hil:i<lB.length:=by have:=h.ll;omega
  rw [Zmd.l0,dlt hiw,Zm hil,Zv (by omega),h.lm i hil,Zlnb h hw hwb i hiw k hk];simp only [Xe,Ya]
  by_cases hm:i∈left
  ·rw [Xa hm]
   have hit:i∈todo:=by
    rw [hl] at hm;rcases Yga.1 hm with g | g
    ·exact absurd (h1 i g) (Nat.lt_irrefl _)
    ·exact g
   have hso:=h.so;rw [hl] at hso;have hst:=(List.pairwise_append.1 hso).2.1;cases todo with
   | nil=>exact nomatch hit
   | cons y t=>
    have hyt:=List.pairwise_cons.1 hst
    have hyi:y=i:=by
     rcases List.mem_cons.1 hit with g | g
     ·exact g.symm
     ·have:=hyt.1 i g
      have:=h2 y Yq;omega
    subst hyi
    have ih':=ih (y+1) (dn++[y]) t (by omega) (by rw [hl,Yn];rfl) (fun x hx=>by
     rcases Yga.1 hx with g | g
     ·have:=h1 x g;omega
     ·rw [Yr.1 g];omega) (fun x hx=>hyt.1 x hx) j (by omega)
    have eA:(dn++[y]).find? (Zjc w left st)=(dn.find? (Zjc w left st)).or (if Zjc w left st y then some y else none):=by
     rw [List.find?_append];congr 1;unfold Yoa;cases Zjc w left st y <;> rfl
    have eB:(dn++[y]).head? = (dn.head?).or (some y):=by cases dn <;> rfl
    rw [eA,eB] at ih';simp only [Yv,Xf];cases hB:dn.head? with
    | none=>
     have hdn:dn=[]:=by cases dn with | nil=>rfl | cons a b=>cases hB
     subst hdn;rw [hB] at ih';have e1:(([]:List Nat).find? (Zjc w left st))=none:=rfl;rw [e1] at ih' ⊢;rw [Zjbb];simp only [Xe];cases hf:Zjc w left st y with
     | true=>rw [hf] at ih';exact ih'
     | false=>rw [hf] at ih';exact ih'
    | some a=>
     rw [hB] at ih';rw [Z83];simp only [Xf];cases hA:dn.find? (Zjc w left st) with
     | none=>
      rw [hA] at ih';rw [Zjbb];simp only [Xe];cases hf:Zjc w left st y with
      | true=>rw [hf] at ih';exact ih'
      | false=>rw [hf] at ih';exact ih'
     | some c=>
      rw [hA] at ih';rw [Z83];exact ih'
  ·rw [Xb hm]
   exact ih (i+1) dn todo (by omega) hl (fun x hx=>by have:=h1 x hx;omega) (fun x hx=>by
    have:=h2 x hx;rcases Yu i x with g | g
    ·exact g
    ·have:x=i:=by omega
     subst this;exact absurd (by rw [hl];exact Ygb _ hx) hm) j (by omega)
theorem Z54 (h:PlanR w left st lB sB) (hw:w.length≤20) (hwb:∀x∈w,0≤x.2.1∧x.2.1≤7) (k:Nat) (hk:21<k):Zmd k w lB sB=some (Zik (left.find? (Zjc w left st)),Zik left.head?):=by
 have run:=Z2nb h hw hwb k (by omega) w.length 0 [] left (Yi _) rfl (fun x hx=>nomatch hx) (fun x _=>Yia x) k (by omega)
 have run:Zmd.l0 k k w lB sB (-1) (-1) 0=_:=run
 unfold Zmd
 rw [run]
 rfl
end
theorem Z4nb (w:List Zk) (hw:w.length≤20) (hwb:∀x∈w,0≤x.2.1∧x.2.1≤7) (k:Nat) (hk:21<k):∀(d:Nat) (left:List Nat) (st:List Int) (lB sB:List Bool) (out:List Zbc),PlanR w left st lB sB→left.length+(8-st.length)≤d→out.length+d≤100→∀n j,d<n→d<j →
  Zzb.l1 k j (st.length:Int) w lB sB out=some (out++Zeb w n left st):=by
 intro d
 induction d with
 | zero=>
  intro left st lB sB out hI hd ho n j hn hj;obtain ⟨j,rfl⟩:∃q,j=q+1:=⟨j-1,by omega⟩;obtain ⟨n,rfl⟩:∃q,n=q+1:=⟨n-1,by omega⟩;obtain rfl:left=[]:=Y7a (by omega);unfold Zzb.l1;rw [Z54 hI hw hwb k hk];simp only [Zeb,Yw];rfl
 | succ d ih=>
  intro left st lB sB out hI hd ho n j hn hj;obtain ⟨j,rfl⟩:∃q,j=q+1:=⟨j-1,by omega⟩;obtain ⟨n,rfl⟩:∃q,n=q+1:=⟨n-1,by omega⟩;have hsl:=Zhp hI.pi.sd hI.pi.sb;cases left with
  | nil=>
   unfold Zzb.l1;rw [Z54 hI hw hwb k hk];simp only [Zeb,Yw];rfl
  | cons i0 rest=>
   have hi0:=hI.pi.lt i0 Yq;rw [Zzb.l1,Z54 hI hw hwb k hk];simp only [Ya];rw [show (i0::rest).head? = some i0 from rfl,Z83];simp only [Xf];rcases Zru (p:=Zjc w (i0::rest) st) (l:=i0::rest) (n:=0) with ⟨h1,h2⟩ | ⟨p,hp,h1,h2,h3⟩
   ·obtain ⟨g1,g2,g3⟩:=hI.pi.stash hwb h2
    have hst:=Zhp g1.sd g1.sb;rw [g2] at hst;rw [h2]
    have hp2:Zeb w (n+1) (i0::rest) st=(1,((i0:Int),((wAt w i0).2.1,(st.length:Int))))::Zeb w n (i0::rest) (Z7c (wAt w i0).2.1 st):=by
     simp only [Zeb,h2]
    rw [hp2,Zed hi0];rw [Zed hi0] at g1 g2 g3;obtain ⟨q0,q7⟩:=hwb _ (Yh hi0);obtain ⟨b,hb⟩:=Y3a q0;have hb:(w[i0]).2.1=(b:Int):=hb;have hbs:b<sB.length:=by have:=hI.sl;omega
    rw [show decide (0≤Zik none)=false from rfl,show Zik (some i0)=(i0:Int) from rfl,Zm hi0,Zv (by omega)];simp only [Xf,Ya];rw [Zsb (by simp;omega),hb,Zm hbs];simp only [Ya,Ye];rw [hb] at g1 g2 g3;have:=ih (i0::rest) (Z7c (b:Int) st) lB (sB.set b true) (out++[(1,((i0:Int),((b:Int),(st.length:Int))))]) (hI.stash g1 g3) (by omega) (by simp;omega) n j (by omega) (by omega);rw [g2] at this;rw [this,Yn];rfl
   ·rw [h2]
    have hpl:=hI.pi.lt _ (Yh hp);have hll:(i0::rest)[p]<lB.length:=by have:=hI.ll;omega
    have hp2:Zeb w (n+1) (i0::rest) st=(2,(((i0::rest)[p]:Nat):Int),(wAt w (i0::rest)[p]).2.1,0)::Zeb w n ((i0::rest).erase (i0::rest)[p]) st:=by
     simp only [Zeb,h2]
    have hle:((i0::rest).erase (i0::rest)[p]).length=(i0::rest).length-1:=Yea (Yh hp);rw [hp2,Zed hpl];rw [show decide (0≤Zik (some (i0::rest)[p]))=true from Xa (Int.natCast_nonneg _),show Zik (some (i0::rest)[p])=(((i0::rest)[p]:Nat):Int) from rfl,Zm hpl,Zm hll];simp only [Xe,Ya,Ye];rw [Zsb (by simp;omega)];simp only [Ya]
    rw [ih ((i0::rest).erase (i0::rest)[p]) st (lB.set (i0::rest)[p] false) sB (out++[(2,((((i0::rest)[p]:Nat):Int),((w[(i0::rest)[p]]).2.1,0)))]) (hI.done _) (by
     rw [hle];have:(i0::rest).length=rest.length+1:=rfl;omega) (by simp;omega) n j (by omega) (by omega),Yn]
    rfl
theorem Ztnb (w:List Zk) (hw:w.length≤20):∀k,w.length<k→Zzb.l0 k 0 w (Yd w.length false)=some (w,Yd w.length true):=by
 intro k hk
 have run:=Zx7 (fun j i c=>(Zzb.l0 j i w c).map fun p=>p.2) (Yd w.length true) false (fun i hi c hc j=>by
  have hiw:i<w.length:=by simpa using hi
  have hic:i<c.length:=by rw [hc];exact hi
  show (Zzb.l0 (j+1) (i:Int) w c).map _=(Zzb.l0 j ((i+1:Nat):Int) w (c.set i (Yd w.length true)[i])).map _;rw [Zzb.l0,dlt hiw,Zm hic,Zv (by omega),Ye,Yqa];rfl) (fun c j=>by
  show (Zzb.l0 (j+1) ((Yd w.length true).length:Int) w c).map _=some c;unfold Zzb.l0;rw [Zib (by simp)];rfl) (k:=k) (by simpa using hk)
 have fst:∀(d i:Nat) (c:List Bool) (r:List Zk×List Bool),i+d=w.length→∀j,Zzb.l0 j (i:Int) w c=some r→r.1=w:=by
  intro d
  induction d with
  | zero=>
   intro i c r hi j h;cases j with
   | zero=>cases h
   | succ j=>
    unfold Zzb.l0 at h;rw [Zib (by omega:w.length≤i)] at h;cases h;rfl
  | succ d ih=>
   intro i c r hi j h;cases j with
   | zero=>cases h
   | succ j=>
    rw [Zzb.l0,dlt (by omega:i<w.length),Zv (by omega)] at h;simp only [Xe] at h;cases ha:at? c (i:Int) with
    | none=>rw [ha] at h;cases h
    | some v=>
     rw [ha] at h;exact ih (i+1) _ r (by omega) j h
 rw [Y5] at run
 have run:(Zzb.l0 k 0 w (Yd w.length false)).map (fun p=>p.2)=some (Yd w.length true):=run
 cases hr:Zzb.l0 k 0 w (Yd w.length false) with
 | none=>rw [hr] at run;cases run
 | some r=>
  rw [hr] at run;have h1:=fst w.length 0 _ r (Yi _) k hr;have h2:r.2=Yd w.length true:=Yza.inj run;obtain ⟨r1,r2⟩:=r;have h1:r1=w:=h1;have h2:r2=Yd w.length true:=h2;rw [h1,h2]
theorem Z1ob (w:List Zk):PlanR w (Yf w.length) [] (Yd w.length true) (Yd 8 false):=by
 refine ⟨Z6v w,List.pairwise_lt_range,Y5,fun i hi=>?_,Y5,fun b hb=>?_⟩
 ·rw [Y5] at hi
  rw [Yqa,Xa (Yta.2 hi)]
 ·rw [Yqa]
  rfl
theorem Zjp (l:List Zk) (hl:l.length≤20) (hb:∀x∈Zj l,0≤x.2.1∧x.2.1≤7):(Zg l).length≤28:=by
 have hwl:(Zj l).length≤l.length:=Yy _ _
 have key:∀(n:Nat) (left:List Nat) (st:List Int),PlanI (Zj l) left st→(Zeb (Zj l) n left st).length≤left.length+(8-st.length):=by
  intro n
  induction n with
  | zero=>intro left st h;exact Yia _
  | succ n ih=>
   intro left st h;cases left with
   | nil=>exact Yia _
   | cons i0 rest=>
    rcases Zru (p:=Zjc (Zj l) (i0::rest) st) (l:=i0::rest) (n:=0) with ⟨h1,h2⟩ | ⟨p,hp,h1,h2,h3⟩
    ·obtain ⟨g1,g2,g3⟩:=h.stash hb h2
     have hst:=Zhp g1.sd g1.sb;have:=ih _ _ g1;simp only [Zeb,h2,Yx] at this ⊢;omega
    ·have:=ih _ _ (h.done (i0::rest)[p])
     have hle:((i0::rest).erase (i0::rest)[p]).length=(i0::rest).length-1:=Yea (Yh hp);rw [hle] at this;simp only [Zeb,h2,Yx] at this ⊢;omega
 have:=key 40 _ _ (Z6v (Zj l))
 rw [Yfb,List.length_nil] at this
 unfold Zg
 omega
theorem Z8cb (l:List Zk) (hl:l.length≤20) (hb:∀x∈Zj l,0≤x.2.1∧x.2.1≤7):∀k,60≤k→Zzb k l=some (Zg l):=by
 intro k hk
 have hwl:(Zj l).length≤l.length:=Yy _ _
 unfold Zzb
 rw [Zgob l hl k (by omega)]
 simp only [Ya]
 rw [Zys (by omega)]
 simp only [Ya]
 rw [Ztnb _ (by omega) k (by omega)]
 simp only [Ya]
 rw [show Zrg 1 8 8 false=some (Yd 8 false) from Zys (n:=8) (by omega)]
 simp only [Ya]
 have run:=Z4nb (Zj l) (by omega) hb k (by omega) 30 _ [] _ _ [] (Z1ob _) (by simp;omega) (by simp) 40 k (by omega) (by omega)
 have run:Zzb.l1 k k 0 (Zj l) (Yd (Zj l).length true) (Yd 8 false) []=_:=run
 rw [run]
 rfl
def Zob (l:List Zbc):Int:=(((l.filter fun m=>m.1==1).length:Nat):Int)
theorem Z5v {l:List Zbc} {i:Nat} (h:i<l.length):Zob (l.take (i+1))=if (l[i]).1=1 then Zob (l.take i)+1 else Zob (l.take i):=by
 unfold Zob
 rw [Z0j h,Y4]
 split
 ·rename_i hw;simp [hw]
 ·rename_i hw;simp [hw]
theorem Z4v (l:List Zbc):0≤Zob l∧Zob l≤(l.length:Int):=by
 unfold Zob
 have:=Yy (fun m:Zbc=>m.1==1) l
 omega
theorem Zadb (l:List Zbc) (hl:l.length≤40):∀k,41≤k→Zgf k l=some (Zob l):=by
 intro k hk
 have key:∀(d i:Nat),i+d=l.length→∀j,d<j→Zgf.l0 j l (Zob (l.take i)) (i:Int)=some (Zob l):=by
  intro d
  induction d with
  | zero=>
   intro i hi j hj;obtain ⟨j,rfl⟩:∃q,j=q+1:=⟨j-1,by omega⟩;obtain rfl:i=l.length:=by omega
   unfold Zgf.l0;rw [Zib (Yc _),Yt];rfl
  | succ d ih=>
   intro i hi j hj;obtain ⟨j,rfl⟩:∃q,j=q+1:=⟨j-1,by omega⟩;have h:i<l.length:=by omega
   have hb:=Z4v (l.take i);have hbl:(l.take i).length≤40:=by rw [Yp];omega
   have:=ih (i+1) (by omega) j (by omega);rw [Z5v h] at this;rw [Zgf.l0,dlt h,Xa (by omega:(l.length:Int)≤40),Zm h,Zv (by omega),w64 (n:=Zob (l.take i)+1) (by omega) (by omega)];simp only [Y9,Xe,Ya]
   by_cases h1:(l[i]).1=1
   ·rw [Xc h1] at this
    rw [show ((l[i]).1==1)=true by simpa using h1];exact this
   ·rw [Xd h1] at this
    rw [show ((l[i]).1==1)=false by simpa using h1];exact this
 have run:=key l.length 0 (Yi _) k (by omega)
 have run:Zgf.l0 k l 0 0=_:=run
 unfold Zgf
 rw [run]
 rfl
theorem Zy9 (l:List Zbc) (hl:l.length≤40):∀k,41≤k→Zme k l=some (Zob l):=by
 intro k hk
 have key:∀(d i:Nat),i+d=l.length→∀j,d<j→Zme.l0 j (Zob (l.take i)) l (l.length:Int) (i:Int)=some (Zob l):=by
  intro d
  induction d with
  | zero=>
   intro i hi j hj;obtain ⟨j,rfl⟩:∃q,j=q+1:=⟨j-1,by omega⟩;obtain rfl:i=l.length:=by omega
   unfold Zme.l0;rw [Zib (Yc _),Yt];rfl
  | succ d ih=>
   intro i hi j hj;obtain ⟨j,rfl⟩:∃q,j=q+1:=⟨j-1,by omega⟩;have h:i<l.length:=by omega
   have hb:=Z4v (l.take i);have hbl:(l.take i).length≤40:=by rw [Yp];omega
   have:=ih (i+1) (by omega) j (by omega);rw [Z5v h] at this;rw [Zme.l0,dlt h,Zm h,Zv (by omega),w64 (n:=Zob (l.take i)+1) (by omega) (by omega)];simp only [Xe,Ya]
   by_cases h1:(l[i]).1=1
   ·rw [Xc h1] at this
    rw [show ((l[i]).1==1)=true by simpa using h1];exact this
   ·rw [Xd h1] at this
    rw [show ((l[i]).1==1)=false by simpa using h1];exact this
 have run:=key l.length 0 (Yi _) k (by omega)
 have run:Zme.l0 k 0 l (l.length:Int) 0=_:=run
 unfold Zme
 rw [run]
 rfl
theorem Zrh {l:List Zk} {n:Int} (h:Zwb l n=0):∀x∈Zj l,0≤x.2.1∧x.2.1≤7:=by
 obtain ⟨_,h1,h2,h3,_,_⟩:=Zue h
 intro x hx
 unfold Zj at hx
 rw [Ysa] at hx
 have hs:=h3 x hx.1
 have hw:=hx.2
 unfold isW at hw
 have h5:x.1≠5:=by simpa using hw
 unfold Zbe Zxc at hs
 rw [Xd h5] at hs
 split at hs
 ·simp only [Yg,decide_eq_true_eq] at hs;omega
 ·split at hs
  ·simp only [Yg,decide_eq_true_eq] at hs;omega
  ·split at hs
   ·simp only [Yg,decide_eq_true_eq] at hs;omega
   ·split at hs
    ·simp only [Yg,decide_eq_true_eq] at hs;omega
    ·cases hs
theorem Z5nb (l:List Zk) (n:Int) (h:Zwb l n=0):Zc fun k=>Zlm k l n=some (Zg l,0):=by
 have hl:=(Zue h).1
 refine ((Zcdb l n (by omega)).and (Zc.ge 60 fun k hk=>hk)).mono fun k hk=>?_
 unfold Zlm
 rw [Xb (by omega:¬((400:Int)<(l.length:Int))),hk.1,h,Z8cb l hl (Zrh h) k hk.2]
 rfl
end Go.Proofs.Qz
