/- What the law FnTried needs, part 10 of 14: the Lean functions of the Go functions that it reaches, with the proofs that the calls come to what they say, and plain facts about them. Conditions: those that each theorem states. Written by a session and by its programs (after the kit's printer). -/
import Derived.Laws.BitsLemmas
import Derived.Test.YtpcllejjdmmjcaaGreatDoorXFnTried8
open Option renaming bind_some → Ya, some → Yza, isSome_some → Yub
open Go.IntKind renaming wrap → Yb, bits → Yca, signed → Yla
open Nat renaming le_refl → Yc, zero_add → Yi, mod_eq_of_lt → Yk, not_lt_zero → Ys, lt_or_ge → Yu, pow_succ → Y0, mul_comm → Y8, xor_assoc → Yha, zero_le → Yia, add_assoc → Yva, add_comm → Ywa, mul_le_mul_right → Yxa, xor_comm → Yya, and_one_is_mod → Ylb, div_lt_of_lt_mul → Ymb, le_trans → Ynb, min_eq_left → Yob, mul_assoc → Ypb, pow_le_pow_right → Yqb, pow_zero → Yrb, xor_lt_two_pow → Ysb, xor_zero → Ytb
open List renaming replicate → Yd, range → Yf, getElem_mem → Yh, append_assoc → Yn, length_append → Yo, length_take → Yp, mem_cons_self → Yq, mem_singleton → Yr, take_length → Yt, append_nil → Yw, length_cons → Yx, length_filter_le → Yy, nodup_nil → Yz, drop_eq_getElem_cons → Y3, filter_append → Y4, length_replicate → Y5, nodup_append → Y6, nodup_cons → Y7, drop_zero → Yda, length_erase_of_mem → Yea, length_set → Yfa, mem_append → Yga, drop_drop → Yma, drop_eq_nil_of_le → Yna, find? → Yoa, getElem?_eq_getElem → Ypa, getElem_replicate → Yqa, length_drop → Yra, mem_filter → Ysa, mem_range → Yta, take → Yua, any_eq_true → Y5a, drop_length → Y6a, eq_nil_of_length_eq_zero → Y7a, filter_eq_self → Y8a, find?_eq_none → Y9a, getElem_of_mem → Yab, getElem_range → Ybb, getElem_set → Ycb, getElem_take → Ydb, length → Yeb, length_range → Yfb, mem_append_right → Ygb, mem_map → Yhb, mem_of_mem_erase → Yib, not_all_eq_any_not → Yjb, take_append_drop → Ykb
open Int renaming toNat_natCast → Ye, tmod_eq_emod_of_nonneg → Yka, eq_ofNat_of_zero_le → Y3a, tdiv_eq_ediv_of_nonneg → Y4a
open Bool renaming and_eq_true → Yg, not_true → Yv, and_false → Y1, false_eq_true → Y2, and_self → Y9, eq_false_iff → Yaa, eq_iff_iff → Yba, true_and → Yja, or_eq_true → Y1a, or_false → Y2a
open BitVec renaming ofInt → Yj, ofInt_natCast → Yl, toNat_ofNat → Ym, toNat_and → Y0a
namespace Go.Proofs.Qz
open Go
set_option linter.unusedVariables false
theorem u8w (n:Int):Yb .u8 n=n%256:=by simp [Yb,Yca,Yla]
theorem Z0q (n:Int):Yb .u32 n=n%4294967296:=by simp [Yb,Yca,Yla]
theorem Zuf (n:Int):Yb .u64 n=n%18446744073709551616:=by simp [Yb,Yca,Yla]
theorem Zmn (a b:Nat) (ha:a<4294967296) (hb:b<4294967296):intBits .xor .u32 (a:Int) (b:Int)=((a ^^^ b:Nat):Int):=by
 have hx:a ^^^ b<2^32:=Ysb (by omega) (by omega)
 show Yb .u32 (((Yj 32 (a:Int)) ^^^ (Yj 32 (b:Int))).toNat:Int)=_
 rw [Yl,Yl,BitVec.toNat_xor,Ym,Ym,Z0q,Yk (show a<2^32 by omega),Yk (show b<2^32 by omega)]
 omega
theorem Z85 (a:Nat) (ha:a<4294967296):intBits .and .u32 (a:Int) 1=((a%2:Nat):Int):=by
 have h:a &&& 1=a%2:=Ylb a
 show Yb .u32 (((Yj 32 (a:Int)) &&& (Yj 32 ((1:Nat):Int))).toNat:Int)=_
 rw [Yl,Yl,Y0a,Ym,Ym,Z0q,Yk (show a<2^32 by omega),Yk (show 1<2^32 by omega),h]
 omega
theorem Zweb (a:Nat) (ha:a<18446744073709551616):intBits .and .u64 (a:Int) 1=((a%2:Nat):Int):=by
 have h:a &&& 1=a%2:=Ylb a
 show Yb .u64 (((Yj 64 (a:Int)) &&& (Yj 64 ((1:Nat):Int))).toNat:Int)=_
 rw [Yl,Yl,Y0a,Ym,Ym,Zuf,Yk (show a<2^64 by omega),Yk (show 1<2^64 by omega),h]
 omega
theorem Z6eb (a b:Nat) (ha:a<18446744073709551616) (hb:b<18446744073709551616):intBits .or .u64 (a:Int) (b:Int)=((a ||| b:Nat):Int):=by
 show Yb .u64 (((Yj 64 (a:Int)) ||| (Yj 64 (b:Int))).toNat:Int)=_
 have hx:a ||| b<2^64:=Nat.or_lt_two_pow (by omega) (by omega)
 rw [Yl,Yl,BitVec.toNat_or,Ym,Ym,Zuf,Yk (show a<2^64 by omega),Yk (show b<2^64 by omega)]
 omega
theorem Zjeb:∀a:Nat,a<256→intBits .and .u8 ((a:Nat):Int) 127=((a%128:Nat):Int):=by decide +kernel
theorem Z8kb (a:Nat) (h:a<9223372036854775808):intBits .xor .i64 (-1) (a:Int) = -(a:Int)-1:=by
 show Yb .i64 (((Yj 64 (-1)) ^^^ (Yj 64 (a:Int))).toNat:Int)=_
 have e:(Yj 64 (-1))=BitVec.allOnes 64:=by decide
 rw [Yl,e,BitVec.allOnes_xor,BitVec.toNat_not,Ym,IntKind.wrap_i64,Yk (show a<2^64 by omega)]
 omega
theorem Zqh (k:IntKind) (r m:Nat) (h:m≤k.bits):shr k (r:Int) (m:Int)=((r/2^m:Nat):Int):=by
 unfold shr
 rw [Ye,Yob h,Int.fdiv_eq_ediv_of_nonneg _ (by exact Int.le_of_lt (Int.pow_pos (by omega)))]
 push_cast
 rfl
theorem Zon (c:UInt8):c.toNat<256:=c.toNat_lt
theorem Zdfb (c:UInt8):UInt8.ofNat ((c.toNat:Nat):Int).toNat=c:=by simp
def Zoj (r:Nat):Nat:=if r%2=1 then (r/2) ^^^ 3988292384 else r/2
def Zxp:Nat→Nat→Nat
 | 0,r=>r
 | n+1,r=>Zxp n (Zoj r)
def Zyp:Str→Nat→Nat
 | [],r=>r
 | c::l,r=>Zyp l (Zxp 8 (r ^^^ c.toNat))
def Zyf (c:Nat) (s:Str):Nat:=(Zyp s (c ^^^ 4294967295)) ^^^ 4294967295
theorem x32 {a b:Nat} (ha:a<4294967296) (hb:b<4294967296):a ^^^ b<4294967296:=Ysb (n:=32) ha hb
theorem Zlt {r:Nat} (h:r<4294967296):Zoj r<4294967296:=by
 unfold Zoj
 split
 ·exact x32 (by omega) (by omega)
 ·omega
theorem Zfw:∀(n:Nat) {r:Nat},r<4294967296→Zxp n r<4294967296
 | 0,_,h=>h
 | n+1,_,h=>Zfw n (Zlt h)
theorem Zy0:∀(l:Str) {r:Nat},r<4294967296→Zyp l r<4294967296
 | [],_,h=>h
 | c::l,r,h=>Zy0 l (Zfw 8 (x32 h (by have:=Zon c;omega)))
def Zrr (n:Nat):Str:=Zhb [((n%256:Nat):Int),((n/256%256:Nat):Int),((n/65536%256:Nat):Int),((n/16777216%256:Nat):Int)]
def Z4f (s:Str):Str:=s++Zrr (Zyf 0 s)
theorem Zwt (n:Nat):(Zrr n).length=4:=rfl
theorem Z4u (s:Str):(Z4f s).length=s.length+4:=by unfold Z4f;rw [Yo,Zwt]
def Zt (s:Str):Str:=s.take (s.length-4)
theorem Zbr (s:Str):(Zt s).length=s.length-4:=by unfold Zt;simp
theorem Zrnb {a b:Str}:Z4f a=Z4f b ↔ a=b:=by
 constructor
 ·intro h
  exact List.append_inj_left' h (by rw [Zwt,Zwt])
 ·rintro rfl;rfl
theorem Z8cb (s:Str):(Zrr (Zyf 0 (Zt s))=s.drop (s.length-4)) ↔ Z4f (Zt s)=s:=by
 have e:s=Zt s++s.drop (s.length-4):=(Ykb _ _).symm
 unfold Z4f
 constructor
 ·intro h;rw [h];exact e.symm
 ·intro h
  exact List.append_cancel_left (h.trans e)
theorem Z8z (s:Str):Zt (Z4f s)=s:=by
 unfold Zt
 rw [Z4u,Nat.add_sub_cancel]
 unfold Z4f
 simp
def Zod (s:Str):Str×Int:=if s.length<4 then ([],4) else if Z4f (Zt s)=s then (Zt s,0) else ([],5)
theorem Zcz {s:Str} (h:(Zod s).2=0):Zod s=(Zt s,0)∧Z4f (Zt s)=s∧4≤s.length:=by
 unfold Zod at h ⊢
 by_cases h4:s.length<4
 ·rw [Xc h4] at h;simp at h
 ·rw [Xd h4] at h ⊢
  by_cases he:Z4f (Zt s)=s
  ·rw [Xc he];exact ⟨rfl,he,by omega⟩
  ·rw [Xd he] at h;simp at h
theorem Ztob (s:Str):(Zod s).1.length≤s.length:=by
 unfold Zod
 split
 ·simp
 ·split
  ·rw [Zbr];omega
  ·simp
theorem Zndb (s:Str):Zod (Z4f s)=(s,0):=by
 unfold Zod
 rw [Z8z,Xd (by rw [Z4u];omega),Xc rfl]
def zig (n:Int):Nat:=if n<0 then (-2*n-1).toNat else (2*n).toNat
def Zjc:Nat→Nat→List Int
 | 0,_=>[]
 | f+1,u=>if 128≤u then ((u%128+128:Nat):Int)::Zjc f (u/128) else [(u:Int)]
def Zj (n:Int):Str:=Zhb (Zjc 10 (zig n))
def Num (n:Int):Prop:=-9223372036854775808≤n∧n<9223372036854775808
theorem Zd5 {n:Int} (h:Num n):zig n<18446744073709551616:=by unfold Num at h;unfold zig;split <;> omega
theorem Zr8:∀(f u:Nat),(Zjc f u).length≤f
 | 0,_=>by simp [Zjc]
 | f+1,u=>by
  unfold Zjc;split
  ·simp only [Yx];have:=Zr8 f (u/128);omega
  ·simp
theorem Z3g (l:List Int):(Zhb l).length=l.length:=by simp [Zhb]
theorem Zhe (n:Int):(Zj n).length≤10:=by
 unfold Zj
 rw [Z3g]
 exact Zr8 10 _
theorem Zqlb (n:Int):1≤(Zj n).length:=by
 unfold Zj
 rw [Z3g]
 unfold Zjc
 split <;> simp
def Znb (s:Str):Str:=Zj (s.length:Int)++s
theorem Ztl (s:Str):(Znb s).length≤10+s.length:=by
 unfold Znb
 have:=Zhe (s.length:Int)
 rw [Yo]
 omega
def unz (u:Nat):Int:=if u%2=1 then -((u/2:Nat):Int)-1 else ((u/2:Nat):Int)
def gn:Nat→Nat→Nat→Str→Int×Nat×Int
 | 0,_,_,_=>(0,0,3)
 | _+1,_,_,[]=>(0,0,4)
 | f+1,i,u,b::l=>if i=9∧1<b.toNat then (0,0,3) else if 128≤b.toNat then gn f (i+1) (u+b.toNat%128*128^i) l else if b.toNat=0∧0<i then (0,0,3) else (unz (u+b.toNat%128*128^i),i+1,0)
def fin (a:Nat) (r:Int×Nat×Int):Int×Int×Int:=if r.2.2=0 then (r.1,((a+r.2.1:Nat):Int),0) else (0,0,r.2.2)
def Z5c (s:Str) (a:Nat):Int×Int×Int:=fin a (gn 10 0 0 (s.drop a))
theorem Zo3 (i:Nat):(2:Nat)^(7*i)=128^i:=by rw [Nat.pow_mul]
theorem Z4y {i u b:Nat} (_:i≤8) (hu:u<128^i):u+b%128*128^i<128^(i+1):=by
 have h1:b%128≤127:=by omega
 have h2:b%128*128^i≤127*128^i:=Yxa _ h1
 rw [Y0]
 omega
theorem Z3ab {i:Nat} (hi:i≤9):128^i≤9223372036854775808:=by
 have:128^i≤128^9:=Yqb (by omega) hi
 simpa using this
theorem Zcdb {i b:Nat} (hi:i≤9) (h9:i=9→b≤1):b%128*128^i<18446744073709551616:=by
 by_cases h:i=9
 ·have:=h9 h
  subst h;have:b%128≤1:=by omega
  have:=Yxa (128^9) this;simp at this ⊢;omega
 ·have h1:128^i≤128^8:=Yqb (by omega) (by omega)
  have h2:b%128≤127:=by omega
  have:=Nat.mul_le_mul h2 h1;simp at this;omega
theorem Zw4 {i u b:Nat} (hi:i≤9) (hu:u<128^i) (h9:i=9→b≤1):u+b%128*128^i<18446744073709551616:=by
 by_cases h:i=9
 ·have:=h9 h
  subst h;have h1:b%128≤1:=by omega
  have:=Yxa (128^9) h1;simp at this hu ⊢;omega
 ·have h1:=Z4y (b:=b) (show i≤8 by omega) hu
  have h2:=Z3ab (show i+1≤9 by omega);omega
theorem Ztcb {i b:Nat} (hi:i≤9) (h9:i=9→b≤1):shl .u64 ((b%128:Nat):Int) ((7*i:Nat):Int)=((b%128*128^i:Nat):Int):=by
 unfold shl
 rw [Ye,Yob (by simp [Yca];omega),Zuf]
 have e:((b%128:Nat):Int)*2^(7*i)=((b%128*128^i:Nat):Int):=by rw [← Zo3];push_cast;rfl
 rw [e]
 have:=Zcdb hi h9
 omega
theorem Zglb {i u b:Nat} (hu:u<128^i):u ||| (b%128*128^i)=u+b%128*128^i:=by
 have h:=@Nat.shiftLeft_add_eq_or_of_lt (7*i) u (by rw [Zo3];exact hu) (b%128)
 rw [Nat.shiftLeft_eq,Zo3] at h
 rw [Nat.or_comm,← h,Ywa]
theorem Z7ob (v:Nat):zig (unz v)=v:=by
 unfold unz
 split
 ·unfold zig;split <;> omega
 ·unfold zig;split <;> omega
theorem Zvob (n:Int):unz (zig n)=n:=by
 unfold zig
 split
 ·unfold unz;split <;> omega
 ·unfold unz;split <;> omega
theorem Zuob {v:Nat} (h:v<18446744073709551616):Num (unz v):=by
 unfold Num unz
 split <;> omega
theorem Zl8:∀(f i u:Nat) (l:Str),i+f=10→i≤9→u<128^i→(gn f i u l).2.2=0 →
  ∃v,gn f i u l=(unz (u+v*128^i),i+(Zjc f v).length,0)∧l=Zhb (Zjc f v)++l.drop (Zjc f v).length∧u+v*128^i<18446744073709551616∧(0<i→v≠0)
 | 0,i,u,l,hf,h9,_,_=>by omega
 | f+1,i,u,[],hf,h9,hu,h0=>by simp [gn] at h0
 | f+1,i,u,c::l,hf,hi9,hu,h0=>by
  have hb:=Zon c;have hbc:=Zdfb c;simp only [gn] at h0 ⊢;generalize hcb:c.toNat=b at h0 hb hbc ⊢
  by_cases h9:i=9∧1<b
  ·rw [Xc h9] at h0;simp at h0
  rw [Xd h9] at h0 ⊢
  have hb9:i=9→b≤1:=fun h=>by
   rcases Yu 1 b with h1 | h1
   ·exact absurd ⟨h,h1⟩ h9
   ·exact h1
  by_cases h128:128≤b
  ·have hi8:i≤8:=by
    by_cases h:i=9
    ·have:=hb9 h;omega
    ·omega
   rw [Xc h128] at h0 ⊢;obtain ⟨v,e1,e2,e3,e4⟩:=Zl8 f (i+1) (u+b%128*128^i) l (by omega) (by omega) (Z4y hi8 hu) h0;have hv:=e4 (by omega)
   have hs:u+b%128*128^i+v*128^(i+1)=u+(b%128+128*v)*128^i:=by
    rw [Y0,Nat.add_mul,Y8 (128^i) 128,← Ypb,Y8 v 128,Yva]
   have hg:Zjc (f+1) (b%128+128*v)=(b:Int)::Zjc f v:=by
    have h1:128≤b%128+128*v:=by omega
    have h2:(b%128+128*v)/128=v:=by omega
    have h3:(b%128+128*v)%128+128=b:=by omega
    simp only [Zjc,Xc h1,h2,h3]
   refine ⟨b%128+128*v,?_,?_,?_,?_⟩
   ·rw [e1,hs,hg,Yx,Yva,Ywa 1]
   ·rw [hg]
    show c::l=UInt8.ofNat ((b:Nat):Int).toNat::(Zhb (Zjc f v)++l.drop (Zjc f v).length);rw [hbc,← e2]
   ·rw [← hs];exact e3
   ·intro _;omega
  ·rw [Xd h128] at h0 ⊢
   by_cases hz:b=0∧0<i
   ·rw [Xc hz] at h0;simp at h0
   rw [Xd hz] at h0 ⊢;have hm:b%128=b:=by omega
   have hsl:=Zw4 (b:=b) hi9 hu hb9;rw [hm] at hsl ⊢;have hg:Zjc (f+1) b=[(b:Int)]:=by simp only [Zjc,Xd h128]
   refine ⟨b,?_,?_,hsl,?_⟩
   ·rw [hg];rfl
   ·rw [hg]
    show c::l=UInt8.ofNat ((b:Nat):Int).toNat::l;rw [hbc]
   ·intro hi hb0;exact hz ⟨hb0,hi⟩
structure Got (s:Str) (a:Nat) (n:Int) (a':Nat):Prop where
 at':a'=a+(Zj n).length
 le:a'≤s.length
 eq:s.drop a=Zj n++s.drop a'
 range:Num n
theorem Zsl (s:Str) (a:Nat):(∃(n:Int) (a':Nat),Z5c s a=(n,(a':Int),0)∧Got s a n a')∨∃c,c≠0∧Z5c s a=(0,0,c):=by
 unfold Z5c fin
 by_cases h:(gn 10 0 0 (s.drop a)).2.2=0
 ·left
  obtain ⟨v,e1,e2,e3,_⟩:=Zl8 10 0 0 (s.drop a) (by omega) (by omega) (by omega) h;simp only [Yrb,Nat.mul_one,Yi] at e1 e3;have hB:Zj (unz v)=Zhb (Zjc 10 v):=by unfold Zj;rw [Z7ob]
  have hsz:(Zj (unz v)).length=(Zjc 10 v).length:=by rw [hB,Z3g]
  refine ⟨unz v,a+(Zj (unz v)).length,?_,rfl,?_,?_,Zuob e3⟩
  ·rw [e1,hsz]
   rfl
  ·have:=congrArg Yeb e2
   simp only [Yo,Z3g,Yra] at this;have hp:0<(Zjc 10 v).length:=by unfold Zjc;split <;> simp
   omega
  ·rw [hsz,← Yma,hB]
   exact e2
 ·right
  exact ⟨_,h,by rw [Xd h]⟩
theorem Zm8:∀(f i u v:Nat) (l:Str),i+f=10→i≤9→v<128^f→u+v*128^i<18446744073709551616→(0<i→v≠0)→gn f i u (Zhb (Zjc f v)++l)=(unz (u+v*128^i),i+(Zjc f v).length,0)
 | 0,i,u,v,l,hf,h9,_,_,_=>by omega
 | f+1,i,u,v,l,hf,hi9,hv,hb,hz=>by
  have h9':i=9→v≤1:=fun h=>by subst h;simp at hb;omega
  by_cases h128:128≤v
  ·have hi8:i≤8:=by
    by_cases h:i=9
    ·have:=h9' h;omega
    ·omega
   have hg:Zjc (f+1) v=((v%128+128:Nat):Int)::Zjc f (v/128):=by simp only [Zjc,Xc h128]
   have ht:(UInt8.ofNat (((v%128+128:Nat):Int)).toNat).toNat=v%128+128:=by
    rw [Ye,UInt8.toNat_ofNat'];omega
   rw [hg];show gn (f+1) i u (UInt8.ofNat (((v%128+128:Nat):Int)).toNat::(Zhb (Zjc f (v/128))++l))=_;simp only [gn];rw [ht,Xd (by omega),Xc (by omega)]
   have hs:u+(v%128+128)%128*128^i+v/128*128^(i+1)=u+v*128^i:=by
    have e:(v%128+128)%128=v%128:=by omega
    have e2:v%128*128^i+v/128*(128*128^i)=v*128^i:=by
     rw [← Ypb,← Nat.add_mul];congr 1;omega
    rw [e,Y0,Y8 (128^i) 128,Yva,e2]
   rw [Zm8 f (i+1) _ (v/128) l (by omega) (by omega) (by rw [Y0] at hv;exact Ymb (by rw [Y8];exact hv)) (by rw [hs];exact hb) (fun _=>by omega),hs];simp only [Yx,Prod.mk.injEq,and_true,true_and];omega
  ·have hg:Zjc (f+1) v=[(v:Int)]:=by simp only [Zjc,Xd h128]
   have ht:(UInt8.ofNat ((v:Int)).toNat).toNat=v:=by
    rw [Ye,UInt8.toNat_ofNat'];omega
   rw [hg];show gn (f+1) i u (UInt8.ofNat ((v:Int)).toNat::l)=_;simp only [gn];rw [ht,Xd (fun q=>by have:=h9' q.1;omega),Xd h128,Xd (fun q=>hz q.2 q.1),Yk (by omega)];rfl
theorem Z2w (n:Int) (h:Num n) (s:Str) (a:Nat) (t:Str) (hs:s.drop a=Zj n++t):Z5c s a=(n,((a+(Zj n).length:Nat):Int),0):=by
 unfold Z5c
 have hz:=Zd5 h
 rw [hs]
 unfold Zj
 rw [Zm8 10 0 0 (zig n) t rfl (by omega) (by omega) (by omega) (fun q=>absurd q (by omega))]
 simp only [Yrb,Nat.mul_one,Yi,Zvob,Z3g]
 rfl
def Z0g (s:Str) (a:Nat):Str×Int×Int:=if (Z5c s a).2.2=0 then if 0≤(Z5c s a).1∧(Z5c s a).1≤8000 then if (Z5c s a).1 > (s.length:Int)-(Z5c s a).2.1 then ([],0,4) else ((s.take ((Z5c s a).2.1+(Z5c s a).1).toNat).drop (Z5c s a).2.1.toNat,(Z5c s a).2.1+(Z5c s a).1,0) else ([],0,3) else ([],0,(Z5c s a).2.2)
structure GotT (s:Str) (a:Nat) (t:Str) (a':Nat):Prop where
 at':a'=a+(Znb t).length
 le:a'≤s.length
 eq:s.drop a=Znb t++s.drop a'
 size:t.length≤8000
theorem Zyq (s:Str) (a:Nat):(∃t a',Z0g s a=(t,((a':Nat):Int),0)∧GotT s a t a')∨∃c,c≠0∧Z0g s a=([],0,c):=by
 unfold Z0g
 rcases Zsl s a with ⟨n,a',e,g⟩ | ⟨c,hc,e⟩
 ·rw [e]
  simp only [if_true]
  by_cases hn:0≤n∧n≤8000
  ·rw [Xc hn]
   have hle:=g.le
   by_cases hs:n > (s.length:Int)-(a':Int)
   ·rw [Xc hs]
    exact .inr ⟨4,by omega,rfl⟩
   ·rw [Xd hs]
    obtain ⟨m,rfl⟩:∃m:Nat,n=(m:Int):=⟨n.toNat,by omega⟩;have e1:((a':Int)+(m:Int)).toNat=a'+m:=by omega
    rw [e1,Ye]
    have hB:(s.take (a'+m)).drop a'=(s.drop a').take m:=by
     rw [List.drop_take,Nat.add_sub_cancel_left]
    have hsz:((s.take (a'+m)).drop a').length=m:=by
     rw [hB,Yp,Yra];omega
    refine .inl ⟨_,a'+m,by push_cast;rfl,?_,?_,?_,?_⟩
    ·unfold Znb
     rw [Yo,hsz];have:=g.at';omega
    ·omega
    ·unfold Znb
     rw [hsz,hB,g.eq,Yn,← Yma,Ykb]
    ·rw [hsz];omega
  ·rw [Xd hn]
   exact .inr ⟨3,by omega,rfl⟩
 ·rw [e]
  simp only;rw [Xd hc];exact .inr ⟨c,hc,rfl⟩
def Zfc (s:Str) (a:Nat):Int×Str×Int×Bool:=if (Z5c s a).2.2=0 then ((Z5c s a).1,s,(Z5c s a).2.1,false) else (0,s,(a:Int),true)
theorem Zc3 (s:Str) (a:Nat):(∃n a',Zfc s a=(n,s,((a':Nat):Int),false)∧Got s a n a')∨Zfc s a=(0,s,(a:Int),true):=by
 unfold Zfc
 rcases Zsl s a with ⟨n,a',e,g⟩ | ⟨c,hc,e⟩
 ·left;exact ⟨n,a',by rw [e];rfl,g⟩
 ·right;rw [e,Xd hc]
def Z5f (s:Str) (a:Nat):Str×Str×Int×Bool:=if (Z0g s a).2.2=0 then ((Z0g s a).1,s,(Z0g s a).2.1,false) else ([],s,(a:Int),true)
theorem Zmob (s:Str) (a:Nat):(∃t a',Z5f s a=(t,s,((a':Nat):Int),false)∧GotT s a t a')∨Z5f s a=([],s,(a:Int),true):=by
 unfold Z5f
 rcases Zyq s a with ⟨n,a',e,g⟩ | ⟨c,hc,e⟩
 ·left;exact ⟨n,a',by rw [e];rfl,g⟩
 ·right;rw [e,Xd hc]
theorem Zjh (a b:Int):(a==b)=decide (a=b):=by rw [Yba];simp
theorem Zs8 (r:Nat):shr .u32 (r:Int) 1=((r/2:Nat):Int):=Zqh .u32 r 1 (by decide)
theorem sl0:∀(n r j:Nat),n≤8→r<4294967296→n<j→Z1b.l0 j (r:Int) ((8-n:Nat):Int)=some ((Zxp n r:Nat):Int)
 | n,r,0,_,_,h=>absurd h (Ys n)
 | 0,r,j+1,_,_,_=>by
  unfold Z1b.l0;rfl
 | n+1,r,j+1,hn,hr,hj=>by
  have e:Yb .i64 (((8-(n+1):Nat):Int)+1)=((8-n:Nat):Int):=by rw [w64] <;> omega
  unfold Z1b.l0;rw [Xa (by omega:(((8-(n+1):Nat):Int))<8),Z85 _ hr,Zs8,e,Zvb (by omega),Zjh];simp only [Xe,Ya]
  by_cases hp:r%2=1
  ·rw [Xa (by omega:((r%2:Nat):Int)=1),show (3988292384:Int)=((3988292384:Nat):Int) from rfl,Zmn _ _ (by omega) (by omega)]
   have e2:Zoj r=r/2 ^^^ 3988292384:=by unfold Zoj;rw [Xc hp]
   rw [Xe,← e2];exact sl0 n (Zoj r) j (by omega) (Zlt hr) (by omega)
  ·rw [Xb (by omega:¬(((r%2:Nat):Int)=1))]
   have e2:Zoj r=r/2:=by unfold Zoj;rw [Xd hp]
   rw [Xf,← e2];exact sl0 n (Zoj r) j (by omega) (Zlt hr) (by omega)
theorem sl1 (x:Str) (hx:x.length≤140737488351232) (k:Nat) (hk:9≤k):∀(d i r j:Nat),x.length-i=d→i≤x.length→r<4294967296→d<j→Z1b.l1 k j x (r:Int) (i:Int)=some ((Zyp (x.drop i) r:Nat):Int)
 | d,i,r,0,_,_,_,h=>absurd h (Ys d)
 | 0,i,r,j+1,hd,hi,hr,_=>by
  unfold Z1b.l1;rw [Xb (by omega:¬((i:Int)<(x.length:Int))),Yna (by omega)];rfl
 | d+1,i,r,j+1,hd,hi,hr,hj=>by
  have hlt:i<x.length:=by omega
  have hc:=Zon x[i];unfold Z1b.l1;rw [Xa (by omega:(i:Int)<(x.length:Int)),Zh hlt];simp only [Xe,Ya];have hxr:=x32 hr (show x[i].toNat<4294967296 by omega);rw [Z0q,show (((x[i].toNat:Nat):Int)%4294967296)=((x[i].toNat:Nat):Int) by omega,Zmn _ _ hr (by omega),Zs (by omega)];have h8:=sl0 8 (r ^^^ x[i].toNat) k (Yc _) hxr (by omega);have h8:Z1b.l0 k ((r ^^^ x[i].toNat:Nat):Int) 0=some ((Zxp 8 (r ^^^ x[i].toNat):Nat):Int):=h8;rw [h8,Y3 hlt];simp only [Ya];exact sl1 x hx k hk d (i+1) _ j (by omega) (by omega) (Zfw 8 hxr) (by omega)
theorem sCrc (c:Nat) (s:Str) (hc:c<4294967296) (hs:s.length≤140737488351232):Zc fun k=>Z1b k (c:Int) s=some ((Zyf c s:Nat):Int):=by
 refine Zc.ge (s.length+9) fun k hk=>?_
 have h:=sl1 s hs k (by omega) s.length 0 (c ^^^ 4294967295) k (by omega) (by omega) (x32 hc (by omega)) (by omega)
 have h:Z1b.l1 k k s ((c ^^^ 4294967295:Nat):Int) 0=some ((Zyp s (c ^^^ 4294967295):Nat):Int):=h
 unfold Z1b
 rw [Z0q,show ((c:Int)%4294967296)=(c:Int) by omega,show (4294967295:Int)=((4294967295:Nat):Int) from rfl,Zmn _ _ hc (by omega),h]
 simp only [Ya]
 have hl:=Zy0 s (x32 hc (show 4294967295<4294967296 by omega))
 have hl2:=x32 hl (show 4294967295<4294967296 by omega)
 rw [Zmn _ _ hl (by omega),w64 (by omega) (by omega)]
 rfl
theorem il0 (x:Str) (i:Nat) (hi:i<x.length):∀(n s r j:Nat),n≤8→s<4294967296→r=s ^^^ (x[i].toNat/2^(8-n))→n<j→Z7b.l0 j x (r:Int) (i:Int) ((8-n:Nat):Int)=some ((Zxp n s:Nat):Int)
 | n,s,r,0,_,_,_,h=>absurd h (Ys n)
 | 0,s,r,j+1,_,_,hr,_=>by
  have hc:=Zon x[i];have:x[i].toNat/2^(8-0)=0:=Nat.div_eq_of_lt (by simpa using hc);rw [this,Ytb] at hr;subst hr;unfold Z7b.l0;rfl
 | n+1,s,r,j+1,hn,hs,hr,hj=>by
  have hc:=Zon x[i];have e:Yb .i64 (((8-(n+1):Nat):Int)+1)=((8-n:Nat):Int):=by rw [w64] <;> omega
  have ih:=il0 x i hi n (Zoj s);unfold Z7b.l0;rw [Xa (by omega:(((8-(n+1):Nat):Int))<8),Zh hi];simp only [Xe,Ya];generalize x[i].toNat=c at hc hr ih ⊢;have hcd:c/2^(8-(n+1))<256:=Nat.lt_of_le_of_lt (Nat.div_le_self _ _) hc;have hrl:r<4294967296:=by rw [hr];exact x32 hs (by omega)
  have hsr:r ^^^ (c/2^(8-(n+1)))=s:=by rw [hr,Yha,Nat.xor_self,Ytb]
  have hhalf:r/2=s/2 ^^^ (c/2^(8-n)):=by
   have e1:c/2^(8-n)=(c/2^(8-(n+1)))/2:=by rw [Nat.div_div_eq_div_mul,← Y0];congr 2;omega
   rw [hr,e1];have:=@Nat.shiftRight_xor_distrib 1 s (c/2^(8-(n+1)));simpa [Nat.shiftRight_eq_div_pow] using this
  rw [Z0q,show ((c:Int)%4294967296)=(c:Int) by omega,Zqh .u32 c (8-(n+1)) (by show 8-(n+1)≤32;omega),Zmn _ _ hrl (by omega),hsr,Z85 _ hs,Zs8,e,Zvb (by omega),Zvb (by omega),Zjh];simp only [Ya]
  by_cases hp:s%2=1
  ·rw [Xa (by omega:((s%2:Nat):Int)=1),show (3988292384:Int)=((3988292384:Nat):Int) from rfl,Zmn _ _ (by omega) (by omega),Xe]
   refine ih _ j (by omega) (Zlt hs) ?_ (by omega);unfold Zoj;rw [Xc hp,hhalf,Yha,Yha,Yya (c/2^(8-n))]
  ·rw [Xb (by omega:¬(((s%2:Nat):Int)=1)),Xf]
   refine ih _ j (by omega) (Zlt hs) ?_ (by omega);unfold Zoj;rw [Xd hp,hhalf]
theorem il1 (x:Str) (hx:x.length≤140737488351232) (k:Nat) (hk:9≤k):∀(d i r j:Nat),x.length-i=d→i≤x.length→r<4294967296→d<j→Z7b.l1 k j x (r:Int) (x.length:Int) (i:Int)=some ((Zyp (x.drop i) r:Nat):Int)
 | d,i,r,0,_,_,_,h=>absurd h (Ys d)
 | 0,i,r,j+1,hd,hi,hr,_=>by
  unfold Z7b.l1;rw [Xb (by omega:¬((i:Int)<(x.length:Int))),Yna (by omega)];rfl
 | d+1,i,r,j+1,hd,hi,hr,hj=>by
  have hlt:i<x.length:=by omega
  have hc:=Zon x[i];unfold Z7b.l1;rw [Xa (by omega:(i:Int)<(x.length:Int))];have hxr:=x32 hr (show x[i].toNat<4294967296 by omega);have h8:=il0 x i hlt 8 (r ^^^ x[i].toNat) r k (Yc _) hxr (by simp [Yha]) (by omega);have h8:Z7b.l0 k x (r:Int) (i:Int) 0=some ((Zxp 8 (r ^^^ x[i].toNat):Nat):Int):=h8;rw [h8,Y3 hlt];simp only [Xe,Ya];rw [Zs (by omega)];exact il1 x hx k hk d (i+1) _ j (by omega) (by omega) (Zfw 8 hxr) (by omega)
theorem iCrc (c:Nat) (s:Str) (hc:c<4294967296) (hs:s.length≤140737488351232):Zc fun k=>Z7b k (c:Int) s=some ((Zyf c s:Nat):Int):=by
 refine Zc.ge (s.length+9) fun k hk=>?_
 have h:=il1 s hs k (by omega) s.length 0 (c ^^^ 4294967295) k (by omega) (by omega) (x32 hc (by omega)) (by omega)
 have h:Z7b.l1 k k s ((c ^^^ 4294967295:Nat):Int) (s.length:Int) 0=some ((Zyp s (c ^^^ 4294967295):Nat):Int):=h
 unfold Z7b
 rw [show (IntKind.max .u32:Int)=((4294967295:Nat):Int) from rfl,Zmn _ _ (by omega) hc,Yya,h]
 simp only [Ya]
 have hl:=Zy0 s (x32 hc (show 4294967295<4294967296 by omega))
 rw [Zmn _ _ (by omega) hl,Yya]
 rfl
theorem Zbcb (n:Nat):Z0l (n:Int)=some (Zrr n):=by
 unfold Z0l Zrr
 have h8:=Zqh .i64 n 8 (by decide)
 have h16:=Zqh .i64 n 16 (by decide)
 have h24:=Zqh .i64 n 24 (by decide)
 have h8:shr .i64 (n:Int) 8=((n/256:Nat):Int):=h8
 have h16:shr .i64 (n:Int) 16=((n/65536:Nat):Int):=h16
 have h24:shr .i64 (n:Int) 24=((n/16777216:Nat):Int):=h24
 rw [Zvb (by omega),Zvb (by omega),Zvb (by omega)]
 simp only [Ya]
 rw [h8,h16,h24,u8w,u8w,u8w,u8w]
 rfl
theorem Zgnb (s:Str) (hs:s.length≤7996):Zc fun k=>Z7o k s=some (Z4f s):=by
 refine (sCrc 0 s (by omega) (by omega)).mono fun k h=>?_
 have h:Z1b k 0 s=some ((Zyf 0 s:Nat):Int):=h
 unfold Z7o
 rw [Xb (by omega:¬(7996<(s.length:Int))),h]
 simp only [Xf,Ya]
 rw [Zbcb]
 simp only [Ya]
 rw [Zjf (by rw [Zwt];omega)]
 rfl
theorem Zgx (s:Str) (hs:s.length≤140737488351232):Zc fun k=>Zhi k s=some (Z4f s):=by
 refine (iCrc 0 s (by omega) (by omega)).mono fun k h=>?_
 have h:Z7b k 0 s=some ((Zyf 0 s:Nat):Int):=h
 have h8:=Zqh .u32 (Zyf 0 s) 8 (by decide)
 have h16:=Zqh .u32 (Zyf 0 s) 16 (by decide)
 have h24:=Zqh .u32 (Zyf 0 s) 24 (by decide)
 have h8:shr .u32 ((Zyf 0 s:Nat):Int) 8=((Zyf 0 s/256:Nat):Int):=h8
 have h16:shr .u32 ((Zyf 0 s:Nat):Int) 16=((Zyf 0 s/65536:Nat):Int):=h16
 have h24:shr .u32 ((Zyf 0 s:Nat):Int) 24=((Zyf 0 s/16777216:Nat):Int):=h24
 unfold Zhi
 rw [h,Zvb (by omega),Zvb (by omega),Zvb (by omega)]
 simp only [Ya]
 rw [h8,h16,h24,u8w,u8w,u8w,u8w]
 have e:Zhb [((Zyf 0 s:Nat):Int)%256,((Zyf 0 s/256:Nat):Int)%256,((Zyf 0 s/65536:Nat):Int)%256,((Zyf 0 s/16777216:Nat):Int)%256]=Zrr (Zyf 0 s):=rfl
 rw [e,Zjf (by rw [Zwt];omega)]
 rfl
theorem Z2v (s t:Str):(s==t)=decide (s=t):=by rw [Yba];simp
theorem Zwr (s:Str) (hs:s.length≤140737488351232):Zc fun k=>Zuj k s=some (Zod s):=by
 refine (Zgx (Zt s) (by rw [Zbr];omega)).mono fun k h=>?_
 unfold Zuj Zod
 by_cases h4:s.length<4
 ·rw [Xa (by omega:(s.length:Int)<4),Xc h4]
  rfl
 ·rw [Xb (by omega:¬((s.length:Int)<4)),Xd h4,w64 (by omega) (by omega),show ((s.length:Int)-4)=((s.length-4:Nat):Int) by omega]
  have hc:=Z9f (l:=s) (i:=0) (j:=s.length-4) (by omega) (by omega);have hc:Z3b s 0 ((s.length-4:Nat):Int)=some (Zt s):=hc;rw [hc];simp only [Xf,Ya];rw [h];simp only [Ya,Z2v]
  by_cases he:Z4f (Zt s)=s
  ·rw [Xc he,Xa he];rfl
  ·rw [Xd he,Xb he];rfl
theorem Zwy (s:Str) (hs:s.length≤8000):Zc fun k=>Z8o k s=some ((Zod s).1,0,(Zod s).2):=by
 refine (sCrc 0 (Zt s) (by omega) (by rw [Zbr];omega)).mono fun k h=>?_
 have h:Z1b k 0 (Zt s)=some ((Zyf 0 (Zt s):Nat):Int):=h
 unfold Z8o Zod
 rw [Xb (by omega:¬(8000<(s.length:Int)))]
 by_cases h4:s.length<4
 ·rw [Xa (by omega:(s.length:Int)<4),Xc h4]
  rfl
 ·rw [Xb (by omega:¬((s.length:Int)<4)),Xd h4,w64 (by omega) (by omega),show ((s.length:Int)-4)=((s.length-4:Nat):Int) by omega]
  have hc:=Z9f (l:=s) (i:=0) (j:=s.length-4) (by omega) (by omega);have hc:Z3b s 0 ((s.length-4:Nat):Int)=some (Zt s):=hc;have hd:=Z9f (l:=s) (i:=s.length-4) (j:=s.length) (by omega) (by omega);rw [Yt] at hd;simp only [Xf];rw [hc];simp only [Ya];rw [h];simp only [Ya];rw [Zbcb,hd];simp only [Ya,Z2v]
  by_cases he:Z4f (Zt s)=s
  ·rw [Xc he,Xa ((Z8cb s).2 he)];rfl
  ·rw [Xd he,Xb (fun q=>he ((Z8cb s).1 q))];rfl
theorem Z1mb (n:Int) (h:Num n):Z9o n=some ((zig n:Nat):Int):=by
 unfold Num at h
 unfold Z9o zig
 simp only [Zuf]
 by_cases hn:n<0
 ·rw [Xa hn,Xc hn,w64 (n:=n+1) (by omega) (by omega),w64 (by omega) (by omega)]
  rw [Xe];congr 1;omega
 ·rw [Xb hn,Xd hn,Xf]
  congr 1;omega
theorem sput:∀(f u:Nat) (acc:List Int) (j:Nat),u<128^f→u<18446744073709551616→acc.length+f≤100→0<f→f<j+1→∃p:Int×List Int,Z2c.l0 j (u:Int) acc=some p∧p.2.length≤100∧p.2++[Yb .u8 p.1]=acc++Zjc f u
 | 0,_,_,_,_,_,_,h,_=>absurd h (by omega)
 | f+1,u,acc,0,hu,hb,hl,_,hj=>by omega
 | f+1,u,acc,j+1,hu,hb,hl,_,hj=>by
  unfold Z2c.l0
  by_cases h:128≤u
  ·have hf:0<f:=by
    rcases Nat.eq_zero_or_pos f with rfl | h'
    ·simp at hu;omega
    ·exact h'
   obtain ⟨p,e,e1,e2⟩:=sput f (u/128) (acc++[((u%128+128:Nat):Int)]) j (by rw [Y0] at hu;exact Ymb (by rw [Y8];exact hu)) (by omega) (by simp;omega) hf (by omega);refine ⟨p,?_,e1,?_⟩
   ·rw [Xa (by omega:(128:Int)≤(u:Int)),Zoi (by omega:(128:Int)≠0)]
    simp only [Xe,Ya];rw [Zlb (by simp;omega),u8w,Zuf,Zuf,Yka (by omega),Y4a (by omega)];simp only [Ya];rw [show (((u:Int)/128)%18446744073709551616)=((u/128:Nat):Int) by omega,show ((((u:Int)%128+128)%18446744073709551616)%256)=((u%128+128:Nat):Int) by omega];exact e
   ·rw [e2,Yn]
    simp [Zjc,h]
  ·refine ⟨((u:Int),acc),?_,by show acc.length≤100;omega,?_⟩
   ·rw [Xb (by omega:¬((128:Int)≤(u:Int)))]
    rfl
   ·show acc++[Yb .u8 (u:Int)]=_
    rw [u8w,show ((u:Int)%256)=(u:Int) by omega];simp [Zjc,h]
theorem Z1m (n:Int) (h:Num n):Zc fun k=>Z2c k n=some (Zj n):=by
 refine Zc.ge 10 fun k hk=>?_
 have hz:=Zd5 h
 obtain ⟨p,e,e1,e2⟩:=sput 10 (zig n) [] k (by omega) hz (by simp) (by omega) (by omega)
 unfold Z2c
 rw [Z1mb n h]
 simp only [Ya]
 rw [e]
 simp only [Ya]
 rw [Zlb (by simp;omega),e2]
 rfl
theorem Zu7 (s:Str) (j:Nat):(s.drop j=[]∧s.length≤j)∨∃h:j<s.length,s.drop j=s[j]::s.drop (j+1):=by
 by_cases h:j<s.length
 ·exact .inr ⟨h,Y3 h⟩
 ·exact .inl ⟨Yna (by omega),by omega⟩
theorem sgn (s:Str) (hs:s.length≤140737488351232) (a:Nat) (ha:a<9223372036854775000):∀(f i u j:Nat),i+f=10→i≤9→u<128^i→(0<i→a+i≤s.length)→f<j→Z2d.l0 j s (a:Int) (u:Int) (i:Int) 0 0 0=some (.inr (fin a (gn f i u (s.drop (a+i)))))
 | f,i,u,0,_,_,_,_,h=>absurd h (Ys f)
 | 0,i,u,j+1,hf,h9,hu,hz,_=>by omega
 | f+1,i,u,j+1,hf,hi9,hu,hz,hj=>by
  unfold Z2d.l0;rw [Xa (by omega:(i:Int)<10),w64 (n:=(s.length:Int)-(i:Int)) (by omega) (by omega),Xe];rcases Zu7 s (a+i) with ⟨hd,hlen⟩ | ⟨hlt,hd⟩
  ·rw [Xa (by omega:(s.length:Int)-(i:Int)≤(a:Int)),hd]
   rfl
  ·rw [Xb (by omega:¬((s.length:Int)-(i:Int)≤(a:Int))),w64 (n:=(a:Int)+(i:Int)) (by omega) (by omega),show ((a:Int)+(i:Int))=((a+i:Nat):Int) by omega]
   simp only [Xf];rw [Zh hlt,hd];simp only [Ya,gn];have hb:=Zon s[a+i];have ih:=fun u'=>sgn s hs a ha f (i+1) u' j
   generalize s[a+i].toNat=b at hb ⊢;rw [Zuf (b:Int),show ((b:Int)%18446744073709551616)=(b:Int) by omega,Zjh,Zoi (by omega:(128:Int)≠0)]
   by_cases h9:i=9∧1<b
   ·rw [Xa (by omega:(i:Int)=9),Xa (by omega:(1:Int)<(b:Int)),Xc h9]
    rfl
   ·rw [Xd h9,show (decide ((i:Int)=9)&&decide ((1:Int)<(b:Int)))=false by
     by_cases h:i=9
     ·rw [Xb (by omega:¬((1:Int)<(b:Int))),Y1]
     ·rw [Xb (by omega:¬((i:Int)=9))];rfl]
    have hb9:i=9→b≤1:=fun h=>by
     rcases Yu 1 b with h1 | h1
     ·exact absurd ⟨h,h1⟩ h9
     ·exact h1
    have hsl:=Zw4 (b:=b) (show i≤9 by omega) hu hb9
    have hv:Yb .u64 ((u:Int)+shl .u64 (Int.tmod (b:Int) 128) (Yb .u64 (Yb .i64 (7*(i:Int)))))=((u+b%128*128^i:Nat):Int):=by
     rw [w64 (by omega) (by omega),Zuf (7*(i:Int)),show (7*(i:Int))%18446744073709551616=((7*i:Nat):Int) by omega,Yka (by omega),show (b:Int)%128=((b%128:Nat):Int) by omega,Ztcb (by omega) hb9,Zuf];omega
    have hn:Zkb (Yb .u64 (Yb .i64 (7*(i:Int))))=some ():=Zvb (by rw [Zuf];omega);simp only [Xf,Ya];rw [hn];simp only [Ya];rw [hv]
    by_cases h128:128≤b
    ·have hi8:i≤8:=by
      by_cases h:i=9
      ·have:=hb9 h;omega
      ·omega
     rw [Xb (by omega:¬((b:Int)<128)),Xc h128,Xf,Zs (by omega),show a+i+1=a+(i+1) by omega];exact ih _ (by omega) (by omega) (Z4y hi8 hu) (fun _=>by omega) (by omega)
    ·rw [Xa (by omega:((b:Int)<128)),Xd h128,Xe,Zjh]
     by_cases h0:b=0∧0<i
     ·rw [Xa (by omega:(b:Int)=0),Xa (by omega:(0:Int)<(i:Int)),Xc h0]
      rfl
     ·rw [Xd h0,show (decide ((b:Int)=0)&&decide ((0:Int)<(i:Int)))=false by
       by_cases h:b=0
       ·rw [Xb (by omega:¬((0:Int)<(i:Int))),Y1]
       ·rw [Xb (by omega:¬((b:Int)=0))];rfl]
      generalize u+b%128*128^i=v at hsl
      have e2:Yb .i64 (Yb .u64 (Int.tdiv (v:Int) 2))=((v/2:Nat):Int):=by
       rw [Y4a (by omega),Zuf,w64 (by omega) (by omega)];omega
      rw [Xf,Zoi (by omega:(2:Int)≠0)];simp only [Ya];rw [Zs (by omega),e2,Yka (by omega),Zjh];unfold fin unz
      by_cases hp:v%2=1
      ·rw [Xa (by omega:(v:Int)%2=1),Xc hp,w64 (n:=0-((v/2:Nat):Int)) (by omega) (by omega),w64 (by omega) (by omega),Xe,show (0-((v/2:Nat):Int)-1) = -((v/2:Nat):Int)-1 by omega]
       rfl
      ·rw [Xb (by omega:¬((v:Int)%2=1)),Xd hp]
       rfl
theorem ign (s:Str) (hs:s.length≤140737488351232) (a:Nat) (ha:a<9223372036854775000):∀(f i u j:Nat),i+f=10→i≤9→u<128^i→(0<i→a+i≤s.length)→f<j→Zxe.l0 j s (a:Int) (u:Int) (i:Int)=some (fin a (gn f i u (s.drop (a+i))))
 | f,i,u,0,_,_,_,_,h=>absurd h (Ys f)
 | 0,i,u,j+1,hf,h9,hu,hz,_=>by omega
 | f+1,i,u,j+1,hf,hi9,hu,hz,hj=>by
  unfold Zxe.l0;rw [w64 (n:=(s.length:Int)-(i:Int)) (by omega) (by omega)];rcases Zu7 s (a+i) with ⟨hd,hlen⟩ | ⟨hlt,hd⟩
  ·rw [Xa (by omega:(s.length:Int)-(i:Int)≤(a:Int)),hd]
   rfl
  ·rw [Xb (by omega:¬((s.length:Int)-(i:Int)≤(a:Int))),w64 (n:=(a:Int)+(i:Int)) (by omega) (by omega),show ((a:Int)+(i:Int))=((a+i:Nat):Int) by omega]
   simp only [Xf];rw [Zh hlt,hd];simp only [Ya,gn];have hb:=Zon s[a+i];have ih:=fun u'=>ign s hs a ha f (i+1) u' j
   generalize s[a+i].toNat=b at hb ⊢;rw [Zjh]
   by_cases h9:i=9∧1<b
   ·rw [Xa (by omega:(i:Int)=9),Xa (by omega:(1:Int)<(b:Int)),Xc h9]
    rfl
   ·rw [Xd h9,show (decide ((i:Int)=9)&&decide ((1:Int)<(b:Int)))=false by
     by_cases h:i=9
     ·rw [Xb (by omega:¬((1:Int)<(b:Int))),Y1]
     ·rw [Xb (by omega:¬((i:Int)=9))];rfl]
    have hb9:i=9→b≤1:=fun h=>by
     rcases Yu 1 b with h1 | h1
     ·exact absurd ⟨h,h1⟩ h9
     ·exact h1
    have hsl:=Zw4 (b:=b) (show i≤9 by omega) hu hb9
    have hv:intBits .or .u64 (u:Int) (shl .u64 (Yb .u64 (intBits .and .u8 (b:Int) 127)) (Yb .i64 (7*(i:Int))))=((u+b%128*128^i:Nat):Int):=by
     rw [Zjeb b hb,Zuf,show ((b%128:Nat):Int)%18446744073709551616=((b%128:Nat):Int) by omega,w64 (by omega) (by omega),show (7*(i:Int))=((7*i:Nat):Int) by omega,Ztcb (by omega) hb9,Z6eb _ _ (by have:=Z3ab (show i≤9 by omega);omega) (Zcdb (by omega) hb9),Zglb hu]
    have hn:Zkb (Yb .i64 (7*(i:Int)))=some ():=Zvb (by rw [w64 (by omega) (by omega)];omega);simp only [Xf];rw [hn];simp only [Ya];rw [hv]
    by_cases h128:128≤b
    ·have hi8:i≤8:=by
      by_cases h:i=9
      ·have:=hb9 h;omega
      ·omega
     rw [Xa (by omega:((127:Int)<(b:Int))),Xc h128,Xe,Zs (by omega),show a+i+1=a+(i+1) by omega];exact ih _ (by omega) (by omega) (Z4y hi8 hu) (fun _=>by omega) (by omega)
    ·rw [Xb (by omega:¬((127:Int)<(b:Int))),Xd h128,Xf,Zjh]
     by_cases h0:b=0∧0<i
     ·rw [Xa (by omega:(b:Int)=0),Xa (by omega:(0:Int)<(i:Int)),Xc h0]
      rfl
     ·rw [Xd h0,show (decide ((b:Int)=0)&&decide ((0:Int)<(i:Int)))=false by
       by_cases h:b=0
       ·rw [Xb (by omega:¬((0:Int)<(i:Int))),Y1]
       ·rw [Xb (by omega:¬((b:Int)=0))];rfl]
      generalize u+b%128*128^i=v at hsl;have e2:shr .u64 (v:Int) 1=((v/2:Nat):Int):=Zqh .u64 v 1 (by decide);rw [Xf,Zvb (by omega:(0:Int)≤1)];simp only [Ya];rw [Zs (by omega),e2,Zweb v hsl,w64 (n:=((v/2:Nat):Int)) (by omega) (by omega),Zjh];unfold fin unz
      by_cases hp:v%2=1
      ·rw [Xa (by omega:((v%2:Nat):Int)=1),Xc hp,Z8kb _ (by omega)]
       rfl
      ·rw [Xb (by omega:¬(((v%2:Nat):Int)=1)),Xd hp]
       rfl
section
variable (s:Str) (a:Nat) (ha:a<9223372036854775000)
include ha
theorem Zax (hs:s.length≤140737488351232):Zc fun k=>Zxe k s (a:Int)=some (Z5c s a):=by
 refine Zc.ge 11 fun k hk=>?_
 have h:=ign s hs a ha 10 0 0 k rfl (by omega) (by omega) (fun h=>absurd h (by omega)) (by omega)
 have h:Zxe.l0 k s (a:Int) 0 0=some (Z5c s a):=h
 unfold Zxe
 rw [Xb (by omega:¬((a:Int)<0)),h]
 rfl
theorem Zvy (hs:s.length≤8000):Zc fun k=>Z2d k s (a:Int)=some (Z5c s a):=by
 refine Zc.ge 11 fun k hk=>?_
 have h:=sgn s (by omega) a ha 10 0 0 k rfl (by omega) (by omega) (fun h=>absurd h (by omega)) (by omega)
 have h:Z2d.l0 k s (a:Int) 0 0 0 0 0=some (.inr (Z5c s a)):=h
 unfold Z2d
 rw [Xb (by omega:¬(8000<(s.length:Int))),Xb (by omega:¬((a:Int)<0)),h]
 rfl
theorem Zx1 (hs:s.length≤140737488351232):Zc fun k=>Z9b k (s,((a:Int),false))=some (Zfc s a):=by
 refine (Zax s a ha hs).mono fun k h=>?_
 unfold Z9b Zfc
 rw [h]
 rcases Zsl s a with ⟨n,a',e,g⟩ | ⟨c,hc,e⟩
 ·rw [e];rfl
 ·rw [e,Xd hc]
  simp only [Ya];rw [show (c != 0)=true by simpa using hc];rfl
theorem Z4ib (hs:s.length≤140737488351232):∃(n:Int) (a':Nat),(Zc fun k=>Z9b k (s,((a:Int),true))=some (n,s,(a':Int),true))∧a'≤max a s.length:=by
 rcases Zsl s a with ⟨n,a',e,g⟩ | ⟨c,hc,e⟩
 ·refine ⟨n,a',(Zax s a ha hs).mono fun k h=>?_,?_⟩
  ·unfold Z9b
   rw [h,e];rfl
  ·have:=g.le;omega
 ·refine ⟨0,a,(Zax s a ha hs).mono fun k h=>?_,by omega⟩
  unfold Z9b;rw [h,e];simp only [Ya];rw [show (c != 0)=true by simpa using hc];rfl
end
theorem Zgcb (s:Str) (h:s.length≤8000):Zc fun k=>Zzl k s=some (Znb s):=by
 refine (Z1m (s.length:Int) ⟨by omega,by omega⟩).mono fun k hk=>?_
 have:=Zhe (s.length:Int)
 unfold Zzl
 rw [Xb (by omega:¬(8000<(s.length:Int))),hk]
 simp only [Xf,Ya]
 rw [Zjf (by omega)]
 rfl
section
variable (s:Str) (a:Nat) (ha:a<9223372036854775000)
include ha
theorem Zd4 (hs:s.length≤8000):Zc fun k=>Z4m k s (a:Int)=some (Z0g s a):=by
 refine (Zvy s a ha hs).mono fun k h=>?_
 unfold Z4m Z0g
 rw [h]
 rcases Zsl s a with ⟨n,a',e,g⟩ | ⟨c,hc,e⟩
 ·rw [e]
  simp only [if_true,Ya];have hle:=g.le;rw [show ((0:Int) != 0)=false from rfl,Xf]
  by_cases hn:0≤n∧n≤8000
  ·rw [Xb (by omega:¬(n<0)),Xb (by omega:¬(8000<n)),Xc hn,w64 (n:=(s.length:Int)-n) (by omega) (by omega),w64 (n:=(a':Int)+n) (by omega) (by omega)]
   by_cases hq:n > (s.length:Int)-(a':Int)
   ·rw [Xa (by omega:(s.length:Int)-n<(a':Int)),Xc hq]
    rfl
   ·rw [Xb (by omega:¬((s.length:Int)-n<(a':Int))),Xd hq]
    obtain ⟨m,rfl⟩:∃m:Nat,n=(m:Int):=⟨n.toNat,by omega⟩;rw [show ((a':Int)+(m:Int))=((a'+m:Nat):Int) by omega];have hc:=Z9f (l:=s) (i:=a') (j:=a'+m) (by omega) (by omega);simp only [Y2a,Xf];rw [hc];rfl
  ·rw [Xd hn,show (decide (n<0)||decide (8000<n))=true by
    by_cases h0:n<0
    ·rw [Xa h0];rfl
    ·rw [Xa (by omega:8000<n),Bool.or_true]]
   rfl
 ·rw [e]
  simp only [Ya];rw [Xd hc,show (c != 0)=true by simpa using hc];rfl
theorem Zt1 (hs:s.length≤140737488351232):Zc fun k=>Z7n k s (a:Int)=some (Z0g s a):=by
 refine (Zax s a ha hs).mono fun k h=>?_
 unfold Z7n Z0g
 rw [h]
 rcases Zsl s a with ⟨n,a',e,g⟩ | ⟨c,hc,e⟩
 ·rw [e]
  simp only [if_true,Ya];have hle:=g.le;rw [show ((0:Int) != 0)=false from rfl,Xf];unfold Zcb;simp only [Ya]
  by_cases hn:0≤n∧n≤8000
  ·rw [Xa (by omega:0≤n),Xa (by omega:n≤8000),Xc hn,w64 (n:=(s.length:Int)-(a':Int)) (by omega) (by omega),w64 (n:=(a':Int)+n) (by omega) (by omega)]
   by_cases hq:n > (s.length:Int)-(a':Int)
   ·rw [Xa (by omega:(s.length:Int)-(a':Int)<n),Xc hq]
    rfl
   ·rw [Xb (by omega:¬((s.length:Int)-(a':Int)<n)),Xd hq]
    obtain ⟨m,rfl⟩:∃m:Nat,n=(m:Int):=⟨n.toNat,by omega⟩;rw [show ((a':Int)+(m:Int))=((a'+m:Nat):Int) by omega];have hc:=Z9f (l:=s) (i:=a') (j:=a'+m) (by omega) (by omega);simp only [Bool.and_true,Yv,Xf];rw [hc];rfl
  ·rw [Xd hn,show (decide (0≤n)&&decide (n≤8000))=false by
    by_cases h0:0≤n
    ·rw [Xb (by omega:¬(n≤8000)),Y1]
    ·rw [Xb h0];rfl]
   rfl
 ·rw [e]
  simp only [Ya];rw [Xd hc,show (c != 0)=true by simpa using hc];rfl
theorem Za9 (hs:s.length≤140737488351232):Zc fun k=>Zbg k (s,((a:Int),false))=some (Z5f s a):=by
 refine (Zt1 s a ha hs).mono fun k h=>?_
 unfold Zbg Z5f
 rw [h]
 rcases Zyq s a with ⟨n,a',e,g⟩ | ⟨c,hc,e⟩
 ·rw [e];rfl
 ·rw [e,Xd hc]
  simp only [Ya];rw [show (c != 0)=true by simpa using hc];rfl
theorem Zb9 (hs:s.length≤140737488351232):∃(t:Str) (a':Nat),(Zc fun k=>Zbg k (s,((a:Int),true))=some (t,s,(a':Int),true))∧a'≤max a s.length:=by
 rcases Zyq s a with ⟨n,a',e,g⟩ | ⟨c,hc,e⟩
 ·refine ⟨n,a',(Zt1 s a ha hs).mono fun k h=>?_,?_⟩
  ·unfold Zbg
   rw [h,e];rfl
  ·have:=g.le;omega
 ·refine ⟨[],a,(Zt1 s a ha hs).mono fun k h=>?_,by omega⟩
  unfold Zbg;rw [h,e];simp only [Ya];rw [show (c != 0)=true by simpa using hc];rfl
end
def Zhs (s:Str):Option (Int×Int×Int×Str×Nat):=if (Zfc s 0).2.2.2=true then none else if (Zfc s (Zfc s 0).2.2.1.toNat).2.2.2=true then none else if (Zfc s (Zfc s (Zfc s 0).2.2.1.toNat).2.2.1.toNat).2.2.2=true then none else if (Z5f s (Zfc s (Zfc s (Zfc s 0).2.2.1.toNat).2.2.1.toNat).2.2.1.toNat).2.2.2=true then none else some ((Zfc s 0).1,(Zfc s (Zfc s 0).2.2.1.toNat).1,(Zfc s (Zfc s (Zfc s 0).2.2.1.toNat).2.2.1.toNat).1,(Z5f s (Zfc s (Zfc s (Zfc s 0).2.2.1.toNat).2.2.1.toNat).2.2.1.toNat).1,(Z5f s (Zfc s (Zfc s (Zfc s 0).2.2.1.toNat).2.2.1.toNat).2.2.1.toNat).2.2.1.toNat)
theorem Z8hb {s:Str} {x y z:Int} {t:Str} {a b c d:Nat} (g1:Got s 0 x a) (g2:Got s a y b) (g3:Got s b z c) (g4:GotT s c t d):Zj x++Zj y++Zj z++Znb t=s ↔ d=s.length:=by
 have e1:=g1.eq
 have e2:=g2.eq
 have e3:=g3.eq
 have e4:=g4.eq
 rw [Yda] at e1
 constructor
 ·intro h
  have h1:=congrArg Yeb h;rw [Yo,Yo,Yo] at h1;have:=g1.at';have:=g2.at';have:=g3.at';have:=g4.at';omega
 ·rintro rfl
  rw [List.drop_of_length_le (l:=s) (i:=s.length) (Yc _),Yw] at e4;rw [← e4,Yn,← e3,Yn,← e2,← e1]
theorem Ztlb {s:Str} {x y z:Int} {t:Str} {d:Nat} (h:Zhs s=some (x,y,z,t,d)):∃a b c,Got s 0 x a∧Got s a y b∧Got s b z c∧GotT s c t d:=by
 unfold Zhs at h
 rcases Zc3 s 0 with ⟨x',a,e1,g1⟩ | e1
 ·rw [e1] at h
  simp only [Ye,Y2,if_false] at h;rcases Zc3 s a with ⟨y',b,e2,g2⟩ | e2
  ·rw [e2] at h
   simp only [Ye,Y2,if_false] at h;rcases Zc3 s b with ⟨z',c,e3,g3⟩ | e3
   ·rw [e3] at h
    simp only [Ye,Y2,if_false] at h;rcases Zmob s c with ⟨t',d',e4,g4⟩ | e4
    ·rw [e4] at h
     simp only [Ye,Y2,if_false,Yza.injEq,Prod.mk.injEq] at h;obtain ⟨rfl,rfl,rfl,rfl,rfl⟩:=h;exact ⟨a,b,c,g1,g2,g3,g4⟩
    ·rw [e4] at h;simp at h
   ·rw [e3] at h;simp at h
  ·rw [e2] at h;simp at h
 ·rw [e1] at h;simp at h
def Zuc (k t f:Int) (d:Str) (n:Int):Bool:=if k=1 then decide (0≤t)&&decide (t≤n-1)&&decide (f=0)&&(d==[]) else if k=2 then decide (0≤t)&&decide (t≤n-1)&&decide (f=0)&&decide ((d.length:Int)=8) else if k=3 then decide (0≤t)&&decide (t≤n-1)&&(decide (0≤f)&&decide (f≤n-1))&&(d==[]) else if k=4 then decide (0≤t)&&decide (t≤n-1)&&(decide (0≤f)&&decide (f≤n-1))&&decide ((d.length:Int)=8) else if k=5 then decide (t=0)&&(decide (0≤f)&&decide (f≤1000000))&&(d==[]) else false
theorem Zinb (k t f:Int) (d:Str) (n:Int) (h1:1≤n) (h2:n≤8):Z5m (k,(t,(f,d))) n=some (Zuc k t f d n):=by
 unfold Z5m Zhd Zuc
 simp only [Ya]
 rw [w64 (n:=n-1) (by omega) (by omega),Xa h1,Xa h2]
 simp only [Zjh]
 generalize (decide (0≤t)&&decide (t≤n-1))=P
 generalize (decide (0≤f)&&decide (f≤n-1))=Q
 generalize (decide (0≤f)&&decide (f≤1000000))=R
 generalize (d==([]:Str))=E
 generalize decide ((d.length:Int)=8)=Z
 by_cases c1:k=1
 ·subst c1;cases P <;> by_cases h:f=0 <;> simp [h]
 by_cases c2:k=2
 ·subst c2;cases P <;> by_cases h:f=0 <;> simp [h]
 by_cases c3:k=3
 ·subst c3;cases P <;> cases Q <;> simp
 by_cases c4:k=4
 ·subst c4;cases P <;> cases Q <;> simp
 by_cases c5:k=5
 ·subst c5;cases R <;> by_cases h:t=0 <;> simp [h]
 simp [c1,c2,c3,c4,c5]
theorem Zhx (k t f:Int) (d:Str) (n:Int) (h1:1≤n) (h2:n≤8):Zpc (k,(t,(f,d))) n=some (Zuc k t f d n):=by
 have hw:Yb .i64 (n-1)=n-1:=w64 (by omega) (by omega)
 unfold Zpc
 simp only [Zcb,Zoh,Ya,hw,Zpc.j0,Zpc.j1,Zuc,Zjh]
 generalize (decide (0≤t)&&decide (t≤n-1))=P
 generalize (decide (0≤f)&&decide (f≤n-1))=Q
 generalize (d==([]:Str))=E
 by_cases c1:k=1
 ·subst c1;cases P <;> by_cases h:f=0 <;> simp [h]
 by_cases c2:k=2
 ·subst c2;cases P <;> by_cases h:f=0 <;> simp [h]
 by_cases c3:k=3
 ·subst c3;cases P <;> cases Q <;> simp
 by_cases c4:k=4
 ·subst c4;cases P <;> cases Q <;> simp
 by_cases c5:k=5
 ·subst c5;cases E <;> by_cases h:t=0 <;> simp [h]
 have hk:(decide (1≤k)&&decide (k≤5))=false:=by
  rw [Yaa,Ne,Yg,decide_eq_true_eq,decide_eq_true_eq];omega
 simp [c1,c2,c3,c4,c5,hk]
theorem Z9u {k t f:Int} {d:Str} {n:Int} (h:Zuc k t f d n=true):d.length≤8:=by
 unfold Zuc at h
 have e:(d==([]:Str))=true→d.length≤8:=fun q=>by
  rw [Z2v] at q;rw [of_decide_eq_true q];simp
 have e8:decide ((d.length:Int)=8)=true→d.length≤8:=fun q=>by
  have:=of_decide_eq_true q;omega
 split at h
 ·exact e ((Yg _ _).mp h).2
 split at h
 ·exact e8 ((Yg _ _).mp h).2
 split at h
 ·exact e ((Yg _ _).mp h).2
 split at h
 ·exact e8 ((Yg _ _).mp h).2
 split at h
 ·exact e ((Yg _ _).mp h).2
 ·cases h
def Zwi (s:Str):Option (Int×Int×Int×Str):=match Zhs s with
 | some (x,y,z,t,d)=>if d=s.length∧Zuc x y z t 8=true then some (x,y,z,t) else none
 | none=>none
theorem Zbob {s:Str} {x y z:Int} {t:Str} (h:Zwi s=some (x,y,z,t)):Zuc x y z t 8=true:=by
 unfold Zwi at h
 split at h
 ·split at h
  ·rename_i hq
   cases h;exact hq.2
  ·cases h
 ·cases h
theorem Zegb {s:Str} (h:1≤s.length):(([]:Str)==s)=false:=by
 cases s with
 | nil=>exact absurd h (by simp)
 | cons _ _=>rfl
abbrev Zg:=Int×Int×Int×Str
theorem Zjkb {S R:Type} (L:Nat→S→Option R) (m:S→Nat) (I:S→Prop) (Q:R→Prop) (step:∀s,I s→(∃r,(∀j,L (j+1) s=some r)∧Q r)∨∃s',I s'∧m s'<m s∧∀j,L (j+1) s=L j s'):∀(n:Nat) (s:S),I s→m s≤n→∃r,Q r∧∀j,n<j→L j s=some r:=by
 intro n
 induction n with
 | zero=>
  intro s hi hm;rcases step s hi with ⟨r,hr,hq⟩ | ⟨s',_,hm',_⟩
  ·refine ⟨r,hq,fun j hj=>?_⟩
   obtain ⟨j,rfl⟩:∃q,j=q+1:=⟨j-1,by omega⟩;exact hr j
  ·omega
 | succ n ih=>
  intro s hi hm;rcases step s hi with ⟨r,hr,hq⟩ | ⟨s',hi',hm',hs⟩
  ·refine ⟨r,hq,fun j hj=>?_⟩
   obtain ⟨j,rfl⟩:∃q,j=q+1:=⟨j-1,by omega⟩;exact hr j
  ·obtain ⟨r,hq,hr⟩:=ih s' hi' (by omega)
   refine ⟨r,hq,fun j hj=>?_⟩;obtain ⟨j,rfl⟩:∃q,j=q+1:=⟨j-1,by omega⟩;rw [hs j];exact hr j (by omega)
theorem Zcd {α:Type} {l:List α} {i:Int} (h:0≤i) (h2:i<(l.length:Int)):∃x,at? l i=some x∧x∈l:=by
 obtain ⟨n,rfl⟩:∃n:Nat,i=(n:Int):=⟨i.toNat,by omega⟩
 exact ⟨l[n]'(by omega),Zh (by omega),Yh _⟩
theorem wid {n:Int} (h0:0≤n) (h1:n<9223372036854775808):Yb .i64 n=n:=w64 (by omega) h1
theorem Ziz {n:Int} (h0:0≤n) (h1:n<18446744073709551616):Yb .u64 n=n:=by rw [Zuf];omega
theorem Zwfb {α:Type} {l:List α} {i j:Int} (h0:0≤i) (h1:i≤j) (h2:j≤(l.length:Int)):∃t,Z3b l i j=some t∧(t.length:Int)=j-i:=by
 obtain ⟨a,rfl⟩:∃n:Nat,i=(n:Int):=⟨i.toNat,by omega⟩
 obtain ⟨b,rfl⟩:∃n:Nat,j=(n:Int):=⟨j.toNat,by omega⟩
 refine ⟨_,Z9f (by omega) (by omega),?_⟩
 rw [Yra,Yp]
 omega
def Z6d (n:Int) (x:Zg):Bool:=Zuc x.1 x.2.1 x.2.2.1 x.2.2.2 n
theorem Zljb (x:Zg) (n:Int) (h1:1≤n) (h2:n≤8):Zpc x n=some (Z6d n x):=Zhx x.1 x.2.1 x.2.2.1 x.2.2.2 n h1 h2
theorem Zicb (x:Zg) (n:Int) (h1:1≤n) (h2:n≤8):Z5m x n=some (Z6d n x):=Zinb x.1 x.2.1 x.2.2.1 x.2.2.2 n h1 h2
def isW (x:Zg):Bool:=x.1 != 5
def Zi (l:List Zg):List Zg:=l.filter isW
def Z0c (l:List Zg):List Int:=(Zi l).map fun x=>x.2.1
def Zfg:Int→List Zg→Bool
 | _,[]=>true
 | a,x::l=>if x.1=5 then decide (a<x.2.2.1)&&Zfg x.2.2.1 l else Zfg a l
def Zwb (l:List Zg) (n:Int):Int:=if 20<l.length∨¬(1≤n∧n≤8)∨l.all (Z6d n)=false then 1 else if ¬(Z0c l).Nodup then 12 else if Zfg (-1) l then 0 else 8
theorem Zcv {l:List Zg} {i:Nat} (h:i<l.length):Z0c (l.take (i+1))=if isW l[i] then Z0c (l.take i)++[(l[i]).2.1] else Z0c (l.take i):=by
 unfold Z0c Zi
 rw [Zhj h,Y4,List.map_append]
 split
 ·rename_i hw;simp [hw]
 ·rename_i hw;simp [hw]
theorem Zzr {x:Zg} (h:x.1≠5):isW x=true:=by unfold isW;simpa using h
theorem Z4t {x:Zg} (h:x.1=5):isW x=false:=by unfold isW;simp [h]
theorem Zhdb {l:List Zg} (i:Nat):(Z0c (l.take i)).Sublist (Z0c l):=by
 unfold Z0c Zi
 exact (((List.take_sublist i l).filter _).map _)
theorem Zqkb {l:List Zg} {b:Int}:b∈Z0c l ↔ ∃x∈l,isW x=true∧x.2.1=b:=by
 unfold Z0c Zi
 rw [Yhb]
 constructor
 ·rintro ⟨x,hx,e⟩
  rw [Ysa] at hx;exact ⟨x,hx.1,hx.2,e⟩
 ·rintro ⟨x,h1,h2,e⟩
  exact ⟨x,Ysa.2 ⟨h1,h2⟩,e⟩
theorem Z02 {l:List Zg} {b:Int} {i:Nat}:b∈Z0c (l.take i) ↔ ∃j,∃h:j<l.length,j<i∧isW l[j]=true∧(l[j]).2.1=b:=by
 rw [Zqkb]
 constructor
 ·rintro ⟨x,hx,h1,h2⟩
  obtain ⟨j,hj,rfl⟩:=Yab hx;rw [Ydb] at h1 h2;rw [Yp] at hj;exact ⟨j,by omega,by omega,h1,h2⟩
 ·rintro ⟨j,h,hji,h1,h2⟩
  refine ⟨l[j],?_,h1,h2⟩;rw [List.mem_take_iff_getElem];exact ⟨j,by omega,rfl⟩
def Zan (b:Int) (x:Zg):Bool:=isW x&&(x.2.1==b)
def Zdv (l:List Zg) (b:Int):Int:=match Zgb (Zan b) l 0 with
 | some i=>(i:Int)
 | none=>-1
theorem Zqjb (l:List Zg) (b:Int) (hl:l.length≤1048576):∀k,l.length<k→Zmo k l b=some (Zdv l b):=by
 intro k hk
 have run:=Z1h (fun j i=>Zxd.l0 j l (l.length:Int) i b) l (Zan b) (.inl b) (fun i=>.inr ((i:Int),b)) (fun i hi=>by
  have e:Z9p l[i] b=some (Zan b l[i]):=rfl;constructor
  ·intro hp j
   show Zxd.l0 (j+1) l (l.length:Int) (i:Int) b=Zxd.l0 j l (l.length:Int) ((i+1:Nat):Int) b;rw [Zxd.l0];rw [dlt hi,Zh hi,Zs (by omega)];simp only [Xe,Ya,e,hp,Xf]
  ·intro hp j
   show Zxd.l0 (j+1) l (l.length:Int) (i:Int) b=_;unfold Zxd.l0;rw [dlt hi,Zh hi];simp only [Xe,Ya,e,hp]) (fun j=>by
  show Zxd.l0 (j+1) l (l.length:Int) (l.length:Int) b=_;unfold Zxd.l0;rw [Zbb (Yc _)];rfl) hk
 have run:Zxd.l0 k l (l.length:Int) 0 b=_:=run
 unfold Zmo Zxd Zdv
 rw [run]
 cases Zgb (Zan b) l 0 <;> rfl
theorem Zidb {l:List Zg} {i:Nat} (h:i<l.length) (hw:isW l[i]=true):Zdv l (l[i]).2.1<(i:Int) ↔ (l[i]).2.1∈Z0c (l.take i):=by
 unfold Zdv
 rw [Z02]
 cases hf:Zgb (Zan (l[i]).2.1) l 0 with
 | none=>
  have:=Ztn.1 hf l[i] (Yh h);unfold Zan at this;rw [hw] at this;simp at this
 | some m=>
  obtain ⟨_,h2,h3,h4⟩:=Z4i hf;have h4:∀j,(hj:j<m)→Zan (l[i]).2.1 (l[j]'(by omega))=false:=h4;unfold Zan at h3;simp only [Yg,beq_iff_eq] at h3;constructor
  ·intro hm
   have hm:(m:Int)<(i:Int):=hm;exact ⟨m,h2,by omega,h3.1,h3.2⟩
  ·rintro ⟨j,hj,hji,h5,h6⟩
   show (m:Int)<(i:Int);rcases Yu m i with h | h
   ·omega
   ·have:=h4 j (by omega)
    unfold Zan at this;rw [h5,h6] at this;simp at this
theorem Zaib (l:List Zg) (n:Int) (h1:1≤n) (h2:n≤8) (hl:l.length≤1048576):∀k,l.length<k→Zzo k l n=some (!(l.all (Z6d n)),n):=by
 intro k hk
 have run:=Z1h (fun j i=>Zwd.l0 j l (l.length:Int) i n) l (fun x=>!(Z6d n x)) (.inl n) (fun i=>.inr ((i:Int),n)) (fun i hi=>by
  have e:Zlo l[i] n=some (!(Z6d n l[i])):=by
   unfold Zlo;rw [Zljb _ _ h1 h2];rfl
  constructor
  ·intro hp j
   show Zwd.l0 (j+1) l (l.length:Int) (i:Int) n=Zwd.l0 j l (l.length:Int) ((i+1:Nat):Int) n;rw [Zwd.l0];rw [dlt hi,Zh hi,Zs (by omega)];simp only [Xe,Ya,e,hp,Xf]
  ·intro hp j
   show Zwd.l0 (j+1) l (l.length:Int) (i:Int) n=_;unfold Zwd.l0;rw [dlt hi,Zh hi];simp only [Xe,Ya,e,hp]) (fun j=>by
  show Zwd.l0 (j+1) l (l.length:Int) (l.length:Int) n=_;unfold Zwd.l0;rw [Zbb (Yc _)];rfl) hk
 have run:Zwd.l0 k l (l.length:Int) 0 n=_:=run
 have hany:=Ztt (p:=fun x=>!(Z6d n x)) (l:=l) (n:=0)
 rw [← Yjb] at hany
 unfold Zzo Zwd
 rw [run,← hany]
 cases Zgb (fun x=>!(Z6d n x)) l 0 with
 | none=>rfl
 | some m=>
  simp only [Ya,Yub];rw [Xa (by omega:(0:Int)≤(m:Int))]
theorem Ziib (l:List Zg) (hl:l.length≤20) (k:Nat) (hk:20<k):∀(d i:Nat) (a:Int) (b:Bool),i+d=l.length→(Z0c (l.take i)).Nodup→∀j,d<j →
  Z8c.l0 k j l a b l (l.length:Int) (i:Int)=some (if (Z0c l).Nodup then .inl (b&&Zfg a (l.drop i)) else .inr 12):=by
 intro d
 induction d with
 | zero=>
  intro i a b hi hn j hj;obtain ⟨j,rfl⟩:∃q,j=q+1:=⟨j-1,by omega⟩;obtain rfl:i=l.length:=by omega
  rw [Yt] at hn;unfold Z8c.l0;rw [Zbb (Yc _),Xc hn,Y6a];simp [Zfg]
 | succ d ih=>
  intro i a b hi hn j hj;obtain ⟨j,rfl⟩:∃q,j=q+1:=⟨j-1,by omega⟩;have hlt:i<l.length:=by omega
  rw [Z8c.l0,dlt hlt,Zh hlt,Zs (by omega)];simp only [Xe,Ya];rw [Y3 hlt]
  by_cases h5:(l[i]).1=5
  ·have hw:=Z4t h5
   have hn2:(Z0c (l.take (i+1))).Nodup:=by rw [Zcv hlt,hw];exact hn
   have e:((l[i]).1 != 5)=false:=by simp [h5]
   rw [e];simp only [Xf];rw [ih (i+1) _ _ (by omega) hn2 j (by omega)];simp only [Zfg,Xc h5,Bool.and_assoc]
  ·have hw:=Zzr h5
   have e:((l[i]).1 != 5)=true:=by simpa using h5
   rw [e];simp only [Xe];rw [Zqjb l (l[i]).2.1 (by omega) k (by omega)];simp only [Ya]
   by_cases ht:Zdv l (l[i]).2.1<(i:Int)
   ·rw [Xa ht]
    have hin:=(Zidb hlt hw).1 ht
    have hnd:¬(Z0c l).Nodup:=by
     intro hnd;have h3:=(Zhdb (l:=l) (i+1)).nodup hnd;rw [Zcv hlt,hw] at h3;simp only [if_true] at h3;exact (Y6.1 h3).2.2 _ hin _ (Yr.2 rfl) rfl
    rw [Xd hnd];rfl
   ·rw [Xb ht]
    have hn2:(Z0c (l.take (i+1))).Nodup:=by
     rw [Zcv hlt,hw];refine Y6.2 ⟨hn,Y7.2 ⟨(fun h=>nomatch h),Yz⟩,fun x hx y hy e=>?_⟩;rw [Yr.1 hy] at e;subst e;exact ht ((Zidb hlt hw).2 hx)
    simp only [Xf];rw [ih (i+1) _ _ (by omega) hn2 j (by omega)];simp only [Zfg,Xd h5]
theorem Zix (l:List Zg) (n:Int) (hl:l.length≤1048576):Zc fun k=>Z8c k l n=some (Zwb l n):=by
 refine Zc.ge (l.length+30) fun k hk=>?_
 unfold Z8c Z8i Zcb Zwb
 simp only [Ya]
 by_cases hb:1≤n∧n≤8
 ·rw [Xa hb.1,Xa hb.2]
  by_cases h20:20<l.length
  ·rw [Xa (by omega:(20:Int)<(l.length:Int)),Xc (.inl h20)]
   rfl
  ·rw [Xb (by omega:¬((20:Int)<(l.length:Int))),Zaib l n hb.1 hb.2 hl k (by omega)]
   simp only [Y9,Yv,Y2a,Xf,Ya];cases ha:l.all (Z6d n) with
   | false=>rw [Xc (.inr (.inr rfl))];rfl
   | true=>
    rw [Xd (by rintro (h | h | h);exact h20 h;exact h hb;cases h)];simp only [Yv,Xf];have run:=Ziib l (by omega) k (by omega) l.length 0 (-1) true (Yi _) Yz k (by omega);rw [Yda,Yja] at run;have run:Z8c.l0 k k l (-1) true l (l.length:Int) 0=_:=run;rw [run]
    by_cases hd:(Z0c l).Nodup
    ·rw [Xc hd,Xd (not_not_intro hd)]
     cases Zfg (-1) l <;> rfl
    ·rw [Xd hd,Xc hd]
     rfl
 ·have e:(!(decide (1≤n)&&decide (n≤8))||decide ((20:Int)<(l.length:Int)))=true:=by
   rw [show (decide (1≤n)&&decide (n≤8))=false by rw [Yaa,Ne,Yg,decide_eq_true_eq,decide_eq_true_eq];exact hb];rfl
  rw [e,Xc (.inr (.inl hb))];rfl
theorem Zumb (l:List Zg) (i:Nat) (hi:i<l.length) (hl:l.length≤1048576):∀(d c j:Nat),(hc:c+d=i)→d<j→(∀q,(hq:q<c)→isW l[i]=true→isW (l[q]'(by omega))=true→(l[q]'(by omega)).2.1≠(l[i]).2.1) →
  Zw.l1 j l (i:Int) (c:Int)=some (if isW l[i]=true∧(l[i]).2.1∈Z0c (l.take i) then .inr 12 else .inl ()):=by
 intro d
 induction d with
 | zero=>
  intro c j hc hj hq;obtain ⟨j,rfl⟩:∃q,j=q+1:=⟨j-1,by omega⟩;obtain rfl:c=i:=by omega
  unfold Zw.l1;rw [Zbb (Yc _),Xd]
  ·rfl
  ·rintro ⟨h1,h2⟩
   obtain ⟨q,hq1,hq2,hq3,hq4⟩:=Z02.1 h2;exact hq q hq2 h1 hq3 hq4
 | succ d ih=>
  intro c j hc hj hq;obtain ⟨j,rfl⟩:∃q,j=q+1:=⟨j-1,by omega⟩;have hcl:c<l.length:=by omega
  rw [Zw.l1,dlt (by omega:c<i),Zh hi,Zh hcl,Zs (by omega)];simp only [Xe,Ya]
  have go:(isW l[i]=true→isW l[c]=true→(l[c]).2.1≠(l[i]).2.1)→Zw.l1 j l (i:Int) ((c+1:Nat):Int)=some (if isW l[i]=true∧(l[i]).2.1∈Z0c (l.take i) then .inr 12 else .inl ()):=fun h=>by
   refine ih (c+1) j (by omega) (by omega) fun q hqc h1 h2=>?_
   rcases Yu q c with h3 | h3
   ·exact hq q h3 h1 h2
   ·obtain rfl:q=c:=by omega
    exact h h1 h2
  by_cases h5:(l[i]).1=5
  ·rw [show ((l[i]).1 != 5)=false by simp [h5]]
   simp only [Xf];exact go fun h1=>by rw [Z4t h5] at h1;cases h1
  ·rw [show ((l[i]).1 != 5)=true by simpa using h5]
   simp only [Xe]
   by_cases h6:(l[c]).1=5
   ·rw [show ((l[c]).1 != 5)=false by simp [h6]]
    simp only [Xf];exact go fun _ h1=>by rw [Z4t h6] at h1;cases h1
   ·rw [show ((l[c]).1 != 5)=true by simpa using h6]
    simp only [Xe]
    by_cases h7:(l[i]).2.1=(l[c]).2.1
    ·rw [show ((l[i]).2.1==(l[c]).2.1)=true by simpa using h7,Xc ⟨Zzr h5,Z02.2 ⟨c,hcl,by omega,Zzr h6,h7.symm⟩⟩]
     rfl
    ·rw [show ((l[i]).2.1==(l[c]).2.1)=false by simpa using h7]
     simp only [Xf];exact go fun _ _ e=>h7 e.symm
theorem Zvmb (l:List Zg) (hl:l.length≤20) (k:Nat) (hk:20<k):∀(d i:Nat),i+d=l.length→(Z0c (l.take i)).Nodup→∀j,d<j →
  Zw.l2 k j l (i:Int)=some (if (Z0c l).Nodup then .inl () else .inr 12):=by
 intro d
 induction d with
 | zero=>
  intro i hi hn j hj;obtain ⟨j,rfl⟩:∃q,j=q+1:=⟨j-1,by omega⟩;obtain rfl:i=l.length:=by omega
  rw [Yt] at hn;unfold Zw.l2;rw [Zbb (Yc _),Xc hn];rfl
 | succ d ih=>
  intro i hi hn j hj;obtain ⟨j,rfl⟩:∃q,j=q+1:=⟨j-1,by omega⟩;have hlt:i<l.length:=by omega
  rw [Zw.l2,dlt hlt,Zs (by omega)];have run:=Zumb l i hlt (by omega) i 0 k (Yi _) (by omega) (fun q hq=>by omega);have run:Zw.l1 k l (i:Int) 0=_:=run;simp only [Xe];rw [run]
  by_cases h:isW l[i]=true∧(l[i]).2.1∈Z0c (l.take i)
  ·rw [Xc h]
   have hnd:¬(Z0c l).Nodup:=by
    intro hnd;have h3:=(Zhdb (l:=l) (i+1)).nodup hnd;rw [Zcv hlt,h.1] at h3;simp only [if_true] at h3;exact (Y6.1 h3).2.2 _ h.2 _ (Yr.2 rfl) rfl
   rw [Xd hnd];rfl
  ·rw [Xd h]
   simp only [Ya];refine ih (i+1) (by omega) ?_ j (by omega);rw [Zcv hlt];split
   ·rename_i hw
    refine Y6.2 ⟨hn,Y7.2 ⟨(fun h=>nomatch h),Yz⟩,fun x hx y hy e=>?_⟩;rw [Yr.1 hy] at e;subst e;exact h ⟨hw,hx⟩
   ·exact hn
theorem Zwmb (l:List Zg) (hl:l.length≤20):∀(d i:Nat) (a:Int),i+d=l.length→∀j,d<j →
  Zw.l3 j l a (i:Int)=some (if Zfg a (l.drop i) then .inl () else .inr 8):=by
 intro d
 induction d with
 | zero=>
  intro i a hi j hj;obtain ⟨j,rfl⟩:∃q,j=q+1:=⟨j-1,by omega⟩;obtain rfl:i=l.length:=by omega
  unfold Zw.l3;rw [Zbb (Yc _),Y6a];rfl
 | succ d ih=>
  intro i a hi j hj;obtain ⟨j,rfl⟩:∃q,j=q+1:=⟨j-1,by omega⟩;have hlt:i<l.length:=by omega
  rw [Zw.l3,dlt hlt,Zh hlt,Zs (by omega)];simp only [Xe,Ya];rw [Y3 hlt]
  by_cases h5:(l[i]).1=5
  ·rw [show ((l[i]).1 != 5)=false by simp [h5]]
   simp only [Xf,Zfg,Xc h5]
   by_cases h6:a<(l[i]).2.2.1
   ·rw [Xb (by omega:¬((l[i]).2.2.1≤a)),Xa h6,Yja]
    exact ih (i+1) _ (by omega) j (by omega)
   ·rw [Xa (by omega:(l[i]).2.2.1≤a),Xb h6]
    rfl
  ·rw [show ((l[i]).1 != 5)=true by simpa using h5]
   simp only [Xe,Zfg,Xd h5];exact ih (i+1) _ (by omega) j (by omega)
theorem Ztmb (l:List Zg) (n:Int) (h1:1≤n) (h2:n≤8) (hl:l.length≤20):∀k,20<k→Zw.l0 k l n 0=some (if l.all (Z6d n) then .inl () else .inr 1):=by
 intro k hk
 have run:=Z1h (fun j i=>Zw.l0 j l n i) l (fun x=>!(Z6d n x)) (.inl ()) (fun i=>.inr 1) (fun i hi=>by
  constructor
  ·intro hp j
   show Zw.l0 (j+1) l n (i:Int)=Zw.l0 j l n ((i+1:Nat):Int);rw [Zw.l0,dlt hi,Zh hi,Zs (by omega)];simp only [Xe,Ya];rw [Zicb _ _ h1 h2];simp only [Ya,hp,Xf]
  ·intro hp j
   show Zw.l0 (j+1) l n (i:Int)=_;unfold Zw.l0;rw [dlt hi,Zh hi];simp only [Xe,Ya];rw [Zicb _ _ h1 h2];simp only [Ya,hp,Xe]) (fun j=>by
  show Zw.l0 (j+1) l n (l.length:Int)=_;unfold Zw.l0;rw [Zbb (Yc _)];rfl) (by omega:l.length<k)
 have run:Zw.l0 k l n 0=_:=run
 have hany:=Ztt (p:=fun x=>!(Z6d n x)) (l:=l) (n:=0)
 rw [← Yjb] at hany
 rw [run]
 cases hf:Zgb (fun x=>!(Z6d n x)) l 0 with
 | none=>
  rw [hf] at hany;have:l.all (Z6d n)=true:=by simpa using hany.symm
  rw [this];rfl
 | some m=>
  rw [hf] at hany;have:l.all (Z6d n)=false:=by simpa using hany.symm
  rw [this];rfl
theorem Zjcb (l:List Zg) (n:Int) (hl:l.length≤1048576):Zc fun k=>Zw k l n=some (Zwb l n):=by
 refine Zc.ge 30 fun k hk=>?_
 unfold Zw Zhd Zwb
 simp only [Ya]
 by_cases h20:20<l.length
 ·rw [Xa (by omega:(20:Int)<(l.length:Int)),Xc (.inl h20)]
  rfl
 rw [Xb (by omega:¬((20:Int)<(l.length:Int)))]
 simp only [Xf]
 by_cases hb:1≤n∧n≤8
 ·rw [Xa hb.1,Xa hb.2,Ztmb l n hb.1 hb.2 (by omega) k (by omega)]
  simp only [Y9,Yv,Xf];cases ha:l.all (Z6d n) with
  | false=>simp only [Y2,if_false];rw [Xc (.inr (.inr True.intro))];rfl
  | true=>
   simp only [if_true,Ya];rw [Xd (by rintro (h | h | h);exact h20 h;exact h hb;cases h)];have r2:=Zvmb l (by omega) k (by omega) l.length 0 (Yi _) Yz k (by omega);have r2:Zw.l2 k k l 0=_:=r2;have r3:=Zwmb l (by omega) l.length 0 (-1) (Yi _) k (by omega);rw [Yda] at r3;have r3:Zw.l3 k l (-1) 0=_:=r3;rw [r2]
   by_cases hd:(Z0c l).Nodup
   ·rw [Xc hd,Xd (not_not_intro hd)]
    simp only [Ya];rw [r3];cases Zfg (-1) l <;> rfl
   ·rw [Xd hd,Xc hd]
    rfl
 ·have e:(decide (1≤n)&&decide (n≤8))=false:=by rw [Yaa,Ne,Yg,decide_eq_true_eq,decide_eq_true_eq];exact hb
  rw [e,Xc (.inr (.inl hb))];rfl
theorem Z8f {l:List Zg} {n:Int} (h:Zwb l n=0):l.length≤20∧1≤n∧n≤8∧(∀x∈l,Z6d n x=true)∧(Z0c l).Nodup∧Zfg (-1) l=true:=by
 unfold Zwb at h
 split at h
 ·cases h
 ·rename_i h1
  split at h
  ·cases h
  ·rename_i h2
   split at h
   ·rename_i h3
    have h1a:¬20<l.length:=fun q=>h1 (.inl q)
    have h1b:1≤n∧n≤8:=Decidable.not_not.1 fun q=>h1 (.inr (.inl q))
    have h1c:l.all (Z6d n)=true:=by
     cases ha:l.all (Z6d n) with
     | true=>rfl
     | false=>exact absurd (.inr (.inr ha)) h1
    exact ⟨by omega,h1b.1,h1b.2,fun x hx=>List.all_eq_true.1 h1c x hx,Decidable.not_not.1 h2,h3⟩
   ·cases h
abbrev Zsc:=Int×Int×Int×Int
theorem Zmnb (l:List Zg) (hl:l.length≤20):∀k,20<k→Z4d k l=some (Zi l):=by
 intro k hk
 have run:=Zhkb (fun j (s:List Zg) i=>Z4d.l0 j l i s) l (fun s x=>.inl (if isW x then s++[x] else s)) (fun s=>s) (fun i s=>s=Zi (l.take i)) (fun i hi s hs=>by
  refine .inl ⟨_,rfl,?_,fun j=>?_⟩
  ·unfold Zi at hs ⊢
   rw [Zhj hi,Y4,hs]
   by_cases hw:isW l[i]=true
   ·rw [Xc hw];simp [hw]
   ·rw [Xd hw];simp [hw]
  ·show Z4d.l0 (j+1) l (i:Int) s=Z4d.l0 j l ((i+1:Nat):Int) (if isW l[i] then s++[l[i]] else s)
   have hsl:s.length≤20:=by
    rw [hs];refine Ynb (Yy _ _) ?_;rw [Yp];omega
   rw [Z4d.l0,dlt hi,Xa (by omega:(l.length:Int)≤20),Zh hi,Zs (by omega)];simp only [Y9,Xe,Ya]
   by_cases h5:(l[i]).1=5
   ·rw [show ((l[i]).1 != 5)=false by simp [h5],Z4t h5]
    rfl
   ·rw [show ((l[i]).1 != 5)=true by simpa using h5,Zzr h5,Zlb (by simp;omega)]
    rfl) (fun s hs j=>by
  show Z4d.l0 (j+1) l (l.length:Int) s=some s;unfold Z4d.l0;rw [Zbb (Yc _)];rfl) (s:=[]) rfl (by omega:l.length<k)
 have fold:∀(m s:List Zg),Zqk (fun s x=>.inl (if isW x then s++[x] else s)) (fun s=>s) m s=s++Zi m:=by
  intro m
  induction m with
  | nil=>intro s;simp [Zqk,Zi]
  | cons x m ih=>
   intro s;rw [Zcmb rfl,ih];unfold Zi
   by_cases hw:isW x=true
   ·rw [Xc hw,List.filter_cons_of_pos hw];simp
   ·rw [Xd hw,List.filter_cons_of_neg hw]
 rw [fold,List.nil_append] at run
 have run:Z4d.l0 k l 0 []=some (Zi l):=run
 unfold Z4d
 rw [run]
 rfl
theorem Zoib (l:List Zg) (hl:l.length≤1048576):∀(d j0:Nat) (c:List Zg),j0+d=l.length→c.length=l.length→c.drop j0=l.drop j0→(Zi (l.take j0)).length≤j0→c.take (Zi (l.take j0)).length=Zi (l.take j0)→(Zi (l.take j0)).length<j0 →
  ∀j,d<j→∃c',Znf.l0 j ((Zi (l.take j0)).length:Int) (j0:Int) c=some ((((Zi l).length:Nat):Int),c')∧c'.length=l.length∧c'.take (Zi l).length=Zi l:=by
 intro d
 induction d with
 | zero=>
  intro j0 c hj hc hd hle ht hlt j hjj;obtain ⟨j,rfl⟩:∃q,j=q+1:=⟨j-1,by omega⟩;obtain rfl:j0=l.length:=by omega
  rw [Yt] at ht ⊢;refine ⟨c,?_,hc,ht⟩;unfold Znf.l0;rw [Zbb (by omega:c.length≤l.length)];rfl
 | succ d ih=>
  intro j0 c hj hc hd hle ht hlt j hjj;obtain ⟨j,rfl⟩:∃q,j=q+1:=⟨j-1,by omega⟩;have h1:j0<l.length:=by omega
  have h2:j0<c.length:=by omega
  have hcj:c[j0]=l[j0]:=by
   have:=congrArg (fun z=>z[0]?) hd;simp only [List.getElem?_drop,Nat.add_zero] at this;rw [Ypa h2,Ypa h1] at this;exact Yza.inj this
  have hdrop:c.drop (j0+1)=l.drop (j0+1):=by
   have:=congrArg (fun z=>z.drop 1) hd;simpa [Yma,Ywa] using this
  rw [Znf.l0,dlt h2,Zh h2,Zs (by omega)];simp only [Xe,Ya,Zhk,hcj]
  have htake:Zi (l.take (j0+1))=if isW l[j0] then Zi (l.take j0)++[l[j0]] else Zi (l.take j0):=by
   unfold Zi;rw [Zhj h1,Y4]
   by_cases hw:isW l[j0]=true
   ·rw [Xc hw];simp [hw]
   ·rw [Xd hw];simp [hw]
  generalize hW:Zi (l.take j0)=W at ht hle hlt htake ⊢
  by_cases h5:(l[j0]).1=5
  ·rw [show ((l[j0]).1==5)=true by simpa using h5]
   simp only [Yv,Xf];rw [Z4t h5] at htake;have htake:Zi (l.take (j0+1))=W:=htake;have:=ih (j0+1) c (by omega) hc hdrop (by rw [htake];omega) (by rw [htake];exact ht) (by rw [htake];omega) j (by omega);rw [htake] at this;exact this
  ·rw [show ((l[j0]).1==5)=false by simpa using h5]
   have hwl:W.length<c.length:=by omega
   rw [Zh hwl,Zs (by omega),Ye];simp only [Bool.not_false,Xe,Ya];rw [Zzr h5] at htake;have htake:Zi (l.take (j0+1))=W++[l[j0]]:=htake;have hlen:(Zi (l.take (j0+1))).length=W.length+1:=by rw [htake];simp
   have:=ih (j0+1) (c.set W.length l[j0]) (by omega) (by simpa using hc) (by
    rw [List.drop_set_of_lt (by omega)];exact hdrop) (by omega) (by
    rw [hlen,htake,List.take_add_one,List.take_set_of_le (Yc _),ht,List.getElem?_set_self (by omega)];rfl) (by omega) j (by omega)
   rw [hlen] at this;exact this
theorem Zjx (l:List Zg) (hl:l.length≤1048576):∀k,l.length<k→Zji k l=some (Zi l):=by
 intro k hk
 have clone:Zti l=some l:=by
  unfold Zti;rw [Zlb (by simp;omega)];rfl
 have run:=Z1h (fun j i=>Zyd.l0 j l (l.length:Int) i) l (fun x=>!(isW x)) (.inl ()) (fun i=>.inr (i:Int)) (fun i hi=>by
  have e:Zhk l[i]=some (!(isW l[i])):=by unfold Zhk isW;simp [bne]
  constructor
  ·intro hp j
   show Zyd.l0 (j+1) l (l.length:Int) (i:Int)=Zyd.l0 j l (l.length:Int) ((i+1:Nat):Int);rw [Zyd.l0,dlt hi,Zh hi,Zs (by omega)];simp only [Xe,Ya,e,hp,Xf]
  ·intro hp j
   show Zyd.l0 (j+1) l (l.length:Int) (i:Int)=_;unfold Zyd.l0;rw [dlt hi,Zh hi];simp only [Xe,Ya,e,hp]) (fun j=>by
  show Zyd.l0 (j+1) l (l.length:Int) (l.length:Int)=_;unfold Zyd.l0;rw [Zbb (Yc _)];rfl) hk
 have run:Zyd.l0 k l (l.length:Int) 0=_:=run
 unfold Zji
 rw [clone]
 simp only [Ya]
 unfold Znf Zyd
 rw [run]
 cases hf:Zgb (fun x=>!(isW x)) l 0 with
 | none=>
  have hall:=Ztn.1 hf
  have:Zi l=l:=by
   unfold Zi;exact Y8a.2 fun x hx=>by simpa using hall x hx
  rw [this];rfl
 | some m=>
  obtain ⟨_,h2,h3,h4⟩:=Z4i hf;have h2:m<l.length:=h2;have h3:(!(isW l[m]))=true:=h3;have h4:∀j,(hj:j<m)→(!(isW (l[j]'(by omega))))=false:=h4
  have hW:Zi (l.take m)=l.take m:=by
   unfold Zi;refine Y8a.2 fun x hx=>?_
   obtain ⟨j,hj,rfl⟩:=Yab hx;rw [Yp] at hj;rw [Ydb];simpa using h4 j (by omega)
  have hW2:Zi (l.take (m+1))=l.take m:=by
   have:Zi (l.take (m+1))=Zi (l.take m):=by
    unfold Zi;rw [Zhj h2,Y4];have:isW l[m]=false:=by simpa using h3
    simp [this]
   rw [this,hW]
  have hlen:(Zi (l.take (m+1))).length=m:=by rw [hW2,Yp];omega
  obtain ⟨c',e1,e2,e3⟩:=Zoib l hl (l.length-(m+1)) (m+1) l (by omega) rfl rfl (by omega) (by rw [hlen,hW2]) (by omega) k (by omega);rw [hlen] at e1;have hne:(((m:Nat):Int) == -1)=false:=by rw [Zjh];exact Xb (by omega)
  simp only [Ya,hne,Xf];rw [Zs (by omega),e1];simp only [Ya];have hwl:(Zi l).length≤l.length:=Yy _ _
  have ht:Zhp (((Zi l).length:Nat):Int) c'.length=some ():=by
   unfold Zhp;rw [Xc ⟨by omega,by omega⟩]
  rw [ht];simp only [Ya,Ye]
  have hcut:Z3b (Yua (Zi l).length c'++Yd (c'.length-(Zi l).length) ((0,(0,(0,[]))):Zg)) 0 (((Zi l).length:Nat):Int)=some (Zi l):=by
   have hc:(Yua (Zi l).length c').length=(Zi l).length:=by rw [e3]
   have:=Z9f (l:=Yua (Zi l).length c'++Yd (c'.length-(Zi l).length) ((0,(0,(0,[]))):Zg)) (i:=0) (j:=(Zi l).length) (Yia _) (by rw [Yo,hc];omega);rw [Yda,List.take_append_of_le_length (by rw [hc];omega)] at this;rw [e3] at this ⊢;rw [Yt] at this;exact this
  rw [hcut];rfl
def Z2h (x:Zg) (b:Int):Bool:=((x.1==3)||(x.1==4))&&(x.2.2.1==b)
def wAt (w:List Zg) (i:Nat):Zg:=w.getD i (0,(0,(0,[])))
theorem Zvg {w:List Zg} {i:Nat} (h:i<w.length):wAt w i=w[i]:=by
 unfold wAt
 rw [List.getD_eq_getElem?_getD,Ypa h]
 rfl
def Zlc (w:List Zg) (left:List Nat) (st:List Int) (i:Nat):Bool:=Z9e (wAt w i).2.1 st || !(left.any fun k=>(k != i)&&Z2h (wAt w k) (wAt w i).2.1)
def Zjb (w:List Zg):Nat→List Nat→List Int→List Zsc
 | 0,_,_=>[]
 | _+1,[],_=>[]
 | n+1,i0::rest,st=>match (i0::rest).find? (Zlc w (i0::rest) st) with
  | some i=>(2,((i:Int),((wAt w i).2.1,0)))::Zjb w n ((i0::rest).erase i) st
  | none=>(1,((i0:Int),((wAt w i0).2.1,(st.length:Int))))::Zjb w n (i0::rest) (Zbd (wAt w i0).2.1 st)
def Zl (l:List Zg):List Zsc:=Zjb (Zi l) 40 (Yf (Zi l).length) []
theorem Zhu:∀(n:Nat) (l:List Nat),l.Nodup→(∀x∈l,x<n)→l.length≤n
 | 0,l,_,h=>by
  cases l with
  | nil=>exact Yc _
  | cons x l=>exact absurd (h x Yq) (Ys _)
 | n+1,l,hn,h=>by
  by_cases hm:n∈l
  ·have h1:=Zhu n (l.erase n) (hn.erase n) (fun x hx=>by
    have h2:=h x (Yib hx);have h3:=(hn.mem_erase_iff.1 hx).1;omega)
   rw [Yea hm] at h1;omega
  ·have:=Zhu n l hn (fun x hx=>by
    have h2:=h x hx;rcases Yu x n with h3 | h3
    ·exact h3
    ·have:x=n:=by omega
     exact absurd (this▸hx) hm)
   omega
theorem Zgq {l:List Int} (hn:l.Nodup) (h:∀x∈l,0≤x∧x≤7):l.length≤8:=by
 have:=Zhu 8 (l.map Int.toNat) (by
  refine List.pairwise_map.2 (hn.imp_of_mem fun {a b} ha hb hab e=>hab ?_);have:=h a ha;have:=h b hb;omega) (fun x hx=>by
  obtain ⟨y,hy,rfl⟩:=Yhb.1 hx;have:=h y hy;omega)
 simpa using this
structure PlanI (w:List Zg) (left:List Nat) (st:List Int):Prop where
 nd:left.Nodup
 lt:∀i∈left,i<w.length
 sd:st.Nodup
 sb:∀b∈st,0≤b∧b≤7
theorem Z4w {k:Int} {l:List Int}:Z9e k l=true ↔ k∈l:=by
 unfold Z9e
 rw [Y5a]
 constructor
 ·rintro ⟨x,hx,e⟩
  have:k=x:=by simpa using e
  subst this;exact hx
 ·exact fun h=>⟨k,h,by simp⟩
theorem Zk5 {k:Int} {l:List Int} (h:Z9e k l=false):Zbd k l=l++[k]:=by unfold Zbd;rw [h];rfl
theorem Z0gb {w:List Zg} {left:List Nat} {st:List Int} {i:Nat} (h:Zlc w left st i=false):Z9e (wAt w i).2.1 st=false:=by
 unfold Zlc at h
 exact ((Bool.or_eq_false_iff).1 h).1
theorem PlanI.stash {w:List Zg} {i0:Nat} {rest:List Nat} {st:List Int} (h:PlanI w (i0::rest) st) (hw:∀x∈w,0≤x.2.1∧x.2.1≤7) (hf:(i0::rest).find? (Zlc w (i0::rest) st)=none):
  PlanI w (i0::rest) (Zbd (wAt w i0).2.1 st)∧(Zbd (wAt w i0).2.1 st).length=st.length+1∧Zbd (wAt w i0).2.1 st=st++[(wAt w i0).2.1]:=by
 have h0:=Y9a.1 hf i0 Yq
 have h1:=Z0gb (Yaa.2 h0)
 have hi:=h.lt i0 Yq
 rw [Zk5 h1]
 refine ⟨⟨h.nd,h.lt,?_,?_⟩,by simp,rfl⟩
 ·refine Y6.2 ⟨h.sd,Y7.2 ⟨(fun h=>nomatch h),Yz⟩,fun x hx y hy e=>?_⟩
  rw [Yr.1 hy] at e;subst e;rw [Z4w.2 hx] at h1;cases h1
 ·intro b hb
  rcases Yga.1 hb with hb | hb
  ·exact h.sb b hb
  ·rw [Yr.1 hb,Zvg hi]
   exact hw _ (Yh hi)
theorem PlanI.done {w:List Zg} {left:List Nat} {st:List Int} (h:PlanI w left st) (i:Nat):PlanI w (left.erase i) st:=⟨h.nd.erase i,fun j hj=>h.lt j (Yib hj),h.sd,h.sb⟩
def Z3 (l:List Nat):List Int:=List.map (fun (n:Nat)=>(n:Int)) l
theorem Z2t {l:List Nat} {i:Nat} (h:i<l.length):(Z3 l)[i]'(by simpa [Z3] using h)=((l[i]:Nat):Int):=by simp [Z3]
theorem Zyr (l:List Nat):(Z3 l).length=l.length:=by simp [Z3]
theorem Zjib (w:List Zg) (left:List Nat) (i:Nat) (b:Int) (hw:w.length≤1000) (hl:left.length≤1000) (hlt:∀q∈left,q<w.length):∀k,left.length<k →
  Z0o k (Z3 left) (i:Int) w b=some (left.any fun k=>(k != i)&&Z2h (wAt w k) b,(i:Int),b):=by
 intro k hk
 have run:=Z1h (fun j q=>Zzd.l0 j (Z3 left) w ((Z3 left).length:Int) q (i:Int) b) left (fun k=>(k != i)&&Z2h (wAt w k) b) (.inl ((i:Int),b)) (fun q=>.inr ((q:Int),((i:Int),b))) (fun q hq=>by
  have hql:left[q]<w.length:=hlt _ (Yh hq);have hq':q<(Z3 left).length:=by rw [Zyr];exact hq
  have e:Zgo ((left[q]:Nat):Int) (i:Int) w b=some ((left[q] != i)&&Z2h (wAt w left[q]) b):=by
   unfold Zgo
   by_cases hne:left[q]=i
   ·rw [show (((left[q]:Nat):Int) != (i:Int))=false by simp [hne],show (left[q] != i)=false by simp [hne]]
    rfl
   ·rw [show (((left[q]:Nat):Int) != (i:Int))=true by simp;omega,show (left[q] != i)=true by simpa using hne,Zh hql,Zvg hql]
    rfl
  constructor
  ·intro hp j
   show Zzd.l0 (j+1) (Z3 left) w ((Z3 left).length:Int) (q:Int) (i:Int) b=Zzd.l0 j (Z3 left) w ((Z3 left).length:Int) ((q+1:Nat):Int) (i:Int) b;rw [Zzd.l0,dlt hq',Zh hq',Zs (by omega),Z2t hq];simp only [Xe,Ya,e,hp,Xf]
  ·intro hp j
   show Zzd.l0 (j+1) (Z3 left) w ((Z3 left).length:Int) (q:Int) (i:Int) b=_;rw [Zzd.l0,dlt hq',Zh hq',Z2t hq];simp only [Xe,Ya,e,hp]) (fun j=>by
  show Zzd.l0 (j+1) (Z3 left) w ((Z3 left).length:Int) (left.length:Int) (i:Int) b=_;unfold Zzd.l0;rw [Zbb (by rw [Zyr];exact Yc _)];rfl) hk
 have run:Zzd.l0 k (Z3 left) w ((Z3 left).length:Int) 0 (i:Int) b=_:=run
 have hany:=Ztt (p:=fun k=>(k != i)&&Z2h (wAt w k) b) (l:=left) (n:=0)
 unfold Z0o Zzd
 rw [run,← hany]
 cases Zgb (fun k=>(k != i)&&Z2h (wAt w k) b) left 0 with
 | none=>rfl
 | some m=>
  simp only [Ya,Yub];rw [Xa (by omega:(0:Int)≤(m:Int))]
theorem Zwib (w:List Zg) (left:List Nat) (st:List Int) (i:Nat) (hw:w.length≤1000) (hl:left.length≤1000) (hlt:∀q∈left,q<w.length) (hi:i<w.length):∀k,left.length<k →
  Zfo k (i:Int) w st (Z3 left)=some (Zlc w left st i,st):=by
 intro k hk
 unfold Zfo Zlc
 rw [Zh hi,Zvg hi]
 simp only [Ya]
 cases Z9e (w[i]).2.1 st with
 | true=>rfl
 | false=>
  rw [Zjib w left i _ hw hl hlt k hk];rfl
theorem Z1ib (w:List Zg) (left:List Nat) (st:List Int) (hw:w.length≤1000) (hl:left.length≤1000) (hlt:∀q∈left,q<w.length):∀k,left.length<k →
  Znd k (Z3 left) w st (Z3 left)=some (match Zgb (Zlc w left st) left 0 with | some p=>(p:Int) | none=>-1,w,st):=by
 intro k hk
 have run:=Z1h (fun j q=>Znd.l0 k j (Z3 left) (Z3 left) ((Z3 left).length:Int) q w st) left (Zlc w left st) (.inl (w,st)) (fun q=>.inr ((q:Int),(w,st))) (fun q hq=>by
  have hql:left[q]<w.length:=hlt _ (Yh hq);have hq':q<(Z3 left).length:=by rw [Zyr];exact hq
  have e:=Zwib w left st left[q] hw hl hlt hql k hk;constructor
  ·intro hp j
   show Znd.l0 k (j+1) (Z3 left) (Z3 left) ((Z3 left).length:Int) (q:Int) w st=Znd.l0 k j (Z3 left) (Z3 left) ((Z3 left).length:Int) ((q+1:Nat):Int) w st;rw [Znd.l0,dlt hq',Zh hq',Zs (by omega),Z2t hq];simp only [Xe,Ya,e,hp,Xf]
  ·intro hp j
   show Znd.l0 k (j+1) (Z3 left) (Z3 left) ((Z3 left).length:Int) (q:Int) w st=_;rw [Znd.l0,dlt hq',Zh hq',Z2t hq];simp only [Xe,Ya,e,hp]) (fun j=>by
  show Znd.l0 k (j+1) (Z3 left) (Z3 left) ((Z3 left).length:Int) (left.length:Int) w st=_;unfold Znd.l0;rw [Zbb (by rw [Zyr];exact Yc _)];rfl) hk
 have run:Znd.l0 k k (Z3 left) (Z3 left) ((Z3 left).length:Int) 0 w st=_:=run
 unfold Znd
 rw [run]
 cases Zgb (Zlc w left st) left 0 <;> rfl
theorem Zut {α:Type} {p:α→Bool}:∀{l:List α} {n:Nat},(Zgb p l n=none∧l.find? p=none)∨∃i,∃h:i<l.length,Zgb p l n=some (n+i)∧l.find? p=some l[i]∧∀j,(hj:j<i)→p (l[j]'(by omega))=false
 | [],n=>.inl ⟨rfl,rfl⟩
 | x::l,n=>by
  cases hp:p x with
  | true=>exact .inr ⟨0,by simp,by simp [Zgb,hp],by simp [Yoa,hp],fun j hj=>absurd hj (Ys _)⟩
  | false=>
   have e1:Zgb p (x::l) n=Zgb p l (n+1):=by simp [Zgb,hp]
   have e2:(x::l).find? p=l.find? p:=by simp [Yoa,hp]
   rw [e1,e2];rcases Zut (p:=p) (l:=l) (n:=n+1) with ⟨h1,h2⟩ | ⟨i,hi,h1,h2,h3⟩
   ·exact .inl ⟨h1,h2⟩
   ·refine .inr ⟨i+1,by simpa using hi,by rw [h1];congr 1;omega,by rw [h2];rfl,fun j hj=>?_⟩
    cases j with
    | zero=>exact hp
    | succ j=>exact h3 j (by omega)
theorem Z27:∀{l:List Nat} {i:Nat} (h:i<l.length),l.Nodup→l.erase l[i]=l.take i++l.drop (i+1)
 | x::l,0,h,hn=>by simp
 | x::l,i+1,h,hn=>by
  have hi:i<l.length:=by simpa using h
  have hne:x≠l[i]:=fun e=>(Y7.1 hn).1 (e▸Yh hi)
  rw [List.getElem_cons_succ,List.erase_cons_tail (by simpa using hne),Z27 hi (Y7.1 hn).2];rfl
theorem Z6ib (w:List Zg) (hw:w.length≤20) (hwb:∀x∈w,0≤x.2.1∧x.2.1≤7) (k:Nat) (hk:20<k):∀(d:Nat) (left:List Nat) (st:List Int) (out:List Zsc),PlanI w left st→left.length+(8-st.length)≤d→out.length+d≤100→∀n j,d<n→d<j →
  ∃f,Zib.l1 k j w out (Z3 left) st=some (w,out++Zjb w n left st,f):=by
 intro d
 induction d with
 | zero=>
  intro left st out hI hd ho n j hn hj;obtain ⟨j,rfl⟩:∃q,j=q+1:=⟨j-1,by omega⟩;obtain ⟨n,rfl⟩:∃q,n=q+1:=⟨n-1,by omega⟩;obtain rfl:left=[]:=Y7a (by omega);refine ⟨(Z3 [],st),?_⟩;unfold Zib.l1;rw [Xb (by simp [Z3]:¬((0:Int)<((Z3 ([]:List Nat)).length:Int)))];simp only [Xf,Zjb,Yw]
 | succ d ih=>
  intro left st out hI hd ho n j hn hj;obtain ⟨j,rfl⟩:∃q,j=q+1:=⟨j-1,by omega⟩;obtain ⟨n,rfl⟩:∃q,n=q+1:=⟨n-1,by omega⟩;have hll:left.length≤20:=Ynb (Zhu w.length left hI.nd hI.lt) hw;have hsl:=Zgq hI.sd hI.sb;cases left with
  | nil=>
   refine ⟨(Z3 [],st),?_⟩;unfold Zib.l1;rw [Xb (by simp [Z3]:¬((0:Int)<((Z3 ([]:List Nat)).length:Int)))];simp only [Xf,Zjb,Yw]
  | cons i0 rest=>
   have hi0:=hI.lt i0 Yq;rw [Zib.l1,Xa (by rw [Zyr,Yx];omega:(0:Int)<((Z3 (i0::rest)).length:Int)),Z1ib w (i0::rest) st (by omega) (by omega) hI.lt k (by omega)];simp only [Xe,Ya];rcases Zut (p:=Zlc w (i0::rest) st) (l:=i0::rest) (n:=0) with ⟨h1,h2⟩ | ⟨p,hp,h1,h2,h3⟩
   ·obtain ⟨g1,g2,g3⟩:=hI.stash hwb h2
    have hst:=Zgq g1.sd g1.sb;rw [g2] at hst;rw [h1];have e0:at? (Z3 (i0::rest)) 0=some (i0:Int):=rfl;rw [Xa (by decide:(-1:Int)<0),e0];simp only [Xe,Ya];rw [Zh hi0];simp only [Ya];rw [Zlb (by simp;omega)];simp only [Ya]
    have hp2:Zjb w (n+1) (i0::rest) st=(1,((i0:Int),((wAt w i0).2.1,(st.length:Int))))::Zjb w n (i0::rest) (Zbd (wAt w i0).2.1 st):=by
     simp only [Zjb,h2]
    rw [hp2,Zvg hi0];rw [Zvg hi0] at g1 g2;obtain ⟨f,hf⟩:=ih (i0::rest) (Zbd (w[i0]).2.1 st) (out++[(1,((i0:Int),((w[i0]).2.1,(st.length:Int))))]) g1 (by omega) (by simp;omega) n j (by omega) (by omega);exact ⟨f,by rw [hf,Yn];rfl⟩
   ·rw [h1,Yi]
    have hpi:p<(Z3 (i0::rest)).length:=by rw [Zyr];exact hp
    have hpl:=hI.lt _ (Yh hp);rw [Xb (by omega:¬((p:Int)<0)),Zh hpi,Z2t hp,Zs (by omega)];simp only [Xf,Ya];rw [Zh hpl];simp only [Ya];rw [Zlb (by simp;omega)]
    have hdel:slices_Delete_int (Z3 (i0::rest)) (p:Int) ((p+1:Nat):Int)=some (Z3 ((i0::rest).erase (i0::rest)[p])):=by
     unfold slices_Delete_int;rw [Xc ⟨by omega,by omega,by omega⟩,Ye,Ye,Z27 hp hI.nd];simp [Z3,List.map_take,List.map_drop]
    rw [hdel];simp only [Ya]
    have hp2:Zjb w (n+1) (i0::rest) st=(2,(((i0::rest)[p]:Nat):Int),(wAt w (i0::rest)[p]).2.1,0)::Zjb w n ((i0::rest).erase (i0::rest)[p]) st:=by
     simp only [Zjb,h2]
    have hle:((i0::rest).erase (i0::rest)[p]).length=(i0::rest).length-1:=Yea (Yh hp);rw [hp2,Zvg hpl]
    obtain ⟨f,hf⟩:=ih ((i0::rest).erase (i0::rest)[p]) st (out++[(2,((((i0::rest)[p]:Nat):Int),((w[(i0::rest)[p]]).2.1,0)))]) (hI.done _) (by
     rw [hle];have:(i0::rest).length=rest.length+1:=rfl;omega) (by simp;omega) n j (by omega) (by omega)
    exact ⟨f,by rw [hf,Yn];rfl⟩
theorem Ztib (n:Nat) (hn:n≤20):∀k,n<k→Zib.l0 k (n:Int) 0 (Yd n 0)=some (Z3 (Yf n)):=by
 intro k hk
 have run:=Z96 (fun j i c=>Zib.l0 j (n:Int) i c) (Z3 (Yf n)) (0:Int) (fun i hi c hc j=>by
  have hin:i<n:=by simpa [Z3] using hi
  have hl:(Z3 (Yf n)).length=n:=by simp [Z3]
  show Zib.l0 (j+1) (n:Int) (i:Int) c=Zib.l0 j (n:Int) ((i+1:Nat):Int) (c.set i (Z3 (Yf n))[i]);rw [Zib.l0,dlt hin,Zh (by omega:i<c.length),Zs (by omega),Ye];simp [Z3]) (fun c j=>by
  show Zib.l0 (j+1) (n:Int) ((Z3 (Yf n)).length:Int) c=some c;have hl:(Z3 (Yf n)).length=n:=by simp [Z3]
  unfold Zib.l0;rw [hl,Zbb (Yc _)];rfl) (k:=k) (by simp [Z3];omega)
 have hl:(Z3 (Yf n)).length=n:=by simp [Z3]
 rw [hl] at run
 exact run
theorem Z2y (w:List Zg):PlanI w (Yf w.length) []:=⟨List.nodup_range,fun i hi=>Yta.1 hi,Yz,fun b hb=>nomatch hb⟩
theorem Zur (l:List Zg) (hl:l.length≤20) (hb:∀x∈Zi l,0≤x.2.1∧x.2.1≤7):Zc fun k=>Zib k l=some (Zl l):=by
 refine Zc.ge 60 fun k hk=>?_
 have hwl:(Zi l).length≤l.length:=Yy _ _
 unfold Zib
 rw [Zjx l (by omega) k (by omega)]
 simp only [Ya]
 rw [Z5r (by omega)]
 simp only [Ya,Y5]
 rw [Ztib _ (by omega) k (by omega)]
 simp only [Ya]
 obtain ⟨f,hf⟩:=Z6ib (Zi l) (by omega) hb k (by omega) 30 (Yf (Zi l).length) [] [] (Z2y _) (by simp;omega) (by simp) 40 k (by omega) (by omega)
 rw [hf]
 rfl
theorem Zgkb {R:Type} (L:Nat→Int→Option R) (n:Nat) (p:Nat→Bool) (a:R) (b:Nat→R)
  (hs:∀(i:Nat),i<n→(p i=false→∀j,L (j+1) (i:Int)=L j ((i+1:Nat):Int))∧(p i=true→∀j,L (j+1) (i:Int)=some (b i)))
  (he:∀j,L (j+1) (n:Int)=some a) {k:Nat} (hk:n<k):L k 0=some (match (Yf n).find? p with | some i=>b i | none=>a):=by
 have hl:(Yf n).length=n:=Yfb
 have run:=Z1h L (Yf n) p a b (fun i hi=>by rw [Ybb];exact hs i (by omega)) (by rw [hl];exact he) (k:=k) (by rw [hl];exact hk)
 rw [run]
 rcases Zut (p:=p) (l:=Yf n) (n:=0) with ⟨h1,h2⟩ | ⟨q,hq,h1,h2,h3⟩
 ·rw [h1,h2]
 ·rw [h1,h2,Yi,Ybb]
def Zxj:Option Nat→Int
 | some i=>(i:Int)
 | none=>-1
theorem Zj3 (i:Nat):decide (Zxj (some i)<0)=false:=Xb (by show ¬((i:Int)<0);omega)
theorem Zqab:decide (Zxj none<0)=true:=rfl
structure PlanR (w:List Zg) (left:List Nat) (st:List Int) (lB sB:List Bool):Prop where
 pi:PlanI w left st
 so:left.Pairwise (· < ·)
 ll:lB.length=w.length
 lm:∀i,(h:i<lB.length)→lB[i]=decide (i∈left)
 sl:sB.length=8
 sm:∀b:Nat,(h:b<sB.length)→sB[b]=Z9e (b:Int) st
section
variable {w:List Zg} {left:List Nat} {st:List Int} {lB sB:List Bool}
theorem PlanR.done (h:PlanR w left st lB sB) (i:Nat):PlanR w (left.erase i) st (lB.set i false) sB:=by
 refine ⟨h.pi.done i,h.so.sublist List.erase_sublist,by rw [Yfa];exact h.ll,fun q hq=>?_,h.sl,h.sm⟩
 rw [Yfa] at hq
 rw [Ycb]
 by_cases hi:i=q
 ·subst hi
  rw [Xc rfl,Xb];intro hm;exact (h.pi.nd.mem_erase_iff.1 hm).1 rfl
 ·rw [Xd hi,h.lm q hq,Yba,decide_eq_true_eq,decide_eq_true_eq,h.pi.nd.mem_erase_iff]
  exact ⟨fun g=>⟨fun e=>hi e.symm,g⟩,fun g=>g.2⟩
theorem PlanR.stash (h:PlanR w left st lB sB) {b:Nat} {st':List Int} (hp:PlanI w left st') (e:st'=st++[(b:Int)]):PlanR w left st' lB (sB.set b true):=by
 refine ⟨hp,h.so,h.ll,h.lm,by rw [Yfa];exact h.sl,fun q hq=>?_⟩
 rw [Yfa] at hq
 rw [Ycb,e]
 have ha:Z9e (q:Int) (st++[(b:Int)])=(Z9e (q:Int) st||((b:Int)==(q:Int)||(q:Int)==(b:Int))):=by
  rw [Yba,Z4w,Y1a,Z4w,Yga,Yr,Y1a,beq_iff_eq,beq_iff_eq];constructor
  ·rintro (g | g)
   ·exact .inl g
   ·exact .inr (.inr g)
  ·rintro (g | g | g)
   ·exact .inl g
   ·exact .inr g.symm
   ·exact .inr g
 rw [ha]
 by_cases hb:b=q
 ·subst hb
  rw [Xc rfl];simp
 ·rw [Xd hb,h.sm q hq]
  have e1:((b:Int)==(q:Int))=false:=by rw [Zjh];exact Xb (by omega)
  have e2:((q:Int)==(b:Int))=false:=by rw [Zjh];exact Xb (by omega)
  rw [e1,e2];simp
theorem Zrmb (h:PlanR w left st lB sB) (hw:w.length≤20) (hwb:∀x∈w,0≤x.2.1∧x.2.1≤7) (i:Nat) (hi:i<w.length):∀k,20<k→Zyc k w lB sB (i:Int)=some (!(Zlc w left st i)):=by
 intro k hk
 obtain ⟨h0,h7⟩:=hwb _ (Yh hi)
 obtain ⟨b,hb⟩:=Y3a h0
 have hbs:b<sB.length:=by have:=h.sl;omega
 have run:=Zgkb (fun j q=>Zyc.l0 j w lB (i:Int) q) w.length (fun q=>(q != i)&&(decide (q∈left)&&Z2h (wAt w q) (wAt w i).2.1)) (.inl ()) (fun _=>.inr true) (fun q hq=>by
  have hql:q<lB.length:=by have:=h.ll;omega
  have e0:Zuq w[q] (w[i]).2.1=some (Z2h (wAt w q) (wAt w i).2.1):=by rw [Zvg hq,Zvg hi];rfl
  have key:∀j,Zyc.l0 (j+1) w lB (i:Int) (q:Int)=if ((q != i)&&(decide (q∈left)&&Z2h (wAt w q) (wAt w i).2.1))=true then some (.inr true) else Zyc.l0 j w lB (i:Int) ((q+1:Nat):Int):=by
   intro j;rw [Zyc.l0,dlt hq,Zh hql,Zh hq,Zh hi,Zs (by omega),h.lm q hql];simp only [Xe,Ya,e0]
   by_cases hne:q=i
   ·rw [show ((q:Int) != (i:Int))=false by simp [hne],show (q != i)=false by simp [hne]]
    rfl
   ·rw [show ((q:Int) != (i:Int))=true by simp;omega,show (q != i)=true by simpa using hne]
    cases decide (q∈left) with
    | false=>rfl
    | true=>cases Z2h (wAt w q) (wAt w i).2.1 <;> rfl
  constructor
  ·intro hp j
   show Zyc.l0 (j+1) w lB (i:Int) (q:Int)=Zyc.l0 j w lB (i:Int) ((q+1:Nat):Int);rw [key,Xd (by rw [hp];exact Bool.false_ne_true)]
  ·intro hp j
   show Zyc.l0 (j+1) w lB (i:Int) (q:Int)=_;rw [key,Xc hp]) (fun j=>by
  show Zyc.l0 (j+1) w lB (i:Int) (w.length:Int)=_;unfold Zyc.l0;rw [Zbb (Yc _)];rfl) (by omega:w.length<k)
 have run:Zyc.l0 k w lB (i:Int) 0=_:=run
 unfold Zyc Zlc
 rw [Zh hi,Zvg hi]
 simp only [Ya]
 have hat:at? sB (w[i]).2.1=some (Z9e (w[i]).2.1 st):=by
  rw [hb,Zh hbs,h.sm b hbs]
 rw [hat]
 simp only [Ya]
 cases Z9e (w[i]).2.1 st with
 | true=>rfl
 | false=>
  simp only [Xf,Bool.false_or,Bool.not_not];rw [run];rw [Zvg hi];cases hf:(Yf w.length).find? (fun q=>(q != i)&&(decide (q∈left)&&Z2h (wAt w q) (w[i]).2.1)) with
  | none=>
   have:=Y9a.1 hf
   have:(left.any fun k=>(k != i)&&Z2h (wAt w k) (w[i]).2.1)=false:=by
    rw [List.any_eq_false];intro x hx hc;refine this x (Yta.2 (h.pi.lt x hx)) ?_;rw [Xa hx,Yja];exact hc
   rw [this];rfl
  | some q=>
   have h1:=List.find?_some hf
   have:(left.any fun k=>(k != i)&&Z2h (wAt w k) (w[i]).2.1)=true:=by
    rw [Y5a];simp only [Yg,decide_eq_true_eq] at h1;exact ⟨q,h1.2.1,by rw [Yg];exact ⟨h1.1,h1.2.2⟩⟩
   rw [this];rfl
theorem Z8mb (h:PlanR w left st lB sB) (hw:w.length≤20) (hwb:∀x∈w,0≤x.2.1∧x.2.1≤7) (k:Nat) (hk:20<k):∀(d i:Nat) (dn todo:List Nat),i+d=w.length→left=dn++todo→(∀x∈dn,x<i)→(∀x∈todo,i≤x)→∀j,d<j →
  Zid.l0 k j w lB sB (Zxj (dn.find? (Zlc w left st))) (Zxj dn.head?) (i:Int)=some (Zxj (left.find? (Zlc w left st)),Zxj left.head?):=by
 intro d
 induction d with
 | zero=>
  intro i dn todo hi hl h1 h2 j hj;obtain ⟨j,rfl⟩:∃q,j=q+1:=⟨j-1,by omega⟩;obtain rfl:i=w.length:=by omega
  have ht:todo=[]:=by
   cases todo with
   | nil=>rfl
   | cons y t=>
    have:=h2 y Yq;have:=h.pi.lt y (by rw [hl];exact Ygb _ Yq);omega
  subst ht;rw [Yw] at hl;rw [← hl];unfold Zid.l0;rw [Zbb (Yc _)];rfl
 | succ d ih=>
  intro i dn todo hi hl h1 h2 j hj;obtain ⟨j,rfl⟩:∃q,j=q+1:=⟨j-1,by omega⟩;have hiw:i<w.length:=by omega
  have hil:i<lB.length:=by have:=h.ll;omega
  rw [Zid.l0,dlt hiw,Zh hil,Zs (by omega),h.lm i hil,Zrmb h hw hwb i hiw k hk];simp only [Xe,Ya]
  by_cases hm:i∈left
  ·rw [Xa hm]
   have hit:i∈todo:=by
    rw [hl] at hm;rcases Yga.1 hm with g | g
    ·exact absurd (h1 i g) (Nat.lt_irrefl _)
    ·exact g
   have hso:=h.so;rw [hl] at hso;have hst:=(List.pairwise_append.1 hso).2.1;cases todo with
   | nil=>exact nomatch hit
   | cons y t=>
    have hyt:=List.pairwise_cons.1 hst
    have hyi:y=i:=by
     rcases List.mem_cons.1 hit with g | g
     ·exact g.symm
     ·have:=hyt.1 i g
      have:=h2 y Yq;omega
    subst hyi
    have ih':=ih (y+1) (dn++[y]) t (by omega) (by rw [hl,Yn];rfl) (fun x hx=>by
     rcases Yga.1 hx with g | g
     ·have:=h1 x g;omega
     ·rw [Yr.1 g];omega) (fun x hx=>hyt.1 x hx) j (by omega)
    have eA:(dn++[y]).find? (Zlc w left st)=(dn.find? (Zlc w left st)).or (if Zlc w left st y then some y else none):=by
     rw [List.find?_append];congr 1;unfold Yoa;cases Zlc w left st y <;> rfl
    have eB:(dn++[y]).head? = (dn.head?).or (some y):=by cases dn <;> rfl
    rw [eA,eB] at ih';simp only [Yv,Xf];cases hB:dn.head? with
    | none=>
     have hdn:dn=[]:=by cases dn with | nil=>rfl | cons a b=>cases hB
     subst hdn;rw [hB] at ih';have e1:(([]:List Nat).find? (Zlc w left st))=none:=rfl;rw [e1] at ih' ⊢;rw [Zqab];simp only [Xe];cases hf:Zlc w left st y with
     | true=>rw [hf] at ih';exact ih'
     | false=>rw [hf] at ih';exact ih'
    | some a=>
     rw [hB] at ih';rw [Zj3];simp only [Xf];cases hA:dn.find? (Zlc w left st) with
     | none=>
      rw [hA] at ih';rw [Zqab];simp only [Xe];cases hf:Zlc w left st y with
      | true=>rw [hf] at ih';exact ih'
      | false=>rw [hf] at ih';exact ih'
     | some c=>
      rw [hA] at ih';rw [Zj3];exact ih'
  ·rw [Xb hm]
   exact ih (i+1) dn todo (by omega) hl (fun x hx=>by have:=h1 x hx;omega) (fun x hx=>by
    have:=h2 x hx;rcases Yu i x with g | g
    ·exact g
    ·have:x=i:=by omega
     subst this;exact absurd (by rw [hl];exact Ygb _ hx) hm) j (by omega)
theorem Zf4 (h:PlanR w left st lB sB) (hw:w.length≤20) (hwb:∀x∈w,0≤x.2.1∧x.2.1≤7) (k:Nat) (hk:21<k):Zid k w lB sB=some (Zxj (left.find? (Zlc w left st)),Zxj left.head?):=by
 have run:=Z8mb h hw hwb k (by omega) w.length 0 [] left (Yi _) rfl (fun x hx=>nomatch hx) (fun x _=>Yia x) k (by omega)
 have run:Zid.l0 k k w lB sB (-1) (-1) 0=_:=run
 unfold Zid
 rw [run]
 rfl
end
theorem Zanb (w:List Zg) (hw:w.length≤20) (hwb:∀x∈w,0≤x.2.1∧x.2.1≤7) (k:Nat) (hk:21<k):∀(d:Nat) (left:List Nat) (st:List Int) (lB sB:List Bool) (out:List Zsc),PlanR w left st lB sB→left.length+(8-st.length)≤d→out.length+d≤100→∀n j,d<n→d<j →
  Zsb.l1 k j (st.length:Int) w lB sB out=some (out++Zjb w n left st):=by
 intro d
 induction d with
 | zero=>
  intro left st lB sB out hI hd ho n j hn hj;obtain ⟨j,rfl⟩:∃q,j=q+1:=⟨j-1,by omega⟩;obtain ⟨n,rfl⟩:∃q,n=q+1:=⟨n-1,by omega⟩;obtain rfl:left=[]:=Y7a (by omega);unfold Zsb.l1;rw [Zf4 hI hw hwb k hk];simp only [Zjb,Yw];rfl
 | succ d ih=>
  intro left st lB sB out hI hd ho n j hn hj;obtain ⟨j,rfl⟩:∃q,j=q+1:=⟨j-1,by omega⟩;obtain ⟨n,rfl⟩:∃q,n=q+1:=⟨n-1,by omega⟩;have hsl:=Zgq hI.pi.sd hI.pi.sb;cases left with
  | nil=>
   unfold Zsb.l1;rw [Zf4 hI hw hwb k hk];simp only [Zjb,Yw];rfl
  | cons i0 rest=>
   have hi0:=hI.pi.lt i0 Yq;rw [Zsb.l1,Zf4 hI hw hwb k hk];simp only [Ya];rw [show (i0::rest).head? = some i0 from rfl,Zj3];simp only [Xf];rcases Zut (p:=Zlc w (i0::rest) st) (l:=i0::rest) (n:=0) with ⟨h1,h2⟩ | ⟨p,hp,h1,h2,h3⟩
   ·obtain ⟨g1,g2,g3⟩:=hI.pi.stash hwb h2
    have hst:=Zgq g1.sd g1.sb;rw [g2] at hst;rw [h2]
    have hp2:Zjb w (n+1) (i0::rest) st=(1,((i0:Int),((wAt w i0).2.1,(st.length:Int))))::Zjb w n (i0::rest) (Zbd (wAt w i0).2.1 st):=by
     simp only [Zjb,h2]
    rw [hp2,Zvg hi0];rw [Zvg hi0] at g1 g2 g3;obtain ⟨q0,q7⟩:=hwb _ (Yh hi0);obtain ⟨b,hb⟩:=Y3a q0;have hb:(w[i0]).2.1=(b:Int):=hb;have hbs:b<sB.length:=by have:=hI.sl;omega
    rw [show decide (0≤Zxj none)=false from rfl,show Zxj (some i0)=(i0:Int) from rfl,Zh hi0,Zs (by omega)];simp only [Xf,Ya];rw [Zlb (by simp;omega),hb,Zh hbs];simp only [Ya,Ye];rw [hb] at g1 g2 g3;have:=ih (i0::rest) (Zbd (b:Int) st) lB (sB.set b true) (out++[(1,((i0:Int),((b:Int),(st.length:Int))))]) (hI.stash g1 g3) (by omega) (by simp;omega) n j (by omega) (by omega);rw [g2] at this;rw [this,Yn];rfl
   ·rw [h2]
    have hpl:=hI.pi.lt _ (Yh hp);have hll:(i0::rest)[p]<lB.length:=by have:=hI.ll;omega
    have hp2:Zjb w (n+1) (i0::rest) st=(2,(((i0::rest)[p]:Nat):Int),(wAt w (i0::rest)[p]).2.1,0)::Zjb w n ((i0::rest).erase (i0::rest)[p]) st:=by
     simp only [Zjb,h2]
    have hle:((i0::rest).erase (i0::rest)[p]).length=(i0::rest).length-1:=Yea (Yh hp);rw [hp2,Zvg hpl];rw [show decide (0≤Zxj (some (i0::rest)[p]))=true from Xa (Int.natCast_nonneg _),show Zxj (some (i0::rest)[p])=(((i0::rest)[p]:Nat):Int) from rfl,Zh hpl,Zh hll];simp only [Xe,Ya,Ye];rw [Zlb (by simp;omega)];simp only [Ya]
    rw [ih ((i0::rest).erase (i0::rest)[p]) st (lB.set (i0::rest)[p] false) sB (out++[(2,((((i0::rest)[p]:Nat):Int),((w[(i0::rest)[p]]).2.1,0)))]) (hI.done _) (by
     rw [hle];have:(i0::rest).length=rest.length+1:=rfl;omega) (by simp;omega) n j (by omega) (by omega),Yn]
    rfl
theorem Zzmb (w:List Zg) (hw:w.length≤20):∀k,w.length<k→Zsb.l0 k 0 w (Yd w.length false)=some (w,Yd w.length true):=by
 intro k hk
 have run:=Z96 (fun j i c=>(Zsb.l0 j i w c).map fun p=>p.2) (Yd w.length true) false (fun i hi c hc j=>by
  have hiw:i<w.length:=by simpa using hi
  have hic:i<c.length:=by rw [hc];exact hi
  show (Zsb.l0 (j+1) (i:Int) w c).map _=(Zsb.l0 j ((i+1:Nat):Int) w (c.set i (Yd w.length true)[i])).map _;rw [Zsb.l0,dlt hiw,Zh hic,Zs (by omega),Ye,Yqa];rfl) (fun c j=>by
  show (Zsb.l0 (j+1) ((Yd w.length true).length:Int) w c).map _=some c;unfold Zsb.l0;rw [Zbb (by simp)];rfl) (k:=k) (by simpa using hk)
 have fst:∀(d i:Nat) (c:List Bool) (r:List Zg×List Bool),i+d=w.length→∀j,Zsb.l0 j (i:Int) w c=some r→r.1=w:=by
  intro d
  induction d with
  | zero=>
   intro i c r hi j h;cases j with
   | zero=>cases h
   | succ j=>
    unfold Zsb.l0 at h;rw [Zbb (by omega:w.length≤i)] at h;cases h;rfl
  | succ d ih=>
   intro i c r hi j h;cases j with
   | zero=>cases h
   | succ j=>
    rw [Zsb.l0,dlt (by omega:i<w.length),Zs (by omega)] at h;simp only [Xe] at h;cases ha:at? c (i:Int) with
    | none=>rw [ha] at h;cases h
    | some v=>
     rw [ha] at h;exact ih (i+1) _ r (by omega) j h
 rw [Y5] at run
 have run:(Zsb.l0 k 0 w (Yd w.length false)).map (fun p=>p.2)=some (Yd w.length true):=run
 cases hr:Zsb.l0 k 0 w (Yd w.length false) with
 | none=>rw [hr] at run;cases run
 | some r=>
  rw [hr] at run;have h1:=fst w.length 0 _ r (Yi _) k hr;have h2:r.2=Yd w.length true:=Yza.inj run;obtain ⟨r1,r2⟩:=r;have h1:r1=w:=h1;have h2:r2=Yd w.length true:=h2;rw [h1,h2]
theorem Z7nb (w:List Zg):PlanR w (Yf w.length) [] (Yd w.length true) (Yd 8 false):=by
 refine ⟨Z2y w,List.pairwise_lt_range,Y5,fun i hi=>?_,Y5,fun b hb=>?_⟩
 ·rw [Y5] at hi
  rw [Yqa,Xa (Yta.2 hi)]
 ·rw [Yqa]
  rfl
theorem Zay (l:List Zg) (hl:l.length≤20) (hb:∀x∈Zi l,0≤x.2.1∧x.2.1≤7):(Zl l).length≤28:=by
 have hwl:(Zi l).length≤l.length:=Yy _ _
 have key:∀(n:Nat) (left:List Nat) (st:List Int),PlanI (Zi l) left st→(Zjb (Zi l) n left st).length≤left.length+(8-st.length):=by
  intro n
  induction n with
  | zero=>intro left st h;exact Yia _
  | succ n ih=>
   intro left st h;cases left with
   | nil=>exact Yia _
   | cons i0 rest=>
    rcases Zut (p:=Zlc (Zi l) (i0::rest) st) (l:=i0::rest) (n:=0) with ⟨h1,h2⟩ | ⟨p,hp,h1,h2,h3⟩
    ·obtain ⟨g1,g2,g3⟩:=h.stash hb h2
     have hst:=Zgq g1.sd g1.sb;have:=ih _ _ g1;simp only [Zjb,h2,Yx] at this ⊢;omega
    ·have:=ih _ _ (h.done (i0::rest)[p])
     have hle:((i0::rest).erase (i0::rest)[p]).length=(i0::rest).length-1:=Yea (Yh hp);rw [hle] at this;simp only [Zjb,h2,Yx] at this ⊢;omega
 have:=key 40 _ _ (Z2y (Zi l))
 rw [Yfb,List.length_nil] at this
 unfold Zl
 omega
theorem Zfcb (l:List Zg) (hl:l.length≤20) (hb:∀x∈Zi l,0≤x.2.1∧x.2.1≤7):∀k,60≤k→Zsb k l=some (Zl l):=by
 intro k hk
 have hwl:(Zi l).length≤l.length:=Yy _ _
 unfold Zsb
 rw [Zmnb l hl k (by omega)]
 simp only [Ya]
 rw [Z5r (by omega)]
 simp only [Ya]
 rw [Zzmb _ (by omega) k (by omega)]
 simp only [Ya]
 rw [show Zdg 1 8 8 false=some (Yd 8 false) from Z5r (n:=8) (by omega)]
 simp only [Ya]
 have run:=Zanb (Zi l) (by omega) hb k (by omega) 30 _ [] _ _ [] (Z7nb _) (by simp;omega) (by simp) 40 k (by omega) (by omega)
 have run:Zsb.l1 k k 0 (Zi l) (Yd (Zi l).length true) (Yd 8 false) []=_:=run
 rw [run]
 rfl
def Zob (l:List Zsc):Int:=(((l.filter fun m=>m.1==1).length:Nat):Int)
theorem Zn4 {l:List Zsc} {i:Nat} (h:i<l.length):Zob (l.take (i+1))=if (l[i]).1=1 then Zob (l.take i)+1 else Zob (l.take i):=by
 unfold Zob
 rw [Zhj h,Y4]
 split
 ·rename_i hw;simp [hw]
 ·rename_i hw;simp [hw]
theorem Z8u (l:List Zsc):0≤Zob l∧Zob l≤(l.length:Int):=by
 unfold Zob
 have:=Yy (fun m:Zsc=>m.1==1) l
 omega
theorem Zhcb (l:List Zsc) (hl:l.length≤40):∀k,41≤k→Z3e k l=some (Zob l):=by
 intro k hk
 have key:∀(d i:Nat),i+d=l.length→∀j,d<j→Z3e.l0 j l (Zob (l.take i)) (i:Int)=some (Zob l):=by
  intro d
  induction d with
  | zero=>
   intro i hi j hj;obtain ⟨j,rfl⟩:∃q,j=q+1:=⟨j-1,by omega⟩;obtain rfl:i=l.length:=by omega
   unfold Z3e.l0;rw [Zbb (Yc _),Yt];rfl
  | succ d ih=>
   intro i hi j hj;obtain ⟨j,rfl⟩:∃q,j=q+1:=⟨j-1,by omega⟩;have h:i<l.length:=by omega
   have hb:=Z8u (l.take i);have hbl:(l.take i).length≤40:=by rw [Yp];omega
   have:=ih (i+1) (by omega) j (by omega);rw [Zn4 h] at this;rw [Z3e.l0,dlt h,Xa (by omega:(l.length:Int)≤40),Zh h,Zs (by omega),w64 (n:=Zob (l.take i)+1) (by omega) (by omega)];simp only [Y9,Xe,Ya]
   by_cases h1:(l[i]).1=1
   ·rw [Xc h1] at this
    rw [show ((l[i]).1==1)=true by simpa using h1];exact this
   ·rw [Xd h1] at this
    rw [show ((l[i]).1==1)=false by simpa using h1];exact this
 have run:=key l.length 0 (Yi _) k (by omega)
 have run:Z3e.l0 k l 0 0=_:=run
 unfold Z3e
 rw [run]
 rfl
theorem Z78 (l:List Zsc) (hl:l.length≤40):∀k,41≤k→Zfe k l=some (Zob l):=by
 intro k hk
 have key:∀(d i:Nat),i+d=l.length→∀j,d<j→Zfe.l0 j (Zob (l.take i)) l (l.length:Int) (i:Int)=some (Zob l):=by
  intro d
  induction d with
  | zero=>
   intro i hi j hj;obtain ⟨j,rfl⟩:∃q,j=q+1:=⟨j-1,by omega⟩;obtain rfl:i=l.length:=by omega
   unfold Zfe.l0;rw [Zbb (Yc _),Yt];rfl
  | succ d ih=>
   intro i hi j hj;obtain ⟨j,rfl⟩:∃q,j=q+1:=⟨j-1,by omega⟩;have h:i<l.length:=by omega
   have hb:=Z8u (l.take i);have hbl:(l.take i).length≤40:=by rw [Yp];omega
   have:=ih (i+1) (by omega) j (by omega);rw [Zn4 h] at this;rw [Zfe.l0,dlt h,Zh h,Zs (by omega),w64 (n:=Zob (l.take i)+1) (by omega) (by omega)];simp only [Xe,Ya]
   by_cases h1:(l[i]).1=1
   ·rw [Xc h1] at this
    rw [show ((l[i]).1==1)=true by simpa using h1];exact this
   ·rw [Xd h1] at this
    rw [show ((l[i]).1==1)=false by simpa using h1];exact this
 have run:=key l.length 0 (Yi _) k (by omega)
 have run:Zfe.l0 k 0 l (l.length:Int) 0=_:=run
 unfold Zfe
 rw [run]
 rfl
theorem Znj {l:List Zg} {n:Int} (h:Zwb l n=0):∀x∈Zi l,0≤x.2.1∧x.2.1≤7:=by
 obtain ⟨_,h1,h2,h3,_,_⟩:=Z8f h
 intro x hx
 unfold Zi at hx
 rw [Ysa] at hx
 have hs:=h3 x hx.1
 have hw:=hx.2
 unfold isW at hw
 have h5:x.1≠5:=by simpa using hw
 unfold Z6d Zuc at hs
 rw [Xd h5] at hs
 split at hs
 ·simp only [Yg,decide_eq_true_eq] at hs;omega
 ·split at hs
  ·simp only [Yg,decide_eq_true_eq] at hs;omega
  ·split at hs
   ·simp only [Yg,decide_eq_true_eq] at hs;omega
   ·split at hs
    ·simp only [Yg,decide_eq_true_eq] at hs;omega
    ·cases hs
theorem Zbnb (l:List Zg) (n:Int) (h:Zwb l n=0):Zc fun k=>Zyl k l n=some (Zl l,0):=by
 have hl:=(Z8f h).1
 refine ((Zjcb l n (by omega)).and (Zc.ge 60 fun k hk=>hk)).mono fun k hk=>?_
 unfold Zyl
 rw [Xb (by omega:¬((400:Int)<(l.length:Int))),hk.1,h,Zfcb l hl (Znj h) k hk.2]
 rfl
end Go.Proofs.Qz
