/- What the law FnTried needs, part 14 of 14: the Lean functions of the Go functions that it reaches, with the proofs that the calls come to what they say, and plain facts about them; the last theorem is the law. Conditions: those that each theorem states. Written by a session and by its programs (after the kit's printer). -/
import Derived.Test.YtpcllejjdmmjcaaGreatDoorRows
import Derived.Test.YtpcllejjdmmjcaaGreatDoorCards
import Derived.Test.YtpcllejjdmmjcaaGreatDoorTie
import Derived.Carry
import Derived.Handed
import Derived.LaidMore
import Derived.OpenVars
import Derived.OpenShut
import Derived.ProofKit
import Derived.SevenTiedAt
import Derived.MakeChecks
import Derived.Test.YtpcllejjdmmjcaaGreatDoorXFnTried6
import Derived.Test.YtpcllejjdmmjcaaGreatDoorXFnTried8
import Derived.Test.YtpcllejjdmmjcaaGreatDoorXFnTried9
import Derived.Test.YtpcllejjdmmjcaaGreatDoorXFnTried10
import Derived.Test.YtpcllejjdmmjcaaGreatDoorXFnTried11
import Derived.Test.YtpcllejjdmmjcaaGreatDoorXFnTried12
open Go.IntKind renaming wrap → Ya, max → Yk
open Option renaming bind_some → Yb, some → Yt
open Go.Proofs.Tryz renaming prog → Yc, f3 → Ye, checked → Ym, func3 → Yn, params3 → Yu
open List renaming length_append → Yd, length_cons → Yf, length_nil → Yg, length_set → Yi, getElem_mem → Yl, mem_of_getElem? → Yp, replicate → Yq, take_succ_eq_append_getElem → Yr
open Bool renaming and_eq_true → Yh
open Int renaming le_refl → Yj, tmod_eq_emod_of_nonneg → Yo
open Nat renaming zero_le → Ys
namespace Go.Proofs.Qz
open Go
set_option linter.unusedVariables false
namespace Dgu
theorem Z6l (x:Int) {n:Int} (h:0≤n):∃v,Ztg x n=some v:=by
 unfold Ztg
 exact Zzcb ⟨_,Zvb h⟩ fun _=>Zzcb ⟨_,Zvb (by rw [Zuf];omega)⟩ fun _=>⟨_,rfl⟩
theorem Z0eb (b:Str) (hb:b.length=64) (w:List Int) (hw:w.length=64):∃r:List Int,r.length=64∧Zc fun k=>∀j,16<j→Zq.l0 j b 0 w=some r:=by
 refine Zxm (fun k j (s:Int×List Int)=>Zq.l0 j b s.1 s.2) (fun s=>(16-s.1).toNat) (fun s=>0≤s.1∧s.1≤16∧s.2.length=64) (fun r=>r.length=64) (fun s ⟨h0,h1,h2⟩=>?_) 16 (0,w) ⟨by simp,by simp,hw⟩ (by simp)
 obtain ⟨i,w⟩:=s
 have h0:0≤i:=h0
 have h1:i≤16:=h1
 have h2:w.length=64:=h2
 by_cases hi:i<16
 ·right
  obtain ⟨c0,e0,_⟩:=Zcd (l:=b) (i:=4*i) (by omega) (by omega);obtain ⟨c1,e1,_⟩:=Zcd (l:=b) (i:=4*i+1) (by omega) (by omega);obtain ⟨c2,e2,_⟩:=Zcd (l:=b) (i:=4*i+2) (by omega) (by omega);obtain ⟨c3,e3,_⟩:=Zcd (l:=b) (i:=4*i+3) (by omega) (by omega);obtain ⟨v,ev,_⟩:=Zcd (l:=w) (i:=i) (by omega) (by omega);refine ⟨(i+1,w.set i.toNat (intBits .or .u32 (intBits .or .u32 (intBits .or .u32 (shl .u32 (Ya .u32 (c0.toNat:Int)) 24) (shl .u32 (Ya .u32 (c1.toNat:Int)) 16)) (shl .u32 (Ya .u32 (c2.toNat:Int)) 8)) (Ya .u32 (c3.toNat:Int)))),⟨by show 0≤i+1;omega,by show i+1≤16;omega,by show (w.set _ _).length=64;rw [Yi];exact h2⟩,by show (16-(i+1)).toNat<(16-i).toNat;omega,Zc.of fun k j=>?_⟩
  ·show Zq.l0 (j+1) b i w=_
   conv=>lhs;unfold Zq.l0
   rw [Xa hi,wid (n:=4*i) (by omega) (by omega)];simp only [Xe];rw [wid (n:=4*i+1) (by omega) (by omega),wid (n:=4*i+2) (by omega) (by omega),wid (n:=4*i+3) (by omega) (by omega),e0,e1,e2,e3,ev,Zvb (by omega),Zvb (by omega),Zvb (by omega),wid (n:=i+1) (by omega) (by omega)];rfl
 ·left
  refine ⟨w,Zc.of fun k j=>?_,h2⟩;show Zq.l0 (j+1) b i w=_
  conv=>lhs;unfold Zq.l0
  rw [Xb hi];rfl
theorem Z1eb (w:List Int) (hw:w.length=64):∃r:List Int,r.length=64∧Zc fun k=>∀j,48<j→Zq.l1 j 16 w=some r:=by
 refine Zxm (fun k j (s:Int×List Int)=>Zq.l1 j s.1 s.2) (fun s=>(64-s.1).toNat) (fun s=>16≤s.1∧s.1≤64∧s.2.length=64) (fun r=>r.length=64) (fun s ⟨h0,h1,h2⟩=>?_) 48 (16,w) ⟨by simp,by simp,hw⟩ (by simp)
 obtain ⟨i,w⟩:=s
 have h0:16≤i:=h0
 have h1:i≤64:=h1
 have h2:w.length=64:=h2
 by_cases hi:i<64
 ·right
  obtain ⟨a,ea,_⟩:=Zcd (l:=w) (i:=i-15) (by omega) (by omega);obtain ⟨b,eb,_⟩:=Zcd (l:=w) (i:=i-2) (by omega) (by omega);obtain ⟨c,ec,_⟩:=Zcd (l:=w) (i:=i-16) (by omega) (by omega);obtain ⟨d,ed,_⟩:=Zcd (l:=w) (i:=i-7) (by omega) (by omega);obtain ⟨v,ev,_⟩:=Zcd (l:=w) (i:=i) (by omega) (by omega);obtain ⟨t1,f1⟩:=Z6l a (n:=7) (by omega);obtain ⟨t2,f2⟩:=Z6l a (n:=18) (by omega);obtain ⟨t3,f3⟩:=Z6l b (n:=17) (by omega);obtain ⟨t4,f4⟩:=Z6l b (n:=19) (by omega);refine ⟨(i+1,w.set i.toNat (Ya .u32 ((Ya .u32 ((Ya .u32 (c+(intBits .xor .u32 (intBits .xor .u32 t1 t2) (shr .u32 a 3))))+d))+(intBits .xor .u32 (intBits .xor .u32 t3 t4) (shr .u32 b 10))))),⟨by show 16≤i+1;omega,by show i+1≤64;omega,by show (w.set _ _).length=64;rw [Yi];exact h2⟩,by show (64-(i+1)).toNat<(64-i).toNat;omega,Zc.of fun k j=>?_⟩;show Zq.l1 (j+1) i w=_
  conv=>lhs;unfold Zq.l1
  rw [Xa hi,w64 (n:=i-15) (by omega) (by omega),w64 (n:=i-2) (by omega) (by omega),w64 (n:=i-16) (by omega) (by omega),w64 (n:=i-7) (by omega) (by omega),w64 (n:=i+1) (by omega) (by omega)];simp only [Xe,ea,eb,ec,ed,ev,Yb,f1,f2,f3,f4];rw [Zvb (by omega),Zvb (by omega)];rfl
 ·left
  refine ⟨w,Zc.of fun k j=>?_,h2⟩;show Zq.l1 (j+1) i w=_
  conv=>lhs;unfold Zq.l1
  rw [Xb hi];rfl
theorem Z2eb (w key:List Int) (hw:w.length=64) (hk:key.length=64) (a b c d e f g h:Int):∃r,True∧Zc fun k=>∀j,64<j→Zq.l2 j a b c d e f g h 0 w key=some r:=by
  refine Zxm (fun k j (s:Int×Int×Int×Int×Int×Int×Int×Int×Int)=>Zq.l2 j s.1 s.2.1 s.2.2.1 s.2.2.2.1 s.2.2.2.2.1 s.2.2.2.2.2.1 s.2.2.2.2.2.2.1 s.2.2.2.2.2.2.2.1 s.2.2.2.2.2.2.2.2 w key) (fun s=>(64-s.2.2.2.2.2.2.2.2).toNat) (fun s=>0≤s.2.2.2.2.2.2.2.2∧s.2.2.2.2.2.2.2.2≤64) (fun _=>True) (fun s ⟨h0,h1⟩=>?_) 64 (a,b,c,d,e,f,g,h,0) ⟨by simp,by simp⟩ (by simp)
  ·obtain ⟨a,b,c,d,e,f,g,h,i⟩:=s
   have h0:0≤i:=h0;have h1:i≤64:=h1
   by_cases hi:i<64
   ·right
    obtain ⟨x,ex,_⟩:=Zcd (l:=w) (i:=i) (by omega) (by omega);obtain ⟨y,ey,_⟩:=Zcd (l:=key) (i:=i) (by omega) (by omega);obtain ⟨t1,f1⟩:=Z6l e (n:=6) (by omega);obtain ⟨t2,f2⟩:=Z6l e (n:=11) (by omega);obtain ⟨t3,f3⟩:=Z6l e (n:=25) (by omega);obtain ⟨t4,f4⟩:=Z6l a (n:=2) (by omega);obtain ⟨t5,f5⟩:=Z6l a (n:=13) (by omega);obtain ⟨t6,f6⟩:=Z6l a (n:=22) (by omega);refine ⟨(Ya .u32 ((Ya .u32 ((Ya .u32 ((Ya .u32 ((Ya .u32 (h+(intBits .xor .u32 (intBits .xor .u32 t1 t2) t3)))+(intBits .xor .u32 (intBits .and .u32 e f) (intBits .and .u32 (intBits .xor .u32 (Yk .u32) e) g))))+y))+x))+(Ya .u32 ((intBits .xor .u32 (intBits .xor .u32 t4 t5) t6)+(intBits .xor .u32 (intBits .xor .u32 (intBits .and .u32 a b) (intBits .and .u32 a c)) (intBits .and .u32 b c))))),a,b,c,Ya .u32 (d+Ya .u32 ((Ya .u32 ((Ya .u32 ((Ya .u32 (h+(intBits .xor .u32 (intBits .xor .u32 t1 t2) t3)))+(intBits .xor .u32 (intBits .and .u32 e f) (intBits .and .u32 (intBits .xor .u32 (Yk .u32) e) g))))+y))+x)),e,f,g,i+1),⟨by show 0≤i+1;omega,by show i+1≤64;omega⟩,by show (64-(i+1)).toNat<(64-i).toNat;omega,Zc.of fun k j=>?_⟩
    ·show Zq.l2 (j+1) a b c d e f g h i w key=_
     conv=>lhs;unfold Zq.l2
     rw [Xa hi,w64 (n:=i+1) (by omega) (by omega)];simp only [Xe,ex,ey,Yb,f1,f2,f3,f4,f5,f6]
   ·left
    refine ⟨(a,b,c,d,e,f,g,h),Zc.of fun k j=>?_,trivial⟩
    ·show Zq.l2 (j+1) a b c d e f g h i w key=_
     conv=>lhs;unfold Zq.l2
     rw [Xb hi];rfl
theorem Z3eb (st v:List Int) (hs:st.length=8) (hv:v.length=8):∃r:List Int,r.length=8∧Zc fun k=>∀j,8<j→Zq.l3 j st 0 v []=some r:=by
 refine Zxm (fun k j (s:Int×List Int)=>Zq.l3 j st s.1 v s.2) (fun s=>(8-s.1).toNat) (fun s=>0≤s.1∧s.1≤8∧(s.2.length:Int)=s.1) (fun r=>r.length=8) (fun s ⟨h0,h1,h2⟩=>?_) 8 (0,[]) ⟨by simp,by simp,by simp⟩ (by simp)
 obtain ⟨i,o⟩:=s
 have h0:0≤i:=h0
 have h1:i≤8:=h1
 have h2:(o.length:Int)=i:=h2
 by_cases hi:i<8
 ·right
  obtain ⟨x,ex,_⟩:=Zcd (l:=st) (i:=i) (by omega) (by omega);obtain ⟨y,ey,_⟩:=Zcd (l:=v) (i:=i) (by omega) (by omega);refine ⟨(i+1,o++[Ya .i64 (Ya .u32 ((Ya .u32 x)+y))]),⟨by show 0≤i+1;omega,by show i+1≤8;omega,by show ((o++[_]).length:Int)=i+1;rw [Yd];simp;omega⟩,by show (8-(i+1)).toNat<(8-i).toNat;omega,Zc.of fun k j=>?_⟩;show Zq.l3 (j+1) st i v o=_
  conv=>lhs;unfold Zq.l3
  rw [Xa hi,w64 (n:=i+1) (by omega) (by omega)];simp only [Xe,ex,ey,Yb];rw [Zlb (by simp;omega)];rfl
 ·left
  refine ⟨o,Zc.of fun k j=>?_,by omega⟩;show Zq.l3 (j+1) st i v o=_
  conv=>lhs;unfold Zq.l3
  rw [Xb hi];rfl
theorem Z4eb (st:List Int) (b:Str) (hs:st.length=8) (hb:b.length=64):Ev (fun k=>Zq k st b) fun r=>r.length=8:=by
 obtain ⟨w0,h0,e0⟩:=Z0eb b hb (Yq 64 0) (by simp)
 obtain ⟨w1,h1,e1⟩:=Z1eb w0 h0
 obtain ⟨s0,a0,_⟩:=Zcd (l:=st) (i:=0) (by omega) (by omega)
 obtain ⟨s1,a1,_⟩:=Zcd (l:=st) (i:=1) (by omega) (by omega)
 obtain ⟨s2,a2,_⟩:=Zcd (l:=st) (i:=2) (by omega) (by omega)
 obtain ⟨s3,a3,_⟩:=Zcd (l:=st) (i:=3) (by omega) (by omega)
 obtain ⟨s4,a4,_⟩:=Zcd (l:=st) (i:=4) (by omega) (by omega)
 obtain ⟨s5,a5,_⟩:=Zcd (l:=st) (i:=5) (by omega) (by omega)
 obtain ⟨s6,a6,_⟩:=Zcd (l:=st) (i:=6) (by omega) (by omega)
 obtain ⟨s7,a7,_⟩:=Zcd (l:=st) (i:=7) (by omega) (by omega)
 have hkey:∃key,Zbp=some key∧key.length=64:=⟨_,rfl,rfl⟩
 obtain ⟨key,ek,hkl⟩:=hkey
 obtain ⟨r,_,er⟩:=Z2eb w1 key h1 hkl (Ya .u32 s0) (Ya .u32 s1) (Ya .u32 s2) (Ya .u32 s3) (Ya .u32 s4) (Ya .u32 s5) (Ya .u32 s6) (Ya .u32 s7)
 obtain ⟨o,ho,eo⟩:=Z3eb st [r.1,r.2.1,r.2.2.1,r.2.2.2.1,r.2.2.2.2.1,r.2.2.2.2.2.1,r.2.2.2.2.2.2.1,r.2.2.2.2.2.2.2] hs rfl
 refine ⟨o,ho,((((e0.and e1).and er).and eo).and (Zc.ge 66 fun k hk=>hk)).mono fun k ⟨⟨⟨⟨e0,e1⟩,er⟩,eo⟩,hk⟩=>?_⟩
 have hm:Zdg 4 64 64 (0:Int)=some (Yq 64 0):=Z5r (n:=64) (b:=4) (by omega)
 unfold Zq
 rw [hm]
 simp only [Yb]
 rw [e0 k (by omega)]
 simp only [Yb]
 rw [e1 k (by omega)]
 simp only [a0,a1,a2,a3,a4,a5,a6,a7,Yb]
 rw [ek]
 simp only [Yb]
 rw [er k (by omega)]
 simp only [Yb]
 rw [eo k (by omega)]
 rfl
theorem all0 (l:List Int) (hl:l.length≤9000):∃r:List Int,(r.length≤9100∧r.length%64=56)∧Zc fun k=>∀j,64<j→Zr.l0 j l=some r:=by
 refine Zxm (fun k j (s:List Int)=>Zr.l0 j s) (fun s=>(56+64-s.length%64)%64) (fun s=>s.length+(56+64-s.length%64)%64≤9100) (fun r=>r.length≤9100∧r.length%64=56) (fun s h=>?_) 64 l (by show l.length+_≤9100;omega) (by omega)
 have h:s.length+(56+64-s.length%64)%64≤9100:=h
 have e:Int.tmod (s.length:Int) 64=((s.length%64:Nat):Int):=by rw [Yo (by omega)];omega
 by_cases hm:s.length%64=56
 ·left
  refine ⟨s,Zc.of fun k j=>?_,by omega,hm⟩;show Zr.l0 (j+1) s=_
  conv=>lhs;unfold Zr.l0
  rw [Zoi (by omega),e,hm];rfl
 ·right
  refine ⟨s++[0],by show (s++[0]).length+_≤9100;rw [Yd];simp only [Yf,Yg];omega,by show (56+64-(s++[0]).length%64)%64<_;rw [Yd];simp only [Yf,Yg];omega,Zc.of fun k j=>?_⟩;show Zr.l0 (j+1) s=_
  conv=>lhs;unfold Zr.l0
  rw [Zoi (by omega),e,show (((s.length%64:Nat):Int) != 56)=true by simp;omega];simp only [Xe,Yb];rw [Zlb (by simp;omega)];rfl
theorem all1 (n:Int) (l:List Int) (hl:l.length≤9100) (hm:l.length%64=56):∃r:List Int,(r.length≤9200∧r.length%64=0)∧Zc fun k=>∀j,8<j→Zr.l1 j n 56 l=some r:=by
 refine Zxm (fun k j (s:Int×List Int)=>Zr.l1 j n s.1 s.2) (fun s=>((s.1+8)/8).toNat) (fun s=>∃q:Nat,s.1=8*(q:Int)-8∧q≤8∧s.2.length+q=l.length+8) (fun r=>r.length≤9200∧r.length%64=0) (fun s ⟨q,h0,h1,h2⟩=>?_) 8 (56,l) ⟨8,by simp,by omega,by simp⟩ (by simp)
 obtain ⟨i,o⟩:=s
 have h0:i=8*(q:Int)-8:=h0
 have h2:o.length+q=l.length+8:=h2
 by_cases hi:0≤i
 ·right
  refine ⟨(i-8,o++[Ya .u8 (shr .u64 n (Ya .u64 i))]),⟨q-1,by show i-8=_;omega,by omega,by show (o++[_]).length+_=_;rw [Yd];simp only [Yf,Yg];omega⟩,by show ((i-8+8)/8).toNat<((i+8)/8).toNat;omega,Zc.of fun k j=>?_⟩;show Zr.l1 (j+1) n i o=_
  conv=>lhs;unfold Zr.l1
  rw [Xa hi,Zvb (by rw [Zuf];omega),w64 (n:=i-8) (by omega) (by omega)];simp only [Xe,Yb];rw [Zlb (by simp;omega)];rfl
 ·left
  refine ⟨o,Zc.of fun k j=>?_,by omega,by omega⟩;show Zr.l1 (j+1) n i o=_
  conv=>lhs;unfold Zr.l1
  rw [Xb hi];rfl
theorem all2 (l:List Int) (hl:l.length≤9200) (hm:l.length%64=0) (st:List Int) (hs:st.length=8):∃r:List Int,r.length=8∧Zc fun k=>∀j,l.length<j→Zr.l2 k j l 0 st=some r:=by
 refine Zxm (fun k j (s:Int×List Int)=>Zr.l2 k j l s.1 s.2) (fun s=>((l.length:Int)-s.1).toNat) (fun s=>∃q:Nat,s.1=64*(q:Int)∧s.1≤(l.length:Int)∧s.2.length=8) (fun r=>r.length=8) (fun s ⟨q,h0,h1,h2⟩=>?_) l.length (0,st) ⟨0,by simp,by simp,hs⟩ (by simp)
 obtain ⟨i,o⟩:=s
 have h0:i=64*(q:Int):=h0
 have h1:i≤(l.length:Int):=h1
 have h2:o.length=8:=h2
 by_cases hi:i<(l.length:Int)
 ·right
  obtain ⟨t,et,ht⟩:=Zwfb (l:=l) (i:=i) (j:=i+64) (by omega) (by omega) (by omega);obtain ⟨r,hr,er⟩:=Z4eb o (Zhb t) h2 (by rw [Z3g];omega);refine ⟨(i+64,r),⟨q+1,by show i+64=_;omega,by show i+64≤_;omega,hr⟩,by show ((l.length:Int)-(i+64)).toNat<((l.length:Int)-i).toNat;omega,er.mono fun k er j=>?_⟩;show Zr.l2 k (j+1) l i o=_
  conv=>lhs;unfold Zr.l2
  rw [Xa hi,w64 (n:=i+64) (by omega) (by omega)];simp only [Xe];rw [et];simp only [Yb];have er:Zq k o (Zhb t)=some r:=er;rw [er];rfl
 ·left
  refine ⟨o,Zc.of fun k j=>?_,h2⟩;show Zr.l2 k (j+1) l i o=_
  conv=>lhs;unfold Zr.l2
  rw [Xb hi];rfl
theorem all3 (st:List Int) (hs:st.length=8):∃r:List Int,r.length=32∧Zc fun k=>∀j,8<j→Zr.l3 j 0 st []=some r:=by
 refine Zxm (fun k j (s:Int×List Int)=>Zr.l3 j s.1 st s.2) (fun s=>(8-s.1).toNat) (fun s=>0≤s.1∧s.1≤8∧(s.2.length:Int)=4*s.1) (fun r=>r.length=32) (fun s ⟨h0,h1,h2⟩=>?_) 8 (0,[]) ⟨by simp,by simp,by simp⟩ (by simp)
 obtain ⟨i,o⟩:=s
 have h0:0≤i:=h0
 have h1:i≤8:=h1
 have h2:(o.length:Int)=4*i:=h2
 by_cases hi:i<8
 ·right
  obtain ⟨x,ex,_⟩:=Zcd (l:=st) (i:=i) (by omega) (by omega);refine ⟨(i+1,o++[(Ya .u8 (shr .i64 x 24)),(Ya .u8 (shr .i64 x 16)),(Ya .u8 (shr .i64 x 8)),(Ya .u8 x)]),⟨by show 0≤i+1;omega,by show i+1≤8;omega,by show ((o++[_,_,_,_]).length:Int)=4*(i+1);rw [Yd];simp only [Yf,Yg];omega⟩,by show (8-(i+1)).toNat<(8-i).toNat;omega,Zc.of fun k j=>?_⟩;show Zr.l3 (j+1) i st o=_
  conv=>lhs;unfold Zr.l3
  rw [Xa hi,w64 (n:=i+1) (by omega) (by omega)];simp only [Xe,ex,Yb];rw [Zvb (by omega),Zvb (by omega),Zvb (by omega)];simp only [Yb];rw [Zlb (by simp;omega)];rfl
 ·left
  refine ⟨o,Zc.of fun k j=>?_,by omega⟩;show Zr.l3 (j+1) i st o=_
  conv=>lhs;unfold Zr.l3
  rw [Xb hi];rfl
end Dgu
open Dgu in
theorem sDigest_ev (s:Str) (h:s.length≤8000):Ev (fun k=>Z3m k s) fun d=>d.length=32:=by
 have hb:(Z9 s).length=s.length:=by simp [Z9]
 obtain ⟨a,⟨h1,h2⟩,ea⟩:=all0 (Z9 s++[128]) (by rw [Yd,hb];simp;omega)
 obtain ⟨b,⟨h3,h4⟩,eb⟩:=all1 (Ya .u64 (Ya .i64 (8*(s.length:Int)))) a h1 h2
 have hst:∃st,Zsq=some st∧st.length=8:=⟨_,rfl,rfl⟩
 obtain ⟨st,es,hs⟩:=hst
 obtain ⟨c,h5,ec⟩:=all2 b h3 h4 st hs
 obtain ⟨d,h6,ed⟩:=all3 c h5
 refine ⟨Zhb d,by show (Zhb d).length=32;rw [Z3g];exact h6,((((ea.and eb).and ec).and ed).and (Zc.ge 9300 fun k hk=>hk)).mono fun k ⟨⟨⟨⟨ea,eb⟩,ec⟩,ed⟩,hk⟩=>?_⟩
 unfold Z3m Zr
 rw [Xb (by omega:¬(8000<(s.length:Int))),Z33 (by omega)]
 simp only [Xf,Yb]
 rw [Zlb (by rw [hb];simp;omega)]
 simp only [Yb]
 rw [ea k (by omega)]
 simp only [Yb]
 rw [eb k (by omega)]
 simp only [Yb]
 rw [es]
 simp only [Yb]
 rw [ec k (by omega)]
 simp only [Yb]
 rw [ed k (by omega)]
 rfl
abbrev Zxg:=List Int×Int×Int×Int
def Src (s:Zxg):Prop:=0≤s.2.1∧s.1.length≤140737488351232
theorem Zfq (s:Zxg) (hs:Src s) (m:Int) (hm:m<9223372036854775807):∃p:Int×Zxg,Zgd s m=some p∧Src p.2∧0≤p.1∧(m≤1→p.1=0)∧(1<m→p.1<m):=by
 unfold Zgd
 by_cases h:m≤1
 ·rw [Xa h]
  exact ⟨(0,s),rfl,hs,Yj _,fun _=>rfl,fun q=>by omega⟩
 ·have hj:∃q:Int×Zxg,Zgd.j0 0 s.1 s.2.1 s.2.2.1 s.2.2.2=some q∧Src q.2:=by
   obtain ⟨h0,h1⟩:=hs;unfold Zgd.j0
   by_cases ha:s.2.1<(s.1.length:Int)
   ·obtain ⟨c,ec,_⟩:=Zcd h0 ha
    rw [Xa ha,ec,w64 (by omega) (by omega)];exact ⟨(Ya .u64 c,s.1,s.2.1+1,s.2.2.1,s.2.2.2),rfl,by show 0≤s.2.1+1;omega,h1⟩
   ·rw [Xb ha]
    exact ⟨(0,s),rfl,h0,h1⟩
  obtain ⟨q,hq,hq2⟩:=hj;rw [Xb h,hq];simp only [Xf,Yb];rw [Zvb (by omega),Zvb (by omega),Zvb (by omega),Zvb (by omega),Ziz (n:=m) (by omega) (by omega),Zoi (by omega)];simp only [Yb];generalize intBits .xor .u64 (intBits .xor .u64 (intBits .xor .u64 q.2.2.2.1 (shl .u64 q.2.2.2.1 13)) (shr .u64 (intBits .xor .u64 q.2.2.2.1 (shl .u64 q.2.2.2.1 13)) 7)) (shl .u64 (intBits .xor .u64 (intBits .xor .u64 q.2.2.2.1 (shl .u64 q.2.2.2.1 13)) (shr .u64 (intBits .xor .u64 q.2.2.2.1 (shl .u64 q.2.2.2.1 13)) 7)) 17)=e;generalize hx:Ya .u64 (q.1+shr .u64 e 20)=x;have hx0:0≤x:=by rw [← hx,Zuf];omega
  have h1:Int.tmod x m=x%m:=Yo hx0;have h2:=Int.emod_nonneg x (by omega:m≠0);have h3:=Int.emod_lt_of_pos x (by omega:0<m);refine ⟨(x%m,q.2.1,q.2.2.1,e,q.2.2.2.2),?_,hq2,h2,fun q=>absurd q h,fun _=>h3⟩;rw [h1,w64 (by omega) (by omega)]
theorem Zg3 (s:Zxg) (hs:Src s) (m:Int) (hm:m<9223372036854775807):∃p:Bool×Zxg,Zsk s m=some p∧Src p.2:=by
 obtain ⟨p,h1,h2,_⟩:=Zfq s hs m hm
 unfold Zsk
 rw [h1]
 exact ⟨(p.1==0,p.2),rfl,h2⟩
theorem Z2nb (code:List Int) (hc:code.length≤1048576):∃s:Zxg,Src s∧∀k,65≤k→Zie k code=some s:=by
 have hl:∃r:Zxg,Src r∧∀k,64<k→Zie.l0 k code 0 code 0 88172645463325252 0=some r:=by
  refine Zjkb (fun j (s:Int×Int)=>Zie.l0 j code s.1 code 0 s.2 0) (fun s=>(64-s.1).toNat) (fun s=>0≤s.1∧s.1≤64) Src (fun s ⟨h0,h1⟩=>?_) 64 (0,88172645463325252) ⟨by simp,by simp⟩ (by simp);obtain ⟨i,mix⟩:=s;have h0:0≤i:=h0;have h1:i≤64:=h1
  by_cases hi:i<(code.length:Int)∧i<64
  ·right
   obtain ⟨c,ec,_⟩:=Zcd h0 hi.1;refine ⟨(i+1,Ya .u64 ((intBits .xor .u64 mix (Ya .u64 c))*1099511628211)),⟨by show 0≤i+1;omega,by show i+1≤64;omega⟩,by show (64-(i+1)).toNat<(64-i).toNat;omega,fun j=>?_⟩;show Zie.l0 (j+1) code i code 0 mix 0=_
   conv=>lhs;unfold Zie.l0
   rw [Xa hi.1,Xa hi.2,ec,w64 (n:=i+1) (by omega) (by omega)];rfl
  ·left
   refine ⟨(code,0,mix,0),fun j=>?_,by show (0:Int)≤0;omega,by show code.length≤_;omega⟩;show Zie.l0 (j+1) code i code 0 mix 0=_
   conv=>lhs;unfold Zie.l0
   rw [show (decide (i<(code.length:Int))&&decide (i<64))=false by rw [Bool.eq_false_iff,Ne,Yh,decide_eq_true_eq,decide_eq_true_eq];exact hi];rfl
 obtain ⟨r,hr,er⟩:=hl
 cases hc:decide (12<Ya .i64 (Int.tdiv (code.length:Int) 20)) with
 | false=>
  refine ⟨(r.1,r.2.1,r.2.2.1,Ya .i64 (Int.tdiv (code.length:Int) 20)),hr,fun k hk=>?_⟩;unfold Zie;rw [er k (by omega),Zoi (by omega)];simp only [Yb];rw [hc];rfl
 | true=>
  refine ⟨(r.1,r.2.1,r.2.2.1,12),hr,fun k hk=>?_⟩;unfold Zie;rw [er k (by omega),Zoi (by omega)];simp only [Yb];rw [hc];rfl
theorem Zllb (s:Zxg) (hs:Src s) (l:List Str) (P:Str→Prop) (hl:1<l.length) (hl2:l.length≤1000) (hP:∀x∈l,P x):∃p:Str×Zxg,Zap s l=some p∧P p.1∧Src p.2:=by
 obtain ⟨v,e,h1,h2,_,h3⟩:=Zfq s hs (l.length:Int) (by omega)
 obtain ⟨x,ex,hx⟩:=Zcd h2 (h3 (by omega))
 unfold Zap
 rw [e]
 simp only [Yb]
 rw [ex]
 exact ⟨(x,v.2),rfl,hP x hx,h1⟩
theorem Ze7 (s:Zxg) (hs:Src s):∃p:Str×Zxg,Z1l s=some p∧p.1.length=8∧Src p.2:=by
 obtain ⟨p,e,h1,h2⟩:=Zllb s hs ([([97,97,97,97,97,97,97,97]:Str),([97,98,97,98,97,98,97,98]:Str),([104,101,108,108,111,32,32,33]:Str),([0,0,0,0,0,0,0,0]:Str),([0,0,0,1,0,0,0,0]:Str)]) (fun x=>x.length=8) (by decide) (by decide) (by decide)
 unfold Z1l
 rw [e]
 exact ⟨p,rfl,h1,h2⟩
theorem Zefb (s:Zxg) (hs:Src s) (m:Int) (h0:0≤m) (h1:m≤1000):Ev (fun k=>Z4e k s m) fun p=>(p.1.length:Int)=m∧Src p.2:=by
 unfold Z4e
 refine Ev.bind (Q:=fun (r:List Int×Int×Int×Int×List Int)=>(r.2.2.2.2.length:Int)=m∧Src (r.1,(r.2.1,(r.2.2.1,r.2.2.2.1)))) ?_ fun r hr=>Ev.ret ⟨by show ((Zhb r.2.2.2.2).length:Int)=m;rw [Z3g];exact hr.1,hr.2⟩
 refine Ev.loop (fun k j (z:Int×Zxg×List Int)=>Z4e.l0 j m z.1 z.2.1.1 z.2.1.2.1 z.2.1.2.2.1 z.2.1.2.2.2 z.2.2) (fun z=>(m-z.1).toNat) (fun z=>0≤z.1∧z.1≤m∧(z.2.2.length:Int)=z.1∧Src z.2.1) _ (0,s,[]) ⟨by simp,h0,by simp,hs⟩ ?_
 rintro ⟨i,z,l⟩ ⟨q0,q1,q2,q3⟩
 have q0:0≤i:=q0
 have q1:i≤m:=q1
 have q2:(l.length:Int)=i:=q2
 by_cases hi:i<m
 ·right
  obtain ⟨v,e,h,_⟩:=Zfq z q3 256 (by omega);refine ⟨(i+1,v.2,l++[Ya .u8 v.1]),⟨by show 0≤i+1;omega,by show i+1≤m;omega,by show ((l++[_]).length:Int)=i+1;rw [Yd];simp;omega,h⟩,by show (m-(i+1)).toNat<(m-i).toNat;omega,Zc.of fun k j=>?_⟩;show Z4e.l0 (j+1) m i z.1 z.2.1 z.2.2.1 z.2.2.2 l=_
  conv=>lhs;unfold Z4e.l0
  rw [Xa hi];simp only [Xe];rw [e];simp only [Yb];rw [Zlb (by simp;omega),w64 (n:=i+1) (by omega) (by omega)];rfl
 ·left
  refine ⟨(z.1,z.2.1,z.2.2.1,z.2.2.2,l),Zc.of fun k j=>?_,by show (l.length:Int)=m;omega,q3⟩;show Z4e.l0 (j+1) m i z.1 z.2.1 z.2.2.1 z.2.2.2 l=_
  conv=>lhs;unfold Z4e.l0
  rw [Xb hi];rfl
theorem Zc9 (s:Zxg) (hs:Src s) (n:Int) (h0:0≤n) (h1:n≤100):Ev (fun k=>Zte k s n) fun p=>(p.1.length:Int)=n∧Src p.2:=by
 unfold Zte
 refine Ev.bind (Q:=fun (r:List Int×Int×Int×Int×List Str)=>(r.2.2.2.2.length:Int)=n∧Src (r.1,(r.2.1,(r.2.2.1,r.2.2.2.1)))) ?_ fun r hr=>Ev.ret hr
 refine Ev.loop (fun k j (z:Int×Zxg×List Str)=>Zte.l0 j z.1 z.2.1.1 z.2.1.2.1 z.2.1.2.2.1 z.2.1.2.2.2 z.2.2) (fun z=>z.1.toNat) (fun z=>0≤z.1∧z.1≤n∧(z.2.2.length:Int)=n-z.1∧Src z.2.1) _ (n,s,[]) ⟨h0,Yj _,by simp,hs⟩ ?_
 rintro ⟨i,z,l⟩ ⟨q0,q1,q2,q3⟩
 have q0:0≤i:=q0
 have q1:i≤n:=q1
 have q2:(l.length:Int)=n-i:=q2
 by_cases hi:0<i
 ·right
  obtain ⟨v,e,_,h⟩:=Ze7 z q3;refine ⟨(i-1,v.2,l++[v.1]),⟨by show 0≤i-1;omega,by show i-1≤n;omega,by show ((l++[_]).length:Int)=n-(i-1);rw [Yd];simp;omega,h⟩,by show (i-1).toNat<i.toNat;omega,Zc.of fun k j=>?_⟩;show Zte.l0 (j+1) i z.1 z.2.1 z.2.2.1 z.2.2.2 l=_
  conv=>lhs;unfold Zte.l0
  rw [Xa hi];simp only [Xe];rw [e];simp only [Yb];rw [Zlb (by simp;omega),w64 (n:=i-1) (by omega) (by omega)];rfl
 ·left
  refine ⟨(z.1,z.2.1,z.2.2.1,z.2.2.2,l),Zc.of fun k j=>?_,by show (l.length:Int)=n;omega,q3⟩;show Zte.l0 (j+1) i z.1 z.2.1 z.2.2.1 z.2.2.2 l=_
  conv=>lhs;unfold Zte.l0
  rw [Xb hi];rfl
theorem Zss (l:List Str) (hl:l.length≤1048576):Zc fun k=>Z6b k l=some (Zec l):=Zc.ge 100 fun k hk=>Ze4 l hk
theorem Zhlb (a b:Str) (ha:a.length=8) (hb:b.length=8):Ev (fun k=>Z5d k a b) fun r=>True:=by
 unfold Z5d
 refine Ev.bind (Q:=fun (r:Int)=>True) ?_ fun r _=>Ev.ret trivial
 refine Ev.loop (fun k j (z:Int×Int)=>Z5d.l0 j a b z.1 z.2) (fun z=>(8-z.2).toNat) (fun z=>0≤z.2) _ (0,0) (by simp) ?_
 rintro ⟨c,i⟩ q0
 have q0:0≤i:=q0
 by_cases hi:i<8
 ·right
  obtain ⟨x,ex,_⟩:=Zcd (l:=a) (i:=i) q0 (by omega);obtain ⟨y,ey,_⟩:=Zcd (l:=b) (i:=i) q0 (by omega);refine ⟨(bif ((x.toNat:Int) != (y.toNat:Int)) then Ya .i64 (c+1) else c,i+1),by show 0≤i+1;omega,by show (8-(i+1)).toNat<(8-i).toNat;omega,Zc.of fun k j=>?_⟩;show Z5d.l0 (j+1) a b c i=_
  conv=>lhs;unfold Z5d.l0
  rw [Xa hi,ex,ey,w64 (n:=i+1) (by omega) (by omega)];simp only [Xe,Yb];cases ((x.toNat:Int) != (y.toNat:Int)) <;> rfl
 ·left
  refine ⟨c,Zc.of fun k j=>?_,trivial⟩;show Z5d.l0 (j+1) a b c i=_
  conv=>lhs;unfold Z5d.l0
  rw [Xb hi];rfl
theorem Zwgb {a:List Str} (h8:∀x∈a,x.length=8) (hl:a.length≤8) {n:Int} (hn:0≤n∧n<(a.length:Int)) {t:Str} (ht:t.length=8):Ev (fun k=>Zhc k a n t) (ForOk a n t):=by
 have hz:Ztq=some Znv:=rfl
 unfold Zhc
 refine Ev.bnd hz (Ev.cond (fun q=>?_) fun _=>?_)
 ·have e:t=Znv:=by simpa using q
  rw [e];exact Ev.ret (Zzgb a hn)
 refine Ev.bind (Q:=fun (r:Zg ⊕ Zg)=>∀y,r = .inr y→ForOk a n t y) ?_ fun r hr=>?_
 ·refine Ev.loop (fun k j (i:Nat)=>Zhc.l0 j a n t (i:Int) 0 0 0 []) (fun i=>a.length-i) (fun i=>True) _ 0 trivial ?_
  intro i _
  by_cases hi:i<a.length
  ·cases hx:(a[i]==t) with
   | true=>
    have e:a[i]=t:=by simpa using hx
    left;refine ⟨.inr (3,n,(i:Int),[]),Zc.of fun k j=>?_,fun y hy=>?_⟩
    ·conv=>lhs;unfold Zhc.l0
     rw [dlt hi,Zh hi];simp only [Xe,Yb,hx]
    ·cases hy
     rw [← e];exact Zvgb a hn hi
   | false=>
    right;refine ⟨i+1,trivial,by omega,Zc.of fun k j=>?_⟩
    conv=>lhs;unfold Zhc.l0
    rw [dlt hi,Zh hi,Zs (by omega)];simp only [Xe,Yb,hx,Xf]
  ·left
   refine ⟨.inl (0,0,0,[]),Zc.of fun k j=>?_,fun y hy=>by cases hy⟩
   conv=>lhs;unfold Zhc.l0
   rw [Zbb (by omega)];rfl
 ·cases r with
  | inr y=>exact Ev.ret (hr y rfl)
  | inl y=>
   refine Ev.bind (Q:=fun (r:Zg ⊕ Zg)=>∀y,r = .inr y→ForOk a n t y) ?_ fun r hr=>?_
   ·refine Ev.loop (fun k j (i:Nat)=>Zhc.l1 k j a n t (i:Int) y.1 y.2.1 y.2.2.1 y.2.2.2) (fun i=>a.length-i) (fun i=>True) _ 0 trivial ?_
    intro i _
    by_cases hi:i<a.length
    ·have h8i:=h8 _ (Yl hi)
     obtain ⟨o,_,eo⟩:=Zhlb a[i] t h8i ht
     by_cases h2:o≤2
     ·left
      have ex:Zc fun k=>Zse k a[i] t=some (Zsh a[i] t):=Zc.ge 10 fun k hk=>Znnb a[i] t hk
      refine ⟨.inr (4,n,(i:Int),Zsh a[i] t),(eo.and ex).mono fun k ⟨eo,ew⟩ j=>?_,fun y hy=>?_⟩
      ·have eo:Z5d k a[i] t=some o:=eo
       have ew:Zse k a[i] t=some (Zsh a[i] t):=ew
       conv=>lhs;unfold Zhc.l1
       rw [dlt hi,Zh hi];simp only [Xe,Yb];rw [eo];simp only [Yb];rw [Xa h2,ew];rfl
      ·cases hy
       exact Zygb a hn hi h8i ht
     ·right
      refine ⟨i+1,trivial,by omega,eo.mono fun k eo j=>?_⟩;have eo:Z5d k a[i] t=some o:=eo
      conv=>lhs;unfold Zhc.l1
      rw [dlt hi,Zh hi,Zs (by omega)];simp only [Xe,Yb];rw [eo];simp only [Yb];rw [Xb h2];rfl
    ·left
     refine ⟨.inl y,Zc.of fun k j=>?_,fun z hz=>by cases hz⟩
     conv=>lhs;unfold Zhc.l1
     rw [Zbb (by omega)];rfl
   ·cases r with
    | inr y=>exact Ev.ret (hr y rfl)
    | inl y=>exact Ev.ret (Zxgb a hn ht)
theorem Zeob {a b:List Str} (ia:Zec a=true) (ib:Zec b=true) (hab:a.length=b.length):Ev (fun k=>Z3d k a b) fun r=>DiffOk a b r a.length:=by
 obtain ⟨a1,a2,a3⟩:=Znh ia
 obtain ⟨b1,b2,b3⟩:=Znh ib
 unfold Z3d
 refine Ev.bind (Q:=fun v=>v=true) (Ev.ever (Zss a (by omega)) ia) fun v3 h3=>?_
 subst h3
 refine Ev.cond (fun q=>by cases q) fun _=>?_
 refine Ev.bind (Q:=fun v=>v=true) (Ev.ever (Zss b (by omega)) ib) fun v4 h4=>?_
 subst h4
 refine Ev.cond (fun q=>by rw [hab] at q;simp at q) fun _=>?_
 refine Ev.bind (Q:=fun (r:List Zg)=>DiffOk a b r a.length) ?_ fun r hr=>Ev.ret hr
 refine Ev.loop (fun k j (z:Nat×List Zg)=>Z3d.l0 k j a b (z.1:Int) z.2) (fun z=>a.length-z.1) (fun z=>z.1≤a.length∧DiffOk a b z.2 z.1) _ (0,[]) ⟨Ys _,DiffOk.zero a b⟩ ?_
 rintro ⟨i,l⟩ ⟨q0,q1⟩
 have q0:i≤a.length:=q0
 have q1:DiffOk a b l i:=q1
 have hlen:=q1.len
 by_cases hi:i<a.length
 ·right
  have hib:i<b.length:=by omega
  cases hxy:(a[i]==b[i]) with
  | true=>
   have e:a[i]=b[i]:=by simpa using hxy
   refine ⟨(i+1,l),⟨hi,q1.same (by rw [Z7k hi,Z7k hib,e])⟩,by show a.length-(i+1)<a.length-i;omega,Zc.of fun k j=>?_⟩;show Z3d.l0 k (j+1) a b (i:Int) l=_
   conv=>lhs;unfold Z3d.l0
   rw [dlt hi,Zh hi,Zh hib,Zs (by omega)];simp only [Xe,Yb,hxy,Bool.not_true,Xf]
  | false=>
   obtain ⟨w,hw,ew⟩:=Zwgb a3 a2 (n:=(i:Int)) ⟨by omega,by omega⟩ (b3 _ (Yl hib));refine ⟨(i+1,l++[w]),⟨hi,q1.add (by rw [Z7k hib];exact hw)⟩,by show a.length-(i+1)<a.length-i;omega,ew.mono fun k ew j=>?_⟩;have ew:Zhc k a (i:Int) b[i]=some w:=ew;show Z3d.l0 k (j+1) a b (i:Int) l=_
   conv=>lhs;unfold Z3d.l0
   rw [dlt hi,Zh hi,Zh hib,Zs (by omega)];simp only [Xe,Yb,hxy,Bool.not_false];rw [ew];simp only [Yb];rw [Zlb (by simp;omega)];rfl
 ·left
  refine ⟨l,Zc.of fun k j=>?_,?_⟩
  ·show Z3d.l0 k (j+1) a b (i:Int) l=_
   conv=>lhs;unfold Z3d.l0
   rw [Zbb (by omega)];rfl
  ·rw [show a.length=i by omega]
   exact q1
theorem Zvab {a b:List Str} (ia:Zec a=true) (ib:Zec b=true) (hab:a.length=b.length):Ev (fun k=>Z0j k a b) fun p=>∃l,DiffOk a b l a.length∧p=((a.length:Int),(Zsg b.flatten,(l++[Znl],0))):=by
 obtain ⟨a1,a2,a3⟩:=Znh ia
 obtain ⟨b1,b2,b3⟩:=Znh ib
 unfold Z0j
 refine Ev.cond (fun q=>by simp at q;omega) fun _=>?_
 refine Ev.bind (Q:=fun v=>v=true) (Ev.ever (Zss a (by omega)) ia) fun v3 h3=>?_
 subst h3
 refine Ev.cond (fun q=>by cases q) fun _=>?_
 refine Ev.bind (Q:=fun v=>v=true) (Ev.ever (Zss b (by omega)) ib) fun v4 h4=>?_
 subst h4
 refine Ev.cond (fun q=>by rw [hab] at q;simp at q) fun _=>?_
 refine Ev.bind (Zeob ia ib hab) fun l hl=>?_
 have hlen:=hl.len
 refine Ev.bnd (Zlb (by simp;omega)) (Ev.bind (Q:=fun d=>d=Zsg b.flatten) (Ev.ever (Zxmb ib) rfl) fun d hd=>Ev.ret ⟨l,hl,?_⟩)
 rw [hd]
 rfl
theorem Zuab {a b:List Str} (ha:a.length≤1048576) (hb:b.length≤1048576) (h:¬(Zec a=true∧Zec b=true∧a.length=b.length)):Ev (fun k=>Z0j k a b) fun p=>p.2.2.2≠0∧p.2.2.1=[]:=by
 have ill:∀c,Z7m c=some (0,[],[],c):=fun c=>rfl
 unfold Z0j
 refine Ev.cond (fun _=>Ev.bnd (ill 2) (Ev.ret ⟨by decide,rfl⟩)) fun _=>?_
 refine Ev.bind (Ev.ever (Zss a ha) rfl) fun v4 h4=>Ev.cond (fun _=>Ev.bnd (ill 1) (Ev.ret ⟨by decide,rfl⟩)) fun q4=>?_
 refine Ev.bind (Ev.ever (Zss b hb) rfl) fun v6 h6=>Ev.cond (fun _=>Ev.bnd (ill 1) (Ev.ret ⟨by decide,rfl⟩)) fun q6=>?_
 exfalso
 have q6:=(Bool.or_eq_false_iff).1 q6
 refine h ⟨by rw [h4];simpa using q4,by rw [h6];simpa using q6.1,?_⟩
 have:(a.length:Int)=(b.length:Int):=by simpa using q6.2
 omega
theorem Zaob {x y z:Int} {t:Str} {n:Int} (h2:n≤8) (h:Zuc x y z t n=true):Zuc x y z t 8=true:=by
 unfold Zuc at h ⊢
 split at h
 ·rename_i q
  rw [Xc q];simp only [Yh,decide_eq_true_eq] at h ⊢;exact ⟨⟨⟨h.1.1.1,by omega⟩,h.1.2⟩,h.2⟩
 ·rename_i q1
  rw [Xd q1];split at h
  ·rename_i q
   rw [Xc q];simp only [Yh,decide_eq_true_eq] at h ⊢;exact ⟨⟨⟨h.1.1.1,by omega⟩,h.1.2⟩,h.2⟩
  ·rename_i q2
   rw [Xd q2];split at h
   ·rename_i q
    rw [Xc q];simp only [Yh,decide_eq_true_eq] at h ⊢;exact ⟨⟨⟨h.1.1.1,by omega⟩,h.1.2.1,by omega⟩,h.2⟩
   ·rename_i q3
    rw [Xd q3];split at h
    ·rename_i q
     rw [Xc q];simp only [Yh,decide_eq_true_eq] at h ⊢;exact ⟨⟨⟨h.1.1.1,by omega⟩,h.1.2.1,by omega⟩,h.2⟩
    ·rename_i q4
     rw [Xd q4];exact h
theorem Zwnb (t:Str):(Zsg t).length=32:=by
 unfold Zsg
 rw [Z3g]
 have ho:∀v,(Zeg v).length=4:=fun v=>by simp [Zeg,bb]
 simp [lst,List.flatMap_cons,ho]
theorem Zmab (s:Zxg) (hs:Src s):Ev (fun k=>Z6m k s) fun p=>p.1.length≤100∧Src p.2:=by
 obtain ⟨v2,e2,h2,l2,_,u2⟩:=Zfq s hs 5 (by omega)
 have u2:=u2 (by omega)
 have e3:Ya .i64 (1+v2.1)=1+v2.1:=w64 (by omega) (by omega)
 unfold Z6m
 refine Ev.bnd e2 ?_
 simp only [e3]
 refine Ev.bind (Zc9 v2.2 h2 (1+v2.1) (by omega) (by omega)) fun v3 h3=>?_
 obtain ⟨v4,e4,h4⟩:=Zg3 v3.2 h3.2 12 (by omega)
 refine Ev.bnd e4 (Ev.cond (fun _=>?_) fun _=>Ev.ret ⟨by show v3.1.length≤100;omega,h4⟩)
 obtain ⟨v5,e5,h5,l5,_,u5⟩:=Zfq v4.2 h4 3 (by omega)
 refine Ev.bnd e5 (Ev.cond (fun _=>?_) fun _=>Ev.cond (fun _=>Ev.ret ⟨by simp,h5⟩) fun _=>?_)
 ·obtain ⟨v6,e6,h6,l6,_,u6⟩:=Zfq v5.2 h5 2 (by omega)
  have u6:=u6 (by omega);have e7:Ya .i64 (7+Ya .i64 (2*v6.1))=7+2*v6.1:=by rw [w64 (n:=2*v6.1) (by omega) (by omega),w64 (by omega) (by omega)]
  refine Ev.bnd e6 ?_;simp only [e7];refine Ev.bind (Zefb v6.2 h6 (7+2*v6.1) (by omega) (by omega)) fun v7 h7=>?_
  obtain ⟨x,ex,_⟩:=Zcd (l:=v3.1) (i:=0) (by omega) (by omega);exact Ev.bnd ex (Ev.bnd ex (Ev.ret ⟨by show (List.set _ _ _).length≤100;rw [Yi];omega,h7.2⟩))
 ·obtain ⟨v6,e6,h6,l6,_,u6⟩:=Zfq v5.2 h5 2 (by omega)
  have u6:=u6 (by omega);have e7:Ya .i64 (8+v6.1)=8+v6.1:=w64 (by omega) (by omega);refine Ev.bnd e6 ?_;simp only [e7];exact Ev.bind (Zc9 v6.2 h6 (8+v6.1) (by omega) (by omega)) fun v7 h7=>Ev.ret ⟨by show v7.1.length≤100;omega,h7.2⟩
theorem Zcgb (code:List Int) (hc:code.length≤1048576):Ev (fun k=>Z1d k code) fun p=>p.1.length≤100∧p.2.length≤100:=by
 obtain ⟨s,hs,es⟩:=Z2nb code hc
 unfold Z1d
 refine Ev.bind (Q:=Src) (Ev.ever (Zc.ge 65 es) hs) fun s hs=>Ev.bind (Zmab s hs) fun v3 h3=>Ev.bnd (Zlb (by have:=h3.1;simp;omega)) ?_
 refine Ev.bind (Q:=fun (r:List Int×Int×Int×Int×List Str)=>Src (r.1,(r.2.1,(r.2.2.1,r.2.2.2.1)))∧r.2.2.2.2.length≤100) ?_ fun r hr=>?_
 ·refine Ev.loop (fun k j (z:Int×Zxg×List Str)=>Z1d.l0 j z.1 z.2.1.1 z.2.1.2.1 z.2.1.2.2.1 z.2.1.2.2.2 z.2.2) (fun z=>((z.2.2.length:Int)-z.1).toNat) (fun z=>0≤z.1∧z.2.2.length≤100∧Src z.2.1) _ (0,v3.2,[]++v3.1) ⟨by simp,by simpa using h3.1,h3.2⟩ ?_
  rintro ⟨i,z,l⟩ ⟨q0,q1,q2⟩;have q0:0≤i:=q0;have q1:l.length≤100:=q1
  by_cases hi:i<(l.length:Int)
  ·right
   obtain ⟨v7,e7,h7⟩:=Zg3 z q2 2 (by omega);obtain ⟨b,z2⟩:=v7;cases b with
   | true=>
    obtain ⟨v9,e9,_,h9⟩:=Ze7 z2 h7;obtain ⟨x,ex,_⟩:=Zcd (l:=l) (i:=i) q0 hi;refine ⟨(i+1,v9.2,l.set i.toNat v9.1),⟨by show 0≤i+1;omega,by show (l.set _ _).length≤100;rw [Yi];exact q1,h9⟩,by show (((l.set i.toNat v9.1).length:Int)-(i+1)).toNat<((l.length:Int)-i).toNat;rw [Yi];omega,Zc.of fun k j=>?_⟩;show Z1d.l0 (j+1) i z.1 z.2.1 z.2.2.1 z.2.2.2 l=_
    conv=>lhs;unfold Z1d.l0
    rw [Xa hi,Xe,w64 (n:=i+1) (by omega) (by omega)];exact Za e7 (Za e9 (Za ex (Za ex rfl)))
   | false=>
    refine ⟨(i+1,z2,l),⟨by show 0≤i+1;omega,q1,h7⟩,by show ((l.length:Int)-(i+1)).toNat<((l.length:Int)-i).toNat;omega,Zc.of fun k j=>?_⟩;show Z1d.l0 (j+1) i z.1 z.2.1 z.2.2.1 z.2.2.2 l=_
    conv=>lhs;unfold Z1d.l0
    rw [Xa hi,Xe,w64 (n:=i+1) (by omega) (by omega)];exact Za e7 rfl
  ·left
   refine ⟨(z.1,z.2.1,z.2.2.1,z.2.2.2,l),Zc.of fun k j=>?_,q2,q1⟩;show Z1d.l0 (j+1) i z.1 z.2.1 z.2.2.1 z.2.2.2 l=_
   conv=>lhs;unfold Z1d.l0
   rw [Xb hi];rfl
 ·obtain ⟨v6,e6,h6⟩:=Zg3 _ hr.1 12 (by omega)
  exact Ev.bnd e6 (Ev.cond (fun _=>Ev.bind (Zmab v6.2 h6) fun v7 h7=>Ev.ret ⟨h3.1,h7.1⟩) fun _=>Ev.ret ⟨h3.1,hr.2⟩)
theorem Zbgb (code:List Int) (hc:code.length≤1048576):Ev (fun k=>Zrk k code) fun p=>p.1.length≤100∧p.2.length≤100:=by
 unfold Zrk
 exact Ev.bind (Zcgb code hc) fun p hp=>Ev.ret hp
theorem Zmw {m m':Zp} {c:Zjg} {t:Str} {r:List Int} (h:doR m c=(m',(t,(r,0)))):Zc fun k=>Zrj k m c=some (flD (m',(t,(r,0)))):=by
 rw [← h]
 have q:Z2f m=true∧Z7f c=true:=by
  refine Decidable.byContradiction fun q=>?_
  unfold doR at h;rw [Xd q] at h;have:=(Prod.mk.inj (Prod.mk.inj (Prod.mk.inj h).2).2).2;exact absurd this (by decide)
 exact iDoR q.1 q.2
structure OnTrial (m:Zp) (a b:List Str) (L:List Zg) (nd st:Int) (dg:Str) (w:Nat) (tr:Int):Prop where
 dev:Dev m a 4 tr nd st 0 dg 0 w
 log:LogAt m st w L
 code:Zwb L (a.length:Int)=0
 ab:Zmg a L=b
 slots:Zob (Zl L)≤st
 gen:(Zm m.2).1≤10-tr
 cl:m.2.2=[]
theorem OnTrial.sound {m:Zp} {a b:List Str} {L:List Zg} {nd st tr:Int} {dg:Str} {w:Nat} (h:OnTrial m a b L nd st dg w tr):Zxl m st 0 w=true:=by
 have hb:=h.dev.b
 exact Z1cb h.log.log (by rw [hb];exact h.code) h.slots (by omega)
theorem OnTrial.right {m:Zp} {a b:List Str} {L:List Zg} {nd st tr:Int} {dg:Str} {w:Nat} (h:OnTrial m a b L nd st dg w tr):Z2f m=true:=h.dev.right fun _=>h.sound
theorem OnTrial.view {m:Zp} {a b:List Str} {L:List Zg} {nd st tr:Int} {dg:Str} {w:Nat} (h:OnTrial m a b L nd st dg w tr):Z6j m 4 st 0 w=b:=by
 unfold Z6j
 rw [Xc rfl,h.dev.blocks,h.log.log]
 exact h.ab
theorem Z9eb {a:List Str} {L:List Zg} {st:Int} {dg:Str} {w:Nat} (hL:L.length≤20) (h1:a.length≤8) (hc:Zwb L (a.length:Int)=0) (p3:Int) (p4:Str) (p5:Int) {m:Zp} (hd:Dev m a 2 0 (L.length:Int) st 0 dg 0 w) (hl:LogAt m st w []) (hg:(Zm m.2).1≤2):
  Ev (fun k=>Ztd.l0 k k true 0 p3 p4 p5 m.1 [] 0 L m.2.1 m.2.2 []) fun r=>∃m',r=(true,(p3,(p4,(p5,(m'.1,([],(0,(L,(m'.2.1,(m'.2.2,[]))))))))))∧Dev m' a 2 0 (L.length:Int) st 0 dg 0 w∧LogAt m' st w L∧(Zm m'.2).1≤2:=by
 refine Ev.loop (fun k j (z:Nat×Zp)=>Ztd.l0 k j true (z.1:Int) p3 p4 p5 z.2.1 [] 0 L z.2.2.1 z.2.2.2 []) (fun z=>L.length-z.1) (fun z=>z.1≤L.length∧Dev z.2 a 2 0 (L.length:Int) st 0 dg 0 w∧LogAt z.2 st w (L.take z.1)∧(Zm z.2.2).1≤2) _ (0,m) ⟨Ys _,hd,hl,hg⟩ ?_
 rintro ⟨i,m⟩ ⟨q0,q1,q2,q3⟩
 have q0:i≤L.length:=q0
 have q1:Dev m a 2 0 (L.length:Int) st 0 dg 0 w:=q1
 have q2:LogAt m st w (L.take i):=q2
 have q3:(Zm m.2).1≤2:=q3
 by_cases hi:i<L.length
 ·right
  have hx:Zuc L[i].1 L[i].2.1 L[i].2.2.1 L[i].2.2.2 8=true:=Zaob (by omega) ((Z8f hc).2.2.2.1 _ (Yl hi))
  have hcp:Zwb (L.take i++[L[i]]) (a.length:Int)=0:=by
   rw [← Yr hi];refine Zsfb (r:=L.drop (i+1)) ?_;rw [List.take_append_drop];exact hc
  obtain ⟨m',k1,k2,k3,k4⟩:=q1.step q2 (by rw [List.length_take];omega) hx hcp (by omega);rw [← Yr hi] at k3;refine ⟨(i+1,m'),⟨hi,k2,k3,by show (Zm m'.2).1≤2;omega⟩,by show L.length-(i+1)<L.length-i;omega,(Zmw k1).mono fun k e j=>?_⟩;show Ztd.l0 k (j+1) true (i:Int) p3 p4 p5 m.1 [] 0 L m.2.1 m.2.2 []=_
  conv=>lhs;unfold Ztd.l0
  rw [dlt hi,Xe,Zs (by omega)];exact Za (Zh hi) (Za (Zh hi) (Za e rfl))
 ·left
  obtain rfl:i=L.length:=by omega
  rw [List.take_length] at q2;refine ⟨_,Zc.of fun k j=>?_,m,rfl,q1,q2,q3⟩;show Ztd.l0 k (j+1) true (L.length:Int) p3 p4 p5 m.1 [] 0 L m.2.1 m.2.2 []=_
  conv=>lhs;unfold Ztd.l0
  rw [Zbb (Nat.le_refl _)];rfl
theorem Zolb (n:Int):Ev (fun k=>Zyl k [] n) fun p=>p.1.length≤40:=by
 unfold Zyl
 refine Ev.cond (fun _=>Ev.ret (by simp)) fun _=>?_
 refine Ev.bind (Ev.ever (Zjcb [] n (by simp)) rfl) fun v hv=>Ev.cond (fun _=>Ev.ret (by simp)) fun _=>?_
 exact Ev.bind (Q:=fun (l:List Zsc)=>l.length≤40) (Ev.ever (Zc.ge 60 (Zfcb [] (by simp) (fun x hx=>by cases hx))) (by decide)) fun l hl=>Ev.ret hl
theorem Z7eb {code:List Int} {a b:List Str} (ha:Zec a=true) (hb:Zec b=true) (hab:a.length=b.length) (ed:Zc fun k=>Zrk k code=some (a,b)):
  Ev (fun k=>Ztd k code) fun r=>∃m L nd st dg w,r=(a,(b,(m.1,(m.2.1,(m.2.2,true)))))∧OnTrial m a b L nd st dg w 2:=by
 obtain ⟨a1,a2,a3⟩:=Znh ha
 unfold Ztd
 refine Ev.bind (Q:=fun q=>q=(a,b)) (Ev.ever ed rfl) fun v2 h2=>?_
 subst h2
 refine Ev.bind (Zvab ha hb hab) fun v3 ⟨l,hl,h3⟩=>?_
 subst h3
 have hll:l.length≤a.length:=hl.len
 have a1:1≤a.length:=a1
 have hL:(l++[Znl]).length≤20:=by rw [Yd];simp only [Yf,Yg];omega
 have hL1:1≤(l++[Znl]).length:=by rw [Yd];simp only [Yf,Yg];omega
 have hcode:=hl.code ⟨a1,a2⟩
 have hsl:=hl.slots a2
 have happ:=hl.apply hab.symm
 have hs0:=(Z8u (Zl (l++[Znl]))).1
 generalize l++[Znl]=L at hL hL1 hcode hsl happ hs0 ⊢
 have hpl:=Zay L (Z8f hcode).1 (Znj hcode)
 refine Ev.bind (Q:=fun p=>p=(Zl L,0)) (Ev.ever (Zbnb L _ hcode) rfl) fun v4 h4=>?_
 subst h4
 refine Ev.bind (Q:=fun p=>p=Zob (Zl L)) (Ev.ever (Zc.ge 41 (Zhcb (Zl L) (by omega))) rfl) fun v5 h5=>?_
 subst h5
 have hn:=Zu1 (a:=a) (by omega)
 rw [Xc ha] at hn
 refine Ev.bind (Q:=fun p=>p=_) (Ev.ever hn rfl) fun v6 h6=>?_
 subst h6
 obtain ⟨d0,g0,c0⟩:=Z3fb ha
 obtain ⟨m1,w,k1,d1,l1,g1⟩:=d0.begin (A:=(L.length:Int)) (B:=Zob (Zl L)) (dg:=Zsg b.flatten) ⟨by omega,by omega⟩ ⟨hs0,hsl⟩ (Zwnb _) (by omega)
 refine Ev.cond (fun q=>by cases q) fun _=>?_
 refine Ev.bind (Q:=fun p=>p=flD (m1,([],([],0)))) (Ev.ever (Zmw k1) rfl) fun v8 h8=>?_
 subst h8
 refine Ev.bind (Z9eb (m:=m1) hL a2 hcode _ _ _ d1 l1 (by omega)) fun v9 ⟨m2,h9,d2,l2,g2⟩=>?_
 subst h9
 obtain ⟨m3,k3,d3,l3,g3,c3⟩:=d2.finish l2 rfl hcode (by rw [happ]) (by omega) (by omega)
 refine Ev.bind (Q:=fun p=>p=flD (m3,([],([],0)))) (Ev.ever (Zmw k3) rfl) fun v11 h11=>?_
 subst h11
 obtain ⟨m4,k4,d4,l4,g4,c4⟩:=d3.boot3 l3 (by omega)
 have hs3:Zxl m3 (Zob (Zl L)) 0 w=true:=Z1cb l3.log (by rw [d3.b];exact hcode) (Yj _) (by omega)
 have k5:doR m3 (11,(0,(0,([],Zdn))))=(m4,([],([],0))):=by
  rw [d3.does (fun _=>hs3) (Zp0 (by omega) (by omega) (by omega)) (by omega)];have e:Z8h m3 (11,(0,(0,([],Zdn)))) 3 0 (L.length:Int) (Zob (Zl L)) 0 (Zsg b.flatten) 0 w=Zih (Z0i m3 3 0 (L.length:Int) (Zob (Zl L)) 0 (Zsg b.flatten) 0 w):=rfl;rw [e];exact congrArg (fun x=>(x,(([]:Str),(([]:List Int),(0:Int))))) k4
 refine Ev.bind (Q:=fun p=>p=flD (m4,([],([],0)))) (Ev.ever (Zmw k5) rfl) fun v12 h12=>?_
 subst h12
 exact Ev.cond (fun _=>Ev.ret ⟨m4,L,_,_,_,w,rfl,d4,l4,hcode,happ,Yj _,by omega,c4⟩) fun q=>by cases q
theorem Z8eb {code:List Int} {a b:List Str} (ha:a.length≤100) (hb:b.length≤100) (h:¬(Zec a=true∧Zec b=true∧a.length=b.length)) (ed:Zc fun k=>Zrk k code=some (a,b)):
  Ev (fun k=>Ztd k code) fun r=>∃x y z,r=(a,(b,(x,(y,(z,false))))):=by
 unfold Ztd
 refine Ev.bind (Q:=fun q=>q=(a,b)) (Ev.ever ed rfl) fun v2 h2=>?_
 subst h2
 refine Ev.bind (Zuab (a:=a) (b:=b) (by omega) (by omega) h) fun v3 ⟨h3,h3'⟩=>?_
 obtain ⟨p1,p2,p3,p4⟩:=v3
 have h3:p4≠0:=h3
 have h3':p3=[]:=h3'
 subst h3'
 refine Ev.bind (Zolb _) fun v4 h4=>?_
 refine Ev.bind (Q:=fun _=>True) (Ev.ever (Zc.ge 41 (Zhcb v4.1 h4)) trivial) fun v5 _=>?_
 refine Ev.bind (Q:=fun _=>True) (Ev.ever (Zu1 (a:=a) (by omega)) trivial) fun v6 _=>?_
 exact Ev.cond (fun _=>Ev.ret ⟨_,_,_,rfl⟩) fun q=>absurd (by simpa using q) h3
end Go.Proofs.Qz
namespace Go.Proofs.Qz
open Go
def Zac.Pure:Prop:=∀(y0:List Int) (y1:List Int),Bnd (.sl (.int .u8)) y0→Bnd (.sl (.int .u8)) y1→∃k:Nat,Zac k y0 y1=some true
end Go.Proofs.Qz
namespace Go.Proofs.Qz
open Go
set_option linter.unusedVariables false
theorem Zfm {α:Type} {c:Bool} {x y z:α} (h:c=false) (k:y=z):(bif c then x else y)=z:=by rw [h];exact k
theorem Zcw {α:Type} {c:Bool} {x y z:α} (h:c=true) (k:x=z):(bif c then x else y)=z:=by rw [h];exact k
def Zr4:Zjg:=(8,(0,(0,([],Zdn))))
theorem Zs4:Z7f Zr4=true:=Zp0 (by omega) (by omega) (by omega)
section
variable {m:Zp} {a b:List Str} {L:List Zg} {nd st tr:Int} {dg:Str} {w:Nat}
theorem OnTrial.small (h:OnTrial m a b L nd st dg w tr):(Zm m.2).1<1000000:=by
 have:=h.gen
 have:=h.dev.kp.b
 omega
theorem OnTrial.cut (h:OnTrial m a b L nd st dg w tr) {n:Int} (h0:0≤n):Zhw m Zr4 n []=(m,0):=by
 have e:(Z8h m Zr4 4 tr nd st 0 dg 0 w).1=[]:=rfl
 unfold Zhw
 rw [Xd (by simp),Xc ⟨⟨h.right,Zs4⟩,h0⟩,h.dev.acts (fun _=>h.sound) Zs4 h.small,e,Zxfb h.cl]
theorem OnTrial.boot (h:OnTrial m a b L nd st dg w tr) (ht:1≤tr):∃m',Ztp m=(m',0)∧OnTrial m' a b L nd st dg w (tr-1):=by
 obtain ⟨m',k1,k2,k3,k4,k5⟩:=h.dev.boot4 ht h.log h.small
 have hg:=h.gen
 refine ⟨m',?_,k2,k3,h.code,h.ab,h.slots,by omega,k5⟩
 unfold Ztp
 rw [h.dev.state]
 exact congrArg (fun x=>(x,(0:Int))) k1
theorem OnTrial.last (h:OnTrial m a b L nd st dg w 0):∃m',Ztp m=(m',0)∧Dev m' a 1 0 0 0 0 [] 0 0:=by
 obtain ⟨m',k1,k2,k3,k4⟩:=h.dev.boot0 h.small
 refine ⟨m',?_,k2⟩
 unfold Ztp
 rw [h.dev.state]
 exact congrArg (fun x=>(x,(0:Int))) k1
theorem Z24 (h:OnTrial m a b L nd st dg w tr) {m':Zp} (hb:Ztp m=(m',0)) (hbl:b.length≤1048576) {more:List Int} (hm:∀x∈more,0≤x∧x<256) (hml:more.length≤1048576) (i:Nat) (hi:i<3):
  Zc fun k=>∀j,Zac.l0 k (j+1) more (i:Int) m.1 b m.2.1 m.2.2=Zac.l0 k j more ((i+1:Nat):Int) m'.1 b m'.2.1 m'.2.2:=by
 obtain ⟨v,ev,hv⟩:=Zkkb more hm hml i (z:=3) ⟨by omega,by omega⟩
 have hs:=h.dev.state
 have e1:=Zz1 hs
 have e2:=Z11 h.right hs
 rw [h.view] at e2
 have e4:=Znib h.right Zs4 (n:=(v:Int)) (by omega) (fs:=[]) (fun x hx=>by cases hx) (by simp)
 rw [h.cut (by omega)] at e4
 have e5:=Zhib hs
 rw [hb] at e5
 refine ((((e1.and e2).and (Zp2 b hbl)).and e4).and e5).mono fun k ⟨⟨⟨⟨e1,e2⟩,e3⟩,e4⟩,e5⟩ j=>?_
 conv=>lhs;unfold Zac.l0
 rw [Xa (by omega:(i:Int)<3),Xe,Zs (by omega)]
 refine Za e1 (Zcw rfl (Za e2 (Za e3 (Zfm rfl (Za ev (Za e4 (Za e5 (Zfm rfl rfl))))))))
end
theorem Z1gb:Zc fun k=>Zzn k (Zb 0) (Zb 0)=some (Zb (Zqc 0 0)):=by
 refine Zc.ge 25 fun k hk=>?_
 unfold Zzn
 exact Za (Zcx 0 k (by omega)) (Zfm rfl (Za (Zcx 0 k (by omega)) (Zfm rfl (Za (Z08 0 0 (by decide) (by decide) (by omega)) rfl))))
theorem Zac.proved:Zac.Pure:=by
 intro code more hcode hmore
 by_cases hb:1048576<code.length∨1048576<more.length
 ·refine ⟨0,?_⟩
  unfold Zac
  have e:(decide (1048576<(code.length:Int))||decide (1048576<(more.length:Int)))=true:=by
   rw [Bool.or_eq_true,decide_eq_true_eq,decide_eq_true_eq];omega
  rw [e];rfl
 have hc1:code.length≤1048576:=by omega
 have hc2:more.length≤1048576:=by omega
 have hsz:(decide (1048576<(code.length:Int))||decide (1048576<(more.length:Int)))=false:=by
  rw [Xb (by omega:¬(1048576<(code.length:Int))),Xb (by omega:¬(1048576<(more.length:Int)))];rfl
 have hbytes:∀x∈more,0≤x∧x<256:=fun x hx=>by
  have h:(Lit.int .u8 x).wf=true:=hmore.2 x hx;simp [Lit.wf,IntKind.min,Yk,IntKind.signed,IntKind.bits] at h;omega
 obtain ⟨⟨a,b⟩,⟨ha,hbb⟩,ed⟩:=Zbgb code hc1
 have ha:a.length≤100:=ha
 have hbb:b.length≤100:=hbb
 have ed:Zc fun k=>Zrk k code=some (a,b):=ed
 by_cases good:Zec a=true∧Zec b=true∧a.length=b.length
 ·obtain ⟨ga,gb,gab⟩:=good
  obtain ⟨r,⟨m,L,nd,st,dg,w,hr,hT⟩,er⟩:=Z7eb ga gb gab ed;obtain ⟨p,⟨l,hl,hp⟩,ep⟩:=Zvab ga gb gab;subst hr hp;obtain ⟨m1,b1,hT1⟩:=hT.boot (by omega);obtain ⟨m2,b2,hT2⟩:=hT1.boot (by omega);obtain ⟨m3,b3,hD⟩:=hT2.last
  have run:Zc fun k=>Zac.l0 k k more 0 m.1 b m.2.1 m.2.2=some (.inl (m3.1,m3.2.1,m3.2.2)):=by
   refine ((((Z24 hT b1 (by omega) hbytes hc2 0 (by omega)).and (Z24 hT1 b2 (by omega) hbytes hc2 1 (by omega))).and (Z24 hT2 b3 (by omega) hbytes hc2 2 (by omega))).and (Zc.ge 10 fun k hk=>hk)).mono fun k ⟨⟨⟨t0,t1⟩,t2⟩,hk⟩=>?_
   obtain ⟨j,hj⟩:∃j,k=j+1+1+1+1:=⟨k-4,by omega⟩
   have last:Zac.l0 k (j+1) more ((3:Nat):Int) m3.1 b m3.2.1 m3.2.2=some (.inl (m3.1,m3.2.1,m3.2.2)):=by
    conv=>lhs;unfold Zac.l0
    rw [Xb (by omega:¬((3:Nat):Int)<3)];rfl
   have g:Zac.l0 k (j+1+1+1+1) more 0 m.1 b m.2.1 m.2.2=some (.inl (m3.1,m3.2.1,m3.2.2)):=(t0 (j+1+1+1)).trans ((t1 (j+1+1)).trans ((t2 (j+1)).trans last));rw [← hj] at g;exact g
  have hs3:=hD.state;have hm3:Z2f m3=true:=hD.right fun q=>by omega
  have v3:=Z11 hm3 hs3
  have hv3:Z6j m3 1 0 0 0=a:=by
   unfold Z6j;rw [Xd (by omega),Xd (by omega),hD.blocks]
  rw [hv3] at v3;have v0:=Z11 hT.right hT.dev.state;rw [hT.view] at v0;have b0:=Zbib hT.right hT.dev.state;rw [hT.dev.blocks] at b0
  have hlen:(Zb (Zqc 0 0)).length=24:=by
   have:=Zx0 (v:=0) (w:=0) rfl;rw [Zrp] at this;simpa using this
  obtain ⟨k,⟨⟨⟨⟨⟨⟨⟨⟨⟨⟨er,ep⟩,v0⟩,b0⟩,s0⟩,run⟩,s3⟩,v3⟩,ta⟩,tb⟩,fr⟩⟩:=((((((((((er.and ep).and v0).and b0).and (Zz1 hT.dev.state)).and run).and (Zz1 hs3)).and v3).and (Zp2 a (by omega))).and (Zp2 b (by omega))).and Z1gb).ex;refine ⟨k,?_⟩;unfold Zac;rw [hsz,Xf];refine Za er (Za ep (Zfm rfl (Zfm rfl (Za v0 (Za tb (Zfm rfl (Za b0 (Za ta (Zfm rfl (Za s0 (Zfm rfl (Za run ?_))))))))))));refine Za s3 (Zcw rfl (Za v3 (Za ta (Zcw rfl (Za fr ?_)))));rw [hlen];rfl
 ·obtain ⟨r,⟨x,y,z,hr⟩,er⟩:=Z8eb ha hbb good ed
  obtain ⟨p,⟨hp,_⟩,ep⟩:=Zuab (a:=a) (b:=b) (by omega) (by omega) good;subst hr;obtain ⟨k,⟨⟨⟨er,ep⟩,e1⟩,e2⟩⟩:=(((er.and ep).and (Zu1 (a:=a) (by omega))).and (Z5mb (a:=a) (by omega))).ex;refine ⟨k,?_⟩;unfold Zac;rw [hsz,Xf];refine Za er (Za ep (Zcw (by simpa using hp) (Za e1 (Za e2 ?_))));simp
end Go.Proofs.Qz
namespace Go.Proofs.YtpcllejjdmmjcaaGreatDoor.fnTried
open Go Go.ChangeShapes Go.WideShapes Go.ChangeAt Go.RowKit Go.Proofs.Qz
set_option linter.unusedVariables false
theorem own:ownKnob Yc.godebug=none:=by kernel_rfl
theorem Z91:laidOutB Yc=true:=by kernel_rfl
theorem go (k:Nat) (y0:List Int) (y1:List Int):(Zac.con k).f [Zdt false (.sl (.int .u8)) y0,Zdt false (.sl (.int .u8)) y1] = .opt (Z8 Zac.sig.outs) (Zac k y0 y1) Zac.sig.enc:=by kernel_rfl
abbrev Z5t:List (String×DataW Unit):=[("loop.example/g00668/impl.digestStart",Rows.laid_loop_example_g00668_impl_digestStart),("loop.example/g00668/impl.digestRounds",Rows.laid_loop_example_g00668_impl_digestRounds)]
theorem Z8fb (os:Os) (args:Array Value):laidMetH Yc Z5t ((World.doorLaid Yc 19 os).forCall (fun _ _=>0) ⟨#[],args,[]⟩).memory:=
 laidMetH_of_parts3 (fuel:=8) (laidMet_of_run' 8 (by kernel_rfl) (by kernel_rfl)) (by kernel_rfl) (by kernel_rfl)
theorem globals {W:World} (h:laidMetH Yc Z5t W):GlW W:=by
 rw [MakeChecks.laidMetH_plain _ _ _ (by kernel_rfl)] at h
 intro n r l e
 unfold GL at e
 split at e
 ·cases e;exact Zo9 h (name:= "loop.example/g00668/impl.digestStart") (k:=.u32) (zs:=Z3l) (Yp (i:=0) (by kernel_rfl)) (n:=8) (t:=302) (e:=297) (by kernel_rfl) (by kernel_rfl) (by kernel_rfl) (by kernel_rfl) (by kernel_rfl) (by kernel_rfl)
 ·cases e;exact Zo9 h (name:= "loop.example/g00668/impl.digestRounds") (k:=.u32) (zs:=Z4l) (Yp (i:=1) (by kernel_rfl)) (n:=64) (t:=324) (e:=297) (by kernel_rfl) (by kernel_rfl) (by kernel_rfl) (by kernel_rfl) (by kernel_rfl) (by kernel_rfl)
 ·cases e
set_option maxRecDepth 100000 in
theorem lifted (os:Os) (started:os.Started) (H:Type) (enc:TypeId×Value→H):
  ReturnsInHanded {} Ym os 3 .any (fun w args=>(Rows.fnTriedSpec.pre enc Yc Ye [] false w args∧laidMetH Yc Z5t w)∧sizedMet enc Yc Ye (OpenSpec.ofChange Rows.fnTriedSpec) false w args) (Rows.fnTriedSpec.post enc Yc Ye false true false false):=by
 refine returnsInHanded_of_change_and (C:=Ym) (X:=fun w _=>laidMetH Yc Z5t w) (fun _ _ _ hh h=>h.of_heap hh) own started (by kernel_rfl) Yn
  (ChangeSpec.witness_shaped (enc:=enc) (C:=Ym) (os:=os) (X:=fun w _=>laidMetH Yc Z5t w) false (World.doorLaid Yc 19 os) #[.slice none 0 0,.slice none 0 0] 8 rfl (World.shaped_of_RefB (by kernel_rfl) (by kernel_rfl)) (by kernel_rfl) (by kernel_rfl) (by kernel_rfl) (Z8fb os _)) ?_
 intro W base args ds gs before hval0 hW hcnd hsz0 hL _
 have hsz:(DataW.weightsEach Yc (Ye.params.toList++Rows.fnTriedSpec.plain.varTypes Yc) (ds++gs)).all (·≤reachBytes)=true:=hsz0
 have hval:∀(j:Nat) t v,Ye.params[j]? = some t→args[j]? = some v→Value.okWide Yc W .any base t v:=hval0
 have hW':=hW
 obtain ⟨p,q,hA0,hV,rfl,hfz,hnd⟩:=hW
 have hA:DataW.TrodAll enc Yc W 0 (fun _=>true) true Ye.params.toList args.toList ds p:=hA0
 rw [Yu] at hA hval hsz
 obtain ⟨v0,vs0,d0,ds0,p0,q0,hargs,rfl,rfl,h0,r0⟩:=trodAll_cons hA
 obtain ⟨v1,vs1,d1,ds1,p1,q1,rfl,rfl,rfl,h1,r1⟩:=trodAll_cons r0
 obtain ⟨rfl,rfl,rfl⟩:=trodAll_nil r1
 obtain rfl:args = #[v0,v1]:=by cases args;simp_all
 obtain ⟨_,_,_,_,gd0,_,_,_,_,_,gd1,_,rfl,_⟩:=trodVars_two hV
 have lt0:=Zjdb h0
 have z0:=Zxdb hsz (j:=0) (t:=22) rfl rfl
 obtain ⟨y0,b0,c0⟩:=Z05 (ty:=(.sl (.int .u8))) (n:=20) (ag:=false) (by kernel_rfl) (by kernel_rfl) (hval 0 22 v0 rfl rfl) h0 z0
 have lt1:=Zjdb h1
 have z1:=Zxdb hsz (j:=1) (t:=22) rfl rfl
 obtain ⟨y1,b1,c1⟩:=Z05 (ty:=(.sl (.int .u8))) (n:=20) (ag:=false) (by kernel_rfl) (by kernel_rfl) (hval 1 22 v1 rfl rfl) h1 z1
 obtain ⟨k,hp⟩:=Zac.proved y0 y1 b0 b1
 have hrr:((Zac.con k).f [Zdt false (.sl (.int .u8)) y0,Zdt false (.sl (.int .u8)) y1]).val=some ⟨[.val false [.leaf (.bool true)]],[]⟩:=by
  refine (congrArg CR.val (go k y0 y1)).trans ?_;rw [hp]
  kernel_rfl
 refine (Z4jb (Zac.ok k) hrr (globals hL) (vs:=[v0,v1]) (Zt6 (c0 _) (Zt6 (c1 _) Zlfb))).mono fun e W' ⟨he,bel0⟩=>?_
 have bel:Below W.heap.size W W':=bel0
 subst he
 exact ⟨_,rfl,_,_,_,[],_,_,hW',trodAll_mk1 (Zxnb Tryz.underlying4 _),(trodAll_cons_mk (Below.trod Z91 (by kernel_rfl) (of_decide_eq_true (by kernel_rfl)) h0 bel lt0) (trodAll_cons_mk (Below.trod Z91 (by kernel_rfl) (of_decide_eq_true (by kernel_rfl)) h1 bel lt1) trodAll_mk0)),Below.trodVars Z91 bel (by kernel_rfl) hV,bel.frame _,fun h=>by cases h⟩
theorem k10:(Rows.fnTriedRow.inPlace==Yc.inPlace 3)=true:=by kernel_rfl
theorem k11:(Rows.fnTriedRow.unfollowed==Yc.unfollowed 3)=true:=by kernel_rfl
theorem k12:(Rows.fnTriedRow.recurses==Yc.recurses 3)=true:=by kernel_rfl
theorem k13:(Rows.fnTriedRow.named==Yc.varsNamed 3)=true:=by kernel_rfl
theorem Zqfb:joinedFacts Yc 3 Ye Rows.fnTriedSpec Rows.fnTriedRow=true:=by
 unfold joinedFacts
 rw [k10,k11,k12,k13]
 kernel_rfl
theorem Zpo:Rows.fnTriedRow.holds Tryz.pinned (OpenSpec.ofChange Rows.fnTriedSpec):=
 OpenClaim.holds_of_wide 3 Ye rfl rfl rfl rfl rfl rfl rfl ⟨rfl,rfl,rfl,rfl,rfl⟩ rfl rfl rfl rfl rfl (by kernel_rfl) Yn Zqfb
  (of_decide_eq_true (by kernel_rfl)) (by unfold Func.isWrapper;first | (rw [Xc (by decide +kernel)];kernel_rfl) | (rw [Xd (by decide +kernel)];exact ⟨rfl,rfl⟩))
  (fun os started H enc _=>lifted os started H enc)
theorem proved:Rows.FnTriedSaid:=Zpo
theorem t1:Rows.fnTriedRow.wfByText (OpenSpec.ofChange Rows.fnTriedSpec)=true:=by kernel_rfl
theorem t2:Yc.mainIs=some ((true, "933041b7a138b4b8385d4c8b62717555527b224f332a52fd1e388c0e673042bb").1,(true, "933041b7a138b4b8385d4c8b62717555527b224f332a52fd1e388c0e673042bb").2.toList):=by kernel_rfl
theorem t3:false=Yc.looks []:=by kernel_rfl
theorem t4:false=Rows.fnTriedRow.goesBy Yc:=by kernel_rfl
theorem tied:Rows.FnTriedCardSaid:=
 Claim7.holds_tied_plain_at .later [] [.data,.data] true (true, "933041b7a138b4b8385d4c8b62717555527b224f332a52fd1e388c0e673042bb") false
  proved (fun _ h=>by cases h) t1 (fun _ h=>by cases h) fnTried_row_tie rfl ⟨rfl,rfl⟩ t2 rfl
  (fun f fn hf hfn=>by
   obtain rfl:f=3:=Yt.inj ((show Yc.funcNamed "loop.example/g00668/laws.FnTried" = some 3 by kernel_rfl).symm.trans hf) |>.symm;obtain rfl:fn=Ye:=(Yt.inj (Yn.symm.trans hfn)).symm
   exact ⟨t3,fun j t ht=>by
    rw [Yu] at ht;have hm:t∈[22,22]:=by simpa using Array.mem_of_getElem? ht
    have hall:([22,22].all fun u=>!Tryz.prog.wantsStandIn u)=true:=by kernel_rfl
    exact (show Yc.wantsStandIn t=false by simpa using List.all_eq_true.1 hall t hm)⟩)
  t4
end Go.Proofs.YtpcllejjdmmjcaaGreatDoor.fnTried
namespace Go.Proofs.YtpcllejjdmmjcaaGreatDoor
theorem fnTried_card:Rows.FnTriedCardSaid:=fnTried.tied
#print axioms fnTried_card
end Go.Proofs.YtpcllejjdmmjcaaGreatDoor
