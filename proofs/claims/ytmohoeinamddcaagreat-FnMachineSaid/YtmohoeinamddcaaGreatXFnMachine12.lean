/- What the law FnMachine needs, part 13 of 16: the Lean functions of the Go functions that it reaches, with the proofs that the calls come to what they say, and plain facts about them. Conditions: those that each theorem states. Written by a session and by its programs (after the kit's printer). -/
import Derived.Lib.Join
import Derived.Test.YtmohoeinamddcaaGreatXFnMachine9
import Derived.Test.YtmohoeinamddcaaGreatXFnMachine10
import Derived.Test.YtmohoeinamddcaaGreatXFnMachine11
open Go.IntKind renaming wrap → Ya, max → Yua
open Bool renaming and_eq_true → Yb, true_and → Yg, not_true → Yp, or_true → Yq, false_ne_true → Y7, or_false → Y8, and_self → Yda, false_and → Yea, not_false → Yfa, true_or → Yga, false_or → Yqa, or_eq_false_iff → Yra, or_eq_true → Ysa
open Nat renaming le_refl → Yc, mod_eq_of_lt → Yy, div_lt_of_lt_mul → Yfb, le_of_eq → Ygb, lt_trichotomy → Yhb, or_lt_two_pow → Yib, pow_succ → Yjb, sub_self → Ykb, sub_zero → Ylb, testBit_or → Ymb
open List renaming replicate → Yd, getElem?_eq_getElem → Yf, length_append → Yh, range → Yi, getElem_map → Yj, length_map → Yk, length_take → Yl, take_length → Ym, getElem_mem → Yn, mem_cons → Yo, append_assoc → Yr, mem_cons_self → Ys, mem_iff_getElem → Yt, getD_eq_getElem?_getD → Yu, getElem_take → Yv, length_cons → Yw, mem_map → Yx, append_nil → Y3, drop_zero → Y4, getElem_drop → Y5, mem_cons_of_mem → Y6, mem_range → Y9, pairwise_iff_getElem → Yaa, ext_getElem → Yia, length_drop → Yja, length_nil → Yka, length_replicate → Yla, not_mem_nil → Yma, take_of_length_le → Yna, any_eq_false → Yva, any_eq_true → Ywa, drop_of_length_le → Yxa, getElem?_eq_some_iff → Yya, getElem_range → Yza, getLast?_concat → Y0a, length_filter_le → Y1a, length_range → Y2a, length_set → Y3a, length_singleton → Y4a, map_append → Y5a, map_map → Y6a, map_take → Y7a, mem_append → Y8a, mem_of_getLast? → Y9a, mem_of_mem_take → Yab, mem_singleton → Ybb, nil_append → Ycb, pairwise_cons → Ydb, replicate_zero → Yeb
open Option renaming bind_some → Ye, getD → Yz, bind → Yba, bind_eq_some_iff → Ynb
open BitVec renaming toNat_ofNat → Y0, ofNat → Yca, ofInt → Yoa, ofInt_natCast → Ypa
open Int renaming le_refl → Y1, toNat_natCast → Y2, toNat_of_nonneg → Yha, tmod_eq_emod_of_nonneg → Yta
namespace Go.Proofs.Qz
open Go
set_option linter.unusedVariables false
def Zvh (m:Zo) (st:Int) (w:Nat):List Str:=((Zb w).drop st.toNat).map fun x=>Zm m.2 (3+m.1+x)
def Zf (m:Zo) (st:Int) (w:Nat):List Zi:=Zwi (Zvh m st w) 0
theorem Zd2 (m:Zo) (st:Int) (w:Nat):(Zvh m st w).length≤24:=by
 have:=Z7d w
 unfold Zvh
 simp
 omega
theorem Zvz (m:Zo) (st:Int) (w:Nat):(Zf m st w).length≤24:=Nat.le_trans (Z96 _ _) (Zd2 m st w)
structure Fit (m:Zo) (st:Int) (w:Nat):Prop where
 b:1≤m.1∧m.1≤8
 f:Zwg m.2=true
 n:(m.2.1.length:Int)=m.1+27
 s:0≤st∧st≤((Zb w).length:Int)
theorem Fit.dirt {m:Zo} {st:Int} {w:Nat} (h:Fit m st w):m.2.2.length≤1048576:=by
 have:=(Z7r h.f).1
 omega
theorem Zv8 {m:Zo} {st:Int} {w:Nat} (h:Zwg m.2=true):∀s∈Zvh m st w,s.length≤8000:=by
 intro s hs
 unfold Zvh at hs
 obtain ⟨x,_,rfl⟩:=Yx.1 hs
 have:=Zeo h (3+m.1+x)
 omega
theorem Zzcb {α β:Type} {l:List α} (f:α→β) {i:Nat} (h:i<l.length):(l.take (i+1)).map f=(l.take i).map f++[f l[i]]:=Zfgb f h
theorem Zc4 {m:Zo} {w:Nat} (ph tr nd st dn:Int) (dg:Str) (v:List Int) (h:Fit m st w):Zc fun k=>Zpe k m (ph,tr,nd,st,dn,dg,v,Zb w)=some (Zf m st w):=by
 obtain ⟨p,hp⟩:∃p:Nat,st=(p:Int):=⟨st.toNat,by have:=h.s;omega⟩
 subst hp
 have hb:=h.b
 have hn:=h.n
 have hd:=h.dirt
 have hw:=Z7d w
 have hs:p≤(Zb w).length:=by have:=h.s;omega
 refine ((Z7lb (Zvh m p w) (by have:=Zd2 m p w;omega) (Zv8 h.f)).and (Zc.ge 1048577 fun k hk=>hk)).mono fun k ⟨e,hk⟩=>?_
 have hc:Z2b (Zb w) ((p:Nat):Int) ((Zb w).length:Int)=some ((Zb w).drop p):=by
  have:=Zhi (l:=Zb w) (i:=p) (j:=(Zb w).length) hs (Yc _)
  rwa [Ym] at this
 have run:=Zrc (fun j i=>Zpe.l0 k j m.1 m.2.1 m.2.2 ((Zb w).drop p) (((Zb w).drop p).length:Int) (i:Int) ((((Zb w).drop p).take i).map fun x=>Zm m.2 (3+m.1+x))) ((Zb w).drop p).length (Zvh m p w) (fun i hi j=>?_) (fun j=>?_) k (by simp;omega)
 ·have run:Zpe.l0 k k m.1 m.2.1 m.2.2 ((Zb w).drop p) (((Zb w).drop p).length:Int) 0 []=some (Zvh m p w):=run
  unfold Zpe;exact Za hc (Za run (Za e rfl))
 ·have hx:0≤((Zb w).drop p)[i]∧((Zb w).drop p)[i]≤23:=by
   rw [Y5];exact Z3k (by simp at hi;omega)
  have r:Zpj k (m.1,(m.2.1,m.2.2)) ((Zb w).drop p)[i]=some (Zm m.2 (3+m.1+((Zb w).drop p)[i])):=by
   unfold Zpj Zzp;rw [w64 (n:=3+m.1) (by omega) (by omega),w64 (by omega) (by omega)];exact Za rfl (Za (Ztt m.2 _ hd (by omega) (by omega) (by omega)) rfl)
  conv=>lhs;unfold Zpe.l0
  rw [dlt hi,Zs (by simp at hi;omega),Xe];refine Za (Zh hi) (Za r (Za (Z6 (by simp;omega)) ?_));rw [Zzcb _ hi]
 ·conv=>lhs;unfold Zpe.l0
  rw [Z8 (Yc _),Ym];rfl
theorem Zuo {m:Zo} {w:Nat} (ph tr nd st dn:Int) (dg:Str) (v:List Int) (h:Fit m st w):Zc fun k=>Ztc k m (ph,tr,nd,st,dn,dg,v,Zb w)=some (Zf m st w):=by
 obtain ⟨p,hp⟩:∃p:Nat,st=(p:Int):=⟨st.toNat,by have:=h.s;omega⟩
 subst hp
 have hb:=h.b
 have hn:=h.n
 have hd:=h.dirt
 have hw:=Z7d w
 have hs:p≤(Zb w).length:=by have:=h.s;omega
 refine ((Zvqb (Zvh m p w) (by have:=Zd2 m p w;omega) (Zv8 h.f)).and (Zc.ge 1048577 fun k hk=>hk)).mono fun k ⟨e,hk⟩=>?_
 have run:=Zrc (fun j i=>Ztc.l0 k j m.1 m.2.1 m.2.2 ph tr nd p dn dg v (Zb w) ((p+i:Nat):Int) ((((Zb w).drop p).take i).map fun x=>Zm m.2 (3+m.1+x))) ((Zb w).drop p).length (Zvh m p w) (fun i hi j=>?_) (fun j=>?_) k (by simp;omega)
 ·have run:Ztc.l0 k k m.1 m.2.1 m.2.2 ph tr nd p dn dg v (Zb w) (p:Int) []=some (Zvh m p w):=run
  unfold Ztc;exact Za run (Za e rfl)
 ·have hi2:p+i<(Zb w).length:=by simp at hi;omega
  have hx:=Z3k hi2;have hg:((Zb w).drop p)[i]=(Zb w)[p+i]:=Y5;have r:Zub k (m.2.1,m.2.2) (3+m.1+(Zb w)[p+i])=some (Zm m.2 (3+m.1+(Zb w)[p+i])):=Zon m.2 _ hd (by omega) (by omega) (by omega)
  have ra:Zdh (m.1,(m.2.1,m.2.2)) (Zb w)[p+i]=some (3+m.1+(Zb w)[p+i]):=by
   unfold Zdh;rw [w64 (n:=3+m.1) (by omega) (by omega),w64 (by omega) (by omega)]
  conv=>lhs;unfold Ztc.l0
  rw [dlt hi2,Zs (by omega),Xe];refine Za (Zh hi2) (Za ra (Za r (Za (Z6 (by simp;omega)) ?_)));rw [Zzcb _ hi,hg];rfl
 ·have hq:p+((Zb w).drop p).length=(Zb w).length:=by simp;omega
  conv=>lhs;unfold Ztc.l0
  rw [hq,Z8 (Yc _),Ym];rfl
end Go.Proofs.Qz
namespace Go.Proofs.Qz
open Go Go.RowKit
set_option linter.unusedVariables false
def dgT (x n:Int):Int:=intBits .or .u32 (shr .u32 x n) (shl .u32 x (32-n))
theorem Zqn {n:Int} (x:Int) (h:0≤n∧n≤32):Zqh x n=some (dgT x n):=by
 unfold Zqh
 have h2:Ya .u64 (32-n)=32-n:=by rw [Zfh];omega
 dsimp only
 rw [Zdc h.1,h2,Zdc (by omega)]
 rfl
def Zly (b:Str) (i:Nat):Int:=Ya .u32 (((b.getD i 0).toNat:Nat):Int)
def dgW (b:Str) (i:Nat):Int:=intBits .or .u32 (intBits .or .u32 (intBits .or .u32 (shl .u32 (Zly b (4*i)) 24) (shl .u32 (Zly b (4*i+1)) 16)) (shl .u32 (Zly b (4*i+2)) 8)) (Zly b (4*i+3))
theorem atD {α:Type} {l:List α} {j:Int} {n:Nat} (d:α) (hj:j=(n:Int)) (h:n<l.length):at? l j=some (l.getD n d):=by
 rw [hj,Zh h,Yu,Yf h]
 rfl
def dgN (w:List Int) (i:Nat):Int:=Ya .u32 ((Ya .u32 ((Ya .u32 (w.getD (i-16) 0+(intBits .xor .u32 (intBits .xor .u32 (dgT (w.getD (i-15) 0) 7) (dgT (w.getD (i-15) 0) 18)) (shr .u32 (w.getD (i-15) 0) 3))))+w.getD (i-7) 0))+(intBits .xor .u32 (intBits .xor .u32 (dgT (w.getD (i-2) 0) 17) (dgT (w.getD (i-2) 0) 19)) (shr .u32 (w.getD (i-2) 0) 10)))
def dgS (b:Str):Nat→List Int
 | 0=>Yd 64 0
 | i+1=>(dgS b i).set i (if i<16 then dgW b i else dgN (dgS b i) i)
theorem Zwy (b:Str):∀i,(dgS b i).length=64
 | 0=>by simp [dgS]
 | i+1=>by rw [dgS,Y3a,Zwy b i]
theorem Zx1 {i d:Nat} (h:d≤i) (hi:i<64):Ya .i64 ((i:Int)-(d:Int))=((i-d:Nat):Int):=by rw [w64] <;> omega
theorem Zwqb {b:Str} (hb:b.length=64):∀k,16<k→Zt.l0 k b 0 (Yd 64 (0:Int))=some (dgS b 16):=by
 refine Zrc (fun j i=>Zt.l0 j b (i:Int) (dgS b i)) 16 _ (fun i hi j=>?_) fun j=>?_
 ·have hl:=Zwy b i
  conv=>lhs;unfold Zt.l0
  rw [Xa (by omega:(i:Int)<16),Zs (by omega),w64 (n:=4*(i:Int)) (by omega) (by omega)];dsimp only;rw [Xe,w64 (n:=4*(i:Int)+1) (by omega) (by omega),w64 (n:=4*(i:Int)+2) (by omega) (by omega),w64 (n:=4*(i:Int)+3) (by omega) (by omega)];rw [atD (j:=4*(i:Int)) (n:=4*i) 0 (by omega) (by omega),atD (j:=4*(i:Int)+1) (n:=4*i+1) 0 (by omega) (by omega),atD (j:=4*(i:Int)+2) (n:=4*i+2) 0 (by omega) (by omega),atD (j:=4*(i:Int)+3) (n:=4*i+3) 0 (by omega) (by omega),atD (j:=(i:Int)) (n:=i) 0 rfl (by omega)];rw [Zdc (by omega),Zdc (by omega),Zdc (by omega)];simp only [Ye,Y2];rw [dgS,Xc hi];rfl
 ·conv=>lhs;unfold Zt.l0
  rw [Xb (by omega:¬((16:Nat):Int)<16)];rfl
theorem Zxqb {b:Str} (hb:b.length=64):∀(d i j:Nat),i+d=64→16≤i→d<j→Zt.l1 j (i:Int) (dgS b i)=some (dgS b 64):=by
 intro d
 induction d with
 | zero=>
  intro i j h1 h2 h3;obtain rfl:i=64:=by omega
  obtain ⟨j,rfl⟩:∃q,j=q+1:=⟨j-1,by omega⟩
  conv=>lhs;unfold Zt.l1
  rw [Xb (by omega:¬((64:Nat):Int)<64)];rfl
 | succ d ih=>
  intro i j h1 h2 h3;obtain ⟨j,rfl⟩:∃q,j=q+1:=⟨j-1,by omega⟩;have hi:i<64:=by omega
  have hl:=Zwy b i;rw [← ih (i+1) j (by omega) (by omega) (by omega)]
  conv=>lhs;unfold Zt.l1
  rw [Xa (by omega:(i:Int)<64),Zs (by omega)];dsimp only;rw [Xe];rw [show Ya .i64 ((i:Int)-15)=((i-15:Nat):Int) from Zx1 (d:=15) (by omega) hi,show Ya .i64 ((i:Int)-2)=((i-2:Nat):Int) from Zx1 (d:=2) (by omega) hi,show Ya .i64 ((i:Int)-16)=((i-16:Nat):Int) from Zx1 (d:=16) (by omega) hi,show Ya .i64 ((i:Int)-7)=((i-7:Nat):Int) from Zx1 (d:=7) (by omega) hi];rw [atD (n:=i-15) 0 rfl (by omega),atD (n:=i-2) 0 rfl (by omega),atD (n:=i-16) 0 rfl (by omega),atD (n:=i-7) 0 rfl (by omega),atD (j:=(i:Int)) (n:=i) 0 rfl (by omega)];simp only [Ye];rw [Zqn _ (by omega),Zqn _ (by omega),Zdc (by omega),Zqn _ (by omega),Zqn _ (by omega),Zdc (by omega)];simp only [Ye,Y2];rw [dgS,Xd (by omega)];rfl
abbrev S8:=Int×Int×Int×Int×Int×Int×Int×Int
def dgR1 (key w:Int) (s:S8):Int:=Ya .u32 ((Ya .u32 ((Ya .u32 ((Ya .u32 (s.2.2.2.2.2.2.2+(intBits .xor .u32 (intBits .xor .u32 (dgT s.2.2.2.2.1 6) (dgT s.2.2.2.2.1 11)) (dgT s.2.2.2.2.1 25))))+(intBits .xor .u32 (intBits .and .u32 s.2.2.2.2.1 s.2.2.2.2.2.1) (intBits .and .u32 (intBits .xor .u32 (Yua .u32) s.2.2.2.2.1) s.2.2.2.2.2.2.1))))+key))+w)
def dgR2 (s:S8):Int:=Ya .u32 ((intBits .xor .u32 (intBits .xor .u32 (dgT s.1 2) (dgT s.1 13)) (dgT s.1 22))+(intBits .xor .u32 (intBits .xor .u32 (intBits .and .u32 s.1 s.2.1) (intBits .and .u32 s.1 s.2.2.1)) (intBits .and .u32 s.2.1 s.2.2.1)))
def dgR (key w:Int) (s:S8):S8:=(Ya .u32 (dgR1 key w s+dgR2 s),s.1,s.2.1,s.2.2.1,Ya .u32 (s.2.2.2.1+dgR1 key w s),s.2.2.2.2.1,s.2.2.2.2.2.1,s.2.2.2.2.2.2.1)
def dgI (w:List Int) (s:S8):Nat→S8
 | 0=>s
 | i+1=>dgR ((Yz Z1j []).getD i 0) (w.getD i 0) (dgI w s i)
theorem Zumb:(Yz Z1j []).length=64:=by decide
theorem Ztmb:Z1j=some (Yz Z1j []):=rfl
theorem Ztqb {w:List Int} (hw:w.length=64) (s:S8):∀k,64<k→Zt.l2 k s.1 s.2.1 s.2.2.1 s.2.2.2.1 s.2.2.2.2.1 s.2.2.2.2.2.1 s.2.2.2.2.2.2.1 s.2.2.2.2.2.2.2 0 w (Yz Z1j [])=some (dgI w s 64):=by
 have hk:=Zumb
 refine Zrc (fun j i=>Zt.l2 j (dgI w s i).1 (dgI w s i).2.1 (dgI w s i).2.2.1 (dgI w s i).2.2.2.1 (dgI w s i).2.2.2.2.1 (dgI w s i).2.2.2.2.2.1 (dgI w s i).2.2.2.2.2.2.1 (dgI w s i).2.2.2.2.2.2.2 (i:Int) w (Yz Z1j [])) 64 _ (fun i hi j=>?_) fun j=>?_
 ·conv=>lhs;unfold Zt.l2
  rw [Xa (by omega:(i:Int)<64),Zs (by omega),Xe];rw [Zqn _ (by omega),Zqn _ (by omega),Zqn _ (by omega),Zqn _ (by omega),Zqn _ (by omega),Zqn _ (by omega)];simp only [Ye];rw [atD (l:=(Yz Z1j [])) (j:=(i:Int)) (n:=i) 0 rfl (by omega),atD (l:=w) (j:=(i:Int)) (n:=i) 0 rfl (by omega)];simp only [Ye];rfl
 ·conv=>lhs;unfold Zt.l2
  rw [Xb (by omega:¬((64:Nat):Int)<64)];rfl
def lst (s:S8):List Int:=[s.1,s.2.1,s.2.2.1,s.2.2.2.1,s.2.2.2.2.1,s.2.2.2.2.2.1,s.2.2.2.2.2.2.1,s.2.2.2.2.2.2.2]
def dgP (x r:S8):S8:=(Ya .u32 (x.1+r.1),Ya .u32 (x.2.1+r.2.1),Ya .u32 (x.2.2.1+r.2.2.1),Ya .u32 (x.2.2.2.1+r.2.2.2.1),Ya .u32 (x.2.2.2.2.1+r.2.2.2.2.1),Ya .u32 (x.2.2.2.2.2.1+r.2.2.2.2.2.1),Ya .u32 (x.2.2.2.2.2.2.1+r.2.2.2.2.2.2.1),Ya .u32 (x.2.2.2.2.2.2.2+r.2.2.2.2.2.2.2))
def W32 (n:Int):Prop:=0≤n∧n<4294967296
def U32 (s:S8):Prop:=W32 s.1∧W32 s.2.1∧W32 s.2.2.1∧W32 s.2.2.2.1∧W32 s.2.2.2.2.1∧W32 s.2.2.2.2.2.1∧W32 s.2.2.2.2.2.2.1∧W32 s.2.2.2.2.2.2.2
theorem Zap (n:Int):W32 (Ya .u32 n):=by
 unfold W32
 rw [Z0s]
 omega
theorem Z9o {n:Int} (h:W32 n):Ya .u32 n=n:=by
 unfold W32 at h
 rw [Z0s]
 omega
theorem w32l {n:Int} (h:W32 n):Ya .i64 n=n:=by
 unfold W32 at h
 exact w64 (by omega) (by omega)
theorem Zfjb (x r:S8):U32 (dgP x r):=⟨Zap _,Zap _,Zap _,Zap _,Zap _,Zap _,Zap _,Zap _⟩
theorem lt8 {i:Nat} (h:i<8):i=0∨i=1∨i=2∨i=3∨i=4∨i=5∨i=6∨i=7:=by omega
def dgQ (x r:Int):Int:=Ya .i64 (Ya .u32 (Ya .u32 x+r))
def dgL (x r:S8):List Int:=[dgQ x.1 r.1,dgQ x.2.1 r.2.1,dgQ x.2.2.1 r.2.2.1,dgQ x.2.2.2.1 r.2.2.2.1,dgQ x.2.2.2.2.1 r.2.2.2.2.1,dgQ x.2.2.2.2.2.1 r.2.2.2.2.2.1,dgQ x.2.2.2.2.2.2.1 r.2.2.2.2.2.2.1,dgQ x.2.2.2.2.2.2.2 r.2.2.2.2.2.2.2]
theorem Z4qb (x r:S8):∀k,8<k→Zt.l3 k (lst x) 0 (lst r) []=some (dgL x r):=by
 refine Zrc (fun j i=>Zt.l3 j (lst x) (i:Int) (lst r) ((dgL x r).take i)) 8 _ (fun i hi j=>?_) fun j=>?_
 ·rcases lt8 hi with rfl | rfl | rfl | rfl | rfl | rfl | rfl | rfl <;> kernel_rfl
 ·kernel_rfl
theorem Zop {x:Int} (r:Int) (h:W32 x):dgQ x r=Ya .u32 (x+r):=by
 unfold dgQ
 rw [Z9o h,w32l (Zap _)]
def dgB (x:S8) (b:Str):S8:=dgP x (dgI (dgS b 64) x 64)
theorem Zenb (x:S8):at? (lst x) 0=some x.1∧at? (lst x) 1=some x.2.1∧at? (lst x) 2=some x.2.2.1∧at? (lst x) 3=some x.2.2.2.1∧at? (lst x) 4=some x.2.2.2.2.1∧at? (lst x) 5=some x.2.2.2.2.2.1∧at? (lst x) 6=some x.2.2.2.2.2.2.1∧at? (lst x) 7=some x.2.2.2.2.2.2.2:=⟨rfl,rfl,rfl,rfl,rfl,rfl,rfl,rfl⟩
theorem Zzpb {x:S8} (hx:U32 x) {b:Str} (hb:b.length=64) {k:Nat} (hk:66≤k):Zt k (lst x) b=some (lst (dgB x b)):=by
 obtain ⟨h0,h1,h2,h3,h4,h5,h6,h7⟩:=hx
 obtain ⟨a0,a1,a2,a3,a4,a5,a6,a7⟩:=Zenb x
 have hm:Z9g 4 64 64 (0:Int)=some (Yd 64 0):=rfl
 have hs:Zt.l1 k 16 (dgS b 16)=some (dgS b 64):=Zxqb hb 48 16 _ rfl (Yc _) (by omega)
 unfold Zt
 refine Za hm (Za (Zwqb hb _ (by omega)) (Za hs ?_))
 refine Za a0 (Za a1 (Za a2 (Za a3 (Za a4 (Za a5 (Za a6 (Za a7 (Za Ztmb ?_))))))))
 rw [Z9o h0,Z9o h1,Z9o h2,Z9o h3,Z9o h4,Z9o h5,Z9o h6,Z9o h7]
 refine Za (Ztqb (Zwy b 64) x _ (by omega)) ?_
 refine Za (Z4qb x (dgI (dgS b 64) x 64) _ (by omega)) ?_
 unfold dgL
 rw [Zop _ h0,Zop _ h1,Zop _ h2,Zop _ h3,Zop _ h4,Zop _ h5,Zop _ h6,Zop _ h7,dgB,dgP,lst]
def dgF:Nat→Str→S8→S8
 | 0,_,x=>x
 | n+1,s,x=>dgF n (s.drop 64) (dgB x (s.take 64))
theorem Zdab (x:S8) (b:Str):U32 (dgB x b):=Zfjb _ _
theorem Zeab:∀(n:Nat) (s:Str) {x:S8},U32 x→U32 (dgF n s x)
 | 0,_,_,h=>h
 | n+1,s,x,_=>Zeab n _ (Zdab _ _)
theorem Z1pb {k:Nat} (hk:66≤k) (all:Str) (hal:all.length≤1000000):∀(d q:Nat) (x:S8) (j:Nat),all.length=64*(q+d)→d<j→U32 x→Zu.l2 k j (Zgb all) ((64*q:Nat):Int) (lst x)=some (lst (dgF d (all.drop (64*q)) x)):=by
 have hbl:(Zgb all).length=all.length:=Zx2 all
 intro d
 induction d with
 | zero=>
  intro q x j h1 hj hx;obtain ⟨j,rfl⟩:∃q,j=q+1:=⟨j-1,by omega⟩;unfold Zu.l2;rw [Xb (by omega:¬((64*q:Nat):Int)<((Zgb all).length:Int))];rfl
 | succ d ih=>
  intro q x j h1 hj hx;obtain ⟨j,rfl⟩:∃q,j=q+1:=⟨j-1,by omega⟩;have hw:Ya .i64 (((64*q:Nat):Int)+64)=((64*(q+1):Nat):Int):=by rw [w64] <;> omega
  have hc:Z2b (Zgb all) ((64*q:Nat):Int) ((64*(q+1):Nat):Int)=some (Zgb ((all.drop (64*q)).take 64)):=by
   rw [Zhi (by omega) (by omega)];unfold Zgb;rw [← Y7a,← List.map_drop,List.drop_take];congr 3;omega
  unfold Zu.l2;rw [Xa (by omega:((64*q:Nat):Int)<((Zgb all).length:Int)),hw];simp only [Xe];refine Za hc ?_;rw [Z3mb];refine Za (Zzpb hx (by simp;omega) hk) ?_;rw [ih (q+1) _ j (by omega) (by omega) (Zdab _ _),dgF,List.drop_drop];rfl
def Z8i (n:Nat):Nat:=(119-n%64)%64
def shN (n:Int):Nat→Int
 | 0=>n
 | q+1=>shr .u64 (shN n q) 8
def bb (c:Nat) (n:Int) (i:Nat):List Int:=Yd (c-i) 0++((Yi i).reverse.map fun q=>Ya .u8 (shN n q))
theorem Zvfb (N:Nat):∀q,shN (N:Int) q=((N/2^(8*q):Nat):Int)
 | 0=>by simp [shN]
 | q+1=>by
  rw [shN,Zvfb N q,show (8:Int)=((8:Nat):Int) from rfl,Zxi .u64 _ 8 (by decide),Nat.div_div_eq_div_mul,← Nat.pow_add,Nat.mul_add]
theorem Z6hb (c:Nat) (N:Nat):bb c (N:Int) c=(Yi c).map fun i=>((N/2^(8*(c-1-i))%256:Nat):Int):=by
 unfold bb
 rw [Ykb,Yeb,Ycb]
 apply Yia
 ·simp
 ·intro i h1 h2
  simp only [Yk,List.length_reverse,Y2a] at h1;simp only [Yj,List.getElem_reverse,Yza,Y2a];rw [Zvfb,u8w];omega
def be8 (N:Nat):List Int:=(Yi 8).map fun i=>((N/2^(8*(8-1-i))%256:Nat):Int)
theorem Zjqb (N:Nat) (b:List Int) (hb:b.length≤1000000):∀k,8<k→Zu.l1 k (N:Int) 56 b=some (b++be8 N):=by
 have hl:(be8 N).length=8:=by simp [be8]
 have h:=Zrc (fun j i=>Zu.l1 j (N:Int) (56-8*(i:Int)) (b++(be8 N).take i)) 8 (b++be8 N) (fun i hi j=>?_) fun j=>?_
 ·intro k hk
  have:=h k hk;simpa using this
 ·have hn:(56:Int)-8*(i:Int)=((56-8*i:Nat):Int):=by omega
  conv=>lhs;unfold Zu.l1
  rw [Xa (by omega:(0:Int)≤56-8*(i:Int)),show Ya .i64 ((56:Int)-8*(i:Int)-8)=56-8*((i+1:Nat):Int) by rw [w64] <;> omega,Z67 (by omega) (by omega)];simp only [Xe]
  have he:Ya .u8 (shr .u64 (N:Int) (56-8*(i:Int)))=(be8 N)[i]'(by omega):=by
   rw [hn,Zxi .u64 _ _ (by show 56-8*i≤64;omega),u8w];simp only [be8,Yj,Yza];rw [show 8*(8-1-i)=56-8*i by omega];omega
  refine Za (Zdc (by omega)) (Za (Z6 (by simp;omega)) ?_);rw [he,Zjj (by omega),Yr]
 ·conv=>lhs;unfold Zu.l1
  rw [Xb (by omega:¬(0:Int)≤56-8*((8:Nat):Int)),Yna (by omega)];rfl
theorem Zdib {a b:Int} (h:a≠b):(a != b)=true:=by simp [h]
theorem Zcrb (b:List Int) (n:Nat) (hb:b.length=n+1) (hn:n≤1000000):∀k,64<k→Zu.l0 k b=some (b++Yd (Z8i n) 0):=by
 have hz:Z8i n<64:=Nat.mod_lt _ (by omega)
 have h:=Zrc (fun j i=>Zu.l0 j (b++Yd i 0)) (Z8i n) (b++Yd (Z8i n) 0) (fun i hi j=>?_) fun j=>?_
 ·intro k hk
  have:=h k (by omega);rw [Yeb,Y3] at this;exact this
 ·have hm:Int.tmod (((b++Yd i (0:Int)).length:Nat):Int) 64=(((n+1+i)%64:Nat):Int):=by
   rw [Yta (by omega),Yh,Yla,hb];omega
  conv=>lhs;unfold Zu.l0
  refine Za (Znk (by decide)) ?_;rw [hm,Zdib (by unfold Z8i at hi;omega)];simp only [Xe];refine Za (Z6 (by simp;omega)) ?_;rw [Yr,← List.replicate_succ']
 ·have hm:Int.tmod (((b++Yd (Z8i n) (0:Int)).length:Nat):Int) 64=56:=by
   rw [Yta (by omega),Yh,Yla,hb];unfold Z8i;omega
  conv=>lhs;unfold Zu.l0
  refine Za (Znk (by decide)) ?_;rw [hm];rfl
def Zgu (t:Str):Str:=t++([128]:Str)++Yd (Z8i t.length) 0++Ztb (be8 (8*t.length))
theorem Zqob (t:Str):(Zgu t).length=64*((t.length+9+Z8i t.length)/64):=by
 unfold Zgu
 have:(Ztb (be8 (8*t.length))).length=8:=by rw [Zdl];simp [be8]
 simp only [Yh,Yla,this,Y4a]
 unfold Z8i
 omega
def Zxv:S8:=(1779033703,3144134277,1013904242,2773480762,1359893119,2600822924,528734635,1541459225)
def Zqo (x:Int):List Int:=bb 4 x 4
def Zvo (t:Str):Str:=Ztb ((lst (dgF ((t.length+9+Z8i t.length)/64) (Zgu t) Zxv)).flatMap Zqo)
theorem sOut (x:S8) (hx:U32 x):∀k,8<k→Zu.l3 k 0 (lst x) []=some ((lst x).flatMap Zqo):=by
 have hl:(lst x).length=8:=rfl
 have hU:∀v∈lst x,W32 v:=by
  obtain ⟨h0,h1,h2,h3,h4,h5,h6,h7⟩:=hx;intro v hv;simp only [lst,Yo,Yma,or_false] at hv;rcases hv with rfl | rfl | rfl | rfl | rfl | rfl | rfl | rfl <;> assumption
 have ho:∀v,(Zqo v).length=4:=fun v=>by simp [Zqo,bb]
 have hfl:∀i,i≤8→(((lst x).take i).flatMap Zqo).length=4*i:=by
  intro i hi
  have:∀l:List Int,(l.flatMap Zqo).length=4*l.length:=fun l=>by
   induction l with
   | nil=>rfl
   | cons a l ih=>rw [List.flatMap_cons,Yh,ih,ho,Yw];omega
  rw [this,Yl,hl];omega
 refine Zrc (fun j i=>Zu.l3 j (i:Int) (lst x) (((lst x).take i).flatMap Zqo)) 8 _ (fun i hi j=>?_) fun j=>?_
 ·conv=>lhs;unfold Zu.l3
  rw [Xa (by omega:(i:Int)<8),Zs (by omega)];simp only [Xe];have hat:at? (lst x) (i:Int)=some ((lst x)[i]'(by omega)):=Zh (by omega);have hw:=hU _ (Yn (show i<(lst x).length by omega));refine Za hat (Za hat (Za (Zdc (by omega)) (Za (Zdc (by omega)) (Za (Zdc (by omega)) (Za (Z6 (by rw [hfl i (by omega)];simp;omega)) ?_)))));rw [Zjj (by omega),List.flatMap_append]
  have he:[Ya .u8 (shr .i64 ((lst x)[i]'(by omega)) 24),Ya .u8 (shr .i64 ((lst x)[i]'(by omega)) 16),Ya .u8 (shr .i64 ((lst x)[i]'(by omega)) 8),Ya .u8 ((lst x)[i]'(by omega))]=Zqo ((lst x)[i]'(by omega)):=by
   generalize (lst x)[i]'(by omega)=v at hw;unfold W32 at hw;obtain ⟨N,rfl⟩:∃N:Nat,v=(N:Int):=⟨v.toNat,by omega⟩;unfold Zqo;rw [Z6hb,show (24:Int)=((24:Nat):Int) from rfl,show (16:Int)=((16:Nat):Int) from rfl,show (8:Int)=((8:Nat):Int) from rfl,Zxi .i64 _ 24 (by decide),Zxi .i64 _ 16 (by decide),Zxi .i64 _ 8 (by decide),u8w,u8w,u8w,u8w];simp [Yi,Yi.loop]
  rw [he];simp
 ·conv=>lhs;unfold Zu.l3
  rw [Xb (by omega:¬((8:Nat):Int)<8)];rfl
theorem Zgab:U32 Zxv:=by unfold U32 W32 Zxv;decide
theorem Zlib (n:Nat):Zgb (Yd n 0)=Yd n 0:=by simp [Zgb]
theorem Zkib (N:Nat):Zgb (Ztb (be8 N))=be8 N:=by
 unfold Zgb Ztb
 rw [Y6a]
 have:∀z∈be8 N,0≤z∧z<256:=by
  intro z hz;obtain ⟨i,_,rfl⟩:=Yx.1 hz;omega
 have h2:∀l:List Int,(∀z∈l,0≤z∧z<256)→l.map ((fun b:UInt8=>((b.toNat:Nat):Int)) ∘ fun n:Int=>UInt8.ofNat n.toNat)=l:=by
  intro l
  induction l with
  | nil=>intro _;rfl
  | cons a l ih=>
   intro h;have ha:=h a Ys;rw [List.map_cons,ih fun z hz=>h z (Y6 _ hz)];congr 1;show (((UInt8.ofNat a.toNat).toNat:Nat):Int)=a;rw [UInt8.toNat_ofNat'];omega
 exact h2 _ this
theorem sSha (t:Str) (ht:t.length≤100000) {k:Nat} (hk:200000≤k):Zu k t=some (Zvo t):=by
 have hz:Z8i t.length<64:=Nat.mod_lt _ (by omega)
 have hbl:=Zx2 t
 have h0:Zw 1 (Zgb t) [128]=some (Zgb t++[128]):=Z6 (by simp;omega)
 have h1:=Zcrb (Zgb t++[128]) t.length (by simp [hbl]) (by omega) k (by omega)
 have hw:Ya .u64 (Ya .i64 (8*((t.length):Int)))=((8*t.length:Nat):Int):=by rw [w64 (by omega) (by omega),Z67 (by omega) (by omega)];omega
 have h2:=Zjqb (8*t.length) (Zgb t++[128]++Yd (Z8i t.length) 0) (by simp [hbl];omega) k (by omega)
 have hall:Zgb t++[128]++Yd (Z8i t.length) 0++be8 (8*t.length)=Zgb (Zgu t):=by
  unfold Zgu;rw [Zw2,Zw2,Zw2,Zlib,Zkib];rfl
 have hp:=Zqob t
 have h3:=Z1pb (k:=k) (by omega) (Zgu t) (by omega) ((t.length+9+Z8i t.length)/64) 0 Zxv k (by omega) (by omega) Zgab
 unfold Zu
 rw [hw]
 refine Za (Zk6 (by omega)) (Za h0 (Za h1 (Za h2 ?_)))
 rw [hall]
 refine Za (a:=lst Zxv) rfl (Za h3 ?_)
 refine Za (sOut _ (Zeab _ _ Zgab) k (by omega)) ?_
 rw [Zvo,Nat.mul_zero,Y4]
end Go.Proofs.Qz
namespace Go.Proofs.Qz
open Go
set_option linter.unusedVariables false
theorem Z8pb {l:List Str} (h:Zyd l=true):Zc fun k=>Zsk k l=some (Zvo l.flatten):=by
 obtain ⟨h1,h2,h3⟩:=Zik h
 have hf:=Zabb l 8 fun s hs=>Ygb (h3 s hs)
 have run:=Zr9 (fun k j acc i=>Zcd.l0 j l acc i) l id 8 100000 (fun s hs=>Ygb (h3 s hs)) (fun i hi=>Zc.of fun k acc j ha=>by
  show Zcd.l0 (j+1) l acc (i:Int)=_;have:=h3 _ (Yn hi)
  conv=>lhs;unfold Zcd.l0
  rw [dlt hi,Zh hi,Zs (by omega)];simp only [Xe,Ye];rw [Zwd (by omega)];rfl) (fun k acc j=>by
  show Zcd.l0 (j+1) l acc (l.length:Int)=_;unfold Zcd.l0;rw [Z8 (Yc _)];rfl) [] (by simp;omega)
 refine (run.and (Zc.ge 200000 fun k hk=>hk)).mono fun k ⟨run,hk⟩=>?_
 have hj:Zcd k l=some l.flatten:=by
  have run:Zcd.l0 k l [] 0=some ([]++(l.map id).flatten):=run;rw [List.map_id,Ycb] at run;unfold Zcd;exact Za run rfl
 unfold Zsk Zej
 refine Za (Zdx l (by omega)) ?_
 rw [h]
 simp only [Yp,Xf]
 refine Za hj ?_
 rw [Xb (by omega:¬(8000<(l.flatten.length:Int)))]
 exact Za (Za (sSha _ (by omega) hk) rfl) rfl
def Zim (m:Zo) (st dn:Int) (w:Nat):Bool:=decide (Zab (Zf m st w) m.1=0)&&(decide (Z3b (Zj (Zf m st w))≤st)&&decide (dn≤((Zj (Zf m st w)).length:Int)))
def Zqd (m:Zo):Bool:=match stM m with
 | some (ph,tr,nd,st,dn,dg,v,w)=>Zyd (Zsb m)&&(decide (ph≤2)||Zim m st dn w)
 | none=>false
theorem Z9fb {s:Str} {a b c d e:Int} {x:Str} {v w:Nat} (h:Zpm s=some (a,b,c,d,e,x,v,w)):Zzg a b c d e x v w=true∧v<16777216∧w<16777216:=by
 unfold Zpm at h
 split at h
 ·split at h
  ·rename_i hc
   cases h;refine ⟨hc.2.2.2,?_,?_⟩
   ·have:=hc.2.1;omega
   ·have:=hc.2.2.1;omega
  ·cases h
 ·cases h
theorem Zj1 {m:Zo} {a b c d e:Int} {x:Str} {v w:Nat} (h:stM m=some (a,b,c,d,e,x,v,w)):Fit m d w∧(1≤a∧a≤5)∧Zzg a b c d e x v w=true:=by
 unfold stM at h
 split at h
 ·rename_i hc
  split at h
  ·have h:=(Z9fb h).1
   have h0:=h;unfold Zzg at h;rw [Yb,Yb,decide_eq_true_eq,decide_eq_true_eq,Yb] at h;refine ⟨⟨hc.1,hc.2.1,hc.2.2,?_⟩,h.1,h0⟩;have h2:=h.2.2;split at h2
   ·have h2:=of_decide_eq_true h2
    omega
   ·have h2:=of_decide_eq_true h2
    omega
  ·cases h
 ·cases h
theorem Zkz (m:Zo) (hl:m.2.1.length≤1048576) (hl2:m.2.2.length≤1048576):Zc fun k=>Zkk k m=some (Zqd m):=by
 unfold Zqd
 cases hs:stM m with
 | none=>
  refine (Zut m hl hl2).mono fun k e=>?_
  rw [hs] at e;unfold Zkk;exact Za e rfl
 | some z=>
  obtain ⟨ph,tr,nd,st,dn,dg,v,w⟩:=z;obtain ⟨hf,hph,hst⟩:=Zj1 hs;have hb:=hf.b;have hn:=hf.n;have hll:=Zvz m st w;dsimp only;have pre:Zc fun k=>Zag k m=some (Zeu (some (ph,tr,nd,st,dn,dg,v,w))):=by rw [← hs];exact Zut m hl hl2
  refine ((((pre.and (Zc4 ph tr nd st dn dg (Zb v) hf)).and (Zdmb (Zf m st w) m.1 (by omega))).and (Zc.ge 1048577 fun k hk=>hk)).and (if hc:Zab (Zf m st w) m.1=0 then (Z3bb (Zf m st w) (Zvg hc).1 (Z3m hc)).mono fun k e _=>e else Zc.of fun k q=>absurd q hc:Zc fun k=>Zab (Zf m st w) m.1=0→Z6b k (Zf m st w)=some (Zj (Zf m st w)))).mono fun k ⟨⟨⟨⟨e1,e2⟩,e3⟩,hk⟩,e4⟩=>?_
  unfold Zkk;refine Za e1 ?_;show (bif !true then _ else _)=_;rw [Yp,Xf];refine Za (Z93 (m:=m) ⟨by omega,hb.2⟩ (by omega) hl2 hk) (Za (Zzbb (Zsb m) (by omega)) ?_);cases Zyd (Zsb m) with
  | false=>rfl
  | true=>
   rw [Yp,Xf,Yg];show (bif (ph==1)||(ph==2) then _ else _)=_
   by_cases hp:ph≤2
   ·rw [show ((ph==1)||(ph==2))=true by
     rcases (by omega:ph=1∨ph=2) with q | q <;> rw [q] <;> rfl,Xa hp]
    rfl
   ·rw [show ((ph==1)||(ph==2))=false by
     have h1:(ph==1)=false:=by simp;omega
     have h2:(ph==2)=false:=by simp;omega
     rw [h1,h2];rfl,Xb hp,Xf,Yqa]
    refine Za e2 (Za e3 ?_);unfold Zim
    by_cases hc:Zab (Zf m st w) m.1=0
    ·have hpl:=Zuw _ (Zvg hc).1 (Z3m hc)
     rw [show (Zab (Zf m st w) m.1 != 0)=false by simpa using hc,Xf,Xa hc,Yg];refine Za (e4 hc) (Za (Z8lb _ (by omega) k (by omega)) ?_);show (bif decide (Z3b (Zj (Zf m st w))≤st) then _ else _)=_;cases decide (Z3b (Zj (Zf m st w))≤st) <;> rfl
    ·rw [show (Zab (Zf m st w) m.1 != 0)=true by simpa using hc,Xb hc]
     rfl
theorem Zzq (m:Zo) (hl:m.2.1.length≤1048576) (hl2:m.2.2.length≤1048576):Zc fun k=>Zyj k m=some (Zqd m):=by
 unfold Zqd
 cases hs:stM m with
 | none=>
  refine (Zps m hl hl2).mono fun k e=>?_
  rw [hs] at e;unfold Zyj;exact Za e rfl
 | some z=>
  obtain ⟨ph,tr,nd,st,dn,dg,v,w⟩:=z;obtain ⟨hf,hph,hst⟩:=Zj1 hs;have hb:=hf.b;have hn:=hf.n;have hll:=Zvz m st w;dsimp only;have pre:Zc fun k=>Zjf k m=some (Zeu (some (ph,tr,nd,st,dn,dg,v,w))):=by rw [← hs];exact Zps m hl hl2
  refine ((((pre.and (Zuo ph tr nd st dn dg (Zb v) hf)).and (Zqs (Zf m st w) m.1 (by omega))).and (Zc.ge 1048577 fun k hk=>hk))).mono fun k ⟨⟨⟨e1,e2⟩,e3⟩,hk⟩=>?_
  unfold Zyj;refine Za e1 ?_;show (bif true then _ else _)=_;rw [Xe];refine Za (Zy0 (m:=m) ⟨by omega,hb.2⟩ (by omega) hl2 hk) (Za (Zdx (Zsb m) (by omega)) ?_);cases Zyd (Zsb m) with
  | false=>rfl
  | true=>
   rw [Xe,Yg];refine Za (a:=decide (ph≤2)||Zim m st dn w) ?_ rfl;unfold Zvs;show (bif decide (ph≤2) then _ else _)=_
   by_cases hp:ph≤2
   ·rw [Xa hp]
    rfl
   ·rw [Xb hp,Xf,Yqa]
    refine Za e2 ?_;unfold Z3h Zim;rw [Xb (by omega:¬(400<((Zf m st w).length:Int))),Xf]
    by_cases hc:Zab (Zf m st w) m.1=0
    ·have hpl:=Zuw _ (Zvg hc).1 (Z3m hc)
     refine Za (a:=(Zj (Zf m st w),0)) ?_ ?_
     ·refine Za e3 ?_
      rw [show (Zab (Zf m st w) m.1 != 0)=false by simpa using hc,Xf];exact Za (Zjfb _ (Zvg hc).1 (Z3m hc) k (by omega)) rfl
     rw [Xa hc,Yg];show (bif ((0:Int)==0) then _ else _)=_;rw [show ((0:Int)==0)=true from rfl,Xe];refine Za (Z56 (Zj (Zf m st w)) (by omega) k (by omega)) ?_;show (bif decide (Z3b (Zj (Zf m st w))≤st) then _ else _)=_;cases decide (Z3b (Zj (Zf m st w))≤st) <;> rfl
    ·refine Za (a:=([],Zab (Zf m st w) m.1)) ?_ ?_
     ·refine Za e3 ?_
      rw [show (Zab (Zf m st w) m.1 != 0)=true by simpa using hc];rfl
     rw [Xb hc];show (bif (Zab (Zf m st w) m.1==0) then _ else _)=_;rw [show (Zab (Zf m st w) m.1==0)=false by simpa using hc];rfl
def Zom (b:Int) (m:Z0c):Bool:=(m.1==1)&&(m.2.2.1==b)
def doP (b:Int) (m:Z0c):Bool:=(m.1==2)&&(m.2.2.1==b)
def Z5j (mv:List Z0c) (dn:Nat) (b:Int):Int:=match Zmb (Zom b) (mv.take dn) 0 with
 | some i=>(mv.getD i (0,(0,(0,0)))).2.2.2
 | none=>-1
theorem Zcz {l:List Z0c} {i:Nat} (h:i<l.length):l.getD i (0,(0,(0,0)))=l[i]:=by
 rw [Yu,Yf h]
 rfl
theorem Z9lb {mv:List Z0c} {dn:Nat} (h:dn≤mv.length) (hl:mv.length≤40) (b:Int) {k:Nat} (hk:100≤k):Zie k mv (dn:Int) b=some (Z5j mv dn b):=by
 have hlen:(mv.take dn).length=dn:=by rw [Yl];omega
 have run:=Zii (fun j i=>Zie.l0 j b (mv.take dn) ((mv.take dn).length:Int) i) (mv.take dn) (Zom b) (.inl ()) (fun i=>.inr (mv.getD i (0,(0,(0,0)))).2.2.2) (fun i hi=>⟨fun hp j=>?_,fun hp j=>?_⟩) (fun j=>?_) (k:=k) (by omega)
 ·have run:Zie.l0 k b (mv.take dn) ((mv.take dn).length:Int) 0=_:=run
  have hc:Z2b mv 0 (dn:Int)=some (mv.take dn):=by
   have:=Zhi (l:=mv) (i:=0) (j:=dn) (by omega) h
   rwa [Y4] at this
  unfold Zie Z5j;refine Za hc (Za run ?_);cases Zmb (Zom b) (mv.take dn) 0 <;> rfl
 ·show Zie.l0 (j+1) b (mv.take dn) _ (i:Int)=Zie.l0 j b (mv.take dn) _ ((i+1:Nat):Int)
  conv=>lhs;unfold Zie.l0
  rw [dlt hi,Zs (by omega),Xe];refine Za (Zh hi) ?_;unfold Zom at hp;rw [hp];rfl
 ·show Zie.l0 (j+1) b (mv.take dn) _ (i:Int)=_
  conv=>lhs;unfold Zie.l0
  rw [dlt hi,Zs (by omega),Xe];refine Za (Zh hi) ?_;unfold Zom at hp;rw [hp,Xe,Zcz (by omega),Yv]
 ·show Zie.l0 (j+1) b (mv.take dn) _ _=_
  unfold Zie.l0;rw [Z8 (Yc _)];rfl
theorem Zzqb {mv:List Z0c} {dn:Nat} (h:dn≤mv.length) (hl:mv.length≤40) (b:Int) {k:Nat} (hk:100≤k):Zce k mv (dn:Int) b=some (Z5j mv dn b):=by
 have hlen:(mv.take dn).length=dn:=by rw [Yl];omega
 have run:=Zii (fun j i=>Zce.l0 j mv (dn:Int) b i) (mv.take dn) (Zom b) (.inl ()) (fun i=>.inr (mv.getD i (0,(0,(0,0)))).2.2.2) (fun i hi=>⟨fun hp j=>?_,fun hp j=>?_⟩) (fun j=>?_) (k:=k) (by omega)
 ·have run:Zce.l0 k mv (dn:Int) b 0=_:=run
  unfold Zce Z5j;refine Za run ?_;cases Zmb (Zom b) (mv.take dn) 0 <;> rfl
 ·show Zce.l0 (j+1) mv (dn:Int) b (i:Int)=Zce.l0 j mv (dn:Int) b ((i+1:Nat):Int)
  rw [Yv] at hp
  conv=>lhs;unfold Zce.l0
  rw [dlt (by omega:i<dn),Zs (by omega),Xe];refine Za (Zh (by omega)) ?_;dsimp only;unfold Zom at hp;cases h1:(mv[i]'(by omega)).1==1 with
  | false=>rfl
  | true=>
   rw [h1,Yg] at hp;rw [Xe];refine Za (Zh (by omega)) ?_;rw [hp];rfl
 ·show Zce.l0 (j+1) mv (dn:Int) b (i:Int)=_
  rw [Yv] at hp;unfold Zom at hp;rw [Yb] at hp
  conv=>lhs;unfold Zce.l0
  rw [dlt (by omega:i<dn),Zs (by omega),Xe];refine Za (Zh (by omega)) ?_;dsimp only;rw [hp.1,Xe];refine Za (Zh (by omega)) ?_;rw [hp.2,Xe];refine Za (Zh (by omega)) ?_;rw [Zcz (by omega)]
 ·show Zce.l0 (j+1) mv (dn:Int) b ((mv.take dn).length:Int)=_
  rw [hlen];unfold Zce.l0;rw [Z8 (Yc _)];rfl
theorem Z5fb {l:List Zi} {n:Int} (h:Zab l n=0) (dn:Nat) (b:Int):Z5j (Zj l) dn b = -1∨(0≤Z5j (Zj l) dn b∧Z5j (Zj l) dn b<Z3b (Zj l)):=by
 unfold Z5j
 cases hf:Zmb (Zom b) ((Zj l).take dn) 0 with
 | none=>exact .inl rfl
 | some i=>
  right;obtain ⟨_,hi,hp,_⟩:=Zdk hf;simp only [Ylb] at hi hp;rw [Yl] at hi;rw [Yv] at hp;dsimp only;rw [Zcz (by omega)];have hm:(Zj l)[i]? = some (Zj l)[i]:=Yf (by omega);unfold Zom at hp;rw [Yb] at hp;have h1:(Zj l)[i].1=1:=by simpa using hp.1
  obtain ⟨j,_,q | q⟩:=(Zd0 h).form i _ hm
  ·rw [q] at h1
   cases h1
  ·have hs:(Zj l)[i].2.2.2=Z3b ((Zj l).take i):=by rw [q]
   rw [hs];exact ⟨(Zi1 _).1,Z0fb hm h1⟩
def Zvp (m:Zo) (w:Nat) (mv:List Z0c) (dn:Nat) (x:Zi):Str:=if x.1=3∨x.1=4 then (if 0≤Z5j mv dn x.2.2.1 then Zm m.2 (3+m.1+(Zb w).getD (Z5j mv dn x.2.2.1).toNat 0) else Zm m.2 (3+x.2.2.1)) else []
def Zph (m:Zo) (w:Nat) (mv:List Z0c) (dn:Nat) (x:Zi):Str:=Zah x (Zvp m w mv dn x)
structure Sound (m:Zo) (st dn:Int) (w:Nat):Prop where
 fit:Fit m st w
 code:Zab (Zf m st w) m.1=0
 slots:Z3b (Zj (Zf m st w))≤st
 dn:0≤dn∧dn≤((Zj (Zf m st w)).length:Int)
theorem Sound.plan {m:Zo} {st dn:Int} {w:Nat} (h:Sound m st dn w):(Zj (Zf m st w)).length≤28:=Zuw _ (Zvg h.code).1 (Z3m h.code)
theorem Z7s {w:Nat} {n:Int} (h0:0≤n) (h1:n<((Zb w).length:Int)):at? (Zb w) n=some ((Zb w).getD n.toNat 0)∧0≤(Zb w).getD n.toNat 0∧(Zb w).getD n.toNat 0≤23:=by
 obtain ⟨i,rfl⟩:∃i:Nat,n=(i:Int):=⟨n.toNat,by omega⟩
 have hi:i<(Zb w).length:=by omega
 have hg:(Zb w).getD i 0=(Zb w)[i]:=by
  rw [Yu,Yf hi];rfl
 rw [Y2,hg]
 exact ⟨Zh hi,Z3k hi⟩
theorem Zwbb {m:Zo} {st:Int} {w:Nat} (h:Fit m st w) {n:Int} (h0:0≤n) (h1:n≤23) {k:Nat} (hk:1048577≤k):Zpj k (m.1,(m.2.1,m.2.2)) n=some (Zm m.2 (3+m.1+n)):=by
 have hb:=h.b
 have hn:=h.n
 unfold Zpj Zzp
 rw [w64 (n:=3+m.1) (by omega) (by omega),w64 (by omega) (by omega)]
 exact Za rfl (Za (Ztt m.2 _ h.dirt (by omega) (by omega) (by have:=h.dirt;omega)) rfl)
theorem Ztu {m:Zo} {st:Int} {w:Nat} (h:Fit m st w) {n:Int} (h0:0≤n) (h1:n≤23):Zdh m n=some (3+m.1+n):=by
 have hb:=h.b
 unfold Zdh
 rw [w64 (n:=3+m.1) (by omega) (by omega),w64 (by omega) (by omega)]
theorem Zulb {m:Zo} {st dn:Int} {w:Nat} (h:Sound m st dn w) (ph tr nd:Int) (dg:Str) (v:List Int) {x:Zi} (hx:WriteOk x m.1) {k:Nat} (hk:1048577≤k):
  Z3g k m (ph,(tr,(nd,(st,(dn,(dg,(v,Zb w))))))) (Zj (Zf m st w)) x=some (Zph m w (Zj (Zf m st w)) dn.toNat x):=by
 have hb:=h.fit.b
 have hn:=h.fit.n
 have hd:=h.fit.dirt
 have hdn:=h.dn
 have hpl:=h.plan
 have hsl:=h.slots
 have hs:=h.fit.s
 have hsrc:=hx.src
 have hrd:Zyh k (m.2.1,m.2.2) (3+x.2.2.1)=some (Zm m.2 (3+x.2.2.1)):=Ztt m.2 _ hd (by omega) (by omega) (by omega)
 have hso:=Z9lb (mv:=Zj (Zf m st w)) (dn:=dn.toNat) (by omega) (by omega) x.2.2.1 (k:=k) (by omega)
 rw [Yha hdn.1] at hso
 have hj:Z3g.j0 k (Zj (Zf m st w)) m.1 m.2.1 m.2.2 ph tr nd st dn dg v (Zb w) [] x.1 x.2.1 x.2.2.1 x.2.2.2=some (Zvp m w (Zj (Zf m st w)) dn.toNat x,x):=by
  unfold Z3g.j0 Zvp
  by_cases c:x.1=3∨x.1=4
  ·rw [Xc c,show ((x.1==3)||(x.1==4))=true by rcases c with q | q <;> rw [q] <;> rfl,Xe,w64 (n:=3+x.2.2.1) (by omega) (by omega)]
   refine Za hrd (Za hso ?_);rcases Z5fb h.code dn.toNat x.2.2.1 with q | ⟨q1,q2⟩
   ·rw [q]
    rfl
   ·obtain ⟨e1,e2,e3⟩:=Z7s (w:=w) (n:=Z5j (Zj (Zf m st w)) dn.toNat x.2.2.1) q1 (by omega)
    rw [Xa q1,Xe,Xc q1];exact Za e1 (Za (Zwbb h.fit e2 e3 hk) rfl)
  ·rw [Xd c,show ((x.1==3)||(x.1==4))=false by
    rw [Yra];exact ⟨by simp;omega,by simp;omega⟩]
   rfl
 unfold Z3g Zph
 refine Za hj ?_
 dsimp only
 by_cases c4:x.1=4
 ·by_cases c8:(Zvp m w (Zj (Zf m st w)) dn.toNat x).length=8
  ·rw [show ((x.1==4)&&(((Zvp m w (Zj (Zf m st w)) dn.toNat x).length:Int) != 8))=false by rw [c8];simp,Xf]
   have hdata:x.2.2.2.length=8:=by rcases hx.kind with q | q | q | q;omega;omega;omega;exact q.2
   exact Za (Zd4 (.inr (.inr (.inr ⟨c8,hdata⟩))) (by omega)) rfl
  ·rw [show ((x.1==4)&&(((Zvp m w (Zj (Zf m st w)) dn.toNat x).length:Int) != 8))=true by
    rw [Yb];exact ⟨by simpa using c4,by simp;omega⟩]
   unfold Zah Z3s;rw [Xd (by omega),Xd (by omega),Xd (by omega),Xd (fun q=>c8 q.1)];rfl
 ·rw [show (x.1==4)=false by simpa using c4,Yea,Xf]
  exact Za (Zd4 (by rcases hx.kind with q | q | q | q;exact .inl q;exact .inr (.inl q);exact .inr (.inr (.inl q));exact absurd q.1 c4) (by omega)) rfl
theorem Zffb {m:Zo} {st dn:Int} {w:Nat} (h:Sound m st dn w) (ph tr nd:Int) (dg:Str) (v:List Int) {x:Zi} (hx:WriteOk x m.1) {k:Nat} (hk:1048577≤k):
  Z1n k m (ph,(tr,(nd,(st,(dn,(dg,(v,Zb w))))))) (Zj (Zf m st w)) x=some (Zph m w (Zj (Zf m st w)) dn.toNat x):=by
 have hb:=h.fit.b
 have hn:=h.fit.n
 have hd:=h.fit.dirt
 have hdn:=h.dn
 have hpl:=h.plan
 have hsl:=h.slots
 have hs:=h.fit.s
 have hsrc:=hx.src
 have hrd:Zub k m.2 (3+x.2.2.1)=some (Zm m.2 (3+x.2.2.1)):=Zon m.2 _ hd (by omega) (by omega) (by omega)
 have hso:=Zzqb (mv:=Zj (Zf m st w)) (dn:=dn.toNat) (by omega) (by omega) x.2.2.1 (k:=k) (by omega)
 rw [Yha hdn.1] at hso
 unfold Z1n Zph Zvp
 by_cases c:x.1=3∨x.1=4
 ·rw [Xc c,show ((x.1==3)||(x.1==4))=true by rcases c with q | q <;> rw [q] <;> rfl,Xe,w64 (n:=3+x.2.2.1) (by omega) (by omega)]
  refine Za hrd (Za hso ?_);rcases Z5fb h.code dn.toNat x.2.2.1 with q | ⟨q1,q2⟩
  ·rw [q]
   exact Za (Z50 _ _ (by omega)) rfl
  ·obtain ⟨e1,e2,e3⟩:=Z7s (w:=w) (n:=Z5j (Zj (Zf m st w)) dn.toNat x.2.2.1) q1 (by omega)
   rw [Xa q1,Xe,Xc q1]
   have hst:Znm k m (ph,(tr,(nd,(st,(dn,(dg,(v,Zb w))))))) (Z5j (Zj (Zf m st w)) dn.toNat x.2.2.1)=some (Zm m.2 (3+m.1+(Zb w).getD (Z5j (Zj (Zf m st w)) dn.toNat x.2.2.1).toNat 0)):=by
    unfold Znm;exact Za e1 (Za (Ztu h.fit e2 e3) (Za (Zon m.2 _ hd (by omega) (by omega) (by omega)) rfl))
   exact Za hst (Za (Z50 _ _ (by omega)) rfl)
 ·rw [Xd c,show ((x.1==3)||(x.1==4))=false by
   rw [Yra];exact ⟨by simp;omega,by simp;omega⟩]
  exact Za (Z50 _ _ (by omega)) rfl
def Zbk (mv:List Z0c) (dn:Nat) (b:Int):Bool:=(mv.take dn).any (doP b)
def Z2s (m:Zo) (st dn:Int) (w:Nat):List Str:=Zpd (Zsb m) (Zg (Zf m st w)) (Zbk (Zj (Zf m st w)) dn.toNat) (Zph m w (Zj (Zf m st w)) dn.toNat)
theorem Zlv (m:Zo):(Zsb m).length=m.1.toNat:=by simp [Zsb]
theorem Znlb (l:List Z0c) (hl:l.length≤40) (b:Int) {k:Nat} (hk:100≤k):Z1q k l b=some (l.any (doP b),b):=by
 have run:=Zii (fun j i=>Zse.l0 j l (l.length:Int) i b) l (doP b) (.inl b) (fun i=>.inr ((i:Int),b)) (fun i hi=>⟨fun hp j=>?_,fun hp j=>?_⟩) (fun j=>?_) (k:=k) (by omega)
 ·have run:Zse.l0 k l (l.length:Int) 0 b=_:=run
  have hany:=Zpt (p:=doP b) (l:=l) (n:=0);unfold Z1q Zse;rw [run];cases hf:Zmb (doP b) l 0 with
  | none=>
   rw [hf] at hany;rw [← hany];rfl
  | some i=>
   rw [hf] at hany;rw [← hany];simp only [Ye];rw [Xa (by omega:(0:Int)≤(i:Int))];rfl
 ·show Zse.l0 (j+1) l _ (i:Int) b=Zse.l0 j l _ ((i+1:Nat):Int) b
  conv=>lhs;unfold Zse.l0
  rw [dlt hi,Zs (by omega),Xe];refine Za (Zh hi) ?_;unfold Z1p;unfold doP at hp;rw [hp];rfl
 ·show Zse.l0 (j+1) l _ (i:Int) b=_
  conv=>lhs;unfold Zse.l0
  rw [dlt hi,Zs (by omega),Xe];refine Za (Zh hi) ?_;unfold Z1p;unfold doP at hp;rw [hp];rfl
 ·show Zse.l0 (j+1) l _ _ b=_
  unfold Zse.l0;rw [Z8 (Yc _)];rfl
theorem Zhmb {m:Zo} {st dn:Int} {w:Nat} (h:Sound m st dn w) (ph tr nd:Int) (dg:Str) (v:List Int) {k:Nat} (hk:1048577≤k):
  Zbf.l0 k k m.1 m.2.1 m.2.2 ((Zg (Zf m st w)).length:Int) 0 ph tr nd st dn dg (Zsb m) (Zg (Zf m st w)) v (Zb w) (Zj (Zf m st w))=some (ph,(tr,(nd,(st,(dn,(dg,(Z2s m st dn w,(v,(Zb w,Zj (Zf m st w)))))))))):=by
 have hb:=h.fit.b
 have hdn:=h.dn
 have hpl:=h.plan
 have hbl:=Zlv m
 have hll:=Zvz m st w
 have hwl:(Zg (Zf m st w)).length≤(Zf m st w).length:=Y1a _ _
 have hnd:((Zg (Zf m st w)).map fun x=>x.2.1).Nodup:=(Zvg h.code).2.2.2.2.1
 have run:=Zrc (fun j i=>Zbf.l0 k j m.1 m.2.1 m.2.2 ((Zg (Zf m st w)).length:Int) (i:Int) ph tr nd st dn dg (Zpd (Zsb m) ((Zg (Zf m st w)).take i) (Zbk (Zj (Zf m st w)) dn.toNat) (Zph m w (Zj (Zf m st w)) dn.toNat)) (Zg (Zf m st w)) v (Zb w) (Zj (Zf m st w))) (Zg (Zf m st w)).length (ph,(tr,(nd,(st,(dn,(dg,(Z2s m st dn w,(v,(Zb w,Zj (Zf m st w)))))))))) (fun i hi j=>?_) (fun j=>?_) k (by omega)
 ·have run:Zbf.l0 k k m.1 m.2.1 m.2.2 ((Zg (Zf m st w)).length:Int) 0 ph tr nd st dn dg (Zpd (Zsb m) [] (Zbk (Zj (Zf m st w)) dn.toNat) (Zph m w (Zj (Zf m st w)) dn.toNat)) (Zg (Zf m st w)) v (Zb w) (Zj (Zf m st w))=_:=run
  rw [Z27] at run;exact run
 ·have hx:=Z3u h.code _ (Yn hi)
  have hto:=hx.tgt;have hv:(Zpd (Zsb m) ((Zg (Zf m st w)).take i) (Zbk (Zj (Zf m st w)) dn.toNat) (Zph m w (Zj (Zf m st w)) dn.toNat)).length=(Zsb m).length:=Zsh _ _ _ _;have hat:=Ztr (l:=Zpd (Zsb m) ((Zg (Zf m st w)).take i) (Zbk (Zj (Zf m st w)) dn.toNat) (Zph m w (Zj (Zf m st w)) dn.toNat)) hto.1 (by rw [hv];omega)
  have hcut:Z2b (Zj (Zf m st w)) 0 dn=some ((Zj (Zf m st w)).take dn.toNat):=by
   have:=Zhi (l:=Zj (Zf m st w)) (i:=0) (j:=dn.toNat) (by omega) (by omega);rw [Y4,Yha hdn.1] at this;exact this
  have hdone:Z0p k (Zg (Zf m st w))[i].2.1 (Zj (Zf m st w)) (ph,(tr,(nd,(st,(dn,(dg,(v,Zb w)))))))=some (Zbk (Zj (Zf m st w)) dn.toNat (Zg (Zf m st w))[i].2.1):=by
   unfold Z0p;exact Za hcut (Za (Znlb _ (by rw [Yl];omega) _ (by omega)) rfl)
  conv=>lhs;unfold Zbf.l0
  rw [dlt hi,Zs (by omega),Xe];refine Za (Zh hi) (Za (Zh hi) (Za hdone ?_));rw [Z37 hnd hi hto.1 (by omega)];cases hq:Zbk (Zj (Zf m st w)) dn.toNat (Zg (Zf m st w))[i].2.1 with
  | true=>rfl
  | false=>
   rw [Yfa,Xe,Xd Y7];exact Za (Zulb h ph tr nd dg v hx hk) (Za hat (Za hat rfl))
 ·conv=>lhs;unfold Zbf.l0
  rw [Z8 (Yc _),Ym];rfl
def Z8g (mv:List Z0c) (dn i:Nat) (b:Int):Bool:=((mv.take i).drop dn).any (doP b)
theorem Z7jb {w:List Zi} (hn:(w.map fun x=>x.2.1).Nodup) {j:Nat} (h:j<w.length):w.find? (fun x=>x.2.1==w[j].2.1)=some w[j]:=by
 cases hf:w.find? (fun x=>x.2.1==w[j].2.1) with
 | none=>exact absurd (List.find?_eq_none.1 hf _ (Yn h)) (by simp)
 | some x=>
  have hx:=List.mem_of_find?_eq_some hf;have he:x.2.1=w[j].2.1:=by simpa using List.find?_some hf
  obtain ⟨q,hq,rfl⟩:=Yt.1 hx
  have:q=j:=by
   rcases Yhb q j with c | c | c
   ·have:=Yaa.1 hn q j (by rw [Yk];exact hq) (by rw [Yk];exact h) c
    rw [Yj,Yj] at this;exact absurd he this
   ·exact c
   ·have:=Yaa.1 hn j q (by rw [Yk];exact h) (by rw [Yk];exact hq) c
    rw [Yj,Yj] at this;exact absurd he.symm this
  subst this;rfl
theorem Zlsb {base:List Str} {w:List Zi} {f g:Int→Bool} {mk:Zi→Str} (hn:(w.map fun x=>x.2.1).Nodup) {j:Nat} (h:j<w.length) (h0:0≤w[j].2.1) (h1:w[j].2.1<(base.length:Int)) (hg:∀b,g b=(f b||(b==w[j].2.1))):
  Zpd base w (fun b=>!(g b)) mk=(Zpd base w (fun b=>!(f b)) mk).set w[j].2.1.toNat (mk w[j]):=by
 refine Yia ?_ fun b k1 k2=>?_
 ·rw [Zsh,Y3a,Zsh]
 ·rw [Zsh] at k1
  rw [Z8o k1,List.getElem_set]
  by_cases hb:w[j].2.1=(b:Int)
  ·rw [Xc (by omega),← hb,Z7jb hn h]
   dsimp only;rw [hg,show (w[j].2.1==w[j].2.1)=true by simp,Yq,Xd (by simp)]
  ·rw [Xd (by omega),Z8o k1]
   have:((b:Int)==w[j].2.1)=false:=by simp;omega
   rw [hg,this,Y8]
theorem Zwmb {mv:List Z0c} {dn i:Nat} (h:i<mv.length) (b:Int):Z8g mv dn (i+1) b=(Z8g mv dn i b||(decide (dn≤i)&&doP b mv[i])):=by
 unfold Z8g
 rw [Zjj h]
 by_cases c:dn≤i
 ·rw [Xa c,Yg,List.drop_append_of_le_length (by rw [Yl];omega),List.any_append]
  simp
 ·rw [Xb c,Yea,Y8,Yxa (by simp;omega),Yxa (by simp;omega)]
theorem Zvmb {l:List Zi} {n:Int} (h:Zab l n=0) {dn:Nat} (hd:dn≤(Zj l).length):∀x∈Zg l,(!(Z8g (Zj l) dn (Zj l).length x.2.1))=Zbk (Zj l) dn x.2.1:=by
 intro x hx
 obtain ⟨j,hj,rfl⟩:=Yt.1 hx
 have hnd:((Zg l).map fun x=>x.2.1).Nodup:=(Zvg h).2.2.2.2.1
 have hF:=Zd0 h
 obtain ⟨i,hi⟩:=hF.all j hj
 rw [Zrg hj] at hi
 have only:∀(i':Nat) (m:Z0c),(Zj l)[i']? = some m→doP (Zg l)[j].2.1 m=true→i'=i:=fun i' m hm hp=>by
  unfold doP at hp;rw [Yb] at hp;have h2:m.1=2:=by simpa using hp.1
  have hb:m.2.2.1=(Zg l)[j].2.1:=by simpa using hp.2
  obtain ⟨j',hj',q | q⟩:=hF.form i' m hm
  ·rw [Zrg hj'] at q
   have hb':(Zg l)[j'].2.1=(Zg l)[j].2.1:=by rw [q] at hb;exact hb
   have hjj:j'=j:=by
    rcases Yhb j' j with c | c | c
    ·have:=Yaa.1 hnd j' j (by rw [Yk];exact hj') (by rw [Yk];exact hj) c
     rw [Yj,Yj] at this;exact absurd hb' this
    ·exact c
    ·have:=Yaa.1 hnd j j' (by rw [Yk];exact hj) (by rw [Yk];exact hj') c
     rw [Yj,Yj] at this;exact absurd hb'.symm this
   subst hjj;exact hF.one i' i m _ hm hi h2 rfl (by rw [q])
  ·rw [q] at h2
   cases h2
 have self:doP (Zg l)[j].2.1 (2,((j:Int),((Zg l)[j].2.1,0)))=true:=by simp [doP]
 have hil:i<(Zj l).length:=(Yya.1 hi).1
 have hie:(Zj l)[i]=(2,((j:Int),((Zg l)[j].2.1,0))):=(Yya.1 hi).2
 have e1:Zbk (Zj l) dn (Zg l)[j].2.1=decide (i<dn):=by
  unfold Zbk
  by_cases c:i<dn
  ·rw [Xa c]
   refine Ywa.2 ⟨(Zj l)[i],?_,by rw [hie];exact self⟩;exact Yt.2 ⟨i,by rw [Yl];omega,by rw [Yv]⟩
  ·rw [Xb c]
   refine Yva.2 fun m hm hp=>?_
   obtain ⟨q,hq,rfl⟩:=Yt.1 hm;rw [Yl] at hq;rw [Yv] at hp;have:=only q _ (Yf (by omega)) hp;omega
 have e2:Z8g (Zj l) dn (Zj l).length (Zg l)[j].2.1=decide (dn≤i):=by
  unfold Z8g;rw [Ym]
  by_cases c:dn≤i
  ·rw [Xa c]
   refine Ywa.2 ⟨(Zj l)[i],?_,by rw [hie];exact self⟩;exact Yt.2 ⟨i-dn,by rw [Yja];omega,by rw [Y5];congr 1;omega⟩
  ·rw [Xb c]
   refine Yva.2 fun m hm hp=>?_
   obtain ⟨q,hq,rfl⟩:=Yt.1 hm;rw [Yja] at hq;rw [Y5] at hp;have:=only (dn+q) _ (Yf (by omega)) hp;omega
 rw [e1,e2]
 by_cases c:dn≤i
 ·rw [Xa c,Xb (by omega:¬i<dn)]
  rfl
 ·rw [Xb c,Xa (by omega:i<dn)]
  rfl
theorem Z8qb {m:Zo} {st dn:Int} {w:Nat} (h:Sound m st dn w) (ph tr nd:Int) (dg:Str) (v:List Int) {k:Nat} (hk:1048577≤k):
  Zmf.l0 k k m.1 m.2.1 m.2.2 ph tr nd st dn dg v (Zb w) 0 (Zj (Zf m st w)) (Zg (Zf m st w)) (Zsb m)=some (Z2s m st dn w):=by
 have hb:=h.fit.b
 have hdn:=h.dn
 have hpl:=h.plan
 have hbl:=Zlv m
 have hF:=Zd0 h.code
 have hnd:((Zg (Zf m st w)).map fun x=>x.2.1).Nodup:=(Zvg h.code).2.2.2.2.1
 have run:=Zrc (fun j i=>Zmf.l0 k j m.1 m.2.1 m.2.2 ph tr nd st dn dg v (Zb w) (i:Int) (Zj (Zf m st w)) (Zg (Zf m st w)) (Zpd (Zsb m) (Zg (Zf m st w)) (fun b=>!(Z8g (Zj (Zf m st w)) dn.toNat i b)) (Zph m w (Zj (Zf m st w)) dn.toNat))) (Zj (Zf m st w)).length (Z2s m st dn w) (fun i hi j=>?_) (fun j=>?_) k (by omega)
 ·have run:Zmf.l0 k k m.1 m.2.1 m.2.2 ph tr nd st dn dg v (Zb w) 0 (Zj (Zf m st w)) (Zg (Zf m st w)) (Zpd (Zsb m) (Zg (Zf m st w)) (fun b=>!(Z8g (Zj (Zf m st w)) dn.toNat 0 b)) (Zph m w (Zj (Zf m st w)) dn.toNat))=_:=run
  have e:Zpd (Zsb m) (Zg (Zf m st w)) (fun b=>!(Z8g (Zj (Zf m st w)) dn.toNat 0 b)) (Zph m w (Zj (Zf m st w)) dn.toNat)=Zsb m:=by
   refine Yia (Zsh _ _ _ _) fun b h1 h2=>?_
   rw [Z8o h2];have hz:Z8g (Zj (Zf m st w)) dn.toNat 0 (b:Int)=false:=by simp [Z8g]
   have hg:(Zsb m).getD b []=(Zsb m)[b]:=by
    rw [Yu,Yf h2];rfl
   rw [hz,hg];cases (Zg (Zf m st w)).find? (fun x=>x.2.1==(b:Int)) <;> rfl
  rw [e] at run;exact run
 ·conv=>lhs;unfold Zmf.l0
  rw [dlt hi,Zs (by omega),Xe];refine Za (Zh hi) (Za (Zh hi) ?_);dsimp only;have hstep:=Zwmb (mv:=Zj (Zf m st w)) (dn:=dn.toNat) hi;obtain ⟨q,hq,hm | hm⟩:=hF.form i _ (Yf hi)
  ·rw [Zrg hq] at hm
   by_cases c:dn.toNat≤i
   ·rw [hm]
    rw [show ((((2:Int),((q:Int),((Zg (Zf m st w))[q].2.1,(0:Int)))).1==2)&&decide (dn≤(i:Int)))=true by rw [Xa (by omega:dn≤(i:Int))];rfl,Xe];have hx:=Z3u h.code _ (Yn hq);have hto:=hx.tgt;have hat:at? (Zj (Zf m st w)) (i:Int)=some (2,((q:Int),((Zg (Zf m st w))[q].2.1,0))):=by rw [Zh hi,hm]
    have hv:(Zpd (Zsb m) (Zg (Zf m st w)) (fun b=>!(Z8g (Zj (Zf m st w)) dn.toNat i b)) (Zph m w (Zj (Zf m st w)) dn.toNat)).length=(Zsb m).length:=Zsh _ _ _ _;have hat2:=Ztr (l:=Zpd (Zsb m) (Zg (Zf m st w)) (fun b=>!(Z8g (Zj (Zf m st w)) dn.toNat i b)) (Zph m w (Zj (Zf m st w)) dn.toNat)) hto.1 (by rw [hv];omega);refine Za hat (Za hat (Za hat (Za hat ?_)));refine Za (Zh hq) (Za (Zh hq) (Za (Zffb h ph tr nd dg v hx hk) (Za hat2 (Za hat2 ?_))))
    have hset:=Zlsb (base:=Zsb m) (w:=Zg (Zf m st w)) (f:=Z8g (Zj (Zf m st w)) dn.toNat i) (g:=Z8g (Zj (Zf m st w)) dn.toNat (i+1)) (mk:=Zph m w (Zj (Zf m st w)) dn.toNat) hnd hq hto.1 (by omega) (fun b=>by
     rw [hstep b,Xa c,Yg,hm];congr 1;unfold doP;rw [show (((2:Int),((q:Int),((Zg (Zf m st w))[q].2.1,(0:Int)))).1==2)=true from rfl,Yg];exact Bool.beq_comm)
    rw [hset]
   ·rw [show (((Zj (Zf m st w))[i].1==2)&&decide (dn≤(i:Int)))=false by rw [Xb (by omega:¬dn≤(i:Int)),Bool.and_false],Xf]
    have:(fun b=>!(Z8g (Zj (Zf m st w)) dn.toNat (i+1) b))=fun b=>!(Z8g (Zj (Zf m st w)) dn.toNat i b):=by
     funext b
     rw [hstep b,Xb c,Yea,Y8]
    rw [this]
  ·rw [show (((Zj (Zf m st w))[i].1==2)&&decide (dn≤(i:Int)))=false by rw [hm];rfl,Xf]
   have:(fun b=>!(Z8g (Zj (Zf m st w)) dn.toNat (i+1) b))=fun b=>!(Z8g (Zj (Zf m st w)) dn.toNat i b):=by
    funext b
    rw [hstep b,hm];simp [doP]
   rw [this]
 ·have e:Zpd (Zsb m) (Zg (Zf m st w)) (fun b=>!(Z8g (Zj (Zf m st w)) dn.toNat (Zj (Zf m st w)).length b)) (Zph m w (Zj (Zf m st w)) dn.toNat)=Z2s m st dn w:=Zksb (Zvmb h.code (by omega)) (fun _ _=>rfl)
  conv=>lhs;unfold Zmf.l0
  rw [Z8 (Yc _),e];rfl
theorem Zmob:∀a:Nat,a<256→intBits .or .u8 ((a:Nat):Int) 128=((a%128+128:Nat):Int):=by decide +kernel
theorem iput:∀(f u:Nat) (acc:List Int) (j:Nat),u<128^f→u<18446744073709551616→acc.length+f≤100→0<f→f<j+1→∃p:Int×List Int,Zzc.l1 j (u:Int) acc=some p∧p.2.length≤100∧p.2++[Ya .u8 p.1]=acc++Z1c f u
 | 0,_,_,_,_,_,_,h,_=>absurd h (by omega)
 | f+1,u,acc,0,hu,hb,hl,_,hj=>by omega
 | f+1,u,acc,j+1,hu,hb,hl,_,hj=>by
  unfold Zzc.l1
  by_cases h:128≤u
  ·have hf:0<f:=by
    rcases Nat.eq_zero_or_pos f with rfl | h'
    ·simp at hu;omega
    ·exact h'
   obtain ⟨p,e,e1,e2⟩:=iput f (u/128) (acc++[((u%128+128:Nat):Int)]) j (by rw [Yjb] at hu;exact Yfb (by rw [Nat.mul_comm];exact hu)) (by omega) (by simp;omega) hf (by omega);refine ⟨p,?_,e1,?_⟩
   ·have e3:intBits .or .u8 (Ya .u8 (u:Int)) 128=((u%128+128:Nat):Int):=by
     rw [u8w,show (u:Int)%256=((u%256:Nat):Int) by omega,Zmob _ (by omega)];congr 1;omega
    have e4:shr .u64 (u:Int) 7=((u/128:Nat):Int):=Zxi .u64 u 7 (by decide);rw [Xa (by omega:(127:Int)<(u:Int)),e3,e4];simp only [Xe];rw [Z6 (by simp;omega),Zdc (by omega)];exact e
   ·rw [e2,Yr]
    simp [Z1c,h]
  ·refine ⟨((u:Int),acc),?_,by show acc.length≤100;omega,?_⟩
   ·rw [Xb (by omega:¬((127:Int)<(u:Int)))]
    rfl
   ·show acc++[Ya .u8 (u:Int)]=_
    rw [u8w,show ((u:Int)%256)=(u:Int) by omega];simp [Z1c,h]
theorem Z8nb (a:Nat) (h:a<18446744073709551616):intBits .xor .u64 (Yua .u64) (a:Int)=((18446744073709551615-a:Nat):Int):=by
 show Ya .u64 (((Yoa 64 ((18446744073709551615:Nat):Int)) ^^^ (Yoa 64 (a:Int))).toNat:Int)=_
 have e:(Yca 64 18446744073709551615)=BitVec.allOnes 64:=by decide
 rw [Ypa,Ypa,e,BitVec.allOnes_xor,BitVec.toNat_not,Y0,Zfh,Yy (show a<2^64 by omega)]
 omega
theorem Zf4 (n:Int) (h:Num n):Zc fun k=>Zzc k n=some (Zk n):=by
 refine Zc.ge 10 fun k hk=>?_
 have hz:=Z97 h
 obtain ⟨p,e,e1,e2⟩:=iput 10 (zig n) [] k (by omega) hz (by simp) (by omega) (by omega)
 have hs:Zzc.j0 n (shl .u64 (Ya .u64 n) 1)=some ((zig n:Nat):Int):=by
  unfold Num at h
  have e0:shl .u64 (Ya .u64 n) 1=(2*n)%18446744073709551616:=by
   have:shl .u64 (Ya .u64 n) 1=Ya .u64 (Ya .u64 n*2):=rfl;rw [this,Zfh,Zfh];omega
  unfold Zzc.j0;rw [e0]
  by_cases hn:n<0
  ·rw [Xa hn,show (2*n)%18446744073709551616=((18446744073709551616+2*n).toNat:Int) by omega,Xe,Z8nb _ (by omega)]
   congr 1;unfold zig;rw [Xc hn];omega
  ·rw [Xb hn,Xf]
   congr 1;unfold zig;rw [Xd hn];omega
 unfold Zzc
 rw [Zdc (by omega),hs]
 simp only [Ye]
 rw [e]
 simp only [Ye]
 rw [Z6 (by simp;omega),e2]
 rfl
def Zem:List Int→Str
 | []=>[]
 | n::l=>Zk n++Zem l
theorem Ze6:∀l:List Int,(Zem l).length≤10*l.length
 | []=>Nat.zero_le _
 | n::l=>by
  have:=Zuc n;have:=Ze6 l;simp only [Zem,Yh,Yw];omega
theorem Z4bb (l:List Int) (hw:∀n∈l,Num n) (hl:l.length≤1000000):Zc fun k=>Zff k l=some (Zem l):=by
 have hp:Zc fun k=>∀i,i<l.length→∀n,l[i]? = some n→Zzc k n=some (Zk n):=Zc.all fun i hi=>(Zf4 l[i] (hw _ (Yn hi))).mono fun k h n hn=>by
  rw [Yf hi] at hn;cases hn;exact h
 have key:∀(d i:Nat) (acc:Str),l.length-i=d→i≤l.length→acc.length≤10*i→Zc fun k=>∀j,d<j→Zff.l0 k j acc l (l.length:Int) (i:Int)=some (acc++Zem (l.drop i)):=by
  intro d
  induction d with
  | zero=>
   intro i acc hd hi ha;refine Zc.of fun k j hj=>?_
   obtain ⟨j,rfl⟩:∃m,j=m+1:=⟨j-1,by omega⟩;unfold Zff.l0;rw [Xb (by omega:¬((i:Int)<(l.length:Int))),List.drop_eq_nil_of_le (by omega)];simp only [Xf,Zem,Y3]
  | succ d ih=>
   intro i acc hd hi ha;have hlt:i<l.length:=by omega
   have:=Zuc l[i];refine (hp.and (ih (i+1) (acc++Zk l[i]) (by omega) (by omega) (by rw [Yh];omega))).mono fun k ⟨h1,h2⟩ j hj=>?_
   obtain ⟨j,rfl⟩:∃m,j=m+1:=⟨j-1,by omega⟩;unfold Zff.l0;rw [Xa (by omega:(i:Int)<(l.length:Int)),Zh hlt];simp only [Xe,Ye];rw [h1 i hlt _ (Yf hlt)];simp only [Ye];rw [Zwd (by omega)];simp only [Ye];rw [Zs (by omega),h2 j (by omega),List.drop_eq_getElem_cons hlt,Zem,Yr]
 obtain ⟨K,h⟩:=key l.length 0 [] (by omega) (by omega) (by simp)
 refine Zc.ge (K+l.length+1) fun k hk=>?_
 have h:=h k (by omega) k (by omega)
 have h:Zff.l0 k k [] l (l.length:Int) 0=some (Zem l):=h
 unfold Zff
 rw [h]
 rfl
theorem Zg4 (s:Str) (h:s.length≤1000000):Zc fun k=>Z8k k s=some (Zcb s):=by
 refine (Zf4 (s.length:Int) (by constructor <;> omega)).mono fun k e=>?_
 have:=Zuc (s.length:Int)
 unfold Z8k Zcb
 rw [e]
 simp only [Ye]
 rw [Zwd (by omega)]
 rfl
def Zzu (x:Zi):Str:=Zk x.1++Zk x.2.1++Zk x.2.2.1++Zcb x.2.2.2
def Za8 (x:Zi):Prop:=Num x.1∧Num x.2.1∧Num x.2.2.1
abbrev Zkc:=Bool×Int×Str
def Z9e:Zkc:=(true,(0,[]))
def Z7l (n:Int) (t:Str):Str:=Zhf (Zk n++Zcb t)
def Zln (f:Z5) (t:Str):List Zkc:=if (Zr f).1<1000000 then [(false,((if (Zr f).2.2.2=0 then 1 else 0),Z7l ((Zr f).1+1) t)),Z9e] else []
theorem Z0t (f:Z5) (t:Str):(Zln f t).length≤2:=by unfold Zln;split <;> simp
theorem Z5cb (s:Str):0≤(Zhc s).1∧(Zhc s).1≤1000000:=by
 unfold Zhc
 split
 ·split
  ·split
   ·rename_i h
    have h:=h.2;unfold Zmn at h;simp only [Yb,decide_eq_true_eq] at h;exact ⟨by show 0≤_;omega,h.1.2⟩
   ·simp
  ·simp
 ·simp
theorem Zmw (f:Z5):0≤(Zr f).1∧(Zr f).1≤1000000:=by
 unfold Zr
 split
 ·exact Z5cb _
 ·split
  ·exact Z5cb _
  ·simp
theorem Zwlb (n:Int) (t:Str) (hn:Num n) (ht:t.length≤80):Zc fun k=>Zko k n t=some (Z7l n t):=by
 have l1:=Zuc n
 have l4:=Zok t
 refine (((Zf4 n hn).and (Zg4 t (by omega))).and (Zh4 (Zk n++Zcb t) (by simp;omega))).mono fun k ⟨⟨a,b⟩,c⟩=>?_
 unfold Zko
 exact Za a (Za b (Za (Zwd (by omega)) (Za c rfl)))
theorem Zvlb {f:Z5} (h:Zwg f=true) (h2:2≤f.1.length) (t:Str) (ht:t.length≤80):Zc fun k=>Z9p k f t=some (Zln f t):=by
 have hg:=Zmw f
 refine ((Z1bb h h2).and (Zwlb ((Zr f).1+1) t (by constructor <;> omega) ht)).mono fun k ⟨a,b⟩=>?_
 unfold Z9p Zln
 refine Za a ?_
 dsimp only
 rw [w64 (n:=(Zr f).1+1) (by omega) (by omega)]
 by_cases c:(Zr f).1<1000000
 ·rw [Xc c,Xb (by omega:¬((1000000:Int)<(Zr f).1+1)),Xf]
  by_cases d:(Zr f).2.2.2=0
  ·rw [Xc d,show ((Zr f).2.2.2==0)=true by simpa using d,Xe]
   exact Za b rfl
  ·rw [Xd d,show ((Zr f).2.2.2==0)=false by simpa using d,Xf]
   exact Za b rfl
 ·rw [Xd c,Xa (by omega:(1000000:Int)<(Zr f).1+1)]
  rfl
theorem Zgfb {f:Z5} (h:Zwg f=true) (h2:2≤f.1.length) (t:Str) (ht:t.length≤80):Zc fun k=>Zzn k f t=some (Zln f t):=by
 have hg:=Zmw f
 refine ((Z60 h h2).and (Zz6 ((Zr f).1+1) t (by constructor <;> omega) (by omega))).mono fun k ⟨a,b⟩=>?_
 unfold Zzn Zln
 refine Za a ?_
 dsimp only
 by_cases c:(Zr f).1<1000000
 ·have hm:Zmn ((Zr f).1+1) t=true:=by
   unfold Zmn;rw [Xa (by omega:1≤(Zr f).1+1),Xa (by omega:(Zr f).1+1≤1000000),Xa ht];rfl
  rw [hm,Xc rfl] at b;rw [Xc c,Xb (by omega:¬((1000000:Int)≤(Zr f).1)),Xf,w64 (n:=(Zr f).1+1) (by omega) (by omega)]
  by_cases d:(Zr f).2.2.2=0
  ·rw [Xc d,show ((Zr f).2.2.2 != 0)=false by simpa using d,Xf]
   exact Za b rfl
  ·rw [Xd d,show ((Zr f).2.2.2 != 0)=true by simpa using d,Xe]
   exact Za b rfl
 ·rw [Xd c,Xa (by omega:(1000000:Int)≤(Zr f).1)]
  rfl
theorem Zfz:∀(f u b:Nat),u<128^b→0<b→(Z1c f u).length≤b
 | 0,_,_,_,_=>by simp [Z1c]
 | f+1,u,b,h,hb=>by
  unfold Z1c;split
  ·rename_i h8
   obtain ⟨b,rfl⟩:∃q,b=q+1:=⟨b-1,by omega⟩;cases b with
   | zero=>simp at h;omega
   | succ b=>
    have:=Zfz f (u/128) (b+1) (by rw [Yjb] at h;exact Yfb (by omega)) (by omega);simp only [Yw];omega
  ·simp;omega
theorem Zww {n:Int} (h0:0≤n) (h:n<64):(Zk n).length≤1:=by
 unfold Zk
 rw [Zdl]
 refine Zfz 10 _ 1 ?_ (by omega)
 unfold zig
 rw [Xd (by omega)]
 omega
theorem Zydb {n:Nat} (h:n<16777216):(Zk (n:Int)).length≤4:=by
 unfold Zk
 rw [Zdl]
 refine Zfz 10 _ 4 ?_ (by omega)
 unfold zig
 rw [Xd (by omega)]
 omega
structure Keep (a b c d e:Int) (x:Str) (v w:Nat):Prop where
 a:0≤a∧a<64
 b:0≤b∧b<64
 c:0≤c∧c<64
 d:0≤d∧d<64
 e:0≤e∧e<64
 x:x.length≤32
 v:v<16777216
 w:w<16777216
theorem Z6i {n:Int} (h:0≤n∧n<64):Num n:=by constructor <;> omega
theorem Keep.len {a b c d e:Int} {x:Str} {v w:Nat} (h:Keep a b c d e x v w):(Zdd (a,b,c,d,e,(v:Int),(w:Int),x)).length≤80:=by
 have h1:=Zww h.a.1 h.a.2
 have h2:=Zww h.b.1 h.b.2
 have h3:=Zww h.c.1 h.c.2
 have h4:=Zww h.d.1 h.d.2
 have h5:=Zww h.e.1 h.e.2
 have h6:=Zydb h.v
 have h7:=Zydb h.w
 have h8:=Zok x
 have hx:=h.x
 unfold Zdd
 simp only [Yh]
 omega
theorem Zamb {a b c d e:Int} {x:Str} {v w:Nat} (h:Keep a b c d e x v w):Zc fun k=>Zfq k (stT a b c d e x v w)=some (Zdd (a,b,c,d,e,(v:Int),(w:Int),x)):=by
 have hx:=h.x
 have hp:=Ze6 [a,b,c,d,e,(v:Int),(w:Int)]
 simp only [Yw,Yka] at hp
 have h8:=Zok x
 refine (((Z4bb [a,b,c,d,e,(v:Int),(w:Int)] (fun n hn=>?_) (by simp)).and (Zg4 x (by omega))).and (Zc.ge 100 fun k hk=>hk)).mono fun k ⟨⟨q1,q2⟩,hk⟩=>?_
 ·simp only [Yo,Yma,or_false] at hn
  rcases hn with rfl | rfl | rfl | rfl | rfl | rfl | rfl
  ·exact Z6i h.a
  ·exact Z6i h.b
  ·exact Z6i h.c
  ·exact Z6i h.d
  ·exact Z6i h.e
  ·exact Zqq h.v
  ·exact Zqq h.w
 ·unfold Zfq stT
  refine Za (Zhz v h.v k (by omega)) (Za (Zhz w h.w k (by omega)) (Za q1 (Za q2 (Za (Zwd (by omega)) ?_))));unfold Zdd;simp only [Zem,Yr,Y3]
def Z4c (f:Z5) (a b c d e:Int) (x:Str) (v w:Nat):List Zkc:=Zln f (Zdd (a,b,c,d,e,(v:Int),(w:Int),x))
theorem Zqk {m:Zo} (hf:Zwg m.2=true) (h2:2≤m.2.1.length) {a b c d e:Int} {x:Str} {v w:Nat} (h:Keep a b c d e x v w):Zc fun k=>Zlf k m (a,b,c,d,e,x,Zb v,Zb w)=some (Z4c m.2 a b c d e x v w):=by
 have hx:=h.x
 refine ((Zx6 a b c d e x v w (Z6i h.a) (Z6i h.b) (Z6i h.c) (Z6i h.d) (Z6i h.e) h.v h.w (by omega)).and (Zgfb hf h2 _ h.len)).mono fun k ⟨q1,q2⟩=>?_
 have q1:Zuk k (a,b,c,d,e,x,Zb v,Zb w)=_:=q1
 unfold Zlf
 exact Za q1 (Za q2 rfl)
def Zje (n a:Int) (t:Str):Str:=Zk n++Zk a++Zcb t
def Z8b (n a:Int) (t:Str):Str:=Zhf (Zje n a t)
def Zbh (n a:Int) (t:Str):Bool:=(decide (0≤n)&&decide (n≤1000000))&&((decide (0≤a)&&decide (a≤39))&&decide (t.length=8))
theorem Zam {n a:Int} {t:Str}:Zbh n a t=true ↔ (0≤n∧n≤1000000)∧(0≤a∧a≤39)∧t.length=8:=by
 unfold Zbh
 simp only [Yb,decide_eq_true_eq]
theorem Z8z (n a:Int) (t:Str):(Zje n a t).length≤30+t.length:=by
 have:=Zuc n
 have:=Zuc a
 have:=Zok t
 unfold Zje
 simp only [Yh]
 omega
theorem Zylb (n a:Int) (t:Str) (hn:Num n) (ha:Num a) (ht:t.length≤8000):Zc fun k=>Zaq k n a t=some (Z8b n a t):=by
 have l:=Z8z n a t
 have hp:=Ze6 [n,a]
 simp only [Yw,Yka] at hp
 have h4:=Zok t
 refine (((Z4bb [n,a] (fun z hz=>?_) (by simp)).and (Zg4 t (by omega))).and (Zh4 (Zje n a t) (by omega))).mono fun k ⟨⟨q1,q2⟩,q3⟩=>?_
 ·simp only [Yo,Yma,or_false] at hz
  rcases hz with rfl | rfl
  ·exact hn
  ·exact ha
 ·have e:Zem [n,a]++Zcb t=Zje n a t:=by simp only [Zem,Zje,Yr,Y3]
  unfold Zaq;refine Za q1 (Za q2 (Za (Zwd (by omega)) ?_));rw [e];exact Za q3 rfl
theorem Z80 (n a:Int) (t:Str) (hn:Num n) (ha:Num a) (ht:t.length≤8000):Zc fun k=>Z2h k n a t=some (if Zbh n a t=true then Z8b n a t else []):=by
 have W1:Z9 n 0 1000000=some (decide (0≤n)&&decide (n≤1000000)):=rfl
 have W2:Z9 a 0 39=some (decide (0≤a)&&decide (a≤39)):=rfl
 have l1:=Zuc n
 have l2:=Zuc a
 have l4:=Zok t
 by_cases hB:Zbh n a t=true
 ·obtain ⟨h1,h2,h3⟩:=Zam.1 hB
  have l:=Z8z n a t;refine ((((Zdj n hn).and (Zdj a ha)).and (Z90 t ht)).and (Za1 (Zje n a t) (by omega))).mono fun k ⟨⟨⟨q1,q2⟩,q3⟩,q4⟩=>?_
  rw [Xc hB];unfold Z2h;refine Za W1 ?_;rw [Xa h1.1,Xa h1.2,Yda,Yp,Xf];refine Za W2 ?_;rw [Xa h2.1,Xa h2.2,show (((t.length:Nat):Int) != 8)=false by rw [h3];rfl,Yda,Yp,Bool.or_self,Xf];refine Za q1 (Za q2 (Za (Zwd (by omega)) (Za q3 (Za (Zwd (by simp;omega)) (Za q4 rfl)))))
 ·refine Zc.of fun k=>?_
  rw [Xd hB];unfold Zbh at hB;unfold Z2h;refine Za W1 ?_;cases c1:decide (0≤n)&&decide (n≤1000000) with
  | false=>rfl
  | true=>
   rw [Yp,Xf];refine Za W2 ?_;rw [c1,Yg] at hB
   have:(!(decide (0≤a)&&decide (a≤39))||(((t.length:Nat):Int) != 8))=true:=by
    cases c2:decide (0≤a)&&decide (a≤39) with
    | false=>rfl
    | true=>
     rw [c2,Yg] at hB;have h8:t.length≠8:=fun q=>hB (Xa q)
     simp;omega
   rw [this];rfl
def Zmk (s:Str):Option ((Int×Int×Str)×Nat):=(Zqb s 0).bind fun x=>(Zqb s x.2).bind fun y=>(Z0g s y.2).map fun t=>((x.1,(y.1,t.1)),t.2)
theorem Zhdb {s:Str} {n a:Int} {t:Str} {d:Nat} (h:Zmk s=some ((n,(a,t)),d)):Num n∧Num a∧t.length≤8000∧(Zje n a t=s ↔ d=s.length):=by
 unfold Zmk at h
 obtain ⟨⟨n1,a1⟩,h1,h⟩:=Ynb.1 h
 obtain ⟨⟨n2,a2⟩,h2,h⟩:=Ynb.1 h
 obtain ⟨⟨t',d'⟩,h8,h⟩:=Option.map_eq_some_iff.1 h
 simp only [Prod.mk.injEq] at h
 obtain ⟨⟨x1,x2,x3⟩,x4⟩:=h
 replace x1:=x1.symm
 replace x2:=x2.symm
 replace x3:=x3.symm
 replace x4:=x4.symm
 subst x1 x2 x3 x4
 have g1:=Z7i h1
 have g2:=Z7i h2
 have g3:=Zs7 h8
 refine ⟨g1.range,g2.range,g3.size,?_⟩
 have e0:s=Zk n++(Zk a++(Zcb t++s.drop d)):=by
  have q:=g1.eq;rw [Y4,g2.eq,g3.eq] at q;exact q
 have p1:=g1.at'
 have p2:=g2.at'
 have p3:=g3.at'
 dsimp only at p1 p2 p3
 constructor
 ·intro q
  have hl:=congrArg List.length q;unfold Zje at hl;simp only [Yh] at hl;omega
 ·intro q
  rw [q,List.drop_length,Y3] at e0;unfold Zje;rw [Yr];exact e0.symm
theorem Zbob:Zmk []=none:=rfl
def Z21 (s:Str) (v4 v5:Int×Str×Int×Bool) (v6:Str×Str×Int×Bool):Prop:=(∃n a t,∃d:Nat,Zmk s=some ((n,(a,t)),d)∧v4.1=n∧v5.1=a∧v6=(t,(s,((d:Int),false))))∨(Zmk s=none∧v6.2.2.2=true)
theorem Zgeb {s:Str} {v4 v5:Int×Str×Int×Bool} {v6:Str×Str×Int×Bool} (h4:StS s v4.2 (Zd s (some 0))) (g4:∀a n a',(some 0:Option Nat)=some a→Zqb s a=some (n,a')→v4.1=n)
  (h5:StS s v5.2 (Zd s (Zd s (some 0)))) (g5:∀a n a',Zd s (some 0)=some a→Zqb s a=some (n,a')→v5.1=n) (h6:StS s v6.2 (Zjb s (Zd s (Zd s (some 0))))) (g6:∀a n a',Zd s (Zd s (some 0))=some a→Z0g s a=some (n,a')→v6.1=n):Z21 s v4 v5 v6:=by
 have bad:StS s v6.2 none→v6.2.2.2=true:=fun h=>h.2.choose_spec.2.2
 cases x1:Zqb s 0 with
 | none=>
  refine .inr ⟨by simp [Zmk,x1],bad ?_⟩;have:Zjb s (Zd s (Zd s (some 0)))=none:=by simp [Zd,Zjb,x1]
  rwa [this] at h6
 | some y1=>
  obtain ⟨n1,a1⟩:=y1;have p1:Zd s (some 0)=some a1:=by simp [Zd,x1]
  cases x2:Zqb s a1 with
  | none=>
   refine .inr ⟨by simp [Zmk,x1,x2],bad ?_⟩;have:Zjb s (Zd s (Zd s (some 0)))=none:=by simp [Zd,Zjb,x1,x2]
   rwa [this] at h6
  | some y2=>
   obtain ⟨n2,a2⟩:=y2;have p2:Zd s (Zd s (some 0))=some a2:=by simp [Zd,x1,x2]
   cases x3:Z0g s a2 with
   | none=>
    refine .inr ⟨by simp [Zmk,x1,x2,x3],bad ?_⟩;have:Zjb s (Zd s (Zd s (some 0)))=none:=by simp [Zd,Zjb,x1,x2,x3]
    rwa [this] at h6
   | some y3=>
    obtain ⟨t,d⟩:=y3;have p3:Zjb s (Zd s (Zd s (some 0)))=some d:=by simp [Zd,Zjb,x1,x2,x3]
    refine .inl ⟨n1,n2,t,d,by simp [Zmk,x1,x2,x3],g4 _ _ _ rfl x1,g5 _ _ _ p1 x2,?_⟩;have r6:=g6 _ _ _ p2 x3;rw [p3] at h6;rcases h6.form with ⟨b,e,_,q⟩ | ⟨b,e,_,q⟩
    ·cases e
     rw [← r6,← q]
    ·cases e
theorem Z8fb (s:Str):StS s (s,(((0:Nat):Int),false)) (some 0):=⟨rfl,0,rfl,by omega,rfl,rfl⟩
theorem Z3lb (s:Str) (hs:s.length≤8000):∃v4 v5 v6,(Zc fun k=>Zqc k (s,(0,false))=some v4∧Zqc k v4.2=some v5∧Z7g k v5.2=some v6)∧Z21 s v4 v5 v6:=by
 obtain ⟨v4,q4,h4,g4⟩:=Zhk hs (Z8fb s)
 obtain ⟨v5,q5,h5,g5⟩:=Zhk hs h4
 obtain ⟨v6,q6,h6,g6⟩:=Zj4 hs h5
 exact ⟨v4,v5,v6,((q4.and q5).and q6).mono fun k h=>⟨h.1.1,h.1.2,h.2⟩,Zgeb h4 g4 h5 g5 h6 g6⟩
theorem Zpqb (s:Str) (hs:s.length≤8000):∃v4 v5 v6,(Zc fun k=>Zoc k (s,(0,false))=some v4∧Zoc k v4.2=some v5∧Z6h k v5.2=some v6)∧Z21 s v4 v5 v6:=by
 obtain ⟨v4,q4,h4,g4⟩:=Zpn hs (Z8fb s)
 obtain ⟨v5,q5,h5,g5⟩:=Zpn hs h4
 obtain ⟨v6,q6,h6,g6⟩:=Znfb hs h5
 exact ⟨v4,v5,v6,((q4.and q5).and q6).mono fun k h=>⟨h.1.1,h.1.2,h.2⟩,Zgeb h4 g4 h5 g5 h6 g6⟩
def Zic (s:Str) (n:Int):Zkc:=if (Zxc s).2=0 then match Zmk (Zn s) with
  | some ((n',(a,t)),d)=>if (d=(Zn s).length∧n'=n)∧Zbh n a t=true then (false,(a,t)) else Z9e
  | none=>Z9e
 else Z9e
theorem Zfdb (s:Str) (n:Int) (h:(Zic s n).1=false):0≤(Zic s n).2.1∧(Zic s n).2.1≤39:=by
 unfold Zic at h ⊢
 split at h
 ·rename_i q
  rw [Xc q];split at h
  ·split at h
   ·rename_i q2
    rw [Xc q2];exact (Zam.1 q2.2).2.1
   ·cases h
  ·cases h
 ·cases h
theorem Z0lb (s:Str) (hs:s.length≤8000) (n:Int):Zc fun k=>Zbq k s n=some (Zic s n):=by
 have hl:=Zw7 s
 obtain ⟨v4,v5,v6,hE,h3⟩:=Z3lb (Zxc s).1 (by omega)
 refine ((Zvt s (by omega)).and hE).mono fun k ⟨u,q4,q5,q6⟩=>?_
 have hT:Zti n=some (decide (0≤n)&&decide (n≤1000000)):=rfl
 unfold Zbq Zic
 refine Za u (Za q4 (Za q5 (Za q6 ?_)))
 by_cases hu:(Zxc s).2=0
 ·obtain ⟨e1,e2,_⟩:=Z1s hu
  have e0:(Zxc s).1=Zn s:=by rw [e1]
  rw [Xc hu,show ((Zxc s).2 != 0)=false by simpa using hu,e0];rw [e0] at h3;rcases h3 with ⟨n',a,t,d,hz,h4,h5,h6⟩ | ⟨hz,hb⟩
  ·rw [hz,h6,h4]
   dsimp only;have hW:Znb v5.1 0 39=some (decide (0≤v5.1)&&decide (v5.1≤39)):=rfl;rw [h5] at hW ⊢
   by_cases cd:d=(Zn s).length
   ·by_cases cn:n'=n
    ·rw [show ((((false||false)||(((d:Nat):Int) != ((Zn s).length:Int))))||(n' != n))=false by rw [cd,cn];simp,Xf]
     refine Za hT ?_;unfold Zbh;cases c1:decide (0≤n)&&decide (n≤1000000) with
     | false=>
      rw [Xd (fun q=>by cases q.2)];rfl
     | true=>
      rw [Yp,Xf];refine Za hW ?_;cases c2:decide (0≤a)&&decide (a≤39) with
      | false=>
       rw [Xd (fun q=>by cases q.2)];rfl
      | true=>
       by_cases c8:t.length=8
       ·rw [Xc ⟨⟨cd,cn⟩,by rw [Xa c8];rfl⟩,show (((t.length:Nat):Int) != 8)=false by rw [c8];rfl]
        rfl
       ·rw [Xd (fun q=>by rw [Xb c8] at q;cases q.2),show (((t.length:Nat):Int) != 8)=true by simp;omega]
        rfl
    ·rw [Xd (fun q=>cn q.1.2),show (n' != n)=true by simpa using cn,Yq]
     rfl
   ·rw [Xd (fun q=>cd q.1.1),show (((d:Nat):Int) != ((Zn s).length:Int))=true by simp;omega]
    simp only [Yq,Yga,Xe];rfl
  ·rw [hz,hb]
   simp only [Yq,Yga,Xe];rfl
 ·rw [Xd hu,show ((Zxc s).2 != 0)=true by simpa using hu]
  simp only [Yga,Xe];rfl
theorem Zifb (s:Str) (hs:s.length≤8000) (n:Int):Zc fun k=>Znl k s n=some (Zic s n):=by
 have hl:=Zw7 s
 obtain ⟨v4,v5,v6,hE,h3⟩:=Zpqb (Zxc s).1 (by omega)
 by_cases hu:(Zxc s).2=0
 ·obtain ⟨e1,e2,e3⟩:=Z1s hu
  have e0:(Zxc s).1=Zn s:=by rw [e1]
  rw [e0] at h3;rcases h3 with ⟨n',a,t,d,hz,h4,h5,h6⟩ | ⟨hz,hb⟩
  ·obtain ⟨r1,r2,r3,r4⟩:=Zhdb hz
   refine (((Zjl s hs).and hE).and (Z80 n' a t r1 r2 r3)).mono fun k ⟨⟨u,q4,q5,q6⟩,q7⟩=>?_
   unfold Znl Zic;refine Za u (Za q4 (Za q5 (Za q6 ?_)));rw [Xc hu,hz,h6,h4,h5];dsimp only;rw [show (false||(s==[]))=false by cases s with | nil=>simp at e3 | cons _ _=>rfl,Xf];refine Za q7 ?_
   by_cases cn:n'=n
   ·subst cn
    rw [show (n' != n')=false by simp,Y8]
    by_cases cB:Zbh n' a t=true
    ·rw [Xc cB]
     by_cases cd:d=(Zn s).length
     ·have:Z8b n' a t=s:=by
       unfold Z8b;rw [r4.2 cd,e2]
      rw [Xc ⟨⟨cd,rfl⟩,cB⟩,this,show (s==s)=true by simp];rfl
     ·have:Z8b n' a t≠s:=fun q=>by
       unfold Z8b at q;rw [← e2] at q;exact cd (r4.1 (Zsfb.1 q))
      rw [Xd (fun q=>cd q.1.1),show (Z8b n' a t==s)=false by simpa using this];rfl
    ·rw [Xd cB,Xd (fun q=>cB q.2),show (([]:Str)==s)=false by cases s with | nil=>simp at e3 | cons _ _=>rfl]
     rfl
   ·rw [show (n' != n)=true by simpa using cn,Yq,Xd (fun (q:(d=(Zn s).length∧n'=n)∧Zbh n a t=true)=>cn q.1.2)]
    rfl
  ·refine ((Zjl s hs).and hE).mono fun k ⟨u,q4,q5,q6⟩=>?_
   unfold Znl Zic;refine Za u (Za q4 (Za q5 (Za q6 ?_)));rw [Xc hu,hz,hb];rfl
 ·have e0:=Zesb hu
  rw [e0] at h3;rcases h3 with ⟨n',a,t,d,hz,_⟩ | ⟨hz,hb⟩
  ·rw [Zbob] at hz
   cases hz
  ·refine ((Zjl s hs).and hE).mono fun k ⟨u,q4,q5,q6⟩=>?_
   unfold Znl Zic;refine Za u (Za q4 (Za q5 (Za q6 ?_)));rw [Xd hu,hb];rfl
structure MS0 (m:Zo) (ph tr nd st dn:Int) (dg:Str) (v w:Nat):Prop where
 fit:Fit m st w
 hph:1≤ph∧ph≤5
 sb:Zzg ph tr nd st dn dg v w=true
 hv:v<16777216
 hw:w<16777216
structure MSt (m:Zo) (ph tr nd st dn:Int) (dg:Str) (v w:Nat):Prop extends MS0 m ph tr nd st dn dg v w where
 img:Zyd (Zsb m)=true
 snd:3≤ph→Sound m st dn w
theorem Z8l {m:Zo} {ph tr nd st dn:Int} {dg:Str} {v w:Nat} (hs:stM m=some (ph,(tr,(nd,(st,(dn,(dg,(v,w)))))))):MS0 m ph tr nd st dn dg v w:=by
 obtain ⟨h1,h2,h3⟩:=Zj1 hs
 have hvw:v<16777216∧w<16777216:=by
  unfold stM at hs;split at hs
  ·split at hs
   ·exact (Z9fb hs).2
   ·cases hs
  ·cases hs
 exact ⟨h1,h2,h3,hvw.1,hvw.2⟩
theorem Zk5 {m:Zo} {ph tr nd st dn:Int} {dg:Str} {v w:Nat} (hs:stM m=some (ph,(tr,(nd,(st,(dn,(dg,(v,w)))))))) (hm:Zqd m=true):MSt m ph tr nd st dn dg v w:=by
 have h0:=Z8l hs
 obtain ⟨h1,h2,h3⟩:=Zj1 hs
 unfold Zqd at hm
 rw [hs] at hm
 dsimp only at hm
 rw [Yb,Ysa] at hm
 refine ⟨h0,hm.1,fun hp=>?_⟩
 rcases hm.2 with q | q
 ·have:=of_decide_eq_true q
  omega
 ·unfold Zim at q
  rw [Yb,Yb,decide_eq_true_eq,decide_eq_true_eq,decide_eq_true_eq] at q;refine ⟨h1,q.1,q.2.1,?_,q.2.2⟩;unfold Zzg at h3;have h3:=((Yb _ _).mp ((Yb _ _).mp h3).2).2;rw [Xd (by omega)] at h3;have h3:=of_decide_eq_true h3;omega
def Zlo (l:List Zi):Nat→Int
 | 0=>0
 | i+1=>if (wAt l i).1=5 then (i:Int)+1 else Zlo l i
def Z5i (l:List Zi):Int:=Zlo l l.length
theorem Zgcb (l:List Zi):∀i,0≤Zlo l i∧Zlo l i≤(i:Int)
 | 0=>⟨Y1 _,Y1 _⟩
 | i+1=>by
  have:=Zgcb l i;unfold Zlo;split <;> omega
theorem Zrlb (l:List Zi) (hl:l.length≤20) {k:Nat} (hk:100≤k):Zuf k l=some (Z5i l):=by
 have run:=Zrc (fun j i=>Zuf.l0 j (Zlo l i) l (l.length:Int) (i:Int)) l.length (Z5i l) (fun i hi j=>?_) (fun j=>?_) k (by omega)
 ·have run:Zuf.l0 k 0 l (l.length:Int) 0=some (Z5i l):=run
  unfold Zuf;exact Za run rfl
 ·conv=>lhs;unfold Zuf.l0
  rw [dlt hi,Zs (by omega),Xe];refine Za (Zh hi) ?_;dsimp only;rw [Zlo,Zrg hi]
  by_cases c:l[i].1=5
  ·rw [Xc c,show (l[i].1==5)=true by simpa using c,Xe]
   rfl
  ·rw [Xd c,show (l[i].1==5)=false by simpa using c,Xf]
 ·conv=>lhs;unfold Zuf.l0
  rw [Z8 (Yc _)];rfl
theorem Zw6 (l:List Zi) (hl:l.length≤20) {k:Nat} (hk:100≤k):Zme k l=some (Z5i l):=by
 have run:=Zrc (fun j i=>Zme.l0 j l (Zlo l i) (i:Int)) l.length (Z5i l) (fun i hi j=>?_) (fun j=>?_) k (by omega)
 ·have run:Zme.l0 k l 0 0=some (Z5i l):=run
  unfold Zme;exact Za run rfl
 ·conv=>lhs;unfold Zme.l0
  rw [dlt hi,Zs (by omega),Xa (by omega:(l.length:Int)≤20),Yda,Xe];refine Za (Zh hi) ?_;dsimp only;rw [Zlo,Zrg hi]
  by_cases c:l[i].1=5
  ·rw [Xc c,show (l[i].1==5)=true by simpa using c,Xe]
   rfl
  ·rw [Xd c,show (l[i].1==5)=false by simpa using c,Xf]
 ·conv=>lhs;unfold Zme.l0
  rw [Z8 (Yc _)];rfl
def Z7v (m:Zo) (x:Int):Bool:=!(Zm m.2 (3+m.1+x)==[])
def Z5g (m:Zo) (l:List Int):List Zkc:=(l.filter (Z7v m)).map fun x=>(false,(3+m.1+x,[]))
theorem Zzjb {m:Zo} {l:List Int} {i:Nat} (h:i<l.length):Z5g m (l.take (i+1))=if Z7v m l[i]=true then Z5g m (l.take i)++[(false,(3+m.1+l[i],[]))] else Z5g m (l.take i):=by
 unfold Z5g
 rw [Zjj h,List.filter_append]
 cases hp:Z7v m l[i] with
 | true=>rw [Xc rfl,List.filter_cons_of_pos hp,Y5a];rfl
 | false=>rw [Xd Y7,List.filter_cons_of_neg (by rw [hp];exact Y7)];simp
theorem Zp3 (m:Zo) (l:List Int):(Z5g m l).length≤l.length:=by
 unfold Z5g
 rw [Yk]
 exact Y1a _ _
def Znq (m:Zo) (l:List Int):List Zkc:=if Z5g m l=[] then [] else Z5g m l++[Z9e]
section
variable {m:Zo} {ph tr nd st dn:Int} {dg:Str} {v w:Nat}
theorem MS0.idle (h:MS0 m ph tr nd st dn dg v w) (h1:ph=1):tr=0∧nd=0∧st=0∧dn=0∧dg=[]∧(Zb w).length=0:=by
 have q:=h.sb
 unfold Zzg at q
 have q:=((Yb _ _).mp ((Yb _ _).mp q).2).2
 rw [Xc h1] at q
 exact of_decide_eq_true q
theorem MS0.busy (h:MS0 m ph tr nd st dn dg v w) (h1:ph≠1):(1≤nd∧nd≤20)∧(0≤st∧st≤4)∧((Zb w).length:Int)=nd+st∧dg.length=32∧(0≤tr∧tr≤2)∧(0≤dn∧dn≤40)∧(tr=0∨ph=4)∧(dn=0∨ph=5):=by
 have q:=h.sb
 unfold Zzg at q
 have q:=((Yb _ _).mp ((Yb _ _).mp q).2).2
 rw [Xd h1] at q
 exact of_decide_eq_true q
theorem MS0.keep (h:MS0 m ph tr nd st dn dg v w):Keep ph tr nd st dn dg v w:=by
 have hp:=h.hph
 by_cases c:ph=1
 ·obtain ⟨q1,q2,q3,q4,q5,q6⟩:=h.idle c
  exact ⟨by omega,by omega,by omega,by omega,by omega,by rw [q5];simp,h.hv,h.hw⟩
 ·obtain ⟨q1,q2,q3,q4,q5,q6,q7,q8⟩:=h.busy c
  exact ⟨by omega,by omega,by omega,by omega,by omega,by omega,h.hv,h.hw⟩
theorem Zkn (hv:v<16777216):Keep 1 0 0 0 0 [] v 0:=⟨by omega,by omega,by omega,by omega,by omega,by simp,hv,by omega⟩
theorem MS0.log (h:MS0 m ph tr nd st dn dg v w):((Zf m st w).length:Int)≤nd∧(Zf m st w).length≤20∧0≤st∧st+((Zf m st w).length:Int)≤((Zb w).length:Int):=by
 have hl:(Zf m st w).length≤(Zvh m st w).length:=Z96 _ _
 have ha:(Zvh m st w).length=(Zb w).length-st.toNat:=by unfold Zvh;simp
 have hs:=h.fit.s
 by_cases c:ph=1
 ·obtain ⟨q1,q2,q3,q4,q5,q6⟩:=h.idle c
  omega
 ·obtain ⟨q1,q2,q3,q4,q5,q6,q7,q8⟩:=h.busy c
  omega
theorem MS0.two (h:MS0 m ph tr nd st dn dg v w):2≤m.2.1.length:=by
 have:=h.fit.n
 have:=h.fit.b
 omega
theorem Z40 (v:Nat) (ph tr nd st dn:Int) (dg:Str) (x:List Int):Z3j (ph,(tr,(nd,(st,(dn,(dg,(Zb v,x)))))))=some (1,(0,(0,(0,(0,([],(Zb v,Zb 0))))))):=by
 have:=Z7d v
 have hc:Zw 8 ([]:List Int) (Zb v)=some (Zb v):=Z6 (by simp;omega)
 unfold Z3j
 refine Za hc ?_
 rw [Z8s]
theorem Zto (v w:Nat) (ph tr nd st dn:Int) (dg:Str):Z2j (ph,(tr,(nd,(st,(dn,(dg,(Zb v,Zb w)))))))=some (ph,(tr,(nd,(st,(dn,(dg,(Zb v,Zb w))))))):=by
 have:=Z7d v
 have:=Z7d w
 have hc:Zw 8 ([]:List Int) (Zb v)=some (Zb v):=Z6 (by simp;omega)
 have hd:Zw 8 ([]:List Int) (Zb w)=some (Zb w):=Z6 (by simp;omega)
 unfold Z2j
 exact Za hc (Za hd rfl)
theorem Zaqb (h:Fit m st w) (ph tr nd dn:Int) (dg:Str) (v:List Int) (p:Nat) (hp:p≤(Zb w).length) {k:Nat} (hk:1048577≤k):Z1f.l0 k k m.1 m.2.1 m.2.2 ph tr nd st dn dg v (Zb w) (p:Int) []=some (Z5g m ((Zb w).drop p)):=by
 have hb:=h.b
 have hn:=h.n
 have hw:=Z7d w
 have run:=Zrc (fun j i=>Z1f.l0 k j m.1 m.2.1 m.2.2 ph tr nd st dn dg v (Zb w) ((p+i:Nat):Int) (Z5g m (((Zb w).drop p).take i))) ((Zb w).drop p).length (Z5g m ((Zb w).drop p)) (fun i hi j=>?_) (fun j=>?_) k (by simp;omega)
 ·exact run
 ·have hi2:p+i<(Zb w).length:=by simp at hi;omega
  have hr:=Z3k hi2;have hg:((Zb w).drop p)[i]=(Zb w)[p+i]:=Y5;have he:=Zp3 m (((Zb w).drop p).take i);rw [Yl] at he
  conv=>lhs;unfold Z1f.l0
  rw [dlt hi2,Zs (by omega),Xe,Zzjb hi,hg];refine Za (Zh hi2) (Za (Ztu h hr.1 hr.2) (Za (Zon m.2 _ h.dirt (by omega) (by omega) (by have:=h.dirt;omega)) ?_));dsimp only;rw [show (!(Zm m.2 (3+m.1+(Zb w)[p+i])==[]))=Z7v m (Zb w)[p+i] from rfl];cases hq:Z7v m (Zb w)[p+i] with
  | true=>
   rw [Xe,Xc rfl];exact Za (Z6 (by simp;omega)) rfl
  | false=>rw [Xf,Xd Y7];rfl
 ·have hq:p+((Zb w).drop p).length=(Zb w).length:=by simp;omega
  conv=>lhs;unfold Z1f.l0
  rw [hq,Z8 (Yc _),Ym];rfl
def Zip (m:Zo) (ph tr nd st dn:Int) (dg:Str) (v w:Nat):List Zkc:=if ph=2 then Znq m ((Zb w).drop (st+Z5i (Zf m st w)).toNat) else if ph=3 then Z4c m.2 4 2 nd st dn dg v w else if ph=4 then (if tr=0 then Z4c m.2 1 0 0 0 0 [] v 0 else Z4c m.2 4 (tr-1) nd st dn dg v w) else if ph=5 then (if ((Zic (Zm m.2 2) dn).1=true∨dn=40)∨(m.2.1.length:Int)≤(Zic (Zm m.2 2) dn).2.1 then [] else [Zic (Zm m.2 2) dn,Z9e]++Z4c m.2 5 tr nd st (dn+1) dg v w) else []
theorem Z8mb (m:Zo) (l:List Int):(bif decide (0<((Z5g m l).length:Int)) then some (Z5g m l++[Z9e]) else some (Z5g m l))=some (Znq m l):=by
 unfold Znq
 by_cases c:Z5g m l=[]
 ·rw [Xc c,c]
  rfl
 ·have:0<(Z5g m l).length:=List.length_pos_iff.2 c
  rw [Xd c,Xa (by omega:(0:Int)<((Z5g m l).length:Int))];rfl
theorem Z5eb (h:MS0 m ph tr nd st dn dg v w):Zc fun k=>Zij k m (ph,(tr,(nd,(st,(dn,(dg,(Zb v,Zb w)))))))=some (Zip m ph tr nd st dn dg v w):=by
 have hf:=h.fit
 have hb:=hf.b
 have hn:=hf.n
 have hk0:=h.keep
 have hll:=h.log
 have hkl:=Zgcb (Zf m st w) (Zf m st w).length
 have hlw:=Z7d w
 have h2:=h.two
 unfold Zip
 by_cases c2:ph=2
 ·subst c2
  obtain ⟨p,hp⟩:∃p:Nat,st+Z5i (Zf m st w)=(p:Int):=⟨(st+Z5i (Zf m st w)).toNat,by unfold Z5i;omega⟩;have hple:p≤(Zb w).length:=by unfold Z5i at hp;omega
  refine ((Zuo 2 tr nd st dn dg (Zb v) hf).and (Zc.ge 1048577 fun k hk=>hk)).mono fun k ⟨e,hk⟩=>?_
  rw [Xc rfl,hp,Y2];have hel:=Zp3 m ((Zb w).drop p);rw [Yja] at hel;unfold Zij;refine Za (Zto v w _ _ _ _ _ _) ?_;show (bif ((2:Int)==2) then _ else _)=_;rw [show ((2:Int)==2)=true from rfl,Xe];refine Za (a:=Znq m ((Zb w).drop p)) ?_ rfl;unfold Z1f;refine Za e (Za (Zw6 _ hll.2.1 (by omega)) ?_);show Yba (Z1f.l0 k k m.1 m.2.1 m.2.2 2 tr nd st dn dg (Zb v) (Zb w) (Ya .i64 (st+Z5i (Zf m st w))) []) _=_;rw [hp,wn (by omega)];refine Za (Zaqb hf 2 tr nd dn dg (Zb v) p hple hk) ?_;rw [← Z8mb];cases decide (0<((Z5g m ((Zb w).drop p)).length:Int)) with
  | true=>exact Za (Z6 (by simp;omega)) rfl
  | false=>rfl
 ·rw [Xd c2]
  by_cases c3:ph=3
  ·subst c3
   rw [Xc rfl];refine (Zqk (m:=m) hf.f h2 (a:=4) (b:=2) { hk0 with a:=by omega,b:=by omega }).mono fun k e=>?_
   unfold Zij;exact Za (Zto v w _ _ _ _ _ _) (Za e rfl)
  ·rw [Xd c3]
   by_cases c4:ph=4
   ·subst c4
    rw [Xc rfl]
    by_cases ct:tr=0
    ·subst ct
     rw [Xc rfl];refine (Zqk (m:=m) hf.f h2 (Zkn h.hv)).mono fun k e=>?_
     unfold Zij;exact Za (Zto v w _ _ _ _ _ _) (Za (Z40 v _ _ _ _ _ _ _) (Za e rfl))
    ·rw [Xd ct]
     have hbz:=(h.busy (by omega)).2.2.2.2.1;refine (Zqk (m:=m) hf.f h2 (a:=4) (b:=tr-1) { hk0 with a:=by omega,b:=by omega }).mono fun k e=>?_
     unfold Zij;refine Za (Zto v w _ _ _ _ _ _) ?_;show (bif (tr==0) then _ else _)=_;rw [show (tr==0)=false by simpa using ct,Xf];show Yba (Zlf k m (4,(Ya .i64 (tr-1),(nd,(st,(dn,(dg,(Zb v,Zb w)))))))) _=_;rw [w64 (n:=tr-1) (by omega) (by omega)];exact Za e rfl
   ·rw [Xd c4]
    by_cases c5:ph=5
    ·subst c5
     rw [Xc rfl];obtain ⟨q1,q2,q3,q4,q5,q6,q7,q8⟩:=h.busy (by omega);have hat:=Zfdb (Zm m.2 2) dn;have hdr:=hf.dirt;have hl:m.2.1.length≤1048576:=by omega
     refine (((Zifb (Zm m.2 2) (by have:=Zeo hf.f 2;omega) dn).and (Zqk (m:=m) hf.f h2 (a:=5) (e:=dn+1) { hk0 with a:=by omega,e:=by omega })).and (Zc.ge 1048577 fun k hk=>hk)).mono fun k ⟨⟨e1,e2⟩,hk⟩=>?_
     unfold Zij;refine Za (Zto v w _ _ _ _ _ _) ?_;show Yba (Zub k m.2 2) _=_;refine Za (Zon m.2 2 hdr (by omega) (by omega) (by omega)) (Za e1 ?_);show (bif ((Zic (Zm m.2 2) dn).1||decide (40≤dn))||decide ((m.2.1.length:Int)≤(Zic (Zm m.2 2) dn).2.1) then _ else _)=_
     by_cases cc:((Zic (Zm m.2 2) dn).1=true∨dn=40)∨(m.2.1.length:Int)≤(Zic (Zm m.2 2) dn).2.1
     ·rw [Xc cc,show (((Zic (Zm m.2 2) dn).1||decide (40≤dn))||decide ((m.2.1.length:Int)≤(Zic (Zm m.2 2) dn).2.1))=true by
       rcases cc with (q | q) | q
       ·rw [q];rfl
       ·rw [Xa (by omega:(40:Int)≤dn),Yq];rfl
       ·rw [Xa q,Yq]]
      rfl
     ·rw [Xd cc,show (((Zic (Zm m.2 2) dn).1||decide (40≤dn))||decide ((m.2.1.length:Int)≤(Zic (Zm m.2 2) dn).2.1))=false by
       have a1:(Zic (Zm m.2 2) dn).1=false:=by
        cases q:(Zic (Zm m.2 2) dn).1 with
        | false=>rfl
        | true=>exact absurd (.inl (.inl q)) cc
       rw [a1,Xb (fun q=>cc (.inl (.inr (by omega)))),Xb (fun q=>cc (.inr q))];rfl,Xf]
      show Yba (Zlf k m (5,(tr,(nd,(st,(Ya .i64 (dn+1),(dg,(Zb v,Zb w)))))))) _=_;rw [w64 (n:=dn+1) (by omega) (by omega)];refine Za e2 ?_;have hkl2:=Z0t m.2 (Zdd (5,tr,nd,st,dn+1,(v:Int),(w:Int),dg));exact Za (Z6 (by unfold Z4c;simp;omega)) rfl
    ·rw [Xd c5]
     refine Zc.of fun k=>?_
     have hph:=h.hph;have:ph=1:=by omega
     subst this;unfold Zij;exact Za (Zto v w _ _ _ _ _ _) rfl
end
theorem Zh7:∀{a b:List Nat},a.Pairwise (· < ·)→b.Pairwise (· < ·)→(∀x,x∈a ↔ x∈b)→a=b
 | [],[],_,_,_=>rfl
 | [],y::b,_,_,h=>by have:=(h y).2 Ys;cases this
 | x::a,[],_,_,h=>by have:=(h x).1 Ys;cases this
 | x::a,y::b,ha,hb,h=>by
  have ha':=Ydb.1 ha;have hb':=Ydb.1 hb
  have e:x=y:=by
   rcases Yo.1 ((h x).1 Ys) with e | e
   ·exact e
   ·rcases Yo.1 ((h y).2 Ys) with f | f
    ·exact f.symm
    ·have:=hb'.1 x e
     have:=ha'.1 y f;omega
  subst e;rw [Zh7 ha'.2 hb'.2 fun z=>⟨fun hz=>?_,fun hz=>?_⟩]
  ·rcases Yo.1 ((h z).1 (Y6 _ hz)) with e | e
   ·have:=ha'.1 z hz;omega
   ·exact e
  ·rcases Yo.1 ((h z).2 (Y6 _ hz)) with e | e
   ·have:=hb'.1 z hz;omega
   ·exact e
def orP:List Nat→Nat
 | []=>0
 | x::l=>2^x ||| orP l
theorem Zsw (l:List Nat) (i:Nat):(orP l).testBit i=decide (i∈l):=by
 induction l with
 | nil=>simp [orP]
 | cons x l ih=>
  rw [orP,Ymb,ih,Nat.testBit_two_pow];rw [Bool.eq_iff_iff];simp only [Ysa,decide_eq_true_eq,Yo];constructor
  ·rintro (h | h)
   ·exact .inl h.symm
   ·exact .inr h
  ·rintro (h | h)
   ·exact .inl h.symm
   ·exact .inr h
theorem Zz5 {l:List Nat} (h:∀x∈l,x<24):orP l<16777216:=by
 have:orP l<2^24:=by
  induction l with
  | nil=>simp [orP]
  | cons x l ih=>
   rw [orP];exact Yib (Nat.pow_lt_pow_right (by omega) (h x Ys)) (ih fun y hy=>h y (Y6 _ hy))
 simpa using this
theorem Z78 {l:List Nat} (hs:l.Pairwise (· < ·)) (h:∀x∈l,x<24):Z1b (orP l) 24=l:=by
 refine Zh7 (Zwr _ _) hs fun x=>?_
 unfold Z1b
 rw [List.mem_filter,Y9,Zsw,decide_eq_true_eq]
 exact ⟨fun q=>q.2,fun q=>⟨h x q,q⟩⟩
theorem and_zero {v u:Nat} (h:∀i,i<24→¬(v.testBit i=true∧u.testBit i=true)) (hv:v<16777216):v &&& u=0:=by
 refine Nat.eq_of_testBit_eq fun i=>?_
 rw [Nat.testBit_and,Nat.zero_testBit]
 by_cases hi:i<24
 ·have:=h i hi
  cases h1:v.testBit i with
  | false=>rfl
  | true=>
   cases h2:u.testBit i with
   | false=>rfl
   | true=>exact absurd ⟨h1,h2⟩ this
 ·rw [Nat.testBit_lt_two_pow (Nat.lt_of_lt_of_le (show v<2^24 by simpa using hv) (Nat.pow_le_pow_right (by omega) (by omega)))]
  rfl
theorem Zkhb {v u:Nat} (hv:v<16777216) (hu:u<16777216) (h:v &&& u=0):v+u=v ||| u:=by
 have h1:=BitVec.add_eq_or_of_and_eq_zero (Yca 32 v) (Yca 32 u) (by
  apply BitVec.eq_of_toNat_eq;rw [BitVec.toNat_and,Y0,Y0,Yy (by omega),Yy (by omega),h];rfl)
 have h2:=congrArg BitVec.toNat h1
 rw [BitVec.toNat_add,BitVec.toNat_or,Y0,Y0,Yy (a:=v) (by omega),Yy (a:=u) (by omega),Yy (by omega)] at h2
 exact h2
def Zhe (v w:Nat):Nat:=16777215 ^^^ (v ||| w)
theorem Zkob {i:Nat} (h:i<24):(16777215:Nat).testBit i=true:=by
 have:(2^24-1).testBit i=decide (i<24):=Nat.testBit_two_pow_sub_one 24 i
 rw [Xa h] at this
 exact this
theorem Zibb {v w i:Nat} (h:i<24):(Zhe v w).testBit i=(!(v.testBit i) && !(w.testBit i)):=by
 unfold Zhe
 rw [Nat.testBit_xor,Zkob h,Ymb]
 cases v.testBit i <;> cases w.testBit i <;> rfl
theorem Zaz {v w:Nat} (hv:v<16777216) (hw:w<16777216):Zhe v w<16777216:=by
 have h:v ||| w<2^24:=Yib (by simpa using hv) (by simpa using hw)
 have:Zhe v w<2^24:=Nat.xor_lt_two_pow (by omega) h
 simpa using this
abbrev Zih:=Int×Int
def Zym (acc:List Zih) (n:Int):List Zih:=match acc.getLast? with
 | some e=>if e.1+e.2=n then acc.dropLast++[(e.1,e.2+1)] else acc++[(n,1)]
 | none=>[(n,1)]
def Z5c (l:List Int):List Zih:=l.foldl Zym []
def Zbv (l:List Int) (acc:List Zih):Prop:=∀e∈acc,1≤e.2∧∀x,e.1≤x→x<e.1+e.2→x∈l
theorem Zhhb {l:List Int} {acc:List Zih} (h:Zbv l acc) {n:Int} (hn:n∈l):Zbv l (Zym acc n):=by
 have one:∀e∈[((n,1):Zih)],1≤e.2∧∀x,e.1≤x→x<e.1+e.2→x∈l:=fun e he=>by
  rw [Ybb.1 he];refine ⟨Y1 _,fun x h1 h2=>?_⟩;have h1:n≤x:=h1;have h2:x<n+1:=h2;rw [show x=n by omega];exact hn
 unfold Zym
 cases hl:acc.getLast? with
 | none=>exact one
 | some e=>
  have hm:e∈acc:=Y9a hl;dsimp only;split
  ·rename_i he
   intro z hz;rcases Y8a.1 hz with hz | hz
   ·exact h z (List.dropLast_subset _ hz)
   ·rw [Ybb.1 hz]
    obtain ⟨h1,h2⟩:=h e hm;refine ⟨by show 1≤e.2+1;omega,fun x q1 q2=>?_⟩;have q1:e.1≤x:=q1;have q2:x<e.1+(e.2+1):=q2
    by_cases c:x<e.1+e.2
    ·exact h2 x q1 c
    ·rw [show x=n by omega]
     exact hn
  ·intro z hz
   rcases Y8a.1 hz with hz | hz
   ·exact h z hz
   ·exact one z hz
theorem Z4eb (l:List Int):Zbv l (Z5c l):=by
 have:∀(r:List Int) (acc:List Zih),(∀x∈r,x∈l)→Zbv l acc→Zbv l (r.foldl Zym acc):=by
  intro r
  induction r with
  | nil=>intro acc _ h;exact h
  | cons x r ih=>
   intro acc hx h;exact ih _ (fun y hy=>hx y (Y6 _ hy)) (Zhhb h (hx x Ys))
 exact this l [] (fun x hx=>hx) (fun e he=>nomatch he)
theorem Zihb (acc:List Zih) (n:Int):(Zym acc n).length≤acc.length+1:=by
 unfold Zym
 cases hl:acc.getLast? with
 | none=>simp
 | some e=>
  dsimp only;split
  ·rw [Yh,List.length_dropLast,Yw,Yka];omega
  ·simp
theorem Zt6 {l:List Int} {i:Nat} (h:i<l.length):Z5c (l.take (i+1))=Zym (Z5c (l.take i)) l[i]:=by
 unfold Z5c
 rw [Zjj h,List.foldl_append]
 rfl
theorem Zs6 (l:List Int):∀i,(Z5c (l.take i)).length≤i
 | 0=>by simp [Z5c]
 | i+1=>by
  have ih:=Zs6 l i
  by_cases h:i<l.length
  ·rw [Zt6 h]
   have:=Zihb (Z5c (l.take i)) l[i];omega
  ·rw [Yna (by omega)] at ih ⊢
   omega
theorem Ztpb {l:List Int}:∀i,(h:i<l.length)→∃e,(Z5c (l.take (i+1))).getLast? = some e∧e.1+e.2=l[i]+1:=by
 intro i h
 rw [Zt6 h]
 unfold Zym
 cases hl:(Z5c (l.take i)).getLast? with
 | none=>exact ⟨(l[i],1),rfl,rfl⟩
 | some e=>
  dsimp only;split
  ·rename_i he
   exact ⟨(e.1,e.2+1),Y0a,by show e.1+(e.2+1)=_;omega⟩
  ·exact ⟨(l[i],1),Y0a,rfl⟩
def Zhm (a:Int) (n:Nat):List Int:=(Yi n).map fun (i:Nat)=>a+(i:Int)
def Zcj (f:Nat) (n:Int):Option (List Int):=
 if ((Zb f).length:Int)<n then none
 else match Zmb (fun (e:Zih)=>decide (n≤e.2)) (Z5c (Zb f)) 0 with
  | some i=>some (Zhm ((Z5c (Zb f)).getD i (0,0)).1 n.toNat)
  | none=>some ((Zb f).take n.toNat)
theorem Zerb {a n:Nat} (h:a+n≤24):∃u,u<16777216∧Zb u=Zhm (a:Int) n∧∀i,u.testBit i=true→a≤i∧i<a+n:=by
 have hs:((Yi n).map (a + ·)).Pairwise (· < ·):=by
  rw [List.pairwise_map];exact List.pairwise_lt_range.imp fun h=>by omega
 have hm:∀x∈(Yi n).map (a + ·),a≤x∧x<a+n:=fun x hx=>by
  obtain ⟨y,hy,rfl⟩:=Yx.1 hx;rw [Y9] at hy;omega
 refine ⟨orP ((Yi n).map (a + ·)),Zz5 fun x hx=>by have:=hm x hx;omega,?_,fun i hi=>?_⟩
 ·unfold Zb Zhm
  rw [Z78 hs fun x hx=>by have:=hm x hx;omega,Y6a];refine List.map_congr_left fun i _=>?_
  show ((a+i:Nat):Int)=_;omega
 ·rw [Zsw,decide_eq_true_eq] at hi
  exact hm i hi
theorem Z9rb (f n:Nat) (hf:f<16777216):∃u,u<16777216∧Zb u=(Zb f).take n∧∀i,u.testBit i=true→f.testBit i=true:=by
 have hs:((Z1b f 24).take n).Pairwise (· < ·):=(Zwr f 24).sublist (List.take_sublist _ _)
 have hm:∀x∈(Z1b f 24).take n,x<24∧f.testBit x=true:=fun x hx=>Z9s (Yab hx)
 refine ⟨orP ((Z1b f 24).take n),Zz5 fun x hx=>(hm x hx).1,?_,fun i hi=>?_⟩
 ·unfold Zb
  rw [Z78 hs fun x hx=>(hm x hx).1,Y7a]
 ·rw [Zsw,decide_eq_true_eq] at hi
  exact (hm i hi).2
theorem Zh6 {f:Nat} (hf:f<16777216) {n:Int} (h0:1≤n) {l:List Int} (h:Zcj f n=some l):(∃u,u<16777216∧l=Zb u∧∀i,u.testBit i=true→f.testBit i=true)∧(l.length:Int)=n:=by
 unfold Zcj at h
 split at h
 ·cases h
 ·rename_i hn
  cases hi:Zmb (fun (e:Zih)=>decide (n≤e.2)) (Z5c (Zb f)) 0 with
  | none=>
   rw [hi] at h;cases h;obtain ⟨u,h1,h2,h3⟩:=Z9rb f n.toNat hf;exact ⟨⟨u,h1,h2.symm,h3⟩,by rw [Yl];omega⟩
  | some i=>
   rw [hi] at h;cases h;obtain ⟨_,hlt,hp,_⟩:=Zdk hi;have hp:=of_decide_eq_true hp;simp only [Ylb] at hlt hp
   have hd:(Z5c (Zb f)).getD i (0,0)=(Z5c (Zb f))[i]:=by
    rw [Yu,Yf hlt];rfl
   rw [hd];have hr:=(Z4eb (Zb f) _ (Yn hlt)).2;generalize (Z5c (Zb f))[i]=e at hp hr;have m0:=hr e.1 (Y1 _) (by omega);have m1:=hr (e.1+n-1) (by omega) (by omega)
   obtain ⟨a,ha⟩:∃a:Nat,e.1=(a:Int):=by
    obtain ⟨y,_,hy⟩:=Yx.1 (show e.1∈(Z1b f 24).map _ from m0);exact ⟨y,hy.symm⟩
   obtain ⟨k,rfl⟩:∃k:Nat,n=(k:Int):=⟨n.toNat,by omega⟩
   have b1:a+k≤24:=by
    obtain ⟨y,hy,hy2⟩:=Yx.1 (show e.1+(k:Int)-1∈(Z1b f 24).map _ from m1);have:=(Z9s hy).1;have hy2:((y:Nat):Int)=e.1+(k:Int)-1:=hy2;omega
   obtain ⟨u,u1,u2,u3⟩:=Zerb b1;rw [Y2,ha];refine ⟨⟨u,u1,u2.symm,fun i hi=>?_⟩,by simp [Zhm]⟩;have:=u3 i hi;have hm:=hr (i:Int) (by omega) (by omega);exact (Zoo.1 hm).2
theorem Zbfb (v w:Nat) {k:Nat} (hk:100<k):Z1e k (Zb v) (Zb w)=some (Zb (Zhe v w)):=by
 have hlv:=Z7d v
 have hlw:=Z7d w
 have run:=Zrc (fun j i=>Z1e.l0 k j (Zb v) (Zb w) (i:Int) ((Z1b (Zhe v w) i).map fun n=>((n:Nat):Int))) 24 (Zb (Zhe v w)) (fun i hi j=>?_) (fun j=>?_) k (by omega)
 ·have run:Z1e.l0 k k (Zb v) (Zb w) 0 []=some (Zb (Zhe v w)):=run
  unfold Z1e;exact Za run rfl
 ·have hn:=Zgy (Zhe v w) i
  have m1:decide (((i:Nat):Int)∈Zb v)=v.testBit i:=by
   cases hb:v.testBit i with
   | true=>exact Xa (Zoo.2 ⟨hi,hb⟩)
   | false=>exact Xb fun q=>by rw [(Zoo.1 q).2] at hb;cases hb
  have m2:decide (((i:Nat):Int)∈Zb w)=w.testBit i:=by
   cases hb:w.testBit i with
   | true=>exact Xa (Zoo.2 ⟨hi,hb⟩)
   | false=>exact Xb fun q=>by rw [(Zoo.1 q).2] at hb;cases hb
  conv=>lhs;unfold Z1e.l0
  rw [Xa (by omega:(i:Int)<24),Zs (by omega),Xe,Zhy,Zibb hi];refine Za (Z30 _ _ (by omega) k (by omega)) ?_;rw [m1];cases v.testBit i with
  | true=>rfl
  | false=>
   simp only [Yfa,Xe,Yg];refine Za (Z30 _ _ (by omega) k (by omega)) ?_;rw [m2];cases w.testBit i with
   | true=>rfl
   | false=>
    simp only [Yfa,Xe,if_true];refine Za (Z6 (by simp;omega)) ?_;rw [Y5a];rfl
 ·conv=>lhs;unfold Z1e.l0
  rfl
theorem Zgrb (l:List Zih) (x y:Zih):(l++[x]).set l.length y=l++[y]:=by
 rw [List.set_append_right _ _ (Yc _),Ykb]
 rfl
theorem Zlcb {acc:List Zih} {e:Zih} (h:acc.getLast? = some e):acc=acc.dropLast++[e]∧at? acc (((acc.length-1:Nat)):Int)=some e∧0<acc.length:=by
 have h1:acc=acc.dropLast++[e]:=by
  rw [List.getLast?_eq_some_iff] at h;obtain ⟨l,rfl⟩:=h;rw [List.dropLast_concat]
 have h2:0<acc.length:=by rw [h1];simp
 refine ⟨h1,?_,h2⟩
 rw [Zh (by omega)]
 rw [List.getLast?_eq_getElem?] at h
 rw [Yf (by omega)] at h
 exact h
theorem Zjhb {acc:List Zih} {e:Zih} (h:acc.getLast? = some e) (n:Int):Zym acc n=if e.1+e.2=n then acc.set (acc.length-1) (e.1,e.2+1) else acc++[(n,1)]:=by
 have h1:=(Zlcb h).1
 unfold Zym
 rw [h]
 dsimp only
 split
 ·generalize acc.dropLast=d at h1
  subst h1;rw [Yh,Y4a,Nat.add_sub_cancel,Zgrb]
 ·rfl
theorem Z2eb {v:Nat} {i:Nat} {e:Zih} (h:e∈Z5c ((Zb v).take i)):0≤e.1∧1≤e.2∧e.1+e.2≤24:=by
 obtain ⟨h1,h2⟩:=Z4eb _ e h
 have lim:∀x∈(Zb v).take i,0≤x∧x≤23:=fun x hx=>by
  obtain ⟨j,hj,rfl⟩:=Yt.1 (Yab hx);exact Z3k hj
 have:=lim _ (h2 e.1 (Y1 _) (by omega))
 have:=lim _ (h2 (e.1+e.2-1) (by omega) (by omega))
 omega
theorem Zuqb (v:Nat) {k:Nat} (hk:100<k):Zif k (Zb v)=some (Z5c (Zb v)):=by
 have hlv:=Z7d v
 have run:=Zrc (fun j i=>Zif.l0 j (Zb v) (i:Int) (Z5c ((Zb v).take i))) (Zb v).length (Z5c (Zb v)) (fun i hi j=>?_) (fun j=>?_) k (by omega)
 ·have run:Zif.l0 k (Zb v) 0 []=some (Z5c (Zb v)):=run
  unfold Zif;exact Za run rfl
 ·have hrl:=Zs6 (Zb v) i
  have hx:=Z3k hi
  conv=>lhs;unfold Zif.l0
  rw [dlt hi,Zs (by omega),Xe,Zt6 hi];dsimp only
  by_cases h0:i=0
  ·subst h0
   rw [show decide (0<((0:Nat):Int))=false from rfl,Xf];refine Za (Zh hi) (Za (Z6 (by simp [Z5c])) ?_);rfl
  ·rw [Xa (by omega:(0:Int)<(i:Int)),Xe]
   obtain ⟨p,rfl⟩:∃p,i=p+1:=⟨i-1,by omega⟩;have hp:p<(Zb v).length:=by omega
   have hy:=Z3k hp;obtain ⟨e,hl,he⟩:=Ztpb p hp;obtain ⟨h1,h2,h3⟩:=Zlcb hl;have hr:=Z2eb (v:=v) (i:=p+1) (e:=e) (Y9a hl)
   have hat:at? (Z5c ((Zb v).take (p+1))) (((Z5c ((Zb v).take (p+1))).length:Int)-1)=some e:=by
    have q:((Z5c ((Zb v).take (p+1))).length:Int)-1=(((Z5c ((Zb v).take (p+1))).length-1:Nat):Int):=by omega
    rw [q];exact h2
   rw [show Ya .i64 (((p+1:Nat):Int)-1)=((p:Nat):Int) by rw [w64 (by omega) (by omega)];omega];refine Za (Zh hp) (Za (Zh hi) ?_);rw [w64 (n:=(Zb v)[p]+1) (by omega) (by omega),Zjhb hl,he]
   by_cases c:(Zb v)[p]+1=(Zb v)[p+1]
   ·rw [Xc c,show ((Zb v)[p]+1==(Zb v)[p+1])=true by simpa using c,Xe,w64 (n:=((Z5c ((Zb v).take (p+1))).length:Int)-1) (by omega) (by omega)]
    refine Za hat (Za hat (Za hat (Za hat ?_)));rw [w64 (n:=e.2+1) (by omega) (by omega),show (((Z5c ((Zb v).take (p+1))).length:Int)-1).toNat=(Z5c ((Zb v).take (p+1))).length-1 by omega]
   ·rw [Xd c,show ((Zb v)[p]+1==(Zb v)[p+1])=false by simpa using c,Xf]
    exact Za (Zh hi) (Za (Z6 (by simp;omega)) rfl)
 ·conv=>lhs;unfold Zif.l0
  rw [Z8 (Yc _),Ym];rfl
def Zt3:List (Nat×Nat):=(Yi 24).flatMap fun a=>(Yi (24-a)).map fun n=>(a,n+1)
theorem Z4mb (m:Nat):(Zt3.all fun p=>decide (Zmc (m+60) [((p.1:Int),(p.2:Int))]=some (Zhm (p.1:Int) p.2,0)))=true:=by kernel_rfl
theorem Zkqb {a n:Nat} (h1:1≤n) (h:a+n≤24) {k:Nat} (hk:60≤k):Zmc k [((a:Int),(n:Int))]=some (Zhm (a:Int) n,0):=by
 obtain ⟨m,rfl⟩:∃m,k=m+60:=⟨k-60,by omega⟩
 have hm:(a,n)∈Zt3:=by
  unfold Zt3;rw [List.mem_flatMap];refine ⟨a,Y9.2 (by omega),?_⟩;rw [Yx];exact ⟨n-1,Y9.2 (by omega),by rw [Nat.sub_add_cancel h1]⟩
 exact of_decide_eq_true (List.all_eq_true.1 (Z4mb m) _ hm)
theorem Za7 (a:Int) (n:Nat):(Zhm a n).length=n:=by simp [Zhm]
def Zfu (r:Option (List Int)) (c:Int):List Int×Int:=match r with
 | some l=>(l,0)
 | none=>([],c)
theorem Zopb {v:Nat} {e:Zih} (h:e∈Z5c (Zb v)):∃a c:Nat,e=((a:Int),(c:Int))∧1≤c∧a+c≤24:=by
 have:=Z2eb (v:=v) (i:=(Zb v).length) (e:=e) (by rw [Ym];exact h)
 exact ⟨e.1.toNat,e.2.toNat,Prod.ext (by show e.1=_;omega) (by show e.2=_;omega),by omega,by omega⟩
theorem Zupb (v:Nat):(Z5c (Zb v)).length≤24:=by
 have:=Zs6 (Zb v) (Zb v).length
 rw [Ym] at this
 have:=Z7d v
 omega
theorem Zg3 {α:Type} {l:List α} {n:Nat} (h:n≤l.length):Z2b l 0 (n:Int)=some (l.take n):=by
 have:=Zhi (l:=l) (i:=0) (j:=n) (by omega) h
 rw [Y4] at this
 exact this
theorem Z46 (v w n:Nat) (hv:v<16777216) (hw:w<16777216) (h1:1≤n) {k:Nat} (hk:200≤k):Zbd k (Zb v) (Zb w) (n:Int)=some (Zfu (Zcj (Zhe v w) (n:Int)) 11):=by
 have hrl:=Zupb (Zhe v w)
 unfold Zbd Zcj
 refine Za (Zbfb v w (by omega)) ?_
 by_cases c:((Zb (Zhe v w)).length:Int)<(n:Int)
 ·rw [Xa c,Xc c]
  rfl
 ·rw [Xb c,Xd c,Xf]
  refine Za (Zuqb _ (by omega)) ?_;have run:=Zii (fun j i=>Zbd.l0 k j (n:Int) i 0 (Z5c (Zb (Zhe v w))) []) (Z5c (Zb (Zhe v w))) (fun e=>decide ((n:Int)≤e.2)) (.inl (0,[])) (fun i=>.inr (0,Zhm ((Z5c (Zb (Zhe v w))).getD i (0,0)).1 n)) (fun i hi=>⟨fun hp j=>?_,fun hp j=>?_⟩) (fun j=>?_) (k:=k) (by omega)
  ·have run:Zbd.l0 k k (n:Int) 0 0 (Z5c (Zb (Zhe v w))) []=_:=run
   refine Za run ?_;cases Zmb (fun (e:Zih)=>decide ((n:Int)≤e.2)) (Z5c (Zb (Zhe v w))) 0 with
   | none=>exact Za (Zg3 (by omega)) rfl
   | some i=>rfl
  ·show Zbd.l0 k (j+1) (n:Int) (i:Int) _ _ _=Zbd.l0 k j (n:Int) ((i+1:Nat):Int) _ _ _
   conv=>lhs;unfold Zbd.l0
   rw [dlt hi,Zs (by omega),Xe];refine Za (Zh hi) (Za (Zh hi) ?_);rw [hp];rfl
  ·show Zbd.l0 k (j+1) (n:Int) (i:Int) _ _ _=_
   obtain ⟨a,q,he,q1,q2⟩:=Zopb (Yn hi)
   have hd:(Z5c (Zb (Zhe v w))).getD i (0,0)=((a:Int),(q:Int)):=by
    rw [Yu,Yf hi];exact he
   have hp':=of_decide_eq_true hp;rw [he] at hp';have hp':(n:Int)≤(q:Int):=hp'
   have hmax:Zhr 1 (n:Int)=some (n:Int):=by
    unfold Zhr
    by_cases c1:(n:Int)<1
    ·omega
    ·rw [Xb c1]
     rfl
   conv=>lhs;unfold Zbd.l0
   rw [dlt hi,Zs (by omega),Xe];refine Za (Zh hi) (Za (Zh hi) ?_);rw [hp,Xe];refine Za (Zh hi) (Za (Zh hi) (Za hmax ?_));rw [he,hd];refine Za (Zkqb h1 (by omega) (by omega)) ?_
   have hc:Z2b (Zhm (a:Int) n) 0 (n:Int)=some (Zhm (a:Int) n):=by
    rw [Zg3 (by rw [Za7];exact Yc _),Yna (by rw [Za7];exact Yc _)]
   exact Za hc rfl
  ·show Zbd.l0 k (j+1) (n:Int) _ _ _ _=_
   unfold Zbd.l0;rw [Z8 (Yc _)];rfl
abbrev Zhd:=Int×Int×Int×Str×Zi
def Z0x (s:Zi):Bool:=decide (s.1=0)&&(decide (s.2.1=0)&&(decide (s.2.2.1=0)&&(s.2.2.2==[])))
def Zkh (c:Zhd):Bool:=if c.1=1 then (decide (1≤c.2.1)&&decide (c.2.1≤20))&&(decide (0≤c.2.2.1)&&decide (c.2.2.1≤4))&&decide ((c.2.2.2.1.length:Int)=32)&&Z0x c.2.2.2.2 else if c.1=2 then decide (c.2.1=0)&&decide (c.2.2.1=0)&&(c.2.2.2.1==[])&&Z6c c.2.2.2.2.1 c.2.2.2.2.2.1 c.2.2.2.2.2.2.1 c.2.2.2.2.2.2.2 8 else if c.1=9 then (decide (1≤c.2.1)&&decide (c.2.1≤24))&&decide (c.2.2.1=0)&&(c.2.2.2.1==[])&&Z0x c.2.2.2.2 else if c.1=7 then (decide (0≤c.2.1)&&decide (c.2.1≤1000000))&&decide (c.2.2.1=0)&&(c.2.2.2.1==[])&&Z0x c.2.2.2.2 else (decide (1≤c.1)&&decide (c.1≤11))&&decide (c.2.1=0)&&decide (c.2.2.1=0)&&(c.2.2.2.1==[])&&Z0x c.2.2.2.2
theorem Zbx (c:Zhd):Zll c=some (Zkh c):=by
 obtain ⟨o,a,b,t,s⟩:=c
 have hs:Z4h s 8=some (Z6c s.1 s.2.1 s.2.2.1 s.2.2.2 8):=Zex s.1 s.2.1 s.2.2.1 s.2.2.2 8 (by decide) (by decide)
 unfold Zll Zkh Z0x
 simp only [Z9,Ye,hs,bne,Zei]
 generalize (decide (s.1=0)&&(decide (s.2.1=0)&&(decide (s.2.2.1=0)&&(s.2.2.2==[]))))=Z
 generalize (t==([]:Str))=E
 generalize Z6c s.1 s.2.1 s.2.2.1 s.2.2.2 8=S
 generalize decide ((t.length:Int)=32)=W
 by_cases c1:o=1
 ·subst c1
  generalize (decide (1≤a)&&decide (a≤20))=P;generalize (decide (0≤b)&&decide (b≤4))=Q;cases P <;> cases Q <;> cases W <;> cases Z <;> simp
 by_cases c2:o=2
 ·subst c2
  generalize decide (a=0)=P;generalize decide (b=0)=Q;cases P <;> cases Q <;> cases E <;> cases S <;> simp
 by_cases c9:o=9
 ·subst c9
  generalize (decide (1≤a)&&decide (a≤24))=P;generalize decide (b=0)=Q;cases P <;> cases Q <;> cases E <;> cases Z <;> simp
 by_cases c7:o=7
 ·subst c7
  generalize (decide (0≤a)&&decide (a≤1000000))=P;generalize decide (b=0)=Q;cases P <;> cases Q <;> cases E <;> cases Z <;> simp
 simp only [Xb c1,Xb c2,Xb c9,Xb c7,Xd c1,Xd c2,Xd c9,Xd c7]
 generalize decide (a=0)=P
 generalize decide (b=0)=Q
 generalize (decide (1≤o)&&decide (o≤11))=R
 cases P <;> cases Q <;> cases E <;> cases Z <;> cases R <;> simp
end Go.Proofs.Qz
