/- What the law FnMachine needs, part 16 of 16: the Lean functions of the Go functions that it reaches, with the proofs that the calls come to what they say, and plain facts about them; the last theorem is the law. Conditions: those that each theorem states. Written by a session and by its programs (after the kit's printer). -/
import Derived.Test.YtmohoeinamddcaaGreatRows
import Derived.Carry
import Derived.Handed
import Derived.Test.YtmohoeinamddcaaGreatXFnMachine5
import Derived.Test.YtmohoeinamddcaaGreatXFnMachine9
import Derived.Test.YtmohoeinamddcaaGreatXFnMachine13
import Derived.Test.YtmohoeinamddcaaGreatXFnMachine14
open Go.Proofs.Tryz renaming prog → Ya, f3 → Yb, checked → Ye, func3 → Yi
open Option renaming bind → Yc
open Go.IntKind renaming wrap → Yd
open Bool renaming and_eq_true → Yf
open List renaming mem_cons → Yg, not_mem_nil → Yh
namespace Go.Proofs.Qz
open Go
set_option linter.unusedVariables false
theorem Zf1 {m:Zo} (h:BM m) (i:Nat) (t:Str):BM (m.1,(m.2.1.set i t,m.2.2)):=⟨h.1,⟨by show (m.2.1.set i t).length≤_;rw [List.length_set];exact h.2.s,h.2.d⟩⟩
theorem Zlnb (s:Z0b) (hs:Src s) (m:Zo) (hm:BM m):Ev (fun k=>Zfd.j0 k s.1 s.2.1 s.2.2.1 s.2.2.2 m.1 m.2.1 m.2.2) MS7:=by
 unfold Zfd.j0
 obtain ⟨v8,e8,h8⟩:=Zdg s hs 4 (by omega)
 refine Ev.bnd e8 (Ev.cond (fun _=>?_) fun _=>Ev.ret ⟨h8,hm⟩)
 refine Ev.bind (Zy9 v8.2 h8 m.1 hm.1) fun v9 h9=>?_
 dsimp only
 refine Ev.bnd (Zbx _) (Ev.cond (fun _=>?_) fun _=>?_)
 ·obtain ⟨v13,e13,h13,_⟩:=Z3 _ h9 8 (by omega)
  refine Ev.bnd e13 (Ev.bind (Z4jb v13.2 h13) fun v14 h14=>?_);refine Ev.bind (Q:=fun (r:Int×List Str×List Z5b×Int)=>BM (r.1,(r.2.1,r.2.2.1))) (Ev.ever (Z7pb m _ v13.1 h14.1.1 hm.2.s hm.2.d) (Z7ib hm _ v13.1 v14.1)) fun v15 h15=>?_
  obtain ⟨v16,e16,h16⟩:=Zdg _ h14.2 2 (by omega);refine Ev.bnd e16 (Ev.cond (fun _=>?_) fun _=>Ev.ret ⟨h16,h15⟩);exact Ev.bind (Q:=fun (r:Int×List Str×List Z5b×Int)=>BM (r.1,(r.2.1,r.2.2.1))) (Ev.ever (Z6eb (v15.1,(v15.2.1,v15.2.2.1)) h15.2.s h15.2.d) (Zd9 h15)) fun v17 h17=>Ev.ret ⟨h16,h17⟩
 ·obtain ⟨v18,e18,h18⟩:=Zdg _ h9 2 (by omega)
  refine Ev.bnd e18 (Ev.cond (fun _=>?_) fun _=>Ev.ret ⟨h18,hm⟩);exact Ev.bind (Q:=fun (r:Int×List Str×List Z5b×Int)=>BM (r.1,(r.2.1,r.2.2.1))) (Ev.ever (Z6eb m hm.2.s hm.2.d) (Zd9 hm)) fun v17 h17=>Ev.ret ⟨h18,h17⟩
theorem Zedb (n a:Int) (t:Str) (hn:Num n) (ha:Num a) (ht:t.length≤100):Ev (fun k=>Z2h k n a t) fun r=>r.length≤200:=by
 refine Ev.ever (Z80 n a t hn ha (by omega)) ?_
 split
 ·have:=Z8z n a t
  unfold Z8b;rw [Z0q];omega
 ·simp
theorem Zmnb (s:Z0b) (hs:Src s) (m:Zo) (hm:BM m):Ev (fun k=>Zfd.j1 k s.1 s.2.1 s.2.2.1 s.2.2.2 m.1 m.2.1 m.2.2) MS7:=by
 unfold Zfd.j1
 have hlm:=hm.2.s
 obtain ⟨v8,e8,h8⟩:=Zdg s hs 20 (by omega)
 refine Ev.bnd e8 (Ev.cond (fun q=>?_) fun _=>Ev.ret ⟨h8,hm⟩)
 rw [Yf,decide_eq_true_eq] at q
 have q:=q.2
 obtain ⟨v9,e9,h9,l9,_,u9⟩:=Z3 v8.2 h8 (m.2.1.length:Int) (by omega)
 have u9:=u9 (by omega)
 obtain ⟨v10,e10,h10,_⟩:=Z3 v9.2 h9 4 (by omega)
 obtain ⟨y,ey,_⟩:=Zwb (l:=m.2.1) l9 u9
 refine Ev.bnd e9 (Ev.bnd e10 (Ev.cond (fun _=>?_) fun _=>Ev.cond (fun _=>?_) fun _=>?_))
 ·obtain ⟨v11,e11,h11,l11,_,u11⟩:=Z3 v10.2 h10 10 (by omega)
  have u11:=u11 (by omega);exact Ev.bnd e11 (Ev.ret ⟨h11,⟨⟨l11,by show v11.1≤100;omega⟩,⟨hm.2.s,hm.2.d⟩⟩⟩)
 ·obtain ⟨v12,e12,h12,l12,_,u12⟩:=Z3 v10.2 h10 4 (by omega)
  have u12:=u12 (by omega);obtain ⟨z,ez,_⟩:=Zwb (l:=m.2.1) l12 (by omega);refine Ev.bnd e12 (Ev.bind (Zpv v12.2 h12 3 (by omega) (by omega)) fun v13 h13=>?_);exact Ev.bnd ez (Ev.bnd ez (Ev.ret ⟨h13.2,Zf1 hm _ _⟩))
 ·dsimp only
  refine Ev.cond (fun _=>?_) fun _=>?_
  ·obtain ⟨v18,e18,h18,l18,_,u18⟩:=Z3 v10.2 h10 3 (by omega)
   have u18:=u18 (by omega);obtain ⟨v19,e19,h19,l19,_,u19⟩:=Z3 v18.2 h18 40 (by omega);have u19:=u19 (by omega);obtain ⟨v20,e20,d20,h20⟩:=Zet v19.2 h19;exact Ev.bnd e18 (Ev.bnd e19 (Ev.bnd e20 (Ev.bind (Zedb v18.1 v19.1 v20.1 (Zch (by omega)) (Zch (by omega)) (by omega)) fun v21 _=>Ev.bnd ey (Ev.bnd ey (Ev.ret ⟨h20,Zf1 hm _ _⟩)))))
  ·obtain ⟨v24,e24,h24,l24,_,u24⟩:=Z3 v10.2 h10 4 (by omega)
   have u24:=u24 (by omega);exact Ev.bnd e24 (Ev.bind (Zm8 v24.2 h24) fun v25 h25=>Ev.bind (Z4ob v24.1 (Zch (by omega)) _) fun v26 _=>Ev.bnd ey (Ev.bnd ey (Ev.ret ⟨h25,Zf1 hm _ _⟩)))
abbrev MS8 (r:Int×List Str×List Z5b×List Int×Int×Int×Int):Prop:=BM (r.1,(r.2.1,r.2.2.1))∧Src r.2.2.2
theorem Zwcb (s:Z0b) (hs:Src s):Ev (fun k=>Zfd k s) MS8:=by
 unfold Zfd
 refine Ev.bind (Zsrb s hs) fun v2 h2=>Ev.bind (Zlnb v2.2.2.2 h2.2 (v2.1,(v2.2.1,v2.2.2.1)) h2.1) fun y3 h3=>Ev.bind (Zmnb (y3.1,(y3.2.1,(y3.2.2.1,y3.2.2.2.1))) h3.1 y3.2.2.2.2 h3.2) fun y4 h4=>?_
 obtain ⟨v5,e5,h5⟩:=Zdg _ h4.1 40 (by omega)
 refine Ev.bnd e5 (Ev.cond (fun q=>?_) fun _=>Ev.ret ⟨h4.2,h5⟩)
 rw [Yf,decide_eq_true_eq] at q
 have q:=q.2
 obtain ⟨v6,e6,h6,l6,_,u6⟩:=Z3 v5.2 h5 2 (by omega)
 obtain ⟨x,ex,hx⟩:=Zwb (l:=[1000000,(999999:Int)]) l6 (u6 (by omega))
 have hx:Num x:=by
  simp only [Yg,Yh,or_false] at hx;exact Zch (by omega)
 obtain ⟨y,ey,_⟩:=Zwb (l:=y4.2.2.2.2.2.1) (i:=0) (by omega) (by omega)
 refine Ev.bnd e6 ?_
 dsimp only
 refine Ev.bnd ex (Ev.bnd ex (Ev.bind (Zwrb v6.2 h6) fun v10 h10=>?_))
 obtain ⟨h10,hs10⟩:=h10
 have hxl:=h10.x
 have hll:=h10.l
 have hrl:=h10.r
 refine Ev.bind (Zurb _ _ _ _ _ _ _ _ h10.n5 h10.n6 h10.n7 h10.n8 h10.n9 (by omega) (by omega) (by omega)) fun v11 h11=>?_
 exact Ev.bind (Q:=fun _=>True) (Ev.ever (Zz6 x v11 hx (by omega)) trivial) fun v12 _=>Ev.bnd ey (Ev.bnd ey (Ev.ret ⟨Zf1 h4.2 _ _,hs10⟩))
theorem Zrjb (code:List Int) (hc:code.length≤1048576):Ev (fun k=>Zzo k code) fun m=>BM m:=by
 obtain ⟨s,hs,es⟩:=Zjx code hc
 unfold Zzo
 exact Ev.bind (Q:=Src) (Ev.ever (Zc.ge 65 es) hs) fun s hs=>Ev.bind (Zwcb s hs) fun v3 h3=>Ev.ret h3.1
theorem Zqjb (code:List Int) (hc:code.length≤1048576):Ev (fun k=>Z8q k code) fun r=>BM (r.1,(r.2.1,r.2.2.1))∧(-1≤r.2.2.2∧r.2.2.2≤4):=by
 obtain ⟨s,hs,es⟩:=Zjx code hc
 unfold Z8q
 refine Ev.bind (Q:=Src) (Ev.ever (Zc.ge 65 es) hs) fun s hs=>Ev.bind (Zwcb s hs) fun v3 h3=>?_
 obtain ⟨v4,e4,h4,l4,_,u4⟩:=Z3 _ h3.2 4 (by omega)
 have u4:=u4 (by omega)
 refine Ev.bnd e4 (Ev.ret ⟨h3.1,?_⟩)
 show -1≤Yd .i64 (v4.1-1)∧Yd .i64 (v4.1-1)≤4
 rw [w64 (n:=v4.1-1) (by omega) (by omega)]
 omega
theorem Zmjb (code:List Int) (hc:code.length≤1048576):Ev (fun k=>Zyo k code) fun a=>a.length≤100:=by
 obtain ⟨s,hs,es⟩:=Zjx code hc
 unfold Zyo
 exact Ev.bind (Q:=Src) (Ev.ever (Zc.ge 65 es) hs) fun s hs=>Ev.bind (Zhob s hs) fun v3 h3=>Ev.ret h3.1
theorem Znjb (code:List Int) (hc:code.length≤1048576):Ev (fun k=>Z6q k code) fun r=>Num r.1∧Num r.2.1∧r.2.2.length≤100:=by
 obtain ⟨s,hs,es⟩:=Zjx code hc
 unfold Z6q
 refine Ev.bind (Q:=Src) (Ev.ever (Zc.ge 65 es) hs) fun s hs=>?_
 obtain ⟨v3,e3,h3,l3,_,u3⟩:=Z3 s hs 20 (by omega)
 have u3:=u3 (by omega)
 obtain ⟨v4,e4,h4,l4,_,u4⟩:=Z3 v3.2 h3 36 (by omega)
 have u4:=u4 (by omega)
 obtain ⟨v5,e5,h5⟩:=Zdg v4.2 h4 8 (by omega)
 refine Ev.bnd e3 (Ev.bnd e4 (Ev.bnd e5 (Ev.cond (fun _=>?_) fun _=>?_)))
 ·obtain ⟨v6,e6,h6,n6⟩:=Zsab v5.2 h5
  obtain ⟨v7,e7,h7,l7,_,u7⟩:=Z3 v6.2 h6 3 (by omega);obtain ⟨x,ex,hx⟩:=Zwb (l:=[(-1),39,(40:Int)]) l7 (u7 (by omega))
  have hx:Num x:=by
   simp only [Yg,Yh,or_false] at hx;exact Zch (by omega)
  obtain ⟨v11,e11,h11,l11,_,u11⟩:=Z3 v7.2 h7 3 (by omega);have u11:=u11 (by omega);have ew:Yd .i64 (7+v11.1)=7+v11.1:=w64 (by omega) (by omega);refine Ev.bnd e6 (Ev.bnd e7 ?_);dsimp only;refine Ev.bnd ex (Ev.bnd ex (Ev.bnd e11 ?_));rw [ew];refine Ev.bind (Zpv v11.2 h11 (7+v11.1) (by omega) (by omega)) fun v12 h12=>Ev.ret ⟨n6,hx,?_⟩
  have:=h12.1;show v12.1.length≤100;omega
 ·obtain ⟨v13,e13,d13,h13⟩:=Zet v5.2 h5
  have n3:Num v3.1:=Zch (by omega);have n4:Num v4.1:=Zch (by omega);exact Ev.bnd e13 (Ev.ret ⟨n3,n4,by show v13.1.length≤100;omega⟩)
theorem Zpjb (code:List Int) (hc:code.length≤1048576):Ev (fun k=>Z7q k code) fun r=>r.1.length≤8000:=by
 obtain ⟨s,hs,es⟩:=Zjx code hc
 unfold Z7q
 refine Ev.bind (Q:=Src) (Ev.ever (Zc.ge 65 es) hs) fun s hs=>?_
 obtain ⟨v3,e3,h3,l3,_,u3⟩:=Z3 s hs 5 (by omega)
 have u3:=u3 (by omega)
 obtain ⟨v4,e4,h4,l4,_,u4⟩:=Z3 v3.2 h3 36 (by omega)
 have u4:=u4 (by omega)
 obtain ⟨v5,e5,d5,h5⟩:=Zet v4.2 h4
 refine Ev.bnd e3 (Ev.bnd e4 (Ev.bnd e5 (Ev.bind (Zedb v3.1 v4.1 v5.1 (Zch (by omega)) (Zch (by omega)) (by omega)) fun v6 h6=>?_)))
 obtain ⟨v7,e7,h7,_⟩:=Z3 v5.2 h5 6 (by omega)
 refine Ev.bnd e7 (Ev.cond (fun _=>?_) fun _=>Ev.cond (fun _=>?_) fun _=>Ev.cond (fun _=>?_) fun _=>Ev.cond (fun _=>?_) fun _=>Ev.ret (by show v6.length≤8000;omega))
 ·obtain ⟨v8,e8,h8,l8⟩:=Z3fb v7.2 h7 v6 (by omega)
  exact Ev.bnd e8 (Ev.ret (by show v8.1.length≤8000;omega))
 ·have ew:Yd .i64 ((v6.length:Int)+1)=(v6.length:Int)+1:=w64 (by omega) (by omega)
  rw [ew];obtain ⟨v9,e9,h9,l9,z9,u9⟩:=Z3 v7.2 h7 ((v6.length:Int)+1) (by omega)
  have hle:v9.1≤(v6.length:Int):=by
   by_cases c:(v6.length:Int)+1≤1
   ·have:=z9 c;omega
   ·have:=u9 (by omega);omega
  obtain ⟨x,ex,lx⟩:=Znp (l:=v6) (i:=0) (j:=v9.1) (by omega) l9 hle;exact Ev.bnd e9 (Ev.bnd ex (Ev.ret (by show x.length≤8000;omega)))
 ·obtain ⟨v11,e11,h11,_⟩:=Z3 v7.2 h7 5 (by omega)
  exact Ev.bnd e11 (Ev.ret (by show v6.length≤8000;omega))
 ·have hu:=Zw7 v6
  refine Ev.bind (Q:=fun r=>r.1.length≤200) (Ev.ever (Zjl v6 (by omega)) (by show (Zxc v6).1.length≤200;omega)) fun v12 h12=>?_
  obtain ⟨v13,e13,h13,l13⟩:=Z3fb v7.2 h7 v12.1 (by omega);refine Ev.bnd e13 (Ev.bind (Q:=fun r=>r=Zhf v13.1) (Ev.ever (Za1 v13.1 (by omega)) rfl) fun v14 h14=>Ev.ret ?_);rw [h14,Z0q];omega
end Go.Proofs.Qz
namespace Go.Proofs.Qz
open Go
def Zld.Pure:Prop:=∀(y0:List Int) (y1:List Int),Bnd (.sl (.int .u8)) y0→Bnd (.sl (.int .u8)) y1→∃k:Nat,Zld k y0 y1=some true
end Go.Proofs.Qz
namespace Go.Proofs.Qz
open Go
set_option linter.unusedVariables false
theorem Zgnb (l:List Int) (hb:∀x∈l,0≤x∧x<256) (hl:l.length≤1048576) {z:Int} (hz:1<z∧z≤1000):∃v:Nat,Zmo l 0 z=some (v:Int)∧(v:Int)<z:=Zfnb l hb hl 0 hz
theorem Znnb (more:List Int) (hb:∀x∈more,0≤x∧x<256) (hl:more.length≤1048576) {n a:Int} {t:Str} (hn:Num n) (ha:Num a) (ht:t.length≤100):Zc fun k=>Zld.j0 k more n a t (if Zbh n a t=true then Z8b n a t else [])=some (.inl ()):=by
 by_cases hB:Zbh n a t=true
 ·rw [Xc hB]
  obtain ⟨h1,h2,h3⟩:=Zam.1 hB;have l1:=Z8z n a t;have l2:(Z8b n a t).length=(Zje n a t).length+4:=by unfold Z8b;exact Z0q _
  obtain ⟨v,ev,hv⟩:=Zgnb more hb hl (z:=((Z8b n a t).length:Int)) ⟨by omega,by omega⟩;have hc:Z2b (Z8b n a t) 0 (v:Int)=some ((Z8b n a t).take v):=Zg3 (by omega);have ew:Yd .i64 (n+1)=n+1:=w64 (by omega) (by omega)
  have hne:(Z8b n a t==[])=false:=by
   refine beq_eq_false_iff_ne.2 fun q=>?_
   rw [q] at l2;simp at l2
  refine (((Zlz (Z8b n a t) (by omega) n).and (Zlz (Z8b n a t) (by omega) (n+1))).and (Zlz ((Z8b n a t).take v) (by rw [List.length_take];omega) n)).mono fun k ⟨⟨e1,e2⟩,e3⟩=>?_
  rw [Zcob hB] at e1;have o2:=Zdob hB (k:=n+1) (by omega);have o3:=Zeob hB (i:=v) (by omega) n;unfold Zld.j0;refine Z5m (by rw [hne];rfl) (Za ev (Za e1 (Zgi (by simp) ?_)));rw [ew];refine Za e2 (Zgi (by rw [o2];rfl) (Za hc (Za e3 (Zgi (by rw [o3];rfl) rfl))))
 ·rw [Xd hB]
  exact Zc.of fun k=>rfl
theorem Zld.proved:Zld.Pure:=by
 intro code more hcode hmore
 by_cases hb:1048576<code.length∨1048576<more.length
 ·refine ⟨0,?_⟩
  unfold Zld
  have e:(decide (1048576<(code.length:Int))||decide (1048576<(more.length:Int)))=true:=by
   rw [Bool.or_eq_true,decide_eq_true_eq,decide_eq_true_eq];omega
  rw [e];rfl
 have hc1:code.length≤1048576:=by omega
 have hc2:more.length≤1048576:=by omega
 have hsz:(decide (1048576<(code.length:Int))||decide (1048576<(more.length:Int)))=false:=by
  rw [Xb (by omega:¬(1048576<(code.length:Int))),Xb (by omega:¬(1048576<(more.length:Int)))];rfl
 have hbytes:∀x∈more,0≤x∧x<256:=fun x hx=>by
  have h:(Lit.int .u8 x).wf=true:=hmore.2 x hx;simp [Lit.wf,IntKind.min,IntKind.max,IntKind.signed,IntKind.bits] at h;omega
 obtain ⟨a,ha,e3⟩:=Zmjb code hc1
 obtain ⟨m,hm,e6⟩:=Zrjb more hc2
 obtain ⟨⟨q1,q2,q3,qn⟩,hq,e7⟩:=Zqjb more hc2
 obtain ⟨⟨n,b,t⟩,⟨hn,hbn,ht⟩,e8⟩:=Znjb code hc1
 obtain ⟨⟨s,sn⟩,hs,e10⟩:=Zpjb more hc2
 have hq:BM (q1,(q2,q3)):=hq.1
 have hn:Num n:=hn
 have hbn:Num b:=hbn
 have ht:t.length≤100:=ht
 have hs:s.length≤8000:=hs
 have e4:=Ztlb (a:=a) (by omega)
 have e5:=Zefb (a:=a) (by omega)
 have e9:=Zzlb n b t hn hbn (by omega)
 have e25:=Z80 n b t hn hbn (by omega)
 obtain ⟨lg,hlg,e11,e12⟩:=Zhib m hm.2
 obtain ⟨e15,e16,e28,e29⟩:=Zf9 m hm.2
 obtain ⟨bs,hbs,e18,e19⟩:=Zgib m hm.2
 obtain ⟨sh,e23,e24⟩:=Ziib (q1,(q2,q3)) hq.2 qn
 have e26:=Zlz s hs sn
 have e27:=Zifb s hs sn
 obtain ⟨e30,e31⟩:=Ze9 m hm.2
 have e17:=Zjnb (Zws (stM m)) (Z6fb _).1 (Z6fb _).2
 have e20:=Zhnb bs hbs
 have e21:=Zknb lg.1 hlg
 have ej:=Znnb more hbytes hc2 hn hbn ht
 generalize hN:(if Zbh n b t=true then Z8b n b t else [])=N at e9 e25 ej
 have key:∀r:Int×List Str×List Z5b×Int,(Zc fun k=>Zdn k a=some r)→(Zc fun k=>Zye k a=some r)→Lean1 (r.1,(r.2.1,r.2.2.1)) →
   (r.2.2.2≠0∨∃ph tr nd st dn dg v w,stM (r.1,(r.2.1,r.2.2.1))=some (ph,(tr,(nd,(st,(dn,(dg,(v,w)))))))∧Zqd (r.1,(r.2.1,r.2.2.1))=true∧ph=1∧Zsb (r.1,(r.2.1,r.2.2.1))=a∧Zwk (r.1,(r.2.1,r.2.2.1)) ph st dn w=a)→∃k,Zld k code more=some true:=by
  intro r e4 e5 hr tail;obtain ⟨r1,r2,r3,rc⟩:=r;have hr:Lean1 (r1,(r2,r3)):=hr;have e14:=Zinb (r1,(r2,r3)) hr
  have fin:Zc fun k=>(bif rc != 0 then some true else Yc (Zen k (r1,(r2,r3))) fun v33=>bif v33 then Yc (Z3l k (r1,(r2,r3))) fun v34=>bif v34.1==1 then Yc (Z6k k (r1,(r2,r3))) fun v35=>Yc (Z0d k v35.1 a) fun v36=>bif v36 then Yc (Zjo k (r1,(r2,r3))) fun v37=>Yc (Z0d k v37.1 a) fun v38=>some v38 else some false else some false else some false)=some true:=by
   rcases tail with tail | ⟨ph,tr,nd,st,dn,dg,v,w,hst,hmb,hph,hba,hvi⟩
   ·have tail:rc≠0:=tail
    exact Zc.of fun k=>Z5m (by simpa using tail) rfl
   ·have f1:=(Ze9 (r1,(r2,r3)) hr).1
    have f2:=(Zf9 (r1,(r2,r3)) hr).1;have f3:=Zxbb hmb hst;have f4:=Zimb hmb hst;rw [hmb] at f1;rw [hst] at f2;rw [hba] at f3;rw [hvi] at f4;subst hph;refine ((((f1.and f2).and f3).and f4).and (Z74 a (by omega))).mono fun k ⟨⟨⟨⟨f1,f2⟩,f3⟩,f4⟩,f5⟩=>?_
    cases hc:rc != 0 with
    | true=>rfl
    | false=>exact Za f1 (Z5m rfl (Za f2 (Z5m rfl (Za f3 (Za f5 (Z5m rfl (Za f4 (Za f5 rfl))))))))
  obtain ⟨k,⟨⟨⟨⟨⟨⟨⟨⟨⟨⟨⟨e3,e4⟩,e5⟩,e6⟩,e7⟩,e8⟩,e9⟩,e10⟩,e11⟩,e12⟩,e14⟩,⟨⟨⟨⟨⟨⟨e15,e16⟩,e17⟩,e18⟩,e19⟩,e20⟩,e21⟩⟩,⟨⟨⟨⟨⟨⟨⟨⟨⟨e23,e24⟩,e25⟩,e26⟩,e27⟩,e28⟩,e29⟩,e30⟩,e31⟩,ej⟩,fin⟩:=((((((((((((e3.and e4).and e5).and e6).and e7).and e8).and e9).and e10).and e11).and e12).and e14).and ((((((e15.and e16).and e17).and e18).and e19).and e20).and e21)).and ((((((((((e23.and e24).and e25).and e26).and e27).and e28).and e29).and e30).and e31).and ej).and fin)).ex;refine ⟨k,?_⟩;have e3:Zyo k code=some a:=e3;have e6:Zzo k more=some m:=e6;unfold Zld;rw [hsz,Xf];refine Za e3 (Za e4 (Za e5 (Za e6 (Za e7 (Za e8 (Za e9 (Za e10 (Za e11 (Za e12 (Zgi (by simp) (Za e14 (Zgi rfl ?_))))))))))));refine Za e15 (Za e16 (Za e17 (Zgi rfl (Za e18 (Za e19 (Za e20 (Zgi rfl (Za e21 (Zgi rfl (Zgi (by simp) ?_))))))))));refine Za e23 (Za e24 (Zgi (by simp) (Za e25 (Zgi (by simp) (Za e26 (Za e27 (Zgi (by simp) ?_)))))));refine Za e28 (Za e29 (Zgi (by simp) (Za e30 (Za e31 (Zgi (by simp) (Za ej ?_))))));exact fin
 by_cases hi:Zyd a=true
 ·rw [Xc hi] at e4 e5
  obtain ⟨d0,g0,c0⟩:=Zejb hi;refine key _ e4 e5 (Zcdb hi).2 (.inr ⟨_,_,_,_,_,_,_,_,d0.state,d0.right fun q=>by omega,rfl,d0.blocks,?_⟩);show Zwk (Zlk a) 1 0 0 0=a;unfold Zwk;rw [Xd (by omega),Xd (by omega),d0.blocks]
 ·rw [Xd hi] at e4 e5
  exact key _ e4 e5 ⟨by simp,by simp⟩ (.inl (by decide))
end Go.Proofs.Qz
namespace Go.Proofs.YtmohoeinamddcaaGreat.fnMachine
open Go Go.ChangeShapes Go.WideShapes Go.ChangeAt Go.RowKit Go.Proofs.Qz
set_option linter.unusedVariables false
theorem own:ownKnob Ya.godebug=none:=by kernel_rfl
theorem Zhcb:laidOutB Ya=true:=by kernel_rfl
theorem Zgkb {w:World}:GlW w:=fun _ _ _ e=>by cases e
theorem go (k:Nat) (y0:List Int) (y1:List Int):(Zld.con k).f [Zjv false (.sl (.int .u8)) y0,Zjv false (.sl (.int .u8)) y1] = .opt (Zpb Zld.sig.outs) (Zld k y0 y1) Zld.sig.enc:=by kernel_rfl
set_option maxRecDepth 100000 in
theorem lifted (os:Os) (started:os.Started) (H:Type) (enc:TypeId×Value→H):
  ReturnsInHanded {} Ye os 3 .any (Rows.fnMachineSpec.pre6 enc Ya Yb Rows.fnMachineRow.domain false) (Rows.fnMachineSpec.post enc Ya Yb false true false false):=by
 refine returnsInHanded_of_change_sized (C:=Ye) own started (by kernel_rfl) Yi
  (ChangeSpec.witness6 (enc:=enc) (C:=Ye) false ⟨#[],#[.slice none 0 0,.slice none 0 0],[]⟩ 8 (by kernel_rfl) (by kernel_rfl) (by kernel_rfl) (by kernel_rfl)) ?_
 intro W base args ds gs before hval0 hW hcnd hsz0 _
 have hsz:(DataW.weightsEach Ya (Yb.params.toList++Rows.fnMachineSpec.plain.varTypes Ya) (ds++gs)).all (·≤reachBytes)=true:=hsz0
 have hval:∀(j:Nat) t v,Yb.params[j]? = some t→args[j]? = some v→Value.okWide Ya W .any base t v:=hval0
 have hW':=hW
 obtain ⟨p,q,hA0,hV,rfl,hfz,hnd⟩:=hW
 have hA:DataW.TrodAll enc Ya W 0 (fun _=>true) true Yb.params.toList args.toList ds p:=hA0
 rw [Tryz.params3] at hA hval hsz
 obtain ⟨v0,vs0,d0,ds0,p0,q0,hargs,rfl,rfl,h0,r0⟩:=trodAll_cons hA
 obtain ⟨v1,vs1,d1,ds1,p1,q1,rfl,rfl,rfl,h1,r1⟩:=trodAll_cons r0
 obtain ⟨rfl,rfl,rfl⟩:=trodAll_nil r1
 obtain rfl:args = #[v0,v1]:=by cases args;simp_all
 obtain ⟨rfl,rfl⟩:=trodVars_none hV
 have lt0:=Zrgb h0
 have z0:=Z3gb hsz (j:=0) (t:=22) rfl rfl
 obtain ⟨y0,b0,c0⟩:=Zw8 (ty:=(.sl (.int .u8))) (n:=20) (ag:=false) (by kernel_rfl) (by kernel_rfl) (hval 0 22 v0 rfl rfl) h0 z0
 have lt1:=Zrgb h1
 have z1:=Z3gb hsz (j:=1) (t:=22) rfl rfl
 obtain ⟨y1,b1,c1⟩:=Zw8 (ty:=(.sl (.int .u8))) (n:=20) (ag:=false) (by kernel_rfl) (by kernel_rfl) (hval 1 22 v1 rfl rfl) h1 z1
 obtain ⟨k,hp⟩:=Zld.proved y0 y1 b0 b1
 have hrr:((Zld.con k).f [Zjv false (.sl (.int .u8)) y0,Zjv false (.sl (.int .u8)) y1]).val=some ⟨[.val false [.leaf (.bool true)]],[]⟩:=by
  refine (congrArg CR.val (go k y0 y1)).trans ?_;rw [hp]
  kernel_rfl
 refine (Zxmb (Zld.ok k) hrr (vs:=[v0,v1]) Zgkb (Zp9 (c0 _) (Zp9 (c1 _) Ztib))).mono fun e W' ⟨he,bel0⟩=>?_
 have bel:Below W.heap.size W W':=bel0
 subst he
 exact ⟨_,rfl,_,_,_,[],_,[],hW',trodAll_mk1 (Zhrb Tryz.underlying4 _),(trodAll_cons_mk (Below.trod Zhcb (by kernel_rfl) (of_decide_eq_true (by kernel_rfl)) h0 bel lt0) (trodAll_cons_mk (Below.trod Zhcb (by kernel_rfl) (of_decide_eq_true (by kernel_rfl)) h1 bel lt1) trodAll_mk0)),rfl,bel.frame _,fun h=>by cases h⟩
theorem k10:(Rows.fnMachineRow.inPlace==Ya.inPlace 3)=true:=by kernel_rfl
theorem k11:(Rows.fnMachineRow.unfollowed==Ya.unfollowed 3)=true:=by kernel_rfl
theorem k12:(Rows.fnMachineRow.recurses==Ya.recurses 3)=true:=by kernel_rfl
theorem k13:(Rows.fnMachineRow.named==Ya.varsNamed 3)=true:=by kernel_rfl
theorem Zxib:joinedFacts Ya 3 Yb Rows.fnMachineSpec Rows.fnMachineRow=true:=by
 unfold joinedFacts
 rw [k10,k11,k12,k13]
 kernel_rfl
theorem Zrq:Rows.fnMachineRow.holds Tryz.pinned (OpenSpec.ofChange Rows.fnMachineSpec):=
 OpenClaim.holds_of_wide 3 Yb rfl rfl rfl rfl rfl rfl rfl ⟨rfl,rfl,rfl,rfl,rfl⟩ rfl rfl rfl rfl rfl (by kernel_rfl) Yi Zxib
  (of_decide_eq_true (by kernel_rfl)) (by unfold Func.isWrapper;first | (rw [Xc (by decide +kernel)];kernel_rfl) | (rw [Xd (by decide +kernel)];exact ⟨rfl,rfl⟩))
  (fun os started H enc _=>lifted os started H enc)
theorem proved:Rows.FnMachineSaid:=Zrq
end Go.Proofs.YtmohoeinamddcaaGreat.fnMachine
namespace Go.Proofs.YtmohoeinamddcaaGreat
theorem fnMachine_holds:Rows.FnMachineSaid:=fnMachine.proved
#print axioms fnMachine_holds
end Go.Proofs.YtmohoeinamddcaaGreat
