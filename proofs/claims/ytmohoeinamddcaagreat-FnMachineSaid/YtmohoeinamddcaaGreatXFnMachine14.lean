/- What the law FnMachine needs, part 15 of 16: the Lean functions of the Go functions that it reaches, with the proofs that the calls come to what they say, and plain facts about them. Conditions: those that each theorem states. Written by a session and by its programs (after the kit's printer). -/
import Derived.Test.YtmohoeinamddcaaGreatXFnMachine9
import Derived.Test.YtmohoeinamddcaaGreatXFnMachine10
import Derived.Test.YtmohoeinamddcaaGreatXFnMachine11
import Derived.Test.YtmohoeinamddcaaGreatXFnMachine12
import Derived.Test.YtmohoeinamddcaaGreatXFnMachine13
open Go.IntKind renaming wrap → Ya, max → Y7
open Option renaming bind_some → Yb, bind → Yq
open List renaming length_append → Yc, replicate → Yf, length_nil → Yh, length_set → Yi, length_cons → Yj, getD_eq_getElem?_getD → Yk, append_assoc → Yn, getElem?_eq_getElem → Yo, mem_singleton → Yp, ext_getElem → Yu, mem_append → Yv, length_replicate → Yy, mem_cons → Yz, not_mem_nil → Y0, set → Y1, append_cancel_left → Y8, append_nil → Y9, drop_left → Yaa, getElem_mem → Yba, mem_cons_of_mem → Yca, mem_cons_self → Yda, mem_map → Yea, nil_append → Yfa, nodup_nil → Yga
open Bool renaming and_eq_true → Yd, not_true → Ye, or_eq_true → Yx, and_eq_false_iff → Y2, and_self → Y3, false_ne_true → Y4
open Nat renaming le_refl → Yg, zero_le → Yw, not_lt_zero → Yha
open Int renaming le_refl → Yl, toNat → Ym, tmod → Yr, tmod_eq_emod_of_nonneg → Ys, toNat_natCast → Yt, emod_lt_of_pos → Y5, emod_nonneg → Y6
namespace Go.Proofs.Qz
open Go
set_option linter.unusedVariables false
structure ForOk (a:List Str) (n:Int) (t:Str) (x:Zi):Prop where
 w:x.1≠5
 r:Znf (a.length:Int) x=true
 tgt:x.2.1=n
 mak:Zah x (a.getD x.2.2.1.toNat [])=t
structure DiffOk (a b:List Str) (l:List Zi) (i:Nat):Prop where
 up:(l.map fun x=>x.2.1).Nodup
 ok:∀x∈l,∃j:Nat,j<i∧ForOk a (j:Int) (b.getD j []) x
 all:∀j:Nat,j<i→a.getD j []≠b.getD j []→∃x∈l,x.2.1=(j:Int)
 len:l.length≤i
theorem DiffOk.zero (a b:List Str):DiffOk a b [] 0:=⟨Yga,fun x hx=>(by cases hx),fun j hj=>absurd hj (Yha j),Yg _⟩
theorem DiffOk.same {a b:List Str} {l:List Zi} {i:Nat} (h:DiffOk a b l i) (e:a.getD i []=b.getD i []):DiffOk a b l (i+1):=by
 refine ⟨h.up,fun x hx=>?_,fun j hj q=>?_,by have:=h.len;omega⟩
 ·obtain ⟨j,h1,h2⟩:=h.ok x hx
  exact ⟨j,by omega,h2⟩
 ·by_cases c:j=i
  ·subst c
   exact absurd e q
  ·exact h.all j (by omega) q
theorem DiffOk.add {a b:List Str} {l:List Zi} {i:Nat} (h:DiffOk a b l i) {x:Zi} (hx:ForOk a (i:Int) (b.getD i []) x):DiffOk a b (l++[x]) (i+1):=by
 refine ⟨?_,fun y hy=>?_,fun j hj q=>?_,by rw [Yc];have:=h.len;simp only [Yj,Yh];omega⟩
 ·rw [List.map_append]
  refine List.nodup_append.2 ⟨h.up,by simp,fun p hp q hq=>?_⟩;obtain ⟨y,hy,rfl⟩:=Yea.1 hp;obtain ⟨j,h1,h2⟩:=h.ok y hy;have ht:=h2.tgt;have hxt:=hx.tgt;simp only [List.map_cons,List.map_nil,Yp] at hq;omega
 ·rcases Yv.1 hy with z | z
  ·obtain ⟨j,h1,h2⟩:=h.ok y z
   exact ⟨j,by omega,h2⟩
  ·rw [Yp.1 z]
   exact ⟨i,by omega,hx⟩
 ·by_cases c:j=i
  ·exact ⟨x,by simp,by rw [hx.tgt,c]⟩
  ·obtain ⟨y,h1,h2⟩:=h.all j (by omega) q
   exact ⟨y,List.mem_append_left _ h1,h2⟩
def Zdw:Zi:=(5,(0,(1,[])))
theorem Zoeb:∀(l r:List Zi) (a:Int),(∀x∈l,x.1≠5)→Zji a (l++r)=Zji a r
 | [],_,_,_=>rfl
 | x::l,r,a,h=>by
  rw [List.cons_append,Zji,Xd (h x Yda)];exact Zoeb l r a fun y hy=>h y (Yca _ hy)
section
variable {a b:List Str} {l:List Zi}
theorem DiffOk.kinds {i:Nat} (h:DiffOk a b l i):∀x∈l,x.1≠5:=fun x hx=>by
 obtain ⟨j,_,q⟩:=h.ok x hx
 exact q.w
theorem DiffOk.writes {i:Nat} (h:DiffOk a b l i):Zg (l++[Zdw])=l:=by
 unfold Zg
 rw [List.filter_append,List.filter_eq_self.2 fun x hx=>Zzt (h.kinds x hx),List.filter_cons_of_neg (by simp [isW,Zdw]),List.filter_nil,Y9]
theorem DiffOk.code (h:DiffOk a b l a.length) (ha:1≤a.length∧a.length≤8):Zab (l++[Zdw]) (a.length:Int)=0:=by
 have hl:=h.len
 refine Z3ib (by rw [Yc];simp only [Yj,Yh];omega) ⟨by omega,by omega⟩ (fun x hx=>?_) ?_ ?_
 ·rcases Yv.1 hx with z | z
  ·obtain ⟨j,_,q⟩:=h.ok x z
   exact q.r
  ·rw [Yp.1 z]
   rfl
 ·unfold Zod
  rw [h.writes];exact h.up
 ·rw [Zoeb _ _ _ h.kinds]
  rfl
theorem DiffOk.slots (h:DiffOk a b l a.length) (ha:a.length≤8):Z3b (Zj (l++[Zdw]))≤4:=by
 have hl:=h.len
 refine Zlrb ?_ (by rw [h.writes];omega)
 unfold Zod
 rw [h.writes]
 exact h.up
theorem DiffOk.apply (h:DiffOk a b l a.length) (hab:b.length=a.length):Zqf a (l++[Zdw])=b:=by
 unfold Zqf
 rw [h.writes]
 refine Yu (by rw [Zsh,hab]) fun j h1 h2=>?_
 have hj:j<a.length:=by omega
 rw [Z8o hj,← Zas h2]
 cases hf:l.find? (fun x=>x.2.1==(j:Int)) with
 | some x=>
  obtain ⟨i,_,q⟩:=h.ok x (List.mem_of_find?_eq_some hf);have ht:x.2.1=(j:Int):=by simpa using List.find?_some hf
  have hij:i=j:=by have:=q.tgt;omega
  subst hij;exact q.mak
 | none=>
  refine Decidable.byContradiction fun z=>?_
  obtain ⟨x,hx,q⟩:=h.all j hj z;have:=List.find?_eq_none.1 hf x hx;rw [q] at this;simp at this
end
section
variable {m:Zo} {c:Zhd} {ph tr nd st dn:Int} {dg:Str} {v w:Nat}
theorem Zxcb (hm:Zqd m=true):m.2.1.length≤1048576∧m.2.2.length≤1048576:=by
 have hF:=Zjw hm
 have:=hF.n
 have:=hF.len
 omega
theorem Zimb (hm:Zqd m=true) (hs:stM m=some (ph,(tr,(nd,(st,(dn,(dg,(v,w)))))))):Zc fun k=>Zjo k m=some (Zwk m ph st dn w,0):=by
 obtain ⟨hl,hl2⟩:=Zxcb hm
 have em:=Zkz m hl hl2
 rw [hm] at em
 refine (em.and (Zgmb hs (Zk5 hs hm))).mono fun k ⟨e,e2⟩=>?_
 unfold Zjo
 exact Za e (Za e2 rfl)
theorem Zxbb (hm:Zqd m=true) (hs:stM m=some (ph,(tr,(nd,(st,(dn,(dg,(v,w)))))))):Zc fun k=>Z6k k m=some (Zsb m,0):=by
 obtain ⟨hl,hl2⟩:=Zxcb hm
 have em:=Zkz m hl hl2
 rw [hm] at em
 have hf:=(Z8l hs).fit
 have hb:=hf.b
 have hn:=hf.n
 refine (em.and (Zc.ge 1048577 fun k hk=>hk)).mono fun k ⟨e,hk⟩=>?_
 unfold Z6k
 exact Za e (Za (Z93 (m:=m) ⟨by omega,hb.2⟩ (by omega) hl2 hk) rfl)
end
theorem Z6nb {a:List Str} (h:a.length≤400):Z6m (Yf (a.length+27) ([]:Str)) 3 a=Z7b a:=by
 unfold Z6m Z7b
 rw [Yy,List.take_replicate,List.drop_replicate,List.take_of_length_le (by omega:a.length≤a.length+27-3)]
 have e1:min 3 (a.length+27)=3:=by omega
 have e2:a.length+27-(3+a.length)=24:=by omega
 rw [e1,e2]
theorem Zp5 {a:List Str} (h:Zyd a=true):Zud (Z7b a).length (Z4c (Z7b a,[]) 1 0 0 0 0 [] 0 0)∧(Z4c (Z7b a,[]) 1 0 0 0 0 [] 0 0).length≤2:=by
 have hl:=Zis a
 exact ⟨Zqj (by omega) (Zkn (by decide)),Zt4 _ _ _ _ _ _ _ _ _⟩
theorem Zslb {a:List Str} (h:Zyd a=true):Zc fun k=>Z8p k a=some (flM (Zlk a)):=by
 obtain ⟨i1,i2,i3⟩:=Zik h
 have hl:=Zis a
 have K:Keep 1 0 0 0 0 [] 0 0:=Zkn (by decide)
 have hp:=Z5z h
 obtain ⟨hfit,hal⟩:=Zp5 h
 have hz:Znh a=some (a.length:Int):=rfl
 have e3:Ya .i64 ((Ya .i64 (3+(a.length:Int)))+24)=((a.length+27:Nat):Int):=by
  rw [w64 (n:=3+(a.length:Int)) (by omega) (by omega),w64 (by omega) (by omega)];omega
 have ht:Zmr 3 (Yf (a.length+27) ([]:Str)).length=some ():=by
  unfold Zmr;rw [Yy,Xc ⟨by omega,by omega⟩]
 refine (((Zamb K).and (Zvlb (f:=(Z7b a,[])) hp.b (by show 2≤(Z7b a).length;omega) _ K.len)).and (Zc.ge 1048577 fun k hk=>hk)).mono fun k ⟨⟨e1,e2⟩,hk⟩=>?_
 unfold Z8p
 refine Za hz ?_
 dsimp only
 rw [e3]
 refine Za (Zpq (by omega)) (Za ht (Za e1 ?_))
 rw [show Ym 3=3 from rfl,Z6nb (by omega)]
 exact Za e2 (Za (Zglb (f:=(Z7b a,[])) hp hfit (by show (Z4c _ _ _ _ _ _ _ _ _).length≤1000;omega) hk) rfl)
theorem Ztlb {a:List Str} (hl:a.length≤400):Zc fun k=>Zdn k a=some (if Zyd a=true then ((Zlk a).1,((Zlk a).2.1,((Zlk a).2.2,0))) else (0,([],([],1)))):=by
 have hi:Zc fun k=>Z4l k a=some (Zyd a):=Zc.ge 100 fun k hk=>Zzbb a hk
 have h4:decide ((400:Int)<(a.length:Int))=false:=Xb (by omega)
 cases h:Zyd a with
 | false=>
  rw [h] at hi;refine hi.mono fun k e=>?_
  rw [Xd Y4];unfold Zdn;rw [h4,Xf];exact Za e rfl
 | true=>
  rw [h] at hi;refine (hi.and (Zslb h)).mono fun k ⟨e,e2⟩=>?_
  rw [Xc rfl];unfold Zdn;rw [h4,Xf];exact Za e (Za e2 rfl)
def Znj (a:List Str) (i:Nat):List Str:=(List.range (a.length+27)).map fun j=>if 3≤j∧j<3+i then a.getD (j-3) [] else []
theorem Z7y (a:List Str) (i:Nat):(Znj a i).length=a.length+27:=by simp [Znj]
theorem Z6y (a:List Str) (i:Nat) {j:Nat} (h:j<(Znj a i).length):(Znj a i)[j]=if 3≤j∧j<3+i then a.getD (j-3) [] else []:=by simp [Znj]
theorem Z5jb (a:List Str):Znj a a.length=Z7b a:=by
 have hl:=Zis a
 refine Yu (by rw [Z7y,hl]) fun j h1 h2=>?_
 rw [Z6y,← Zas h2]
 by_cases c:j<3
 ·rw [Xd (by omega),Zo5 a c]
 ·by_cases c2:j<3+a.length
  ·rw [Xc ⟨by omega,c2⟩]
   have:=Zbdb a (i:=j-3) (by omega);rw [show 3+(j-3)=j by omega] at this;exact this.symm
  ·rw [Xd (by omega)]
   unfold Z7b;rw [Yk,List.getElem?_append_right (by simp;omega),List.getElem?_replicate];split <;> rfl
theorem Z6jb (a:List Str) {i:Nat} (h:i<a.length):(Znj a i).set (3+i) a[i]=Znj a (i+1):=by
 refine Yu (by rw [Yi,Z7y,Z7y]) fun j h1 h2=>?_
 rw [List.getElem_set,Z6y,Z6y]
 by_cases c:3+i=j
 ·rw [Xc c,Xc ⟨by omega,by omega⟩,show j-3=i by omega,Zas h]
 ·rw [Xd c]
  by_cases c2:3≤j∧j<3+i
  ·rw [Xc c2,Xc ⟨c2.1,by omega⟩]
  ·rw [Xd c2,Xd (by omega)]
theorem Zefb {a:List Str} (hl:a.length≤400):Zc fun k=>Zye k a=some (if Zyd a=true then ((Zlk a).1,((Zlk a).2.1,((Zlk a).2.2,0))) else (0,([],([],1)))):=by
 have hi:Zc fun k=>Zvc k a=some (Zyd a):=Zc.ge 100 fun k hk=>Zdx a hk
 have h4:decide ((400:Int)<(a.length:Int))=false:=Xb (by omega)
 cases h:Zyd a with
 | false=>
  rw [h] at hi;refine hi.mono fun k e=>?_
  rw [Xd Y4];unfold Zye;rw [h4,Xf];exact Za e rfl
 | true=>
  rw [h] at hi;obtain ⟨i1,i2,i3⟩:=Zik h;have hnl:=Zis a;have K:Keep 1 0 0 0 0 [] 0 0:=Zkn (by decide);have hp:=Z5z h;obtain ⟨hfit,hal⟩:=Zp5 h
  have e3:Ya .i64 ((Ya .i64 (3+(a.length:Int)))+24)=((a.length+27:Nat):Int):=by
   rw [w64 (n:=3+(a.length:Int)) (by omega) (by omega),w64 (by omega) (by omega)];omega
  have hF:Z9q ((a.length+27:Nat):Int)=some (Znj a 0,[]):=by
   have W:Z9 ((a.length+27:Nat):Int) 1 40=some (decide (1≤((a.length+27:Nat):Int))&&decide (((a.length+27:Nat):Int)≤40)):=rfl
   have e:Znj a 0=Yf (a.length+27) []:=by
    refine Yu (by rw [Z7y,Yy]) fun j h1 h2=>?_
    rw [Z6y,Xd (by omega),List.getElem_replicate]
   unfold Z9q;refine Za W ?_;rw [Xa (by omega:1≤((a.length+27:Nat):Int)),Xa (by omega:((a.length+27:Nat):Int)≤40),e];exact Za (Zpq (by omega)) rfl
  have run:∀k,a.length<k→Zye.l0 k a 0 (Znj a 0) []=some (Z7b a,[]):=fun k hk=>by
   refine Zrc (fun j i=>Zye.l0 j a (i:Int) (Znj a i) []) a.length (Z7b a,[]) (fun i hi j=>?_) (fun j=>?_) k hk
   ·have hfl:(Znj a i).length=a.length+27:=by simp [Znj]
    have e6:Ya .i64 (3+(i:Int))=((3+i:Nat):Int):=by rw [w64 (by omega) (by omega)];omega
    conv=>lhs;unfold Zye.l0
    rw [dlt hi,Xe];refine Za (Zh hi) ?_;dsimp only;rw [e6,Zs (by omega),Yt];refine Za (Zh (by rw [hfl];omega)) (Za (Zh (by rw [hfl];omega)) ?_);rw [Z6jb a hi]
   ·conv=>lhs;unfold Zye.l0
    rw [Z8 (Yg _),Xf,Z5jb]
  refine (((hi.and (Zx6 1 0 0 0 0 [] 0 0 (by constructor <;> decide) (by constructor <;> decide) (by constructor <;> decide) (by constructor <;> decide) (by constructor <;> decide) (by decide) (by decide) (by decide))).and (Zgfb (f:=(Z7b a,[])) hp.b (by show 2≤(Z7b a).length;omega) _ K.len)).and (Zc.ge 1048577 fun k hk=>hk)).mono fun k ⟨⟨⟨e,e1⟩,e2⟩,hk⟩=>?_
  rw [Xc rfl];unfold Zye;rw [h4,Xf];refine Za e ?_;rw [e3];refine Za hF (Za (run k (by omega)) (Za e1 (Za e2 (Za (Z00 (f:=(Z7b a,[])) hp hfit (by show (Z4c _ _ _ _ _ _ _ _ _).length≤1000;omega) hk) rfl))))
theorem Z74 (l:List Str) (hl:l.length≤1048576):Zc fun k=>Z0d k l l=some true:=by
 have key:=Z4y (fun k j i=>Z0d.l0 j l l (i:Int)) l.length (.inl ()) (Zc.of fun k i hi j=>by
  conv=>lhs;unfold Z0d.l0
  rw [dlt hi,Zh hi,Zs (by omega)];simp only [Xe,Yb,beq_self_eq_true,Ye,Xf]) (Zc.of fun k j=>by
  conv=>lhs;unfold Z0d.l0
  rw [Z8 (Yg _)];rfl)
 refine key.mono fun k e=>?_
 have e:Z0d.l0 k l l 0=some (.inl ()):=e
 unfold Z0d
 rw [bne_self_eq_false,Xf]
 exact Za e rfl
theorem Zfnb (l:List Int) (hb:∀x∈l,0≤x∧x<256) (hl:l.length≤1048576) (i:Nat) {z:Int} (hz:1<z∧z≤1000):∃v:Nat,Zmo l (i:Int) z=some (v:Int)∧(v:Int)<z:=by
 unfold Zmo
 rw [Xb (by omega:¬z≤1),Bool.false_or]
 by_cases h0:l.length=0
 ·rw [show (((l.length:Nat):Int)==0)=true by rw [h0];rfl]
  exact ⟨0,rfl,by omega⟩
 ·rw [show (((l.length:Nat):Int)==0)=false by rw [Zei,Xb (by omega:¬(((l.length:Nat):Int)=0))],Xf]
  have e:Yr (i:Int) (l.length:Int)=((i%l.length:Nat):Int):=by rw [Ys (by omega)];omega
  have hlt:i%l.length<l.length:=Nat.mod_lt _ (by omega);rw [Znk (by omega),e,Zh hlt,Znk (by omega)];have hx:=hb _ (Yba hlt);simp only [Yb];rw [w64 (by omega) (by omega),Ys hx.1];have h1:=Y6 l[i%l.length] (by omega:z≠0);have h2:=Y5 l[i%l.length] (by omega:0<z);exact ⟨(l[i%l.length]%z).toNat,by congr 1;omega,by omega⟩
namespace Dgu
theorem Z3n (x:Int) {n:Int} (h:0≤n):∃v,Zqh x n=some v:=by
 unfold Zqh
 exact Z2fb ⟨_,Zdc h⟩ fun _=>Z2fb ⟨_,Zdc (by rw [Zfh];omega)⟩ fun _=>⟨_,rfl⟩
theorem Z8hb (b:Str) (hb:b.length=64) (w:List Int) (hw:w.length=64):∃r:List Int,r.length=64∧Zc fun k=>∀j,16<j→Zt.l0 j b 0 w=some r:=by
 refine Zno (fun k j (s:Int×List Int)=>Zt.l0 j b s.1 s.2) (fun s=>(16-s.1).toNat) (fun s=>0≤s.1∧s.1≤16∧s.2.length=64) (fun r=>r.length=64) (fun s ⟨h0,h1,h2⟩=>?_) 16 (0,w) ⟨by simp,by simp,hw⟩ (by simp)
 obtain ⟨i,w⟩:=s
 have h0:0≤i:=h0
 have h1:i≤16:=h1
 have h2:w.length=64:=h2
 by_cases hi:i<16
 ·right
  obtain ⟨c0,e0,_⟩:=Zwb (l:=b) (i:=4*i) (by omega) (by omega);obtain ⟨c1,e1,_⟩:=Zwb (l:=b) (i:=4*i+1) (by omega) (by omega);obtain ⟨c2,e2,_⟩:=Zwb (l:=b) (i:=4*i+2) (by omega) (by omega);obtain ⟨c3,e3,_⟩:=Zwb (l:=b) (i:=4*i+3) (by omega) (by omega);obtain ⟨v,ev,_⟩:=Zwb (l:=w) (i:=i) (by omega) (by omega);refine ⟨(i+1,w.set i.toNat (intBits .or .u32 (intBits .or .u32 (intBits .or .u32 (shl .u32 (Ya .u32 (c0.toNat:Int)) 24) (shl .u32 (Ya .u32 (c1.toNat:Int)) 16)) (shl .u32 (Ya .u32 (c2.toNat:Int)) 8)) (Ya .u32 (c3.toNat:Int)))),⟨by show 0≤i+1;omega,by show i+1≤16;omega,by show (w.set _ _).length=64;rw [Yi];exact h2⟩,by show (16-(i+1)).toNat<(16-i).toNat;omega,Zc.of fun k j=>?_⟩
  ·show Zt.l0 (j+1) b i w=_
   conv=>lhs;unfold Zt.l0
   rw [Xa hi,wid (n:=4*i) (by omega) (by omega)];simp only [Xe];rw [wid (n:=4*i+1) (by omega) (by omega),wid (n:=4*i+2) (by omega) (by omega),wid (n:=4*i+3) (by omega) (by omega),e0,e1,e2,e3,ev,Zdc (by omega),Zdc (by omega),Zdc (by omega),wid (n:=i+1) (by omega) (by omega)];rfl
 ·left
  refine ⟨w,Zc.of fun k j=>?_,h2⟩;show Zt.l0 (j+1) b i w=_
  conv=>lhs;unfold Zt.l0
  rw [Xb hi];rfl
theorem Z9hb (w:List Int) (hw:w.length=64):∃r:List Int,r.length=64∧Zc fun k=>∀j,48<j→Zt.l1 j 16 w=some r:=by
 refine Zno (fun k j (s:Int×List Int)=>Zt.l1 j s.1 s.2) (fun s=>(64-s.1).toNat) (fun s=>16≤s.1∧s.1≤64∧s.2.length=64) (fun r=>r.length=64) (fun s ⟨h0,h1,h2⟩=>?_) 48 (16,w) ⟨by simp,by simp,hw⟩ (by simp)
 obtain ⟨i,w⟩:=s
 have h0:16≤i:=h0
 have h1:i≤64:=h1
 have h2:w.length=64:=h2
 by_cases hi:i<64
 ·right
  obtain ⟨a,ea,_⟩:=Zwb (l:=w) (i:=i-15) (by omega) (by omega);obtain ⟨b,eb,_⟩:=Zwb (l:=w) (i:=i-2) (by omega) (by omega);obtain ⟨c,ec,_⟩:=Zwb (l:=w) (i:=i-16) (by omega) (by omega);obtain ⟨d,ed,_⟩:=Zwb (l:=w) (i:=i-7) (by omega) (by omega);obtain ⟨v,ev,_⟩:=Zwb (l:=w) (i:=i) (by omega) (by omega);obtain ⟨t1,f1⟩:=Z3n a (n:=7) (by omega);obtain ⟨t2,f2⟩:=Z3n a (n:=18) (by omega);obtain ⟨t3,f3⟩:=Z3n b (n:=17) (by omega);obtain ⟨t4,f4⟩:=Z3n b (n:=19) (by omega);refine ⟨(i+1,w.set i.toNat (Ya .u32 ((Ya .u32 ((Ya .u32 (c+(intBits .xor .u32 (intBits .xor .u32 t1 t2) (shr .u32 a 3))))+d))+(intBits .xor .u32 (intBits .xor .u32 t3 t4) (shr .u32 b 10))))),⟨by show 16≤i+1;omega,by show i+1≤64;omega,by show (w.set _ _).length=64;rw [Yi];exact h2⟩,by show (64-(i+1)).toNat<(64-i).toNat;omega,Zc.of fun k j=>?_⟩;show Zt.l1 (j+1) i w=_
  conv=>lhs;unfold Zt.l1
  rw [Xa hi,w64 (n:=i-15) (by omega) (by omega),w64 (n:=i-2) (by omega) (by omega),w64 (n:=i-16) (by omega) (by omega),w64 (n:=i-7) (by omega) (by omega),w64 (n:=i+1) (by omega) (by omega)];simp only [Xe,ea,eb,ec,ed,ev,Yb,f1,f2,f3,f4];rw [Zdc (by omega),Zdc (by omega)];rfl
 ·left
  refine ⟨w,Zc.of fun k j=>?_,h2⟩;show Zt.l1 (j+1) i w=_
  conv=>lhs;unfold Zt.l1
  rw [Xb hi];rfl
theorem Zaib (w key:List Int) (hw:w.length=64) (hk:key.length=64) (a b c d e f g h:Int):∃r,True∧Zc fun k=>∀j,64<j→Zt.l2 j a b c d e f g h 0 w key=some r:=by
  refine Zno (fun k j (s:Int×Int×Int×Int×Int×Int×Int×Int×Int)=>Zt.l2 j s.1 s.2.1 s.2.2.1 s.2.2.2.1 s.2.2.2.2.1 s.2.2.2.2.2.1 s.2.2.2.2.2.2.1 s.2.2.2.2.2.2.2.1 s.2.2.2.2.2.2.2.2 w key) (fun s=>(64-s.2.2.2.2.2.2.2.2).toNat) (fun s=>0≤s.2.2.2.2.2.2.2.2∧s.2.2.2.2.2.2.2.2≤64) (fun _=>True) (fun s ⟨h0,h1⟩=>?_) 64 (a,b,c,d,e,f,g,h,0) ⟨by simp,by simp⟩ (by simp)
  ·obtain ⟨a,b,c,d,e,f,g,h,i⟩:=s
   have h0:0≤i:=h0;have h1:i≤64:=h1
   by_cases hi:i<64
   ·right
    obtain ⟨x,ex,_⟩:=Zwb (l:=w) (i:=i) (by omega) (by omega);obtain ⟨y,ey,_⟩:=Zwb (l:=key) (i:=i) (by omega) (by omega);obtain ⟨t1,f1⟩:=Z3n e (n:=6) (by omega);obtain ⟨t2,f2⟩:=Z3n e (n:=11) (by omega);obtain ⟨t3,f3⟩:=Z3n e (n:=25) (by omega);obtain ⟨t4,f4⟩:=Z3n a (n:=2) (by omega);obtain ⟨t5,f5⟩:=Z3n a (n:=13) (by omega);obtain ⟨t6,f6⟩:=Z3n a (n:=22) (by omega);refine ⟨(Ya .u32 ((Ya .u32 ((Ya .u32 ((Ya .u32 ((Ya .u32 (h+(intBits .xor .u32 (intBits .xor .u32 t1 t2) t3)))+(intBits .xor .u32 (intBits .and .u32 e f) (intBits .and .u32 (intBits .xor .u32 (Y7 .u32) e) g))))+y))+x))+(Ya .u32 ((intBits .xor .u32 (intBits .xor .u32 t4 t5) t6)+(intBits .xor .u32 (intBits .xor .u32 (intBits .and .u32 a b) (intBits .and .u32 a c)) (intBits .and .u32 b c))))),a,b,c,Ya .u32 (d+Ya .u32 ((Ya .u32 ((Ya .u32 ((Ya .u32 (h+(intBits .xor .u32 (intBits .xor .u32 t1 t2) t3)))+(intBits .xor .u32 (intBits .and .u32 e f) (intBits .and .u32 (intBits .xor .u32 (Y7 .u32) e) g))))+y))+x)),e,f,g,i+1),⟨by show 0≤i+1;omega,by show i+1≤64;omega⟩,by show (64-(i+1)).toNat<(64-i).toNat;omega,Zc.of fun k j=>?_⟩
    ·show Zt.l2 (j+1) a b c d e f g h i w key=_
     conv=>lhs;unfold Zt.l2
     rw [Xa hi,w64 (n:=i+1) (by omega) (by omega)];simp only [Xe,ex,ey,Yb,f1,f2,f3,f4,f5,f6]
   ·left
    refine ⟨(a,b,c,d,e,f,g,h),Zc.of fun k j=>?_,trivial⟩
    ·show Zt.l2 (j+1) a b c d e f g h i w key=_
     conv=>lhs;unfold Zt.l2
     rw [Xb hi];rfl
theorem Zbib (st v:List Int) (hs:st.length=8) (hv:v.length=8):∃r:List Int,r.length=8∧Zc fun k=>∀j,8<j→Zt.l3 j st 0 v []=some r:=by
 refine Zno (fun k j (s:Int×List Int)=>Zt.l3 j st s.1 v s.2) (fun s=>(8-s.1).toNat) (fun s=>0≤s.1∧s.1≤8∧(s.2.length:Int)=s.1) (fun r=>r.length=8) (fun s ⟨h0,h1,h2⟩=>?_) 8 (0,[]) ⟨by simp,by simp,by simp⟩ (by simp)
 obtain ⟨i,o⟩:=s
 have h0:0≤i:=h0
 have h1:i≤8:=h1
 have h2:(o.length:Int)=i:=h2
 by_cases hi:i<8
 ·right
  obtain ⟨x,ex,_⟩:=Zwb (l:=st) (i:=i) (by omega) (by omega);obtain ⟨y,ey,_⟩:=Zwb (l:=v) (i:=i) (by omega) (by omega);refine ⟨(i+1,o++[Ya .i64 (Ya .u32 ((Ya .u32 x)+y))]),⟨by show 0≤i+1;omega,by show i+1≤8;omega,by show ((o++[_]).length:Int)=i+1;rw [Yc];simp;omega⟩,by show (8-(i+1)).toNat<(8-i).toNat;omega,Zc.of fun k j=>?_⟩;show Zt.l3 (j+1) st i v o=_
  conv=>lhs;unfold Zt.l3
  rw [Xa hi,w64 (n:=i+1) (by omega) (by omega)];simp only [Xe,ex,ey,Yb];rw [Z6 (by simp;omega)];rfl
 ·left
  refine ⟨o,Zc.of fun k j=>?_,by omega⟩;show Zt.l3 (j+1) st i v o=_
  conv=>lhs;unfold Zt.l3
  rw [Xb hi];rfl
theorem Zcib (st:List Int) (b:Str) (hs:st.length=8) (hb:b.length=64):Ev (fun k=>Zt k st b) fun r=>r.length=8:=by
 obtain ⟨w0,h0,e0⟩:=Z8hb b hb (Yf 64 0) (by simp)
 obtain ⟨w1,h1,e1⟩:=Z9hb w0 h0
 obtain ⟨s0,a0,_⟩:=Zwb (l:=st) (i:=0) (by omega) (by omega)
 obtain ⟨s1,a1,_⟩:=Zwb (l:=st) (i:=1) (by omega) (by omega)
 obtain ⟨s2,a2,_⟩:=Zwb (l:=st) (i:=2) (by omega) (by omega)
 obtain ⟨s3,a3,_⟩:=Zwb (l:=st) (i:=3) (by omega) (by omega)
 obtain ⟨s4,a4,_⟩:=Zwb (l:=st) (i:=4) (by omega) (by omega)
 obtain ⟨s5,a5,_⟩:=Zwb (l:=st) (i:=5) (by omega) (by omega)
 obtain ⟨s6,a6,_⟩:=Zwb (l:=st) (i:=6) (by omega) (by omega)
 obtain ⟨s7,a7,_⟩:=Zwb (l:=st) (i:=7) (by omega) (by omega)
 have hkey:∃key,Z1j=some key∧key.length=64:=⟨_,rfl,rfl⟩
 obtain ⟨key,ek,hkl⟩:=hkey
 obtain ⟨r,_,er⟩:=Zaib w1 key h1 hkl (Ya .u32 s0) (Ya .u32 s1) (Ya .u32 s2) (Ya .u32 s3) (Ya .u32 s4) (Ya .u32 s5) (Ya .u32 s6) (Ya .u32 s7)
 obtain ⟨o,ho,eo⟩:=Zbib st [r.1,r.2.1,r.2.2.1,r.2.2.2.1,r.2.2.2.2.1,r.2.2.2.2.2.1,r.2.2.2.2.2.2.1,r.2.2.2.2.2.2.2] hs rfl
 refine ⟨o,ho,((((e0.and e1).and er).and eo).and (Zc.ge 66 fun k hk=>hk)).mono fun k ⟨⟨⟨⟨e0,e1⟩,er⟩,eo⟩,hk⟩=>?_⟩
 have hm:Z9g 4 64 64 (0:Int)=some (Yf 64 0):=Zpq (n:=64) (b:=4) (by omega)
 unfold Zt
 rw [hm]
 simp only [Yb]
 rw [e0 k (by omega)]
 simp only [Yb]
 rw [e1 k (by omega)]
 simp only [a0,a1,a2,a3,a4,a5,a6,a7,Yb]
 rw [ek]
 simp only [Yb]
 rw [er k (by omega)]
 simp only [Yb]
 rw [eo k (by omega)]
 rfl
theorem all0 (l:List Int) (hl:l.length≤9000):∃r:List Int,(r.length≤9100∧r.length%64=56)∧Zc fun k=>∀j,64<j→Zu.l0 j l=some r:=by
 refine Zno (fun k j (s:List Int)=>Zu.l0 j s) (fun s=>(56+64-s.length%64)%64) (fun s=>s.length+(56+64-s.length%64)%64≤9100) (fun r=>r.length≤9100∧r.length%64=56) (fun s h=>?_) 64 l (by show l.length+_≤9100;omega) (by omega)
 have h:s.length+(56+64-s.length%64)%64≤9100:=h
 have e:Yr (s.length:Int) 64=((s.length%64:Nat):Int):=by rw [Ys (by omega)];omega
 by_cases hm:s.length%64=56
 ·left
  refine ⟨s,Zc.of fun k j=>?_,by omega,hm⟩;show Zu.l0 (j+1) s=_
  conv=>lhs;unfold Zu.l0
  rw [Znk (by omega),e,hm];rfl
 ·right
  refine ⟨s++[0],by show (s++[0]).length+_≤9100;rw [Yc];simp only [Yj,Yh];omega,by show (56+64-(s++[0]).length%64)%64<_;rw [Yc];simp only [Yj,Yh];omega,Zc.of fun k j=>?_⟩;show Zu.l0 (j+1) s=_
  conv=>lhs;unfold Zu.l0
  rw [Znk (by omega),e,show (((s.length%64:Nat):Int) != 56)=true by simp;omega];simp only [Xe,Yb];rw [Z6 (by simp;omega)];rfl
theorem all1 (n:Int) (l:List Int) (hl:l.length≤9100) (hm:l.length%64=56):∃r:List Int,(r.length≤9200∧r.length%64=0)∧Zc fun k=>∀j,8<j→Zu.l1 j n 56 l=some r:=by
 refine Zno (fun k j (s:Int×List Int)=>Zu.l1 j n s.1 s.2) (fun s=>((s.1+8)/8).toNat) (fun s=>∃q:Nat,s.1=8*(q:Int)-8∧q≤8∧s.2.length+q=l.length+8) (fun r=>r.length≤9200∧r.length%64=0) (fun s ⟨q,h0,h1,h2⟩=>?_) 8 (56,l) ⟨8,by simp,by omega,by simp⟩ (by simp)
 obtain ⟨i,o⟩:=s
 have h0:i=8*(q:Int)-8:=h0
 have h2:o.length+q=l.length+8:=h2
 by_cases hi:0≤i
 ·right
  refine ⟨(i-8,o++[Ya .u8 (shr .u64 n (Ya .u64 i))]),⟨q-1,by show i-8=_;omega,by omega,by show (o++[_]).length+_=_;rw [Yc];simp only [Yj,Yh];omega⟩,by show ((i-8+8)/8).toNat<((i+8)/8).toNat;omega,Zc.of fun k j=>?_⟩;show Zu.l1 (j+1) n i o=_
  conv=>lhs;unfold Zu.l1
  rw [Xa hi,Zdc (by rw [Zfh];omega),w64 (n:=i-8) (by omega) (by omega)];simp only [Xe,Yb];rw [Z6 (by simp;omega)];rfl
 ·left
  refine ⟨o,Zc.of fun k j=>?_,by omega,by omega⟩;show Zu.l1 (j+1) n i o=_
  conv=>lhs;unfold Zu.l1
  rw [Xb hi];rfl
theorem all2 (l:List Int) (hl:l.length≤9200) (hm:l.length%64=0) (st:List Int) (hs:st.length=8):∃r:List Int,r.length=8∧Zc fun k=>∀j,l.length<j→Zu.l2 k j l 0 st=some r:=by
 refine Zno (fun k j (s:Int×List Int)=>Zu.l2 k j l s.1 s.2) (fun s=>((l.length:Int)-s.1).toNat) (fun s=>∃q:Nat,s.1=64*(q:Int)∧s.1≤(l.length:Int)∧s.2.length=8) (fun r=>r.length=8) (fun s ⟨q,h0,h1,h2⟩=>?_) l.length (0,st) ⟨0,by simp,by simp,hs⟩ (by simp)
 obtain ⟨i,o⟩:=s
 have h0:i=64*(q:Int):=h0
 have h1:i≤(l.length:Int):=h1
 have h2:o.length=8:=h2
 by_cases hi:i<(l.length:Int)
 ·right
  obtain ⟨t,et,ht⟩:=Znp (l:=l) (i:=i) (j:=i+64) (by omega) (by omega) (by omega);obtain ⟨r,hr,er⟩:=Zcib o (Ztb t) h2 (by rw [Zdl];omega);refine ⟨(i+64,r),⟨q+1,by show i+64=_;omega,by show i+64≤_;omega,hr⟩,by show ((l.length:Int)-(i+64)).toNat<((l.length:Int)-i).toNat;omega,er.mono fun k er j=>?_⟩;show Zu.l2 k (j+1) l i o=_
  conv=>lhs;unfold Zu.l2
  rw [Xa hi,w64 (n:=i+64) (by omega) (by omega)];simp only [Xe];rw [et];simp only [Yb];have er:Zt k o (Ztb t)=some r:=er;rw [er];rfl
 ·left
  refine ⟨o,Zc.of fun k j=>?_,h2⟩;show Zu.l2 k (j+1) l i o=_
  conv=>lhs;unfold Zu.l2
  rw [Xb hi];rfl
theorem all3 (st:List Int) (hs:st.length=8):∃r:List Int,r.length=32∧Zc fun k=>∀j,8<j→Zu.l3 j 0 st []=some r:=by
 refine Zno (fun k j (s:Int×List Int)=>Zu.l3 j s.1 st s.2) (fun s=>(8-s.1).toNat) (fun s=>0≤s.1∧s.1≤8∧(s.2.length:Int)=4*s.1) (fun r=>r.length=32) (fun s ⟨h0,h1,h2⟩=>?_) 8 (0,[]) ⟨by simp,by simp,by simp⟩ (by simp)
 obtain ⟨i,o⟩:=s
 have h0:0≤i:=h0
 have h1:i≤8:=h1
 have h2:(o.length:Int)=4*i:=h2
 by_cases hi:i<8
 ·right
  obtain ⟨x,ex,_⟩:=Zwb (l:=st) (i:=i) (by omega) (by omega);refine ⟨(i+1,o++[(Ya .u8 (shr .i64 x 24)),(Ya .u8 (shr .i64 x 16)),(Ya .u8 (shr .i64 x 8)),(Ya .u8 x)]),⟨by show 0≤i+1;omega,by show i+1≤8;omega,by show ((o++[_,_,_,_]).length:Int)=4*(i+1);rw [Yc];simp only [Yj,Yh];omega⟩,by show (8-(i+1)).toNat<(8-i).toNat;omega,Zc.of fun k j=>?_⟩;show Zu.l3 (j+1) i st o=_
  conv=>lhs;unfold Zu.l3
  rw [Xa hi,w64 (n:=i+1) (by omega) (by omega)];simp only [Xe,ex,Yb];rw [Zdc (by omega),Zdc (by omega),Zdc (by omega)];simp only [Yb];rw [Z6 (by simp;omega)];rfl
 ·left
  refine ⟨o,Zc.of fun k j=>?_,by omega⟩;show Zu.l3 (j+1) i st o=_
  conv=>lhs;unfold Zu.l3
  rw [Xb hi];rfl
end Dgu
open Dgu in
theorem sDigest_ev (s:Str) (h:s.length≤8000):Ev (fun k=>Zej k s) fun d=>d.length=32:=by
 have hb:(Zgb s).length=s.length:=by simp [Zgb]
 obtain ⟨a,⟨h1,h2⟩,ea⟩:=all0 (Zgb s++[128]) (by rw [Yc,hb];simp;omega)
 obtain ⟨b,⟨h3,h4⟩,eb⟩:=all1 (Ya .u64 (Ya .i64 (8*(s.length:Int)))) a h1 h2
 have hst:∃st,Zts=some st∧st.length=8:=⟨_,rfl,rfl⟩
 obtain ⟨st,es,hs⟩:=hst
 obtain ⟨c,h5,ec⟩:=all2 b h3 h4 st hs
 obtain ⟨d,h6,ed⟩:=all3 c h5
 refine ⟨Ztb d,by show (Ztb d).length=32;rw [Zdl];exact h6,((((ea.and eb).and ec).and ed).and (Zc.ge 9300 fun k hk=>hk)).mono fun k ⟨⟨⟨⟨ea,eb⟩,ec⟩,ed⟩,hk⟩=>?_⟩
 unfold Zej Zu
 rw [Xb (by omega:¬(8000<(s.length:Int))),Zk6 (by omega)]
 simp only [Xf,Yb]
 rw [Z6 (by rw [hb];simp;omega)]
 simp only [Yb]
 rw [ea k (by omega)]
 simp only [Yb]
 rw [eb k (by omega)]
 simp only [Yb]
 rw [es]
 simp only [Yb]
 rw [ec k (by omega)]
 simp only [Yb]
 rw [ed k (by omega)]
 rfl
abbrev Z0b:=List Int×Int×Int×Int
def Src (s:Z0b):Prop:=0≤s.2.1∧s.1.length≤140737488351232
theorem Z3 (s:Z0b) (hs:Src s) (m:Int) (hm:m<9223372036854775807):∃p:Int×Z0b,Zp s m=some p∧Src p.2∧0≤p.1∧(m≤1→p.1=0)∧(1<m→p.1<m):=by
 unfold Zp
 by_cases h:m≤1
 ·rw [Xa h]
  exact ⟨(0,s),rfl,hs,Yl _,fun _=>rfl,fun q=>by omega⟩
 ·have hj:∃q:Int×Z0b,Zp.j0 0 s.1 s.2.1 s.2.2.1 s.2.2.2=some q∧Src q.2:=by
   obtain ⟨h0,h1⟩:=hs;unfold Zp.j0
   by_cases ha:s.2.1<(s.1.length:Int)
   ·obtain ⟨c,ec,_⟩:=Zwb h0 ha
    rw [Xa ha,ec,w64 (by omega) (by omega)];exact ⟨(Ya .u64 c,s.1,s.2.1+1,s.2.2.1,s.2.2.2),rfl,by show 0≤s.2.1+1;omega,h1⟩
   ·rw [Xb ha]
    exact ⟨(0,s),rfl,h0,h1⟩
  obtain ⟨q,hq,hq2⟩:=hj;rw [Xb h,hq];simp only [Xf,Yb];rw [Zdc (by omega),Zdc (by omega),Zdc (by omega),Zdc (by omega),Z67 (n:=m) (by omega) (by omega),Znk (by omega)];simp only [Yb];generalize intBits .xor .u64 (intBits .xor .u64 (intBits .xor .u64 q.2.2.2.1 (shl .u64 q.2.2.2.1 13)) (shr .u64 (intBits .xor .u64 q.2.2.2.1 (shl .u64 q.2.2.2.1 13)) 7)) (shl .u64 (intBits .xor .u64 (intBits .xor .u64 q.2.2.2.1 (shl .u64 q.2.2.2.1 13)) (shr .u64 (intBits .xor .u64 q.2.2.2.1 (shl .u64 q.2.2.2.1 13)) 7)) 17)=e;generalize hx:Ya .u64 (q.1+shr .u64 e 20)=x;have hx0:0≤x:=by rw [← hx,Zfh];omega
  have h1:Yr x m=x%m:=Ys hx0;have h2:=Y6 x (by omega:m≠0);have h3:=Y5 x (by omega:0<m);refine ⟨(x%m,q.2.1,q.2.2.1,e,q.2.2.2.2),?_,hq2,h2,fun q=>absurd q h,fun _=>h3⟩;rw [h1,w64 (by omega) (by omega)]
theorem Zdg (s:Z0b) (hs:Src s) (m:Int) (hm:m<9223372036854775807):∃p:Bool×Z0b,Z9b s m=some p∧Src p.2:=by
 obtain ⟨p,h1,h2,_⟩:=Z3 s hs m hm
 unfold Z9b
 rw [h1]
 exact ⟨(p.1==0,p.2),rfl,h2⟩
theorem Zsab (s:Z0b) (hs:Src s):∃p:Int×Z0b,Zxn s=some p∧Src p.2∧Num p.1:=by
 obtain ⟨p,h1,h2,h3,_,h4⟩:=Z3 s hs 14 (by omega)
 have h4:=h4 (by omega)
 unfold Zxn
 rw [h1]
 simp only [Yb]
 obtain ⟨x,ex,hx⟩:=Zwb (l:=[0,1,(-1),2,1000,1001,2147483648,2147483647,(-2147483648),4611686018427387904,9223372036854775807,(-9223372036854775808),1000000,(1000001:Int)]) h3 h4
 rw [ex]
 refine ⟨(x,p.2),rfl,h2,?_⟩
 have key:∀x∈[0,1,(-1),2,1000,1001,2147483648,2147483647,(-2147483648),4611686018427387904,9223372036854775807,(-9223372036854775808),1000000,(1000001:Int)],-9223372036854775808≤x∧x<9223372036854775808:=by decide
 exact key x hx
theorem Zjx (code:List Int) (hc:code.length≤1048576):∃s:Z0b,Src s∧∀k,65≤k→Z9c k code=some s:=by
 have hl:∃r:Z0b,Src r∧∀k,64<k→Z9c.l0 k code 0 code 0 88172645463325252 0=some r:=by
  refine Zdnb (fun j (s:Int×Int)=>Z9c.l0 j code s.1 code 0 s.2 0) (fun s=>(64-s.1).toNat) (fun s=>0≤s.1∧s.1≤64) Src (fun s ⟨h0,h1⟩=>?_) 64 (0,88172645463325252) ⟨by simp,by simp⟩ (by simp);obtain ⟨i,mix⟩:=s;have h0:0≤i:=h0;have h1:i≤64:=h1
  by_cases hi:i<(code.length:Int)∧i<64
  ·right
   obtain ⟨c,ec,_⟩:=Zwb h0 hi.1;refine ⟨(i+1,Ya .u64 ((intBits .xor .u64 mix (Ya .u64 c))*1099511628211)),⟨by show 0≤i+1;omega,by show i+1≤64;omega⟩,by show (64-(i+1)).toNat<(64-i).toNat;omega,fun j=>?_⟩;show Z9c.l0 (j+1) code i code 0 mix 0=_
   conv=>lhs;unfold Z9c.l0
   rw [Xa hi.1,Xa hi.2,ec,w64 (n:=i+1) (by omega) (by omega)];rfl
  ·left
   refine ⟨(code,0,mix,0),fun j=>?_,by show (0:Int)≤0;omega,by show code.length≤_;omega⟩;show Z9c.l0 (j+1) code i code 0 mix 0=_
   conv=>lhs;unfold Z9c.l0
   rw [show (decide (i<(code.length:Int))&&decide (i<64))=false by rw [Bool.eq_false_iff,Ne,Yd,decide_eq_true_eq,decide_eq_true_eq];exact hi];rfl
 obtain ⟨r,hr,er⟩:=hl
 cases hc:decide (12<Ya .i64 (Int.tdiv (code.length:Int) 20)) with
 | false=>
  refine ⟨(r.1,r.2.1,r.2.2.1,Ya .i64 (Int.tdiv (code.length:Int) 20)),hr,fun k hk=>?_⟩;unfold Z9c;rw [er k (by omega),Znk (by omega)];simp only [Yb];rw [hc];rfl
 | true=>
  refine ⟨(r.1,r.2.1,r.2.2.1,12),hr,fun k hk=>?_⟩;unfold Z9c;rw [er k (by omega),Znk (by omega)];simp only [Yb];rw [hc];rfl
theorem Z3fb (s:Z0b) (hs:Src s) (t:Str) (ht:t.length≤100000):∃p:Str×Z0b,Z4o s t=some p∧Src p.2∧p.1.length≤t.length+1:=by
 obtain ⟨v3,e3,s3,l3,z3,u3⟩:=Z3 s hs ((t.length:Int)+1) (by omega)
 obtain ⟨v4,e4,s4,l4,_,u4⟩:=Z3 v3.2 s3 17 (by omega)
 have u4:=u4 (by omega)
 have hle:v3.1≤(t.length:Int):=by
  by_cases h:(t.length:Int)+1≤1
  ·rw [z3 h];omega
  ·have:=u3 (by omega);omega
 obtain ⟨c,ec,_⟩:=Zwb (l:=([32,10,48,97,45,110,44,58,93,255,40,120,126,49,128,225,59]:Str)) l4 u4
 obtain ⟨a,ea,la⟩:=Znp (l:=t) (i:=0) (j:=v3.1) (by omega) l3 hle
 obtain ⟨b,eb,lb⟩:=Znp (l:=t) (i:=v3.1) (j:=(t.length:Int)) l3 hle (Yl _)
 have hc1:(Ztb [((c.toNat:Nat):Int)]).length=1:=rfl
 unfold Z4o
 rw [w64 (n:=(t.length:Int)+1) (by omega) (by omega),e3]
 simp only [Yb]
 rw [e4]
 simp only [Yb]
 rw [ec]
 simp only [Yb]
 rw [ea,eb]
 simp only [Yb]
 have c1:Z2c a (Ztb [((c.toNat:Nat):Int)])=some (a++Ztb [((c.toNat:Nat):Int)]):=Zwd (by omega)
 have c2:Z2c (a++Ztb [((c.toNat:Nat):Int)]) b=some (a++Ztb [((c.toNat:Nat):Int)]++b):=Zwd (by rw [Yc];omega)
 have hlen:(a++Ztb [((c.toNat:Nat):Int)]++b).length≤t.length+1:=by rw [Yc,Yc];omega
 by_cases hq:v3.1=(t.length:Int)
 ·rw [show (v3.1==(t.length:Int))=true by rw [hq];simp]
  simp only [Xe];rw [c1];simp only [Yb];rw [c2];exact ⟨(_,v4.2),rfl,s4,hlen⟩
 ·rw [show (v3.1==(t.length:Int))=false by simpa using hq]
  simp only [Xf];obtain ⟨v13,e13,s13⟩:=Zdg v4.2 s4 3 (by omega);rw [e13];simp only [Yb];cases hv:v13.1 with
  | true=>
   simp only [Xe];rw [c1];simp only [Yb];rw [c2];exact ⟨(_,v13.2),rfl,s13,hlen⟩
  | false=>
   simp only [Xf];obtain ⟨v18,e18,s18⟩:=Zdg v13.2 s13 2 (by omega);rw [e18,w64 (n:=v3.1+1) (by omega) (by omega)];simp only [Yb];obtain ⟨d,ed,ld⟩:=Znp (l:=t) (i:=v3.1+1) (j:=(t.length:Int)) (by omega) (by omega) (Yl _);rw [ed];simp only [Yb];cases hw:v18.1 with
   | true=>
    simp only [Xe];rw [Zwd (by omega)];exact ⟨(_,v18.2),rfl,s18,by show (a++d).length≤_;rw [Yc];omega⟩
   | false=>
    simp only [Xf];rw [c1];simp only [Yb];rw [Zwd (by rw [Yc];omega)];exact ⟨(_,v18.2),rfl,s18,by show (a++Ztb [((c.toNat:Nat):Int)]++d).length≤_;rw [Yc,Yc];omega⟩
theorem Ztdb (s:Z0b) (hs:Src s) (l:List Str) (P:Str→Prop) (hl:1<l.length) (hl2:l.length≤1000) (hP:∀x∈l,P x):∃p:Str×Z0b,Zyn s l=some p∧P p.1∧Src p.2:=by
 obtain ⟨v,e,h1,h2,_,h3⟩:=Z3 s hs (l.length:Int) (by omega)
 obtain ⟨x,ex,hx⟩:=Zwb h2 (h3 (by omega))
 unfold Zyn
 rw [e]
 simp only [Yb]
 rw [ex]
 exact ⟨(x,v.2),rfl,hP x hx,h1⟩
theorem Zet (s:Z0b) (hs:Src s):∃p:Str×Z0b,Z5h s=some p∧p.1.length=8∧Src p.2:=by
 obtain ⟨p,e,h1,h2⟩:=Ztdb s hs ([([97,97,97,97,97,97,97,97]:Str),([97,98,97,98,97,98,97,98]:Str),([104,101,108,108,111,32,32,33]:Str),([0,0,0,0,0,0,0,0]:Str),([0,0,0,1,0,0,0,0]:Str)]) (fun x=>x.length=8) (by decide) (by decide) (by decide)
 unfold Z5h
 rw [e]
 exact ⟨p,rfl,h1,h2⟩
abbrev Z9gb:=Int×Int×Int×Str×Z0b
theorem Zyrb (b:Int) (hb:b<1000) (s:Z0b) (hs:Src s) (a6 a7 a8:Int) (a9:Str) (h9:a9.length≤8):∃p:List Int×Int×Int×Int×Int×Int×Int×Str,Z7e.j0 b s.1 s.2.1 s.2.2.1 s.2.2.2 a6 a7 a8 a9=some p∧Src (p.1,(p.2.1,(p.2.2.1,p.2.2.2.1)))∧p.2.2.2.2.2.2.2.length≤8:=by
 unfold Z7e.j0
 cases decide (3≤a6) with
 | true=>
  obtain ⟨v,e,h1,_⟩:=Z3 s hs b (by omega);simp only [Xe];rw [e];exact ⟨_,rfl,h1,h9⟩
 | false=>exact ⟨_,rfl,hs,h9⟩
theorem Zm1 (s:Z0b) (hs:Src s) (b:Int) (hb:b<1000):∃p:Z9gb,Z7e s b=some p∧p.2.2.2.1.length≤8∧Src p.2.2.2.2:=by
 obtain ⟨v3,e3,h3,_⟩:=Z3 s hs 4 (by omega)
 obtain ⟨v4,e4,h4,_⟩:=Z3 v3.2 h3 b (by omega)
 obtain ⟨y5,e5,h5,l5⟩:=Zyrb b hb v4.2 h4 (Ya .i64 (1+v3.1)) v4.1 0 [] (by simp)
 unfold Z7e
 rw [e3]
 simp only [Yb]
 rw [e4]
 simp only [Yb]
 rw [e5]
 simp only [Yb]
 cases ((y5.2.2.2.2.1==2)||(y5.2.2.2.2.1==4)) with
 | true=>
  obtain ⟨v6,e6,l6,h6⟩:=Zet _ h5;simp only [Xe];rw [e6];exact ⟨_,rfl,by show v6.1.length≤8;omega,h6⟩
 | false=>exact ⟨_,rfl,l5,h5⟩
theorem Zpv (s:Z0b) (hs:Src s) (m:Int) (h0:0≤m) (h1:m≤1000):Ev (fun k=>Zmd k s m) fun p=>(p.1.length:Int)=m∧Src p.2:=by
 unfold Zmd
 refine Ev.bind (Q:=fun (r:List Int×Int×Int×Int×List Int)=>(r.2.2.2.2.length:Int)=m∧Src (r.1,(r.2.1,(r.2.2.1,r.2.2.2.1)))) ?_ fun r hr=>Ev.ret ⟨by show ((Ztb r.2.2.2.2).length:Int)=m;rw [Zdl];exact hr.1,hr.2⟩
 refine Ev.loop (fun k j (z:Int×Z0b×List Int)=>Zmd.l0 j m z.1 z.2.1.1 z.2.1.2.1 z.2.1.2.2.1 z.2.1.2.2.2 z.2.2) (fun z=>(m-z.1).toNat) (fun z=>0≤z.1∧z.1≤m∧(z.2.2.length:Int)=z.1∧Src z.2.1) _ (0,s,[]) ⟨by simp,h0,by simp,hs⟩ ?_
 rintro ⟨i,z,l⟩ ⟨q0,q1,q2,q3⟩
 have q0:0≤i:=q0
 have q1:i≤m:=q1
 have q2:(l.length:Int)=i:=q2
 by_cases hi:i<m
 ·right
  obtain ⟨v,e,h,_⟩:=Z3 z q3 256 (by omega);refine ⟨(i+1,v.2,l++[Ya .u8 v.1]),⟨by show 0≤i+1;omega,by show i+1≤m;omega,by show ((l++[_]).length:Int)=i+1;rw [Yc];simp;omega,h⟩,by show (m-(i+1)).toNat<(m-i).toNat;omega,Zc.of fun k j=>?_⟩;show Zmd.l0 (j+1) m i z.1 z.2.1 z.2.2.1 z.2.2.2 l=_
  conv=>lhs;unfold Zmd.l0
  rw [Xa hi];simp only [Xe];rw [e];simp only [Yb];rw [Z6 (by simp;omega),w64 (n:=i+1) (by omega) (by omega)];rfl
 ·left
  refine ⟨(z.1,z.2.1,z.2.2.1,z.2.2.2,l),Zc.of fun k j=>?_,by show (l.length:Int)=m;omega,q3⟩;show Zmd.l0 (j+1) m i z.1 z.2.1 z.2.2.1 z.2.2.2 l=_
  conv=>lhs;unfold Zmd.l0
  rw [Xb hi];rfl
theorem Zthb (s:Z0b) (hs:Src s) (a5 a6 a7:Int) (a8:Str):∃p:List Int×Int×Int×Int×Int×Int×Int×Str,Zog.j0 s.1 s.2.1 s.2.2.1 s.2.2.2 a5 a6 a7 a8=some p∧Src (p.1,(p.2.1,(p.2.2.1,p.2.2.2.1))):=by
 obtain ⟨v9,e9,h9⟩:=Zdg s hs 6 (by omega)
 unfold Zog.j0
 have e9:Z9b (s.1,(s.2.1,(s.2.2.1,s.2.2.2))) 6=some v9:=e9
 rw [e9]
 simp only [Yb]
 cases v9.1 with
 | true=>
  obtain ⟨v,e,h,_⟩:=Z3 v9.2 h9 9 (by omega);simp only [Xe];rw [e];exact ⟨_,rfl,h⟩
 | false=>exact ⟨_,rfl,h9⟩
theorem Zm8 (s:Z0b) (hs:Src s):Ev (fun k=>Zog k s) fun p=>Src p.2.2.2.2:=by
 obtain ⟨v2,e2,_,h2⟩:=Zm1 s hs 4 (by omega)
 obtain ⟨y3,e3,h3⟩:=Zthb v2.2.2.2.2 h2 v2.1 v2.2.1 v2.2.2.1 v2.2.2.2.1
 obtain ⟨v4,e4,h4⟩:=Zdg _ h3 10 (by omega)
 unfold Zog
 refine Ev.bnd e2 (Ev.bnd e3 (Ev.bnd e4 (Ev.cond (fun _=>?_) fun _=>Ev.ret h4)))
 obtain ⟨v5,e5,h5,l5,_,u5⟩:=Z3 v4.2 h4 5 (by omega)
 refine Ev.bnd e5 (Ev.cond (fun _=>?_) fun _=>Ev.cond (fun _=>?_) fun _=>Ev.cond (fun _=>?_) fun _=>Ev.cond (fun _=>?_) fun _=>Ev.ret h5)
 ·obtain ⟨v6,e6,h6,_⟩:=Z3 v5.2 h5 7 (by omega)
  exact Ev.bnd e6 (Ev.ret h6)
 ·obtain ⟨v7,e7,h7,l7,_,u7⟩:=Z3 v5.2 h5 3 (by omega)
  obtain ⟨x,ex,_⟩:=Zwb (l:=[(-1),7,(8:Int)]) l7 (u7 (by omega));exact Ev.bnd e7 (Ev.bnd ex (Ev.bnd ex (Ev.ret h7)))
 ·obtain ⟨v7,e7,h7,l7,_,u7⟩:=Z3 v5.2 h5 5 (by omega)
  obtain ⟨x,ex,_⟩:=Zwb (l:=[(-1),7,8,1000000,(1000001:Int)]) l7 (u7 (by omega));exact Ev.bnd e7 (Ev.bnd ex (Ev.bnd ex (Ev.ret h7)))
 ·obtain ⟨v7,e7,h7,l7,_,u7⟩:=Z3 v5.2 h5 3 (by omega)
  have u7:=u7 (by omega);have hb:=Zpv v7.2 h7 (7+v7.1) (by omega) (by omega);rw [← w64 (n:=7+v7.1) (by omega) (by omega)] at hb;exact Ev.bnd e7 (Ev.bind hb fun p hp=>Ev.ret hp.2)
theorem Z2rb (a1:Int) (s:Z0b) (hs:Src s) (a6 a7 a8:Int) (a9:Str):∃p:Int×List Int×Int×Int×Int×Int×Int×Int×Str,Zwc.j0 a1 s.1 s.2.1 s.2.2.1 s.2.2.2 a6 a7 a8 a9=some p∧Src (p.2.1,(p.2.2.1,(p.2.2.2.1,p.2.2.2.2.1))):=by
 obtain ⟨v9,e9,h9⟩:=Zdg s hs 5 (by omega)
 unfold Zwc.j0
 have e9:Z9b (s.1,(s.2.1,(s.2.2.1,s.2.2.2))) 5=some v9:=e9
 rw [e9]
 simp only [Yb]
 cases v9.1 with
 | true=>
  obtain ⟨v,e,h,_⟩:=Z3 v9.2 h9 3 (by omega);simp only [Xe];rw [e];exact ⟨_,rfl,h⟩
 | false=>exact ⟨_,rfl,h9⟩
theorem Z2ib {n:Int} (h1:1≤n) (h2:n≤8):Zab [] n=0:=by
 unfold Zab
 rw [Xd (fun h=>by
  rcases h with h | h | h
  ·simp at h
  ·exact h ⟨h1,h2⟩
  ·simp at h),Xd (not_not_intro Yga:¬¬(Zod []).Nodup)]
 rfl
theorem Z3rb (s:Z0b) (hs:Src s) (b:Int) (h1:1≤b) (h8:b≤8):Ev (fun k=>Zwc k s b) fun p=>Zab p.1 b=0∧Src p.2:=by
 obtain ⟨v3,e3,h3,l3,_,u3⟩:=Z3 s hs (b+3) (by omega)
 have u3:=u3 (by omega)
 rw [← w64 (n:=b+3) (by omega) (by omega)] at e3
 unfold Zwc
 refine Ev.bnd e3 (Ev.bind (Q:=fun (r:List Int×Int×Int×Int×List Zi)=>Zab r.2.2.2.2 b=0∧Src (r.1,(r.2.1,(r.2.2.1,r.2.2.2.1)))) ?_ fun r hr=>Ev.ret hr)
 refine Ev.loop (fun k j (z:Int×Int×Z0b×List Zi)=>Zwc.l1 k j b z.1 z.2.1 z.2.2.1.1 z.2.2.1.2.1 z.2.2.1.2.2.1 z.2.2.1.2.2.2 z.2.2.2) (fun z=>z.2.1.toNat) (fun z=>0≤z.2.1∧z.2.1≤100∧Zab z.2.2.2 b=0∧Src z.2.2.1) _ (0,v3.1,v3.2,[]) ⟨l3,by show v3.1≤100;omega,Z2ib h1 h8,h3⟩ ?_
 rintro ⟨a,i,z,l⟩ ⟨q0,q1,q2,q3⟩
 have q0:0≤i:=q0
 have q1:i≤100:=q1
 have q2:Zab l b=0:=q2
 by_cases hi:0<i
 ·right
  obtain ⟨v9,e9,_,h9⟩:=Zm1 z q3 b (by omega);obtain ⟨y,ey,hy⟩:=Z2rb a v9.2.2.2.2 h9 v9.1 v9.2.1 v9.2.2.1 v9.2.2.2.1;have hl:=(Zvg q2).1;have hc:=Zqs (l++[y.2.2.2.2.2]) b (by rw [Yc];simp;omega)
  by_cases h0:Zab (l++[y.2.2.2.2.2]) b=0
  ·refine ⟨(y.1,i-1,(y.2.1,(y.2.2.1,(y.2.2.2.1,y.2.2.2.2.1))),l++[y.2.2.2.2.2]),⟨by show 0≤i-1;omega,by show i-1≤100;omega,h0,hy⟩,by show (i-1).toNat<i.toNat;omega,hc.mono fun k hc j=>?_⟩
   show Zwc.l1 k (j+1) b a i z.1 z.2.1 z.2.2.1 z.2.2.2 l=_
   conv=>lhs;unfold Zwc.l1
   rw [Xa hi];simp only [Xe];rw [e9];simp only [Yb];rw [ey];simp only [Yb];rw [Z6 (by simp;omega)];simp only [Yb,Yfa];rw [Z6 (by simp;omega)];simp only [Yb];rw [hc,h0];simp only [Yb];rw [show ((0:Int)==0)=true from rfl,w64 (n:=i-1) (by omega) (by omega)];rfl
  ·refine ⟨(y.1,i-1,(y.2.1,(y.2.2.1,(y.2.2.2.1,y.2.2.2.2.1))),l),⟨by show 0≤i-1;omega,by show i-1≤100;omega,q2,hy⟩,by show (i-1).toNat<i.toNat;omega,hc.mono fun k hc j=>?_⟩
   show Zwc.l1 k (j+1) b a i z.1 z.2.1 z.2.2.1 z.2.2.2 l=_
   conv=>lhs;unfold Zwc.l1
   rw [Xa hi];simp only [Xe];rw [e9];simp only [Yb];rw [ey];simp only [Yb];rw [Z6 (by simp;omega)];simp only [Yb,Yfa];rw [Z6 (by simp;omega)];simp only [Yb];rw [hc];simp only [Yb];rw [Zei,Xb h0,w64 (n:=i-1) (by omega) (by omega)];rfl
 ·left
  refine ⟨(z.1,z.2.1,z.2.2.1,z.2.2.2,l),Zc.of fun k j=>?_,q2,q3⟩;show Zwc.l1 k (j+1) b a i z.1 z.2.1 z.2.2.1 z.2.2.2 l=_
  conv=>lhs;unfold Zwc.l1
  rw [Xb hi];rfl
theorem Zl4 (s:Z0b) (hs:Src s) (n:Int) (h0:0≤n) (h1:n≤100):Ev (fun k=>Zze k s n) fun p=>(p.1.length:Int)=n∧Src p.2:=by
 unfold Zze
 refine Ev.bind (Q:=fun (r:List Int×Int×Int×Int×List Str)=>(r.2.2.2.2.length:Int)=n∧Src (r.1,(r.2.1,(r.2.2.1,r.2.2.2.1)))) ?_ fun r hr=>Ev.ret hr
 refine Ev.loop (fun k j (z:Int×Z0b×List Str)=>Zze.l0 j z.1 z.2.1.1 z.2.1.2.1 z.2.1.2.2.1 z.2.1.2.2.2 z.2.2) (fun z=>z.1.toNat) (fun z=>0≤z.1∧z.1≤n∧(z.2.2.length:Int)=n-z.1∧Src z.2.1) _ (n,s,[]) ⟨h0,Yl _,by simp,hs⟩ ?_
 rintro ⟨i,z,l⟩ ⟨q0,q1,q2,q3⟩
 have q0:0≤i:=q0
 have q1:i≤n:=q1
 have q2:(l.length:Int)=n-i:=q2
 by_cases hi:0<i
 ·right
  obtain ⟨v,e,_,h⟩:=Zet z q3;refine ⟨(i-1,v.2,l++[v.1]),⟨by show 0≤i-1;omega,by show i-1≤n;omega,by show ((l++[_]).length:Int)=n-(i-1);rw [Yc];simp;omega,h⟩,by show (i-1).toNat<i.toNat;omega,Zc.of fun k j=>?_⟩;show Zze.l0 (j+1) i z.1 z.2.1 z.2.2.1 z.2.2.2 l=_
  conv=>lhs;unfold Zze.l0
  rw [Xa hi];simp only [Xe];rw [e];simp only [Yb];rw [Z6 (by simp;omega),w64 (n:=i-1) (by omega) (by omega)];rfl
 ·left
  refine ⟨(z.1,z.2.1,z.2.2.1,z.2.2.2,l),Zc.of fun k j=>?_,by show (l.length:Int)=n;omega,q3⟩;show Zze.l0 (j+1) i z.1 z.2.1 z.2.2.1 z.2.2.2 l=_
  conv=>lhs;unfold Zze.l0
  rw [Xb hi];rfl
theorem Zdfb (l:List Str) (hl:l.length≤1048576):Zc fun k=>Zvc k l=some (Zyd l):=Zc.ge 100 fun k hk=>Zdx l hk
theorem Zbbb:∀l:List Str,(∀x∈l,x.length=8)→l.flatten.length=8*l.length
 | [],_=>rfl
 | x::l,h=>by
  rw [List.flatten_cons,Yc,Zbbb l (fun y hy=>h y (Yca _ hy)),h x Yda,Yj];omega
theorem Zhqb (l:List Str) (h:∀x∈l,x.length=8) (hl:l.length≤8):Zc fun k=>Zcd k l=some l.flatten:=by
 have run:=Zr9 (fun k j acc i=>Zcd.l0 j l acc i) l (fun x=>x) 8 100 (fun x hx=>by rw [h x hx];exact Yg _) (fun i hi=>Zc.of fun k acc j ha=>by
  show Zcd.l0 (j+1) l acc (i:Int)=Zcd.l0 j l (acc++l[i]) ((i+1:Nat):Int);have:=h _ (Yba hi);rw [Zcd.l0,dlt hi,Zh hi,Zs (by omega)];simp only [Xe,Yb];rw [Zwd (by omega)];rfl) (fun k acc j=>by
  show Zcd.l0 (j+1) l acc (l.length:Int)=_;unfold Zcd.l0;rw [Z8 (Yg _)];rfl) [] (by rw [Yh];omega)
 refine run.mono fun k e=>?_
 have e:Zcd.l0 k l [] 0=some ([]++(l.map fun x=>x).flatten):=e
 unfold Zcd
 rw [e]
 simp
theorem Znmb (l:List Str) (hl:l.length≤1048576):Ev (fun k=>Zsk k l) fun d=>d.length≤32:=by
 unfold Zsk
 refine Ev.bind (Ev.ever (Zdfb l hl) rfl) fun b hb=>?_
 refine Ev.cond (fun _=>Ev.ret (by simp)) fun h=>?_
 have hi:Zyd l=true:=by rw [hb];simpa using h
 obtain ⟨i1,i2,i3⟩:=Zik hi
 refine Ev.bind (Ev.ever (Zhqb l i3 i2) rfl) fun j hj=>?_
 have hjl:j.length≤8000:=by rw [← hj,Zbbb l i3];omega
 exact Ev.bind (sDigest_ev j hjl) fun d hd=>Ev.ret (by rw [hd];exact Yg _)
theorem Zpsb (a b:Str):Ev (fun k=>Z2d k a b) fun r=>True:=by
 unfold Z2d
 by_cases h:a.length=8∧b.length=8
 ·have e:(((a.length:Int) != 8)||((b.length:Int) != 8))=false:=by rw [h.1,h.2];rfl
  rw [e];simp only [Xf];have hm:Z9g 1 8 8 (0:Int)=some (Yf 8 0):=Zpq (n:=8) (b:=1) (by omega);refine Ev.bnd hm ?_;refine Ev.bind (Q:=fun (r:List Int)=>True) ?_ fun r _=>Ev.ret trivial
  refine Ev.loop (fun k j (z:Int×List Int)=>Z2d.l0 j a b z.1 z.2) (fun z=>(8-z.1).toNat) (fun z=>0≤z.1∧z.2.length=8) _ (0,Yf 8 0) ⟨by simp,by simp⟩ ?_;rintro ⟨i,l⟩ ⟨q0,q1⟩;have q0:0≤i:=q0;have q1:l.length=8:=q1
  by_cases hi:i<8
  ·right
   obtain ⟨x,ex,_⟩:=Zwb (l:=a) (i:=i) q0 (by omega);obtain ⟨y,ey,_⟩:=Zwb (l:=b) (i:=i) q0 (by omega);obtain ⟨z,ez,_⟩:=Zwb (l:=l) (i:=i) q0 (by omega);refine ⟨(i+1,l.set i.toNat (intBits .xor .u8 (x.toNat:Int) (y.toNat:Int))),⟨by show 0≤i+1;omega,by show (l.set _ _).length=8;rw [Yi];exact q1⟩,by show (8-(i+1)).toNat<(8-i).toNat;omega,Zc.of fun k j=>?_⟩;show Z2d.l0 (j+1) a b i l=_
   conv=>lhs;unfold Z2d.l0
   rw [Xa hi,ex,ey,ez,w64 (n:=i+1) (by omega) (by omega)];rfl
  ·left
   refine ⟨l,Zc.of fun k j=>?_,trivial⟩;show Z2d.l0 (j+1) a b i l=_
   conv=>lhs;unfold Z2d.l0
   rw [Xb hi];rfl
 ·have e:(((a.length:Int) != 8)||((b.length:Int) != 8))=true:=by
   rw [Yx,bne_iff_ne,bne_iff_ne];omega
  rw [e];exact Ev.ret trivial
theorem Zrnb (x:Zi) (t:Str):Ev (fun k=>Zhj k x t) fun r=>True:=by
 have hz:Z5o=some (Ztb (Yf 8 0)):=by
  unfold Z5o;rw [show Z9g 1 8 8 (0:Int)=some (Yf 8 0) from Zpq (n:=8) (b:=1) (by omega)];rfl
 unfold Zhj
 exact Ev.cond (fun _=>Ev.bnd hz (Ev.ret trivial)) fun _=>Ev.cond (fun _=>Ev.ret trivial) fun _=>Ev.cond (fun _=>Ev.ret trivial) fun _=>Ev.bind (Zpsb _ _) fun r _=>Ev.ret trivial
theorem Z0rb {x:Zi} {n:Int} (h1:1≤n) (h:Znf n x=true):x.1≠5→(0≤x.2.1∧x.2.1<n)∧(0≤x.2.2.1∧x.2.2.1<n):=by
 intro h5
 unfold Znf Z6c at h
 rw [Xd h5] at h
 split at h
 ·simp only [Yd,decide_eq_true_eq] at h;omega
 ·split at h
  ·simp only [Yd,decide_eq_true_eq] at h;omega
  ·split at h
   ·simp only [Yd,decide_eq_true_eq] at h;omega
   ·split at h
    ·simp only [Yd,decide_eq_true_eq] at h;omega
    ·cases h
theorem Zyhb (a:List Str) (l:List Zi) (n:Int) (hc:Zab l n=0) (ha:(a.length:Int)=n):Ev (fun k=>Zgd k a l) fun r=>r.length=a.length:=by
 obtain ⟨hl,h1,h8,hst,_⟩:=Zvg hc
 unfold Zgd
 refine Ev.bnd (Z6 (by simp;omega)) (Ev.bind (Q:=fun (r:List Str)=>r.length=a.length) ?_ fun r hr=>Ev.ret hr)
 refine Ev.loop (fun k j (z:Int×List Str)=>Zgd.l0 k j a l z.1 z.2) (fun z=>((l.length:Int)-z.1).toNat) (fun z=>0≤z.1∧z.2.length=a.length) _ (0,a) ⟨by simp,rfl⟩ ?_
 rintro ⟨i,w⟩ ⟨q0,q1⟩
 have q0:0≤i:=q0
 have q1:w.length=a.length:=q1
 by_cases hi:i<(l.length:Int)
 ·right
  obtain ⟨x,ex,hx⟩:=Zwb (l:=l) (i:=i) q0 hi
  by_cases h5:x.1=5
  ·refine ⟨(i+1,w),⟨by show 0≤i+1;omega,q1⟩,by show ((l.length:Int)-(i+1)).toNat<((l.length:Int)-i).toNat;omega,Zc.of fun k j=>?_⟩
   show Zgd.l0 k (j+1) a l i w=_
   conv=>lhs;unfold Zgd.l0
   rw [Xa hi,ex,w64 (n:=i+1) (by omega) (by omega)];simp only [Xe,Yb];rw [show (x.1 != 5)=false by simp [h5]];rfl
  ·obtain ⟨⟨r1,r2⟩,r3,r4⟩:=Z0rb h1 (hst x hx) h5
   obtain ⟨t,et,_⟩:=Zwb (l:=a) (i:=x.2.2.1) r3 (by omega);obtain ⟨u,eu,_⟩:=Zwb (l:=w) (i:=x.2.1) r1 (by omega);obtain ⟨v,_,ev⟩:=Zrnb x t;refine ⟨(i+1,w.set x.2.1.toNat v),⟨by show 0≤i+1;omega,by show (w.set _ _).length=_;rw [Yi];exact q1⟩,by show ((l.length:Int)-(i+1)).toNat<((l.length:Int)-i).toNat;omega,ev.mono fun k ev j=>?_⟩;have ev:Zhj k x t=some v:=ev;show Zgd.l0 k (j+1) a l i w=_
   conv=>lhs;unfold Zgd.l0
   rw [Xa hi,ex,w64 (n:=i+1) (by omega) (by omega)];simp only [Xe,Yb];rw [show (x.1 != 5)=true by simpa using h5,et];simp only [Xe,Yb];rw [ev,eu];rfl
 ·left
  refine ⟨w,Zc.of fun k j=>?_,q1⟩;show Zgd.l0 k (j+1) a l i w=_
  conv=>lhs;unfold Zgd.l0
  rw [Xb hi];rfl
theorem Zhob (s:Z0b) (hs:Src s):Ev (fun k=>Zgr k s) fun p=>p.1.length≤100∧Src p.2:=by
 obtain ⟨v2,e2,h2,l2,_,u2⟩:=Z3 s hs 5 (by omega)
 have u2:=u2 (by omega)
 have e3:Ya .i64 (1+v2.1)=1+v2.1:=w64 (by omega) (by omega)
 unfold Zgr
 refine Ev.bnd e2 ?_
 simp only [e3]
 refine Ev.bind (Zl4 v2.2 h2 (1+v2.1) (by omega) (by omega)) fun v3 h3=>?_
 obtain ⟨v4,e4,h4⟩:=Zdg v3.2 h3.2 12 (by omega)
 refine Ev.bnd e4 (Ev.cond (fun _=>?_) fun _=>Ev.ret ⟨by show v3.1.length≤100;omega,h4⟩)
 obtain ⟨v5,e5,h5,l5,_,u5⟩:=Z3 v4.2 h4 3 (by omega)
 refine Ev.bnd e5 (Ev.cond (fun _=>?_) fun _=>Ev.cond (fun _=>Ev.ret ⟨by simp,h5⟩) fun _=>?_)
 ·obtain ⟨v6,e6,h6,l6,_,u6⟩:=Z3 v5.2 h5 2 (by omega)
  have u6:=u6 (by omega);have e7:Ya .i64 (7+Ya .i64 (2*v6.1))=7+2*v6.1:=by rw [w64 (n:=2*v6.1) (by omega) (by omega),w64 (by omega) (by omega)]
  refine Ev.bnd e6 ?_;simp only [e7];refine Ev.bind (Zpv v6.2 h6 (7+2*v6.1) (by omega) (by omega)) fun v7 h7=>?_
  obtain ⟨x,ex,_⟩:=Zwb (l:=v3.1) (i:=0) (by omega) (by omega);exact Ev.bnd ex (Ev.bnd ex (Ev.ret ⟨by show (Y1 _ _ _).length≤100;rw [Yi];omega,h7.2⟩))
 ·obtain ⟨v6,e6,h6,l6,_,u6⟩:=Z3 v5.2 h5 2 (by omega)
  have u6:=u6 (by omega);have e7:Ya .i64 (8+v6.1)=8+v6.1:=w64 (by omega) (by omega);refine Ev.bnd e6 ?_;simp only [e7];exact Ev.bind (Zl4 v6.2 h6 (8+v6.1) (by omega) (by omega)) fun v7 h7=>Ev.ret ⟨by show v7.1.length≤100;omega,h7.2⟩
structure OnTrial (m:Zo) (a b:List Str) (L:List Zi) (nd st:Int) (dg:Str) (w:Nat) (tr:Int):Prop where
 dev:Dev m a 4 tr nd st 0 dg 0 w
 log:LogAt m st w L
 code:Zab L (a.length:Int)=0
 ab:Zqf a L=b
 slots:Z3b (Zj L)≤st
 gen:(Zr m.2).1≤10-tr
 cl:m.2.2=[]
theorem OnTrial.sound {m:Zo} {a b:List Str} {L:List Zi} {nd st tr:Int} {dg:Str} {w:Nat} (h:OnTrial m a b L nd st dg w tr):Zim m st 0 w=true:=by
 have hb:=h.dev.b
 exact Zmrb h.log.log (by rw [hb];exact h.code) h.slots (by omega)
theorem OnTrial.right {m:Zo} {a b:List Str} {L:List Zi} {nd st tr:Int} {dg:Str} {w:Nat} (h:OnTrial m a b L nd st dg w tr):Zqd m=true:=h.dev.right fun _=>h.sound
theorem sDoR (m:Zo) (c:Zhd) (hl:m.2.1.length≤1048576) (hl2:m.2.2.length≤1048576):Zc fun k=>Zxo k m c=some (flD (doR m c)):=by
 obtain ⟨n,hn,hn1⟩:=Z7eb m c hl hl2
 unfold doR
 by_cases q:Zqd m=true∧Zkh c=true
 ·rw [Xc q]
  have hF:=Zjw q.1;have hfit:=Z3x m c;have hsm:=(Z81 m c).1;rw [q.1,q.2] at hn1;refine ((hn.and (Zu6 m c hl hl2)).and (Zc.ge 1048577 fun k hk=>hk)).mono fun k ⟨⟨e,e2⟩,hk⟩=>?_
  unfold Zxo;refine Za e ?_;rw [hn1];exact Za e2 (Za (Z00 hF hfit (by omega) hk) rfl)
 ·rw [Xd q]
  have hn1:(n==1)=true:=by rw [hn1];cases hm:Zqd m <;> cases hc:Zkh c <;> first | rfl | exact absurd ⟨hm,hc⟩ q
  refine hn.mono fun k e=>?_
  unfold Zxo;refine Za e ?_;rw [hn1];rfl
theorem Z7pb (m:Zo) (c:Zhd) (n:Int) {fs:List Int} (hf:∀x∈fs,Zum x) (hl:m.2.1.length≤1048576) (hl2:m.2.2.length≤1048576):Zc fun k=>Ztn k m c n fs=some (flC (Zdt m c n fs)):=by
 obtain ⟨z,hz,hz1⟩:=Z7eb m c hl hl2
 unfold Zdt
 by_cases cl:400<fs.length
 ·rw [Xc cl]
  refine Zc.of fun k=>?_
  unfold Ztn;rw [Xa (by omega:(400:Int)<(fs.length:Int))];rfl
 ·rw [Xd cl]
  have d4:decide ((400:Int)<(fs.length:Int))=false:=Xb (by omega)
  by_cases q:(Zqd m=true∧Zkh c=true)∧0≤n
  ·rw [Xc q]
   obtain ⟨⟨hm,hc⟩,h0⟩:=q;have hF:=Zjw hm;have hfit:=Z3x m c;have hsm:=(Z81 m c).1;rw [hm,hc] at hz1;have hft:=hfit.take n.toNat;have hlt:((Z2k m c).1.take n.toNat).length≤1000:=by rw [List.length_take];omega
   refine ((hz.and (Zu6 m c hl hl2)).and (Zc.ge 1048577 fun k hk=>hk)).mono fun k ⟨⟨e,e2⟩,hk⟩=>?_
   unfold Ztn;rw [d4,Xf];refine Za e2 ?_;rw [Xb (by omega:¬n<0),Xf];refine Za e ?_;rw [hz1];exact Za (Zdqb _ h0) (Za (Z00 hF hft hlt hk) (Za (Z6pb (hF.acts _ hft).1 hf (by omega) hk) rfl))
  ·rw [Xd q]
   refine (hz.and (Zu6 m c hl hl2)).mono fun k ⟨e,e2⟩=>?_
   unfold Ztn;rw [d4,Xf];refine Za e2 ?_
   by_cases hn:n<0
   ·rw [Xa hn]
    rfl
   ·rw [Xb hn,Xf]
    have hz1:(z==1)=true:=by rw [hz1];cases hm:Zqd m <;> cases hc:Zkh c <;> first | rfl | exact absurd ⟨⟨hm,hc⟩,by omega⟩ q
    refine Za e ?_;rw [hz1];rfl
theorem Z6eb (m:Zo) (hl:m.2.1.length≤1048576) (hl2:m.2.2.length≤1048576):Zc fun k=>Zsn k m=some (flC (Zyr m)):=by
 have hs:=Zps m hl hl2
 unfold Zyr
 cases hst:stM m with
 | none=>
  rw [hst] at hs;refine hs.mono fun k e=>?_
  unfold Zsn;exact Za e rfl
 | some z=>
  obtain ⟨ph,tr,nd,st,dn,dg,v,w⟩:=z;rw [hst] at hs;have h:=Z8l hst;have hF:=FlashP.of h.fit.f;have hfit:=Zq2 h;have hlen:=Zc9 m ph tr nd st dn dg v w;refine ((hs.and (Z5eb h)).and (Zc.ge 1048577 fun k hk=>hk)).mono fun k ⟨⟨e,e2⟩,hk⟩=>?_
  unfold Zsn;exact Za e (Za e2 (Za (Z00 hF hfit (by omega) hk) rfl))
theorem Zyib (b:Int) (hb:0≤b∧b≤100) (s:Z0b) (hs:Src s) (a6 a7 a8:Int) (a9:Str) (a10 a11 a12:Int) (a13:Str):Ev (fun _=>Zed.j0 b s.1 s.2.1 s.2.2.1 s.2.2.2 a6 a7 a8 a9 a10 a11 a12 a13) fun p=>Src (p.1,(p.2.1,(p.2.2.1,p.2.2.2.1))):=by
 unfold Zed.j0
 dsimp only
 refine Ev.cond (fun _=>?_) fun _=>Ev.cond (fun _=>?_) fun _=>Ev.cond (fun _=>?_) fun _=>Ev.ret hs
 ·obtain ⟨v15,e15,_,h15⟩:=Zm1 s hs b (by omega)
  refine Ev.bnd e15 ?_;obtain ⟨v16,e16,h16⟩:=Zdg v15.2.2.2.2 h15 3 (by omega);refine Ev.bnd e16 (Ev.cond (fun _=>?_) fun _=>Ev.ret h16);obtain ⟨v17,e17,h17,_⟩:=Z3 v16.2 h16 9 (by omega);exact Ev.bnd e17 (Ev.ret h17)
 ·obtain ⟨v18,e18,h18,_⟩:=Z3 s hs 8 (by omega)
  exact Ev.bnd e18 (Ev.ret h18)
 ·obtain ⟨v19,e19,h19,_⟩:=Z3 s hs (Ya .i64 (b+1)) (by rw [w64 (n:=b+1) (by omega) (by omega)];omega)
  exact Ev.bnd e19 (Ev.ret h19)
theorem Zzib (s:Z0b) (hs:Src s) (a5 a6 a7:Int) (a8:Str) (a9 a10 a11:Int) (a12:Str):Ev (fun k=>Zed.j1 k s.1 s.2.1 s.2.2.1 s.2.2.2 a5 a6 a7 a8 a9 a10 a11 a12) fun p=>Src (p.1,(p.2.1,(p.2.2.1,p.2.2.2.1))):=by
 unfold Zed.j1
 obtain ⟨v13,e13,h13⟩:=Zdg s hs 6 (by omega)
 refine Ev.bnd e13 (Ev.cond (fun _=>?_) fun _=>Ev.ret h13)
 obtain ⟨v14,e14,h14,_⟩:=Z3 v13.2 h13 4 (by omega)
 obtain ⟨v15,e15,h15,_⟩:=Z3 v14.2 h14 3 (by omega)
 exact Ev.bnd e14 (Ev.bnd e15 (Ev.bind (sDigest_ev [120] (by simp)) fun d _=>Ev.ret h15))
theorem Zy9 (s:Z0b) (hs:Src s) (b:Int) (hb:0≤b∧b≤100):Ev (fun k=>Zed k s b) fun p=>Src p.2.2.2.2.2.2.2.2:=by
 unfold Zed
 obtain ⟨v3,e3,h3,l3,_,u3⟩:=Z3 s hs 16 (by omega)
 obtain ⟨x,ex,_⟩:=Zwb (l:=[2,2,3,4,5,5,6,6,6,7,8,9,10,11,11,(11:Int)]) l3 (u3 (by omega))
 refine Ev.bnd e3 ?_
 dsimp only
 refine Ev.bnd ex (Ev.bnd ex (Ev.bind (Zyib b hb v3.2 h3 x 0 0 [] 0 0 0 []) fun y7 h7=>Ev.bind (Zzib _ h7 y7.2.2.2.2.1 y7.2.2.2.2.2.1 y7.2.2.2.2.2.2.1 y7.2.2.2.2.2.2.2.1 y7.2.2.2.2.2.2.2.2.1 y7.2.2.2.2.2.2.2.2.2.1 y7.2.2.2.2.2.2.2.2.2.2.1 y7.2.2.2.2.2.2.2.2.2.2.2) fun y8 h8=>?_))
 obtain ⟨v9,e9,h9⟩:=Zdg _ h8 25 (by omega)
 refine Ev.bnd e9 (Ev.cond (fun _=>?_) fun _=>Ev.ret h9)
 obtain ⟨v10,e10,h10,_⟩:=Z3 v9.2 h9 4 (by omega)
 refine Ev.bnd e10 (Ev.cond (fun _=>?_) fun _=>Ev.cond (fun _=>?_) fun _=>Ev.cond (fun _=>?_) fun _=>?_)
 ·obtain ⟨v11,e11,h11,_⟩:=Z3 v10.2 h10 13 (by omega)
  exact Ev.bnd e11 (Ev.ret h11)
 ·obtain ⟨v12,e12,h12,l12,_,u12⟩:=Z3 v10.2 h10 6 (by omega)
  obtain ⟨z,ez,_⟩:=Zwb (l:=[(-1),20,21,24,25,(1000001:Int)]) l12 (u12 (by omega));exact Ev.bnd e12 (Ev.bnd ez (Ev.bnd ez (Ev.ret h12)))
 ·obtain ⟨v12,e12,h12,l12,_,u12⟩:=Z3 v10.2 h10 3 (by omega)
  obtain ⟨z,ez,_⟩:=Zwb (l:=[(-1),4,(5:Int)]) l12 (u12 (by omega));exact Ev.bnd e12 (Ev.bnd ez (Ev.bnd ez (Ev.ret h12)))
 ·exact Ev.bind (Zm8 v10.2 h10) fun v20 h20=>Ev.ret h20
theorem Z4jb (s:Z0b) (hs:Src s):Ev (fun k=>Z0f k s) fun p=>((∀x∈p.1,Zum x)∧p.1.length≤100)∧Src p.2:=by
 unfold Z0f
 obtain ⟨v2,e2,h2,l2,_,u2⟩:=Z3 s hs 7 (by omega)
 have u2:=u2 (by omega)
 refine Ev.bnd e2 ?_
 refine Ev.bind (Q:=fun (r:List Int×Int×Int×Int×List Int)=>Src (r.1,(r.2.1,(r.2.2.1,r.2.2.2.1)))∧(∀x∈r.2.2.2.2,Zum x)∧r.2.2.2.2.length≤7) ?_ fun y3 h3=>?_
 ·refine Ev.loop (fun k j (z:Int×Z0b×List Int)=>Z0f.l0 j z.1 z.2.1.1 z.2.1.2.1 z.2.1.2.2.1 z.2.1.2.2.2 z.2.2) (fun z=>z.1.toNat) (fun z=>(0≤z.1∧(z.2.2.length:Int)+z.1≤7)∧Src z.2.1∧∀x∈z.2.2,Zum x) _ (v2.1,v2.2,[]) ⟨⟨l2,by simp;omega⟩,h2,fun x hx=>by cases hx⟩ ?_
  rintro ⟨n,z,l⟩ ⟨⟨q0,q1⟩,q2,q3⟩;have q0:0≤n:=q0;have q1:(l.length:Int)+n≤7:=q1;have q3:∀x∈l,Zum x:=q3
  by_cases hn:0<n
  ·right
   obtain ⟨v7,e7,h7,l7,_,u7⟩:=Z3 z q2 12 (by omega);obtain ⟨v8,e8,h8,l8,_,u8⟩:=Z3 v7.2 h7 3 (by omega);have u7:=u7 (by omega);have ew:Ya .i64 (2+v7.1)=2+v7.1:=w64 (by omega) (by omega);obtain ⟨x,ex,hx⟩:=Zwb (l:=[0,1,2+v7.1]) l8 (u8 (by omega))
   have hx:x<9223372036854775808:=by
    simp only [Yz,Y0,or_false] at hx;omega
   refine ⟨(n-1,v8.2,l++[x]),⟨⟨by show 0≤n-1;omega,by show ((l++[x]).length:Int)+(n-1)≤7;simp;omega⟩,h8,fun y hy=>?_⟩,by show (n-1).toNat<n.toNat;omega,Zc.of fun k j=>?_⟩
   ·rcases Yv.1 hy with hy | hy
    ·exact q3 y hy
    ·rw [Yp.1 hy]
     exact hx
   ·show Z0f.l0 (j+1) n z.1 z.2.1 z.2.2.1 z.2.2.2 l=_
    conv=>lhs;unfold Z0f.l0
    rw [Xa hn,Xe];refine Za e7 (Za e8 ?_);dsimp only;rw [ew,w64 (n:=n-1) (by omega) (by omega)];exact Za ex (Za ex (Za (Z6 (by simp;omega)) rfl))
  ·left
   refine ⟨(z.1,z.2.1,z.2.2.1,z.2.2.2,l),Zc.of fun k j=>?_,q2,q3,by show l.length≤7;omega⟩;show Z0f.l0 (j+1) n z.1 z.2.1 z.2.2.1 z.2.2.2 l=_
   conv=>lhs;unfold Z0f.l0
   rw [Xb hn];rfl
 ·obtain ⟨h3,h3b,h3c⟩:=h3
  obtain ⟨v4,e4,h4⟩:=Zdg _ h3 25 (by omega);refine Ev.bnd e4 (Ev.cond (fun _=>?_) fun _=>Ev.ret ⟨⟨h3b,by show y3.2.2.2.2.length≤100;omega⟩,h4⟩);obtain ⟨v5,e5,h5,n5⟩:=Zsab v4.2 h4;refine Ev.bnd e5 (Ev.bnd (Z6 (by simp;omega)) (Ev.ret ⟨⟨fun x hx=>?_,?_⟩,h5⟩))
  ·rcases Yv.1 hx with hx | hx
   ·exact h3b x hx
   ·rw [Yp.1 hx]
    exact n5.2
  ·show (y3.2.2.2.2++[v5.1]).length≤100
   rw [Yc];simp;omega
theorem Z1nb (s:Z0b) (hs:Src s) (n:Int) (h1:1≤n) (h8:n≤8):Ev (fun k=>Z4b k s n) fun p=>p.1.length≤100∧Src p.2:=by
 unfold Z4b
 refine Ev.bind (Q:=fun (r:List Int×Int×Int×Int×List Zi)=>Src (r.1,(r.2.1,(r.2.2.1,r.2.2.2.1)))∧r.2.2.2.2.length≤8) ?_ fun y3 h3=>?_
 ·refine Ev.loop (fun k j (z:Int×Z0b×List Zi)=>Z4b.l0 j n z.1 z.2.1.1 z.2.1.2.1 z.2.1.2.2.1 z.2.1.2.2.2 z.2.2) (fun z=>(n-z.1).toNat) (fun z=>(0≤z.1∧z.1≤n∧(z.2.2.length:Int)≤z.1)∧Src z.2.1) _ (0,s,[]) ⟨⟨by simp,by show (0:Int)≤n;omega,by simp⟩,hs⟩ ?_
  rintro ⟨i,z,l⟩ ⟨⟨q0,q1,q2⟩,q3⟩;have q0:0≤i:=q0;have q1:i≤n:=q1;have q2:(l.length:Int)≤i:=q2
  by_cases hi:i<n
  ·right
   obtain ⟨v8,e8,h8',_⟩:=Z3 z q3 n (by omega);obtain ⟨v9,e9,h9,_⟩:=Z3 v8.2 h8' 6 (by omega);have ew:Ya .i64 (i+1)=i+1:=w64 (by omega) (by omega);have keep:∀(x:Zi) (u:Z0b),Src u→(0≤i+1∧i+1≤n∧((l++[x]).length:Int)≤i+1)∧Src u:=fun x u hu=>⟨⟨by omega,by omega,by simp;omega⟩,hu⟩
   have hm:(n-(i+1)).toNat<(n-i).toNat:=by omega
   have ha:∀x:Zi,Zw 40 l [x]=some (l++[x]):=fun x=>Z6 (by simp;omega)
   by_cases c0:v9.1=0
   ·refine ⟨(i+1,v9.2,l),⟨⟨by show 0≤i+1;omega,by show i+1≤n;omega,by show (l.length:Int)≤i+1;omega⟩,h9⟩,hm,Zc.of fun k j=>?_⟩
    show Z4b.l0 (j+1) n i z.1 z.2.1 z.2.2.1 z.2.2.2 l=_
    conv=>lhs;unfold Z4b.l0
    rw [Xa hi,Xe,ew];refine Za e8 (Za e9 ?_);rw [c0];rfl
   ·by_cases c1:v9.1=1
    ·obtain ⟨v11,e11,h11,_⟩:=Z3 v9.2 h9 n (by omega)
     obtain ⟨v12,e12,_,h12⟩:=Zet v11.2 h11;refine ⟨(i+1,v12.2,l++[(4,(i,(v11.1,v12.1)))]),keep _ _ h12,hm,Zc.of fun k j=>?_⟩;show Z4b.l0 (j+1) n i z.1 z.2.1 z.2.2.1 z.2.2.2 l=_
     conv=>lhs;unfold Z4b.l0
     rw [Xa hi,Xe,ew];refine Za e8 (Za e9 ?_);rw [c1];exact Za e11 (Za e12 (Za (ha _) rfl))
    ·by_cases c2:v9.1=2
     ·refine ⟨(i+1,v9.2,l++[(3,(i,(Yr (i+1) n,[])))]),keep _ _ h9,hm,Zc.of fun k j=>?_⟩
      show Z4b.l0 (j+1) n i z.1 z.2.1 z.2.2.1 z.2.2.2 l=_
      conv=>lhs;unfold Z4b.l0
      rw [Xa hi,Xe,ew];refine Za e8 (Za e9 ?_);rw [c2];exact Za (Znk (by omega)) (Za (ha _) rfl)
     ·by_cases c3:v9.1=3
      ·obtain ⟨v16,e16,_,h16⟩:=Zm1 v9.2 h9 n (by omega)
       refine ⟨(i+1,v16.2.2.2.2,l++[(v16.1,(i,(v16.2.2.1,v16.2.2.2.1)))]),keep _ _ h16,hm,Zc.of fun k j=>?_⟩;show Z4b.l0 (j+1) n i z.1 z.2.1 z.2.2.1 z.2.2.2 l=_
       conv=>lhs;unfold Z4b.l0
       rw [Xa hi,Xe,ew];refine Za e8 (Za e9 ?_);rw [c3];exact Za e16 (Za (ha _) rfl)
      ·refine ⟨(i+1,v9.2,l++[(3,(i,(v8.1,[])))]),keep _ _ h9,hm,Zc.of fun k j=>?_⟩
       show Z4b.l0 (j+1) n i z.1 z.2.1 z.2.2.1 z.2.2.2 l=_
       conv=>lhs;unfold Z4b.l0
       rw [Xa hi,Xe,ew];refine Za e8 (Za e9 ?_);rw [beq_eq_false_iff_ne.2 c0,beq_eq_false_iff_ne.2 c1,beq_eq_false_iff_ne.2 c2,beq_eq_false_iff_ne.2 c3];exact Za (ha _) rfl
  ·left
   refine ⟨(z.1,z.2.1,z.2.2.1,z.2.2.2,l),Zc.of fun k j=>?_,q3,by show l.length≤8;omega⟩;show Z4b.l0 (j+1) n i z.1 z.2.1 z.2.2.1 z.2.2.2 l=_
   conv=>lhs;unfold Z4b.l0
   rw [Xb hi];rfl
 ·refine Ev.bind (Q:=fun (r:List Int×Int×Int×Int×List Zi)=>Src (r.1,(r.2.1,(r.2.2.1,r.2.2.2.1)))∧r.2.2.2.2.length≤16) ?_ fun y4 h4=>?_
  ·unfold Z4b.j1
   obtain ⟨v6,e6,h6⟩:=Zdg _ h3.1 2 (by omega);refine Ev.bnd e6 (Ev.cond (fun q=>?_) fun _=>Ev.ret ⟨h6,by have:=h3.2;show y3.2.2.2.2.length≤16;omega⟩);rw [Yd,decide_eq_true_eq] at q;have q:=q.2;have hl:=h3.2;obtain ⟨v7,e7,h7,l7,z7,u7⟩:=Z3 v6.2 h6 (Ya .i64 ((y3.2.2.2.2.length:Int)-1)) (by rw [w64 (n:=(y3.2.2.2.2.length:Int)-1) (by omega) (by omega)];omega);rw [w64 (n:=(y3.2.2.2.2.length:Int)-1) (by omega) (by omega)] at z7 u7
   have hle:v7.1+1≤(y3.2.2.2.2.length:Int):=by
    by_cases c:(y3.2.2.2.2.length:Int)-1≤1
    ·have:=z7 c;omega
    ·have:=u7 (by omega);omega
   have ew:Ya .i64 (1+v7.1)=1+v7.1:=w64 (by omega) (by omega);obtain ⟨x,ex,lx⟩:=Znp (l:=y3.2.2.2.2) (i:=1+v7.1) (j:=(y3.2.2.2.2.length:Int)) (by omega) (by omega) (Yl _);obtain ⟨y,ey,ly⟩:=Znp (l:=y3.2.2.2.2) (i:=0) (j:=1+v7.1) (by omega) (by omega) (by omega);refine Ev.bnd e7 ?_;dsimp only;rw [ew];refine Ev.bnd ex (Ev.bnd (Z6 (by simp;omega)) (Ev.bnd ey (Ev.bnd (Z6 (by simp;omega)) (Ev.ret ⟨h7,?_⟩))));show ([]++x++y).length≤16;simp only [Yc,Yh];omega
  ·obtain ⟨v5,e5,h5⟩:=Zdg _ h4.1 3 (by omega)
   have hl:=h4.2;refine Ev.bnd e5 (Ev.cond (fun _=>?_) fun _=>Ev.ret ⟨by show y4.2.2.2.2.length≤100;omega,h5⟩);obtain ⟨v6,e6,h6,_⟩:=Z3 v5.2 h5 4 (by omega);refine Ev.bnd e6 (Ev.bnd (Z6 (by simp;omega)) (Ev.ret ⟨?_,h6⟩));show (y4.2.2.2.2++[_]).length≤100;rw [Yc];simp;omega
theorem Zmmb (a:List Str) (l:List Zi) (ha:a.length≤400) (hl:l.length≤400):Ev (fun k=>Zkm k a l) fun p=>p.1.length≤400:=by
 unfold Zkm
 refine Ev.cond (fun q=>by rw [Yx,decide_eq_true_eq,decide_eq_true_eq] at q;omega) fun _=>?_
 refine Ev.bind (Q:=fun _=>True) (Ev.ever (Zdfb a (by omega)) trivial) fun v4 _=>Ev.cond (fun _=>Ev.bnd rfl (Ev.ret (by simp))) fun _=>?_
 refine Ev.bind (Q:=fun v=>v=Zab l (a.length:Int)) (Ev.ever (Zqs l _ (by omega)) rfl) fun v6 h6=>Ev.cond (fun _=>Ev.bnd rfl (Ev.ret (by simp))) fun q=>?_
 exact Ev.bind (Zyhb a l (a.length:Int) (by rw [← h6];simpa using q) rfl) fun v8 h8=>Ev.ret (by show v8.length≤400;omega)
theorem Zsob (l:List Zi) (n:Int) (hl:l.length≤400):Ev (fun k=>Z3h k l n) fun p=>p.1.length≤40:=by
 by_cases hc:Zab l n=0
 ·have:=Zuw l (Zvg hc).1 (Z3m hc)
  exact Ev.ever (Z26 l n hc) (by show (Zj l).length≤40;omega)
 ·unfold Z3h
  refine Ev.cond (fun _=>Ev.ret (by simp)) fun _=>?_
  refine Ev.bind (Q:=fun v=>v=Zab l n) (Ev.ever (Zqs l n (by omega)) rfl) fun v hv=>Ev.cond (fun _=>Ev.ret (by simp)) fun q=>absurd (by rw [← hv];simpa using q) hc
theorem Z0nb (s:Z0b) (hs:Src s) (a:List Str) (h1:1≤a.length) (h8:a.length≤8):Ev (fun k=>Zae k s a) fun p=>p.1.length≤100∧Src p.2.2.2:=by
 unfold Zae
 refine Ev.bind (Z1nb s hs (a.length:Int) (by omega) (by omega)) fun v3 h3=>?_
 refine Ev.bind (Q:=fun (r:List Int×Int×Int×Int×List Zi)=>Src (r.1,(r.2.1,(r.2.2.1,r.2.2.2.1)))∧r.2.2.2.2.length≤100) ?_ fun y4 h4=>?_
 ·unfold Zae.j0
  obtain ⟨v7,e7,h7⟩:=Zdg _ h3.2 3 (by omega);refine Ev.bnd e7 (Ev.cond (fun _=>?_) fun _=>Ev.ret ⟨h7,h3.1⟩);refine Ev.bind (Z3rb v7.2 h7 (a.length:Int) (by omega) (by omega)) fun v8 h8=>Ev.ret ⟨h8.2,?_⟩
  have:=(Zvg h8.1).1;show v8.1.length≤100;omega
 ·refine Ev.bind (Q:=fun (r:List Zi)=>r.length≤100) ?_ fun y5 h5=>?_
  ·unfold Zae.j1
   exact Ev.cond (fun _=>Ev.ret (by simp)) fun _=>Ev.ret h4.2
  ·refine Ev.bind (Zmmb a y5 (by omega) (by omega)) fun v6 h6=>Ev.bind (Zsob y5 _ (by omega)) fun v7 h7=>Ev.bind (Znmb v6.1 (by omega)) fun v8 _=>?_
   exact Ev.bind (Q:=fun _=>True) (Ev.ever (Zc.ge 41 (Z56 v7.1 h7)) trivial) fun v9 _=>Ev.ret ⟨h5,h4.1⟩
theorem Z5mb {l:List Int} (h1:∀x∈l,0≤x∧x≤23) (h2:l.Pairwise (· < ·)):∃v,v<16777216∧l=Zb v:=by
 have hlt:∀x∈l.map Ym,x<24:=fun x hx=>by
  obtain ⟨y,hy,rfl⟩:=Yea.1 hx;have:=h1 y hy;omega
 refine ⟨orP (l.map Ym),Zz5 hlt,?_⟩
 have e:l.map Ym=Z1b (orP (l.map Ym)) 24:=by
  refine Zh7 ?_ (Zwr _ _) fun x=>?_
  ·rw [List.pairwise_map]
   refine h2.imp_of_mem fun {a b} ha hb q=>?_
   have:=h1 a ha;have:=h1 b hb;omega
  ·unfold Z1b
   rw [List.mem_filter,List.mem_range,Zsw,decide_eq_true_eq];exact ⟨fun q=>⟨hlt x q,q⟩,fun q=>q.2⟩
 unfold Zb
 rw [← e,List.map_map]
 conv=>lhs;rw [← List.map_id l]
 refine List.map_congr_left fun x hx=>?_
 have:=h1 x hx
 show x=((x.toNat:Nat):Int)
 omega
theorem Zlhb {l:List Int} (h:∀j,j<l.length→0<j→l.getD (j-1) 0<l.getD j 0):l.Pairwise (· < ·):=by
 have key:∀d i,i+d+1<l.length→l.getD i 0<l.getD (i+d+1) 0:=by
  intro d
  induction d with
  | zero=>intro i hi;exact h (i+1) hi (by omega)
  | succ d ih=>
   intro i hi;have h1:=ih i (by omega);have h2:=h (i+(d+1)+1) hi (by omega);rw [show i+(d+1)+1-1=i+d+1 by omega] at h2;omega
 refine List.pairwise_iff_getElem.2 fun i j hi hj q=>?_
 have:=key (j-i-1) i (by omega)
 rw [show i+(j-i-1)+1=j by omega] at this
 rw [Yk,Yk,Yo hi,Yo hj] at this
 exact this
theorem Zuz (l:List Int) (hl:l.length≤1000):Ev (fun k=>Znc k l) fun b=>b=true→∃v,v<16777216∧l=Zb v:=by
 unfold Znc
 refine Ev.cond (fun _=>Ev.ret (fun q=>by cases q)) fun _=>?_
 refine Ev.bind (Q:=fun (r:Unit ⊕ Bool)=>(∀u,r = .inl u→∃v,v<16777216∧l=Zb v)∧∀b,r = .inr b→b=false) ?_ fun r hr=>?_
 ·refine Ev.loop (fun k j (i:Nat)=>Znc.l0 j l (i:Int)) (fun i=>l.length-i) (fun i=>i≤l.length∧∀j,j<i→(0≤l.getD j 0∧l.getD j 0≤23)∧(0<j→l.getD (j-1) 0<l.getD j 0)) _ 0 ⟨Yw _,fun j hj=>absurd hj (Yha j)⟩ ?_
  rintro i ⟨q0,q1⟩
  by_cases hi:i<l.length
  ·have hg:l.getD i 0=l[i]:=by rw [Yk,Yo hi];rfl
   have W:Z9 l[i] 0 23=some (decide (0≤l[i])&&decide (l[i]≤23)):=rfl
   by_cases hr:0≤l[i]∧l[i]≤23
   ·by_cases h0:0<i
    ·have hi1:i-1<l.length:=by omega
     have hg1:l.getD (i-1) 0=l[i-1]:=by rw [Yk,Yo hi1];rfl
     have ew:Ya .i64 ((i:Int)-1)=((i-1:Nat):Int):=by rw [w64 (by omega) (by omega)];omega
     by_cases hlt:l[i]≤l[i-1]
     ·left
      refine ⟨.inr false,Zc.of fun k j=>?_,(fun u hu=>by cases hu),fun b hb=>by cases hb;rfl⟩
      conv=>lhs;unfold Znc.l0
      rw [dlt hi,Xe];refine Za (Zh hi) (Za W ?_);rw [Xa hr.1,Xa hr.2,Xa (by omega:(0:Int)<(i:Int)),ew];refine Za (Zh hi1) (Za (Zh hi) ?_);rw [Xa hlt];rfl
     ·right
      refine ⟨i+1,⟨hi,fun j hj=>?_⟩,by omega,Zc.of fun k j=>?_⟩
      ·by_cases c:j=i
       ·subst c
        rw [hg,hg1];exact ⟨hr,fun _=>by omega⟩
       ·exact q1 j (by omega)
      ·conv=>lhs;unfold Znc.l0
       rw [dlt hi,Xe];refine Za (Zh hi) (Za W ?_);rw [Xa hr.1,Xa hr.2,Xa (by omega:(0:Int)<(i:Int)),ew];refine Za (Zh hi1) (Za (Zh hi) ?_);rw [Xb hlt,Zs (by omega)];rfl
    ·right
     refine ⟨i+1,⟨hi,fun j hj=>?_⟩,by omega,Zc.of fun k j=>?_⟩
     ·have:j=i:=by omega
      subst this;rw [hg];exact ⟨hr,fun q=>absurd q h0⟩
     ·conv=>lhs;unfold Znc.l0
      rw [dlt hi,Xe];refine Za (Zh hi) (Za W ?_);rw [Xa hr.1,Xa hr.2,Xb (by omega:¬(0:Int)<(i:Int)),Zs (by omega)];rfl
   ·left
    refine ⟨.inr false,Zc.of fun k j=>?_,(fun u hu=>by cases hu),fun b hb=>by cases hb;rfl⟩
    conv=>lhs;unfold Znc.l0
    rw [dlt hi,Xe];refine Za (Zh hi) (Za W ?_)
    have:(decide (0≤l[i])&&decide (l[i]≤23))=false:=by
     rw [Y2,decide_eq_false_iff_not,decide_eq_false_iff_not];omega
    rw [this];rfl
  ·left
   refine ⟨.inl (),Zc.of fun k j=>?_,fun _ _=>?_,fun b hb=>by cases hb⟩
   ·conv=>lhs;unfold Znc.l0
    rw [Z8 (by omega)];rfl
   ·have hle:i=l.length:=by omega
    subst hle;refine Z5mb (fun x hx=>?_) (Zlhb fun j hj h0=>(q1 j hj).2 h0);obtain ⟨j,hj,rfl⟩:=List.getElem_of_mem hx;have:=(q1 j hj).1;rw [Yk,Yo hj] at this;exact this
 ·cases r with
  | inl u=>exact Ev.ret fun _=>hr.1 u rfl
  | inr b=>
   have:=hr.2 b rfl;subst this;exact Ev.ret fun q=>by cases q
theorem Zurb (a b c d e:Int) (x:Str) (l1 l2:List Int) (ha:Num a) (hb:Num b) (hc:Num c) (hd:Num d) (he:Num e) (hx:x.length≤1000) (h1:l1.length≤1000) (h2:l2.length≤1000):Ev (fun k=>Ztk k (a,(b,(c,(d,(e,(x,(l1,l2)))))))) fun t=>t.length≤2000:=by
 obtain ⟨b1,q1,e1⟩:=Zuz l1 h1
 obtain ⟨b2,q2,e2⟩:=Zuz l2 h2
 by_cases hq:b1=true∧b2=true
 ·obtain ⟨v,hv,rfl⟩:=q1 hq.1
  obtain ⟨w,hw,rfl⟩:=q2 hq.2;refine Ev.ever (Zlfb a b c d e x v w ha hb hc hd he hv hw (by omega)) ?_;split
  ·have l1:=Zuc a
   have l2:=Zuc b;have l3:=Zuc c;have l4:=Zuc d;have l5:=Zuc e;have l6:=Zuc (v:Int);have l7:=Zuc (w:Int);have l8:=Zok x;unfold Zdd;simp only [Yc];omega
  ·simp
 ·refine ⟨[],by simp,(e1.and e2).mono fun k ⟨e1,e2⟩=>?_⟩
  have e1:Znc k l1=some b1:=e1;have e2:Znc k l2=some b2:=e2;have W:Z9 a 1 5=some (decide (1≤a)&&decide (a≤5)):=rfl
  have hr:Z6e k (a,(b,(c,(d,(e,(x,(l1,l2)))))))=some false:=by
   unfold Z6e;refine Za W ?_;cases (decide (1≤a)&&decide (a≤5)) with
   | false=>rfl
   | true=>
    rw [Ye,Xf];refine Za e1 ?_;cases b1 with
    | false=>rfl
    | true=>
     rw [Ye,Xf];refine Za e2 ?_;cases b2 with
     | false=>rfl
     | true=>exact absurd ⟨rfl,rfl⟩ hq
  show Ztk k _=_;unfold Ztk;exact Za hr rfl
theorem Zxrb {x y z:Int} {t:Str} (h:Z6c x y z t 8=true):Num x∧Num y∧Num z:=by
 unfold Z6c at h
 unfold Num
 split at h
 ·simp only [Yd,decide_eq_true_eq] at h
  omega
 ·split at h
  ·simp only [Yd,decide_eq_true_eq] at h
   omega
  ·split at h
   ·simp only [Yd,decide_eq_true_eq] at h
    omega
   ·split at h
    ·simp only [Yd,decide_eq_true_eq] at h
     omega
    ·split at h
     ·simp only [Yd,decide_eq_true_eq] at h
      omega
     ·cases h
theorem Z4ob (n:Int) (hn:Num n) (x:Zi):Ev (fun k=>Zyi k n x) fun _=>True:=by
 have hs:Z4h x 8=some (Z6c x.1 x.2.1 x.2.2.1 x.2.2.2 8):=Zex x.1 x.2.1 x.2.2.1 x.2.2.2 8 (by decide) (by decide)
 cases h:Z6c x.1 x.2.1 x.2.2.1 x.2.2.2 8 with
 | true=>
  obtain ⟨h1,h2,h3⟩:=Zxrb h;exact Ev.ever (Z36 n x.1 x.2.1 x.2.2.1 x.2.2.2 hn h1 h2 h3 (Zys h) h) trivial
 | false=>
  rw [h] at hs;refine ⟨[],trivial,Zc.of fun k=>?_⟩;have W:Z9 n 0 1000000=some (decide (0≤n)&&decide (n≤1000000)):=rfl;unfold Zyi;refine Za W ?_;cases (decide (0≤n)&&decide (n≤1000000)) with
  | false=>rfl
  | true=>
   rw [Ye,Xf];exact Za hs rfl
abbrev SC4 (p:List Int×Int×Int×Int×List Zhd):Prop:=Src (p.1,(p.2.1,(p.2.2.1,p.2.2.2.1)))
theorem Z0ib (s:Z0b) (hs:Src s) (a:List Str) (h1:1≤a.length) (h8:a.length≤8):Ev (fun k=>Zhb k s a) fun p=>p.1.length≤200∧Src p.2:=by
 unfold Zhb
 refine Ev.bind (Z0nb s hs a h1 h8) fun v3 h3=>?_
 dsimp only
 refine Ev.bind (Q:=fun (r:List Int×Int×Int×Int×List Zhd)=>SC4 r∧r.2.2.2.2.length=1) ?_ fun y5 h5=>?_
 ·unfold Zhb.j0
  obtain ⟨v6,e6,h6⟩:=Zdg _ h3.2 10 (by omega);refine Ev.bnd e6 (Ev.cond (fun _=>?_) fun _=>Ev.ret ⟨h6,rfl⟩);obtain ⟨v7,e7,h7,_⟩:=Z3 v6.2 h6 3 (by omega);exact Ev.bnd e7 (Ev.bnd rfl (Ev.bnd rfl (Ev.ret ⟨h7,by show (Y1 _ _ _).length=1;rw [Yi];rfl⟩)))
 refine Ev.bind (Q:=fun (r:List Int×Int×Int×Int×List Zhd)=>SC4 r∧r.2.2.2.2.length=1) ?_ fun y6 h6=>?_
 ·unfold Zhb.j1
  obtain ⟨v6,e6,h6⟩:=Zdg _ h5.1 12 (by omega);refine Ev.bnd e6 (Ev.cond (fun _=>?_) fun _=>Ev.ret ⟨h6,h5.2⟩);obtain ⟨x,ex,_⟩:=Zwb (l:=y5.2.2.2.2) (i:=0) (by omega) (by rw [h5.2];decide);exact Ev.bind (sDigest_ev [121] (by simp)) fun d _=>Ev.bnd ex (Ev.bnd ex (Ev.ret ⟨h6,by show (Y1 _ _ _).length=1;rw [Yi];exact h5.2⟩))
 refine Ev.bind (Q:=fun (r:List Zhd)=>r.length≤101) ?_ fun y7 h7=>?_
 ·refine Ev.loop (fun k j (z:Nat×List Zhd)=>Zhb.l2 j (z.1:Int) v3.1 z.2) (fun z=>v3.1.length-z.1) (fun z=>z.1≤v3.1.length∧z.2.length≤z.1+1) _ (0,y6.2.2.2.2) ⟨Yw _,by show y6.2.2.2.2.length≤0+1;rw [h6.2];decide⟩ ?_
  rintro ⟨i,l⟩ ⟨q0,q1⟩;have q0:i≤v3.1.length:=q0;have q1:l.length≤i+1:=q1;have hv:=h3.1
  by_cases hi:i<v3.1.length
  ·right
   refine ⟨(i+1,l++[(2,(0,(0,([],v3.1[i]))))]),⟨hi,by show (l++[_]).length≤i+1+1;simp;omega⟩,by show v3.1.length-(i+1)<v3.1.length-i;omega,Zc.of fun k j=>?_⟩;show Zhb.l2 (j+1) (i:Int) v3.1 l=_
   conv=>lhs;unfold Zhb.l2
   rw [dlt hi,Xe,Zs (by omega)];exact Za (Zh hi) (Za (Zh hi) (Za (Z6 (by simp;omega)) rfl))
  ·left
   refine ⟨l,Zc.of fun k j=>?_,by show l.length≤101;omega⟩;show Zhb.l2 (j+1) (i:Int) v3.1 l=_
   conv=>lhs;unfold Zhb.l2
   rw [Z8 (by omega)];rfl
 refine Ev.bnd (Z6 (by simp;omega)) ?_
 refine Ev.bind (Q:=fun (r:List Zhd)=>r.length≤200) ?_ fun y10 h10=>Ev.ret ⟨h10,h6.1⟩
 refine Ev.loop (fun k j (z:Nat×List Zhd)=>Zhb.l3 j (z.1:Int) z.2) (fun z=>12-z.1) (fun z=>z.1≤12∧z.2.length≤z.1+104) _ (0,_) ⟨Yw _,by show (y7++[_,_,_]).length≤0+104;simp;omega⟩ ?_
 rintro ⟨i,l⟩ ⟨q0,q1⟩
 have q0:i≤12:=q0
 have q1:l.length≤i+104:=q1
 by_cases hi:i<12
 ·right
  refine ⟨(i+1,l++[(6,(0,(0,([],(0,(0,(0,[])))))))]),⟨hi,by show (l++[_]).length≤i+1+104;simp;omega⟩,by show 12-(i+1)<12-i;omega,Zc.of fun k j=>?_⟩;show Zhb.l3 (j+1) (i:Int) l=_
  conv=>lhs;unfold Zhb.l3
  rw [Xa (by omega:(i:Int)<12),Xe,Zs (by omega)];exact Za (Z6 (by simp;omega)) rfl
 ·left
  refine ⟨l,Zc.of fun k j=>?_,by show l.length≤200;omega⟩;show Zhb.l3 (j+1) (i:Int) l=_
  conv=>lhs;unfold Zhb.l3
  rw [Xb (by omega:¬(i:Int)<12)];rfl
def BM (m:Zo):Prop:=(0≤m.1∧m.1≤100)∧Lean1 m
theorem Z6z:BM noM:=⟨⟨by simp [noM],by simp [noM]⟩,Zs5⟩
theorem Zjjb {m:Zo} (h:BM m) (c:Zhd):BM (doR m c).1:=by
 obtain ⟨s1,s2,_⟩:=Zkjb m c
 refine ⟨?_,⟨by omega,by omega⟩⟩
 unfold doR
 split
 ·exact h.1
 ·exact Z6z.1
theorem Z7ib {m:Zo} (h:BM m) (c:Zhd) (n:Int) (fs:List Int):BM (Zdt m c n fs).1:=by
 refine ⟨?_,Z8ib m c n fs⟩
 unfold Zdt
 split
 ·exact Z6z.1
 ·split
  ·exact h.1
  ·exact Z6z.1
theorem Zd9 {m:Zo} (h:BM m):BM (Zyr m).1:=by
 obtain ⟨s1,s2⟩:=Zeib m
 refine ⟨?_,⟨by omega,by omega⟩⟩
 unfold Zyr
 split
 ·exact h.1
 ·exact Z6z.1
abbrev BMr (r:Int×List Str×List Z5b):Prop:=BM (r.1,(r.2.1,r.2.2))
theorem Z63 (m:Zo) (hm:BM m) (l:List Zhd) (hl:l.length≤1000):Ev (fun k=>Zee k m l) BMr:=by
 unfold Zee
 refine Ev.bind (Q:=BMr) ?_ fun y hy=>Ev.ret hy
 refine Ev.loop (fun k j (z:Nat×Zo)=>Zee.l0 k j l (z.1:Int) z.2.1 z.2.2.1 z.2.2.2) (fun z=>l.length-z.1) (fun z=>z.1≤l.length∧BM z.2) _ (0,m) ⟨Yw _,hm⟩ ?_
 rintro ⟨i,m⟩ ⟨q0,q1⟩
 have q0:i≤l.length:=q0
 have q1:BM m:=q1
 by_cases hi:i<l.length
 ·right
  have W:=Zbx l[i];cases hb:Zkh l[i] with
  | false=>
   rw [hb] at W;refine ⟨(i+1,m),⟨hi,q1⟩,by show l.length-(i+1)<l.length-i;omega,Zc.of fun k j=>?_⟩;show Zee.l0 k (j+1) l (i:Int) m.1 m.2.1 m.2.2=_
   conv=>lhs;unfold Zee.l0
   rw [dlt hi,Xe,Zs (by omega)];exact Za (Zh hi) (Za W rfl)
  | true=>
   rw [hb] at W;refine ⟨(i+1,(doR m l[i]).1),⟨hi,Zjjb q1 _⟩,by show l.length-(i+1)<l.length-i;omega,(sDoR m l[i] q1.2.s q1.2.d).mono fun k e j=>?_⟩;show Zee.l0 k (j+1) l (i:Int) m.1 m.2.1 m.2.2=_
   conv=>lhs;unfold Zee.l0
   rw [dlt hi,Xe,Zs (by omega)];exact Za (Zh hi) (Za W (Za (Zh hi) (Za e rfl)))
 ·left
  refine ⟨(m.1,(m.2.1,m.2.2)),Zc.of fun k j=>?_,q1⟩;show Zee.l0 k (j+1) l (i:Int) m.1 m.2.1 m.2.2=_
  conv=>lhs;unfold Zee.l0
  rw [Z8 (by omega)];rfl
abbrev MS7 (r:List Int×Int×Int×Int×Int×List Str×List Z5b):Prop:=Src (r.1,(r.2.1,(r.2.2.1,r.2.2.2.1)))∧BM r.2.2.2.2
theorem Zcdb {a:List Str} (h:Zyd a=true):BM (Zlk a):=by
 have hl:=Zis a
 obtain ⟨i1,i2,i3⟩:=Zik h
 obtain ⟨hfit,hal⟩:=Zp5 h
 obtain ⟨s1,s2⟩:=Zl3 (f:=(Z7b a,[])) (Z5z h) hfit
 exact ⟨⟨by show 0≤(a.length:Int);omega,by show (a.length:Int)≤100;omega⟩,⟨by show (Z0h a).1.length≤_;unfold Z0h;omega,by show (Z0h a).2.length≤_;unfold Z0h;omega⟩⟩
theorem Zsrb (s:Z0b) (hs:Src s):Ev (fun k=>Zad k s) fun r=>BM (r.1,(r.2.1,r.2.2.1))∧Src r.2.2.2:=by
 unfold Zad
 obtain ⟨v2,e2,h2,l2,_,u2⟩:=Z3 s hs 5 (by omega)
 have u2:=u2 (by omega)
 have ew:Ya .i64 (1+v2.1)=1+v2.1:=w64 (by omega) (by omega)
 refine Ev.bnd e2 ?_
 rw [ew]
 refine Ev.bind (Zl4 v2.2 h2 (1+v2.1) (by omega) (by omega)) fun v3 h3=>?_
 refine Ev.bind (Q:=fun r=>BM (r.1,(r.2.1,r.2.2.1))) (Ev.ever (Zefb (a:=v3.1) (by omega)) ?_) fun v4 h4=>?_
 ·split
  ·rename_i hi
   exact Zcdb hi
  ·exact ⟨⟨by simp,by simp⟩,⟨by simp,by simp⟩⟩
 refine Ev.bind (Q:=MS7) ?_ fun y5 h5=>?_
 ·unfold Zad.j0
  obtain ⟨v8,e8,h8⟩:=Zdg _ h3.2 4 (by omega);refine Ev.bnd e8 (Ev.cond (fun _=>?_) fun _=>Ev.ret ⟨h8,h4⟩);obtain ⟨v9,e9,h9,_⟩:=Z3 v8.2 h8 6 (by omega);exact Ev.bnd e9 (Ev.bind (Z63 _ h4 _ (by simp)) fun v10 h10=>Ev.ret ⟨h9,h10⟩)
 refine Ev.bind (Z0ib _ h5.1 v3.1 (by omega) (by omega)) fun v6 h6=>?_
 have h6l:=h6.1
 have ew2:Ya .i64 ((v6.1.length:Int)+1)=(v6.1.length:Int)+1:=w64 (by omega) (by omega)
 rw [ew2]
 obtain ⟨v7,e7,h7,l7,z7,u7⟩:=Z3 v6.2 h6.2 ((v6.1.length:Int)+1) (by omega)
 have hle:v7.1≤(v6.1.length:Int):=by
  by_cases c:(v6.1.length:Int)+1≤1
  ·have:=z7 c;omega
  ·have:=u7 (by omega);omega
 obtain ⟨v8,e8,l8⟩:=Znp (l:=v6.1) (i:=0) (j:=v7.1) (by omega) l7 hle
 refine Ev.bnd e7 (Ev.bnd e8 (Ev.bind (Z63 _ h5.2 v8 (by omega)) fun v9 h9=>?_))
 obtain ⟨v10,e10,h10,l10,_,u10⟩:=Z3 v7.2 h7 4 (by omega)
 have u10:=u10 (by omega)
 refine Ev.bnd e10 (Ev.bind (Q:=MS7) ?_ fun y11 h11=>Ev.ret ⟨h11.2,h11.1⟩)
 refine Ev.loop (fun k j (z:Int×Z0b×Zo)=>Zad.l1 k j z.1 z.2.1.1 z.2.1.2.1 z.2.1.2.2.1 z.2.1.2.2.2 z.2.2.1 z.2.2.2.1 z.2.2.2.2) (fun z=>z.1.toNat) (fun z=>(0≤z.1∧z.1≤4)∧Src z.2.1∧BM z.2.2) _ (v10.1,v10.2,v9) ⟨⟨l10,by show v10.1≤4;omega⟩,h10,h9⟩ ?_
 rintro ⟨n,z,m⟩ ⟨⟨q0,q1⟩,q2,q3⟩
 have q0:0≤n:=q0
 have q1:n≤4:=q1
 have q3:BM m:=q3
 by_cases hn:0<n
 ·right
  obtain ⟨v9,h9,e9⟩:=Zy9 z q2 m.1 q3.1;obtain ⟨v10,h10,e10⟩:=Z63 m q3 [(v9.1,(v9.2.1,(v9.2.2.1,(v9.2.2.2.1,(v9.2.2.2.2.1,(v9.2.2.2.2.2.1,(v9.2.2.2.2.2.2.1,v9.2.2.2.2.2.2.2.1)))))))] (by simp);refine ⟨(n-1,v9.2.2.2.2.2.2.2.2,v10),⟨⟨by show 0≤n-1;omega,by show n-1≤4;omega⟩,h9,h10⟩,by show (n-1).toNat<n.toNat;omega,(e9.and e10).mono fun k ⟨e9,e10⟩ j=>?_⟩;show Zad.l1 k (j+1) n z.1 z.2.1 z.2.2.1 z.2.2.2 m.1 m.2.1 m.2.2=_
  conv=>lhs;unfold Zad.l1
  rw [Xa hn,Xe,w64 (n:=n-1) (by omega) (by omega)];exact Za e9 (Za e10 rfl)
 ·left
  refine ⟨(z.1,z.2.1,z.2.2.1,z.2.2.2,m),Zc.of fun k j=>?_,q2,q3⟩;show Zad.l1 k (j+1) n z.1 z.2.1 z.2.2.1 z.2.2.2 m.1 m.2.1 m.2.2=_
  conv=>lhs;unfold Zad.l1
  rw [Xb hn];rfl
theorem Zd6 {n n':Int} (h:Num n) (h':Num n') {r r':Str} (e:Zk n++r=Zk n'++r'):n=n'∧r=r':=by
 have e1:=Zan n h (Zk n++r) 0 r rfl
 have e2:=Zan n' h' (Zk n++r) 0 r' e
 have q:n=n':=by
  have:=e1.symm.trans e2;exact (Prod.mk.inj this).1
 subst q
 exact ⟨rfl,Y8 e⟩
theorem Zwob {t t':Str} (h:t.length≤8000) (h':t'.length≤8000) {r r':Str} (e:Zcb t++r=Zcb t'++r'):t=t'∧r=r':=by
 have e1:=Z1u t h (Zcb t++r) 0 r rfl
 have e2:=Z1u t' h' (Zcb t++r) 0 r' e
 have q:t=t':=by
  have:=e1.symm.trans e2;exact (Prod.mk.inj this).1
 subst q
 exact ⟨rfl,Y8 e⟩
theorem Zgdb {s:Str} {k:Int} (h:(Zic s k).1=false):Zbh k (Zic s k).2.1 (Zic s k).2.2=true∧s=Z8b k (Zic s k).2.1 (Zic s k).2.2:=by
 unfold Zic at h ⊢
 by_cases c:(Zxc s).2=0
 ·rw [Xc c] at h ⊢
  cases hp:Zmk (Zn s) with
  | none=>rw [hp] at h;cases h
  | some x=>
   obtain ⟨⟨n,a,t⟩,d⟩:=x;rw [hp] at h;dsimp only at h ⊢
   by_cases q:(d=(Zn s).length∧n=k)∧Zbh k a t=true
   ·rw [Xc q]
    obtain ⟨_,_,_,hw⟩:=Zhdb hp;have hw:=hw.2 q.1.1;refine ⟨q.2,?_⟩;unfold Z8b;rw [← q.1.2];dsimp only;rw [hw];exact (Z1s c).2.1.symm
   ·rw [Xd q] at h
    exact absurd h (by decide)
 ·rw [Xd c] at h
  exact absurd h (by decide)
theorem Zeob {n a:Int} {t:Str} (hB:Zbh n a t=true) {i:Nat} (hi:i<(Z8b n a t).length) (k:Int):(Zic ((Z8b n a t).take i) k).1=true:=by
 refine Decidable.byContradiction fun q=>?_
 have q:(Zic ((Z8b n a t).take i) k).1=false:=by simpa using q
 obtain ⟨hB',e⟩:=Zgdb q
 generalize (Zic ((Z8b n a t).take i) k).2.1=a' at hB' e
 generalize (Zic ((Z8b n a t).take i) k).2.2=t' at hB' e
 obtain ⟨h1,h2,h3⟩:=Zam.1 hB
 obtain ⟨h1',h2',h3'⟩:=Zam.1 hB'
 obtain ⟨r,hr⟩:∃r,r=(Z8b n a t).drop i:=⟨_,rfl⟩
 have e2:Z8b n a t=Z8b k a' t'++r:=by rw [← e,hr,List.take_append_drop]
 have hrl:r.length=(Z8b n a t).length-i:=by rw [hr,List.length_drop]
 clear hr
 have e3:Zk n++(Zk a++(Zcb t++Z8m (Zrf 0 (Zje n a t))))=Zk k++(Zk a'++(Zcb t'++(Z8m (Zrf 0 (Zje k a' t'))++r))):=by
  have l:∀(n a:Int) (t:Str),Z8b n a t=Zk n++(Zk a++(Zcb t++Z8m (Zrf 0 (Zje n a t)))):=fun n a t=>by
   unfold Z8b Zhf Zje;simp only [Yn]
  rw [← l,e2,l k a' t'];simp only [Yn]
 obtain ⟨x1,x2⟩:=Zd6 ⟨by omega,by omega⟩ ⟨by omega,by omega⟩ e3
 obtain ⟨x3,x4⟩:=Zd6 ⟨by omega,by omega⟩ ⟨by omega,by omega⟩ x2
 obtain ⟨x5,x6⟩:=Zwob (by omega) (by omega) x4
 have:=congrArg List.length x6
 rw [Yc,Z8r,Z8r] at this
 omega
theorem Zcob {n a:Int} {t:Str} (hB:Zbh n a t=true):Zic (Z8b n a t) n=(false,(a,t)):=by
 obtain ⟨h1,h2,h3⟩:=Zam.1 hB
 have hz:Zmk (Zje n a t)=some ((n,(a,t)),(Zje n a t).length):=by
  have e1:=Zan n ⟨by omega,by omega⟩ (Zje n a t) 0 (Zk a++Zcb t) (by unfold Zje;rw [List.drop_zero,Yn]);have d1:(Zje n a t).drop (Zk n).length=Zk a++Zcb t:=by unfold Zje;rw [Yn,Yaa]
  have e2:=Zan a ⟨by omega,by omega⟩ (Zje n a t) _ _ d1;have d2:(Zje n a t).drop ((Zk n).length+(Zk a).length)=Zcb t++[]:=by rw [← List.drop_drop,d1,Yaa,Y9]
  have e3:=Z1u t (by omega) (Zje n a t) _ _ d2;have hl:(Zje n a t).length=(Zk n).length+(Zk a).length+(Zcb t).length:=by unfold Zje;simp only [Yc]
  rw [Nat.zero_add] at e1;unfold Zmk Zqb Z0g;rw [e1];dsimp only;rw [Xc rfl,Yt];show (Yq _ _)=_;rw [Yb];dsimp only;rw [e2];dsimp only;rw [Xc rfl,Yt,Yb];dsimp only;rw [e3];dsimp only;rw [Xc rfl,Yt,hl];rfl
 unfold Zic Z8b
 rw [Zx7,Ziy,Xc rfl,hz]
 dsimp only
 rw [Xc ⟨⟨rfl,rfl⟩,hB⟩]
theorem Zdob {n a:Int} {t:Str} (hB:Zbh n a t=true) {k:Int} (hk:k≠n):(Zic (Z8b n a t) k).1=true:=by
 refine Decidable.byContradiction fun q=>?_
 have q:(Zic (Z8b n a t) k).1=false:=by simpa using q
 obtain ⟨hB',e⟩:=Zgdb q
 generalize (Zic (Z8b n a t) k).2.1=a' at hB' e
 generalize (Zic (Z8b n a t) k).2.2=t' at hB' e
 obtain ⟨h1,h2,h3⟩:=Zam.1 hB
 obtain ⟨h1',h2',h3'⟩:=Zam.1 hB'
 have l:∀(n a:Int) (t:Str),Z8b n a t=Zk n++(Zk a++(Zcb t++Z8m (Zrf 0 (Zje n a t)))):=fun n a t=>by
  unfold Z8b Zhf Zje;simp only [Yn]
 rw [l n a t,l k a' t'] at e
 exact hk (Zd6 ⟨by omega,by omega⟩ ⟨by omega,by omega⟩ e).1.symm
theorem Zgi {α:Type} {c:Bool} {x y z:α} (h:c=false) (k:y=z):(bif c then x else y)=z:=by rw [h];exact k
theorem Z5m {α:Type} {c:Bool} {x y z:α} (h:c=true) (k:x=z):(bif c then x else y)=z:=by rw [h];exact k
theorem Zvcb (l:List Int) (hl:l.length≤1048576):Zc fun k=>Zxf k l l=some true:=by
 have key:=Z4y (fun k j i=>Zxf.l0 j l l (i:Int)) l.length (.inl ()) (Zc.of fun k i hi j=>by
  conv=>lhs;unfold Zxf.l0
  rw [dlt hi,Zh hi,Zs (by omega)];simp only [Xe,Yb,bne_self_eq_false,Xf]) (Zc.of fun k j=>by
  conv=>lhs;unfold Zxf.l0
  rw [Z8 (Yg _)];rfl)
 refine key.mono fun k e=>?_
 have e:Zxf.l0 k l l 0=some (.inl ()):=e
 unfold Zxf
 rw [bne_self_eq_false,Xf]
 exact Za e rfl
theorem Zknb (l:List Zi) (hl:l.length≤1048576):Zc fun k=>Zcg k l l=some true:=by
 have key:=Z4y (fun k j i=>Zcg.l0 j l l (i:Int)) l.length (.inl ()) (Zc.of fun k i hi j=>by
  conv=>lhs;unfold Zcg.l0
  rw [dlt hi,Zh hi,Zs (by omega)];simp only [Xe,Yb,beq_self_eq_true,Y3,Ye,Xf]) (Zc.of fun k j=>by
  conv=>lhs;unfold Zcg.l0
  rw [Z8 (Yg _)];rfl)
 refine key.mono fun k e=>?_
 have e:Zcg.l0 k l l 0=some (.inl ()):=e
 unfold Zcg
 rw [bne_self_eq_false,Xf]
 exact Za e rfl
theorem Zinb (m:Zo) (hl:Lean1 m):Zc fun k=>Zkq k m m=some true:=by
 have hd:=hl.d
 have key:=Z4y (fun k j i=>Zmg.l0 j m.2.1 m.2.2 m.2.1 m.2.2 (i:Int)) m.2.2.length (.inl ()) (Zc.of fun k i hi j=>by
  conv=>lhs;unfold Zmg.l0
  rw [dlt hi,Zh hi,Zs (by omega)];simp only [Xe,Yb,beq_self_eq_true,Y3,Ye,Xf]) (Zc.of fun k j=>by
  conv=>lhs;unfold Zmg.l0
  rw [Z8 (Yg _)];rfl)
 refine (key.and (Z74 m.2.1 hl.s)).mono fun k ⟨e,e2⟩=>?_
 have e:Zmg.l0 k m.2.1 m.2.2 m.2.1 m.2.2 0=some (.inl ()):=e
 unfold Zkq
 refine Z5m (by simp) (Za (a:=true) ?_ rfl)
 unfold Zmg
 exact Za e2 (Zgi (by simp) (Za e rfl))
abbrev Zd8:=Int×Int×Int×Int×Int×Str×List Int×List Int×Int
theorem Zjnb (r:Zd8) (h1:r.2.2.2.2.2.2.1.length≤1048576) (h2:r.2.2.2.2.2.2.2.1.length≤1048576):Zc fun k=>Zlq k ((r.1,(r.2.1,(r.2.2.1,(r.2.2.2.1,(r.2.2.2.2.1,(r.2.2.2.2.2.1,(r.2.2.2.2.2.2.1,r.2.2.2.2.2.2.2.1))))))),r.2.2.2.2.2.2.2.2) ((r.1,(r.2.1,(r.2.2.1,(r.2.2.2.1,(r.2.2.2.2.1,(r.2.2.2.2.2.1,(r.2.2.2.2.2.2.1,r.2.2.2.2.2.2.2.1))))))),r.2.2.2.2.2.2.2.2)=some true:=by
 refine ((Zvcb _ h1).and (Zvcb _ h2)).mono fun k ⟨e,e2⟩=>?_
 unfold Zlq
 exact Z5m (by simp) (Za e (Z5m rfl (Za e2 rfl)))
theorem Zhnb (r:List Str×Int) (h:r.1.length≤1048576):Zc fun k=>Zjq k r r=some true:=by
 refine (Z74 r.1 h).mono fun k e=>?_
 unfold Zjq
 exact Z5m (by simp) (Za e rfl)
def Zws:Option StV→Zd8
 | some (a,b,c,d,e,m,v,w)=>(a,b,c,d,e,m,Zb v,Zb w,0)
 | none=>(0,0,0,0,0,[],[],[],1)
theorem Zf9 (m:Zo) (hl:Lean1 m):(Zc fun k=>Z3l k m=some (Zws (stM m)))∧(Zc fun k=>Z2o k m=some (Zws (stM m)))∧(Zc fun k=>Zio k m=some (stM m).isSome)∧Zc fun k=>Z1o k m=some (stM m).isSome:=by
 have hi:=Zut m hl.s hl.d
 have hs:=Zps m hl.s hl.d
 cases h:stM m with
 | none=>
  rw [h] at hi hs;refine ⟨hi.mono fun k e=>?_,hs.mono fun k e=>?_,hi.mono fun k e=>?_,hs.mono fun k e=>?_⟩
  ·unfold Z3l;exact Za e rfl
  ·unfold Z2o;exact Za e rfl
  ·unfold Zio;exact Za e rfl
  ·unfold Z1o;exact Za e rfl
 | some z=>
  obtain ⟨a,b,c,d,e0,x,v,w⟩:=z;rw [h] at hi hs;refine ⟨hi.mono fun k e=>?_,hs.mono fun k e=>?_,hi.mono fun k e=>?_,hs.mono fun k e=>?_⟩
  ·unfold Z3l;exact Za e rfl
  ·unfold Z2o;exact Za e rfl
  ·unfold Zio;exact Za e rfl
  ·unfold Z1o;exact Za e rfl
theorem Z6fb (z:Option StV):(Zws z).2.2.2.2.2.2.1.length≤1048576∧(Zws z).2.2.2.2.2.2.2.1.length≤1048576:=by
 cases z with
 | none=>exact ⟨by simp [Zws],by simp [Zws]⟩
 | some z=>
  obtain ⟨a,b,c,d,e0,x,v,w⟩:=z;have:=Z7d v;have:=Z7d w;exact ⟨by show (Zb v).length≤_;omega,by show (Zb w).length≤_;omega⟩
theorem Ze9 (m:Zo) (hl:Lean1 m):(Zc fun k=>Zen k m=some (Zqd m))∧Zc fun k=>Zyj k m=some (Zqd m):=by
 refine ⟨(Zkz m hl.s hl.d).mono fun k e=>?_,Zzq m hl.s hl.d⟩
 unfold Zen
 exact Za e rfl
theorem Zonb {m:Zo} (hm:Zqd m=true):∃ph tr nd st dn dg v w,stM m=some (ph,(tr,(nd,(st,(dn,(dg,(v,w))))))):=by
 cases h:stM m with
 | none=>
  unfold Zqd at hm;rw [h] at hm;cases hm
 | some z=>exact ⟨_,_,_,_,_,_,_,_,rfl⟩
theorem Zgib (m:Zo) (hl:Lean1 m):∃r:List Str×Int,r.1.length≤1048576∧(Zc fun k=>Z6k k m=some r)∧Zc fun k=>Zwo k m=some r:=by
 have hi:=Zkz m hl.s hl.d
 have hs:=Zzq m hl.s hl.d
 cases hm:Zqd m with
 | false=>
  rw [hm] at hi hs;refine ⟨([],1),by simp,hi.mono fun k e=>?_,hs.mono fun k e=>?_⟩
  ·unfold Z6k;exact Za e rfl
  ·unfold Zwo;exact Za e rfl
 | true=>
  obtain ⟨ph,tr,nd,st,dn,dg,v,w,h⟩:=Zonb hm;have hf:=(Z8l h).fit;have hb:=hf.b;have hn:=hf.n;have hbl:=Zlv m;rw [hm] at hs;refine ⟨(Zsb m,0),by show (Zsb m).length≤_;omega,Zxbb hm h,(hs.and (Zc.ge 1048577 fun k hk=>hk)).mono fun k ⟨e,hk⟩=>?_⟩;unfold Zwo;exact Za e (Za (Zy0 (m:=m) ⟨by omega,hb.2⟩ (by omega) hl.d hk) rfl)
theorem Zhib (m:Zo) (hl:Lean1 m):∃r:List Zi×Int,r.1.length≤1048576∧(Zc fun k=>Zho k m=some r)∧Zc fun k=>Z0o k m=some r:=by
 have hi:=Zut m hl.s hl.d
 have hs:=Zps m hl.s hl.d
 cases h:stM m with
 | none=>
  rw [h] at hi hs;refine ⟨([],0),by simp,hi.mono fun k e=>?_,hs.mono fun k e=>?_⟩
  ·unfold Zho;exact Za e rfl
  ·unfold Z0o;exact Za e rfl
 | some z=>
  obtain ⟨ph,tr,nd,st,dn,dg,v,w⟩:=z;have h0:=Z8l h;have hll:=h0.log;have hlen:=Zvz m st w;rw [h] at hi hs;refine ⟨(Zf m st w,Z5i (Zf m st w)),by show (Zf m st w).length≤_;omega,((hi.and (Zc4 ph tr nd st dn dg (Zb v) h0.fit)).and (Zc.ge 100 fun k hk=>hk)).mono fun k ⟨⟨e,e2⟩,hk⟩=>?_,((hs.and (Zuo ph tr nd st dn dg (Zb v) h0.fit)).and (Zc.ge 100 fun k hk=>hk)).mono fun k ⟨⟨e,e2⟩,hk⟩=>?_⟩
  ·unfold Zho
   exact Za e (Za e2 (Za (Zrlb _ hll.2.1 hk) rfl))
  ·unfold Z0o
   exact Za e (Za e2 (Za (Zw6 _ hll.2.1 hk) rfl))
theorem Ziib (m:Zo) (hl:Lean1 m) (n:Int):∃r:Str,(Zc fun k=>Zfn k m n=some r)∧Zc fun k=>Zvn k m n=some r:=by
 have hi:=Zut m hl.s hl.d
 have hs:=Zps m hl.s hl.d
 cases h:stM m with
 | none=>
  rw [h] at hi hs;refine ⟨[],hi.mono fun k e=>?_,hs.mono fun k e=>?_⟩
  ·unfold Zfn;exact Za e rfl
  ·unfold Zvn;exact Za e rfl
 | some z=>
  obtain ⟨ph,tr,nd,st,dn,dg,v,w⟩:=z;have h0:=Z8l h;have hst:=h0.fit.s;have hlw:=Z7d w;have ew:Ya .i64 (st-1)=st-1:=w64 (by omega) (by omega);have W1:Znb n 0 (st-1)=some (decide (0≤n)&&decide (n≤st-1)):=rfl;have W2:Z9 n 0 (st-1)=some (decide (0≤n)&&decide (n≤st-1)):=rfl;rw [h] at hi hs;have hi:Zc fun k=>Zag k m=some (ph,(tr,(nd,(st,(dn,(dg,(Zb v,(Zb w,true)))))))):=hi
  have hs:Zc fun k=>Zjf k m=some (ph,(tr,(nd,(st,(dn,(dg,(Zb v,(Zb w,true)))))))):=hs
  by_cases c:0≤n∧n≤st-1
  ·obtain ⟨a1,a2,a3⟩:=Z7s (w:=w) c.1 (by omega)
   generalize (Zb w).getD n.toNat 0=x at a1 a2 a3;rw [Xa c.1,Xa c.2] at W1 W2;refine ⟨Zm m.2 (3+m.1+x),(hi.and (Zc.ge 1048577 fun k hk=>hk)).mono fun k ⟨e,hk⟩=>?_,(hs.and (Zc.ge 1048577 fun k hk=>hk)).mono fun k ⟨e,hk⟩=>?_⟩
   ·unfold Zfn
    refine Za e ?_;rw [Ye,Xf];show Yq (Znb n 0 (Ya .i64 (st-1))) _=_;rw [ew];exact Za W1 (Za a1 (Za a1 (Za (Zwbb (m:=m) h0.fit a2 a3 hk) rfl)))
   ·have hb:=h0.fit.b
    have hn:=h0.fit.n;have hd:=h0.fit.dirt;unfold Zvn;refine Za e ?_;rw [Ye,Xf];show Yq (Z9 n 0 (Ya .i64 (st-1))) _=_;rw [ew];refine Za W2 (Za (a:=Zm m.2 (3+m.1+x)) ?_ rfl);unfold Znm;exact Za a1 (Za (Ztu (m:=m) h0.fit a2 a3) (Za (Zon m.2 _ hd (by omega) (by omega) (by omega)) rfl))
  ·have q:(decide (0≤n)&&decide (n≤st-1))=false:=by
    rw [Y2,decide_eq_false_iff_not,decide_eq_false_iff_not];omega
   rw [q] at W1 W2;refine ⟨[],hi.mono fun k e=>?_,hs.mono fun k e=>?_⟩
   ·unfold Zfn
    refine Za e ?_;rw [Ye,Xf];show Yq (Znb n 0 (Ya .i64 (st-1))) _=_;rw [ew];exact Za W1 rfl
   ·unfold Zvn
    refine Za e ?_;rw [Ye,Xf];show Yq (Z9 n 0 (Ya .i64 (st-1))) _=_;rw [ew];exact Za W2 rfl
theorem Zzlb (n a:Int) (t:Str) (hn:Num n) (ha:Num a) (ht:t.length≤8000):Zc fun k=>Z2p k n a t=some (if Zbh n a t=true then Z8b n a t else []):=by
 have W1:Zti n=some (decide (0≤n)&&decide (n≤1000000)):=rfl
 have W2:Znb a 0 39=some (decide (0≤a)&&decide (a≤39)):=rfl
 refine (Zylb n a t hn ha ht).mono fun k e=>?_
 unfold Z2p
 refine Za W1 ?_
 unfold Zbh
 cases c1:decide (0≤n)&&decide (n≤1000000) with
 | false=>rfl
 | true=>
  rw [Ye,Xf];refine Za W2 ?_;cases c2:decide (0≤a)&&decide (a≤39) with
  | false=>rfl
  | true=>
   by_cases c8:t.length=8
   ·rw [Xa c8,Xc (by decide)]
    exact Zgi (by rw [c8];rfl) (Za e rfl)
   ·rw [Xb c8,Xd (by decide)]
    exact Z5m (by simp;omega) rfl
theorem Zlz (s:Str) (hs:s.length≤8000) (n:Int):Zc fun k=>Z2l k s n=some (Zic s n):=by
 refine (Z0lb s hs n).mono fun k e=>?_
 unfold Z2l
 exact Zgi (Xb (by omega)) (Za e rfl)
theorem Zch {n:Int} (h:-1000000000≤n∧n≤1000000000):Num n:=by
 unfold Num
 omega
theorem Zapb (s:Z0b) (hs:Src s) (n m:Int) (hn:0≤n∧n≤100) (hm:m<1000):Ev (fun k=>Z0e k s n m) fun p=>p.1.length≤100∧Src p.2:=by
 unfold Z0e
 refine Ev.bind (Q:=fun (r:List Int×Int×Int×Int×List Int)=>Src (r.1,(r.2.1,(r.2.2.1,r.2.2.2.1)))∧r.2.2.2.2.length≤100) ?_ fun y h=>Ev.ret ⟨h.2,h.1⟩
 refine Ev.loop (fun k j (z:Int×Z0b×List Int)=>Z0e.l0 j n m z.1 z.2.1.1 z.2.1.2.1 z.2.1.2.2.1 z.2.1.2.2.2 z.2.2) (fun z=>(n-z.1).toNat) (fun z=>(0≤z.1∧z.1≤n∧(z.2.2.length:Int)≤z.1)∧Src z.2.1) _ (0,s,[]) ⟨⟨by simp,hn.1,by simp⟩,hs⟩ ?_
 rintro ⟨i,z,l⟩ ⟨⟨q0,q1,q2⟩,q3⟩
 have q0:0≤i:=q0
 have q1:i≤n:=q1
 have q2:(l.length:Int)≤i:=q2
 by_cases hi:i<n
 ·right
  obtain ⟨⟨b,z2⟩,e9,h9⟩:=Zdg z q3 m (by omega);cases b with
  | true=>
   refine ⟨(i+1,z2,l++[i]),⟨⟨by show 0≤i+1;omega,by show i+1≤n;omega,by show ((l++[i]).length:Int)≤i+1;simp;omega⟩,h9⟩,by show (n-(i+1)).toNat<(n-i).toNat;omega,Zc.of fun k j=>?_⟩;show Z0e.l0 (j+1) n m i z.1 z.2.1 z.2.2.1 z.2.2.2 l=_
   conv=>lhs;unfold Z0e.l0
   rw [Xa hi,Xe,w64 (n:=i+1) (by omega) (by omega)];exact Za e9 (Za (Z6 (by simp;omega)) rfl)
  | false=>
   refine ⟨(i+1,z2,l),⟨⟨by show 0≤i+1;omega,by show i+1≤n;omega,by show (l.length:Int)≤i+1;omega⟩,h9⟩,by show (n-(i+1)).toNat<(n-i).toNat;omega,Zc.of fun k j=>?_⟩;show Z0e.l0 (j+1) n m i z.1 z.2.1 z.2.2.1 z.2.2.2 l=_
   conv=>lhs;unfold Z0e.l0
   rw [Xa hi,Xe,w64 (n:=i+1) (by omega) (by omega)];exact Za e9 rfl
 ·left
  refine ⟨(z.1,z.2.1,z.2.2.1,z.2.2.2,l),Zc.of fun k j=>?_,q3,by show l.length≤100;omega⟩;show Z0e.l0 (j+1) n m i z.1 z.2.1 z.2.2.1 z.2.2.2 l=_
  conv=>lhs;unfold Z0e.l0
  rw [Xb hi];rfl
theorem Z8ob (l:List Int) (hl:l.length≤100) (n:Int) (hn:1≤n∧n≤50):Ev (fun k=>Zcr k l [] n) fun p=>p.1.length≤100:=by
 unfold Zcr
 refine Ev.cond (fun q=>by rw [Yx,decide_eq_true_eq,decide_eq_true_eq] at q;simp at q;omega) fun _=>?_
 refine Ev.bind (Zuz l (by omega)) fun v4 h4=>Ev.cond (fun _=>Ev.ret (by simp)) fun q4=>?_
 refine Ev.bind (Zuz [] (by simp)) fun v5 _=>Ev.cond (fun _=>Ev.ret (by simp)) fun _=>?_
 obtain ⟨v,hv,rfl⟩:=h4 (by simpa using q4)
 obtain ⟨m,hm⟩:∃m:Nat,n=(m:Int):=⟨n.toNat,by omega⟩
 refine Ev.bind (Q:=fun (p:List Int×Int)=>p.1.length≤100) (Ev.ever (p:=Zfu (Zcj (Zhe v 0) (m:Int)) 11) (Zc.ge 200 fun k hk=>?_) ?_) fun p hp=>Ev.ret hp
 ·have:=Z46 v 0 m hv (by decide) (by omega) hk
  rw [Z8s] at this;rw [hm];exact this
 ·cases hr:Zcj (Zhe v 0) (m:Int) with
  | none=>simp [Zfu]
  | some r=>
   have:=(Zh6 (Zaz hv (by decide)) (by omega) hr).2;show r.length≤100;omega
structure StQ (N:Nat) (a5 a6 a7 a8 a9:Int) (a10:Str) (a11 a12:List Int):Prop where
 n5:Num a5
 n6:Num a6
 n7:Num a7
 n8:Num a8
 n9:Num a9
 x:a10.length≤100
 l:a11.length≤100
 r:a12.length≤N
theorem StQ.up {a5 a6 a7 a8 a9:Int} {a10:Str} {a11 a12:List Int} (h:StQ 200 a5 a6 a7 a8 a9 a10 a11 a12):StQ 300 a5 a6 a7 a8 a9 a10 a11 a12:=⟨h.n5,h.n6,h.n7,h.n8,h.n9,h.x,h.l,Nat.le_trans h.r (by decide)⟩
abbrev Z41 (p:List Int×Int×Int×Int×Int×Int×Int×Int×Int×Str×List Int×List Int):Prop:=Src (p.1,(p.2.1,(p.2.2.1,p.2.2.2.1)))∧StQ 200 p.2.2.2.2.1 p.2.2.2.2.2.1 p.2.2.2.2.2.2.1 p.2.2.2.2.2.2.2.1 p.2.2.2.2.2.2.2.2.1 p.2.2.2.2.2.2.2.2.2.1 p.2.2.2.2.2.2.2.2.2.2.1 p.2.2.2.2.2.2.2.2.2.2.2
theorem Zwrb (s:Z0b) (hs:Src s):Ev (fun k=>Zsc k s) fun p=>StQ 300 p.1 p.2.1 p.2.2.1 p.2.2.2.1 p.2.2.2.2.1 p.2.2.2.2.2.1 p.2.2.2.2.2.2.1 p.2.2.2.2.2.2.2.1∧Src p.2.2.2.2.2.2.2.2:=by
 unfold Zsc
 obtain ⟨v2,e2,h2,l2,_,u2⟩:=Z3 s hs 5 (by omega)
 have u2:=u2 (by omega)
 have ew:Ya .i64 (1+v2.1)=1+v2.1:=w64 (by omega) (by omega)
 have z0:Num 0:=Zch (by omega)
 have n1:Num (1+v2.1):=Zch (by omega)
 refine Ev.bnd e2 (Ev.bind (Zapb v2.2 h2 24 5 (by omega) (by omega)) fun v3 h3=>?_)
 rw [ew]
 refine Ev.bind (Q:=Z41) ?_ fun y4 h4=>?_
 ·unfold Zsc.j0
  refine Ev.cond (fun _=>?_) fun _=>Ev.ret ⟨h3.2,⟨n1,z0,z0,z0,z0,by simp,h3.1,by simp⟩⟩
  obtain ⟨v13,e13,h13,l13,_,u13⟩:=Z3 _ h3.2 6 (by omega);have u13:=u13 (by omega);obtain ⟨v14,e14,h14,l14,_,u14⟩:=Z3 v13.2 h13 3 (by omega);have u14:=u14 (by omega);have ew1:Ya .i64 (1+v13.1)=1+v13.1:=w64 (by omega) (by omega);have ew2:Ya .i64 (1+v13.1+v14.1)=1+v13.1+v14.1:=w64 (by omega) (by omega)
  obtain ⟨v17,e17,h17a,h17⟩:=Ztdb v14.2 h14 [[97],[98]] (fun t=>t.length=1) (by simp) (by simp) (fun x hx=>by
   simp only [Yz,Y0,or_false] at hx;rcases hx with rfl | rfl <;> rfl)
  have n2:Num (1+v13.1):=Zch (by omega);have n3:Num v14.1:=Zch (by omega);refine Ev.bnd e13 (Ev.bnd e14 ?_);dsimp only;rw [ew1,ew2];refine Ev.bind (Z8ob v3.1 h3.1 (1+v13.1+v14.1) (by omega)) fun v16 h16=>Ev.bnd e17 (Ev.bind (sDigest_ev v17.1 (by omega)) fun v18 h18=>Ev.ret ⟨h17,⟨n1,z0,n2,n3,z0,by show v18.length≤100;omega,h3.1,by show v16.1.length≤200;omega⟩⟩)
 refine Ev.bind (Q:=Z41) ?_ fun y5 h5=>?_
 ·unfold Zsc.j1
  refine Ev.cond (fun _=>?_) fun _=>Ev.ret h4
  obtain ⟨v13,e13,h13,l13,_,u13⟩:=Z3 _ h4.1 3 (by omega);have u13:=u13 (by omega);have nn:Num v13.1:=Zch (by omega);exact Ev.bnd e13 (Ev.ret ⟨h13,{ h4.2 with n6:=nn }⟩)
 refine Ev.bind (Q:=Z41) ?_ fun y6 h6=>?_
 ·unfold Zsc.j2
  refine Ev.cond (fun _=>?_) fun _=>Ev.ret h5
  obtain ⟨v13,e13,h13,l13,_,u13⟩:=Z3 _ h5.1 9 (by omega);have u13:=u13 (by omega);have nn:Num v13.1:=Zch (by omega);exact Ev.bnd e13 (Ev.ret ⟨h13,{ h5.2 with n9:=nn }⟩)
 obtain ⟨h6s,h6q⟩:=h6
 obtain ⟨v7,e7,h7⟩:=Zdg _ h6s 10 (by omega)
 refine Ev.bnd e7 (Ev.cond (fun _=>?_) fun _=>Ev.ret ⟨h6q.up,h7⟩)
 obtain ⟨v8,e8,h8,_⟩:=Z3 v7.2 h7 7 (by omega)
 refine Ev.bnd e8 (Ev.cond (fun _=>?_) fun _=>Ev.cond (fun _=>?_) fun _=>Ev.cond (fun _=>?_) fun _=>Ev.cond (fun _=>?_) fun _=>Ev.cond (fun _=>?_) fun _=>Ev.cond (fun _=>?_) fun _=>?_)
 ·obtain ⟨v9,e9,h9,l9,_,u9⟩:=Z3 v8.2 h8 7 (by omega)
  have u9:=u9 (by omega);have nn:Num v9.1:=Zch (by omega);exact Ev.bnd e9 (Ev.ret ⟨{ h6q.up with n5:=nn },h9⟩)
 ·obtain ⟨v9,e9,h9,l9,_,u9⟩:=Z3 v8.2 h8 5 (by omega)
  have u9:=u9 (by omega);refine Ev.bnd e9 (Ev.ret ⟨{ h6q.up with n6:=?_ },h9⟩);show Num (Ya .i64 (v9.1-1));rw [w64 (n:=v9.1-1) (by omega) (by omega)];exact Zch (by omega)
 ·obtain ⟨v9,e9,h9,l9,_,u9⟩:=Z3 v8.2 h8 22 (by omega)
  have u9:=u9 (by omega);have nn:Num v9.1:=Zch (by omega);exact Ev.bnd e9 (Ev.ret ⟨{ h6q.up with n7:=nn },h9⟩)
 ·obtain ⟨v9,e9,h9,l9,_,u9⟩:=Z3 v8.2 h8 6 (by omega)
  have u9:=u9 (by omega);have nn:Num v9.1:=Zch (by omega);exact Ev.bnd e9 (Ev.ret ⟨{ h6q.up with n8:=nn },h9⟩)
 ·obtain ⟨v9,e9,h9,l9,_,u9⟩:=Z3 v8.2 h8 3 (by omega)
  obtain ⟨x,ex,hx⟩:=Zwb (l:=[(-1),40,(41:Int)]) l9 (u9 (by omega))
  have hx:-1≤x∧x≤41:=by
   simp only [Yz,Y0,or_false] at hx;omega
  have nn:Num x:=Zch (by omega);exact Ev.bnd e9 (Ev.bnd ex (Ev.bnd ex (Ev.ret ⟨{ h6q.up with n9:=nn },h9⟩)))
 ·obtain ⟨v9,e9,h9,l9,_,u9⟩:=Z3 v8.2 h8 3 (by omega)
  have u9:=u9 (by omega);have ew3:Ya .i64 (31+v9.1)=31+v9.1:=w64 (by omega) (by omega);refine Ev.bnd e9 ?_;rw [ew3];refine Ev.bind (Zpv v9.2 h9 (31+v9.1) (by omega) (by omega)) fun v18 h18=>Ev.ret ⟨{ h6q.up with x:=?_ },h18.2⟩
  have:=h18.1;show v18.1.length≤100;omega
 ·obtain ⟨v9,e9,h9,l9,_,u9⟩:=Z3 v8.2 h8 25 (by omega)
  have hr:=h6q.r;refine Ev.bnd e9 (Ev.bnd (Z6 (by simp;omega)) (Ev.ret ⟨{ h6q.up with r:=?_ },h9⟩));show (y6.2.2.2.2.2.2.2.2.2.2.2++[v9.1]).length≤300;rw [Yc];simp;omega
end Go.Proofs.Qz
