/- What the law FnExactCut needs, part 14 of 15: the Lean functions of the Go functions that it reaches, with the proofs that the calls come to what they say, and plain facts about them. Conditions: those that each theorem states. Written by a session and by its programs (after the kit's printer). -/
import Derived.Lib.Join
import Derived.Test.YtpcllejjdmmjcaaGreatDoorXFnExactCut9
import Derived.Test.YtpcllejjdmmjcaaGreatDoorXFnExactCut10
import Derived.Test.YtpcllejjdmmjcaaGreatDoorXFnExactCut11
import Derived.Test.YtpcllejjdmmjcaaGreatDoorXFnExactCut12
open Nat renaming le_refl → Ya, zero_le → Yj, le_trans → Yn, lt_of_lt_of_le → Y5, pow_le_pow_right → Y6, testBit_lt_two_pow → Y7, eq_of_testBit_eq → Yra, or_lt_two_pow → Ysa
open Bool renaming and_eq_true → Yb, not_true → Yo, false_ne_true → Y8, not_eq_true' → Y9, not_false → Yaa, or_eq_false_iff → Yba, true_and → Yca
open List renaming getElem_mem → Yc, length_append → Yd, take_length → Ye, getD_eq_getElem?_getD → Yf, getElem?_eq_getElem → Yi, length_nil → Ym, all_eq_true → Yp, length_cons → Yq, mem_iff_getElem → Yr, mem_map → Ys, mem_range → Yt, take_of_length_le → Yu, length_take → Yv, mem_filter → Yw, pairwise_map → Yx, map_append → Y0, mem_or_eq_of_mem_set → Y1, mem_singleton → Y2, pairwise_iff_getElem → Y3, range → Y4, any_eq_false → Yda, foldl_append → Yea, getElem?_eq_none → Yfa, length_map → Yga, length_set → Yha, length_singleton → Yia, mem_append → Yja, mem_cons_of_mem → Yka, mem_cons_self → Yla, mem_of_getLast? → Yma, mem_of_mem_take → Yna, mem_take_iff_getElem → Yoa, nodup_nil → Ypa, take_succ_eq_append_getElem → Yqa
open Int renaming toNat_natCast → Yg
open Go.IntKind renaming wrap → Yh
open Option renaming bind_some → Yk, bind → Yy
open BitVec renaming ofInt → Yl, getLsbD → Yz
namespace Go.Proofs.Qz
open Go
set_option linter.unusedVariables false
theorem Zigb (a:Nat) (ha:a<16777216):intBits .andNot .i64 16777215 (a:Int)=((16777215 ^^^ a:Nat):Int):=by
 have h0:(Yl 64 (a:Int)).toNat=a:=by
  rw [BitVec.toNat_ofInt];omega
 have h1:(Yl 64 16777215 &&& ~~~ Yl 64 (a:Int)).toNat=16777215 ^^^ a:=by
  refine Yra fun i=>?_
  rw [← Yz,BitVec.getLsbD_and,BitVec.getLsbD_not,Nat.testBit_xor,Yz,Yz,h0];have h5:(Yl 64 16777215).toNat=16777215:=rfl;rw [h5]
  by_cases hi:i<24
  ·rw [Zgcb hi,Xa (by omega:i<64)]
   cases a.testBit i <;> rfl
  ·have q1:(16777215:Nat).testBit i=false:=Y7 (Y5 (by decide:16777215<2^24) (Y6 (by omega) (by omega)))
   have q2:a.testBit i=false:=Y7 (Y5 (show a<2^24 by simpa using ha) (Y6 (by omega) (by omega)));rw [q1,q2];simp
 have hlt:16777215 ^^^ a<2^24:=Nat.xor_lt_two_pow (by omega) (by simpa using ha)
 have hlt:16777215 ^^^ a<16777216:=by simpa using hlt
 unfold intBits
 show Yh .i64 (((Yl 64 16777215 &&& ~~~ Yl 64 (a:Int)).toNat:Nat):Int)=_
 rw [h1]
 exact w64 (by omega) (by omega)
theorem Z6jb (v w:Nat) (hv:v<16777216) (hw:w<16777216) {k:Nat} (hk:24<k):Zbp k (Zb v) (Zb w)=some (Zb (Zyb v w)):=by
 have ho:v ||| w<16777216:=by
  have:v ||| w<2^24:=Ysa (by simpa using hv) (by simpa using hw);simpa using this
 unfold Zbp
 refine Za (Z0o v hv k hk) (Za (Z0o w hw k hk) ?_)
 rw [ori v w (by omega) (by omega),Zigb _ ho]
 exact Za (Z1y _ (Zvv hv hw) k hk) rfl
theorem Z3db (v w:Nat) {k:Nat} (hk:100<k):Z7d k (Zb v) (Zb w)=some (Zb (Zyb v w)):=by
 have hlv:=Z7c v
 have hlw:=Z7c w
 have run:=Zrb (fun j i=>Z7d.l0 k j (Zb v) (Zb w) (i:Int) ((Zub (Zyb v w) i).map fun n=>((n:Nat):Int))) 24 (Zb (Zyb v w)) (fun i hi j=>?_) (fun j=>?_) k (by omega)
 ·have run:Z7d.l0 k k (Zb v) (Zb w) 0 []=some (Zb (Zyb v w)):=run
  unfold Z7d;exact Za run rfl
 ·have hn:=Z5x (Zyb v w) i
  have m1:decide (((i:Nat):Int)∈Zb v)=v.testBit i:=by
   cases hb:v.testBit i with
   | true=>exact Xa (Z2n.2 ⟨hi,hb⟩)
   | false=>exact Xb fun q=>by rw [(Z2n.1 q).2] at hb;cases hb
  have m2:decide (((i:Nat):Int)∈Zb w)=w.testBit i:=by
   cases hb:w.testBit i with
   | true=>exact Xa (Z2n.2 ⟨hi,hb⟩)
   | false=>exact Xb fun q=>by rw [(Z2n.1 q).2] at hb;cases hb
  conv=>lhs;unfold Z7d.l0
  rw [Xa (by omega:(i:Int)<24),Zn (by omega),Xe,Zfr,Zt3 hi];refine Za (Zt0 _ _ (by omega) k (by omega)) ?_;rw [m1];cases v.testBit i with
  | true=>rfl
  | false=>
   simp only [Yaa,Xe,Yca];refine Za (Zt0 _ _ (by omega) k (by omega)) ?_;rw [m2];cases w.testBit i with
   | true=>rfl
   | false=>
    simp only [Yaa,Xe,if_true];refine Za (Z4 (by simp;omega)) ?_;rw [Y0];rfl
 ·conv=>lhs;unfold Z7d.l0
  rfl
theorem Zfpb (l:List Zog) (x y:Zog):(l++[x]).set l.length y=l++[y]:=by
 rw [List.set_append_right _ _ (Ya _),Nat.sub_self]
 rfl
theorem Zh4 {acc:List Zog} {e:Zog} (h:acc.getLast? = some e):acc=acc.dropLast++[e]∧at? acc (((acc.length-1:Nat)):Int)=some e∧0<acc.length:=by
 have h1:acc=acc.dropLast++[e]:=by
  rw [List.getLast?_eq_some_iff] at h;obtain ⟨l,rfl⟩:=h;rw [List.dropLast_concat]
 have h2:0<acc.length:=by rw [h1];simp
 refine ⟨h1,?_,h2⟩
 rw [Zi (by omega)]
 rw [List.getLast?_eq_getElem?] at h
 rw [Yi (by omega)] at h
 exact h
theorem Zq7 {acc:List Zog} {e:Zog} (h:acc.getLast? = some e) (n:Int):Zcm acc n=if e.1+e.2=n then acc.set (acc.length-1) (e.1,e.2+1) else acc++[(n,1)]:=by
 have h1:=(Zh4 h).1
 unfold Zcm
 rw [h]
 dsimp only
 split
 ·generalize acc.dropLast=d at h1
  subst h1;rw [Yd,Yia,Nat.add_sub_cancel,Zfpb]
 ·rfl
theorem Zb6 {v:Nat} {i:Nat} {e:Zog} (h:e∈Zeb ((Zb v).take i)):0≤e.1∧1≤e.2∧e.1+e.2≤24:=by
 obtain ⟨h1,h2⟩:=Zydb _ e h
 have lim:∀x∈(Zb v).take i,0≤x∧x≤23:=fun x hx=>by
  obtain ⟨j,hj,rfl⟩:=Yr.1 (Yna hx);exact Zyj hj
 have:=lim _ (h2 e.1 (Int.le_refl _) (by omega))
 have:=lim _ (h2 (e.1+e.2-1) (by omega) (by omega))
 omega
theorem Zokb (v:Nat) {k:Nat} (hk:100<k):Zre k (Zb v)=some (Zeb (Zb v)):=by
 have hlv:=Z7c v
 have run:=Zrb (fun j i=>Zre.l0 j (Zb v) ((Zb v).length:Int) (i:Int) (Zeb ((Zb v).take i))) (Zb v).length (Zeb (Zb v)) (fun i hi j=>?_) (fun j=>?_) k (by omega)
 ·have run:Zre.l0 k (Zb v) ((Zb v).length:Int) 0 []=some (Zeb (Zb v)):=run
  unfold Zre;exact Za run rfl
 ·have hrl:=Zn0 (Zb v) i
  have hx:=Zyj hi
  conv=>lhs;unfold Zre.l0
  rw [dlt hi,Zn (by omega),Xe,Zo0 hi];refine Za (Zi hi) ?_;dsimp only;rw [w64 (n:=((Zeb ((Zb v).take i)).length:Int)-1) (by omega) (by omega)];cases hl:(Zeb ((Zb v).take i)).getLast? with
  | none=>
   have he:Zeb ((Zb v).take i)=[]:=List.getLast?_eq_none_iff.1 hl;rw [he];have ha:Zs 16 ([]:List Zog) [((Zb v)[i],1)]=some [((Zb v)[i],1)]:=Z4 (by simp only [Ym,Yia];omega);exact Za ha rfl
  | some e=>
   obtain ⟨h1,h2,h3⟩:=Zh4 hl;have hr:=Zb6 (v:=v) (i:=i) (e:=e) (Yma hl)
   have hat:at? (Zeb ((Zb v).take i)) (((Zeb ((Zb v).take i)).length:Int)-1)=some e:=by
    have q:((Zeb ((Zb v).take i)).length:Int)-1=(((Zeb ((Zb v).take i)).length-1:Nat):Int):=by omega
    rw [q];exact h2
   rw [Xa (by omega:(0:Int)≤((Zeb ((Zb v).take i)).length:Int)-1),Xe];refine Za hat (Za hat (Za hat (Za hat ?_)));rw [w64 (n:=e.1+e.2) (by omega) (by omega),Zq7 hl]
   by_cases c:e.1+e.2=(Zb v)[i]
   ·rw [Xc c,show (e.1+e.2==(Zb v)[i])=true by simpa using c,Xe]
    refine Za hat (Za hat (Za hat (Za hat ?_)));rw [w64 (n:=e.2+1) (by omega) (by omega),show (((Zeb ((Zb v).take i)).length:Int)-1).toNat=(Zeb ((Zb v).take i)).length-1 by omega]
   ·rw [Xd c,show (e.1+e.2==(Zb v)[i])=false by simpa using c,Xf]
    exact Za (Z4 (by simp;omega)) rfl
 ·conv=>lhs;unfold Zre.l0
  rw [Zv (Ya _),Ye];rfl
theorem Zrob (v:Nat) {k:Nat} (hk:100<k):Zxe k (Zb v)=some (Zeb (Zb v)):=by
 have hlv:=Z7c v
 have run:=Zrb (fun j i=>Zxe.l0 j (Zb v) (i:Int) (Zeb ((Zb v).take i))) (Zb v).length (Zeb (Zb v)) (fun i hi j=>?_) (fun j=>?_) k (by omega)
 ·have run:Zxe.l0 k (Zb v) 0 []=some (Zeb (Zb v)):=run
  unfold Zxe;exact Za run rfl
 ·have hrl:=Zn0 (Zb v) i
  have hx:=Zyj hi
  conv=>lhs;unfold Zxe.l0
  rw [dlt hi,Zn (by omega),Xe,Zo0 hi];dsimp only
  by_cases h0:i=0
  ·subst h0
   rw [show decide (0<((0:Nat):Int))=false from rfl,Xf];refine Za (Zi hi) (Za (Z4 (by simp [Zeb])) ?_);rfl
  ·rw [Xa (by omega:(0:Int)<(i:Int)),Xe]
   obtain ⟨p,rfl⟩:∃p,i=p+1:=⟨i-1,by omega⟩;have hp:p<(Zb v).length:=by omega
   have hy:=Zyj hp;obtain ⟨e,hl,he⟩:=Zpnb p hp;obtain ⟨h1,h2,h3⟩:=Zh4 hl;have hr:=Zb6 (v:=v) (i:=p+1) (e:=e) (Yma hl)
   have hat:at? (Zeb ((Zb v).take (p+1))) (((Zeb ((Zb v).take (p+1))).length:Int)-1)=some e:=by
    have q:((Zeb ((Zb v).take (p+1))).length:Int)-1=(((Zeb ((Zb v).take (p+1))).length-1:Nat):Int):=by omega
    rw [q];exact h2
   rw [show Yh .i64 (((p+1:Nat):Int)-1)=((p:Nat):Int) by rw [w64 (by omega) (by omega)];omega];refine Za (Zi hp) (Za (Zi hi) ?_);rw [w64 (n:=(Zb v)[p]+1) (by omega) (by omega),Zq7 hl,he]
   by_cases c:(Zb v)[p]+1=(Zb v)[p+1]
   ·rw [Xc c,show ((Zb v)[p]+1==(Zb v)[p+1])=true by simpa using c,Xe,w64 (n:=((Zeb ((Zb v).take (p+1))).length:Int)-1) (by omega) (by omega)]
    refine Za hat (Za hat (Za hat (Za hat ?_)));rw [w64 (n:=e.2+1) (by omega) (by omega),show (((Zeb ((Zb v).take (p+1))).length:Int)-1).toNat=(Zeb ((Zb v).take (p+1))).length-1 by omega]
   ·rw [Xd c,show ((Zb v)[p]+1==(Zb v)[p+1])=false by simpa using c,Xf]
    exact Za (Zi hi) (Za (Z4 (by simp;omega)) rfl)
 ·conv=>lhs;unfold Zxe.l0
  rw [Zv (Ya _),Ye];rfl
def Zh3:List (Nat×Nat):=(Y4 24).flatMap fun a=>(Y4 (24-a)).map fun n=>(a,n+1)
theorem Zrlb (m:Nat):(Zh3.all fun p=>decide (Zcc (m+60) [((p.1:Int),(p.2:Int))]=some (Zvh (p.1:Int) p.2,0)))=true:=by kernel_rfl
theorem Zfob {a n:Nat} (h1:1≤n) (h:a+n≤24) {k:Nat} (hk:60≤k):Zcc k [((a:Int),(n:Int))]=some (Zvh (a:Int) n,0):=by
 obtain ⟨m,rfl⟩:∃m,k=m+60:=⟨k-60,by omega⟩
 have hm:(a,n)∈Zh3:=by
  unfold Zh3;rw [List.mem_flatMap];refine ⟨a,Yt.2 (by omega),?_⟩;rw [Ys];exact ⟨n-1,Yt.2 (by omega),by rw [Nat.sub_add_cancel h1]⟩
 exact of_decide_eq_true (Yp.1 (Zrlb m) _ hm)
theorem Zcpb (a:Int) (n:Nat):Zvh a (n+1)=Zvh a n++[a+(n:Int)]:=by
 unfold Zvh
 rw [List.range_succ,Y0]
 rfl
theorem Z40 (a:Int) (n:Nat):(Zvh a n).length=n:=by simp [Zvh]
theorem iSeq {a n:Nat} (h:a+n≤24) (z:Int) {k:Nat} (hk:60≤k):Z2b.l0 k (n:Int) 0 (a:Int) z []=some ((a:Int),z,Zvh (a:Int) n):=by
 have run:=Zrb (fun j i=>Z2b.l0 j (n:Int) (i:Int) (a:Int) z (Zvh (a:Int) i)) n ((a:Int),z,Zvh (a:Int) n) (fun i hi j=>?_) (fun j=>?_) k (by omega)
 ·exact run
 ·conv=>lhs;unfold Z2b.l0
  rw [dlt hi,w64 (n:=(a:Int)+(i:Int)) (by omega) (by omega),Zn (by omega),Xe];refine Za (Z4 (by rw [Z40];simp;omega)) ?_;rw [Zcpb]
 ·conv=>lhs;unfold Z2b.l0
  rw [Zv (Ya _)];rfl
def Zyz (r:Option (List Int)) (c:Int):List Int×Int:=match r with
 | some l=>(l,0)
 | none=>([],c)
theorem Zwdb {v:Nat} {e:Zog} (h:e∈Zeb (Zb v)):∃a c:Nat,e=((a:Int),(c:Int))∧1≤c∧a+c≤24:=by
 have:=Zb6 (v:=v) (i:=(Zb v).length) (e:=e) (by rw [Ye];exact h)
 exact ⟨e.1.toNat,e.2.toNat,Prod.ext (by show e.1=_;omega) (by show e.2=_;omega),by omega,by omega⟩
theorem Zzdb (v:Nat):(Zeb (Zb v)).length≤24:=by
 have:=Zn0 (Zb v) (Zb v).length
 rw [Ye] at this
 have:=Z7c v
 omega
theorem Z52 {α:Type} {l:List α} {n:Nat} (h:n≤l.length):Zob l 0 (n:Int)=some (l.take n):=by
 have:=Znf (l:=l) (i:=0) (j:=n) (by omega) h
 rw [List.drop_zero] at this
 exact this
theorem Z1ab (v w n:Nat) (hv:v<16777216) (hw:w<16777216) (h1:1≤n) {k:Nat} (hk:200≤k):Z2b k (Zb v) (Zb w) (n:Int)=some (match Zgh (Zyb v w) (n:Int) with
  | some l=>(l,true)
  | none=>([],false)):=by
 have hz:Z8j (Zb (Zyb v w))=some ((Zb (Zyb v w)).length:Int):=rfl
 have hrl:=Zzdb (Zyb v w)
 unfold Z2b Zgh
 refine Za (Z6jb v w hv hw (by omega)) (Za hz ?_)
 by_cases c:((Zb (Zyb v w)).length:Int)<(n:Int)
 ·rw [Xa c,Xc c]
  rfl
 ·rw [Xb c,Xd c,Xf]
  refine Za (Zokb _ (by omega)) ?_;have run:=Zrh (fun j i=>Z2b.l1 k j (n:Int) ((Zeb (Zb (Zyb v w))).length:Int) i (Zeb (Zb (Zyb v w)))) (Zeb (Zb (Zyb v w))) (fun e=>decide ((n:Int)≤e.2)) (.inl ()) (fun i=>.inr (true,Zvh ((Zeb (Zb (Zyb v w))).getD i (0,0)).1 n)) (fun i hi=>⟨fun hp j=>?_,fun hp j=>?_⟩) (fun j=>?_) (k:=k) (by omega)
  ·have run:Z2b.l1 k k (n:Int) ((Zeb (Zb (Zyb v w))).length:Int) 0 (Zeb (Zb (Zyb v w)))=_:=run
   refine Za run ?_;cases Zsb (fun (e:Zog)=>decide ((n:Int)≤e.2)) (Zeb (Zb (Zyb v w))) 0 with
   | none=>exact Za (Z52 (by omega)) rfl
   | some i=>rfl
  ·show Z2b.l1 k (j+1) (n:Int) _ (i:Int) _=Z2b.l1 k j (n:Int) _ ((i+1:Nat):Int) _
   conv=>lhs;unfold Z2b.l1
   rw [dlt hi,Zn (by omega),Xe];refine Za (Zi hi) (Za (Zi hi) ?_);rw [hp];rfl
  ·show Z2b.l1 k (j+1) (n:Int) _ (i:Int) _=_
   obtain ⟨a,q,he,q1,q2⟩:=Zwdb (Yc hi)
   have hd:(Zeb (Zb (Zyb v w))).getD i (0,0)=((a:Int),(q:Int)):=by
    rw [Yf,Yi hi];exact he
   have hp':=of_decide_eq_true hp;rw [he] at hp';have hp':(n:Int)≤(q:Int):=hp'
   conv=>lhs;unfold Z2b.l1
   rw [dlt hi,Zn (by omega),Xe];refine Za (Zi hi) (Za (Zi hi) ?_);rw [hp,Xe,he,hd];exact Za (iSeq (by omega) _ (by omega)) rfl
  ·show Z2b.l1 k (j+1) (n:Int) _ _ _=_
   unfold Z2b.l1;rw [Zv (Ya _)];rfl
theorem Zeeb (v w n:Nat) (hv:v<16777216) (hw:w<16777216) (h1:1≤n) {k:Nat} (hk:200≤k):Z4c k (Zb v) (Zb w) (n:Int)=some (Zyz (Zgh (Zyb v w) (n:Int)) 11):=by
 have hrl:=Zzdb (Zyb v w)
 unfold Z4c Zgh
 refine Za (Z3db v w (by omega)) ?_
 by_cases c:((Zb (Zyb v w)).length:Int)<(n:Int)
 ·rw [Xa c,Xc c]
  rfl
 ·rw [Xb c,Xd c,Xf]
  refine Za (Zrob _ (by omega)) ?_;have run:=Zrh (fun j i=>Z4c.l0 k j (n:Int) i 0 (Zeb (Zb (Zyb v w))) []) (Zeb (Zb (Zyb v w))) (fun e=>decide ((n:Int)≤e.2)) (.inl (0,[])) (fun i=>.inr (Zvh ((Zeb (Zb (Zyb v w))).getD i (0,0)).1 n,0)) (fun i hi=>⟨fun hp j=>?_,fun hp j=>?_⟩) (fun j=>?_) (k:=k) (by omega)
  ·have run:Z4c.l0 k k (n:Int) 0 0 (Zeb (Zb (Zyb v w))) []=_:=run
   refine Za run ?_;cases Zsb (fun (e:Zog)=>decide ((n:Int)≤e.2)) (Zeb (Zb (Zyb v w))) 0 with
   | none=>exact Za (Z52 (by omega)) rfl
   | some i=>rfl
  ·show Z4c.l0 k (j+1) (n:Int) (i:Int) _ _ _=Z4c.l0 k j (n:Int) ((i+1:Nat):Int) _ _ _
   conv=>lhs;unfold Z4c.l0
   rw [dlt hi,Zn (by omega),Xe];refine Za (Zi hi) (Za (Zi hi) ?_);rw [hp];rfl
  ·show Z4c.l0 k (j+1) (n:Int) (i:Int) _ _ _=_
   obtain ⟨a,q,he,q1,q2⟩:=Zwdb (Yc hi)
   have hd:(Zeb (Zb (Zyb v w))).getD i (0,0)=((a:Int),(q:Int)):=by
    rw [Yf,Yi hi];exact he
   have hp':=of_decide_eq_true hp;rw [he] at hp';have hp':(n:Int)≤(q:Int):=hp'
   have hmax:Ztq 1 (n:Int)=some (n:Int):=by
    unfold Ztq
    by_cases c1:(n:Int)<1
    ·omega
    ·rw [Xb c1]
     rfl
   conv=>lhs;unfold Z4c.l0
   rw [dlt hi,Zn (by omega),Xe];refine Za (Zi hi) (Za (Zi hi) ?_);rw [hp,Xe];refine Za (Zi hi) (Za (Zi hi) (Za hmax ?_));rw [he,hd];refine Za (Zfob h1 (by omega) (by omega)) ?_
   have hc:Zob (Zvh (a:Int) n) 0 (n:Int)=some (Zvh (a:Int) n):=by
    rw [Z52 (by rw [Z40];exact Ya _),Yu (by rw [Z40];exact Ya _)]
   exact Za hc rfl
  ·show Z4c.l0 k (j+1) (n:Int) _ _ _ _=_
   unfold Z4c.l0;rw [Zv (Ya _)];rfl
abbrev Zgg:=Int×Int×Int×Str×Zk
def Ztu (s:Zk):Bool:=decide (s.1=0)&&(decide (s.2.1=0)&&(decide (s.2.2.1=0)&&(s.2.2.2==[])))
def Z0j (c:Zgg):Bool:=if c.1=1 then (decide (1≤c.2.1)&&decide (c.2.1≤20))&&(decide (0≤c.2.2.1)&&decide (c.2.2.1≤4))&&decide ((c.2.2.2.1.length:Int)=32)&&Ztu c.2.2.2.2 else if c.1=2 then decide (c.2.1=0)&&decide (c.2.2.1=0)&&(c.2.2.2.1==[])&&Zgd c.2.2.2.2.1 c.2.2.2.2.2.1 c.2.2.2.2.2.2.1 c.2.2.2.2.2.2.2 8 else if c.1=9 then (decide (1≤c.2.1)&&decide (c.2.1≤24))&&decide (c.2.2.1=0)&&(c.2.2.2.1==[])&&Ztu c.2.2.2.2 else if c.1=7 then (decide (0≤c.2.1)&&decide (c.2.1≤1000000))&&decide (c.2.2.1=0)&&(c.2.2.2.1==[])&&Ztu c.2.2.2.2 else (decide (1≤c.1)&&decide (c.1≤11))&&decide (c.2.1=0)&&decide (c.2.2.1=0)&&(c.2.2.2.1==[])&&Ztu c.2.2.2.2
theorem iCmd (c:Zgg):Zep c=some (Z0j c):=by
 obtain ⟨o,a,b,t,s⟩:=c
 have hs:Zoc s 8=some (Zgd s.1 s.2.1 s.2.2.1 s.2.2.2 8):=Z9y s.1 s.2.1 s.2.2.1 s.2.2.2 8 (by decide) (by decide)
 unfold Zep Z0j Ztu
 simp only [Zhb,Zli,Yk,hs,Zfi]
 generalize (decide (s.1=0)&&(decide (s.2.1=0)&&(decide (s.2.2.1=0)&&(s.2.2.2==[]))))=Z
 generalize (t==([]:Str))=E
 generalize Zgd s.1 s.2.1 s.2.2.1 s.2.2.2 8=S
 by_cases c1:o=1
 ·subst c1;simp
 by_cases c2:o=2
 ·subst c2;simp
 by_cases c9:o=9
 ·subst c9;simp
 by_cases c7:o=7
 ·subst c7;simp
 simp [c1,c2,c9,c7]
theorem Ze6 (c:Zgg):Zmq c=some (Z0j c):=by
 obtain ⟨o,a,b,t,s⟩:=c
 have hs:Z7h s 8=some (Zgd s.1 s.2.1 s.2.2.1 s.2.2.2 8):=Zz0 s.1 s.2.1 s.2.2.1 s.2.2.2 8 (by decide) (by decide)
 unfold Zmq Z0j Ztu
 simp only [Zfb,Yk,hs,bne,Zfi]
 generalize (decide (s.1=0)&&(decide (s.2.1=0)&&(decide (s.2.2.1=0)&&(s.2.2.2==[]))))=Z
 generalize (t==([]:Str))=E
 generalize Zgd s.1 s.2.1 s.2.2.1 s.2.2.2 8=S
 generalize decide ((t.length:Int)=32)=W
 by_cases c1:o=1
 ·subst c1
  generalize (decide (1≤a)&&decide (a≤20))=P;generalize (decide (0≤b)&&decide (b≤4))=Q;cases P <;> cases Q <;> cases W <;> cases Z <;> simp
 by_cases c2:o=2
 ·subst c2
  generalize decide (a=0)=P;generalize decide (b=0)=Q;cases P <;> cases Q <;> cases E <;> cases S <;> simp
 by_cases c9:o=9
 ·subst c9
  generalize (decide (1≤a)&&decide (a≤24))=P;generalize decide (b=0)=Q;cases P <;> cases Q <;> cases E <;> cases Z <;> simp
 by_cases c7:o=7
 ·subst c7
  generalize (decide (0≤a)&&decide (a≤1000000))=P;generalize decide (b=0)=Q;cases P <;> cases Q <;> cases E <;> cases Z <;> simp
 simp only [Xb c1,Xb c2,Xb c9,Xb c7,Xd c1,Xd c2,Xd c9,Xd c7]
 generalize decide (a=0)=P
 generalize decide (b=0)=Q
 generalize (decide (1≤o)&&decide (o≤11))=R
 cases P <;> cases Q <;> cases E <;> cases Z <;> cases R <;> simp
abbrev Z7l:=List Zjf×Str×List Int×Int
def Zof (c:Int):Z7l:=([],([],([],c)))
def Z3i (l:List Zjf):Z7l:=(l,([],([],0)))
theorem Zxfb (a b:Str):(Zn1 a b).length=8:=by simp [Zn1,Znb]
theorem Zvmb {l:List Zk} {n:Int} (h:Zdb l n=0):∀x∈Zh l,x.1=2→x.2.2.2.length=8:=by
 intro x hx h2
 obtain ⟨_,h1,_,hs,_⟩:=Z7f h
 unfold Zh at hx
 have hs:=hs x (Yw.1 hx).1
 unfold Zmg Zgd at hs
 rw [Xd (by omega),Xc h2] at hs
 simp only [Yb,decide_eq_true_eq] at hs
 omega
theorem Z2lb {x:Zk} {n:Int} (h:WriteOk x n) (h2:x.1=2→x.2.2.2.length=8) {s:Str} (hs:s.length=8):(Zfh x s).length=8:=by
 unfold Zfh
 split
 ·rfl
 ·split
  ·rename_i q
   exact h2 q
  ·split
   ·exact hs
   ·have:x.2.2.2.length=8:=by rcases h.kind with q | q | q | q;omega;omega;omega;exact q.2
    unfold Zys;rw [Xc ⟨hs,this⟩];exact Zxfb _ _
theorem Z47 {base:List Str} {l:List Zk} {n:Int} (hc:Zdb l n=0) (hb:(base.length:Int)=n) (hi:Zki base=true):Zki (Zne base l)=true:=by
 obtain ⟨h1,h8,hs⟩:=Zzv hi
 have hl:(Zne base l).length=base.length:=Zyh _ _ _ _
 unfold Zki
 rw [hl,Xa h1,Xa h8]
 show (true&&(Zne base l).all Zwk)=true
 rw [Yca]
 refine Yp.2 fun s hm=>?_
 obtain ⟨b,hb1,rfl⟩:=Yr.1 hm
 rw [hl] at hb1
 have hg:(base.getD b []).length=8:=hs _ (Zu3 hb1)
 have:((Zne base l)[b]'(by rw [hl];exact hb1)).length=8:=by
  unfold Zne;rw [Z5q hb1];cases hf:(Zh l).find? (fun x=>x.2.1==(b:Int)) with
  | none=>exact hg
  | some x=>
   have hx:=List.mem_of_find?_eq_some hf;have hw:=Zsu hc x hx;have hsrc:=hw.src;exact Z2lb hw (Zvmb hc x hx) (hs _ (Zu3 (by omega)))
 unfold Zwk
 exact Xa this
def Z5l (m:Zr) (ph st dn:Int) (w:Nat):List Str:=if ph=4 then Zne (Zxb m) (Zc m st w) else if ph=5 then Zxs m st dn w else Zxb m
section
variable {m:Zr} {ph tr nd st dn:Int} {dg:Str} {v w:Nat}
theorem MSt.base8 (h:MSt m ph tr nd st dn dg v w):∀s∈Zxb m,s.length=8:=(Zzv h.img).2.2
theorem MSt.base (h:MSt m ph tr nd st dn dg v w):((Zxb m).length:Int)=m.1:=by
 have:=h.fit.b
 rw [Z3x]
 omega
theorem Zsfb (h:MSt m ph tr nd st dn dg v w):((Z5l m ph st dn w).length:Int)=m.1:=by
 have:=h.base
 unfold Z5l Zne Zxs
 split
 ·rw [Zyh];exact this
 ·split
  ·rw [Zyh];exact this
  ·exact this
theorem Z3kb (hs:stM m=some (ph,(tr,(nd,(st,(dn,(dg,(v,w)))))))) (h:MSt m ph tr nd st dn dg v w):Ze fun k=>Zqe k m=some (Z5l m ph st dn w):=by
 have hf:=h.fit
 have hb:=hf.b
 have hn:=hf.n
 have hdr:=hf.dirt
 have hl:m.2.1.length≤1048576:=by omega
 have hfl:=(Zyo hf.f).1
 have pre:Ze fun k=>Zqh k m=some (Zas (some (ph,tr,nd,st,dn,dg,v,w))):=by rw [← hs];exact Z8y m hl (by omega)
 have hll:=h.log
 have hplan:Ze fun k=>Zdb (Zc m st w) m.1=0→Zmb k (Zc m st w)=some (Zg (Zc m st w)):=if hc:Zdb (Zc m st w) m.1=0 then (Znt (Zc m st w) (Z7f hc).1 (Z7i hc)).mono fun k e _=>e else Ze.of fun k q=>absurd q hc
 refine (((pre.and (Zyv ph tr nd st dn dg (Zb v) hf)).and hplan).and (Ze.ge 1048577 fun k hk=>hk)).mono fun k ⟨⟨⟨e1,e2⟩,e3⟩,hk⟩=>?_
 unfold Zqe Z5l
 refine Za e1 (Za (Z23 (m:=m) ⟨by omega,hb.2⟩ (by omega) (by omega) hk) (Za e2 ?_))
 show (bif ph==4 then _ else _)=_
 by_cases c4:ph=4
 ·have hS:=h.snd (by omega)
  rw [Xc c4,show (ph==4)=true by simpa using c4,Xe];exact Za (Zuab hS.code h.base h.base8 (by omega)) rfl
 ·rw [Xd c4,show (ph==4)=false by simpa using c4,Xf]
  show (bif ph==5 then _ else _)=_
  by_cases c5:ph=5
  ·have hS:=h.snd (by omega)
   rw [Xc c5,show (ph==5)=true by simpa using c5,Xe];exact Za (e3 hS.code) (Za (Zbz _ (by omega) k (by omega)) (Za (Z4kb hS ph tr nd dg (Zb v) hk) rfl))
  ·rw [Xd c5,show (ph==5)=false by simpa using c5]
   rfl
theorem Zx0 (h:MSt m ph tr nd st dn dg v w) (h3:3≤ph):Ze fun k=>Ztj k m (ph,(tr,(nd,(st,(dn,(dg,(Zb v,Zb w)))))))=some (Zg (Zc m st w)):=by
 refine ((Zgq ph tr nd st dn dg (Zb v) h.fit).and (Zceb _ _ (h.snd h3).code)).mono fun k ⟨e1,e2⟩=>?_
 unfold Ztj
 exact Za e1 (Za e2 rfl)
theorem Zbkb (h:MSt m ph tr nd st dn dg v w) (h3:3≤ph):Ze fun k=>Zsn k m (ph,(tr,(nd,(st,(dn,(dg,(Zb v,Zb w)))))))=some (Zg (Zc m st w)):=by
 have hc:=(h.snd h3).code
 refine (((Zyv ph tr nd st dn dg (Zb v) h.fit).and (Zaz (Zc m st w) m.1 (by have:=Ziz m st w;omega))).and (Znt _ (Z7f hc).1 (Z7i hc))).mono fun k ⟨⟨e1,e2⟩,e3⟩=>?_
 unfold Zsn
 refine Za e1 (Za e2 ?_)
 rw [hc]
 exact Za e3 rfl
theorem Z5ob (h:MSt m ph tr nd st dn dg v w):Ze fun k=>Z1e k m (ph,(tr,(nd,(st,(dn,(dg,(Zb v,Zb w)))))))=some (Z5l m ph st dn w):=by
 have hf:=h.fit
 have hb:=hf.b
 have hn:=hf.n
 have hdr:=hf.dirt
 have hll:=h.log
 have hmv:Ze fun k=>3≤ph→Ztj k m (ph,(tr,(nd,(st,(dn,(dg,(Zb v,Zb w)))))))=some (Zg (Zc m st w)):=if h3:3≤ph then (Zx0 h h3).mono fun k e _=>e else Ze.of fun k q=>absurd q h3
 refine ((((Zgq ph tr nd st dn dg (Zb v) hf).and (Zgeb (l:=Zc m st w) h.img (by omega))).and hmv).and (Ze.ge 1048577 fun k hk=>hk)).mono fun k ⟨⟨⟨e2,e3⟩,e4⟩,hk⟩=>?_
 unfold Z1e Z5l
 refine Za (Zd6 (m:=m) ⟨by omega,hb.2⟩ (by omega) (by omega) hk) (Za e2 ?_)
 show (bif ph==4 then _ else _)=_
 by_cases c4:ph=4
 ·have hS:=h.snd (by omega)
  rw [Xc c4,show (ph==4)=true by simpa using c4,Xe];rw [h.base,Xc hS.code] at e3;exact Za e3 rfl
 ·rw [Xd c4,show (ph==4)=false by simpa using c4,Xf]
  show (bif ph != 5 then _ else _)=_
  by_cases c5:ph=5
  ·have hS:=h.snd (by omega)
   rw [Xc c5,show (ph != 5)=false by simpa using c5,Xf];have hbl:=Z3x m;exact Za (e4 (by omega)) (Za (Zn6 _ (by omega) k (by omega)) (Za (Z4 (by simp;omega)) (Za (Z6ob hS ph tr nd dg (Zb v) hk) rfl)))
  ·rw [Xd c5,show (ph != 5)=true by simpa using c5]
   rfl
end
def Zrg (l:List Int):Nat:=orP (l.map Int.toNat)
theorem Zk8 {u:Nat} (h:u<16777216):Zrg (Zb u)=u:=by
 have e:(Zb u).map Int.toNat=Zub u 24:=by
  unfold Zb;rw [List.map_map];exact List.map_id' _
 unfold Zrg
 rw [e]
 refine Yra fun i=>?_
 rw [Zxz]
 by_cases hi:i<24
 ·cases hb:u.testBit i with
  | true=>exact Xa (by unfold Zub;rw [Yw,Yt];exact ⟨hi,hb⟩)
  | false=>exact Xb fun q=>by rw [(Z4s q).2] at hb;cases hb
 ·rw [Y7 (Y5 (show u<2^24 by simpa using h) (Y6 (by omega) (by omega)))]
  exact Xb fun q=>hi (Z4s q).1
theorem Z88 {v w:Nat} (h:v &&& w=0):∀n,n≤24→(Zub v n).length+(Zub w n).length+(Zub (Zyb v w) n).length=n
 | 0,_=>by simp [Zub]
 | n+1,hn=>by
  have ih:=Z88 h n (by omega);have hb:(v &&& w).testBit n=false:=by rw [h];exact Nat.zero_testBit n
  rw [Nat.testBit_and] at hb;rw [Zfr,Zfr,Zfr,Zt3 (by omega)];cases h1:v.testBit n <;> cases h2:w.testBit n <;> simp only [h1,h2] at hb ⊢
  ·simp;omega
  ·simp;omega
  ·simp;omega
  ·cases hb
theorem Zlhb {v w:Nat} (h:v &&& w=0):(Zb v).length+(Zb w).length+(Zb (Zyb v w)).length=24:=by
 have:=Z88 h 24 (Ya _)
 unfold Zb
 simp only [Yga]
 exact this
def Zbi (m:Zr) (l:List Int):List Zjf:=l.map fun x=>(false,(3+m.1+x,[]))
section
variable {m:Zr} {ph tr nd st dn:Int} {dg:Str} {v w:Nat}
theorem Zwfb {l:List Int} {i:Nat} (h:i<l.length):Zbi m (l.take (i+1))=Zbi m (l.take i)++[(false,(3+m.1+l[i],[]))]:=Zbfb _ h
theorem Z7kb (h:Fit m st w) (l:List Int) (hl:l.length≤24) (hx:∀x∈l,0≤x∧x≤23) {k:Nat} (hk:100≤k):Zpe.l0 k m.1 m.2.1 m.2.2 l (l.length:Int) 0 []=some (Zbi m l):=by
 have run:=Zrb (fun j i=>Zpe.l0 j m.1 m.2.1 m.2.2 l (l.length:Int) (i:Int) (Zbi m (l.take i))) l.length (Zbi m l) (fun i hi j=>?_) (fun j=>?_) k (by omega)
 ·exact run
 ·have hr:=hx _ (Yc hi)
  conv=>lhs;unfold Zpe.l0
  rw [dlt hi,Zn (by omega),Xe,Zwfb hi];exact Za (Zi hi) (Za (Zzy h hr.1 hr.2) (Za (Z4 (by simp [Zbi];omega)) rfl))
 ·conv=>lhs;unfold Zpe.l0
  rw [Zv (Ya _),Ye];rfl
theorem Z8ob (h:Fit m st w) (l:List Int) (hl:l.length≤24) (hx:∀x∈l,0≤x∧x≤23) {k:Nat} (hk:100≤k):Zze.l0 k m.1 m.2.1 m.2.2 0 l 0 [] 0 [] []=some (l,(0,([],(0,(Zbi m l,[]))))):=by
 have run:=Zrb (fun j i=>Zze.l0 j m.1 m.2.1 m.2.2 (i:Int) l 0 [] 0 (Zbi m (l.take i)) []) l.length (l,(0,([],(0,(Zbi m l,[]))))) (fun i hi j=>?_) (fun j=>?_) k (by omega)
 ·exact run
 ·have hr:=hx _ (Yc hi)
  conv=>lhs;unfold Zze.l0
  rw [dlt hi,Zn (by omega),Xe,Zwfb hi];exact Za (Zi hi) (Za (Z3w h hr.1 hr.2) (Za (Z4 (by simp [Zbi];omega)) rfl))
 ·conv=>lhs;unfold Zze.l0
  rw [Zv (Ya _),Ye];rfl
def Zcr (m:Zr) (ph:Int) (v:Nat) (a b:Int) (dg:Str):Z7l:=if ph=1 then (match Zgh (Zyb v 0) (a+b) with
 | some l=>Z3i ((Zbi m l++[Z9h])++Zie m.2 2 0 a b 0 dg v (Zrg l))
 | none=>Zof 11) else Zof 10
theorem Z15 {f:Nat} (hf:f<16777216) {n:Int} (h0:1≤n) {l:List Int} (h:Zgh f n=some l):∃u,u<16777216∧l=Zb u∧Zrg l=u∧l.length≤24∧∀x∈l,0≤x∧x≤23:=by
 obtain ⟨⟨u,h1,h2,_⟩,_⟩:=Zhdb hf h0 h
 subst h2
 refine ⟨u,h1,rfl,Zk8 h1,Z7c u,fun x hx=>?_⟩
 obtain ⟨j,hj,rfl⟩:=Yr.1 hx
 exact Zyj hj
theorem Znjb (h:MSt m ph tr nd st dn dg v w) (c:Zgg) (ha:1≤c.2.1∧c.2.1≤20) (hb:0≤c.2.2.1∧c.2.2.1≤4) (hd:c.2.2.2.1.length≤32):Ze fun k=>Zpe k m (ph,(tr,(nd,(st,(dn,(dg,(Zb v,Zb w))))))) c=some (Zcr m ph v c.2.1 c.2.2.1 c.2.2.2.1):=by
 unfold Zcr
 by_cases c1:ph=1
 ·obtain ⟨n,hn⟩:∃n:Nat,c.2.1+c.2.2.1=(n:Int):=⟨(c.2.1+c.2.2.1).toNat,by omega⟩
  have hfl:=Zvv h.hv (by omega:0<16777216)
  have hr:∀k,200≤k→Z2b k (Zb v) [] (Yh .i64 (c.2.1+c.2.2.1))=some (match Zgh (Zyb v 0) (c.2.1+c.2.2.1) with
   | some l=>(l,true)
   | none=>([],false)):=fun k hk=>by
   have:=Z1ab v 0 n h.hv (by omega) (by omega) hk;rw [Zer] at this;rw [hn,wn (by omega)];exact this
  rw [Xc c1];cases hres:Zgh (Zyb v 0) (c.2.1+c.2.2.1) with
  | none=>
   refine (Ze.ge 200 fun k hk=>hk).mono fun k hk=>?_
   have hr:=hr k hk;rw [hres] at hr;unfold Zpe;show (bif ph != 1 then _ else _)=_;rw [show (ph != 1)=false by simpa using c1,Xf];exact Za hr rfl
  | some l=>
   obtain ⟨u,u1,u2,u3,u4,u5⟩:=Z15 hfl (by omega) hres;dsimp only;rw [u3];refine ((Z4j (m:=m) h.fit.f h.two (a:=2) (b:=0) (c:=c.2.1) (d:=c.2.2.1) (e:=0) (x:=c.2.2.2.1) (v:=v) (w:=u) ⟨by omega,by omega,by omega,by omega,by omega,hd,h.hv,u1⟩).and (Ze.ge 200 fun k hk=>hk)).mono fun k ⟨e,hk⟩=>?_
   have hr:=hr k hk;rw [hres] at hr;rw [← u2] at e;have hkl:=Zpl m.2 (Z9d (2,0,c.2.1,c.2.2.1,0,(v:Int),(u:Int),c.2.2.2.1));unfold Zpe;show (bif ph != 1 then _ else _)=_;rw [show (ph != 1)=false by simpa using c1,Xf];refine Za hr ?_;rw [Yo,Xf];refine Za (Z7kb h.fit l u4 u5 (by omega)) (Za (Z4 (by simp [Zbi];omega)) (Za e (Za (Z4 (by unfold Zie;simp [Zbi];omega)) ?_)));rfl
 ·refine Ze.of fun k=>?_
  unfold Zpe;show (bif ph != 1 then _ else _)=_;rw [show (ph != 1)=true by simpa using c1,Xd c1];rfl
theorem Ztnb (h:MSt m ph tr nd st dn dg v w) (c:Zgg) (ha:1≤c.2.1∧c.2.1≤20) (hb:0≤c.2.2.1∧c.2.2.1≤4) (hd:c.2.2.2.1.length≤32):Ze fun k=>Zze k m (ph,(tr,(nd,(st,(dn,(dg,(Zb v,Zb w))))))) c=some (Zcr m ph v c.2.1 c.2.2.1 c.2.2.2.1):=by
 unfold Zcr
 by_cases c1:ph=1
 ·obtain ⟨n,hn⟩:∃n:Nat,c.2.1+c.2.2.1=(n:Int):=⟨(c.2.1+c.2.2.1).toNat,by omega⟩
  have hfl:=Zvv h.hv (by omega:0<16777216)
  have hr:∀k,200≤k→Z4c k (Zb v) [] (Yh .i64 (c.2.1+c.2.2.1))=some (Zyz (Zgh (Zyb v 0) (c.2.1+c.2.2.1)) 11):=fun k hk=>by
   have:=Zeeb v 0 n h.hv (by omega) (by omega) hk;rw [Zer] at this;rw [hn,wn (by omega)];exact this
  rw [Xc c1];cases hres:Zgh (Zyb v 0) (c.2.1+c.2.2.1) with
  | none=>
   refine (Ze.ge 200 fun k hk=>hk).mono fun k hk=>?_
   have hr:=hr k hk;rw [hres] at hr;unfold Zze;show (bif ph != 1 then _ else _)=_;rw [show (ph != 1)=false by simpa using c1,Xf];exact Za hr rfl
  | some l=>
   obtain ⟨u,u1,u2,u3,u4,u5⟩:=Z15 hfl (by omega) hres;dsimp only;rw [u3];refine ((Zgk (m:=m) h.fit.f h.two (a:=2) (b:=0) (c:=c.2.1) (d:=c.2.2.1) (e:=0) (x:=c.2.2.2.1) (v:=v) (w:=u) ⟨by omega,by omega,by omega,by omega,by omega,hd,h.hv,u1⟩).and (Ze.ge 200 fun k hk=>hk)).mono fun k ⟨e,hk⟩=>?_
   have hr:=hr k hk;rw [hres] at hr;rw [← u2] at e;have hkl:=Zpl m.2 (Z9d (2,0,c.2.1,c.2.2.1,0,(v:Int),(u:Int),c.2.2.2.1));unfold Zze;show (bif ph != 1 then _ else _)=_;rw [show (ph != 1)=false by simpa using c1,Xf];refine Za hr ?_;rw [show ((Zyz (some l) 11).2 != 0)=false from rfl,Xf];refine Za (Z8ob h.fit l u4 u5 (by omega)) (Za (Z4 (by simp [Zbi];omega)) (Za e (Za (Z4 (by unfold Zie;simp [Zbi];omega)) ?_)));rfl
 ·refine Ze.of fun k=>?_
  unfold Zze;show (bif ph != 1 then _ else _)=_;rw [show (ph != 1)=true by simpa using c1,Xd c1];rfl
theorem Zdcb {x:Zk} (h:Zgd x.1 x.2.1 x.2.2.1 x.2.2.2 8=true):Zr1 x:=by
 unfold Zgd at h
 unfold Zr1 Num
 split at h
 ·simp only [Yb,decide_eq_true_eq] at h;omega
 ·split at h
  ·simp only [Yb,decide_eq_true_eq] at h;omega
  ·split at h
   ·simp only [Yb,decide_eq_true_eq] at h;omega
   ·split at h
    ·simp only [Yb,decide_eq_true_eq] at h;omega
    ·split at h
     ·simp only [Yb,decide_eq_true_eq] at h;omega
     ·cases h
def Zww (n:Int) (x:Zk):Str:=Z4g (Zm n++Zrs x)
theorem Zlkb (n:Int) (x:Zk) (h0:0≤n∧n≤1000000) (h:Zgd x.1 x.2.1 x.2.2.1 x.2.2.2 8=true):Ze fun k=>Zpp k n x=some (Zww n x):=by
 have l0:=Zhc n
 have l1:=Zhc x.1
 have l2:=Zhc x.2.1
 have l3:=Zhc x.2.2.1
 have l4:=Zij x.2.2.2
 have l5:=Zbx h
 have lX:(Zrs x).length≤60:=by unfold Zrs;simp only [Yd];omega
 refine (((Z5y n (by constructor <;> omega)).and (Zykb x (Zdcb h) l5)).and (Z7y (Zm n++Zrs x) (by simp;omega))).mono fun k ⟨⟨a,b⟩,c⟩=>?_
 unfold Zpp
 exact Za a (Za b (Za (Zvc (by omega)) (Za c rfl)))
theorem Zoob (n:Int) (x:Zk) (h0:0≤n∧n≤1000000) (h:Zgd x.1 x.2.1 x.2.2.1 x.2.2.2 8=true):Ze fun k=>Z5k k n x=some (Zww n x):=by
 obtain ⟨q1,q2,q3⟩:=Zdcb h
 have:=Zdeb n x.1 x.2.1 x.2.2.1 x.2.2.2 (by constructor <;> omega) q1 q2 q3 (Zbx h) h
 rw [Xc h0] at this
 exact this
def Zqs (m:Zr) (ph nd st:Int) (w:Nat) (x:Zk):Z7l:=if ph=2 then (if ((Zc m st w).length:Int)=nd then Zof 9 else if Zdb (Zc m st w++[x]) m.1=0 then Z3i ((false,(3+m.1+(Zb w).getD (st+((Zc m st w).length:Int)).toNat 0,Zww ((Zc m st w).length:Int) x))::(if x.1=5 then [Z9h] else [])) else Zof (Zdb (Zc m st w++[x]) m.1)) else Zof 10
theorem Zwkb (h:MSt m ph tr nd st dn dg v w) (x:Zk) (hx:Zgd x.1 x.2.1 x.2.2.1 x.2.2.2 8=true):Ze fun k=>Z6o k m (ph,(tr,(nd,(st,(dn,(dg,(Zb v,Zb w))))))) (Zc m st w) x=some (Zqs m ph nd st w x):=by
 have hll:=h.log
 have hlw:=Z7c w
 refine (((Zaz (Zc m st w++[x]) m.1 (by simp;omega)).and (Zlkb ((Zc m st w).length:Int) x (by omega) hx)).and (Ze.ge 100 fun k hk=>hk)).mono fun k ⟨⟨e1,e2⟩,hk⟩=>?_
 have hz:Zuk (Zc m st w)=some ((Zc m st w).length:Int):=rfl
 unfold Z6o Zqs
 show (bif ph != 2 then _ else _)=_
 by_cases c2:ph=2
 ·rw [Xc c2,show (ph != 2)=false by simpa using c2,Xf]
  obtain ⟨q1,q2,q3,q4,q5,q6,q7,q8⟩:=h.busy (by omega);refine Za hz ?_;show (bif ((Zc m st w).length:Int)==nd then _ else _)=_
  by_cases cn:((Zc m st w).length:Int)=nd
  ·rw [Xc cn,show (((Zc m st w).length:Int)==nd)=true by simpa using cn]
   rfl
  ·rw [Xd cn,show (((Zc m st w).length:Int)==nd)=false by simpa using cn,Xf]
   refine Za (Z4 (by simp;omega)) (Za e1 ?_)
   by_cases cc:Zdb (Zc m st w++[x]) m.1=0
   ·rw [Xc cc,show (Zdb (Zc m st w++[x]) m.1 != 0)=false by simpa using cc,Xf]
    obtain ⟨a1,a2,a3⟩:=Z2s (w:=w) (n:=st+((Zc m st w).length:Int)) (by omega) (by omega);show Yy (at? (Zb w) (Yh .i64 (st+((Zc m st w).length:Int)))) _=_;rw [w64 (n:=st+((Zc m st w).length:Int)) (by omega) (by omega)];refine Za a1 (Za (Zzy h.fit a2 a3) (Za e2 ?_));show (bif x.1==5 then _ else _)=_
    by_cases c5:x.1=5
    ·rw [Xc c5,show (x.1==5)=true by simpa using c5,Xe]
     exact Za (Z4 (by simp)) rfl
    ·rw [Xd c5,show (x.1==5)=false by simpa using c5]
     rfl
   ·rw [Xd cc,show (Zdb (Zc m st w++[x]) m.1 != 0)=true by simpa using cc]
    rfl
 ·rw [Xd c2,show (ph != 2)=true by simpa using c2]
  rfl
theorem Z0ob (h:MSt m ph tr nd st dn dg v w) (c:Zgg) (hx:Zgd c.2.2.2.2.1 c.2.2.2.2.2.1 c.2.2.2.2.2.2.1 c.2.2.2.2.2.2.2 8=true):Ze fun k=>Zzq k m (ph,(tr,(nd,(st,(dn,(dg,(Zb v,Zb w))))))) c=some (Zqs m ph nd st w c.2.2.2.2):=by
 have hll:=h.log
 have hlw:=Z7c w
 refine ((((Zgq ph tr nd st dn dg (Zb v) h.fit).and (Z00 (Zc m st w++[c.2.2.2.2]) m.1 (by simp;omega))).and (Zoob ((Zc m st w).length:Int) c.2.2.2.2 (by omega) hx)).and (Ze.ge 100 fun k hk=>hk)).mono fun k ⟨⟨⟨e0,e1⟩,e2⟩,hk⟩=>?_
 unfold Zzq Zqs
 show (bif ph != 2 then _ else _)=_
 by_cases c2:ph=2
 ·rw [Xc c2,show (ph != 2)=false by simpa using c2,Xf]
  obtain ⟨q1,q2,q3,q4,q5,q6,q7,q8⟩:=h.busy (by omega);refine Za e0 ?_;show (bif decide (nd≤((Zc m st w).length:Int)) then _ else _)=_
  by_cases cn:((Zc m st w).length:Int)=nd
  ·rw [Xc cn,Xa (by omega:nd≤((Zc m st w).length:Int))]
   rfl
  ·rw [Xd cn,Xb (by omega:¬nd≤((Zc m st w).length:Int)),Xf]
   have ha:Zs 40 ([]:List Zk) (Zc m st w)=some (Zc m st w):=Z4 (by simp;omega);refine Za ha (Za (Z4 (by simp;omega)) (Za e1 ?_))
   by_cases cc:Zdb (Zc m st w++[c.2.2.2.2]) m.1=0
   ·rw [Xc cc,show (Zdb (Zc m st w++[c.2.2.2.2]) m.1 != 0)=false by simpa using cc,Xf]
    obtain ⟨a1,a2,a3⟩:=Z2s (w:=w) (n:=st+((Zc m st w).length:Int)) (by omega) (by omega);show Yy (at? (Zb w) (Yh .i64 (st+((Zc m st w).length:Int)))) _=_;rw [w64 (n:=st+((Zc m st w).length:Int)) (by omega) (by omega)];refine Za a1 (Za (Z3w h.fit a2 a3) (Za e2 ?_));show (bif c.2.2.2.2.1==5 then _ else _)=_
    by_cases c5:c.2.2.2.2.1=5
    ·rw [Xc c5,show (c.2.2.2.2.1==5)=true by simpa using c5,Xe]
     exact Za (Z4 (by simp)) rfl
    ·rw [Xd c5,show (c.2.2.2.2.1==5)=false by simpa using c5]
     rfl
   ·rw [Xd cc,show (Zdb (Zc m st w++[c.2.2.2.2]) m.1 != 0)=true by simpa using cc]
    rfl
 ·rw [Xd c2,show (ph != 2)=true by simpa using c2]
  rfl
end
section
variable {m:Zr} {ph tr nd st dn:Int} {dg:Str} {v w:Nat}
def Zom (m:Zr) (v:Nat):List Zjf:=Zie m.2 1 0 0 0 0 [] v 0
def Zqr (m:Zr) (ph tr nd st dn:Int) (dg:Str) (v w:Nat):Z7l:=if ph=2 then (if ((Zc m st w).length:Int)=nd then (if Zdb (Zc m st w) m.1=0 then (if Zoi (Zne (Zxb m) (Zc m st w)).flatten=dg then (if st<Z7b (Zg (Zc m st w)) then (Zom m v,([],([],11))) else Z3i ([Z9h]++Zie m.2 3 tr nd st dn dg v w)) else (Zom m v,([],([],5)))) else (Zom m v,([],([],5)))) else (Zom m v,([],([],4)))) else Zof 10
theorem Z3jb (h:MSt m ph tr nd st dn dg v w):Ze fun k=>Z5o k m (ph,(tr,(nd,(st,(dn,(dg,(Zb v,Zb w))))))) (Zc m st w)=some (Zqr m ph tr nd st dn dg v w):=by
 have hf:=h.fit
 have hb:=hf.b
 have hn:=hf.n
 have hdr:=hf.dirt
 have hfl:=(Zyo hf.f).1
 have hk0:=h.keep
 have hll:=h.log
 have hplan:Ze fun k=>Zdb (Zc m st w) m.1=0→Zmb k (Zc m st w)=some (Zg (Zc m st w)):=if hc:Zdb (Zc m st w) m.1=0 then (Znt (Zc m st w) (Z7f hc).1 (Z7i hc)).mono fun k e _=>e else Ze.of fun k q=>absurd q hc
 refine (((((Z4j (m:=m) hf.f h.two (Zvm h.hv)).and (Zaz (Zc m st w) m.1 (by omega))).and hplan).and (Z4j (m:=m) hf.f h.two (a:=3) { hk0 with a:=by omega })).and (Ze.ge 1048577 fun k hk=>hk)).mono fun k ⟨⟨⟨⟨e1,e2⟩,e3⟩,e4⟩,hk⟩=>?_
 have hz:Zuk (Zc m st w)=some ((Zc m st w).length:Int):=rfl
 unfold Z5o Zqr
 refine Za (Z3y v _ _ _ _ _ _ _) (Za e1 (Za (Z23 (m:=m) ⟨by omega,hb.2⟩ (by omega) (by omega) hk) ?_))
 show (bif ph != 2 then _ else _)=_
 by_cases c2:ph=2
 ·rw [Xc c2,show (ph != 2)=false by simpa using c2,Xf]
  refine Za hz ?_;show (bif ((Zc m st w).length:Int) != nd then _ else _)=_
  by_cases cn:((Zc m st w).length:Int)=nd
  ·rw [Xc cn,show (((Zc m st w).length:Int) != nd)=false by simpa using cn,Xf]
   refine Za e2 ?_
   by_cases cc:Zdb (Zc m st w) m.1=0
   ·rw [Xc cc,show (Zdb (Zc m st w) m.1 != 0)=false by simpa using cc,Xf]
    have hpl:=Zmw _ (Z7f cc).1 (Z7i cc);refine Za (Zuab cc h.base h.base8 (by omega)) (Za (Zzjb (Z47 cc h.base h.img) (by omega)) ?_);show (bif !(Zoi (Zne (Zxb m) (Zc m st w)).flatten==dg) then _ else _)=_
    by_cases cd:Zoi (Zne (Zxb m) (Zc m st w)).flatten=dg
    ·rw [Xc cd,show (Zoi (Zne (Zxb m) (Zc m st w)).flatten==dg)=true by simpa using cd,Yo,Xf]
     refine Za (e3 cc) (Za (Z2ab _ (by omega) k (by omega)) ?_);show (bif decide (st<Z7b (Zg (Zc m st w))) then _ else _)=_
     by_cases cs:st<Z7b (Zg (Zc m st w))
     ·rw [Xc cs,Xa cs]
      rfl
     ·rw [Xd cs,Xb cs,Xf]
      have hkl:=Zpl m.2 (Z9d (3,tr,nd,st,dn,(v:Int),(w:Int),dg));exact Za e4 (Za (Z4 (by unfold Zie;simp;omega)) rfl)
    ·rw [Xd cd,show (Zoi (Zne (Zxb m) (Zc m st w)).flatten==dg)=false by simpa using cd]
     rfl
   ·rw [Xd cc,show (Zdb (Zc m st w) m.1 != 0)=true by simpa using cc]
    rfl
  ·rw [Xd cn,show (((Zc m st w).length:Int) != nd)=true by simpa using cn]
   rfl
 ·rw [Xd c2,show (ph != 2)=true by simpa using c2]
  rfl
theorem Z8nb (h:MSt m ph tr nd st dn dg v w):Ze fun k=>Zxq k m (ph,(tr,(nd,(st,(dn,(dg,(Zb v,Zb w)))))))=some (Zqr m ph tr nd st dn dg v w):=by
 have hf:=h.fit
 have hb:=hf.b
 have hn:=hf.n
 have hdr:=hf.dirt
 have hfl:=(Zyo hf.f).1
 have hk0:=h.keep
 have hll:=h.log
 have hplan:Ze fun k=>Zdb (Zc m st w) m.1=0→Zqj k (Zc m st w) m.1=some (Zg (Zc m st w),0)∧Zao k (Zne (Zxb m) (Zc m st w))=some (Zoi (Zne (Zxb m) (Zc m st w)).flatten):=if hc:Zdb (Zc m st w) m.1=0 then ((Zceb (Zc m st w) m.1 hc).and (Z4nb (Z47 hc h.base h.img))).mono fun k e _=>e else Ze.of fun k q=>absurd q hc
 refine ((((((Zgk (m:=m) hf.f h.two (Zvm h.hv)).and (Zgeb (l:=Zc m st w) h.img (by omega))).and hplan).and (Zgk (m:=m) hf.f h.two (a:=3) { hk0 with a:=by omega })).and (Zgq ph tr nd st dn dg (Zb v) hf)).and (Ze.ge 1048577 fun k hk=>hk)).mono fun k ⟨⟨⟨⟨⟨e1,e2⟩,e3⟩,e4⟩,e5⟩,hk⟩=>?_
 unfold Zxq Zqr
 show (bif ph != 2 then _ else _)=_
 by_cases c2:ph=2
 ·rw [Xc c2,show (ph != 2)=false by simpa using c2,Xf]
  refine Za e5 (Za (Zd6 (m:=m) ⟨by omega,hb.2⟩ (by omega) (by omega) hk) (Za e2 (Za (Zu0 v _ _ _ _ _ _ _) (Za e1 ?_))));show (bif ((Zc m st w).length:Int) != nd then _ else _)=_
  by_cases cn:((Zc m st w).length:Int)=nd
  ·rw [Xc cn,show (((Zc m st w).length:Int) != nd)=false by simpa using cn,Xf,h.base]
   by_cases cc:Zdb (Zc m st w) m.1=0
   ·obtain ⟨e31,e32⟩:=e3 cc
    have hpl:=Zmw _ (Z7f cc).1 (Z7i cc);rw [Xc cc,Xc cc];show (bif ((0:Int) != 0) then _ else _)=_;rw [show ((0:Int) != 0)=false from rfl,Xf];refine Za e32 ?_;show (bif !(Zoi (Zne (Zxb m) (Zc m st w)).flatten==dg) then _ else _)=_
    by_cases cd:Zoi (Zne (Zxb m) (Zc m st w)).flatten=dg
    ·rw [Xc cd,show (Zoi (Zne (Zxb m) (Zc m st w)).flatten==dg)=true by simpa using cd,Yo,Xf]
     refine Za e31 (Za (Zfeb (Zg (Zc m st w)) (by omega) k (by omega)) ?_);show (bif decide (st<Z7b (Zg (Zc m st w))) then _ else _)=_
     by_cases cs:st<Z7b (Zg (Zc m st w))
     ·rw [Xc cs,Xa cs]
      rfl
     ·rw [Xd cs,Xb cs,Xf]
      have hkl:=Zpl m.2 (Z9d (3,tr,nd,st,dn,(v:Int),(w:Int),dg));exact Za (Z7n v w _ _ _ _ _ _) (Za e4 (Za (Z4 (by unfold Zie;simp;omega)) rfl))
    ·rw [Xd cd,show (Zoi (Zne (Zxb m) (Zc m st w)).flatten==dg)=false by simpa using cd]
     rfl
   ·rw [Xd cc,Xd cc]
    show (bif (Zdb (Zc m st w) m.1 != 0) then _ else _)=_;rw [show (Zdb (Zc m st w) m.1 != 0)=true by simpa using cc];rfl
  ·rw [Xd cn,show (((Zc m st w).length:Int) != nd)=true by simpa using cn]
   rfl
 ·rw [Xd c2,show (ph != 2)=true by simpa using c2]
  rfl
def Zbc (m:Zr) (st dn:Int) (w:Nat):Zuc:=(Zg (Zc m st w)).getD dn.toNat (0,(0,(0,0)))
def Zmh (m:Zr) (st dn:Int) (w:Nat):Int:=if (Zbc m st dn w).1=1 then 3+m.1+(Zb w).getD (Zbc m st dn w).2.2.2.toNat 0 else 3+(Zbc m st dn w).2.2.1
def Zjg (m:Zr) (st dn:Int) (w:Nat):Str:=if (Zbc m st dn w).1=1 then Zz m.2 (3+(Zbc m st dn w).2.2.1) else Zeh m w (Zg (Zc m st w)) dn.toNat (wAt (Zh (Zc m st w)) (Zbc m st dn w).2.1.toNat)
def Zvr (m:Zr) (ph tr nd st dn:Int) (dg:Str) (v w:Nat):Z7l:=if ph=5 then (if dn=((Zg (Zc m st w)).length:Int) then (Zom m v,([],([0],0))) else ([(false,(2,if (Zjg m st dn w).length=8 then Zak dn (Zmh m st dn w) (Zjg m st dn w) else [])),Z9h,(false,(Zmh m st dn w,Zjg m st dn w)),Z9h]++Zie m.2 ph tr nd st (dn+1) dg v w,([],([((Zg (Zc m st w)).length:Int)-(dn+1)],0)))) else Zof 10
theorem Zzt (hS:Sound m st dn w) (hlt:dn<((Zg (Zc m st w)).length:Int)):at? (Zg (Zc m st w)) dn=some (Zbc m st dn w)∧(0≤(Zbc m st dn w).2.2.1∧(Zbc m st dn w).2.2.1<m.1) ∧
  ((Zbc m st dn w).1=1∧(at? (Zb w) (Zbc m st dn w).2.2.2=some ((Zb w).getD (Zbc m st dn w).2.2.2.toNat 0)∧0≤(Zb w).getD (Zbc m st dn w).2.2.2.toNat 0∧(Zb w).getD (Zbc m st dn w).2.2.2.toNat 0≤23) ∨
   (Zbc m st dn w).1=2∧at? (Zh (Zc m st w)) (Zbc m st dn w).2.1=some (wAt (Zh (Zc m st w)) (Zbc m st dn w).2.1.toNat)∧WriteOk (wAt (Zh (Zc m st w)) (Zbc m st dn w).2.1.toNat) m.1):=by
 have hdn:=hS.dn
 have hs:=hS.fit.s
 have hsl:=hS.slots
 obtain ⟨d,rfl⟩:∃d:Nat,dn=(d:Int):=⟨dn.toNat,by omega⟩
 have hd:d<(Zg (Zc m st w)).length:=by omega
 have hg:Zbc m st (d:Int) w=(Zg (Zc m st w))[d]:=by
  unfold Zbc;rw [Yg];exact Zxy hd
 have hm:(Zg (Zc m st w))[d]? = some (Zg (Zc m st w))[d]:=Yi hd
 obtain ⟨j,hj,q⟩:=(Z2z hS.code).form d _ hm
 have hx:=Zsu hS.code _ (Yc hj)
 have hto:=hx.tgt
 refine ⟨by rw [hg];exact Zi hd,?_,?_⟩
 ·rw [hg]
  rcases q with q | q <;> rw [q] <;> (show 0≤(wAt _ j).2.1∧(wAt _ j).2.1<m.1) <;> rw [Zng hj] <;> exact hto
 ·rw [hg]
  rcases q with q | q
  ·right
   rw [q];refine ⟨rfl,?_,?_⟩
   ·show at? (Zh (Zc m st w)) ((j:Nat):Int)=some (wAt (Zh (Zc m st w)) (((j:Nat):Int)).toNat)
    rw [Yg,Zng hj];exact Zi hj
   ·show WriteOk (wAt (Zh (Zc m st w)) (((j:Nat):Int)).toNat) m.1
    rw [Yg,Zng hj];exact hx
  ·left
   have h1:(Zg (Zc m st w))[d].1=1:=by rw [q]
   have h2:(Zg (Zc m st w))[d].2.2.2=Z7b ((Zg (Zc m st w)).take d):=by rw [q]
   have h3:=Zxeb hm h1;have h4:=Z80 ((Zg (Zc m st w)).take d);refine ⟨h1,?_⟩;rw [h2];exact Z2s h4.1 (by omega)
theorem Zr3 (hS:Sound m st dn w) (hlt:dn<((Zg (Zc m st w)).length:Int)):0≤Zmh m st dn w∧Zmh m st dn w≤39:=by
 have hb:=hS.fit.b
 obtain ⟨_,h2,h3⟩:=Zzt hS hlt
 unfold Zmh
 rcases h3 with ⟨q,_,q1,q2⟩ | ⟨q,_⟩
 ·rw [Xc q];omega
 ·rw [Xd (by omega)];omega
theorem Z0lb (m:Zr) (x:Zk) (hx:WriteOk x m.1) (hf:Z9f m.2=true) (mv:List Zuc) (d:Nat) (hp:x.2.2.2.length≤8):(Zeh m w mv d x).length≤96:=by
 unfold Zeh Zfh
 split
 ·exact (by decide:Zk7.length≤96)
 ·split
  ·omega
  ·split
   ·unfold Zzo
    split
    ·split
     ·exact Zkm hf _
     ·exact Zkm hf _
    ·simp
   ·unfold Zys
    split
    ·rw [Zxfb];omega
    ·simp
theorem Zphb {l:List Zk} {n:Int} (h:Zdb l n=0):∀x∈Zh l,x.2.2.2.length≤8:=by
 intro x hx
 unfold Zh at hx
 have hs:=(Z7f h).2.2.2.1 x (Yw.1 hx).1
 exact Zbx hs
theorem Zs3 (hS:Sound m st dn w) (hlt:dn<((Zg (Zc m st w)).length:Int)):(Zjg m st dn w).length≤96:=by
 obtain ⟨_,h2,h3⟩:=Zzt hS hlt
 unfold Zjg
 rcases h3 with ⟨q,_⟩ | ⟨q,q1,q2⟩
 ·rw [Xc q]
  exact Zkm hS.fit.f _
 ·rw [Xd (by omega)]
  refine Z0lb m _ q2 hS.fit.f _ _ (Zphb hS.code _ ?_);have:=(Zzt hS hlt).2.1
  by_cases hi:(Zbc m st dn w).2.1.toNat<(Zh (Zc m st w)).length
  ·rw [Zng hi]
   exact Yc hi
  ·exfalso
   have hn:at? (Zh (Zc m st w)) (Zbc m st dn w).2.1=none:=by
    unfold at?;split
    ·exact Yfa (by omega)
    ·rfl
   rw [hn] at q1;cases q1
theorem Z4jb (h:MSt m ph tr nd st dn dg v w):Ze fun k=>Zxc k m (ph,(tr,(nd,(st,(dn,(dg,(Zb v,Zb w))))))) (Zc m st w)=some (Zvr m ph tr nd st dn dg v w):=by
 have hf:=h.fit
 have hb:=hf.b
 have hn:=hf.n
 have hdr:=hf.dirt
 have hk0:=h.keep
 have hll:=h.log
 unfold Zvr
 by_cases c5:ph=5
 ·have hS:=h.snd (by omega)
  have hdn:=hS.dn;have hpl:=hS.plan;have hz:Znl (Zg (Zc m st w))=some ((Zg (Zc m st w)).length:Int):=rfl;rw [Xc c5]
  by_cases ce:dn=((Zg (Zc m st w)).length:Int)
  ·rw [Xc ce]
   refine ((Z4j (m:=m) hf.f h.two (Zvm h.hv)).and (Znt _ (Z7f hS.code).1 (Z7i hS.code))).mono fun k ⟨e1,e2⟩=>?_
   unfold Zxc;show (bif ph != 5 then _ else _)=_;rw [show (ph != 5)=false by simpa using c5,Xf];refine Za e2 (Za hz ?_);show (bif (Yh .i64 (((Zg (Zc m st w)).length:Int)-dn))==0 then _ else _)=_;rw [w64 (n:=((Zg (Zc m st w)).length:Int)-dn) (by omega) (by omega),show (((Zg (Zc m st w)).length:Int)-dn==0)=true by rw [ce];simp,Xe];exact Za (Z3y v _ _ _ _ _ _ _) (Za e1 rfl)
  ·have hlt:dn<((Zg (Zc m st w)).length:Int):=by omega
   obtain ⟨m1,m2,m3⟩:=Zzt hS hlt;have hat:=Zr3 hS hlt;have hdl:=Zs3 hS hlt;rw [Xd ce];refine ((((Z4j (m:=m) hf.f h.two (a:=ph) (e:=dn+1) { hk0 with e:=by omega }).and (Znt _ (Z7f hS.code).1 (Z7i hS.code))).and (Zdkb dn (Zmh m st dn w) (Zjg m st dn w) (by constructor <;> omega) (by constructor <;> omega) (by omega))).and (Ze.ge 1048577 fun k hk=>hk)).mono fun k ⟨⟨⟨e1,e2⟩,e3⟩,hk⟩=>?_
   have hj0:Zxc.j0 k (Zc m st w) (3+(Zbc m st dn w).2.2.1) m.1 m.2.1 m.2.2 ph tr nd st dn dg (Zb v) (Zb w) (Zbc m st dn w).1 (Zbc m st dn w).2.1 (Zbc m st dn w).2.2.1 (Zbc m st dn w).2.2.2 (Zg (Zc m st w))=some (Zmh m st dn w,(Zjg m st dn w,(m.1,(m.2.1,(m.2.2,(ph,(tr,(nd,(st,(dn,(dg,(Zb v,(Zb w,(Zbc m st dn w)))))))))))))):=by
    unfold Zxc.j0 Zmh Zjg;dsimp only;rcases m3 with ⟨q,q1,q2,q3⟩ | ⟨q,q1,q2⟩
    ·rw [Xc q,Xc q,show ((Zbc m st dn w).1==1)=true by simpa using q,Xe]
     exact Za q1 (Za (Zzy hf q2 q3) (Za (Z1o m.2 _ hdr (by omega) (by omega) (by omega)) rfl))
    ·rw [Xd (by omega),Xd (by omega),show ((Zbc m st dn w).1==1)=false by rw [q];rfl,Xf]
     exact Za (Zbz _ (by omega) k (by omega)) (Za q1 (Za (Zzab hS ph tr nd dg (Zb v) q2 hk) rfl))
   have hj1:Zxc.j1 k (Zmh m st dn w) (Zjg m st dn w) [] ph tr nd st dn dg (Zb v) (Zb w)=some (if (Zjg m st dn w).length=8 then Zak dn (Zmh m st dn w) (Zjg m st dn w) else [],(ph,(tr,(nd,(st,(dn,(dg,(Zb v,Zb w)))))))):=by
    unfold Zxc.j1
    by_cases c8:(Zjg m st dn w).length=8
    ·rw [Xc c8,show (((Zjg m st dn w).length:Int)==8)=true by rw [c8];rfl,Xe]
     exact Za e3 rfl
    ·rw [Xd c8,show (((Zjg m st dn w).length:Int)==8)=false by simp;omega]
     rfl
   unfold Zxc;show (bif ph != 5 then _ else _)=_;rw [show (ph != 5)=false by simpa using c5,Xf];refine Za e2 (Za hz ?_);show (bif (Yh .i64 (((Zg (Zc m st w)).length:Int)-dn))==0 then _ else _)=_;rw [w64 (n:=((Zg (Zc m st w)).length:Int)-dn) (by omega) (by omega),show (((Zg (Zc m st w)).length:Int)-dn==0)=false by simp;omega,Xf];refine Za m1 (Za m1 ?_);rw [w64 (n:=3+(Zbc m st dn w).2.2.1) (by omega) (by omega)];refine Za hj0 (Za hj1 ?_);show Yy (Zfe k m (ph,(tr,(nd,(st,(Yh .i64 (dn+1),(dg,(Zb v,Zb w)))))))) _=_;rw [w64 (n:=dn+1) (by omega) (by omega)];have hkl:=Zpl m.2 (Z9d (ph,tr,nd,st,dn+1,(v:Int),(w:Int),dg));refine Za e1 (Za (Z4 (by unfold Zie;simp;omega)) ?_);rw [w64 (n:=((Zg (Zc m st w)).length:Int)-dn-1) (by omega) (by omega),show ((Zg (Zc m st w)).length:Int)-dn-1=((Zg (Zc m st w)).length:Int)-(dn+1) by omega];rfl
 ·rw [Xd c5]
  refine Ze.of fun k=>?_
  unfold Zxc;show (bif ph != 5 then _ else _)=_;rw [show (ph != 5)=true by simpa using c5];rfl
theorem Zbob (h:MSt m ph tr nd st dn dg v w):Ze fun k=>Zfg k m (ph,(tr,(nd,(st,(dn,(dg,(Zb v,Zb w)))))))=some (Zvr m ph tr nd st dn dg v w):=by
 have hf:=h.fit
 have hb:=hf.b
 have hn:=hf.n
 have hdr:=hf.dirt
 have hk0:=h.keep
 have hll:=h.log
 unfold Zvr
 by_cases c5:ph=5
 ·have hS:=h.snd (by omega)
  have hdn:=hS.dn;have hpl:=hS.plan;rw [Xc c5]
  by_cases ce:dn=((Zg (Zc m st w)).length:Int)
  ·rw [Xc ce]
   refine ((Zgk (m:=m) hf.f h.two (Zvm h.hv)).and (Zx0 h (by omega))).mono fun k ⟨e1,e2⟩=>?_
   unfold Zfg;show (bif ph != 5 then _ else _)=_;rw [show (ph != 5)=false by simpa using c5,Xf];refine Za e2 ?_;show (bif decide (((Zg (Zc m st w)).length:Int)≤dn) then _ else _)=_;rw [Xa (by omega:((Zg (Zc m st w)).length:Int)≤dn),Xe];exact Za (Zu0 v _ _ _ _ _ _ _) (Za e1 rfl)
  ·have hlt:dn<((Zg (Zc m st w)).length:Int):=by omega
   obtain ⟨m1,m2,m3⟩:=Zzt hS hlt;have hat:=Zr3 hS hlt;have hdl:=Zs3 hS hlt;rw [Xd ce];refine (((((Zgk (m:=m) hf.f h.two (a:=ph) (e:=dn+1) { hk0 with e:=by omega }).and (Zx0 h (by omega))).and (Zaeb dn (Zmh m st dn w) (Zjg m st dn w) (by constructor <;> omega) (by constructor <;> omega) (by omega))).and (Zgq ph tr nd st dn dg (Zb v) hf)).and (Ze.ge 1048577 fun k hk=>hk)).mono fun k ⟨⟨⟨⟨e1,e2⟩,e3⟩,e4⟩,hk⟩=>?_
   have hj0:Zfg.j0 k m.1 m.2.1 m.2.2 ph tr nd st dn dg (Zb v) (Zb w) (3+(Zbc m st dn w).2.2.1) (Zz m.2 (3+(Zbc m st dn w).2.2.1)) (Zbc m st dn w).1 (Zbc m st dn w).2.1 (Zbc m st dn w).2.2.1 (Zbc m st dn w).2.2.2 (Zg (Zc m st w))=some (Zmh m st dn w,(Zjg m st dn w,Zbc m st dn w)):=by
    unfold Zfg.j0 Zmh Zjg;dsimp only;rcases m3 with ⟨q,q1,q2,q3⟩ | ⟨q,q1,q2⟩
    ·rw [Xc q,Xc q,show ((Zbc m st dn w).1==1)=true by simpa using q,Xe]
     exact Za q1 (Za (Z3w hf q2 q3) rfl)
    ·rw [Xd (by omega),Xd (by omega),show ((Zbc m st dn w).1==1)=false by rw [q];rfl,Xf]
     exact Za e4 (Za (Zn6 _ (by omega) k (by omega)) (Za q1 (Za q1 (Za (Z7db hS ph tr nd dg (Zb v) q2 hk) rfl))))
   have hB:(if Zzm dn (Zmh m st dn w) (Zjg m st dn w)=true then Zak dn (Zmh m st dn w) (Zjg m st dn w) else [])=if (Zjg m st dn w).length=8 then Zak dn (Zmh m st dn w) (Zjg m st dn w) else []:=by
    by_cases c8:(Zjg m st dn w).length=8
    ·rw [Xc c8,Xc (Ziw.2 ⟨⟨by omega,by omega⟩,hat,c8⟩)]
    ·rw [Xd c8,Xd (fun q=>c8 (Ziw.1 q).2.2)]
   rw [hB] at e3;unfold Zfg;show (bif ph != 5 then _ else _)=_;rw [show (ph != 5)=false by simpa using c5,Xf];refine Za e2 ?_;show (bif decide (((Zg (Zc m st w)).length:Int)≤dn) then _ else _)=_;rw [Xb (by omega:¬((Zg (Zc m st w)).length:Int)≤dn),Xf];refine Za m1 (Za m1 ?_);dsimp only;rw [w64 (n:=3+(Zbc m st dn w).2.2.1) (by omega) (by omega)];refine Za (Z8n m.2 _ hdr (by omega) (by omega) (by omega)) (Za hj0 (Za (Z7n v w _ _ _ _ _ _) (Za e3 ?_)));rw [w64 (n:=dn+1) (by omega) (by omega)];have hkl:=Zpl m.2 (Z9d (ph,tr,nd,st,dn+1,(v:Int),(w:Int),dg));refine Za e1 (Za (Z4 (by unfold Zie;simp;omega)) ?_);rw [w64 (n:=((Zg (Zc m st w)).length:Int)-(dn+1)) (by omega) (by omega)];rfl
 ·rw [Xd c5]
  refine Ze.of fun k=>?_
  unfold Zfg;show (bif ph != 5 then _ else _)=_;rw [show (ph != 5)=true by simpa using c5];rfl
end
def Zyr (m:Zr) (ph tr nd st dn:Int) (dg:Str) (v w:Nat) (a:Int):Z7l:=match Zgh (Zyb v w) a with
 | some l=>Z3i (Zie m.2 ph tr nd st dn dg (v ||| Zrg l) w)
 | none=>Zof 11
def Zy6 (m:Zr) (ph tr nd st dn:Int) (v w:Nat):List Int:=[ph,tr,((Zc m st w).length:Int),Zdh (Zc m st w),(if ph=5 then ((Zg (Zc m st w)).length:Int)-dn else 0),((Zb (Zyb v w)).length:Int)]
def Zko (m:Zr) (c:Zgg) (ph tr nd st dn:Int) (dg:Str) (v w:Nat):Z7l:=if c.1=1 then Zcr m ph v c.2.1 c.2.2.1 c.2.2.2.1 else if c.1=2 then Zqs m ph nd st w c.2.2.2.2 else if c.1=3 then Zqr m ph tr nd st dn dg v w else if c.1=4 then (if ph=1∨ph=5 then Zof 10 else Z3i (Zom m v)) else if c.1=5 then (if ph=4 then Z3i ([(false,(2,[])),Z9h]++Zie m.2 5 0 nd st dn dg v w) else Zof 10) else if c.1=6 then Zvr m ph tr nd st dn dg v w else if c.1=7 then (if m.1≤c.2.1 then Zof 8 else ([],((Z5l m ph st dn w).getD c.2.1.toNat [],([],0)))) else if c.1=8 then ([],([],(Zy6 m ph tr nd st dn v w,0))) else if c.1=9 then Zyr m ph tr nd st dn dg v w c.2.1 else if c.1=10 then Z3i (Zie m.2 ph tr nd st dn dg 0 w) else Z3i (Zmn m ph tr nd st dn dg v w)
structure CmdOk (c:Zgg):Prop where
 r:1≤c.1∧c.1≤11
 k1:c.1=1→(1≤c.2.1∧c.2.1≤20)∧(0≤c.2.2.1∧c.2.2.1≤4)∧c.2.2.2.1.length≤32
 k2:c.1=2→Zgd c.2.2.2.2.1 c.2.2.2.2.2.1 c.2.2.2.2.2.2.1 c.2.2.2.2.2.2.2 8=true
 k7:c.1=7→0≤c.2.1
 k9:c.1=9→1≤c.2.1∧c.2.1≤24
theorem Zv2 {c:Zgg} (h:Z0j c=true):CmdOk c:=by
 unfold Z0j at h
 split at h
 ·rename_i q
  simp only [Yb,decide_eq_true_eq] at h;exact ⟨by omega,fun _=>⟨by omega,by omega,by omega⟩,by omega,by omega,by omega⟩
 ·split at h
  ·rename_i q
   simp only [Yb,decide_eq_true_eq] at h;exact ⟨by omega,by omega,fun _=>h.2,by omega,by omega⟩
  ·split at h
   ·rename_i q
    simp only [Yb,decide_eq_true_eq] at h;exact ⟨by omega,by omega,by omega,by omega,fun _=>by omega⟩
   ·split at h
    ·rename_i q
     simp only [Yb,decide_eq_true_eq] at h;exact ⟨by omega,by omega,by omega,fun _=>by omega,by omega⟩
    ·simp only [Yb,decide_eq_true_eq] at h
     exact ⟨by omega,by omega,by omega,by omega,by omega⟩
section
variable {m:Zr} {ph tr nd st dn:Int} {dg:Str} {v w:Nat}
theorem Z13 (h:MSt m ph tr nd st dn dg v w) {n:Int} (h1:1≤n) {l:List Int} (hr:Zgh (Zyb v w) n=some l):Zrg l<16777216∧l=Zb (Zrg l)∧v &&& Zrg l=0∧(v ||| Zrg l)<16777216:=by
 obtain ⟨⟨u,u1,u2,u3⟩,_⟩:=Zhdb (Zvv h.hv h.hw) h1 hr
 have e:Zrg l=u:=by rw [u2];exact Zk8 u1
 rw [e]
 refine ⟨u1,u2,Zjgb (fun i hi q=>?_) h.hv,?_⟩
 ·have:=u3 i q.2
  rw [Zt3 hi,q.1] at this;cases this
 ·have:v ||| u<2^24:=Ysa (by simpa using h.hv) (by simpa using u1)
  simpa using this
theorem Zljb (hs:stM m=some (ph,(tr,(nd,(st,(dn,(dg,(v,w)))))))) (h:MSt m ph tr nd st dn dg v w) {c:Zgg} (hc:CmdOk c):Ze fun k=>Zwc k m c=some (if (Zlb m.2).1=1000000 then Zof 9 else Zko m c ph tr nd st dn dg v w):=by
 have hf:=h.fit
 have hb:=hf.b
 have hn:=hf.n
 have hdr:=hf.dirt
 have hl:m.2.1.length≤1048576:=by omega
 have hk0:=h.keep
 have hll:=h.log
 have hlv:=Z7c v
 have hlw:=Z7c w
 have pre0:Ze fun k=>Zqh k m=some (Zas (some (ph,tr,nd,st,dn,dg,v,w))):=by rw [← hs];exact Z8y m hl (by omega)
 have pre:=(pre0.and (Z63 hf.f h.two)).and (Zyv ph tr nd st dn dg (Zb v) hf)
 by_cases cg:(Zlb m.2).1=1000000
 ·rw [Xc cg]
  refine pre.mono fun k ⟨⟨p1,p2⟩,p3⟩=>?_
  unfold Zwc;refine Za p1 (Za p2 ?_);rw [show ((Zlb m.2).1==1000000)=true by simpa using cg];rfl
 ·rw [Xd cg]
  have hg:((Zlb m.2).1==1000000)=false:=by simpa using cg
  obtain ⟨o,a,b,t,s⟩:=c;have hr:=hc.r;dsimp only at hr;have ho:o=1∨o=2∨o=3∨o=4∨o=5∨o=6∨o=7∨o=8∨o=9∨o=10∨o=11:=by omega
  rcases ho with rfl | rfl | rfl | rfl | rfl | rfl | rfl | rfl | rfl | rfl | rfl
  ·obtain ⟨q1,q2,q3⟩:=hc.k1 rfl
   refine (pre.and (Znjb h (1,(a,(b,(t,s)))) q1 q2 q3)).mono fun k ⟨⟨⟨p1,p2⟩,p3⟩,e⟩=>?_
   unfold Zwc;refine Za p1 (Za p2 ?_);rw [hg,Xf];exact Za p3 (Za e rfl)
  ·refine (pre.and (Zwkb h s (hc.k2 rfl))).mono fun k ⟨⟨⟨p1,p2⟩,p3⟩,e⟩=>?_
   unfold Zwc;refine Za p1 (Za p2 ?_);rw [hg,Xf];exact Za p3 (Za e rfl)
  ·refine (pre.and (Z3jb h)).mono fun k ⟨⟨⟨p1,p2⟩,p3⟩,e⟩=>?_
   unfold Zwc;refine Za p1 (Za p2 ?_);rw [hg,Xf];exact Za p3 (Za e rfl)
  ·refine (pre.and (Z4j (m:=m) hf.f h.two (Zvm h.hv))).mono fun k ⟨⟨⟨p1,p2⟩,p3⟩,e⟩=>?_
   unfold Zwc;refine Za p1 (Za p2 ?_);rw [hg,Xf];refine Za p3 ?_;show (bif (ph==1)||(ph==5) then _ else _)=some (if ph=1∨ph=5 then Zof 10 else Z3i (Zom m v))
   by_cases q:ph=1∨ph=5
   ·rw [Xc q,show ((ph==1)||(ph==5))=true by rcases q with q | q <;> rw [q] <;> rfl]
    rfl
   ·rw [Xd q,show ((ph==1)||(ph==5))=false by
     rw [Yba];exact ⟨by simp;omega,by simp;omega⟩,Xf]
    exact Za (Z3y v _ _ _ _ _ _ _) (Za e rfl)
  ·refine (pre.and (Z4j (m:=m) hf.f h.two (a:=5) (b:=0) { hk0 with a:=by omega,b:=by omega })).mono fun k ⟨⟨⟨p1,p2⟩,p3⟩,e⟩=>?_
   unfold Zwc;refine Za p1 (Za p2 ?_);rw [hg,Xf];refine Za p3 ?_;show (bif ph != 4 then _ else _)=some (if ph=4 then Z3i ([(false,(2,[])),Z9h]++Zie m.2 5 0 nd st dn dg v w) else Zof 10)
   by_cases q:ph=4
   ·rw [Xc q,show (ph != 4)=false by simpa using q,Xf]
    have hkl:=Zpl m.2 (Z9d (5,0,nd,st,dn,(v:Int),(w:Int),dg));exact Za e (Za (Z4 (by unfold Zie;simp;omega)) rfl)
   ·rw [Xd q,show (ph != 4)=true by simpa using q]
    rfl
  ·refine (pre.and (Z4jb h)).mono fun k ⟨⟨⟨p1,p2⟩,p3⟩,e⟩=>?_
   unfold Zwc;refine Za p1 (Za p2 ?_);rw [hg,Xf];exact Za p3 (Za e rfl)
  ·refine (pre.and (Z3kb hs h)).mono fun k ⟨⟨⟨p1,p2⟩,p3⟩,e⟩=>?_
   have h7:=hc.k7 rfl;dsimp only at h7;have hvl:=Zsfb h;unfold Zwc;refine Za p1 (Za p2 ?_);rw [hg,Xf];refine Za p3 ?_;show (bif decide (m.1≤a) then _ else _)=some (if m.1≤a then Zof 8 else ([],((Z5l m ph st dn w).getD a.toNat [],([],0))))
   by_cases q:m.1≤a
   ·rw [Xc q,Xa q]
    rfl
   ·rw [Xd q,Xb q,Xf]
    have hat:=Zmo (l:=Z5l m ph st dn w) (n:=a) h7 (by omega);exact Za e (Za hat (Za hat rfl))
  ·have hmv:Ze fun k=>ph=5→Zsn k m (ph,(tr,(nd,(st,(dn,(dg,(Zb v,Zb w)))))))=some (Zg (Zc m st w)):=if h5:ph=5 then (Zbkb h (by omega)).mono fun k e _=>e else Ze.of fun k q=>absurd q h5
   refine ((pre.and hmv).and (Ze.ge 100 fun k hk=>hk)).mono fun k ⟨⟨⟨⟨p1,p2⟩,p3⟩,e⟩,hk⟩=>?_
   have hcount:=Zlhb h.apart
   have hj:Zwc.j0 k m.1 m.2.1 m.2.2 0 ph tr nd st dn dg (Zb v) (Zb w)=some ((if ph=5 then ((Zg (Zc m st w)).length:Int)-dn else 0),(ph,(tr,(nd,(st,(dn,(dg,(Zb v,Zb w)))))))):=by
    unfold Zwc.j0
    by_cases h5:ph=5
    ·have hS:=h.snd (by omega)
     have hpl:=hS.plan;have hdn:=hS.dn;rw [Xc h5,show (ph==5)=true by simpa using h5,Xe];refine Za (e h5) (Za (a:=((Zg (Zc m st w)).length:Int)) rfl ?_);rw [w64 (n:=((Zg (Zc m st w)).length:Int)-dn) (by omega) (by omega)]
    ·rw [Xd h5,show (ph==5)=false by simpa using h5]
     rfl
   unfold Zwc;refine Za p1 (Za p2 ?_);rw [hg,Xf];refine Za p3 (Za hj (Za (a:=((Zc m st w).length:Int)) rfl (Za (Zyab _ hll.2.1 (by omega)) (Za (a:=((Zb v).length:Int)) rfl (Za (a:=((Zb w).length:Int)) rfl ?_)))));rw [w64 (n:=24-((Zb v).length:Int)) (by omega) (by omega),w64 (n:=24-((Zb v).length:Int)-((Zb w).length:Int)) (by omega) (by omega),show 24-((Zb v).length:Int)-((Zb w).length:Int)=((Zb (Zyb v w)).length:Int) by omega];rfl
  ·obtain ⟨q1,q2⟩:=hc.k9 rfl
   dsimp only at q1 q2;obtain ⟨n,rfl⟩:∃n:Nat,a=(n:Int):=⟨a.toNat,by omega⟩
   have hres:∀k,200≤k→Z2b k (Zb v) (Zb w) (n:Int)=some (match Zgh (Zyb v w) (n:Int) with
    | some l=>(l,true)
    | none=>([],false)):=fun k hk=>Z1ab v w n h.hv h.hw (by omega) hk
   have goalE:Zko m (9,((n:Int),(b,(t,s)))) ph tr nd st dn dg v w=Zyr m ph tr nd st dn dg v w (n:Int):=rfl;rw [goalE];unfold Zyr;cases hq:Zgh (Zyb v w) (n:Int) with
   | none=>
    refine (pre.and (Ze.ge 200 fun k hk=>hk)).mono fun k ⟨⟨⟨p1,p2⟩,p3⟩,hk⟩=>?_
    have hr2:=hres k hk;rw [hq] at hr2;unfold Zwc;refine Za p1 (Za p2 ?_);rw [hg,Xf];exact Za p3 (Za hr2 rfl)
   | some l=>
    obtain ⟨u1,u2,u3,u4⟩:=Z13 h (by omega) hq;refine ((pre.and (Z4j (m:=m) hf.f h.two (v:=v ||| Zrg l) { hk0 with v:=u4 })).and (Ze.ge 200 fun k hk=>hk)).mono fun k ⟨⟨⟨⟨p1,p2⟩,p3⟩,e⟩,hk⟩=>?_
    have hr2:=hres k hk;rw [hq] at hr2;unfold Zwc;refine Za p1 (Za p2 ?_);rw [hg,Xf];refine Za p3 (Za hr2 ?_);show Yy (Zmc k (Zb v)) _=_
    have hbl:Zmc k l=some ((Zrg l:Nat):Int):=by
     have:=Z0o (Zrg l) u1 k (by omega);rw [← u2] at this;exact this
    refine Za (Z0o v h.hv k (by omega)) (Za hbl ?_);have hv2:=h.hv;rw [ori v (Zrg l) (by omega) (by omega)];exact Za (Z1y _ u4 k (by omega)) (Za e rfl)
  ·refine (pre.and (Z4j (m:=m) hf.f h.two (v:=0) { hk0 with v:=by omega })).mono fun k ⟨⟨⟨p1,p2⟩,p3⟩,e⟩=>?_
   rw [Zer] at e;unfold Zwc;refine Za p1 (Za p2 ?_);rw [hg,Xf];exact Za p3 (Za e rfl)
  ·refine (pre.and (Zsjb h.toMS0)).mono fun k ⟨⟨⟨p1,p2⟩,p3⟩,e⟩=>?_
   unfold Zwc;refine Za p1 (Za p2 ?_);rw [hg,Xf];exact Za p3 (Za e rfl)
theorem Zqnb (h:MSt m ph tr nd st dn dg v w) {c:Zgg} (hc:CmdOk c):Ze fun k=>Zhh k m (ph,(tr,(nd,(st,(dn,(dg,(Zb v,Zb w))))))) c=some (Zko m c ph tr nd st dn dg v w):=by
 have hf:=h.fit
 have hb:=hf.b
 have hn:=hf.n
 have hdr:=hf.dirt
 have hk0:=h.keep
 have hll:=h.log
 have hlv:=Z7c v
 have hlw:=Z7c w
 have hcp:=Z7n v w ph tr nd st dn dg
 obtain ⟨o,a,b,t,s⟩:=c
 have hr:=hc.r
 dsimp only at hr
 have ho:o=1∨o=2∨o=3∨o=4∨o=5∨o=6∨o=7∨o=8∨o=9∨o=10∨o=11:=by omega
 rcases ho with rfl | rfl | rfl | rfl | rfl | rfl | rfl | rfl | rfl | rfl | rfl
 ·obtain ⟨q1,q2,q3⟩:=hc.k1 rfl
  refine (Ztnb h (1,(a,(b,(t,s)))) q1 q2 q3).mono fun k e=>?_
  unfold Zhh;exact Za hcp (Za e rfl)
 ·refine (Z0ob h (2,(a,(b,(t,s)))) (hc.k2 rfl)).mono fun k e=>?_
  unfold Zhh;exact Za hcp (Za e rfl)
 ·refine (Z8nb h).mono fun k e=>?_
  unfold Zhh;exact Za hcp (Za e rfl)
 ·refine (Zgk (m:=m) hf.f h.two (Zvm h.hv)).mono fun k e=>?_
  unfold Zhh;refine Za hcp ?_;show (bif (ph==1)||(ph==5) then _ else _)=some (if ph=1∨ph=5 then Zof 10 else Z3i (Zom m v))
  by_cases q:ph=1∨ph=5
  ·rw [Xc q,show ((ph==1)||(ph==5))=true by rcases q with q | q <;> rw [q] <;> rfl]
   rfl
  ·rw [Xd q,show ((ph==1)||(ph==5))=false by
    rw [Yba];exact ⟨by simp;omega,by simp;omega⟩,Xf]
   exact Za (Zu0 v _ _ _ _ _ _ _) (Za e rfl)
 ·refine (Zgk (m:=m) hf.f h.two (a:=5) (b:=0) { hk0 with a:=by omega,b:=by omega }).mono fun k e=>?_
  unfold Zhh;refine Za hcp ?_;show (bif ph != 4 then _ else _)=some (if ph=4 then Z3i ([(false,(2,[])),Z9h]++Zie m.2 5 0 nd st dn dg v w) else Zof 10)
  by_cases q:ph=4
  ·rw [Xc q,show (ph != 4)=false by simpa using q,Xf]
   have hkl:=Zpl m.2 (Z9d (5,0,nd,st,dn,(v:Int),(w:Int),dg));exact Za e (Za (Z4 (by unfold Zie;simp;omega)) rfl)
  ·rw [Xd q,show (ph != 4)=true by simpa using q]
   rfl
 ·refine (Zbob h).mono fun k e=>?_
  unfold Zhh;exact Za hcp (Za e rfl)
 ·refine (Z5ob h).mono fun k e=>?_
  have h7:=hc.k7 rfl;dsimp only at h7;have hvl:=Zsfb h;unfold Zhh;refine Za hcp ?_;show (bif decide (m.1≤a) then _ else _)=some (if m.1≤a then Zof 8 else ([],((Z5l m ph st dn w).getD a.toNat [],([],0))))
  by_cases q:m.1≤a
  ·rw [Xc q,Xa q]
   rfl
  ·rw [Xd q,Xb q,Xf]
   have hat:=Zmo (l:=Z5l m ph st dn w) (n:=a) h7 (by omega);exact Za e (Za hat (Za hat rfl))
 ·have hmv:Ze fun k=>ph=5→Ztj k m (ph,(tr,(nd,(st,(dn,(dg,(Zb v,Zb w)))))))=some (Zg (Zc m st w)):=if h5:ph=5 then (Zx0 h (by omega)).mono fun k e _=>e else Ze.of fun k q=>absurd q h5
  refine (((Zgq ph tr nd st dn dg (Zb v) hf).and hmv).and (Ze.ge 200 fun k hk=>hk)).mono fun k ⟨⟨p3,e⟩,hk⟩=>?_
  have hj:Z6g.j0 k m.1 m.2.1 m.2.2 ph tr nd st dn dg (Zb v) (Zb w) 0=some (if ph=5 then ((Zg (Zc m st w)).length:Int)-dn else 0):=by
   unfold Z6g.j0
   by_cases h5:ph=5
   ·have hS:=h.snd (by omega)
    have hpl:=hS.plan;have hdn:=hS.dn;rw [Xc h5,show (ph==5)=true by simpa using h5,Xe];refine Za (e h5) ?_;rw [w64 (n:=((Zg (Zc m st w)).length:Int)-dn) (by omega) (by omega)]
   ·rw [Xd h5,show (ph==5)=false by simpa using h5]
    rfl
  unfold Zhh;refine Za hcp (Za (a:=([],([],(Zy6 m ph tr nd st dn v w,0)))) ?_ rfl);unfold Z6g;exact Za p3 (Za hj (Za (Z5db _ hll.2.1 (by omega)) (Za (Z3db v w (by omega)) rfl)))
 ·obtain ⟨q1,q2⟩:=hc.k9 rfl
  dsimp only at q1 q2;obtain ⟨n,rfl⟩:∃n:Nat,a=(n:Int):=⟨a.toNat,by omega⟩;have hres:∀k,200≤k→Z4c k (Zb v) (Zb w) (n:Int)=some (Zyz (Zgh (Zyb v w) (n:Int)) 11):=fun k hk=>Zeeb v w n h.hv h.hw (by omega) hk
  have goalE:Zko m (9,((n:Int),(b,(t,s)))) ph tr nd st dn dg v w=Zyr m ph tr nd st dn dg v w (n:Int):=rfl;rw [goalE];unfold Zyr;cases hq:Zgh (Zyb v w) (n:Int) with
  | none=>
   refine (Ze.ge 200 fun k hk=>hk).mono fun k hk=>?_
   have hr2:=hres k hk;rw [hq] at hr2;unfold Zhh;exact Za hcp (Za hr2 rfl)
  | some l=>
   obtain ⟨u1,u2,u3,u4⟩:=Z13 h (by omega) hq;refine ((Zgk (m:=m) hf.f h.two (v:=v ||| Zrg l) { hk0 with v:=u4 }).and (Ze.ge 200 fun k hk=>hk)).mono fun k ⟨e,hk⟩=>?_
   have hr2:=hres k hk;rw [hq] at hr2;unfold Zhh;refine Za hcp (Za hr2 ?_)
   have hbl:Zud k l=some ((Zrg l:Nat):Int):=by
    have:=Zq0 (Zrg l) u1 k (by omega);rw [← u2] at this;exact this
   have hv2:=h.hv;refine Za (Zq0 v h.hv k (by omega)) (Za hbl ?_);rw [w64 (n:=((v:Nat):Int)+((Zrg l:Nat):Int)) (by omega) (by omega),show ((v:Nat):Int)+((Zrg l:Nat):Int)=((v ||| Zrg l:Nat):Int) by rw [← Zfgb h.hv u1 u3];omega];exact Za (Z4db _ u4 k (by omega)) (Za e rfl)
 ·refine (Zgk (m:=m) hf.f h.two (v:=0) { hk0 with v:=by omega }).mono fun k e=>?_
  rw [Zer] at e;unfold Zhh;exact Za hcp (Za e rfl)
 ·refine (Zxnb h.toMS0).mono fun k e=>?_
  unfold Zhh;exact Za hcp (Za e rfl)
end
def Zbm (m:Zr) (c:Zgg):Z7l:=if Zsh m=true∧Z0j c=true then (if (Zlb m.2).1=1000000 then Zof 9 else match stM m with
 | some (ph,tr,nd,st,dn,dg,v,w)=>Zko m c ph tr nd st dn dg v w
 | none=>Zof 1) else Zof 1
theorem Zp0 (m:Zr) (c:Zgg) (hl:m.2.1.length≤1048576) (hl2:m.2.2.length≤1048576):Ze fun k=>Z6m k m c=some (Zbm m c):=by
 unfold Zbm
 cases hm:Zsh m with
 | false=>
  rw [Xd (fun q=>by cases q.1)];refine (Zlu m hl hl2).mono fun k e=>?_
  rw [hm] at e;unfold Z6m Zqi;exact Za (Za e rfl) rfl
 | true=>
  cases hc:Z0j c with
  | false=>
   rw [Xd (fun q=>by cases q.2)];refine (Zlu m hl hl2).mono fun k e=>?_
   rw [hm] at e;have ec:=Ze6 c;rw [hc] at ec;unfold Z6m Zqi;exact Za (Za e (Za ec rfl)) rfl
  | true=>
   rw [Xc ⟨rfl,rfl⟩];have es:=Ze6 c;rw [hc] at es;have hok:=Zv2 hc;cases hs:stM m with
   | none=>unfold Zsh at hm;rw [hs] at hm;cases hm
   | some z=>
    obtain ⟨ph,tr,nd,st,dn,dg,v,w⟩:=z;have h:=Z94 hs hm;dsimp only;have hgen:=Zqz m.2;have pre0:Ze fun k=>Z0i k m=some (Zas (some (ph,tr,nd,st,dn,dg,v,w))):=by rw [← hs];exact Zl6 m hl hl2
    refine ((((Zlu m hl hl2).and (Zw0 h.fit.f h.two)).and pre0).and (Zqnb h hok)).mono fun k ⟨⟨⟨e1,e2⟩,e3⟩,e4⟩=>?_
    rw [hm] at e1;unfold Z6m
    by_cases cg:(Zlb m.2).1=1000000
    ·rw [Xc cg]
     refine Za (a:=9) ?_ rfl;unfold Zqi;refine Za e1 (Za es (Za e2 ?_));rw [Xa (by omega:(1000000:Int)≤(Zlb m.2).1)];rfl
    ·rw [Xd cg]
     refine Za (a:=0) ?_ ?_
     ·unfold Zqi
      refine Za e1 (Za es (Za e2 ?_));rw [Xb (by omega:¬(1000000:Int)≤(Zlb m.2).1)];rfl
     ·show (bif ((0:Int) != 0) then _ else _)=_
      rw [show ((0:Int) != 0)=false from rfl,Xf];exact Za e3 (Za e4 rfl)
def Z6l (f:Z2) (n:Int) (s:Str):Z2:=match Z8i f n with
 | some i=>(f.1,f.2.set i (n,s))
 | none=>(f.1,f.2++[(n,s)])
def Z4h (s:List Str) (l:List Zbd):List Str:=l.foldl (fun s d=>s.set d.1.toNat d.2) s
def Z1q (f:Z2):Z2:=(Z4h f.1 f.2,[])
def doA (f:Z2) (a:Bool×Int×Str):Z2:=if a.1=true then Z1q f else Z6l f a.2.1 a.2.2
def doF (f:Z2) (l:List (Bool×Int×Str)):Z2:=l.foldl doA f
def Zzs (n:Nat) (a:Bool×Int×Str):Prop:=a.1=false→(0≤a.2.1∧a.2.1<(n:Int))∧a.2.2.length≤96
structure FlashP (f:Z2):Prop where
 n:1≤f.1.length∧f.1.length≤40
 s:∀x∈f.1,x.length≤96
 d:∀x∈f.2,(0≤x.1∧x.1<(f.1.length:Int))∧x.2.length≤96
 u:(f.2.map fun x=>x.1).Nodup
theorem FlashP.len {f:Z2} (h:FlashP f):f.2.length≤f.1.length:=by
 have:=Zhw f.1.length (f.2.map fun x=>x.1.toNat) (by
  have hu:=h.u;unfold List.Nodup at hu ⊢;rw [Yx] at hu ⊢;refine hu.imp_of_mem fun {a b} ha hb q e=>q ?_
  have:=(h.d a ha).1;have:=(h.d b hb).1;omega) (fun x hx=>by
  obtain ⟨y,hy,rfl⟩:=Ys.1 hx;have:=(h.d y hy).1;omega)
 simpa using this
theorem FlashP.b {f:Z2} (h:FlashP f):Z9f f=true:=by
 unfold Z9f
 rw [Yb,Yb]
 refine ⟨Xa ⟨h.n.1,h.n.2,h.len⟩,Yp.2 fun x hx=>Xa (h.s x hx),Yp.2 fun i hi=>?_⟩
 have hi:=Yt.1 hi
 have hg:f.2.getD i (0,[])=f.2[i]:=by rw [Yf,Yi hi];rfl
 have hd:=h.d _ (Yc hi)
 unfold okD
 rw [hg,Yb,Yb,Yb]
 refine ⟨⟨⟨Xa hd.1.1,Xa (by omega)⟩,Xa hd.2⟩,?_⟩
 rw [Y9,Yda]
 intro x hx
 obtain ⟨j,hj,rfl⟩:=Yoa.1 hx
 have hu:=Y3.1 (Yx.1 h.u) j i (by omega) hi (by omega)
 simpa using hu
theorem FlashP.of {f:Z2} (h:Z9f f=true):FlashP f:=by
 obtain ⟨h1,h2,_⟩:=Zyo h
 unfold Z9f at h
 rw [Yb,Yb] at h
 have h3:=fun i hi=>Yp.1 h.2.2 i (Yt.2 hi)
 have h4:∀i (hi:i<f.2.length),((0≤f.2[i].1∧f.2[i].1<(f.1.length:Int))∧f.2[i].2.length≤96)∧∀j (hj:j<i),f.2[j].1≠f.2[i].1:=fun i hi=>by
  have hg:f.2.getD i (0,[])=f.2[i]:=by rw [Yf,Yi hi];rfl
  have h5:=h3 i hi;unfold okD at h5;rw [hg,Yb,Yb,Yb] at h5;obtain ⟨⟨⟨a,b⟩,c⟩,d⟩:=h5;have b:=of_decide_eq_true b;refine ⟨⟨⟨of_decide_eq_true a,by omega⟩,of_decide_eq_true c⟩,fun j hj=>?_⟩;rw [Y9,Yda] at d;have:=d f.2[j] (Yoa.2 ⟨j,by omega,rfl⟩);simpa using this
 refine ⟨⟨h1.1,h1.2.1⟩,h2,fun x hx=>?_,?_⟩
 ·obtain ⟨i,hi,rfl⟩:=Yr.1 hx
  exact (h4 i hi).1
 ·refine Yx.2 (Y3.2 fun i j hi hj hij=>(h4 j hj).2 i hij)
theorem Z6v:∀(l:List Zbd) (s:List Str),(Z4h s l).length=s.length
 | [],_=>rfl
 | d::l,s=>by
  show (Z4h (s.set d.1.toNat d.2) l).length=_;rw [Z6v l,Yha]
theorem Zibb:∀(l:List Zbd) (s:List Str),(∀x∈s,x.length≤96)→(∀d∈l,d.2.length≤96)→∀x∈Z4h s l,x.length≤96
 | [],_,h,_=>h
 | d::l,s,h,hd=>by
  refine Zibb l _ (fun x hx=>?_) fun y hy=>hd y (Yka _ hy)
  rcases Y1 hx with q | q
  ·exact h x q
  ·rw [q];exact hd d Yla
theorem FlashP.sync {f:Z2} (h:FlashP f):FlashP (Z1q f):=by
 refine ⟨?_,Zibb f.2 f.1 h.s fun d hd=>(h.d d hd).2,fun x hx=>(by cases hx),Ypa⟩
 show 1≤(Z4h f.1 f.2).length∧(Z4h f.1 f.2).length≤40
 rw [Z6v]
 exact h.n
theorem FlashP.write {f:Z2} (h:FlashP f) {n:Int} {s:Str} (hn:0≤n∧n<(f.1.length:Int)) (hs:s.length≤96):FlashP (Z6l f n s):=by
 unfold Z6l
 cases hd:Z8i f n with
 | some i=>
  have hi:=Zkv hd;obtain ⟨_,_,h3,_⟩:=Zml (show Zsb (fun x:Zbd=>x.1==n) f.2 0=some i from hd);have h3:f.2[i].1=n:=by simpa using h3
  have hm:(f.2.set i (n,s)).map (fun x=>x.1)=f.2.map fun x=>x.1:=by
   rw [List.map_set];refine List.ext_getElem (by simp) fun j h1 h2=>?_
   rw [List.getElem_set];split
   ·rename_i q
    subst q;simp [h3]
   ·rfl
  refine ⟨h.n,h.s,fun x hx=>?_,?_⟩
  ·rcases Y1 hx with q | q
   ·exact h.d x q
   ·rw [q];exact ⟨hn,hs⟩
  ·show ((f.2.set i (n,s)).map fun x=>x.1).Nodup
   rw [hm];exact h.u
 | none=>
  have hno:=Zrr.1 (show Zsb (fun x:Zbd=>x.1==n) f.2 0=none from hd);refine ⟨h.n,h.s,fun x hx=>?_,?_⟩
  ·rcases Yja.1 hx with q | q
   ·exact h.d x q
   ·rw [Y2.1 q];exact ⟨hn,hs⟩
  ·show ((f.2++[(n,s)]).map fun x=>x.1).Nodup
   rw [Y0];refine List.nodup_append.2 ⟨h.u,by simp,fun a ha b hb=>?_⟩;obtain ⟨y,hy,rfl⟩:=Ys.1 ha;have:=hno y hy;simp only [List.map_cons,List.map_nil,Y2] at hb;subst hb;simpa using this
theorem Zkqb (f:Z2) (n:Int) (s:Str):(Z6l f n s).1=f.1:=by
 unfold Z6l
 split <;> rfl
theorem Zm9 (f:Z2) (a:Bool×Int×Str):(doA f a).1.length=f.1.length:=by
 unfold doA
 split
 ·exact Z6v _ _
 ·rw [Zkqb]
theorem FlashP.act {f:Z2} (h:FlashP f) {a:Bool×Int×Str} (ha:Zzs f.1.length a):FlashP (doA f a):=by
 unfold doA
 cases q:a.1 with
 | true=>exact h.sync
 | false=>exact h.write (ha q).1 (ha q).2
theorem FlashP.acts:∀(l:List (Bool×Int×Str)) {f:Z2},FlashP f→(∀a∈l,Zzs f.1.length a)→FlashP (doF f l)∧(doF f l).1.length=f.1.length
 | [],f,h,_=>⟨h,rfl⟩
 | a::l,f,h,ha=>by
  obtain ⟨h1,h2⟩:=FlashP.acts l (h.act (ha a Yla)) fun b hb=>by rw [Zm9];exact ha b (Yka _ hb)
  exact ⟨h1,by rw [← Zm9 f a];exact h2⟩
theorem Zn9 (f:Z2) {l:List (Bool×Int×Str)} {i:Nat} (h:i<l.length):doF f (l.take (i+1))=doA (doF f (l.take i)) l[i]:=by
 unfold doF
 rw [Yqa h,Yea]
 rfl
theorem Zhbb (s:List Str) {l:List Zbd} {i:Nat} (h:i<l.length):Z4h s (l.take (i+1))=(Z4h s (l.take i)).set l[i].1.toNat l[i].2:=by
 unfold Z4h
 rw [Yqa h,Yea]
 rfl
def Z3q (old fresh:Str) (n:Int):Str:=if n<1 then old else if n=1 then fresh else fresh.take (n-2).toNat
def Zwg (s:List Str) (l:List Zbd) (fs:List Int):Nat→List Str
 | 0=>s
 | i+1=>(Zwg s l fs i).set (l.getD i (0,[])).1.toNat (Z3q (s.getD (l.getD i (0,[])).1.toNat []) (l.getD i (0,[])).2 (fs.getD i 0))
def Zim (f:Z2) (fs:List Int):Z2:=(Zwg f.1 f.2 fs f.2.length,[])
theorem Z9pb {old fresh:Str} {n:Int} (h1:old.length≤96) (h2:fresh.length≤96):(Z3q old fresh n).length≤96:=by
 unfold Z3q
 split
 ·exact h1
 ·split
  ·exact h2
  ·rw [Yv];omega
theorem Zhy (s:List Str) (l:List Zbd) (fs:List Int):∀i,(Zwg s l fs i).length=s.length
 | 0=>rfl
 | i+1=>by
  unfold Zwg;rw [Yha,Zhy s l fs i]
theorem Zlt {l:List Zbd} {i:Nat} (h:i<l.length):l.getD i (0,[])=l[i]:=by rw [Yf,Yi h];rfl
theorem Zjab {l:List Str} {i:Nat} (h:i<l.length):l.getD i []=l[i]:=by rw [Yf,Yi h];rfl
theorem Za9 {f:Z2} (h:FlashP f) (fs:List Int):∀i,i≤f.2.length→∀x∈Zwg f.1 f.2 fs i,x.length≤96
 | 0,_=>h.s
 | i+1,hi=>fun x hx=>by
  unfold Zwg at hx;rcases Y1 hx with q | q
  ·exact Za9 h fs i (by omega) x q
  ·have hd:=h.d _ (Yc (show i<f.2.length by omega))
   rw [q,Zlt (by omega)];refine Z9pb ?_ hd.2;rw [Zjab (by omega)];exact h.s _ (Yc _)
theorem FlashP.crash {f:Z2} (h:FlashP f) (fs:List Int):FlashP (Zim f fs)∧(Zim f fs).1.length=f.1.length:=by
 have hl:(Zim f fs).1.length=f.1.length:=Zhy _ _ _ _
 exact ⟨⟨by rw [hl];exact h.n,Za9 h fs _ (Ya _),fun x hx=>(by cases hx),Ypa⟩,hl⟩
theorem Z98 {f:Z2} (h:FlashP f) (fs:List Int) {j:Nat} (hj:j<f.2.length):∀i,i≤j→(Zwg f.1 f.2 fs i).getD f.2[j].1.toNat []=f.1.getD f.2[j].1.toNat []
 | 0,_=>rfl
 | i+1,hi=>by
  have hd:=h.d _ (Yc hj);have hdi:=h.d _ (Yc (show i<f.2.length by omega));have hu:=Y3.1 (Yx.1 h.u) i j (by omega) hj (by omega);have ih:=Z98 h fs hj i (by omega);unfold Zwg;rw [Zlt (by omega),Yf,List.getElem?_set_ne (by omega),← Yf,ih]
def noM:Zr:=(0,([],[]))
def Z32 (m:Zr) (l:List Zjf) (n:Int) (fs:List Int):Zr:=(m.1,Zim (doF m.2 (l.take n.toNat)) fs)
def Z9s (m:Zr) (c:Zgg) (n:Int) (fs:List Int):Zr×Int:=if 400<fs.length then (noM,2) else if (Zsh m=true∧Z0j c=true)∧0≤n then (Z32 m (Zbm m c).1 n fs,0) else (noM,1)
def Zkf (n:Nat) (l:List Zjf):Prop:=∀a∈l,Zzs n a
theorem Zwo (n:Nat):Zkf n []:=fun a ha=>by cases ha
theorem Ztr {n:Nat} {a b:List Zjf} (h1:Zkf n a) (h2:Zkf n b):Zkf n (a++b):=fun x hx=>(Yja.1 hx).elim (h1 x) (h2 x)
theorem Zdab (n:Nat):Zzs n Z9h:=fun q=>by cases q
theorem Zxo (n:Nat):Zkf n [Z9h]:=fun a ha=>by rw [Y2.1 ha];exact Zdab n
theorem Zur {n:Nat} {a:Zjf} {l:List Zjf} (h1:Zzs n a) (h2:Zkf n l):Zkf n (a::l):=fun x hx=>(List.mem_cons.1 hx).elim (fun q=>q▸h1) (h2 x)
theorem Zkf.take {n:Nat} {l:List Zjf} (h:Zkf n l) (i:Nat):Zkf n (l.take i):=fun a ha=>h a (Yna ha)
theorem Z7z {n:Int} (h0:0≤n) (h:n≤1000000):(Zm n).length≤3:=by
 unfold Zm
 rw [Zyk]
 refine Zyy 10 _ 3 ?_ (by omega)
 unfold zig
 rw [Xd (by omega)]
 omega
theorem Zvcb {t:Str} (h:t.length≤1000):(Z3b t).length≤3+t.length:=by
 unfold Z3b
 rw [Yd]
 have:=Z7z (n:=(t.length:Int)) (by omega) (by omega)
 omega
theorem Z8lb {n:Int} {t:Str} (h0:0≤n) (h:n≤1000000) (ht:t.length≤80):(Zrz n t).length≤96:=by
 have h1:=Z7z h0 h
 have h2:=Zvcb (t:=t) (by omega)
 unfold Zrz
 rw [Zq6,Yd]
 omega
theorem Zfmb {n a:Int} {t:Str} (hn:0≤n∧n≤1000000) (ha:0≤a∧a≤1000000) (ht:t.length≤8):(Zak n a t).length≤96:=by
 have h1:=Z7z hn.1 hn.2
 have h2:=Z7z ha.1 ha.2
 have h3:=Zvcb (t:=t) (by omega)
 unfold Zak Zul
 rw [Zq6,Yd,Yd]
 omega
theorem Z2mb {n:Int} {x:Zk}:x.2.2.2.length≤8→(Zww n x).length≤96:=fun h=>by
 have l0:=Zhc n
 have l1:=Zhc x.1
 have l2:=Zhc x.2.1
 have l3:=Zhc x.2.2.1
 have l4:=Zij x.2.2.2
 unfold Zww Zrs
 rw [Zq6]
 simp only [Yd]
 omega
section
variable {m:Zr} {ph tr nd st dn:Int} {dg:Str} {v w:Nat}
theorem Zflb {f:Z2} {n:Nat} (h2:2≤n) {t:Str} (ht:t.length≤80):Zkf n (Zxn f t):=by
 unfold Zxn
 split
 ·rename_i hg
  have h0:=Zqz f;refine Zur (fun _=>⟨?_,Z8lb (by omega) (by omega) ht⟩) (Zxo n);dsimp only;split <;> omega
 ·exact Zwo n
theorem Zql {f:Z2} {n:Nat} (h2:2≤n) {a b c d e:Int} {x:Str} {v w:Nat} (h:Keep a b c d e x v w):Zkf n (Zie f a b c d e x v w):=Zflb h2 h.len
theorem Z9kb {n:Nat} (h2:2≤n) (hv:v<16777216):Zkf n (Zom m v):=Zql h2 (Zvm hv)
theorem Z7hb (hf:Fit m st w) (l:List Int) (hx:∀x∈l,0≤x∧x≤23):Zkf m.2.1.length (Z4e m l):=by
 have hb:=hf.b
 have hn:=hf.n
 intro a ha
 unfold Z4e at ha
 obtain ⟨x,q,rfl⟩:=Ys.1 ha
 have:=hx x (Yw.1 q).1
 exact fun _=>⟨by dsimp only;omega,by simp⟩
theorem Zulb (hf:Fit m st w) (l:List Int) (hx:∀x∈l,0≤x∧x≤23):Zkf m.2.1.length (Z4p m l):=by
 unfold Z4p
 split
 ·exact Zwo _
 ·exact Ztr (Z7hb hf l hx) (Zxo _)
theorem Z9lb (w:Nat):∀x∈Zb w,0≤x∧x≤23:=fun x hx=>by
 obtain ⟨j,hj,rfl⟩:=Yr.1 hx
 exact Zyj hj
theorem Zemb (s:Str) (n:Int) {k:Nat} (h:(Zjd s n).2.1<(k:Int)):Zzs k (Zjd s n):=fun q=>by
 refine ⟨⟨(Ze5 s n q).1,h⟩,?_⟩
 unfold Zjd at q ⊢
 split at q
 ·rename_i hq
  rw [Xc hq];split at q
  ·split at q
   ·rename_i q2
    rw [Xc q2];have:=(Ziw.1 q2.2).2.2;dsimp only;omega
   ·cases q
  ·cases q
 ·cases q
theorem Z0gb (h:MS0 m ph tr nd st dn dg v w):Zkf m.2.1.length (Zmn m ph tr nd st dn dg v w):=by
 have hf:=h.fit
 have hk0:=h.keep
 have h2:=h.two
 unfold Zmn
 by_cases c2:ph=2
 ·rw [Xc c2]
  exact Zulb hf _ fun x hx=>Z9lb w x (List.mem_of_mem_drop hx)
 ·rw [Xd c2]
  by_cases c3:ph=3
  ·rw [Xc c3]
   exact Zql h2 { hk0 with a:=by omega,b:=by omega }
  ·rw [Xd c3]
   by_cases c4:ph=4
   ·rw [Xc c4]
    by_cases ct:tr=0
    ·rw [Xc ct]
     exact Zql h2 (Zvm h.hv)
    ·rw [Xd ct]
     have hbz:=(h.busy (by omega)).2.2.2.2.1;exact Zql h2 { hk0 with a:=by omega,b:=by omega }
   ·rw [Xd c4]
    by_cases c5:ph=5
    ·rw [Xc c5]
     obtain ⟨q1,q2,q3,q4,q5,q6,q7,q8⟩:=h.busy (by omega);split
     ·exact Zwo _
     ·rename_i q
      refine Ztr (Zur (Zemb _ _ (Int.not_le.1 fun z=>q (.inr z))) (Zxo _)) (Zql h2 { hk0 with a:=by omega,e:=by omega })
    ·rw [Xd c5]
     exact Zwo _
theorem Zagb (h:MSt m ph tr nd st dn dg v w) {c:Zgg} (hc:CmdOk c):Zkf m.2.1.length (Zko m c ph tr nd st dn dg v w).1:=by
 have hf:=h.fit
 have hb:=hf.b
 have hn:=hf.n
 have h2:=h.two
 have hk0:=h.keep
 have hid:=Z9kb (m:=m) h2 h.hv
 have nil:=Zwo m.2.1.length
 unfold Zko
 split
 ·rename_i c1
  obtain ⟨q1,q2,q3⟩:=hc.k1 c1;unfold Zcr;split
  ·split
   ·rename_i l hl
    obtain ⟨u,u1,u2,u3,u4,u5⟩:=Z15 (Zvv h.hv (by omega)) (by omega) hl;refine Ztr (Ztr (fun a ha=>?_) (Zxo _)) (Zql h2 { hk0 with a:=by omega,b:=by omega,c:=by omega,d:=by omega,e:=by omega,x:=q3,w:=by omega });unfold Zbi at ha;obtain ⟨x,q,rfl⟩:=Ys.1 ha;have:=u5 x q;exact fun _=>⟨by dsimp only;omega,by simp⟩
   ·exact nil
  ·exact nil
 ·split
  ·rename_i c2
   have hx:=hc.k2 c2;unfold Zqs;split
   ·rename_i p2
    split
    ·exact nil
    ·rename_i hne
     split
     ·obtain ⟨q1,q2,q3,q4,q5,q6,q7,q8⟩:=h.busy (by omega)
      have hll:=h.log;refine Zur (fun _=>⟨?_,Z2mb (Zbx hx)⟩) ?_
      ·have:=Z2s (w:=w) (n:=st+((Zc m st w).length:Int)) (by omega) (by omega)
       dsimp only;omega
      ·split
       ·exact Zxo _
       ·exact nil
     ·exact nil
   ·exact nil
  ·split
   ·unfold Zqr
    split
    ·split
     ·split
      ·split
       ·split
        ·exact hid
        ·exact Ztr (Zxo _) (Zql h2 { hk0 with a:=by omega })
       ·exact hid
      ·exact hid
     ·exact hid
    ·exact nil
   ·split
    ·split
     ·exact nil
     ·exact hid
    ·split
     ·split
      ·refine Ztr (Zur (fun _=>⟨by dsimp only;omega,by simp⟩) (Zxo _)) (Zql h2 { hk0 with a:=by omega,b:=by omega })
      ·exact nil
     ·split
      ·unfold Zvr
       split
       ·rename_i p5
        split
        ·exact hid
        ·rename_i hne
         have hS:=h.snd (by omega);have hdn:=hS.dn;have hlt:dn<((Zg (Zc m st w)).length:Int):=by omega
         have hpl:=hS.plan;have hr:=Zr3 hS hlt;have hl:=Zs3 hS hlt
         have hr2:Zmh m st dn w<(m.2.1.length:Int):=by
          obtain ⟨_,z2,z3⟩:=Zzt hS hlt;unfold Zmh;rcases z3 with ⟨q,_,q1,q2⟩ | ⟨q,_⟩
          ·rw [Xc q];omega
          ·rw [Xd (by omega)];omega
         refine Ztr (Zur (fun _=>⟨by dsimp only;omega,?_⟩) (Zur (Zdab _) (Zur (fun _=>⟨⟨hr.1,hr2⟩,hl⟩) (Zxo _)))) (Zql h2 { hk0 with e:=by omega });dsimp only;split
         ·exact Zfmb ⟨by omega,by omega⟩ ⟨by omega,by omega⟩ (by omega)
         ·simp
       ·exact nil
      ·split
       ·split
        ·exact nil
        ·exact nil
       ·split
        ·exact nil
        ·split
         ·rename_i c9
          obtain ⟨q1,q2⟩:=hc.k9 c9;unfold Zyr;split
          ·rename_i l hl
           obtain ⟨n,hn9⟩:∃n:Nat,c.2.1=(n:Int):=⟨c.2.1.toNat,by omega⟩;rw [hn9] at hl;obtain ⟨u1,u2,u3,u4⟩:=Z13 h (by omega) hl;exact Zql h2 { hk0 with v:=u4 }
          ·exact nil
         ·split
          ·exact Zql h2 { hk0 with v:=by omega }
          ·exact Z0gb h.toMS0
end
theorem Zp7 (m:Zr) (c:Zgg):Zkf m.2.1.length (Zbm m c).1:=by
 unfold Zbm
 split
 ·rename_i hmc
  split
  ·exact Zwo _
  ·split
   ·rename_i ph tr nd st dn dg v w hs
    exact Zagb (Z94 hs hmc.1) (Zv2 hmc.2)
   ·exact Zwo _
 ·exact Zwo _
theorem Zi9 {f:Z2} {n:Int} {i:Nat} (h:Z8i f n=some i):(f.2.getD i (0,[])).1=n:=by
 obtain ⟨_,h2,h3,_⟩:=Zml (show Zsb (fun x:Zbd=>x.1==n) f.2 0=some i from h)
 rw [Zlt (Zkv h)]
 simpa using h3
theorem Z6kb {f:Z2} (h:FlashP f) (n:Int) (s:Str) {k:Nat} (hk:100≤k):Z3o k f n s=some (Z6l f n s):=by
 have hl:=h.len
 have hn:=h.n
 unfold Z3o Z6l
 refine Za (Z0y f n (by omega) (by omega)) ?_
 cases hd:Z8i f n with
 | some i=>
  have hi:=Zkv hd;have hat:=Z71 (l:=f.2) (0,[]) hi;dsimp only;rw [Xa (by omega:(0:Int)≤(i:Int)),Xe];refine Za hat (Za hat ?_);rw [Yg,Zi9 hd]
 | none=>
  dsimp only;rw [show decide ((0:Int)≤-1)=false from rfl,Xf];exact Za (Z4 (by simp;omega)) rfl
theorem Z0kb {f:Z2} (h:FlashP f) {k:Nat} (hk:100≤k):Zpf k f=some (Z1q f):=by
 have hl:=h.len
 have hn:=h.n
 have run:=Zrb (fun j i=>Zpf.l0 j (f.2.length:Int) (i:Int) f.2 (Z4h f.1 (f.2.take i))) f.2.length (Z4h f.1 f.2,f.2) (fun i hi j=>?_) (fun j=>?_) k (by omega)
 ·have run:Zpf.l0 k (f.2.length:Int) 0 f.2 f.1=some (Z4h f.1 f.2,f.2):=run
  unfold Zpf Z1q;exact Za run rfl
 ·have hd:=(h.d _ (Yc hi)).1
  have hll:=Z6v (f.2.take i) f.1;have ha:=Zbr (l:=Z4h f.1 (f.2.take i)) [] hd.1 (by rw [hll];exact hd.2)
  conv=>lhs;unfold Zpf.l0
  rw [dlt hi,Zn (by omega),Xe];refine Za (Zi hi) (Za (Zi hi) (Za ha (Za ha ?_)));rw [Zhbb _ hi]
 ·conv=>lhs;unfold Zpf.l0
  rw [Zv (Ya _),Ye];rfl
theorem Zkf.before {f:Z2} {l:List Zjf} (h:FlashP f) (hl:Zkf f.1.length l) (i:Nat):FlashP (doF f (l.take i))∧(doF f (l.take i)).1.length=f.1.length:=h.acts _ (hl.take i)
theorem Zjjb {f:Z2} (h:FlashP f) {l:List Zjf} (hl:Zkf f.1.length l) (hn:l.length≤1000) {k:Nat} (hk:1048577≤k):Z5e k f l=some (doF f l):=by
 have h2:=h.len
 have h3:=h.n
 have run:=Zrb (fun j i=>Z5e.l0 k j l (l.length:Int) (i:Int) (doF f (l.take i)).1 (doF f (l.take i)).2) l.length (doF f l) (fun i hi j=>?_) (fun j=>?_) k (by omega)
 ·have run:Z5e.l0 k k l (l.length:Int) 0 f.1 f.2=some (doF f l):=run
  have hc:Zap f=some f:=by
   unfold Zap Z6h Zik;refine Za (a:=f.1) (Za (Z4 (by simp;omega)) rfl) (Za (a:=f.2) (Za (Z4 (by simp;omega)) rfl) rfl)
  unfold Z5e;exact Za hc (Za run rfl)
 ·obtain ⟨b1,b2⟩:=hl.before h i
  conv=>lhs;unfold Z5e.l0
  rw [dlt hi,Zn (by omega),Xe,Zn9 f hi];refine Za (Zi hi) ?_;unfold doA;cases q:l[i].1 with
  | true=>
   rw [Xc rfl];exact Za (Z0kb b1 (by omega)) rfl
  | false=>
   rw [Xd Y8];exact Za (Z6kb b1 _ _ (by omega)) rfl
 ·conv=>lhs;unfold Z5e.l0
  rw [Zv (Ya _),Ye];rfl
theorem Z0db {f:Z2} (h:FlashP f):Z9k f=some f:=by
 have h2:=h.len
 have h3:=h.n
 unfold Z9k
 exact Za (Z4 (by simp;omega)) (Za (Z4 (by simp;omega)) rfl)
theorem Zlob {f:Z2} (h:FlashP f) (n:Int) (s:Str) {k:Nat} (hk:100≤k):Z2f k f n s=some (Z6l f n s):=by
 have hl:=h.len
 have hn:=h.n
 have run:=Zrh (fun j i=>Z2f.l0 j n s i [] [] f.1 f.2) f.2 (fun x=>x.1==n) (.inl ([],[],f.1,f.2)) (fun i=>.inr (f.1,f.2.set i ((f.2.getD i (0,[])).1,s))) (fun i hi=>by
  constructor
  ·intro hp j
   conv=>lhs;unfold Z2f.l0
   rw [dlt hi,Zn (by omega),Xe];refine Za (Zi hi) (Za (Zi hi) ?_);rw [hp];rfl
  ·intro hp j
   conv=>lhs;unfold Z2f.l0
   rw [dlt hi,Xe];refine Za (Zi hi) (Za (Zi hi) ?_);rw [hp,Xe];refine Za (Zi hi) (Za (Zi hi) ?_);rw [Yg,Zlt hi]) (fun j=>by
  conv=>lhs;unfold Z2f.l0
  rw [Zv (Ya _)];rfl) (k:=k) (by omega)
 unfold Z2f Z6l
 refine Za (Z0db h) ?_
 cases hd:Z8i f n with
 | some i=>
  rw [show Zsb (fun x:Zbd=>x.1==n) f.2 0=some i from hd] at run;refine Za run ?_;dsimp only;rw [Zi9 hd]
 | none=>
  rw [show Zsb (fun x:Zbd=>x.1==n) f.2 0=none from hd] at run;refine Za run ?_;exact Za (Z4 (by simp;omega)) rfl
theorem Zf6 {f:Z2} (h:FlashP f) {k:Nat} (hk:1048577≤k):Z1 k f=some true:=by
 have h2:=h.len
 have h3:=h.n
 rw [Zr0 f (by omega) (by omega) hk,h.b]
theorem Z7ob {f:Z2} (h:FlashP f) {n:Int} {s:Str} (hn:0≤n∧n<(f.1.length:Int)) (hs:s.length≤96) {k:Nat} (hk:1048577≤k):Zoq k f n s=some ((Z6l f n s).1,(Z6l f n s).2,[],0):=by
 have h3:=h.n
 have hI:Zfb n 0 (Yh .i64 ((f.1.length:Int)-1))=some true:=by
  rw [w64 (n:=(f.1.length:Int)-1) (by omega) (by omega)];unfold Zfb;rw [Xa hn.1,Xa (by omega:n≤(f.1.length:Int)-1)];rfl
 unfold Zoq
 rw [Xb (by omega:¬(8000:Int)<(s.length:Int)),Xf]
 refine Za (Zf6 h hk) ?_
 rw [Xb (by omega:¬(96:Int)<(s.length:Int)),show ((!true)||false)=false from rfl,Xf]
 refine Za hI ?_
 rw [Yo,Xf]
 exact Za (Zlob (k:=k) h n s (by omega)) rfl
theorem Z3ob {f:Z2} (h:FlashP f) {k:Nat} (hk:1048577≤k):Znq k f=some ((Z1q f).1,(Z1q f).2,[],0):=by
 have hl:=h.len
 have hn:=h.n
 have run:=Zrb (fun j i=>Zeg.l0 j f.1 f.2 (i:Int) (Z4h f.1 (f.2.take i)) []) f.2.length (Z4h f.1 f.2,[]) (fun i hi j=>?_) (fun j=>?_) k (by omega)
 ·have run:Zeg.l0 k f.1 f.2 0 f.1 []=some (Z4h f.1 f.2,[]):=run
  unfold Znq;refine Za (Zf6 h hk) (Za (a:=Z1q f) ?_ rfl);unfold Zeg Z1q;exact Za (Z4 (by simp;omega)) (Za run rfl)
 ·have hd:=(h.d _ (Yc hi)).1
  have hll:=Z6v (f.2.take i) f.1;have ha:=Zbr (l:=Z4h f.1 (f.2.take i)) [] hd.1 (by rw [hll];exact hd.2)
  conv=>lhs;unfold Zeg.l0
  rw [dlt hi,Zn (by omega),Xe];refine Za (Zi hi) (Za (Zi hi) (Za ha (Za ha ?_)));rw [Zhbb _ hi]
 ·conv=>lhs;unfold Zeg.l0
  rw [Zv (Ya _),Ye];rfl
theorem sDoF {f:Z2} (h:FlashP f) {l:List Zjf} (hl:Zkf f.1.length l) (hn:l.length≤1000) {k:Nat} (hk:1048577≤k):Zff k f l=some ((doF f l).1,(doF f l).2,[],0):=by
 have h2:=h.len
 have h3:=h.n
 have run:=Zrb (fun j i=>Zff.l0 k j l (i:Int) [] 0 (doF f (l.take i)).1 (doF f (l.take i)).2) l.length ([],0,(doF f l).1,(doF f l).2) (fun i hi j=>?_) (fun j=>?_) k (by omega)
 ·have run:Zff.l0 k k l 0 [] 0 f.1 f.2=some ([],0,(doF f l).1,(doF f l).2):=run
  unfold Zff;exact Za (Z0db h) (Za run rfl)
 ·obtain ⟨b1,b2⟩:=hl.before h i
  conv=>lhs;unfold Zff.l0
  rw [dlt hi,Zn (by omega),show (true&&((0:Int)==0))=true from rfl,Xe,Zn9 f hi];refine Za (Zi hi) ?_;unfold doA;cases q:l[i].1 with
  | true=>
   rw [Xc rfl];exact Za (Z3ob b1 hk) rfl
  | false=>
   have ha:=hl _ (Yc hi) q;rw [Xd Y8];exact Za (Zi hi) (Za (Zi hi) (Za (Z7ob b1 (by rw [b2];exact ha.1) ha.2 hk) rfl))
 ·conv=>lhs;unfold Zff.l0
  rw [Zv (Ya _),Ye];rfl
def Zil (n:Int):Prop:=n<9223372036854775808
theorem Z1kb {old fresh:Str} {n:Int} (hf:fresh.length≤96) (hn:Zil n):Zwn old fresh n=some (Z3q old fresh n):=by
 unfold Zwn Z3q
 unfold Zil at hn
 by_cases c:n<1
 ·rw [Xc c,Xa c]
  rfl
 ·rw [Xd c,Xb c,Xf]
  by_cases c1:n=1
  ·rw [Xc c1,show (n==1)=true by simpa using c1]
   rfl
  ·rw [Xd c1,show (n==1)=false by simpa using c1,Xf,w64 (n:=n-2) (by omega) (by omega)]
   obtain ⟨q,hq⟩:∃q:Nat,n-2=(q:Int):=⟨(n-2).toNat,by omega⟩;rw [hq,Yg]
   by_cases cl:q≤fresh.length
   ·have hm:Zaj (q:Int) (fresh.length:Int)=((q:Nat):Int):=by unfold Zaj;split <;> omega
    have hc:Zob fresh 0 ((q:Nat):Int)=some (fresh.take q):=Znf (l:=fresh) (i:=0) (j:=q) (Yj _) cl;rw [hm];exact Za hc rfl
   ·have hm:Zaj (q:Int) (fresh.length:Int)=((fresh.length:Nat):Int):=by unfold Zaj;split <;> omega
    have hc:Zob fresh 0 ((fresh.length:Nat):Int)=some (fresh.take fresh.length):=Znf (l:=fresh) (i:=0) (j:=fresh.length) (Yj _) (Ya _);rw [hm];refine Za hc ?_;rw [Ye,Yu (by omega)]
theorem Z4ob {old fresh:Str} {n:Int} (ho:old.length≤96) (hf:fresh.length≤96) (hn:Zil n):Zrq old fresh n=some (Z3q old fresh n):=by
 unfold Zrq Z3q
 unfold Zil at hn
 rw [Xb (by omega:¬(8000:Int)<(old.length:Int)),Xb (by omega:¬(8000:Int)<(fresh.length:Int))]
 simp only [Bool.or_self,Bool.false_or,Xf]
 by_cases c:n<1
 ·rw [Xc c,Xa c]
  rfl
 ·rw [Xd c,Xb c,Xf]
  by_cases c1:n=1
  ·rw [Xc c1,show (n==1)=true by simpa using c1]
   rfl
  ·rw [Xd c1,show (n==1)=false by simpa using c1,Xf,w64 (n:=n-2) (by omega) (by omega)]
   obtain ⟨q,hq⟩:∃q:Nat,n-2=(q:Int):=⟨(n-2).toNat,by omega⟩;rw [hq,Yg]
   by_cases cl:q≤fresh.length
   ·have hc:Zob fresh 0 ((q:Nat):Int)=some (fresh.take q):=Znf (l:=fresh) (i:=0) (j:=q) (Yj _) cl
    rw [Xb (by omega:¬(fresh.length:Int)<(q:Int)),Xf];exact Za hc rfl
   ·have hc:Zob fresh 0 ((fresh.length:Nat):Int)=some (fresh.take fresh.length):=Znf (l:=fresh) (i:=0) (j:=fresh.length) (Yj _) (Ya _)
    rw [Xa (by omega:(fresh.length:Int)<(q:Int)),Xe];refine Za hc ?_;rw [Ye,Yu (by omega)]
theorem Z69 {fs:List Int} (h:∀x∈fs,Zil x) (i:Nat):Zil (fs.getD i 0):=by
 rw [Yf]
 cases q:fs[i]? with
 | none=>show (0:Int)<9223372036854775808;omega
 | some x=>exact h x (List.mem_of_getElem? q)
theorem Z79 {fs:List Int} {i:Nat} (h:i<fs.length):fs.getD i 0=fs[i]:=by rw [Yf,Yi h];rfl
theorem Z89 {fs:List Int} {i:Nat} (h:fs.length≤i):fs.getD i 0=0:=by rw [Yf,Yfa h];rfl
theorem Zvjb {f:Z2} (h:FlashP f) {fs:List Int} (hf:∀x∈fs,Zil x) {k:Nat} (hk:1048577≤k):Zee k f fs=some (Zim f fs):=by
 have hl:=h.len
 have hn:=h.n
 have run:=Zrb (fun j i=>Zee.l0 j fs (f.2.length:Int) (i:Int) f.2 (Zwg f.1 f.2 fs i)) f.2.length (Zwg f.1 f.2 fs f.2.length,f.2) (fun i hi j=>?_) (fun j=>?_) k (by omega)
 ·have run:Zee.l0 k fs (f.2.length:Int) 0 f.2 f.1=some (Zwg f.1 f.2 fs f.2.length,f.2):=run
  unfold Zee Zim;exact Za run rfl
 ·have hd:=h.d _ (Yc hi)
  have hll:=Zhy f.1 f.2 fs i;have ha:=Zbr (l:=Zwg f.1 f.2 fs i) [] hd.1.1 (by rw [hll];exact hd.1.2);rw [Z98 h fs hi i (Ya _)] at ha;have hT:=Z1kb (old:=f.1.getD f.2[i].1.toNat []) hd.2 (Z69 hf i)
  have hend:Zee.l0 j fs (f.2.length:Int) ((i+1:Nat):Int) f.2 ((Zwg f.1 f.2 fs i).set f.2[i].1.toNat (Z3q (f.1.getD f.2[i].1.toNat []) f.2[i].2 (fs.getD i 0)))=Zee.l0 j fs (f.2.length:Int) ((i+1:Nat):Int) f.2 (Zwg f.1 f.2 fs (i+1)):=by
   rw [Zwg,Zlt hi]
  conv=>lhs;unfold Zee.l0
  rw [dlt hi,Zn (by omega),Xe];refine Za (Zi hi) (Za (Zi hi) ?_)
  by_cases c:i<fs.length
  ·rw [Z79 c] at hT hend
   rw [dlt c,Xe];exact Za (Zi c) (Za ha (Za ha (Za hT (Za ha (Za ha hend)))))
  ·rw [Z89 (by omega)] at hT hend
   rw [Zv (by omega),Xf];exact Za ha (Za ha (Za hT (Za ha (Za ha hend))))
 ·conv=>lhs;unfold Zee.l0
  rw [Zv (Ya _)];rfl
theorem Z3nb {f:Z2} (h:FlashP f) {fs:List Int} (hf:∀x∈fs,Zil x) (hfl:fs.length≤400) {k:Nat} (hk:1048577≤k):Zsc k f fs=some (Zim f fs):=by
 have hl:=h.len
 have hn:=h.n
 have run:=Zrb (fun j i=>Zsc.l1 j fs f.1 f.2 (i:Int) (Zwg f.1 f.2 fs i) []) f.2.length (Zwg f.1 f.2 fs f.2.length,[]) (fun i hi j=>?_) (fun j=>?_) k (by omega)
 ·have run:Zsc.l1 k fs f.1 f.2 0 f.1 []=some (Zwg f.1 f.2 fs f.2.length,[]):=run
  unfold Zsc Zim;rw [Xb (by omega:¬(400:Int)<(fs.length:Int)),Xf];exact Za (Zf6 h hk) (Za (Z4 (by simp;omega)) (Za run rfl))
 ·have hd:=h.d _ (Yc hi)
  have hll:=Zhy f.1 f.2 fs i;have ha:=Zbr (l:=Zwg f.1 f.2 fs i) [] hd.1.1 (by rw [hll];exact hd.1.2);have hb:=Zbr (l:=f.1) [] hd.1.1 hd.1.2
  have hs0:(f.1.getD f.2[i].1.toNat []).length≤96:=by
   rw [Zjab (by omega)];exact h.s _ (Yc _)
  have hT:=Z4ob hs0 hd.2 (Z69 hf i)
  have hj:Zsc.j0 fs (i:Int) 0=some (fs.getD i 0):=by
   unfold Zsc.j0
   by_cases c:i<fs.length
   ·rw [Z79 c,dlt c,Xe]
    exact Za (Zi c) rfl
   ·rw [Z89 (by omega),Zv (by omega)]
    rfl
  conv=>lhs;unfold Zsc.l1
  rw [dlt hi,Zn (by omega),Xe];refine Za hj (Za (Zi hi) (Za (Zi hi) (Za hb (Za (Zi hi) (Za hT (Za ha (Za ha ?_)))))));rw [Zwg,Zlt hi]
 ·conv=>lhs;unfold Zsc.l1
  rw [Zv (Ya _)];rfl
theorem Zslb (m:Zr) (l:List Int):(Z4p m l).length≤l.length+1:=by
 have:=Znv m l
 unfold Z4p
 split
 ·simp
 ·rw [Yd]
  simp;omega
theorem Zcbb (f:Z2) (a b c d e:Int) (x:Str) (v w:Nat):(Zie f a b c d e x v w).length≤2:=Zpl _ _
theorem Zzgb (m:Zr) (ph tr nd st dn:Int) (dg:Str) (v w:Nat):(Zmn m ph tr nd st dn dg v w).length≤100:=by
 have hk:=fun a b c d e x v w=>Zcbb m.2 a b c d e x v w
 have hl:=Z7c w
 unfold Zmn
 split
 ·have:=Zslb m ((Zb w).drop (st+Zdh (Zc m st w)).toNat)
  rw [List.length_drop] at this;omega
 ·split
  ·exact Yn (hk _ _ _ _ _ _ _ _) (by omega)
  ·split
   ·split
    ·exact Yn (hk _ _ _ _ _ _ _ _) (by omega)
    ·exact Yn (hk _ _ _ _ _ _ _ _) (by omega)
   ·split
    ·split
     ·simp
     ·rw [Yd]
      have:=hk 5 tr nd st (dn+1) dg v w;simp only [Yq,Ym];omega
    ·simp
def Zv1 (a:Z7l):Prop:=a.1.length≤100∧a.2.2.1.length≤100
theorem Zpj (c:Int):Zv1 (Zof c):=⟨by simp [Zof],by simp [Zof]⟩
theorem Zlq {l:List Zjf} (h:l.length≤100):Zv1 (Z3i l):=⟨h,by simp [Z3i]⟩
theorem Zbgb (m:Zr) (c:Zgg):Zv1 (Zbm m c):=by
 have hk:=fun a b c d e x v w=>Zcbb m.2 a b c d e x v w
 have hid:∀v,(Zom m v).length≤100:=fun v=>Yn (hk _ _ _ _ _ _ _ _) (by omega)
 unfold Zbm
 split
 ·split
  ·exact Zpj _
  ·split
   ·rename_i ph tr nd st dn dg v w hs
    unfold Zko;split
    ·unfold Zcr
     split
     ·split
      ·rename_i l hl
       have hle:l.length≤24:=by
        unfold Zgh at hl;split at hl
        ·cases hl
        ·rename_i hn
         have:=Z7c (Zyb v 0);split at hl
         ·cases hl
          rw [Z40];omega
         ·cases hl
          rw [Yv];omega
       refine Zlq ?_;have:=hk 2 0 c.2.1 c.2.2.1 0 c.2.2.2.1 v (Zrg l);simp only [Yd,Zbi,Yga,Yq,Ym];omega
      ·exact Zpj _
     ·exact Zpj _
    ·split
     ·unfold Zqs
      split
      ·split
       ·exact Zpj _
       ·split
        ·refine Zlq ?_
         split <;> simp
        ·exact Zpj _
      ·exact Zpj _
     ·split
      ·unfold Zqr
       split
       ·split
        ·split
         ·split
          ·split
           ·exact ⟨hid v,by simp⟩
           ·refine Zlq ?_
            have:=hk 3 tr nd st dn dg v w;simp only [Yd,Yq,Ym];omega
          ·exact ⟨hid v,by simp⟩
         ·exact ⟨hid v,by simp⟩
        ·exact ⟨hid v,by simp⟩
       ·exact Zpj _
      ·split
       ·split
        ·exact Zpj _
        ·exact Zlq (hid v)
       ·split
        ·split
         ·refine Zlq ?_
          have:=hk 5 0 nd st dn dg v w;simp only [Yd,Yq,Ym];omega
         ·exact Zpj _
        ·split
         ·unfold Zvr
          split
          ·split
           ·exact ⟨hid v,by simp⟩
           ·refine ⟨?_,by simp⟩
            have:=hk ph tr nd st (dn+1) dg v w;simp only [Yd,Yq,Ym];omega
          ·exact Zpj _
         ·split
          ·split
           ·exact Zpj _
           ·exact ⟨by simp,by simp⟩
          ·split
           ·exact ⟨by simp,by simp [Zy6]⟩
           ·split
            ·unfold Zyr
             split
             ·exact Zlq (Yn (hk _ _ _ _ _ _ _ _) (by omega))
             ·exact Zpj _
            ·split
             ·exact Zlq (Yn (hk _ _ _ _ _ _ _ _) (by omega))
             ·exact Zlq (Zzgb _ _ _ _ _ _ _ _ _)
   ·exact Zpj _
 ·exact Zpj _
theorem Ztpb (c:Zgg) (n:Int) (h1:c.2.2.2.1.length≤140737488351232) (h2:c.2.2.2.2.2.2.2.length≤140737488351232) (h0:0≤n) (hn:n≤1048576):∃v,Zyp c n=some v:=by
 unfold Zyp
 dsimp only
 rw [w64 (n:=n-(c.2.2.2.1.length:Int)) (by omega) (by omega)]
 cases decide (n-(c.2.2.2.1.length:Int)<0) with
 | true=>exact ⟨-1,rfl⟩
 | false=>
  rw [Xf];unfold Z6r;dsimp only;rw [w64 (n:=n-(c.2.2.2.1.length:Int)-(c.2.2.2.2.2.2.2.length:Int)) (by omega) (by omega)];cases decide (n-(c.2.2.2.1.length:Int)-(c.2.2.2.2.2.2.2.length:Int)<0) with
  | true=>exact ⟨-1,rfl⟩
  | false=>
   simp only [Xf,Yk];cases decide (n-(c.2.2.2.1.length:Int)-(c.2.2.2.2.2.2.2.length:Int)<0) <;> exact ⟨_,rfl⟩
def flC (d:Zr×Int):Int×List Str×List Zbd×Int:=(d.1.1,d.1.2.1,d.1.2.2,d.2)
theorem Zvbb {m:Zr} (h:Zsh m=true):FlashP m.2:=by
 unfold Zsh at h
 cases hs:stM m with
 | none=>rw [hs] at h;cases h
 | some z=>
  obtain ⟨ph,tr,nd,st,dn,dg,v,w⟩:=z;exact FlashP.of (Z84 hs).fit.f
theorem Zkjb {m:Zr} {c:Zgg} (hm:Zsh m=true) (hc:Z0j c=true):Ze fun k=>Zwc k m c=some (Zbm m c):=by
 unfold Zbm
 rw [Xc ⟨hm,hc⟩]
 cases hs:stM m with
 | none=>unfold Zsh at hm;rw [hs] at hm;cases hm
 | some z=>
  obtain ⟨ph,tr,nd,st,dn,dg,v,w⟩:=z;exact Zljb hs (Z94 hs hm) (Zv2 hc)
theorem Z2nb (m:Zr) (c:Zgg) (hl:m.2.1.length≤1048576) (hl2:m.2.2.length≤1048576):∃n:Int,(Ze fun k=>Zqi k m c=some n)∧((n==1) = !(Zsh m&&Z0j c)):=by
 have ec:=Ze6 c
 cases hm:Zsh m with
 | false=>
  refine ⟨1,(Zlu m hl hl2).mono fun k e=>?_,rfl⟩;rw [hm] at e;unfold Zqi;exact Za e rfl
 | true=>
  cases hc:Z0j c with
  | false=>
   refine ⟨1,(Zlu m hl hl2).mono fun k e=>?_,rfl⟩;rw [hm] at e;rw [hc] at ec;unfold Zqi;exact Za e (Za ec rfl)
  | true=>
   rw [hc] at ec;cases hs:stM m with
   | none=>unfold Zsh at hm;rw [hs] at hm;cases hm
   | some z=>
    obtain ⟨ph,tr,nd,st,dn,dg,v,w⟩:=z;have h:=Z84 hs;refine ⟨if 1000000≤(Zlb m.2).1 then 9 else 0,((Zlu m hl hl2).and (Zw0 h.fit.f h.two)).mono fun k ⟨e,e2⟩=>?_,by split <;> rfl⟩;rw [hm] at e;unfold Zqi;refine Za e (Za ec (Za e2 ?_))
    by_cases c9:1000000≤(Zlb m.2).1
    ·rw [Xc c9,Xa c9]
     rfl
    ·rw [Xd c9,Xb c9]
     rfl
theorem Zzpb {α:Type} (l:List α) {n:Int} (h:0≤n):Zob l 0 (Zaj n (l.length:Int))=some (l.take n.toNat):=by
 obtain ⟨q,rfl⟩:∃q:Nat,n=(q:Int):=⟨n.toNat,by omega⟩
 rw [Yg]
 by_cases c:q≤l.length
 ·have hm:Zaj (q:Int) (l.length:Int)=((q:Nat):Int):=by unfold Zaj;split <;> omega
  rw [hm];exact Znf (l:=l) (i:=0) (j:=q) (Yj _) c
 ·have hm:Zaj (q:Int) (l.length:Int)=((l.length:Nat):Int):=by unfold Zaj;split <;> omega
  have hc:Zob l 0 ((l.length:Nat):Int)=some (l.take l.length):=Znf (l:=l) (i:=0) (j:=l.length) (Yj _) (Ya _);rw [hm,hc,Ye,Yu (by omega)]
theorem Z9nb (l:List Zjf) {n:Int} (h:0≤n):Zyq l n=some (l.take n.toNat):=by
 obtain ⟨q,rfl⟩:∃q:Nat,n=(q:Int):=⟨n.toNat,by omega⟩
 rw [Yg]
 unfold Zyq
 by_cases c:q<l.length
 ·rw [dlt c,Xe]
  exact Za (Znf (l:=l) (i:=0) (j:=q) (Yj _) (by omega)) rfl
 ·rw [Zv (by omega),Xf,Yu (by omega)]
def flM (m:Zr):Int×List Str×List Zbd:=(m.1,m.2.1,m.2.2)
theorem Zxjb {m:Zr} (hF:FlashP m.2) {l:List Zjf} (hl:Zkf m.2.1.length l) (hn:l.length≤1000) {n:Int} (h0:0≤n) {fs:List Int} (hf:∀x∈fs,Zil x) {k:Nat} (hk:1048577≤k):Z4o k m l n fs=some (flM (Z32 m l n fs)):=by
 have hz:Z0r l=some (l.length:Int):=rfl
 unfold Z4o
 exact Za hz (Za (Zzpb l h0) (Za (Zjjb hF (hl.take _) (by rw [Yv];omega) hk) (Za (Zvjb (hF.acts _ (hl.take _)).1 hf hk) rfl)))
theorem Z2gb (m:Zr) (c:Zgg) (n:Int) {fs:List Int} (hf:∀x∈fs,Zil x) (hl:m.2.1.length≤1048576) (hl2:m.2.2.length≤1048576):(Ze fun k=>Z6j k m c n fs=some (flC (Z9s m c n fs)))∧Ze fun k=>Z3k k m c n fs=some (flC (Z9s m c n fs)):=by
 obtain ⟨z,hz,hz1⟩:=Z2nb m c hl hl2
 unfold Z9s
 by_cases cl:400<fs.length
 ·rw [Xc cl]
  constructor
  ·refine Ze.of fun k=>?_
   unfold Z6j;rw [Xa (by omega:(400:Int)<(fs.length:Int))];rfl
  ·refine Ze.of fun k=>?_
   unfold Z3k;rw [Xa (by omega:(400:Int)<(fs.length:Int))];rfl
 ·rw [Xd cl]
  have d4:decide ((400:Int)<(fs.length:Int))=false:=Xb (by omega);cases hm:Zsh m with
  | false=>
   rw [Xd (fun q=>by cases q.1.1)];rw [hm] at hz1;constructor
   ·refine (Z4y m hl hl2).mono fun k e=>?_
    rw [hm] at e;unfold Z6j;rw [d4,Xf];exact Za e rfl
   ·refine (hz.and (Zp0 m c hl hl2)).mono fun k ⟨e,e2⟩=>?_
    unfold Z3k;rw [d4,Xf];refine Za e2 ?_;cases decide (n<0) with
    | true=>rfl
    | false=>
     refine Za e ?_;rw [hz1];rfl
  | true=>
   cases hc:Z0j c with
   | false=>
    rw [Xd (fun q=>by cases q.1.2)];rw [hm,hc] at hz1;have ec:=iCmd c;rw [hc] at ec;constructor
    ·refine (Z4y m hl hl2).mono fun k e=>?_
     rw [hm] at e;unfold Z6j;rw [d4,Xf];exact Za e (Za ec rfl)
    ·refine (hz.and (Zp0 m c hl hl2)).mono fun k ⟨e,e2⟩=>?_
     unfold Z3k;rw [d4,Xf];refine Za e2 ?_;cases decide (n<0) with
     | true=>rfl
     | false=>
      refine Za e ?_;rw [hz1];rfl
   | true=>
    rw [hm,hc] at hz1;have ec:=iCmd c;rw [hc] at ec;have hF:=Zvbb hm;have hfit:=Zp7 m c;have hsm:=(Zbgb m c).1
    by_cases h0:0≤n
    ·rw [Xc ⟨⟨rfl,rfl⟩,h0⟩]
     have hft:=hfit.take n.toNat;have hlt:((Zbm m c).1.take n.toNat).length≤1000:=by rw [Yv];omega
     constructor
     ·refine (((Z4y m hl hl2).and (Zkjb hm hc)).and (Ze.ge 1048577 fun k hk=>hk)).mono fun k ⟨⟨e,e2⟩,hk⟩=>?_
      rw [hm] at e;unfold Z6j;rw [d4,Xf];refine Za e (Za ec ?_);rw [Xb (by omega:¬n<0)];exact Za e2 (Za (Zxjb hF hfit (by omega) h0 hf hk) rfl)
     ·refine ((hz.and (Zp0 m c hl hl2)).and (Ze.ge 1048577 fun k hk=>hk)).mono fun k ⟨⟨e,e2⟩,hk⟩=>?_
      unfold Z3k;rw [d4,Xf];refine Za e2 ?_;rw [Xb (by omega:¬n<0),Xf];refine Za e ?_;rw [hz1];exact Za (Z9nb _ h0) (Za (sDoF hF hft hlt hk) (Za (Z3nb (hF.acts _ hft).1 hf (by omega) hk) rfl))
    ·rw [Xd (fun q=>h0 q.2)]
     constructor
     ·refine (Z4y m hl hl2).mono fun k e=>?_
      rw [hm] at e;unfold Z6j;rw [d4,Xf];refine Za e (Za ec ?_);rw [Xa (by omega:n<0)];rfl
     ·refine (Zp0 m c hl hl2).mono fun k e2=>?_
      unfold Z3k;rw [d4,Xf];refine Za e2 ?_;rw [Xa (by omega:n<0)];rfl
structure Lean1 (m:Zr):Prop where
 s:m.2.1.length≤1048576
 d:m.2.2.length≤1048576
theorem Z9bb:Lean1 noM:=⟨by simp [noM],by simp [noM]⟩
theorem Zohb {m:Zr} (h:FlashP m.2) {l:List Zjf} (hl:Zkf m.2.1.length l) (n:Int) (fs:List Int):Lean1 (Z32 m l n fs):=by
 have h1:=(h.acts _ (hl.take n.toNat)).1.crash fs
 have h2:=h1.1.n
 have h3:=h1.1.len
 exact ⟨by show (Zim _ fs).1.length≤_;omega,by show (Zim _ fs).2.length≤_;omega⟩
theorem Znhb (m:Zr) (c:Zgg) (n:Int) (fs:List Int):Lean1 (Z9s m c n fs).1:=by
 unfold Z9s
 split
 ·exact Z9bb
 ·split
  ·rename_i h
   exact Zohb (Zvbb h.1.1) (Zp7 m c) n fs
  ·exact Z9bb
theorem Z5lb (l:List Str) (k0:Nat) (h:k0+l.length<9223372036854775807):Ze fun k=>Zxf k l (k0:Int)=some (((k0+l.length:Nat):Int),Z9j l.length k0):=by
 have hm:=Ze.all (n:=l.length) (p:=fun i k=>Z2c k ((k0+i:Nat):Int)=some (mt ((k0+i:Nat):Int))) fun i hi=>Zlz _ (by omega)
 have key:Ze fun k=>Zxf.l0 k k (k0:Int) 0 l=some (((k0+l.length:Nat):Int),Z9j l.length k0):=by
  refine Zov (fun k j i=>Zxf.l0 k j ((k0+i:Nat):Int) (i:Int) ((Y4 i).map (fun (i:Nat)=>mt ((k0+i:Nat):Int))++l.drop i)) l.length _ (hm.mono fun k hk i hi j=>?_) (Ze.of fun k j=>?_)
  ·have hlen:=Z6p l (fun (i:Nat)=>mt ((k0+i:Nat):Int)) i (by omega)
   conv=>lhs;unfold Zxf.l0
   rw [hlen,Xa (by omega:(i:Int)<(l.length:Int))];simp only [Xe];rw [hk i hi];simp only [Yk];rw [Zi (by rw [hlen];exact hi)];simp only [Yk];rw [Yg,Zdw l (fun (i:Nat)=>mt ((k0+i:Nat):Int)) i hi,Zn (by omega),Zn (by omega)];rfl
  ·conv=>lhs;unfold Zxf.l0
   have hlen:=Z6p l (fun (i:Nat)=>mt ((k0+i:Nat):Int)) l.length (Ya _);rw [hlen,Xb (by omega:¬((l.length:Int)<(l.length:Int)))];simp only [Xf];rw [List.drop_length,List.append_nil];refine congrArg some (congrArg (Prod.mk _) (List.map_congr_left fun i hi=>?_));rw [Int.natCast_add]
 refine key.mono fun k hk=>?_
 unfold Zxf
 rw [hk]
 rfl
theorem Zijb (n:Nat) (k0:Nat) (h:k0+n<9223372036854775807):Ze fun k=>Zwf k (Z9j n k0) (k0:Int)=some ((k0+n:Nat):Int):=by
 have hm:=Ze.all (n:=n) (p:=fun i k=>Z2c k ((k0+i:Nat):Int)=some (mt ((k0+i:Nat):Int))) fun i hi=>Zlz _ (by omega)
 have hl:(Z9j n k0).length=n:=by simp [Z9j]
 have key:Ze fun k=>Zwf.l0 k k (Z9j n k0) (k0:Int) 0=some (.inl ((k0+n:Nat):Int)):=by
  refine Zov (fun k j i=>Zwf.l0 k j (Z9j n k0) ((k0+i:Nat):Int) (i:Int)) n _ (hm.mono fun k hk i hi j=>?_) (Ze.of fun k j=>?_)
  ·conv=>lhs;unfold Zwf.l0
   rw [hl,Xa (by omega:(i:Int)<(n:Int))];simp only [Xe];rw [Zi (by rw [hl];exact hi)];simp only [Yk];rw [hk i hi]
   have e:(Z9j n k0)[i]'(by rw [hl];exact hi)=mt ((k0+i:Nat):Int):=by
    simp [Z9j]
   simp only [Yk,e,Zwgb,Yo,Xf];rw [Zn (by omega),Zn (by omega)];rfl
  ·conv=>lhs;unfold Zwf.l0
   rw [hl,Xb (by omega:¬((n:Int)<(n:Int)))];rfl
 refine key.mono fun k hk=>?_
 unfold Zwf
 rw [hk]
 rfl
end Go.Proofs.Qz
