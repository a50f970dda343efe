/- What the law FnExactDo needs, part 14 of 15: the Lean functions of the Go functions that it reaches, with the proofs that the calls come to what they say, and plain facts about them. Conditions: those that each theorem states. Written by a session and by its programs (after the kit's printer). -/
import Derived.Lib.Join
import Derived.Test.YtpcllejjdmmjcaaGreatDoorXFnExactDo9
import Derived.Test.YtpcllejjdmmjcaaGreatDoorXFnExactDo10
import Derived.Test.YtpcllejjdmmjcaaGreatDoorXFnExactDo11
import Derived.Test.YtpcllejjdmmjcaaGreatDoorXFnExactDo12
open Nat renaming le_refl → Ya, le_trans → Yl, lt_of_lt_of_le → Y0, pow_le_pow_right → Y1, testBit_lt_two_pow → Y2, eq_of_testBit_eq → Yla, or_lt_two_pow → Yma
open Bool renaming and_eq_true → Yb, not_true → Ym, false_ne_true → Y3, not_eq_true' → Y4, not_false → Y5, or_eq_false_iff → Y6, true_and → Y7
open List renaming length_append → Yc, range → Yd, getElem_mem → Yf, take_length → Yg, length_nil → Yk, all_eq_true → Yn, length_cons → Yo, mem_iff_getElem → Yp, mem_map → Yq, mem_range → Yr, mem_filter → Ys, append_nil → Yv, drop_length → Yw, map_append → Yx, mem_singleton → Yy, pairwise_map → Yz, any_eq_false → Y9, foldl_append → Yaa, length_map → Yba, length_singleton → Yca, mem_append → Yda, mem_cons_of_mem → Yea, mem_cons_self → Yfa, mem_of_mem_take → Yga, mem_or_eq_of_mem_set → Yha, mem_take_iff_getElem → Yia, pairwise_iff_getElem → Yja, take_succ_eq_append_getElem → Yka
open Go.IntKind renaming wrap → Ye
open Option renaming bind_some → Yh, bind → Yt
open Int renaming toNat_natCast → Yi, toNat → Y8
open BitVec renaming ofInt → Yj, getLsbD → Yu
namespace Go.Proofs.Qz
open Go
set_option linter.unusedVariables false
theorem Zyfb (a:Nat) (ha:a<16777216):intBits .andNot .i64 16777215 (a:Int)=((16777215 ^^^ a:Nat):Int):=by
 have h0:(Yj 64 (a:Int)).toNat=a:=by
  rw [BitVec.toNat_ofInt]
  omega
 have h1:(Yj 64 16777215 &&& ~~~ Yj 64 (a:Int)).toNat=16777215 ^^^ a:=by
  refine Yla fun i=>?_
  rw [← Yu,BitVec.getLsbD_and,BitVec.getLsbD_not,Nat.testBit_xor,Yu,Yu,h0]
  have h5:(Yj 64 16777215).toNat=16777215:=rfl
  rw [h5]
  by_cases hi:i<24
  ·rw [Ztbb hi,decide_eq_true (by omega:i<64)]
   cases a.testBit i <;> rfl
  ·have q1:(16777215:Nat).testBit i=false:=Y2 (Y0 (by decide:16777215<2^24) (Y1 (by omega) (by omega)))
   have q2:a.testBit i=false:=Y2 (Y0 (show a<2^24 by simpa using ha) (Y1 (by omega) (by omega)))
   rw [q1,q2]
   simp
 have hlt:16777215 ^^^ a<2^24:=Nat.xor_lt_two_pow (by omega) (by simpa using ha)
 have hlt:16777215 ^^^ a<16777216:=by simpa using hlt
 unfold intBits
 show Ye .i64 (((Yj 64 16777215 &&& ~~~ Yj 64 (a:Int)).toNat:Nat):Int)=_
 rw [h1]
 exact w64 (by omega) (by omega)
theorem Zmjb (v w:Nat) (hv:v<16777216) (hw:w<16777216) {k:Nat} (hk:24<k):Z4o k (Zb v) (Zb w)=some (Zb (Zxb v w)):=by
 have ho:v ||| w<16777216:=by
  have:v ||| w<2^24:=Yma (by simpa using hv) (by simpa using hw)
  simpa using this
 unfold Z4o
 refine Za (Zuo v hv k hk) (Za (Zuo w hw k hk) ?_)
 rw [ori v w (by omega) (by omega),Zyfb _ ho]
 exact Za (Zky _ (Zfv hv hw) k hk) rfl
theorem Zhdb (v w:Nat) {k:Nat} (hk:100<k):Z5d k (Zb v) (Zb w)=some (Zb (Zxb v w)):=by
 have hlv:=Z6c v
 have hlw:=Z6c w
 have run:=Zrb (fun j i=>Z5d.l0 k j (Zb v) (Zb w) (i:Int) ((Ztb (Zxb v w) i).map fun n=>((n:Nat):Int))) 24 (Zb (Zxb v w)) (fun i hi j=>?_) (fun j=>?_) k (by omega)
 ·have run:Z5d.l0 k k (Zb v) (Zb w) 0 []=some (Zb (Zxb v w)):=run
  unfold Z5d
  exact Za run rfl
 ·have hn:=Zpx (Zxb v w) i
  have m1:decide (((i:Nat):Int)∈Zb v)=v.testBit i:=by
   cases hb:v.testBit i with
   | true=>exact decide_eq_true (Zwn.2 ⟨hi,hb⟩)
   | false=>exact decide_eq_false fun q=>by rw [(Zwn.1 q).2] at hb;cases hb
  have m2:decide (((i:Nat):Int)∈Zb w)=w.testBit i:=by
   cases hb:w.testBit i with
   | true=>exact decide_eq_true (Zwn.2 ⟨hi,hb⟩)
   | false=>exact decide_eq_false fun q=>by rw [(Zwn.1 q).2] at hb;cases hb
  conv=>lhs;unfold Z5d.l0
  rw [decide_eq_true (by omega:(i:Int)<24),Zn (by omega),cond_true,Z5q,Z72 hi]
  refine Za (Za0 _ _ (by omega) k (by omega)) ?_
  rw [m1]
  cases v.testBit i with
  | true=>rfl
  | false=>
   simp only [Y5,cond_true,Y7]
   refine Za (Za0 _ _ (by omega) k (by omega)) ?_
   rw [m2]
   cases w.testBit i with
   | true=>rfl
   | false=>
    simp only [Y5,cond_true,if_true]
    refine Za (Z3 (by simp;omega)) ?_
    rw [Yx]
    rfl
 ·conv=>lhs;unfold Z5d.l0
  rfl
theorem Zsob (l:List Zlg) (x y:Zlg):(l++[x]).set l.length y=l++[y]:=by
 rw [List.set_append_right _ _ (Ya _),Nat.sub_self]
 rfl
theorem Zy3 {acc:List Zlg} {e:Zlg} (h:acc.getLast? = some e):acc=acc.dropLast++[e]∧at? acc (((acc.length-1:Nat)):Int)=some e∧0<acc.length:=by
 have h1:acc=acc.dropLast++[e]:=by
  rw [List.getLast?_eq_some_iff] at h
  obtain ⟨l,rfl⟩:=h
  rw [List.dropLast_concat]
 have h2:0<acc.length:=by rw [h1];simp
 refine ⟨h1,?_,h2⟩
 rw [Zi (by omega)]
 rw [List.getLast?_eq_getElem?] at h
 rw [List.getElem?_eq_getElem (by omega)] at h
 exact h
theorem Z76 {acc:List Zlg} {e:Zlg} (h:acc.getLast? = some e) (n:Int):Z6l acc n=if e.1+e.2=n then acc.set (acc.length-1) (e.1,e.2+1) else acc++[(n,1)]:=by
 have h1:=(Zy3 h).1
 unfold Z6l
 rw [h]
 dsimp only
 split
 ·generalize acc.dropLast=d at h1
  subst h1
  rw [Yc,Yca,Nat.add_sub_cancel,Zsob]
 ·rfl
theorem Zs5 {v:Nat} {i:Nat} {e:Zlg} (h:e∈Zeb ((Zb v).take i)):0≤e.1∧1≤e.2∧e.1+e.2≤24:=by
 obtain ⟨h1,h2⟩:=Zbdb _ e h
 have lim:∀x∈(Zb v).take i,0≤x∧x≤23:=fun x hx=>by
  obtain ⟨j,hj,rfl⟩:=Yp.1 (Yga hx)
  exact Zvj hj
 have:=lim _ (h2 e.1 (Int.le_refl _) (by omega))
 have:=lim _ (h2 (e.1+e.2-1) (by omega) (by omega))
 omega
theorem Z4jb (v:Nat) {k:Nat} (hk:100<k):Zpe k (Zb v)=some (Zeb (Zb v)):=by
 have hlv:=Z6c v
 have run:=Zrb (fun j i=>Zpe.l0 j (Zb v) ((Zb v).length:Int) (i:Int) (Zeb ((Zb v).take i))) (Zb v).length (Zeb (Zb v)) (fun i hi j=>?_) (fun j=>?_) k (by omega)
 ·have run:Zpe.l0 k (Zb v) ((Zb v).length:Int) 0 []=some (Zeb (Zb v)):=run
  unfold Zpe
  exact Za run rfl
 ·have hrl:=Z5z (Zb v) i
  have hx:=Zvj hi
  conv=>lhs;unfold Zpe.l0
  rw [dlt hi,Zn (by omega),cond_true,Z6z hi]
  refine Za (Zi hi) ?_
  dsimp only
  rw [w64 (n:=((Zeb ((Zb v).take i)).length:Int)-1) (by omega) (by omega)]
  cases hl:(Zeb ((Zb v).take i)).getLast? with
  | none=>
   have he:Zeb ((Zb v).take i)=[]:=List.getLast?_eq_none_iff.1 hl
   rw [he]
   have ha:Zt 16 ([]:List Zlg) [((Zb v)[i],1)]=some [((Zb v)[i],1)]:=Z3 (by simp only [Yk,Yca];omega)
   exact Za ha rfl
  | some e=>
   obtain ⟨h1,h2,h3⟩:=Zy3 hl
   have hr:=Zs5 (v:=v) (i:=i) (e:=e) (List.mem_of_getLast? hl)
   have hat:at? (Zeb ((Zb v).take i)) (((Zeb ((Zb v).take i)).length:Int)-1)=some e:=by
    have q:((Zeb ((Zb v).take i)).length:Int)-1=(((Zeb ((Zb v).take i)).length-1:Nat):Int):=by omega
    rw [q]
    exact h2
   rw [decide_eq_true (by omega:(0:Int)≤((Zeb ((Zb v).take i)).length:Int)-1),cond_true]
   refine Za hat (Za hat (Za hat (Za hat ?_)))
   rw [w64 (n:=e.1+e.2) (by omega) (by omega),Z76 hl]
   by_cases c:e.1+e.2=(Zb v)[i]
   ·rw [if_pos c,show (e.1+e.2==(Zb v)[i])=true by simpa using c,cond_true]
    refine Za hat (Za hat (Za hat (Za hat ?_)))
    rw [w64 (n:=e.2+1) (by omega) (by omega),show (((Zeb ((Zb v).take i)).length:Int)-1).toNat=(Zeb ((Zb v).take i)).length-1 by omega]
   ·rw [if_neg c,show (e.1+e.2==(Zb v)[i])=false by simpa using c,cond_false]
    exact Za (Z3 (by simp;omega)) rfl
 ·conv=>lhs;unfold Zpe.l0
  rw [Zy (Ya _),Yg]
  rfl
theorem Z5nb (v:Nat) {k:Nat} (hk:100<k):Zve k (Zb v)=some (Zeb (Zb v)):=by
 have hlv:=Z6c v
 have run:=Zrb (fun j i=>Zve.l0 j (Zb v) (i:Int) (Zeb ((Zb v).take i))) (Zb v).length (Zeb (Zb v)) (fun i hi j=>?_) (fun j=>?_) k (by omega)
 ·have run:Zve.l0 k (Zb v) 0 []=some (Zeb (Zb v)):=run
  unfold Zve
  exact Za run rfl
 ·have hrl:=Z5z (Zb v) i
  have hx:=Zvj hi
  conv=>lhs;unfold Zve.l0
  rw [dlt hi,Zn (by omega),cond_true,Z6z hi]
  dsimp only
  by_cases h0:i=0
  ·subst h0
   rw [show decide (0<((0:Nat):Int))=false from rfl,cond_false]
   refine Za (Zi hi) (Za (Z3 (by simp [Zeb])) ?_)
   rfl
  ·rw [decide_eq_true (by omega:(0:Int)<(i:Int)),cond_true]
   obtain ⟨p,rfl⟩:∃p,i=p+1:=⟨i-1,by omega⟩
   have hp:p<(Zb v).length:=by omega
   have hy:=Zvj hp
   obtain ⟨e,hl,he⟩:=Z4mb p hp
   obtain ⟨h1,h2,h3⟩:=Zy3 hl
   have hr:=Zs5 (v:=v) (i:=p+1) (e:=e) (List.mem_of_getLast? hl)
   have hat:at? (Zeb ((Zb v).take (p+1))) (((Zeb ((Zb v).take (p+1))).length:Int)-1)=some e:=by
    have q:((Zeb ((Zb v).take (p+1))).length:Int)-1=(((Zeb ((Zb v).take (p+1))).length-1:Nat):Int):=by omega
    rw [q]
    exact h2
   rw [show Ye .i64 (((p+1:Nat):Int)-1)=((p:Nat):Int) by rw [w64 (by omega) (by omega)];omega]
   refine Za (Zi hp) (Za (Zi hi) ?_)
   rw [w64 (n:=(Zb v)[p]+1) (by omega) (by omega),Z76 hl,he]
   by_cases c:(Zb v)[p]+1=(Zb v)[p+1]
   ·rw [if_pos c,show ((Zb v)[p]+1==(Zb v)[p+1])=true by simpa using c,cond_true,w64 (n:=((Zeb ((Zb v).take (p+1))).length:Int)-1) (by omega) (by omega)]
    refine Za hat (Za hat (Za hat (Za hat ?_)))
    rw [w64 (n:=e.2+1) (by omega) (by omega),show (((Zeb ((Zb v).take (p+1))).length:Int)-1).toNat=(Zeb ((Zb v).take (p+1))).length-1 by omega]
   ·rw [if_neg c,show ((Zb v)[p]+1==(Zb v)[p+1])=false by simpa using c,cond_false]
    exact Za (Zi hi) (Za (Z3 (by simp;omega)) rfl)
 ·conv=>lhs;unfold Zve.l0
  rw [Zy (Ya _),Yg]
  rfl
end Go.Proofs.Qz
namespace Go.Proofs.Qz
open Go
set_option linter.unusedVariables false
def Zv2:List (Nat×Nat):=(Yd 24).flatMap fun a=>(Yd (24-a)).map fun n=>(a,n+1)
theorem Z6kb (m:Nat):(Zv2.all fun p=>decide (Zbc (m+60) [((p.1:Int),(p.2:Int))]=some (Zsh (p.1:Int) p.2,0)))=true:=by kernel_rfl
theorem Ztnb {a n:Nat} (h1:1≤n) (h:a+n≤24) {k:Nat} (hk:60≤k):Zbc k [((a:Int),(n:Int))]=some (Zsh (a:Int) n,0):=by
 obtain ⟨m,rfl⟩:∃m,k=m+60:=⟨k-60,by omega⟩
 have hm:(a,n)∈Zv2:=by
  unfold Zv2
  rw [List.mem_flatMap]
  refine ⟨a,Yr.2 (by omega),?_⟩
  rw [Yq]
  exact ⟨n-1,Yr.2 (by omega),by rw [Nat.sub_add_cancel h1]⟩
 exact of_decide_eq_true (Yn.1 (Z6kb m) _ hm)
theorem Zpob (a:Int) (n:Nat):Zsh a (n+1)=Zsh a n++[a+(n:Int)]:=by
 unfold Zsh
 rw [List.range_succ,Yx]
 rfl
theorem Zl0 (a:Int) (n:Nat):(Zsh a n).length=n:=by simp [Zsh]
theorem iSeq {a n:Nat} (h:a+n≤24) (z:Int) {k:Nat} (hk:60≤k):Z1b.l0 k (n:Int) 0 (a:Int) z []=some ((a:Int),z,Zsh (a:Int) n):=by
 have run:=Zrb (fun j i=>Z1b.l0 j (n:Int) (i:Int) (a:Int) z (Zsh (a:Int) i)) n ((a:Int),z,Zsh (a:Int) n) (fun i hi j=>?_) (fun j=>?_) k (by omega)
 ·exact run
 ·conv=>lhs;unfold Z1b.l0
  rw [dlt hi,w64 (n:=(a:Int)+(i:Int)) (by omega) (by omega),Zn (by omega),cond_true]
  refine Za (Z3 (by rw [Zl0];simp;omega)) ?_
  rw [Zpob]
 ·conv=>lhs;unfold Z1b.l0
  rw [Zy (Ya _)]
  rfl
def Zgz (r:Option (List Int)) (c:Int):List Int×Int:=match r with
 | some l=>(l,0)
 | none=>([],c)
theorem Z9cb {v:Nat} {e:Zlg} (h:e∈Zeb (Zb v)):∃a c:Nat,e=((a:Int),(c:Int))∧1≤c∧a+c≤24:=by
 have:=Zs5 (v:=v) (i:=(Zb v).length) (e:=e) (by rw [Yg];exact h)
 exact ⟨e.1.toNat,e.2.toNat,Prod.ext (by show e.1=_;omega) (by show e.2=_;omega),by omega,by omega⟩
theorem Zcdb (v:Nat):(Zeb (Zb v)).length≤24:=by
 have:=Z5z (Zb v) (Zb v).length
 rw [Yg] at this
 have:=Z6c v
 omega
theorem Zj2 {α:Type} {l:List α} {n:Nat} (h:n≤l.length):Z9b l 0 (n:Int)=some (l.take n):=by
 have:=Z0h (l:=l) (i:=0) (j:=n) (by omega) h
 rw [List.drop_zero] at this
 exact this
theorem Zfab (v w n:Nat) (hv:v<16777216) (hw:w<16777216) (h1:1≤n) {k:Nat} (hk:200≤k):Z1b k (Zb v) (Zb w) (n:Int)=some (match Zch (Zxb v w) (n:Int) with
  | some l=>(l,true)
  | none=>([],false)):=by
 have hz:Z4j (Zb (Zxb v w))=some ((Zb (Zxb v w)).length:Int):=rfl
 have hrl:=Zcdb (Zxb v w)
 unfold Z1b Zch
 refine Za (Zmjb v w hv hw (by omega)) (Za hz ?_)
 by_cases c:((Zb (Zxb v w)).length:Int)<(n:Int)
 ·rw [decide_eq_true c,if_pos c]
  rfl
 ·rw [decide_eq_false c,if_neg c,cond_false]
  refine Za (Z4jb _ (by omega)) ?_
  have run:=Zoh (fun j i=>Z1b.l1 k j (n:Int) ((Zeb (Zb (Zxb v w))).length:Int) i (Zeb (Zb (Zxb v w)))) (Zeb (Zb (Zxb v w))) (fun e=>decide ((n:Int)≤e.2)) (.inl ()) (fun i=>.inr (true,Zsh ((Zeb (Zb (Zxb v w))).getD i (0,0)).1 n)) (fun i hi=>⟨fun hp j=>?_,fun hp j=>?_⟩) (fun j=>?_) (k:=k) (by omega)
  ·have run:Z1b.l1 k k (n:Int) ((Zeb (Zb (Zxb v w))).length:Int) 0 (Zeb (Zb (Zxb v w)))=_:=run
   refine Za run ?_
   cases Zqb (fun (e:Zlg)=>decide ((n:Int)≤e.2)) (Zeb (Zb (Zxb v w))) 0 with
   | none=>exact Za (Zj2 (by omega)) rfl
   | some i=>rfl
  ·show Z1b.l1 k (j+1) (n:Int) _ (i:Int) _=Z1b.l1 k j (n:Int) _ ((i+1:Nat):Int) _
   conv=>lhs;unfold Z1b.l1
   rw [dlt hi,Zn (by omega),cond_true]
   refine Za (Zi hi) (Za (Zi hi) ?_)
   rw [hp]
   rfl
  ·show Z1b.l1 k (j+1) (n:Int) _ (i:Int) _=_
   obtain ⟨a,q,he,q1,q2⟩:=Z9cb (Yf hi)
   have hd:(Zeb (Zb (Zxb v w))).getD i (0,0)=((a:Int),(q:Int)):=by
    rw [List.getD_eq_getElem?_getD,List.getElem?_eq_getElem hi]
    exact he
   have hp':=of_decide_eq_true hp
   rw [he] at hp'
   have hp':(n:Int)≤(q:Int):=hp'
   conv=>lhs;unfold Z1b.l1
   rw [dlt hi,Zn (by omega),cond_true]
   refine Za (Zi hi) (Za (Zi hi) ?_)
   rw [hp,cond_true,he,hd]
   exact Za (iSeq (by omega) _ (by omega)) rfl
  ·show Z1b.l1 k (j+1) (n:Int) _ _ _=_
   unfold Z1b.l1
   rw [Zy (Ya _)]
   rfl
theorem Zsdb (v w n:Nat) (hv:v<16777216) (hw:w<16777216) (h1:1≤n) {k:Nat} (hk:200≤k):Z2c k (Zb v) (Zb w) (n:Int)=some (Zgz (Zch (Zxb v w) (n:Int)) 11):=by
 have hrl:=Zcdb (Zxb v w)
 unfold Z2c Zch
 refine Za (Zhdb v w (by omega)) ?_
 by_cases c:((Zb (Zxb v w)).length:Int)<(n:Int)
 ·rw [decide_eq_true c,if_pos c]
  rfl
 ·rw [decide_eq_false c,if_neg c,cond_false]
  refine Za (Z5nb _ (by omega)) ?_
  have run:=Zoh (fun j i=>Z2c.l0 k j (n:Int) i 0 (Zeb (Zb (Zxb v w))) []) (Zeb (Zb (Zxb v w))) (fun e=>decide ((n:Int)≤e.2)) (.inl (0,[])) (fun i=>.inr (Zsh ((Zeb (Zb (Zxb v w))).getD i (0,0)).1 n,0)) (fun i hi=>⟨fun hp j=>?_,fun hp j=>?_⟩) (fun j=>?_) (k:=k) (by omega)
  ·have run:Z2c.l0 k k (n:Int) 0 0 (Zeb (Zb (Zxb v w))) []=_:=run
   refine Za run ?_
   cases Zqb (fun (e:Zlg)=>decide ((n:Int)≤e.2)) (Zeb (Zb (Zxb v w))) 0 with
   | none=>exact Za (Zj2 (by omega)) rfl
   | some i=>rfl
  ·show Z2c.l0 k (j+1) (n:Int) (i:Int) _ _ _=Z2c.l0 k j (n:Int) ((i+1:Nat):Int) _ _ _
   conv=>lhs;unfold Z2c.l0
   rw [dlt hi,Zn (by omega),cond_true]
   refine Za (Zi hi) (Za (Zi hi) ?_)
   rw [hp]
   rfl
  ·show Z2c.l0 k (j+1) (n:Int) (i:Int) _ _ _=_
   obtain ⟨a,q,he,q1,q2⟩:=Z9cb (Yf hi)
   have hd:(Zeb (Zb (Zxb v w))).getD i (0,0)=((a:Int),(q:Int)):=by
    rw [List.getD_eq_getElem?_getD,List.getElem?_eq_getElem hi]
    exact he
   have hp':=of_decide_eq_true hp
   rw [he] at hp'
   have hp':(n:Int)≤(q:Int):=hp'
   have hmax:Zmq 1 (n:Int)=some (n:Int):=by
    unfold Zmq
    by_cases c1:(n:Int)<1
    ·omega
    ·rw [decide_eq_false c1]
     rfl
   conv=>lhs;unfold Z2c.l0
   rw [dlt hi,Zn (by omega),cond_true]
   refine Za (Zi hi) (Za (Zi hi) ?_)
   rw [hp,cond_true]
   refine Za (Zi hi) (Za (Zi hi) (Za hmax ?_))
   rw [he,hd]
   refine Za (Ztnb h1 (by omega) (by omega)) ?_
   have hc:Z9b (Zsh (a:Int) n) 0 (n:Int)=some (Zsh (a:Int) n):=by
    rw [Zj2 (by rw [Zl0];exact Ya _),List.take_of_length_le (by rw [Zl0];exact Ya _)]
   exact Za hc rfl
  ·show Z2c.l0 k (j+1) (n:Int) _ _ _ _=_
   unfold Z2c.l0
   rw [Zy (Ya _)]
   rfl
end Go.Proofs.Qz
namespace Go.Proofs.Qz
open Go
set_option linter.unusedVariables false
abbrev Zcg:=Int×Int×Int×Str×Zk
def Zdu (s:Zk):Bool:=decide (s.1=0)&&(decide (s.2.1=0)&&(decide (s.2.2.1=0)&&(s.2.2.2==[])))
def Zxj (c:Zcg):Bool:=
 if c.1=1 then (decide (1≤c.2.1)&&decide (c.2.1≤20))&&(decide (0≤c.2.2.1)&&decide (c.2.2.1≤4))&&decide ((c.2.2.2.1.length:Int)=32)&&Zdu c.2.2.2.2
 else if c.1=2 then decide (c.2.1=0)&&decide (c.2.2.1=0)&&(c.2.2.2.1==[])&&Zed c.2.2.2.2.1 c.2.2.2.2.2.1 c.2.2.2.2.2.2.1 c.2.2.2.2.2.2.2 8
 else if c.1=9 then (decide (1≤c.2.1)&&decide (c.2.1≤24))&&decide (c.2.2.1=0)&&(c.2.2.2.1==[])&&Zdu c.2.2.2.2
 else if c.1=7 then (decide (0≤c.2.1)&&decide (c.2.1≤1000000))&&decide (c.2.2.1=0)&&(c.2.2.2.1==[])&&Zdu c.2.2.2.2
 else (decide (1≤c.1)&&decide (c.1≤11))&&decide (c.2.1=0)&&decide (c.2.2.1=0)&&(c.2.2.2.1==[])&&Zdu c.2.2.2.2
theorem iCmd (c:Zcg):Z7o c=some (Zxj c):=by
 obtain ⟨o,a,b,t,s⟩:=c
 have hs:Znc s 8=some (Zed s.1 s.2.1 s.2.2.1 s.2.2.2 8):=Zry s.1 s.2.1 s.2.2.1 s.2.2.2 8 (by decide) (by decide)
 unfold Z7o Zxj Zdu
 simp only [Zhb,Zii,Yh,hs,Zdi]
 generalize (decide (s.1=0)&&(decide (s.2.1=0)&&(decide (s.2.2.1=0)&&(s.2.2.2==[]))))=Z
 generalize (t==([]:Str))=E
 generalize Zed s.1 s.2.1 s.2.2.1 s.2.2.2 8=S
 by_cases c1:o=1
 ·subst c1;simp
 by_cases c2:o=2
 ·subst c2;simp
 by_cases c9:o=9
 ·subst c9;simp
 by_cases c7:o=7
 ·subst c7;simp
 simp [c1,c2,c9,c7]
theorem Zv5 (c:Zcg):Zgq c=some (Zxj c):=by
 obtain ⟨o,a,b,t,s⟩:=c
 have hs:Z5h s 8=some (Zed s.1 s.2.1 s.2.2.1 s.2.2.2 8):=Zg0 s.1 s.2.1 s.2.2.1 s.2.2.2 8 (by decide) (by decide)
 unfold Zgq Zxj Zdu
 simp only [Zfb,Yh,hs,bne,Zdi]
 generalize (decide (s.1=0)&&(decide (s.2.1=0)&&(decide (s.2.2.1=0)&&(s.2.2.2==[]))))=Z
 generalize (t==([]:Str))=E
 generalize Zed s.1 s.2.1 s.2.2.1 s.2.2.2 8=S
 generalize decide ((t.length:Int)=32)=W
 by_cases c1:o=1
 ·subst c1
  generalize (decide (1≤a)&&decide (a≤20))=P
  generalize (decide (0≤b)&&decide (b≤4))=Q
  cases P <;> cases Q <;> cases W <;> cases Z <;> simp
 by_cases c2:o=2
 ·subst c2
  generalize decide (a=0)=P
  generalize decide (b=0)=Q
  cases P <;> cases Q <;> cases E <;> cases S <;> simp
 by_cases c9:o=9
 ·subst c9
  generalize (decide (1≤a)&&decide (a≤24))=P
  generalize decide (b=0)=Q
  cases P <;> cases Q <;> cases E <;> cases Z <;> simp
 by_cases c7:o=7
 ·subst c7
  generalize (decide (0≤a)&&decide (a≤1000000))=P
  generalize decide (b=0)=Q
  cases P <;> cases Q <;> cases E <;> cases Z <;> simp
 simp only [decide_eq_false c1,decide_eq_false c2,decide_eq_false c9,decide_eq_false c7,if_neg c1,if_neg c2,if_neg c9,if_neg c7]
 generalize decide (a=0)=P
 generalize decide (b=0)=Q
 generalize (decide (1≤o)&&decide (o≤11))=R
 cases P <;> cases Q <;> cases E <;> cases Z <;> cases R <;> simp
end Go.Proofs.Qz
namespace Go.Proofs.Qz
open Go
set_option linter.unusedVariables false
abbrev Z1l:=List Zkg×Str×List Int×Int
def Zkf (c:Int):Z1l:=([],([],([],c)))
def Z1i (l:List Zkg):Z1l:=(l,([],([],0)))
theorem Zdfb (a b:Str):(Z20 a b).length=8:=by simp [Z20,Znb]
theorem Zamb {l:List Zk} {n:Int} (h:Zdb l n=0):∀x∈Zh l,x.1=2→x.2.2.2.length=8:=by
 intro x hx h2
 obtain ⟨_,h1,_,hs,_⟩:=Z3f h
 unfold Zh at hx
 have hs:=hs x (Ys.1 hx).1
 unfold Zig Zed at hs
 rw [if_neg (by omega),if_pos h2] at hs
 simp only [Yb,decide_eq_true_eq] at hs
 omega
theorem Zglb {x:Zk} {n:Int} (h:WriteOk x n) (h2:x.1=2→x.2.2.2.length=8) {s:Str} (hs:s.length=8):(Zbh x s).length=8:=by
 unfold Zbh
 split
 ·rfl
 ·split
  ·rename_i q
   exact h2 q
  ·split
   ·exact hs
   ·have:x.2.2.2.length=8:=by rcases h.kind with q | q | q | q;omega;omega;omega;exact q.2
    unfold Zms
    rw [if_pos ⟨hs,this⟩]
    exact Zdfb _ _
theorem Zl7 {base:List Str} {l:List Zk} {n:Int} (hc:Zdb l n=0) (hb:(base.length:Int)=n) (hi:Zhi base=true):Zhi (Zle base l)=true:=by
 obtain ⟨h1,h8,hs⟩:=Zjv hi
 have hl:(Zle base l).length=base.length:=Zvh _ _ _ _
 unfold Zhi
 rw [hl,decide_eq_true h1,decide_eq_true h8]
 show (true&&(Zle base l).all Zrk)=true
 rw [Y7]
 refine Yn.2 fun s hm=>?_
 obtain ⟨b,hb1,rfl⟩:=Yp.1 hm
 rw [hl] at hb1
 have hg:(base.getD b []).length=8:=hs _ (Z82 hb1)
 have:((Zle base l)[b]'(by rw [hl];exact hb1)).length=8:=by
  unfold Zle
  rw [Zwq hb1]
  cases hf:(Zh l).find? (fun x=>x.2.1==(b:Int)) with
  | none=>exact hg
  | some x=>
   have hx:=List.mem_of_find?_eq_some hf
   have hw:=Zcu hc x hx
   have hsrc:=hw.src
   exact Zglb hw (Zamb hc x hx) (hs _ (Z82 (by omega)))
 unfold Zrk
 exact decide_eq_true this
def Zzl (m:Zq) (ph st dn:Int) (w:Nat):List Str:=if ph=4 then Zle (Zwb m) (Zc m st w) else if ph=5 then Zls m st dn w else Zwb m
section
variable {m:Zq} {ph tr nd st dn:Int} {dg:Str} {v w:Nat}
theorem MSt.base8 (h:MSt m ph tr nd st dn dg v w):∀s∈Zwb m,s.length=8:=(Zjv h.img).2.2
theorem MSt.base (h:MSt m ph tr nd st dn dg v w):((Zwb m).length:Int)=m.1:=by
 have:=h.fit.b
 rw [Znx]
 omega
theorem Z7eb (h:MSt m ph tr nd st dn dg v w):((Zzl m ph st dn w).length:Int)=m.1:=by
 have:=h.base
 unfold Zzl Zle Zls
 split
 ·rw [Zvh];exact this
 ·split
  ·rw [Zvh];exact this
  ·exact this
theorem Zikb (hs:stM m=some (ph,(tr,(nd,(st,(dn,(dg,(v,w)))))))) (h:MSt m ph tr nd st dn dg v w):Ze fun k=>Zoe k m=some (Zzl m ph st dn w):=by
 have hf:=h.fit
 have hb:=hf.b
 have hn:=hf.n
 have hdr:=hf.dirt
 have hl:m.2.1.length≤1048576:=by omega
 have hfl:=(Zso hf.f).1
 have pre:Ze fun k=>Znh k m=some (Zyr (some (ph,tr,nd,st,dn,dg,v,w))):=by rw [← hs];exact Zqy m hl (by omega)
 have hll:=h.log
 have hplan:Ze fun k=>Zdb (Zc m st w) m.1=0→Zmb k (Zc m st w)=some (Zg (Zc m st w)):=if hc:Zdb (Zc m st w) m.1=0 then (Z8s (Zc m st w) (Z3f hc).1 (Z5i hc)).mono fun k e _=>e else Ze.of fun k q=>absurd q hc
 refine (((pre.and (Ziv ph tr nd st dn dg (Zb v) hf)).and hplan).and (Ze.ge 1048577 fun k hk=>hk)).mono fun k ⟨⟨⟨e1,e2⟩,e3⟩,hk⟩=>?_
 unfold Zoe Zzl
 refine Za e1 (Za (Zg3 (m:=m) ⟨by omega,hb.2⟩ (by omega) (by omega) hk) (Za e2 ?_))
 show (bif ph==4 then _ else _)=_
 by_cases c4:ph=4
 ·have hS:=h.snd (by omega)
  rw [if_pos c4,show (ph==4)=true by simpa using c4,cond_true]
  exact Za (Z89 hS.code h.base h.base8 (by omega)) rfl
 ·rw [if_neg c4,show (ph==4)=false by simpa using c4,cond_false]
  show (bif ph==5 then _ else _)=_
  by_cases c5:ph=5
  ·have hS:=h.snd (by omega)
   rw [if_pos c5,show (ph==5)=true by simpa using c5,cond_true]
   exact Za (e3 hS.code) (Za (Zty _ (by omega) k (by omega)) (Za (Zjkb hS ph tr nd dg (Zb v) hk) rfl))
  ·rw [if_neg c5,show (ph==5)=false by simpa using c5]
   rfl
theorem Ze0 (h:MSt m ph tr nd st dn dg v w) (h3:3≤ph):Ze fun k=>Zqj k m (ph,(tr,(nd,(st,(dn,(dg,(Zb v,Zb w)))))))=some (Zg (Zc m st w)):=by
 refine ((Zaq ph tr nd st dn dg (Zb v) h.fit).and (Zqdb _ _ (h.snd h3).code)).mono fun k ⟨e1,e2⟩=>?_
 unfold Zqj
 exact Za e1 (Za e2 rfl)
theorem Zrjb (h:MSt m ph tr nd st dn dg v w) (h3:3≤ph):Ze fun k=>Zmn k m (ph,(tr,(nd,(st,(dn,(dg,(Zb v,Zb w)))))))=some (Zg (Zc m st w)):=by
 have hc:=(h.snd h3).code
 refine (((Ziv ph tr nd st dn dg (Zb v) h.fit).and (Zsy (Zc m st w) m.1 (by have:=Z0y m st w;omega))).and (Z8s _ (Z3f hc).1 (Z5i hc))).mono fun k ⟨⟨e1,e2⟩,e3⟩=>?_
 unfold Zmn
 refine Za e1 (Za e2 ?_)
 rw [hc]
 exact Za e3 rfl
theorem Ziob (h:MSt m ph tr nd st dn dg v w):Ze fun k=>Zze k m (ph,(tr,(nd,(st,(dn,(dg,(Zb v,Zb w)))))))=some (Zzl m ph st dn w):=by
 have hf:=h.fit
 have hb:=hf.b
 have hn:=hf.n
 have hdr:=hf.dirt
 have hll:=h.log
 have hmv:Ze fun k=>3≤ph→Zqj k m (ph,(tr,(nd,(st,(dn,(dg,(Zb v,Zb w)))))))=some (Zg (Zc m st w)):=if h3:3≤ph then (Ze0 h h3).mono fun k e _=>e else Ze.of fun k q=>absurd q h3
 refine ((((Zaq ph tr nd st dn dg (Zb v) hf).and (Zudb (l:=Zc m st w) h.img (by omega))).and hmv).and (Ze.ge 1048577 fun k hk=>hk)).mono fun k ⟨⟨⟨e2,e3⟩,e4⟩,hk⟩=>?_
 unfold Zze Zzl
 refine Za (Zu5 (m:=m) ⟨by omega,hb.2⟩ (by omega) (by omega) hk) (Za e2 ?_)
 show (bif ph==4 then _ else _)=_
 by_cases c4:ph=4
 ·have hS:=h.snd (by omega)
  rw [if_pos c4,show (ph==4)=true by simpa using c4,cond_true]
  rw [h.base,if_pos hS.code] at e3
  exact Za e3 rfl
 ·rw [if_neg c4,show (ph==4)=false by simpa using c4,cond_false]
  show (bif ph != 5 then _ else _)=_
  by_cases c5:ph=5
  ·have hS:=h.snd (by omega)
   rw [if_pos c5,show (ph != 5)=false by simpa using c5,cond_false]
   have hbl:=Znx m
   exact Za (e4 (by omega)) (Za (Z35 _ (by omega) k (by omega)) (Za (Z3 (by simp;omega)) (Za (Zjob hS ph tr nd dg (Zb v) hk) rfl)))
  ·rw [if_neg c5,show (ph != 5)=true by simpa using c5]
   rfl
end
end Go.Proofs.Qz
namespace Go.Proofs.Qz
open Go
set_option linter.unusedVariables false
def Zog (l:List Int):Nat:=orP (l.map Y8)
theorem Z27 {u:Nat} (h:u<16777216):Zog (Zb u)=u:=by
 have e:(Zb u).map Y8=Ztb u 24:=by
  unfold Zb
  rw [List.map_map]
  exact List.map_id' _
 unfold Zog
 rw [e]
 refine Yla fun i=>?_
 rw [Zfz]
 by_cases hi:i<24
 ·cases hb:u.testBit i with
  | true=>exact decide_eq_true (by unfold Ztb;rw [Ys,Yr];exact ⟨hi,hb⟩)
  | false=>exact decide_eq_false fun q=>by rw [(Zss q).2] at hb;cases hb
 ·rw [Y2 (Y0 (show u<2^24 by simpa using h) (Y1 (by omega) (by omega)))]
  exact decide_eq_false fun q=>hi (Zss q).1
theorem Zr8 {v w:Nat} (h:v &&& w=0):∀n,n≤24→(Ztb v n).length+(Ztb w n).length+(Ztb (Zxb v w) n).length=n
 | 0,_=>by simp [Ztb]
 | n+1,hn=>by
  have ih:=Zr8 h n (by omega)
  have hb:(v &&& w).testBit n=false:=by rw [h];exact Nat.zero_testBit n
  rw [Nat.testBit_and] at hb
  rw [Z5q,Z5q,Z5q,Z72 (by omega)]
  cases h1:v.testBit n <;> cases h2:w.testBit n <;> simp only [h1,h2] at hb ⊢
  ·simp;omega
  ·simp;omega
  ·simp;omega
  ·cases hb
theorem Z1gb {v w:Nat} (h:v &&& w=0):(Zb v).length+(Zb w).length+(Zb (Zxb v w)).length=24:=by
 have:=Zr8 h 24 (Ya _)
 unfold Zb
 simp only [Yba]
 exact this
def Z9h (m:Zq) (l:List Int):List Zkg:=l.map fun x=>(false,(3+m.1+x,[]))
section
variable {m:Zq} {ph tr nd st dn:Int} {dg:Str} {v w:Nat}
theorem Zcfb {l:List Int} {i:Nat} (h:i<l.length):Z9h m (l.take (i+1))=Z9h m (l.take i)++[(false,(3+m.1+l[i],[]))]:=Zpeb _ h
theorem Zmkb (h:Fit m st w) (l:List Int) (hl:l.length≤24) (hx:∀x∈l,0≤x∧x≤23) {k:Nat} (hk:100≤k):Zne.l0 k m.1 m.2.1 m.2.2 l (l.length:Int) 0 []=some (Z9h m l):=by
 have run:=Zrb (fun j i=>Zne.l0 j m.1 m.2.1 m.2.2 l (l.length:Int) (i:Int) (Z9h m (l.take i))) l.length (Z9h m l) (fun i hi j=>?_) (fun j=>?_) k (by omega)
 ·exact run
 ·have hr:=hx _ (Yf hi)
  conv=>lhs;unfold Zne.l0
  rw [dlt hi,Zn (by omega),cond_true,Zcfb hi]
  exact Za (Zi hi) (Za (Ziy h hr.1 hr.2) (Za (Z3 (by simp [Z9h];omega)) rfl))
 ·conv=>lhs;unfold Zne.l0
  rw [Zy (Ya _),Yg]
  rfl
theorem Zlob (h:Fit m st w) (l:List Int) (hl:l.length≤24) (hx:∀x∈l,0≤x∧x≤23) {k:Nat} (hk:100≤k):Zxe.l0 k m.1 m.2.1 m.2.2 0 l 0 [] 0 [] []=some (l,(0,([],(0,(Z9h m l,[]))))):=by
 have run:=Zrb (fun j i=>Zxe.l0 j m.1 m.2.1 m.2.2 (i:Int) l 0 [] 0 (Z9h m (l.take i)) []) l.length (l,(0,([],(0,(Z9h m l,[]))))) (fun i hi j=>?_) (fun j=>?_) k (by omega)
 ·exact run
 ·have hr:=hx _ (Yf hi)
  conv=>lhs;unfold Zxe.l0
  rw [dlt hi,Zn (by omega),cond_true,Zcfb hi]
  exact Za (Zi hi) (Za (Znw h hr.1 hr.2) (Za (Z3 (by simp [Z9h];omega)) rfl))
 ·conv=>lhs;unfold Zxe.l0
  rw [Zy (Ya _),Yg]
  rfl
def Z2q (m:Zq) (ph:Int) (v:Nat) (a b:Int) (dg:Str):Z1l:=if ph=1 then (match Zch (Zxb v 0) (a+b) with
 | some l=>Z1i ((Z9h m l++[Z7h])++Zfe m.2 2 0 a b 0 dg v (Zog l))
 | none=>Zkf 11) else Zkf 10
theorem Zi5 {f:Nat} (hf:f<16777216) {n:Int} (h0:1≤n) {l:List Int} (h:Zch f n=some l):∃u,u<16777216∧l=Zb u∧Zog l=u∧l.length≤24∧∀x∈l,0≤x∧x≤23:=by
 obtain ⟨⟨u,h1,h2,_⟩,_⟩:=Zucb hf h0 h
 subst h2
 refine ⟨u,h1,rfl,Z27 h1,Z6c u,fun x hx=>?_⟩
 obtain ⟨j,hj,rfl⟩:=Yp.1 hx
 exact Zvj hj
theorem Z5ib (h:MSt m ph tr nd st dn dg v w) (c:Zcg) (ha:1≤c.2.1∧c.2.1≤20) (hb:0≤c.2.2.1∧c.2.2.1≤4) (hd:c.2.2.2.1.length≤32):Ze fun k=>Zne k m (ph,(tr,(nd,(st,(dn,(dg,(Zb v,Zb w))))))) c=some (Z2q m ph v c.2.1 c.2.2.1 c.2.2.2.1):=by
 unfold Z2q
 by_cases c1:ph=1
 ·obtain ⟨n,hn⟩:∃n:Nat,c.2.1+c.2.2.1=(n:Int):=⟨(c.2.1+c.2.2.1).toNat,by omega⟩
  have hfl:=Zfv h.hv (by omega:0<16777216)
  have hr:∀k,200≤k→Z1b k (Zb v) [] (Ye .i64 (c.2.1+c.2.2.1))=some (match Zch (Zxb v 0) (c.2.1+c.2.2.1) with
   | some l=>(l,true)
   | none=>([],false)):=fun k hk=>by
   have:=Zfab v 0 n h.hv (by omega) (by omega) hk
   rw [Z4q] at this
   rw [hn,wn (by omega)]
   exact this
  rw [if_pos c1]
  cases hres:Zch (Zxb v 0) (c.2.1+c.2.2.1) with
  | none=>
   refine (Ze.ge 200 fun k hk=>hk).mono fun k hk=>?_
   have hr:=hr k hk
   rw [hres] at hr
   unfold Zne
   show (bif ph != 1 then _ else _)=_
   rw [show (ph != 1)=false by simpa using c1,cond_false]
   exact Za hr rfl
  | some l=>
   obtain ⟨u,u1,u2,u3,u4,u5⟩:=Zi5 hfl (by omega) hres
   dsimp only
   rw [u3]
   refine ((Z1j (m:=m) h.fit.f h.two (a:=2) (b:=0) (c:=c.2.1) (d:=c.2.2.1) (e:=0) (x:=c.2.2.2.1) (v:=v) (w:=u) ⟨by omega,by omega,by omega,by omega,by omega,hd,h.hv,u1⟩).and (Ze.ge 200 fun k hk=>hk)).mono fun k ⟨e,hk⟩=>?_
   have hr:=hr k hk
   rw [hres] at hr
   rw [← u2] at e
   have hkl:=Zjl m.2 (Z7d (2,0,c.2.1,c.2.2.1,0,(v:Int),(u:Int),c.2.2.2.1))
   unfold Zne
   show (bif ph != 1 then _ else _)=_
   rw [show (ph != 1)=false by simpa using c1,cond_false]
   refine Za hr ?_
   rw [Ym,cond_false]
   refine Za (Zmkb h.fit l u4 u5 (by omega)) (Za (Z3 (by simp [Z9h];omega)) (Za e (Za (Z3 (by unfold Zfe;simp [Z9h];omega)) ?_)))
   rfl
 ·refine Ze.of fun k=>?_
  unfold Zne
  show (bif ph != 1 then _ else _)=_
  rw [show (ph != 1)=true by simpa using c1,if_neg c1]
  rfl
theorem Z9mb (h:MSt m ph tr nd st dn dg v w) (c:Zcg) (ha:1≤c.2.1∧c.2.1≤20) (hb:0≤c.2.2.1∧c.2.2.1≤4) (hd:c.2.2.2.1.length≤32):Ze fun k=>Zxe k m (ph,(tr,(nd,(st,(dn,(dg,(Zb v,Zb w))))))) c=some (Z2q m ph v c.2.1 c.2.2.1 c.2.2.2.1):=by
 unfold Z2q
 by_cases c1:ph=1
 ·obtain ⟨n,hn⟩:∃n:Nat,c.2.1+c.2.2.1=(n:Int):=⟨(c.2.1+c.2.2.1).toNat,by omega⟩
  have hfl:=Zfv h.hv (by omega:0<16777216)
  have hr:∀k,200≤k→Z2c k (Zb v) [] (Ye .i64 (c.2.1+c.2.2.1))=some (Zgz (Zch (Zxb v 0) (c.2.1+c.2.2.1)) 11):=fun k hk=>by
   have:=Zsdb v 0 n h.hv (by omega) (by omega) hk
   rw [Z4q] at this
   rw [hn,wn (by omega)]
   exact this
  rw [if_pos c1]
  cases hres:Zch (Zxb v 0) (c.2.1+c.2.2.1) with
  | none=>
   refine (Ze.ge 200 fun k hk=>hk).mono fun k hk=>?_
   have hr:=hr k hk
   rw [hres] at hr
   unfold Zxe
   show (bif ph != 1 then _ else _)=_
   rw [show (ph != 1)=false by simpa using c1,cond_false]
   exact Za hr rfl
  | some l=>
   obtain ⟨u,u1,u2,u3,u4,u5⟩:=Zi5 hfl (by omega) hres
   dsimp only
   rw [u3]
   refine ((Zbk (m:=m) h.fit.f h.two (a:=2) (b:=0) (c:=c.2.1) (d:=c.2.2.1) (e:=0) (x:=c.2.2.2.1) (v:=v) (w:=u) ⟨by omega,by omega,by omega,by omega,by omega,hd,h.hv,u1⟩).and (Ze.ge 200 fun k hk=>hk)).mono fun k ⟨e,hk⟩=>?_
   have hr:=hr k hk
   rw [hres] at hr
   rw [← u2] at e
   have hkl:=Zjl m.2 (Z7d (2,0,c.2.1,c.2.2.1,0,(v:Int),(u:Int),c.2.2.2.1))
   unfold Zxe
   show (bif ph != 1 then _ else _)=_
   rw [show (ph != 1)=false by simpa using c1,cond_false]
   refine Za hr ?_
   rw [show ((Zgz (some l) 11).2 != 0)=false from rfl,cond_false]
   refine Za (Zlob h.fit l u4 u5 (by omega)) (Za (Z3 (by simp [Z9h];omega)) (Za e (Za (Z3 (by unfold Zfe;simp [Z9h];omega)) ?_)))
   rfl
 ·refine Ze.of fun k=>?_
  unfold Zxe
  show (bif ph != 1 then _ else _)=_
  rw [show (ph != 1)=true by simpa using c1,if_neg c1]
  rfl
theorem Zqbb {x:Zk} (h:Zed x.1 x.2.1 x.2.2.1 x.2.2.2 8=true):Z60 x:=by
 unfold Zed at h
 unfold Z60 Num
 split at h
 ·simp only [Yb,decide_eq_true_eq] at h;omega
 ·split at h
  ·simp only [Yb,decide_eq_true_eq] at h;omega
  ·split at h
   ·simp only [Yb,decide_eq_true_eq] at h;omega
   ·split at h
    ·simp only [Yb,decide_eq_true_eq] at h;omega
    ·split at h
     ·simp only [Yb,decide_eq_true_eq] at h;omega
     ·cases h
def Zgw (n:Int) (x:Zk):Str:=Zyg (Zm n++Zfs x)
theorem Z1jb (n:Int) (x:Zk) (h0:0≤n∧n≤1000000) (h:Zed x.1 x.2.1 x.2.2.1 x.2.2.2 8=true):Ze fun k=>Zip k n x=some (Zgw n x):=by
 have l0:=Zgc n
 have l1:=Zgc x.1
 have l2:=Zgc x.2.1
 have l3:=Zgc x.2.2.1
 have l4:=Zfj x.2.2.2
 have l5:=Zvw h
 have lX:(Zfs x).length≤60:=by unfold Zfs;simp only [Yc];omega
 refine (((Zny n (by constructor <;> omega)).and (Zekb x (Zqbb h) l5)).and (Zpy (Zm n++Zfs x) (by simp;omega))).mono fun k ⟨⟨a,b⟩,c⟩=>?_
 unfold Zip
 exact Za a (Za b (Za (Ztc (by omega)) (Za c rfl)))
theorem Z2nb (n:Int) (x:Zk) (h0:0≤n∧n≤1000000) (h:Zed x.1 x.2.1 x.2.2.1 x.2.2.2 8=true):Ze fun k=>Z0k k n x=some (Zgw n x):=by
 obtain ⟨q1,q2,q3⟩:=Zqbb h
 have:=Zrdb n x.1 x.2.1 x.2.2.1 x.2.2.2 (by constructor <;> omega) q1 q2 q3 (Zvw h) h
 rw [if_pos h0] at this
 exact this
def Zes (m:Zq) (ph nd st:Int) (w:Nat) (x:Zk):Z1l:=
 if ph=2 then (if ((Zc m st w).length:Int)=nd then Zkf 9 else if Zdb (Zc m st w++[x]) m.1=0 then
  Z1i ((false,(3+m.1+(Zb w).getD (st+((Zc m st w).length:Int)).toNat 0,Zgw ((Zc m st w).length:Int) x))::(if x.1=5 then [Z7h] else []))
  else Zkf (Zdb (Zc m st w++[x]) m.1)) else Zkf 10
theorem Zckb (h:MSt m ph tr nd st dn dg v w) (x:Zk) (hx:Zed x.1 x.2.1 x.2.2.1 x.2.2.2 8=true):Ze fun k=>Zzo k m (ph,(tr,(nd,(st,(dn,(dg,(Zb v,Zb w))))))) (Zc m st w) x=some (Zes m ph nd st w x):=by
 have hll:=h.log
 have hlw:=Z6c w
 refine (((Zsy (Zc m st w++[x]) m.1 (by simp;omega)).and (Z1jb ((Zc m st w).length:Int) x (by omega) hx)).and (Ze.ge 100 fun k hk=>hk)).mono fun k ⟨⟨e1,e2⟩,hk⟩=>?_
 have hz:Zpk (Zc m st w)=some ((Zc m st w).length:Int):=rfl
 unfold Zzo Zes
 show (bif ph != 2 then _ else _)=_
 by_cases c2:ph=2
 ·rw [if_pos c2,show (ph != 2)=false by simpa using c2,cond_false]
  obtain ⟨q1,q2,q3,q4,q5,q6,q7,q8⟩:=h.busy (by omega)
  refine Za hz ?_
  show (bif ((Zc m st w).length:Int)==nd then _ else _)=_
  by_cases cn:((Zc m st w).length:Int)=nd
  ·rw [if_pos cn,show (((Zc m st w).length:Int)==nd)=true by simpa using cn]
   rfl
  ·rw [if_neg cn,show (((Zc m st w).length:Int)==nd)=false by simpa using cn,cond_false]
   refine Za (Z3 (by simp;omega)) (Za e1 ?_)
   by_cases cc:Zdb (Zc m st w++[x]) m.1=0
   ·rw [if_pos cc,show (Zdb (Zc m st w++[x]) m.1 != 0)=false by simpa using cc,cond_false]
    obtain ⟨a1,a2,a3⟩:=Zqs (w:=w) (n:=st+((Zc m st w).length:Int)) (by omega) (by omega)
    show Yt (at? (Zb w) (Ye .i64 (st+((Zc m st w).length:Int)))) _=_
    rw [w64 (n:=st+((Zc m st w).length:Int)) (by omega) (by omega)]
    refine Za a1 (Za (Ziy h.fit a2 a3) (Za e2 ?_))
    show (bif x.1==5 then _ else _)=_
    by_cases c5:x.1=5
    ·rw [if_pos c5,show (x.1==5)=true by simpa using c5,cond_true]
     exact Za (Z3 (by simp)) rfl
    ·rw [if_neg c5,show (x.1==5)=false by simpa using c5]
     rfl
   ·rw [if_neg cc,show (Zdb (Zc m st w++[x]) m.1 != 0)=true by simpa using cc]
    rfl
 ·rw [if_neg c2,show (ph != 2)=true by simpa using c2]
  rfl
theorem Zeob (h:MSt m ph tr nd st dn dg v w) (c:Zcg) (hx:Zed c.2.2.2.2.1 c.2.2.2.2.2.1 c.2.2.2.2.2.2.1 c.2.2.2.2.2.2.2 8=true):Ze fun k=>Zrq k m (ph,(tr,(nd,(st,(dn,(dg,(Zb v,Zb w))))))) c=some (Zes m ph nd st w c.2.2.2.2):=by
 have hll:=h.log
 have hlw:=Z6c w
 refine ((((Zaq ph tr nd st dn dg (Zb v) h.fit).and (Zh0 (Zc m st w++[c.2.2.2.2]) m.1 (by simp;omega))).and (Z2nb ((Zc m st w).length:Int) c.2.2.2.2 (by omega) hx)).and (Ze.ge 100 fun k hk=>hk)).mono fun k ⟨⟨⟨e0,e1⟩,e2⟩,hk⟩=>?_
 unfold Zrq Zes
 show (bif ph != 2 then _ else _)=_
 by_cases c2:ph=2
 ·rw [if_pos c2,show (ph != 2)=false by simpa using c2,cond_false]
  obtain ⟨q1,q2,q3,q4,q5,q6,q7,q8⟩:=h.busy (by omega)
  refine Za e0 ?_
  show (bif decide (nd≤((Zc m st w).length:Int)) then _ else _)=_
  by_cases cn:((Zc m st w).length:Int)=nd
  ·rw [if_pos cn,decide_eq_true (by omega:nd≤((Zc m st w).length:Int))]
   rfl
  ·rw [if_neg cn,decide_eq_false (by omega:¬nd≤((Zc m st w).length:Int)),cond_false]
   have ha:Zt 40 ([]:List Zk) (Zc m st w)=some (Zc m st w):=Z3 (by simp;omega)
   refine Za ha (Za (Z3 (by simp;omega)) (Za e1 ?_))
   by_cases cc:Zdb (Zc m st w++[c.2.2.2.2]) m.1=0
   ·rw [if_pos cc,show (Zdb (Zc m st w++[c.2.2.2.2]) m.1 != 0)=false by simpa using cc,cond_false]
    obtain ⟨a1,a2,a3⟩:=Zqs (w:=w) (n:=st+((Zc m st w).length:Int)) (by omega) (by omega)
    show Yt (at? (Zb w) (Ye .i64 (st+((Zc m st w).length:Int)))) _=_
    rw [w64 (n:=st+((Zc m st w).length:Int)) (by omega) (by omega)]
    refine Za a1 (Za (Znw h.fit a2 a3) (Za e2 ?_))
    show (bif c.2.2.2.2.1==5 then _ else _)=_
    by_cases c5:c.2.2.2.2.1=5
    ·rw [if_pos c5,show (c.2.2.2.2.1==5)=true by simpa using c5,cond_true]
     exact Za (Z3 (by simp)) rfl
    ·rw [if_neg c5,show (c.2.2.2.2.1==5)=false by simpa using c5]
     rfl
   ·rw [if_neg cc,show (Zdb (Zc m st w++[c.2.2.2.2]) m.1 != 0)=true by simpa using cc]
    rfl
 ·rw [if_neg c2,show (ph != 2)=true by simpa using c2]
  rfl
end
end Go.Proofs.Qz
namespace Go.Proofs.Qz
open Go
set_option linter.unusedVariables false
section
variable {m:Zq} {ph tr nd st dn:Int} {dg:Str} {v w:Nat}
def Zhm (m:Zq) (v:Nat):List Zkg:=Zfe m.2 1 0 0 0 0 [] v 0
def Zgr (m:Zq) (ph tr nd st dn:Int) (dg:Str) (v w:Nat):Z1l:=
 if ph=2 then (if ((Zc m st w).length:Int)=nd then (if Zdb (Zc m st w) m.1=0 then
   (if Zli (Zle (Zwb m) (Zc m st w)).flatten=dg then (if st<Z5b (Zg (Zc m st w)) then (Zhm m v,([],([],11))) else Z1i ([Z7h]++Zfe m.2 3 tr nd st dn dg v w)) else (Zhm m v,([],([],5))))
   else (Zhm m v,([],([],5)))) else (Zhm m v,([],([],4)))) else Zkf 10
theorem Zjjb (h:MSt m ph tr nd st dn dg v w):Ze fun k=>Zyo k m (ph,(tr,(nd,(st,(dn,(dg,(Zb v,Zb w))))))) (Zc m st w)=some (Zgr m ph tr nd st dn dg v w):=by
 have hf:=h.fit
 have hb:=hf.b
 have hn:=hf.n
 have hdr:=hf.dirt
 have hfl:=(Zso hf.f).1
 have hk0:=h.keep
 have hll:=h.log
 have hplan:Ze fun k=>Zdb (Zc m st w) m.1=0→Zmb k (Zc m st w)=some (Zg (Zc m st w)):=if hc:Zdb (Zc m st w) m.1=0 then (Z8s (Zc m st w) (Z3f hc).1 (Z5i hc)).mono fun k e _=>e else Ze.of fun k q=>absurd q hc
 refine (((((Z1j (m:=m) hf.f h.two (Zom h.hv)).and (Zsy (Zc m st w) m.1 (by omega))).and hplan).and (Z1j (m:=m) hf.f h.two (a:=3) { hk0 with a:=by omega })).and (Ze.ge 1048577 fun k hk=>hk)).mono fun k ⟨⟨⟨⟨e1,e2⟩,e3⟩,e4⟩,hk⟩=>?_
 have hz:Zpk (Zc m st w)=some ((Zc m st w).length:Int):=rfl
 unfold Zyo Zgr
 refine Za (Zmy v _ _ _ _ _ _ _) (Za e1 (Za (Zg3 (m:=m) ⟨by omega,hb.2⟩ (by omega) (by omega) hk) ?_))
 show (bif ph != 2 then _ else _)=_
 by_cases c2:ph=2
 ·rw [if_pos c2,show (ph != 2)=false by simpa using c2,cond_false]
  refine Za hz ?_
  show (bif ((Zc m st w).length:Int) != nd then _ else _)=_
  by_cases cn:((Zc m st w).length:Int)=nd
  ·rw [if_pos cn,show (((Zc m st w).length:Int) != nd)=false by simpa using cn,cond_false]
   refine Za e2 ?_
   by_cases cc:Zdb (Zc m st w) m.1=0
   ·rw [if_pos cc,show (Zdb (Zc m st w) m.1 != 0)=false by simpa using cc,cond_false]
    have hpl:=Z6v _ (Z3f cc).1 (Z5i cc)
    refine Za (Z89 cc h.base h.base8 (by omega)) (Za (Zfjb (Zl7 cc h.base h.img) (by omega)) ?_)
    show (bif !(Zli (Zle (Zwb m) (Zc m st w)).flatten==dg) then _ else _)=_
    by_cases cd:Zli (Zle (Zwb m) (Zc m st w)).flatten=dg
    ·rw [if_pos cd,show (Zli (Zle (Zwb m) (Zc m st w)).flatten==dg)=true by simpa using cd,Ym,cond_false]
     refine Za (e3 cc) (Za (Zgab _ (by omega) k (by omega)) ?_)
     show (bif decide (st<Z5b (Zg (Zc m st w))) then _ else _)=_
     by_cases cs:st<Z5b (Zg (Zc m st w))
     ·rw [if_pos cs,decide_eq_true cs]
      rfl
     ·rw [if_neg cs,decide_eq_false cs,cond_false]
      have hkl:=Zjl m.2 (Z7d (3,tr,nd,st,dn,(v:Int),(w:Int),dg))
      exact Za e4 (Za (Z3 (by unfold Zfe;simp;omega)) rfl)
    ·rw [if_neg cd,show (Zli (Zle (Zwb m) (Zc m st w)).flatten==dg)=false by simpa using cd]
     rfl
   ·rw [if_neg cc,show (Zdb (Zc m st w) m.1 != 0)=true by simpa using cc]
    rfl
  ·rw [if_neg cn,show (((Zc m st w).length:Int) != nd)=true by simpa using cn]
   rfl
 ·rw [if_neg c2,show (ph != 2)=true by simpa using c2]
  rfl
theorem Znnb (h:MSt m ph tr nd st dn dg v w):Ze fun k=>Zqq k m (ph,(tr,(nd,(st,(dn,(dg,(Zb v,Zb w)))))))=some (Zgr m ph tr nd st dn dg v w):=by
 have hf:=h.fit
 have hb:=hf.b
 have hn:=hf.n
 have hdr:=hf.dirt
 have hfl:=(Zso hf.f).1
 have hk0:=h.keep
 have hll:=h.log
 have hplan:Ze fun k=>Zdb (Zc m st w) m.1=0→Znj k (Zc m st w) m.1=some (Zg (Zc m st w),0)∧Z4n k (Zle (Zwb m) (Zc m st w))=some (Zli (Zle (Zwb m) (Zc m st w)).flatten):=if hc:Zdb (Zc m st w) m.1=0 then ((Zqdb (Zc m st w) m.1 hc).and (Zjnb (Zl7 hc h.base h.img))).mono fun k e _=>e else Ze.of fun k q=>absurd q hc
 refine ((((((Zbk (m:=m) hf.f h.two (Zom h.hv)).and (Zudb (l:=Zc m st w) h.img (by omega))).and hplan).and (Zbk (m:=m) hf.f h.two (a:=3) { hk0 with a:=by omega })).and (Zaq ph tr nd st dn dg (Zb v) hf)).and (Ze.ge 1048577 fun k hk=>hk)).mono fun k ⟨⟨⟨⟨⟨e1,e2⟩,e3⟩,e4⟩,e5⟩,hk⟩=>?_
 unfold Zqq Zgr
 show (bif ph != 2 then _ else _)=_
 by_cases c2:ph=2
 ·rw [if_pos c2,show (ph != 2)=false by simpa using c2,cond_false]
  refine Za e5 (Za (Zu5 (m:=m) ⟨by omega,hb.2⟩ (by omega) (by omega) hk) (Za e2 (Za (Zb0 v _ _ _ _ _ _ _) (Za e1 ?_))))
  show (bif ((Zc m st w).length:Int) != nd then _ else _)=_
  by_cases cn:((Zc m st w).length:Int)=nd
  ·rw [if_pos cn,show (((Zc m st w).length:Int) != nd)=false by simpa using cn,cond_false,h.base]
   by_cases cc:Zdb (Zc m st w) m.1=0
   ·obtain ⟨e31,e32⟩:=e3 cc
    have hpl:=Z6v _ (Z3f cc).1 (Z5i cc)
    rw [if_pos cc,if_pos cc]
    show (bif ((0:Int) != 0) then _ else _)=_
    rw [show ((0:Int) != 0)=false from rfl,cond_false]
    refine Za e32 ?_
    show (bif !(Zli (Zle (Zwb m) (Zc m st w)).flatten==dg) then _ else _)=_
    by_cases cd:Zli (Zle (Zwb m) (Zc m st w)).flatten=dg
    ·rw [if_pos cd,show (Zli (Zle (Zwb m) (Zc m st w)).flatten==dg)=true by simpa using cd,Ym,cond_false]
     refine Za e31 (Za (Ztdb (Zg (Zc m st w)) (by omega) k (by omega)) ?_)
     show (bif decide (st<Z5b (Zg (Zc m st w))) then _ else _)=_
     by_cases cs:st<Z5b (Zg (Zc m st w))
     ·rw [if_pos cs,decide_eq_true cs]
      rfl
     ·rw [if_neg cs,decide_eq_false cs,cond_false]
      have hkl:=Zjl m.2 (Z7d (3,tr,nd,st,dn,(v:Int),(w:Int),dg))
      exact Za (Z1n v w _ _ _ _ _ _) (Za e4 (Za (Z3 (by unfold Zfe;simp;omega)) rfl))
    ·rw [if_neg cd,show (Zli (Zle (Zwb m) (Zc m st w)).flatten==dg)=false by simpa using cd]
     rfl
   ·rw [if_neg cc,if_neg cc]
    show (bif (Zdb (Zc m st w) m.1 != 0) then _ else _)=_
    rw [show (Zdb (Zc m st w) m.1 != 0)=true by simpa using cc]
    rfl
  ·rw [if_neg cn,show (((Zc m st w).length:Int) != nd)=true by simpa using cn]
   rfl
 ·rw [if_neg c2,show (ph != 2)=true by simpa using c2]
  rfl
def Zac (m:Zq) (st dn:Int) (w:Nat):Zsc:=(Zg (Zc m st w)).getD dn.toNat (0,(0,(0,0)))
def Zjh (m:Zq) (st dn:Int) (w:Nat):Int:=if (Zac m st dn w).1=1 then 3+m.1+(Zb w).getD (Zac m st dn w).2.2.2.toNat 0 else 3+(Zac m st dn w).2.2.1
def Zfg (m:Zq) (st dn:Int) (w:Nat):Str:=if (Zac m st dn w).1=1 then Zz m.2 (3+(Zac m st dn w).2.2.1) else Zah m w (Zg (Zc m st w)) dn.toNat (wAt (Zh (Zc m st w)) (Zac m st dn w).2.1.toNat)
def Zlr (m:Zq) (ph tr nd st dn:Int) (dg:Str) (v w:Nat):Z1l:=
 if ph=5 then (if dn=((Zg (Zc m st w)).length:Int) then (Zhm m v,([],([0],0)))
  else ([(false,(2,if (Zfg m st dn w).length=8 then Z5j dn (Zjh m st dn w) (Zfg m st dn w) else [])),Z7h,(false,(Zjh m st dn w,Zfg m st dn w)),Z7h]++Zfe m.2 ph tr nd st (dn+1) dg v w,([],([((Zg (Zc m st w)).length:Int)-(dn+1)],0)))) else Zkf 10
theorem Zjt (hS:Sound m st dn w) (hlt:dn<((Zg (Zc m st w)).length:Int)):at? (Zg (Zc m st w)) dn=some (Zac m st dn w)∧(0≤(Zac m st dn w).2.2.1∧(Zac m st dn w).2.2.1<m.1) ∧
  ((Zac m st dn w).1=1∧(at? (Zb w) (Zac m st dn w).2.2.2=some ((Zb w).getD (Zac m st dn w).2.2.2.toNat 0)∧0≤(Zb w).getD (Zac m st dn w).2.2.2.toNat 0∧(Zb w).getD (Zac m st dn w).2.2.2.toNat 0≤23) ∨
   (Zac m st dn w).1=2∧at? (Zh (Zc m st w)) (Zac m st dn w).2.1=some (wAt (Zh (Zc m st w)) (Zac m st dn w).2.1.toNat)∧WriteOk (wAt (Zh (Zc m st w)) (Zac m st dn w).2.1.toNat) m.1):=by
 have hdn:=hS.dn
 have hs:=hS.fit.s
 have hsl:=hS.slots
 obtain ⟨d,rfl⟩:∃d:Nat,dn=(d:Int):=⟨dn.toNat,by omega⟩
 have hd:d<(Zg (Zc m st w)).length:=by omega
 have hg:Zac m st (d:Int) w=(Zg (Zc m st w))[d]:=by
  unfold Zac
  rw [Yi]
  exact Zgy hd
 have hm:(Zg (Zc m st w))[d]? = some (Zg (Zc m st w))[d]:=List.getElem?_eq_getElem hd
 obtain ⟨j,hj,q⟩:=(Zkz hS.code).form d _ hm
 have hx:=Zcu hS.code _ (Yf hj)
 have hto:=hx.tgt
 refine ⟨by rw [hg];exact Zi hd,?_,?_⟩
 ·rw [hg]
  rcases q with q | q <;> rw [q] <;> (show 0≤(wAt _ j).2.1∧(wAt _ j).2.1<m.1) <;> rw [Zjg hj] <;> exact hto
 ·rw [hg]
  rcases q with q | q
  ·right
   rw [q]
   refine ⟨rfl,?_,?_⟩
   ·show at? (Zh (Zc m st w)) ((j:Nat):Int)=some (wAt (Zh (Zc m st w)) (((j:Nat):Int)).toNat)
    rw [Yi,Zjg hj]
    exact Zi hj
   ·show WriteOk (wAt (Zh (Zc m st w)) (((j:Nat):Int)).toNat) m.1
    rw [Yi,Zjg hj]
    exact hx
  ·left
   have h1:(Zg (Zc m st w))[d].1=1:=by rw [q]
   have h2:(Zg (Zc m st w))[d].2.2.2=Z5b ((Zg (Zc m st w)).take d):=by rw [q]
   have h3:=Zbeb hm h1
   have h4:=Zp0 ((Zg (Zc m st w)).take d)
   refine ⟨h1,?_⟩
   rw [h2]
   exact Zqs h4.1 (by omega)
theorem Z52 (hS:Sound m st dn w) (hlt:dn<((Zg (Zc m st w)).length:Int)):0≤Zjh m st dn w∧Zjh m st dn w≤39:=by
 have hb:=hS.fit.b
 obtain ⟨_,h2,h3⟩:=Zjt hS hlt
 unfold Zjh
 rcases h3 with ⟨q,_,q1,q2⟩ | ⟨q,_⟩
 ·rw [if_pos q];omega
 ·rw [if_neg (by omega)];omega
theorem Zelb (m:Zq) (x:Zk) (hx:WriteOk x m.1) (hf:Z5f m.2=true) (mv:List Zsc) (d:Nat) (hp:x.2.2.2.length≤8):(Zah m w mv d x).length≤96:=by
 unfold Zah Zbh
 split
 ·exact (by decide:Z06.length≤96)
 ·split
  ·omega
  ·split
   ·unfold Zto
    split
    ·split
     ·exact Zdm hf _
     ·exact Zdm hf _
    ·simp
   ·unfold Zms
    split
    ·rw [Zdfb];omega
    ·simp
theorem Z3gb {l:List Zk} {n:Int} (h:Zdb l n=0):∀x∈Zh l,x.2.2.2.length≤8:=by
 intro x hx
 unfold Zh at hx
 have hs:=(Z3f h).2.2.2.1 x (Ys.1 hx).1
 exact Zvw hs
theorem Z62 (hS:Sound m st dn w) (hlt:dn<((Zg (Zc m st w)).length:Int)):(Zfg m st dn w).length≤96:=by
 obtain ⟨_,h2,h3⟩:=Zjt hS hlt
 unfold Zfg
 rcases h3 with ⟨q,_⟩ | ⟨q,q1,q2⟩
 ·rw [if_pos q]
  exact Zdm hS.fit.f _
 ·rw [if_neg (by omega)]
  refine Zelb m _ q2 hS.fit.f _ _ (Z3gb hS.code _ ?_)
  have:=(Zjt hS hlt).2.1
  by_cases hi:(Zac m st dn w).2.1.toNat<(Zh (Zc m st w)).length
  ·rw [Zjg hi]
   exact Yf hi
  ·exfalso
   have hn:at? (Zh (Zc m st w)) (Zac m st dn w).2.1=none:=by
    unfold at?
    split
    ·exact List.getElem?_eq_none (by omega)
    ·rfl
   rw [hn] at q1
   cases q1
theorem Zkjb (h:MSt m ph tr nd st dn dg v w):Ze fun k=>Zvc k m (ph,(tr,(nd,(st,(dn,(dg,(Zb v,Zb w))))))) (Zc m st w)=some (Zlr m ph tr nd st dn dg v w):=by
 have hf:=h.fit
 have hb:=hf.b
 have hn:=hf.n
 have hdr:=hf.dirt
 have hk0:=h.keep
 have hll:=h.log
 unfold Zlr
 by_cases c5:ph=5
 ·have hS:=h.snd (by omega)
  have hdn:=hS.dn
  have hpl:=hS.plan
  have hz:Zhl (Zg (Zc m st w))=some ((Zg (Zc m st w)).length:Int):=rfl
  rw [if_pos c5]
  by_cases ce:dn=((Zg (Zc m st w)).length:Int)
  ·rw [if_pos ce]
   refine ((Z1j (m:=m) hf.f h.two (Zom h.hv)).and (Z8s _ (Z3f hS.code).1 (Z5i hS.code))).mono fun k ⟨e1,e2⟩=>?_
   unfold Zvc
   show (bif ph != 5 then _ else _)=_
   rw [show (ph != 5)=false by simpa using c5,cond_false]
   refine Za e2 (Za hz ?_)
   show (bif (Ye .i64 (((Zg (Zc m st w)).length:Int)-dn))==0 then _ else _)=_
   rw [w64 (n:=((Zg (Zc m st w)).length:Int)-dn) (by omega) (by omega),show (((Zg (Zc m st w)).length:Int)-dn==0)=true by rw [ce];simp,cond_true]
   exact Za (Zmy v _ _ _ _ _ _ _) (Za e1 rfl)
  ·have hlt:dn<((Zg (Zc m st w)).length:Int):=by omega
   obtain ⟨m1,m2,m3⟩:=Zjt hS hlt
   have hat:=Z52 hS hlt
   have hdl:=Z62 hS hlt
   rw [if_neg ce]
   refine ((((Z1j (m:=m) hf.f h.two (a:=ph) (e:=dn+1) { hk0 with e:=by omega }).and (Z8s _ (Z3f hS.code).1 (Z5i hS.code))).and (Ztjb dn (Zjh m st dn w) (Zfg m st dn w) (by constructor <;> omega) (by constructor <;> omega) (by omega))).and (Ze.ge 1048577 fun k hk=>hk)).mono fun k ⟨⟨⟨e1,e2⟩,e3⟩,hk⟩=>?_
   have hj0:Zvc.j0 k (Zc m st w) (3+(Zac m st dn w).2.2.1) m.1 m.2.1 m.2.2 ph tr nd st dn dg (Zb v) (Zb w) (Zac m st dn w).1 (Zac m st dn w).2.1 (Zac m st dn w).2.2.1 (Zac m st dn w).2.2.2 (Zg (Zc m st w))=some (Zjh m st dn w,(Zfg m st dn w,(m.1,(m.2.1,(m.2.2,(ph,(tr,(nd,(st,(dn,(dg,(Zb v,(Zb w,(Zac m st dn w)))))))))))))):=by
    unfold Zvc.j0 Zjh Zfg
    dsimp only
    rcases m3 with ⟨q,q1,q2,q3⟩ | ⟨q,q1,q2⟩
    ·rw [if_pos q,if_pos q,show ((Zac m st dn w).1==1)=true by simpa using q,cond_true]
     exact Za q1 (Za (Ziy hf q2 q3) (Za (Zvo m.2 _ hdr (by omega) (by omega) (by omega)) rfl))
    ·rw [if_neg (by omega),if_neg (by omega),show ((Zac m st dn w).1==1)=false by rw [q];rfl,cond_false]
     exact Za (Zty _ (by omega) k (by omega)) (Za q1 (Za (Zdab hS ph tr nd dg (Zb v) q2 hk) rfl))
   have hj1:Zvc.j1 k (Zjh m st dn w) (Zfg m st dn w) [] ph tr nd st dn dg (Zb v) (Zb w)=some (if (Zfg m st dn w).length=8 then Z5j dn (Zjh m st dn w) (Zfg m st dn w) else [],(ph,(tr,(nd,(st,(dn,(dg,(Zb v,Zb w)))))))):=by
    unfold Zvc.j1
    by_cases c8:(Zfg m st dn w).length=8
    ·rw [if_pos c8,show (((Zfg m st dn w).length:Int)==8)=true by rw [c8];rfl,cond_true]
     exact Za e3 rfl
    ·rw [if_neg c8,show (((Zfg m st dn w).length:Int)==8)=false by simp;omega]
     rfl
   unfold Zvc
   show (bif ph != 5 then _ else _)=_
   rw [show (ph != 5)=false by simpa using c5,cond_false]
   refine Za e2 (Za hz ?_)
   show (bif (Ye .i64 (((Zg (Zc m st w)).length:Int)-dn))==0 then _ else _)=_
   rw [w64 (n:=((Zg (Zc m st w)).length:Int)-dn) (by omega) (by omega),show (((Zg (Zc m st w)).length:Int)-dn==0)=false by simp;omega,cond_false]
   refine Za m1 (Za m1 ?_)
   rw [w64 (n:=3+(Zac m st dn w).2.2.1) (by omega) (by omega)]
   refine Za hj0 (Za hj1 ?_)
   show Yt (Zce k m (ph,(tr,(nd,(st,(Ye .i64 (dn+1),(dg,(Zb v,Zb w)))))))) _=_
   rw [w64 (n:=dn+1) (by omega) (by omega)]
   have hkl:=Zjl m.2 (Z7d (ph,tr,nd,st,dn+1,(v:Int),(w:Int),dg))
   refine Za e1 (Za (Z3 (by unfold Zfe;simp;omega)) ?_)
   rw [w64 (n:=((Zg (Zc m st w)).length:Int)-dn-1) (by omega) (by omega),show ((Zg (Zc m st w)).length:Int)-dn-1=((Zg (Zc m st w)).length:Int)-(dn+1) by omega]
   rfl
 ·rw [if_neg c5]
  refine Ze.of fun k=>?_
  unfold Zvc
  show (bif ph != 5 then _ else _)=_
  rw [show (ph != 5)=true by simpa using c5]
  rfl
theorem Zpnb (h:MSt m ph tr nd st dn dg v w):Ze fun k=>Zbg k m (ph,(tr,(nd,(st,(dn,(dg,(Zb v,Zb w)))))))=some (Zlr m ph tr nd st dn dg v w):=by
 have hf:=h.fit
 have hb:=hf.b
 have hn:=hf.n
 have hdr:=hf.dirt
 have hk0:=h.keep
 have hll:=h.log
 unfold Zlr
 by_cases c5:ph=5
 ·have hS:=h.snd (by omega)
  have hdn:=hS.dn
  have hpl:=hS.plan
  rw [if_pos c5]
  by_cases ce:dn=((Zg (Zc m st w)).length:Int)
  ·rw [if_pos ce]
   refine ((Zbk (m:=m) hf.f h.two (Zom h.hv)).and (Ze0 h (by omega))).mono fun k ⟨e1,e2⟩=>?_
   unfold Zbg
   show (bif ph != 5 then _ else _)=_
   rw [show (ph != 5)=false by simpa using c5,cond_false]
   refine Za e2 ?_
   show (bif decide (((Zg (Zc m st w)).length:Int)≤dn) then _ else _)=_
   rw [decide_eq_true (by omega:((Zg (Zc m st w)).length:Int)≤dn),cond_true]
   exact Za (Zb0 v _ _ _ _ _ _ _) (Za e1 rfl)
  ·have hlt:dn<((Zg (Zc m st w)).length:Int):=by omega
   obtain ⟨m1,m2,m3⟩:=Zjt hS hlt
   have hat:=Z52 hS hlt
   have hdl:=Z62 hS hlt
   rw [if_neg ce]
   refine (((((Zbk (m:=m) hf.f h.two (a:=ph) (e:=dn+1) { hk0 with e:=by omega }).and (Ze0 h (by omega))).and (Zodb dn (Zjh m st dn w) (Zfg m st dn w) (by constructor <;> omega) (by constructor <;> omega) (by omega))).and (Zaq ph tr nd st dn dg (Zb v) hf)).and (Ze.ge 1048577 fun k hk=>hk)).mono fun k ⟨⟨⟨⟨e1,e2⟩,e3⟩,e4⟩,hk⟩=>?_
   have hj0:Zbg.j0 k m.1 m.2.1 m.2.2 ph tr nd st dn dg (Zb v) (Zb w) (3+(Zac m st dn w).2.2.1) (Zz m.2 (3+(Zac m st dn w).2.2.1)) (Zac m st dn w).1 (Zac m st dn w).2.1 (Zac m st dn w).2.2.1 (Zac m st dn w).2.2.2 (Zg (Zc m st w))=some (Zjh m st dn w,(Zfg m st dn w,Zac m st dn w)):=by
    unfold Zbg.j0 Zjh Zfg
    dsimp only
    rcases m3 with ⟨q,q1,q2,q3⟩ | ⟨q,q1,q2⟩
    ·rw [if_pos q,if_pos q,show ((Zac m st dn w).1==1)=true by simpa using q,cond_true]
     exact Za q1 (Za (Znw hf q2 q3) rfl)
    ·rw [if_neg (by omega),if_neg (by omega),show ((Zac m st dn w).1==1)=false by rw [q];rfl,cond_false]
     exact Za e4 (Za (Z35 _ (by omega) k (by omega)) (Za q1 (Za q1 (Za (Zldb hS ph tr nd dg (Zb v) q2 hk) rfl))))
   have hB:(if Zsm dn (Zjh m st dn w) (Zfg m st dn w)=true then Z5j dn (Zjh m st dn w) (Zfg m st dn w) else [])=if (Zfg m st dn w).length=8 then Z5j dn (Zjh m st dn w) (Zfg m st dn w) else []:=by
    by_cases c8:(Zfg m st dn w).length=8
    ·rw [if_pos c8,if_pos (Z2v.2 ⟨⟨by omega,by omega⟩,hat,c8⟩)]
    ·rw [if_neg c8,if_neg (fun q=>c8 (Z2v.1 q).2.2)]
   rw [hB] at e3
   unfold Zbg
   show (bif ph != 5 then _ else _)=_
   rw [show (ph != 5)=false by simpa using c5,cond_false]
   refine Za e2 ?_
   show (bif decide (((Zg (Zc m st w)).length:Int)≤dn) then _ else _)=_
   rw [decide_eq_false (by omega:¬((Zg (Zc m st w)).length:Int)≤dn),cond_false]
   refine Za m1 (Za m1 ?_)
   dsimp only
   rw [w64 (n:=3+(Zac m st dn w).2.2.1) (by omega) (by omega)]
   refine Za (Z2n m.2 _ hdr (by omega) (by omega) (by omega)) (Za hj0 (Za (Z1n v w _ _ _ _ _ _) (Za e3 ?_)))
   rw [w64 (n:=dn+1) (by omega) (by omega)]
   have hkl:=Zjl m.2 (Z7d (ph,tr,nd,st,dn+1,(v:Int),(w:Int),dg))
   refine Za e1 (Za (Z3 (by unfold Zfe;simp;omega)) ?_)
   rw [w64 (n:=((Zg (Zc m st w)).length:Int)-(dn+1)) (by omega) (by omega)]
   rfl
 ·rw [if_neg c5]
  refine Ze.of fun k=>?_
  unfold Zbg
  show (bif ph != 5 then _ else _)=_
  rw [show (ph != 5)=true by simpa using c5]
  rfl
end
end Go.Proofs.Qz
namespace Go.Proofs.Qz
open Go
set_option linter.unusedVariables false
def Zpr (m:Zq) (ph tr nd st dn:Int) (dg:Str) (v w:Nat) (a:Int):Z1l:=match Zch (Zxb v w) a with
 | some l=>Z1i (Zfe m.2 ph tr nd st dn dg (v ||| Zog l) w)
 | none=>Zkf 11
def Ze6 (m:Zq) (ph tr nd st dn:Int) (v w:Nat):List Int:=[ph,tr,((Zc m st w).length:Int),Z8g (Zc m st w),(if ph=5 then ((Zg (Zc m st w)).length:Int)-dn else 0),((Zb (Zxb v w)).length:Int)]
def Zeo (m:Zq) (c:Zcg) (ph tr nd st dn:Int) (dg:Str) (v w:Nat):Z1l:=
 if c.1=1 then Z2q m ph v c.2.1 c.2.2.1 c.2.2.2.1
 else if c.1=2 then Zes m ph nd st w c.2.2.2.2
 else if c.1=3 then Zgr m ph tr nd st dn dg v w
 else if c.1=4 then (if ph=1∨ph=5 then Zkf 10 else Z1i (Zhm m v))
 else if c.1=5 then (if ph=4 then Z1i ([(false,(2,[])),Z7h]++Zfe m.2 5 0 nd st dn dg v w) else Zkf 10)
 else if c.1=6 then Zlr m ph tr nd st dn dg v w
 else if c.1=7 then (if m.1≤c.2.1 then Zkf 8 else ([],((Zzl m ph st dn w).getD c.2.1.toNat [],([],0))))
 else if c.1=8 then ([],([],(Ze6 m ph tr nd st dn v w,0)))
 else if c.1=9 then Zpr m ph tr nd st dn dg v w c.2.1
 else if c.1=10 then Z1i (Zfe m.2 ph tr nd st dn dg 0 w)
 else Z1i (Zgn m ph tr nd st dn dg v w)
structure CmdOk (c:Zcg):Prop where
 r:1≤c.1∧c.1≤11
 k1:c.1=1→(1≤c.2.1∧c.2.1≤20)∧(0≤c.2.2.1∧c.2.2.1≤4)∧c.2.2.2.1.length≤32
 k2:c.1=2→Zed c.2.2.2.2.1 c.2.2.2.2.2.1 c.2.2.2.2.2.2.1 c.2.2.2.2.2.2.2 8=true
 k7:c.1=7→0≤c.2.1
 k9:c.1=9→1≤c.2.1∧c.2.1≤24
theorem Za2 {c:Zcg} (h:Zxj c=true):CmdOk c:=by
 unfold Zxj at h
 split at h
 ·rename_i q
  simp only [Yb,decide_eq_true_eq] at h
  exact ⟨by omega,fun _=>⟨by omega,by omega,by omega⟩,by omega,by omega,by omega⟩
 ·split at h
  ·rename_i q
   simp only [Yb,decide_eq_true_eq] at h
   exact ⟨by omega,by omega,fun _=>h.2,by omega,by omega⟩
  ·split at h
   ·rename_i q
    simp only [Yb,decide_eq_true_eq] at h
    exact ⟨by omega,by omega,by omega,by omega,fun _=>by omega⟩
   ·split at h
    ·rename_i q
     simp only [Yb,decide_eq_true_eq] at h
     exact ⟨by omega,by omega,by omega,fun _=>by omega,by omega⟩
    ·simp only [Yb,decide_eq_true_eq] at h
     exact ⟨by omega,by omega,by omega,by omega,by omega⟩
section
variable {m:Zq} {ph tr nd st dn:Int} {dg:Str} {v w:Nat}
theorem Zf3 (h:MSt m ph tr nd st dn dg v w) {n:Int} (h1:1≤n) {l:List Int} (hr:Zch (Zxb v w) n=some l):Zog l<16777216∧l=Zb (Zog l)∧v &&& Zog l=0∧(v ||| Zog l)<16777216:=by
 obtain ⟨⟨u,u1,u2,u3⟩,_⟩:=Zucb (Zfv h.hv h.hw) h1 hr
 have e:Zog l=u:=by rw [u2];exact Z27 u1
 rw [e]
 refine ⟨u1,u2,Zzfb (fun i hi q=>?_) h.hv,?_⟩
 ·have:=u3 i q.2
  rw [Z72 hi,q.1] at this
  cases this
 ·have:v ||| u<2^24:=Yma (by simpa using h.hv) (by simpa using u1)
  simpa using this
theorem Z3ib (hs:stM m=some (ph,(tr,(nd,(st,(dn,(dg,(v,w)))))))) (h:MSt m ph tr nd st dn dg v w) {c:Zcg} (hc:CmdOk c):Ze fun k=>Zuc k m c=some (if (Zlb m.2).1=1000000 then Zkf 9 else Zeo m c ph tr nd st dn dg v w):=by
 have hf:=h.fit
 have hb:=hf.b
 have hn:=hf.n
 have hdr:=hf.dirt
 have hl:m.2.1.length≤1048576:=by omega
 have hk0:=h.keep
 have hll:=h.log
 have hlv:=Z6c v
 have hlw:=Z6c w
 have pre0:Ze fun k=>Znh k m=some (Zyr (some (ph,tr,nd,st,dn,dg,v,w))):=by rw [← hs];exact Zqy m hl (by omega)
 have pre:=(pre0.and (Zl3 hf.f h.two)).and (Ziv ph tr nd st dn dg (Zb v) hf)
 by_cases cg:(Zlb m.2).1=1000000
 ·rw [if_pos cg]
  refine pre.mono fun k ⟨⟨p1,p2⟩,p3⟩=>?_
  unfold Zuc
  refine Za p1 (Za p2 ?_)
  rw [show ((Zlb m.2).1==1000000)=true by simpa using cg]
  rfl
 ·rw [if_neg cg]
  have hg:((Zlb m.2).1==1000000)=false:=by simpa using cg
  obtain ⟨o,a,b,t,s⟩:=c
  have hr:=hc.r
  dsimp only at hr
  have ho:o=1∨o=2∨o=3∨o=4∨o=5∨o=6∨o=7∨o=8∨o=9∨o=10∨o=11:=by omega
  rcases ho with rfl | rfl | rfl | rfl | rfl | rfl | rfl | rfl | rfl | rfl | rfl
  ·obtain ⟨q1,q2,q3⟩:=hc.k1 rfl
   refine (pre.and (Z5ib h (1,(a,(b,(t,s)))) q1 q2 q3)).mono fun k ⟨⟨⟨p1,p2⟩,p3⟩,e⟩=>?_
   unfold Zuc
   refine Za p1 (Za p2 ?_)
   rw [hg,cond_false]
   exact Za p3 (Za e rfl)
  ·refine (pre.and (Zckb h s (hc.k2 rfl))).mono fun k ⟨⟨⟨p1,p2⟩,p3⟩,e⟩=>?_
   unfold Zuc
   refine Za p1 (Za p2 ?_)
   rw [hg,cond_false]
   exact Za p3 (Za e rfl)
  ·refine (pre.and (Zjjb h)).mono fun k ⟨⟨⟨p1,p2⟩,p3⟩,e⟩=>?_
   unfold Zuc
   refine Za p1 (Za p2 ?_)
   rw [hg,cond_false]
   exact Za p3 (Za e rfl)
  ·refine (pre.and (Z1j (m:=m) hf.f h.two (Zom h.hv))).mono fun k ⟨⟨⟨p1,p2⟩,p3⟩,e⟩=>?_
   unfold Zuc
   refine Za p1 (Za p2 ?_)
   rw [hg,cond_false]
   refine Za p3 ?_
   show (bif (ph==1)||(ph==5) then _ else _)=some (if ph=1∨ph=5 then Zkf 10 else Z1i (Zhm m v))
   by_cases q:ph=1∨ph=5
   ·rw [if_pos q,show ((ph==1)||(ph==5))=true by rcases q with q | q <;> rw [q] <;> rfl]
    rfl
   ·rw [if_neg q,show ((ph==1)||(ph==5))=false by
     rw [Y6]
     exact ⟨by simp;omega,by simp;omega⟩,cond_false]
    exact Za (Zmy v _ _ _ _ _ _ _) (Za e rfl)
  ·refine (pre.and (Z1j (m:=m) hf.f h.two (a:=5) (b:=0) { hk0 with a:=by omega,b:=by omega })).mono fun k ⟨⟨⟨p1,p2⟩,p3⟩,e⟩=>?_
   unfold Zuc
   refine Za p1 (Za p2 ?_)
   rw [hg,cond_false]
   refine Za p3 ?_
   show (bif ph != 4 then _ else _)=some (if ph=4 then Z1i ([(false,(2,[])),Z7h]++Zfe m.2 5 0 nd st dn dg v w) else Zkf 10)
   by_cases q:ph=4
   ·rw [if_pos q,show (ph != 4)=false by simpa using q,cond_false]
    have hkl:=Zjl m.2 (Z7d (5,0,nd,st,dn,(v:Int),(w:Int),dg))
    exact Za e (Za (Z3 (by unfold Zfe;simp;omega)) rfl)
   ·rw [if_neg q,show (ph != 4)=true by simpa using q]
    rfl
  ·refine (pre.and (Zkjb h)).mono fun k ⟨⟨⟨p1,p2⟩,p3⟩,e⟩=>?_
   unfold Zuc
   refine Za p1 (Za p2 ?_)
   rw [hg,cond_false]
   exact Za p3 (Za e rfl)
  ·refine (pre.and (Zikb hs h)).mono fun k ⟨⟨⟨p1,p2⟩,p3⟩,e⟩=>?_
   have h7:=hc.k7 rfl
   dsimp only at h7
   have hvl:=Z7eb h
   unfold Zuc
   refine Za p1 (Za p2 ?_)
   rw [hg,cond_false]
   refine Za p3 ?_
   show (bif decide (m.1≤a) then _ else _)=some (if m.1≤a then Zkf 8 else ([],((Zzl m ph st dn w).getD a.toNat [],([],0))))
   by_cases q:m.1≤a
   ·rw [if_pos q,decide_eq_true q]
    rfl
   ·rw [if_neg q,decide_eq_false q,cond_false]
    have hat:=Zgo (l:=Zzl m ph st dn w) (n:=a) h7 (by omega)
    exact Za e (Za hat (Za hat rfl))
  ·have hmv:Ze fun k=>ph=5→Zmn k m (ph,(tr,(nd,(st,(dn,(dg,(Zb v,Zb w)))))))=some (Zg (Zc m st w)):=if h5:ph=5 then (Zrjb h (by omega)).mono fun k e _=>e else Ze.of fun k q=>absurd q h5
   refine ((pre.and hmv).and (Ze.ge 100 fun k hk=>hk)).mono fun k ⟨⟨⟨⟨p1,p2⟩,p3⟩,e⟩,hk⟩=>?_
   have hcount:=Z1gb h.apart
   have hj:Zuc.j0 k m.1 m.2.1 m.2.2 0 ph tr nd st dn dg (Zb v) (Zb w)=some ((if ph=5 then ((Zg (Zc m st w)).length:Int)-dn else 0),(ph,(tr,(nd,(st,(dn,(dg,(Zb v,Zb w)))))))):=by
    unfold Zuc.j0
    by_cases h5:ph=5
    ·have hS:=h.snd (by omega)
     have hpl:=hS.plan
     have hdn:=hS.dn
     rw [if_pos h5,show (ph==5)=true by simpa using h5,cond_true]
     refine Za (e h5) (Za (a:=((Zg (Zc m st w)).length:Int)) rfl ?_)
     rw [w64 (n:=((Zg (Zc m st w)).length:Int)-dn) (by omega) (by omega)]
    ·rw [if_neg h5,show (ph==5)=false by simpa using h5]
     rfl
   unfold Zuc
   refine Za p1 (Za p2 ?_)
   rw [hg,cond_false]
   refine Za p3 (Za hj (Za (a:=((Zc m st w).length:Int)) rfl (Za (Zcab _ hll.2.1 (by omega)) (Za (a:=((Zb v).length:Int)) rfl (Za (a:=((Zb w).length:Int)) rfl ?_)))))
   rw [w64 (n:=24-((Zb v).length:Int)) (by omega) (by omega),w64 (n:=24-((Zb v).length:Int)-((Zb w).length:Int)) (by omega) (by omega),show 24-((Zb v).length:Int)-((Zb w).length:Int)=((Zb (Zxb v w)).length:Int) by omega]
   rfl
  ·obtain ⟨q1,q2⟩:=hc.k9 rfl
   dsimp only at q1 q2
   obtain ⟨n,rfl⟩:∃n:Nat,a=(n:Int):=⟨a.toNat,by omega⟩
   have hres:∀k,200≤k→Z1b k (Zb v) (Zb w) (n:Int)=some (match Zch (Zxb v w) (n:Int) with
    | some l=>(l,true)
    | none=>([],false)):=fun k hk=>Zfab v w n h.hv h.hw (by omega) hk
   have goalE:Zeo m (9,((n:Int),(b,(t,s)))) ph tr nd st dn dg v w=Zpr m ph tr nd st dn dg v w (n:Int):=rfl
   rw [goalE]
   unfold Zpr
   cases hq:Zch (Zxb v w) (n:Int) with
   | none=>
    refine (pre.and (Ze.ge 200 fun k hk=>hk)).mono fun k ⟨⟨⟨p1,p2⟩,p3⟩,hk⟩=>?_
    have hr2:=hres k hk
    rw [hq] at hr2
    unfold Zuc
    refine Za p1 (Za p2 ?_)
    rw [hg,cond_false]
    exact Za p3 (Za hr2 rfl)
   | some l=>
    obtain ⟨u1,u2,u3,u4⟩:=Zf3 h (by omega) hq
    refine ((pre.and (Z1j (m:=m) hf.f h.two (v:=v ||| Zog l) { hk0 with v:=u4 })).and (Ze.ge 200 fun k hk=>hk)).mono fun k ⟨⟨⟨⟨p1,p2⟩,p3⟩,e⟩,hk⟩=>?_
    have hr2:=hres k hk
    rw [hq] at hr2
    unfold Zuc
    refine Za p1 (Za p2 ?_)
    rw [hg,cond_false]
    refine Za p3 (Za hr2 ?_)
    show Yt (Zlc k (Zb v)) _=_
    have hbl:Zlc k l=some ((Zog l:Nat):Int):=by
     have:=Zuo (Zog l) u1 k (by omega)
     rw [← u2] at this
     exact this
    refine Za (Zuo v h.hv k (by omega)) (Za hbl ?_)
    have hv2:=h.hv
    rw [ori v (Zog l) (by omega) (by omega)]
    exact Za (Zky _ u4 k (by omega)) (Za e rfl)
  ·refine (pre.and (Z1j (m:=m) hf.f h.two (v:=0) { hk0 with v:=by omega })).mono fun k ⟨⟨⟨p1,p2⟩,p3⟩,e⟩=>?_
   rw [Z4q] at e
   unfold Zuc
   refine Za p1 (Za p2 ?_)
   rw [hg,cond_false]
   exact Za p3 (Za e rfl)
  ·refine (pre.and (Zajb h.toMS0)).mono fun k ⟨⟨⟨p1,p2⟩,p3⟩,e⟩=>?_
   unfold Zuc
   refine Za p1 (Za p2 ?_)
   rw [hg,cond_false]
   exact Za p3 (Za e rfl)
theorem Z5mb (h:MSt m ph tr nd st dn dg v w) {c:Zcg} (hc:CmdOk c):Ze fun k=>Zdh k m (ph,(tr,(nd,(st,(dn,(dg,(Zb v,Zb w))))))) c=some (Zeo m c ph tr nd st dn dg v w):=by
 have hf:=h.fit
 have hb:=hf.b
 have hn:=hf.n
 have hdr:=hf.dirt
 have hk0:=h.keep
 have hll:=h.log
 have hlv:=Z6c v
 have hlw:=Z6c w
 have hcp:=Z1n v w ph tr nd st dn dg
 obtain ⟨o,a,b,t,s⟩:=c
 have hr:=hc.r
 dsimp only at hr
 have ho:o=1∨o=2∨o=3∨o=4∨o=5∨o=6∨o=7∨o=8∨o=9∨o=10∨o=11:=by omega
 rcases ho with rfl | rfl | rfl | rfl | rfl | rfl | rfl | rfl | rfl | rfl | rfl
 ·obtain ⟨q1,q2,q3⟩:=hc.k1 rfl
  refine (Z9mb h (1,(a,(b,(t,s)))) q1 q2 q3).mono fun k e=>?_
  unfold Zdh
  exact Za hcp (Za e rfl)
 ·refine (Zeob h (2,(a,(b,(t,s)))) (hc.k2 rfl)).mono fun k e=>?_
  unfold Zdh
  exact Za hcp (Za e rfl)
 ·refine (Znnb h).mono fun k e=>?_
  unfold Zdh
  exact Za hcp (Za e rfl)
 ·refine (Zbk (m:=m) hf.f h.two (Zom h.hv)).mono fun k e=>?_
  unfold Zdh
  refine Za hcp ?_
  show (bif (ph==1)||(ph==5) then _ else _)=some (if ph=1∨ph=5 then Zkf 10 else Z1i (Zhm m v))
  by_cases q:ph=1∨ph=5
  ·rw [if_pos q,show ((ph==1)||(ph==5))=true by rcases q with q | q <;> rw [q] <;> rfl]
   rfl
  ·rw [if_neg q,show ((ph==1)||(ph==5))=false by
    rw [Y6]
    exact ⟨by simp;omega,by simp;omega⟩,cond_false]
   exact Za (Zb0 v _ _ _ _ _ _ _) (Za e rfl)
 ·refine (Zbk (m:=m) hf.f h.two (a:=5) (b:=0) { hk0 with a:=by omega,b:=by omega }).mono fun k e=>?_
  unfold Zdh
  refine Za hcp ?_
  show (bif ph != 4 then _ else _)=some (if ph=4 then Z1i ([(false,(2,[])),Z7h]++Zfe m.2 5 0 nd st dn dg v w) else Zkf 10)
  by_cases q:ph=4
  ·rw [if_pos q,show (ph != 4)=false by simpa using q,cond_false]
   have hkl:=Zjl m.2 (Z7d (5,0,nd,st,dn,(v:Int),(w:Int),dg))
   exact Za e (Za (Z3 (by unfold Zfe;simp;omega)) rfl)
  ·rw [if_neg q,show (ph != 4)=true by simpa using q]
   rfl
 ·refine (Zpnb h).mono fun k e=>?_
  unfold Zdh
  exact Za hcp (Za e rfl)
 ·refine (Ziob h).mono fun k e=>?_
  have h7:=hc.k7 rfl
  dsimp only at h7
  have hvl:=Z7eb h
  unfold Zdh
  refine Za hcp ?_
  show (bif decide (m.1≤a) then _ else _)=some (if m.1≤a then Zkf 8 else ([],((Zzl m ph st dn w).getD a.toNat [],([],0))))
  by_cases q:m.1≤a
  ·rw [if_pos q,decide_eq_true q]
   rfl
  ·rw [if_neg q,decide_eq_false q,cond_false]
   have hat:=Zgo (l:=Zzl m ph st dn w) (n:=a) h7 (by omega)
   exact Za e (Za hat (Za hat rfl))
 ·have hmv:Ze fun k=>ph=5→Zqj k m (ph,(tr,(nd,(st,(dn,(dg,(Zb v,Zb w)))))))=some (Zg (Zc m st w)):=if h5:ph=5 then (Ze0 h (by omega)).mono fun k e _=>e else Ze.of fun k q=>absurd q h5
  refine (((Zaq ph tr nd st dn dg (Zb v) hf).and hmv).and (Ze.ge 200 fun k hk=>hk)).mono fun k ⟨⟨p3,e⟩,hk⟩=>?_
  have hj:Z0g.j0 k m.1 m.2.1 m.2.2 ph tr nd st dn dg (Zb v) (Zb w) 0=some (if ph=5 then ((Zg (Zc m st w)).length:Int)-dn else 0):=by
   unfold Z0g.j0
   by_cases h5:ph=5
   ·have hS:=h.snd (by omega)
    have hpl:=hS.plan
    have hdn:=hS.dn
    rw [if_pos h5,show (ph==5)=true by simpa using h5,cond_true]
    refine Za (e h5) ?_
    rw [w64 (n:=((Zg (Zc m st w)).length:Int)-dn) (by omega) (by omega)]
   ·rw [if_neg h5,show (ph==5)=false by simpa using h5]
    rfl
  unfold Zdh
  refine Za hcp (Za (a:=([],([],(Ze6 m ph tr nd st dn v w,0)))) ?_ rfl)
  unfold Z0g
  exact Za p3 (Za hj (Za (Zjdb _ hll.2.1 (by omega)) (Za (Zhdb v w (by omega)) rfl)))
 ·obtain ⟨q1,q2⟩:=hc.k9 rfl
  dsimp only at q1 q2
  obtain ⟨n,rfl⟩:∃n:Nat,a=(n:Int):=⟨a.toNat,by omega⟩
  have hres:∀k,200≤k→Z2c k (Zb v) (Zb w) (n:Int)=some (Zgz (Zch (Zxb v w) (n:Int)) 11):=fun k hk=>Zsdb v w n h.hv h.hw (by omega) hk
  have goalE:Zeo m (9,((n:Int),(b,(t,s)))) ph tr nd st dn dg v w=Zpr m ph tr nd st dn dg v w (n:Int):=rfl
  rw [goalE]
  unfold Zpr
  cases hq:Zch (Zxb v w) (n:Int) with
  | none=>
   refine (Ze.ge 200 fun k hk=>hk).mono fun k hk=>?_
   have hr2:=hres k hk
   rw [hq] at hr2
   unfold Zdh
   exact Za hcp (Za hr2 rfl)
  | some l=>
   obtain ⟨u1,u2,u3,u4⟩:=Zf3 h (by omega) hq
   refine ((Zbk (m:=m) hf.f h.two (v:=v ||| Zog l) { hk0 with v:=u4 }).and (Ze.ge 200 fun k hk=>hk)).mono fun k ⟨e,hk⟩=>?_
   have hr2:=hres k hk
   rw [hq] at hr2
   unfold Zdh
   refine Za hcp (Za hr2 ?_)
   have hbl:Zsd k l=some ((Zog l:Nat):Int):=by
    have:=Z7z (Zog l) u1 k (by omega)
    rw [← u2] at this
    exact this
   have hv2:=h.hv
   refine Za (Z7z v h.hv k (by omega)) (Za hbl ?_)
   rw [w64 (n:=((v:Nat):Int)+((Zog l:Nat):Int)) (by omega) (by omega),show ((v:Nat):Int)+((Zog l:Nat):Int)=((v ||| Zog l:Nat):Int) by rw [← Zvfb h.hv u1 u3];omega]
   exact Za (Zidb _ u4 k (by omega)) (Za e rfl)
 ·refine (Zbk (m:=m) hf.f h.two (v:=0) { hk0 with v:=by omega }).mono fun k e=>?_
  rw [Z4q] at e
  unfold Zdh
  exact Za hcp (Za e rfl)
 ·refine (Zdnb h.toMS0).mono fun k e=>?_
  unfold Zdh
  exact Za hcp (Za e rfl)
end
def Z5l (m:Zq) (c:Zcg):Z1l:=if Zph m=true∧Zxj c=true then (if (Zlb m.2).1=1000000 then Zkf 9 else match stM m with
 | some (ph,tr,nd,st,dn,dg,v,w)=>Zeo m c ph tr nd st dn dg v w
 | none=>Zkf 1) else Zkf 1
theorem Z6mb (m:Zq) (c:Zcg) (hl:m.2.1.length≤1048576) (hl2:m.2.2.length≤1048576):Ze fun k=>Zzm k m c=some (Z5l m c):=by
 unfold Z5l
 cases hm:Zph m with
 | false=>
  rw [if_neg (fun q=>by cases q.1)]
  refine (Z5t m hl hl2).mono fun k e=>?_
  rw [hm] at e
  unfold Zzm Zni
  exact Za (Za e rfl) rfl
 | true=>
  cases hc:Zxj c with
  | false=>
   rw [if_neg (fun q=>by cases q.2)]
   refine (Z5t m hl hl2).mono fun k e=>?_
   rw [hm] at e
   have ec:=Zv5 c
   rw [hc] at ec
   unfold Zzm Zni
   exact Za (Za e (Za ec rfl)) rfl
  | true=>
   rw [if_pos ⟨rfl,rfl⟩]
   have es:=Zv5 c
   rw [hc] at es
   have hok:=Za2 hc
   cases hs:stM m with
   | none=>unfold Zph at hm;rw [hs] at hm;cases hm
   | some z=>
    obtain ⟨ph,tr,nd,st,dn,dg,v,w⟩:=z
    have h:=Zq4 hs hm
    dsimp only
    have hgen:=Z8y m.2
    have pre0:Ze fun k=>Zyi k m=some (Zyr (some (ph,tr,nd,st,dn,dg,v,w))):=by rw [← hs];exact Z15 m hl hl2
    refine ((((Z5t m hl hl2).and (Zd0 h.fit.f h.two)).and pre0).and (Z5mb h hok)).mono fun k ⟨⟨⟨e1,e2⟩,e3⟩,e4⟩=>?_
    rw [hm] at e1
    unfold Zzm
    by_cases cg:(Zlb m.2).1=1000000
    ·rw [if_pos cg]
     refine Za (a:=9) ?_ rfl
     unfold Zni
     refine Za e1 (Za es (Za e2 ?_))
     rw [decide_eq_true (by omega:(1000000:Int)≤(Zlb m.2).1)]
     rfl
    ·rw [if_neg cg]
     refine Za (a:=0) ?_ ?_
     ·unfold Zni
      refine Za e1 (Za es (Za e2 ?_))
      rw [decide_eq_false (by omega:¬(1000000:Int)≤(Zlb m.2).1)]
      rfl
     ·show (bif ((0:Int) != 0) then _ else _)=_
      rw [show ((0:Int) != 0)=false from rfl,cond_false]
      exact Za e3 (Za e4 rfl)
end Go.Proofs.Qz
namespace Go.Proofs.Qz
open Go
set_option linter.unusedVariables false
def Z0l (f:Z9) (n:Int) (s:Str):Z9:=match Z6i f n with
 | some i=>(f.1,f.2.set i (n,s))
 | none=>(f.1,f.2++[(n,s)])
def Z2h (s:List Str) (l:List Ztd):List Str:=l.foldl (fun s d=>s.set d.1.toNat d.2) s
def Ztq (f:Z9):Z9:=(Z2h f.1 f.2,[])
def doA (f:Z9) (a:Bool×Int×Str):Z9:=if a.1=true then Ztq f else Z0l f a.2.1 a.2.2
def doF (f:Z9) (l:List (Bool×Int×Str)):Z9:=l.foldl doA f
def Zns (n:Nat) (a:Bool×Int×Str):Prop:=a.1=false→(0≤a.2.1∧a.2.1<(n:Int))∧a.2.2.length≤96
structure FlashP (f:Z9):Prop where
 n:1≤f.1.length∧f.1.length≤40
 s:∀x∈f.1,x.length≤96
 d:∀x∈f.2,(0≤x.1∧x.1<(f.1.length:Int))∧x.2.length≤96
 u:(f.2.map fun x=>x.1).Nodup
theorem FlashP.len {f:Z9} (h:FlashP f):f.2.length≤f.1.length:=by
 have:=Z1v f.1.length (f.2.map fun x=>x.1.toNat) (by
  have hu:=h.u
  unfold List.Nodup at hu ⊢
  rw [Yz] at hu ⊢
  refine hu.imp_of_mem fun {a b} ha hb q e=>q ?_
  have:=(h.d a ha).1
  have:=(h.d b hb).1
  omega) (fun x hx=>by
  obtain ⟨y,hy,rfl⟩:=Yq.1 hx
  have:=(h.d y hy).1
  omega)
 simpa using this
theorem FlashP.b {f:Z9} (h:FlashP f):Z5f f=true:=by
 unfold Z5f
 rw [Yb,Yb]
 refine ⟨decide_eq_true ⟨h.n.1,h.n.2,h.len⟩,Yn.2 fun x hx=>decide_eq_true (h.s x hx),Yn.2 fun i hi=>?_⟩
 have hi:=Yr.1 hi
 have hg:f.2.getD i (0,[])=f.2[i]:=by rw [List.getD_eq_getElem?_getD,List.getElem?_eq_getElem hi];rfl
 have hd:=h.d _ (Yf hi)
 unfold okD
 rw [hg,Yb,Yb,Yb]
 refine ⟨⟨⟨decide_eq_true hd.1.1,decide_eq_true (by omega)⟩,decide_eq_true hd.2⟩,?_⟩
 rw [Y4,Y9]
 intro x hx
 obtain ⟨j,hj,rfl⟩:=Yia.1 hx
 have hu:=Yja.1 (Yz.1 h.u) j i (by omega) hi (by omega)
 simpa using hu
theorem FlashP.of {f:Z9} (h:Z5f f=true):FlashP f:=by
 obtain ⟨h1,h2,_⟩:=Zso h
 unfold Z5f at h
 rw [Yb,Yb] at h
 have h3:=fun i hi=>Yn.1 h.2.2 i (Yr.2 hi)
 have h4:∀i (hi:i<f.2.length),((0≤f.2[i].1∧f.2[i].1<(f.1.length:Int))∧f.2[i].2.length≤96)∧∀j (hj:j<i),f.2[j].1≠f.2[i].1:=fun i hi=>by
  have hg:f.2.getD i (0,[])=f.2[i]:=by rw [List.getD_eq_getElem?_getD,List.getElem?_eq_getElem hi];rfl
  have h5:=h3 i hi
  unfold okD at h5
  rw [hg,Yb,Yb,Yb] at h5
  obtain ⟨⟨⟨a,b⟩,c⟩,d⟩:=h5
  have b:=of_decide_eq_true b
  refine ⟨⟨⟨of_decide_eq_true a,by omega⟩,of_decide_eq_true c⟩,fun j hj=>?_⟩
  rw [Y4,Y9] at d
  have:=d f.2[j] (Yia.2 ⟨j,by omega,rfl⟩)
  simpa using this
 refine ⟨⟨h1.1,h1.2.1⟩,h2,fun x hx=>?_,?_⟩
 ·obtain ⟨i,hi,rfl⟩:=Yp.1 hx
  exact (h4 i hi).1
 ·refine Yz.2 (Yja.2 fun i j hi hj hij=>(h4 j hj).2 i hij)
theorem Zpv:∀(l:List Ztd) (s:List Str),(Z2h s l).length=s.length
 | [],_=>rfl
 | d::l,s=>by
  show (Z2h (s.set d.1.toNat d.2) l).length=_
  rw [Zpv l,List.length_set]
theorem Zwab:∀(l:List Ztd) (s:List Str),(∀x∈s,x.length≤96)→(∀d∈l,d.2.length≤96)→∀x∈Z2h s l,x.length≤96
 | [],_,h,_=>h
 | d::l,s,h,hd=>by
  refine Zwab l _ (fun x hx=>?_) fun y hy=>hd y (Yea _ hy)
  rcases Yha hx with q | q
  ·exact h x q
  ·rw [q];exact hd d Yfa
theorem FlashP.sync {f:Z9} (h:FlashP f):FlashP (Ztq f):=by
 refine ⟨?_,Zwab f.2 f.1 h.s fun d hd=>(h.d d hd).2,fun x hx=>(by cases hx),List.nodup_nil⟩
 show 1≤(Z2h f.1 f.2).length∧(Z2h f.1 f.2).length≤40
 rw [Zpv]
 exact h.n
theorem FlashP.write {f:Z9} (h:FlashP f) {n:Int} {s:Str} (hn:0≤n∧n<(f.1.length:Int)) (hs:s.length≤96):FlashP (Z0l f n s):=by
 unfold Z0l
 cases hd:Z6i f n with
 | some i=>
  have hi:=Z4u hd
  obtain ⟨_,_,h3,_⟩:=Zfl (show Zqb (fun x:Ztd=>x.1==n) f.2 0=some i from hd)
  have h3:f.2[i].1=n:=by simpa using h3
  have hm:(f.2.set i (n,s)).map (fun x=>x.1)=f.2.map fun x=>x.1:=by
   rw [List.map_set]
   refine List.ext_getElem (by simp) fun j h1 h2=>?_
   rw [List.getElem_set]
   split
   ·rename_i q
    subst q
    simp [h3]
   ·rfl
  refine ⟨h.n,h.s,fun x hx=>?_,?_⟩
  ·rcases Yha hx with q | q
   ·exact h.d x q
   ·rw [q];exact ⟨hn,hs⟩
  ·show ((f.2.set i (n,s)).map fun x=>x.1).Nodup
   rw [hm]
   exact h.u
 | none=>
  have hno:=Zhr.1 (show Zqb (fun x:Ztd=>x.1==n) f.2 0=none from hd)
  refine ⟨h.n,h.s,fun x hx=>?_,?_⟩
  ·rcases Yda.1 hx with q | q
   ·exact h.d x q
   ·rw [Yy.1 q];exact ⟨hn,hs⟩
  ·show ((f.2++[(n,s)]).map fun x=>x.1).Nodup
   rw [Yx]
   refine List.nodup_append.2 ⟨h.u,by simp,fun a ha b hb=>?_⟩
   obtain ⟨y,hy,rfl⟩:=Yq.1 ha
   have:=hno y hy
   simp only [List.map_cons,List.map_nil,Yy] at hb
   subst hb
   simpa using this
theorem Ztpb (f:Z9) (n:Int) (s:Str):(Z0l f n s).1=f.1:=by
 unfold Z0l
 split <;> rfl
theorem Z38 (f:Z9) (a:Bool×Int×Str):(doA f a).1.length=f.1.length:=by
 unfold doA
 split
 ·exact Zpv _ _
 ·rw [Ztpb]
theorem FlashP.act {f:Z9} (h:FlashP f) {a:Bool×Int×Str} (ha:Zns f.1.length a):FlashP (doA f a):=by
 unfold doA
 cases q:a.1 with
 | true=>exact h.sync
 | false=>exact h.write (ha q).1 (ha q).2
theorem FlashP.acts:∀(l:List (Bool×Int×Str)) {f:Z9},FlashP f→(∀a∈l,Zns f.1.length a)→FlashP (doF f l)∧(doF f l).1.length=f.1.length
 | [],f,h,_=>⟨h,rfl⟩
 | a::l,f,h,ha=>by
  obtain ⟨h1,h2⟩:=FlashP.acts l (h.act (ha a Yfa)) fun b hb=>by rw [Z38];exact ha b (Yea _ hb)
  exact ⟨h1,by rw [← Z38 f a];exact h2⟩
theorem Z48 (f:Z9) {l:List (Bool×Int×Str)} {i:Nat} (h:i<l.length):doF f (l.take (i+1))=doA (doF f (l.take i)) l[i]:=by
 unfold doF
 rw [Yka h,Yaa]
 rfl
theorem Zvab (s:List Str) {l:List Ztd} {i:Nat} (h:i<l.length):Z2h s (l.take (i+1))=(Z2h s (l.take i)).set l[i].1.toNat l[i].2:=by
 unfold Z2h
 rw [Yka h,Yaa]
 rfl
end Go.Proofs.Qz
namespace Go.Proofs.Qz
open Go
set_option linter.unusedVariables false
theorem Zx9 {l:List Ztd} {i:Nat} (h:i<l.length):l.getD i (0,[])=l[i]:=by rw [List.getD_eq_getElem?_getD,List.getElem?_eq_getElem h];rfl
end Go.Proofs.Qz
namespace Go.Proofs.Qz
open Go
set_option linter.unusedVariables false
abbrev DoT:=Zq×Str×List Int×Int
def noM:Zq:=(0,([],[]))
def doR (m:Zq) (c:Zcg):DoT:=if Zph m=true∧Zxj c=true then ((m.1,doF m.2 (Z5l m c).1),(Z5l m c).2) else (noM,([],([],1)))
end Go.Proofs.Qz
namespace Go.Proofs.Qz
open Go
set_option linter.unusedVariables false
def Z1f (n:Nat) (l:List Zkg):Prop:=∀a∈l,Zns n a
theorem Zqo (n:Nat):Z1f n []:=fun a ha=>by cases ha
theorem Zjr {n:Nat} {a b:List Zkg} (h1:Z1f n a) (h2:Z1f n b):Z1f n (a++b):=fun x hx=>(Yda.1 hx).elim (h1 x) (h2 x)
theorem Zr9 (n:Nat):Zns n Z7h:=fun q=>by cases q
theorem Zro (n:Nat):Z1f n [Z7h]:=fun a ha=>by rw [Yy.1 ha];exact Zr9 n
theorem Zkr {n:Nat} {a:Zkg} {l:List Zkg} (h1:Zns n a) (h2:Z1f n l):Z1f n (a::l):=fun x hx=>(List.mem_cons.1 hx).elim (fun q=>q▸h1) (h2 x)
theorem Z1f.take {n:Nat} {l:List Zkg} (h:Z1f n l) (i:Nat):Z1f n (l.take i):=fun a ha=>h a (Yga ha)
theorem Zpz {n:Int} (h0:0≤n) (h:n≤1000000):(Zm n).length≤3:=by
 unfold Zm
 rw [Zuk]
 refine Zhy 10 _ 3 ?_ (by omega)
 unfold zig
 rw [if_neg (by omega)]
 omega
theorem Z8bb {t:Str} (h:t.length≤1000):(Z2b t).length≤3+t.length:=by
 unfold Z2b
 rw [Yc]
 have:=Zpz (n:=(t.length:Int)) (by omega) (by omega)
 omega
theorem Znlb {n:Int} {t:Str} (h0:0≤n) (h:n≤1000000) (ht:t.length≤80):(Z9y n t).length≤96:=by
 have h1:=Zpz h0 h
 have h2:=Z8bb (t:=t) (by omega)
 unfold Z9y
 rw [Z65,Yc]
 omega
theorem Zulb {n a:Int} {t:Str} (hn:0≤n∧n≤1000000) (ha:0≤a∧a≤1000000) (ht:t.length≤8):(Z5j n a t).length≤96:=by
 have h1:=Zpz hn.1 hn.2
 have h2:=Zpz ha.1 ha.2
 have h3:=Z8bb (t:=t) (by omega)
 unfold Z5j Zol
 rw [Z65,Yc,Yc]
 omega
theorem Zhmb {n:Int} {x:Zk}:x.2.2.2.length≤8→(Zgw n x).length≤96:=fun h=>by
 have l0:=Zgc n
 have l1:=Zgc x.1
 have l2:=Zgc x.2.1
 have l3:=Zgc x.2.2.1
 have l4:=Zfj x.2.2.2
 unfold Zgw Zfs
 rw [Z65]
 simp only [Yc]
 omega
section
variable {m:Zq} {ph tr nd st dn:Int} {dg:Str} {v w:Nat}
theorem Zukb {f:Z9} {n:Nat} (h2:2≤n) {t:Str} (ht:t.length≤80):Z1f n (Zqn f t):=by
 unfold Zqn
 split
 ·rename_i hg
  have h0:=Z8y f
  refine Zkr (fun _=>⟨?_,Znlb (by omega) (by omega) ht⟩) (Zro n)
  dsimp only
  split <;> omega
 ·exact Zqo n
theorem Zkl {f:Z9} {n:Nat} (h2:2≤n) {a b c d e:Int} {x:Str} {v w:Nat} (h:Keep a b c d e x v w):Z1f n (Zfe f a b c d e x v w):=Zukb h2 h.len
theorem Zokb {n:Nat} (h2:2≤n) (hv:v<16777216):Z1f n (Zhm m v):=Zkl h2 (Zom hv)
theorem Zohb (hf:Fit m st w) (l:List Int) (hx:∀x∈l,0≤x∧x≤23):Z1f m.2.1.length (Z2e m l):=by
 have hb:=hf.b
 have hn:=hf.n
 intro a ha
 unfold Z2e at ha
 obtain ⟨x,q,rfl⟩:=Yq.1 ha
 have:=hx x (Ys.1 q).1
 exact fun _=>⟨by dsimp only;omega,by simp⟩
theorem Z9kb (hf:Fit m st w) (l:List Int) (hx:∀x∈l,0≤x∧x≤23):Z1f m.2.1.length (Zyp m l):=by
 unfold Zyp
 split
 ·exact Zqo _
 ·exact Zjr (Zohb hf l hx) (Zro _)
theorem Zolb (w:Nat):∀x∈Zb w,0≤x∧x≤23:=fun x hx=>by
 obtain ⟨j,hj,rfl⟩:=Yp.1 hx
 exact Zvj hj
theorem Ztlb (s:Str) (n:Int) {k:Nat} (h:(Zhd s n).2.1<(k:Int)):Zns k (Zhd s n):=fun q=>by
 refine ⟨⟨(Zv4 s n q).1,h⟩,?_⟩
 unfold Zhd at q ⊢
 split at q
 ·rename_i hq
  rw [if_pos hq]
  split at q
  ·split at q
   ·rename_i q2
    rw [if_pos q2]
    have:=(Z2v.1 q2.2).2.2
    dsimp only
    omega
   ·cases q
  ·cases q
 ·cases q
theorem Zggb (h:MS0 m ph tr nd st dn dg v w):Z1f m.2.1.length (Zgn m ph tr nd st dn dg v w):=by
 have hf:=h.fit
 have hk0:=h.keep
 have h2:=h.two
 unfold Zgn
 by_cases c2:ph=2
 ·rw [if_pos c2]
  exact Z9kb hf _ fun x hx=>Zolb w x (List.mem_of_mem_drop hx)
 ·rw [if_neg c2]
  by_cases c3:ph=3
  ·rw [if_pos c3]
   exact Zkl h2 { hk0 with a:=by omega,b:=by omega }
  ·rw [if_neg c3]
   by_cases c4:ph=4
   ·rw [if_pos c4]
    by_cases ct:tr=0
    ·rw [if_pos ct]
     exact Zkl h2 (Zom h.hv)
    ·rw [if_neg ct]
     have hbz:=(h.busy (by omega)).2.2.2.2.1
     exact Zkl h2 { hk0 with a:=by omega,b:=by omega }
   ·rw [if_neg c4]
    by_cases c5:ph=5
    ·rw [if_pos c5]
     obtain ⟨q1,q2,q3,q4,q5,q6,q7,q8⟩:=h.busy (by omega)
     split
     ·exact Zqo _
     ·rename_i q
      refine Zjr (Zkr (Ztlb _ _ (Int.not_le.1 fun z=>q (.inr z))) (Zro _)) (Zkl h2 { hk0 with a:=by omega,e:=by omega })
    ·rw [if_neg c5]
     exact Zqo _
theorem Zrfb (h:MSt m ph tr nd st dn dg v w) {c:Zcg} (hc:CmdOk c):Z1f m.2.1.length (Zeo m c ph tr nd st dn dg v w).1:=by
 have hf:=h.fit
 have hb:=hf.b
 have hn:=hf.n
 have h2:=h.two
 have hk0:=h.keep
 have hid:=Zokb (m:=m) h2 h.hv
 have nil:=Zqo m.2.1.length
 unfold Zeo
 split
 ·rename_i c1
  obtain ⟨q1,q2,q3⟩:=hc.k1 c1
  unfold Z2q
  split
  ·split
   ·rename_i l hl
    obtain ⟨u,u1,u2,u3,u4,u5⟩:=Zi5 (Zfv h.hv (by omega)) (by omega) hl
    refine Zjr (Zjr (fun a ha=>?_) (Zro _)) (Zkl h2 { hk0 with a:=by omega,b:=by omega,c:=by omega,d:=by omega,e:=by omega,x:=q3,w:=by omega })
    unfold Z9h at ha
    obtain ⟨x,q,rfl⟩:=Yq.1 ha
    have:=u5 x q
    exact fun _=>⟨by dsimp only;omega,by simp⟩
   ·exact nil
  ·exact nil
 ·split
  ·rename_i c2
   have hx:=hc.k2 c2
   unfold Zes
   split
   ·rename_i p2
    split
    ·exact nil
    ·rename_i hne
     split
     ·obtain ⟨q1,q2,q3,q4,q5,q6,q7,q8⟩:=h.busy (by omega)
      have hll:=h.log
      refine Zkr (fun _=>⟨?_,Zhmb (Zvw hx)⟩) ?_
      ·have:=Zqs (w:=w) (n:=st+((Zc m st w).length:Int)) (by omega) (by omega)
       dsimp only
       omega
      ·split
       ·exact Zro _
       ·exact nil
     ·exact nil
   ·exact nil
  ·split
   ·unfold Zgr
    split
    ·split
     ·split
      ·split
       ·split
        ·exact hid
        ·exact Zjr (Zro _) (Zkl h2 { hk0 with a:=by omega })
       ·exact hid
      ·exact hid
     ·exact hid
    ·exact nil
   ·split
    ·split
     ·exact nil
     ·exact hid
    ·split
     ·split
      ·refine Zjr (Zkr (fun _=>⟨by dsimp only;omega,by simp⟩) (Zro _)) (Zkl h2 { hk0 with a:=by omega,b:=by omega })
      ·exact nil
     ·split
      ·unfold Zlr
       split
       ·rename_i p5
        split
        ·exact hid
        ·rename_i hne
         have hS:=h.snd (by omega)
         have hdn:=hS.dn
         have hlt:dn<((Zg (Zc m st w)).length:Int):=by omega
         have hpl:=hS.plan
         have hr:=Z52 hS hlt
         have hl:=Z62 hS hlt
         have hr2:Zjh m st dn w<(m.2.1.length:Int):=by
          obtain ⟨_,z2,z3⟩:=Zjt hS hlt
          unfold Zjh
          rcases z3 with ⟨q,_,q1,q2⟩ | ⟨q,_⟩
          ·rw [if_pos q];omega
          ·rw [if_neg (by omega)];omega
         refine Zjr (Zkr (fun _=>⟨by dsimp only;omega,?_⟩) (Zkr (Zr9 _) (Zkr (fun _=>⟨⟨hr.1,hr2⟩,hl⟩) (Zro _)))) (Zkl h2 { hk0 with e:=by omega })
         dsimp only
         split
         ·exact Zulb ⟨by omega,by omega⟩ ⟨by omega,by omega⟩ (by omega)
         ·simp
       ·exact nil
      ·split
       ·split
        ·exact nil
        ·exact nil
       ·split
        ·exact nil
        ·split
         ·rename_i c9
          obtain ⟨q1,q2⟩:=hc.k9 c9
          unfold Zpr
          split
          ·rename_i l hl
           obtain ⟨n,hn9⟩:∃n:Nat,c.2.1=(n:Int):=⟨c.2.1.toNat,by omega⟩
           rw [hn9] at hl
           obtain ⟨u1,u2,u3,u4⟩:=Zf3 h (by omega) hl
           exact Zkl h2 { hk0 with v:=u4 }
          ·exact nil
         ·split
          ·exact Zkl h2 { hk0 with v:=by omega }
          ·exact Zggb h.toMS0
end
theorem Z56 (m:Zq) (c:Zcg):Z1f m.2.1.length (Z5l m c).1:=by
 unfold Z5l
 split
 ·rename_i hmc
  split
  ·exact Zqo _
  ·split
   ·rename_i ph tr nd st dn dg v w hs
    exact Zrfb (Zq4 hs hmc.1) (Za2 hmc.2)
   ·exact Zqo _
 ·exact Zqo _
end Go.Proofs.Qz
namespace Go.Proofs.Qz
open Go
set_option linter.unusedVariables false
theorem Zz8 {f:Z9} {n:Int} {i:Nat} (h:Z6i f n=some i):(f.2.getD i (0,[])).1=n:=by
 obtain ⟨_,h2,h3,_⟩:=Zfl (show Zqb (fun x:Ztd=>x.1==n) f.2 0=some i from h)
 rw [Zx9 (Z4u h)]
 simpa using h3
theorem Zlkb {f:Z9} (h:FlashP f) (n:Int) (s:Str) {k:Nat} (hk:100≤k):Zxo k f n s=some (Z0l f n s):=by
 have hl:=h.len
 have hn:=h.n
 unfold Zxo Z0l
 refine Za (Zjy f n (by omega) (by omega)) ?_
 cases hd:Z6i f n with
 | some i=>
  have hi:=Z4u hd
  have hat:=Zm1 (l:=f.2) (0,[]) hi
  dsimp only
  rw [decide_eq_true (by omega:(0:Int)≤(i:Int)),cond_true]
  refine Za hat (Za hat ?_)
  rw [Yi,Zz8 hd]
 | none=>
  dsimp only
  rw [show decide ((0:Int)≤-1)=false from rfl,cond_false]
  exact Za (Z3 (by simp;omega)) rfl
theorem Zgkb {f:Z9} (h:FlashP f) {k:Nat} (hk:100≤k):Zlf k f=some (Ztq f):=by
 have hl:=h.len
 have hn:=h.n
 have run:=Zrb (fun j i=>Zlf.l0 j (f.2.length:Int) (i:Int) f.2 (Z2h f.1 (f.2.take i))) f.2.length (Z2h f.1 f.2,f.2) (fun i hi j=>?_) (fun j=>?_) k (by omega)
 ·have run:Zlf.l0 k (f.2.length:Int) 0 f.2 f.1=some (Z2h f.1 f.2,f.2):=run
  unfold Zlf Ztq
  exact Za run rfl
 ·have hd:=(h.d _ (Yf hi)).1
  have hll:=Zpv (f.2.take i) f.1
  have ha:=Zkx (l:=Z2h f.1 (f.2.take i)) [] hd.1 (by rw [hll];exact hd.2)
  conv=>lhs;unfold Zlf.l0
  rw [dlt hi,Zn (by omega),cond_true]
  refine Za (Zi hi) (Za (Zi hi) (Za ha (Za ha ?_)))
  rw [Zvab _ hi]
 ·conv=>lhs;unfold Zlf.l0
  rw [Zy (Ya _),Yg]
  rfl
theorem Z1f.before {f:Z9} {l:List Zkg} (h:FlashP f) (hl:Z1f f.1.length l) (i:Nat):FlashP (doF f (l.take i))∧(doF f (l.take i)).1.length=f.1.length:=h.acts _ (hl.take i)
theorem Z1ib {f:Z9} (h:FlashP f) {l:List Zkg} (hl:Z1f f.1.length l) (hn:l.length≤1000) {k:Nat} (hk:1048577≤k):Z3e k f l=some (doF f l):=by
 have h2:=h.len
 have h3:=h.n
 have run:=Zrb (fun j i=>Z3e.l0 k j l (l.length:Int) (i:Int) (doF f (l.take i)).1 (doF f (l.take i)).2) l.length (doF f l) (fun i hi j=>?_) (fun j=>?_) k (by omega)
 ·have run:Z3e.l0 k k l (l.length:Int) 0 f.1 f.2=some (doF f l):=run
  have hc:Z3o f=some f:=by
   unfold Z3o Z4h Zdk
   refine Za (a:=f.1) (Za (Z3 (by simp;omega)) rfl) (Za (a:=f.2) (Za (Z3 (by simp;omega)) rfl) rfl)
  unfold Z3e
  exact Za hc (Za run rfl)
 ·obtain ⟨b1,b2⟩:=hl.before h i
  conv=>lhs;unfold Z3e.l0
  rw [dlt hi,Zn (by omega),cond_true,Z48 f hi]
  refine Za (Zi hi) ?_
  unfold doA
  cases q:l[i].1 with
  | true=>
   rw [if_pos rfl]
   exact Za (Zgkb b1 (by omega)) rfl
  | false=>
   rw [if_neg Y3]
   exact Za (Zlkb b1 _ _ (by omega)) rfl
 ·conv=>lhs;unfold Z3e.l0
  rw [Zy (Ya _),Yg]
  rfl
theorem Zddb {f:Z9} (h:FlashP f):Z4m f=some f:=by
 have h2:=h.len
 have h3:=h.n
 unfold Z4m
 exact Za (Z3 (by simp;omega)) (Za (Z3 (by simp;omega)) rfl)
theorem Zznb {f:Z9} (h:FlashP f) (n:Int) (s:Str) {k:Nat} (hk:100≤k):Zxf k f n s=some (Z0l f n s):=by
 have hl:=h.len
 have hn:=h.n
 have run:=Zoh (fun j i=>Zxf.l0 j n s i [] [] f.1 f.2) f.2 (fun x=>x.1==n) (.inl ([],[],f.1,f.2)) (fun i=>.inr (f.1,f.2.set i ((f.2.getD i (0,[])).1,s))) (fun i hi=>by
  constructor
  ·intro hp j
   conv=>lhs;unfold Zxf.l0
   rw [dlt hi,Zn (by omega),cond_true]
   refine Za (Zi hi) (Za (Zi hi) ?_)
   rw [hp]
   rfl
  ·intro hp j
   conv=>lhs;unfold Zxf.l0
   rw [dlt hi,cond_true]
   refine Za (Zi hi) (Za (Zi hi) ?_)
   rw [hp,cond_true]
   refine Za (Zi hi) (Za (Zi hi) ?_)
   rw [Yi,Zx9 hi]) (fun j=>by
  conv=>lhs;unfold Zxf.l0
  rw [Zy (Ya _)]
  rfl) (k:=k) (by omega)
 unfold Zxf Z0l
 refine Za (Zddb h) ?_
 cases hd:Z6i f n with
 | some i=>
  rw [show Zqb (fun x:Ztd=>x.1==n) f.2 0=some i from hd] at run
  refine Za run ?_
  dsimp only
  rw [Zz8 hd]
 | none=>
  rw [show Zqb (fun x:Ztd=>x.1==n) f.2 0=none from hd] at run
  refine Za run ?_
  exact Za (Z3 (by simp;omega)) rfl
theorem Zfdb {f:Z9} (h:FlashP f) {k:Nat} (hk:1048577≤k):Z1 k f=some true:=by
 have h2:=h.len
 have h3:=h.n
 rw [Z8z f (by omega) (by omega) hk,h.b]
theorem Zkob {f:Z9} (h:FlashP f) {n:Int} {s:Str} (hn:0≤n∧n<(f.1.length:Int)) (hs:s.length≤96) {k:Nat} (hk:1048577≤k):Ziq k f n s=some ((Z0l f n s).1,(Z0l f n s).2,[],0):=by
 have h3:=h.n
 have hI:Zfb n 0 (Ye .i64 ((f.1.length:Int)-1))=some true:=by
  rw [w64 (n:=(f.1.length:Int)-1) (by omega) (by omega)]
  unfold Zfb
  rw [decide_eq_true hn.1,decide_eq_true (by omega:n≤(f.1.length:Int)-1)]
  rfl
 unfold Ziq
 rw [decide_eq_false (by omega:¬(8000:Int)<(s.length:Int)),cond_false]
 refine Za (Zfdb h hk) ?_
 rw [decide_eq_false (by omega:¬(96:Int)<(s.length:Int)),show ((!true)||false)=false from rfl,cond_false]
 refine Za hI ?_
 rw [Ym,cond_false]
 exact Za (Zznb (k:=k) h n s (by omega)) rfl
theorem Zhob {f:Z9} (h:FlashP f) {k:Nat} (hk:1048577≤k):Zhq k f=some ((Ztq f).1,(Ztq f).2,[],0):=by
 have hl:=h.len
 have hn:=h.n
 have run:=Zrb (fun j i=>Zag.l0 j f.1 f.2 (i:Int) (Z2h f.1 (f.2.take i)) []) f.2.length (Z2h f.1 f.2,[]) (fun i hi j=>?_) (fun j=>?_) k (by omega)
 ·have run:Zag.l0 k f.1 f.2 0 f.1 []=some (Z2h f.1 f.2,[]):=run
  unfold Zhq
  refine Za (Zfdb h hk) (Za (a:=Ztq f) ?_ rfl)
  unfold Zag Ztq
  exact Za (Z3 (by simp;omega)) (Za run rfl)
 ·have hd:=(h.d _ (Yf hi)).1
  have hll:=Zpv (f.2.take i) f.1
  have ha:=Zkx (l:=Z2h f.1 (f.2.take i)) [] hd.1 (by rw [hll];exact hd.2)
  conv=>lhs;unfold Zag.l0
  rw [dlt hi,Zn (by omega),cond_true]
  refine Za (Zi hi) (Za (Zi hi) (Za ha (Za ha ?_)))
  rw [Zvab _ hi]
 ·conv=>lhs;unfold Zag.l0
  rw [Zy (Ya _),Yg]
  rfl
theorem sDoF {f:Z9} (h:FlashP f) {l:List Zkg} (hl:Z1f f.1.length l) (hn:l.length≤1000) {k:Nat} (hk:1048577≤k):Zef k f l=some ((doF f l).1,(doF f l).2,[],0):=by
 have h2:=h.len
 have h3:=h.n
 have run:=Zrb (fun j i=>Zef.l0 k j l (i:Int) [] 0 (doF f (l.take i)).1 (doF f (l.take i)).2) l.length ([],0,(doF f l).1,(doF f l).2) (fun i hi j=>?_) (fun j=>?_) k (by omega)
 ·have run:Zef.l0 k k l 0 [] 0 f.1 f.2=some ([],0,(doF f l).1,(doF f l).2):=run
  unfold Zef
  exact Za (Zddb h) (Za run rfl)
 ·obtain ⟨b1,b2⟩:=hl.before h i
  conv=>lhs;unfold Zef.l0
  rw [dlt hi,Zn (by omega),show (true&&((0:Int)==0))=true from rfl,cond_true,Z48 f hi]
  refine Za (Zi hi) ?_
  unfold doA
  cases q:l[i].1 with
  | true=>
   rw [if_pos rfl]
   exact Za (Zhob b1 hk) rfl
  | false=>
   have ha:=hl _ (Yf hi) q
   rw [if_neg Y3]
   exact Za (Zi hi) (Za (Zi hi) (Za (Zkob b1 (by rw [b2];exact ha.1) ha.2 hk) rfl))
 ·conv=>lhs;unfold Zef.l0
  rw [Zy (Ya _),Yg]
  rfl
end Go.Proofs.Qz
namespace Go.Proofs.Qz
open Go
set_option linter.unusedVariables false
theorem Z7kb (m:Zq) (l:List Int):(Zyp m l).length≤l.length+1:=by
 have:=Z7u m l
 unfold Zyp
 split
 ·simp
 ·rw [Yc]
  simp
  omega
theorem Zqab (f:Z9) (a b c d e:Int) (x:Str) (v w:Nat):(Zfe f a b c d e x v w).length≤2:=Zjl _ _
theorem Zfgb (m:Zq) (ph tr nd st dn:Int) (dg:Str) (v w:Nat):(Zgn m ph tr nd st dn dg v w).length≤100:=by
 have hk:=fun a b c d e x v w=>Zqab m.2 a b c d e x v w
 have hl:=Z6c w
 unfold Zgn
 split
 ·have:=Z7kb m ((Zb w).drop (st+Z8g (Zc m st w)).toNat)
  rw [List.length_drop] at this
  omega
 ·split
  ·exact Yl (hk _ _ _ _ _ _ _ _) (by omega)
  ·split
   ·split
    ·exact Yl (hk _ _ _ _ _ _ _ _) (by omega)
    ·exact Yl (hk _ _ _ _ _ _ _ _) (by omega)
   ·split
    ·split
     ·simp
     ·rw [Yc]
      have:=hk 5 tr nd st (dn+1) dg v w
      simp only [Yo,Yk]
      omega
    ·simp
def Za1 (a:Z1l):Prop:=a.1.length≤100∧a.2.2.1.length≤100
theorem Zmj (c:Int):Za1 (Zkf c):=⟨by simp [Zkf],by simp [Zkf]⟩
theorem Zfq {l:List Zkg} (h:l.length≤100):Za1 (Z1i l):=⟨h,by simp [Z1i]⟩
theorem Z66 (m:Zq) (c:Zcg):Za1 (Z5l m c):=by
 have hk:=fun a b c d e x v w=>Zqab m.2 a b c d e x v w
 have hid:∀v,(Zhm m v).length≤100:=fun v=>Yl (hk _ _ _ _ _ _ _ _) (by omega)
 unfold Z5l
 split
 ·split
  ·exact Zmj _
  ·split
   ·rename_i ph tr nd st dn dg v w hs
    unfold Zeo
    split
    ·unfold Z2q
     split
     ·split
      ·rename_i l hl
       have hle:l.length≤24:=by
        unfold Zch at hl
        split at hl
        ·cases hl
        ·rename_i hn
         have:=Z6c (Zxb v 0)
         split at hl
         ·cases hl
          rw [Zl0]
          omega
         ·cases hl
          rw [List.length_take]
          omega
       refine Zfq ?_
       have:=hk 2 0 c.2.1 c.2.2.1 0 c.2.2.2.1 v (Zog l)
       simp only [Yc,Z9h,Yba,Yo,Yk]
       omega
      ·exact Zmj _
     ·exact Zmj _
    ·split
     ·unfold Zes
      split
      ·split
       ·exact Zmj _
       ·split
        ·refine Zfq ?_
         split <;> simp
        ·exact Zmj _
      ·exact Zmj _
     ·split
      ·unfold Zgr
       split
       ·split
        ·split
         ·split
          ·split
           ·exact ⟨hid v,by simp⟩
           ·refine Zfq ?_
            have:=hk 3 tr nd st dn dg v w
            simp only [Yc,Yo,Yk]
            omega
          ·exact ⟨hid v,by simp⟩
         ·exact ⟨hid v,by simp⟩
        ·exact ⟨hid v,by simp⟩
       ·exact Zmj _
      ·split
       ·split
        ·exact Zmj _
        ·exact Zfq (hid v)
       ·split
        ·split
         ·refine Zfq ?_
          have:=hk 5 0 nd st dn dg v w
          simp only [Yc,Yo,Yk]
          omega
         ·exact Zmj _
        ·split
         ·unfold Zlr
          split
          ·split
           ·exact ⟨hid v,by simp⟩
           ·refine ⟨?_,by simp⟩
            have:=hk ph tr nd st (dn+1) dg v w
            simp only [Yc,Yo,Yk]
            omega
          ·exact Zmj _
         ·split
          ·split
           ·exact Zmj _
           ·exact ⟨by simp,by simp⟩
          ·split
           ·exact ⟨by simp,by simp [Ze6]⟩
           ·split
            ·unfold Zpr
             split
             ·exact Zfq (Yl (hk _ _ _ _ _ _ _ _) (by omega))
             ·exact Zmj _
            ·split
             ·exact Zfq (Yl (hk _ _ _ _ _ _ _ _) (by omega))
             ·exact Zfq (Zfgb _ _ _ _ _ _ _ _ _)
   ·exact Zmj _
 ·exact Zmj _
theorem Z6ob (c:Zcg) (n:Int) (h1:c.2.2.2.1.length≤140737488351232) (h2:c.2.2.2.2.2.2.2.length≤140737488351232) (h0:0≤n) (hn:n≤1048576):∃v,Zsp c n=some v:=by
 unfold Zsp
 dsimp only
 rw [w64 (n:=n-(c.2.2.2.1.length:Int)) (by omega) (by omega)]
 cases decide (n-(c.2.2.2.1.length:Int)<0) with
 | true=>exact ⟨-1,rfl⟩
 | false=>
  rw [cond_false]
  unfold Zvr
  dsimp only
  rw [w64 (n:=n-(c.2.2.2.1.length:Int)-(c.2.2.2.2.2.2.2.length:Int)) (by omega) (by omega)]
  cases decide (n-(c.2.2.2.1.length:Int)-(c.2.2.2.2.2.2.2.length:Int)<0) with
  | true=>exact ⟨-1,rfl⟩
  | false=>
   simp only [cond_false,Yh]
   cases decide (n-(c.2.2.2.1.length:Int)-(c.2.2.2.2.2.2.2.length:Int)<0) <;> exact ⟨_,rfl⟩
end Go.Proofs.Qz
namespace Go.Proofs.Qz
open Go
set_option linter.unusedVariables false
def flD (d:DoT):Int×List Str×List Ztd×Str×List Int×Int:=(d.1.1,d.1.2.1,d.1.2.2,d.2.1,d.2.2.1,d.2.2.2)
theorem Z9ab {m:Zq} (h:Zph m=true):FlashP m.2:=by
 unfold Zph at h
 cases hs:stM m with
 | none=>rw [hs] at h;cases h
 | some z=>
  obtain ⟨ph,tr,nd,st,dn,dg,v,w⟩:=z
  exact FlashP.of (Zp4 hs).fit.f
theorem Z2ib {m:Zq} {c:Zcg} (hm:Zph m=true) (hc:Zxj c=true):Ze fun k=>Zuc k m c=some (Z5l m c):=by
 unfold Z5l
 rw [if_pos ⟨hm,hc⟩]
 cases hs:stM m with
 | none=>unfold Zph at hm;rw [hs] at hm;cases hm
 | some z=>
  obtain ⟨ph,tr,nd,st,dn,dg,v,w⟩:=z
  exact Z3ib hs (Zq4 hs hm) (Za2 hc)
theorem Zinb (m:Zq) (c:Zcg) (hl:m.2.1.length≤1048576) (hl2:m.2.2.length≤1048576):∃n:Int,(Ze fun k=>Zni k m c=some n)∧((n==1) = !(Zph m&&Zxj c)):=by
 have ec:=Zv5 c
 cases hm:Zph m with
 | false=>
  refine ⟨1,(Z5t m hl hl2).mono fun k e=>?_,rfl⟩
  rw [hm] at e
  unfold Zni
  exact Za e rfl
 | true=>
  cases hc:Zxj c with
  | false=>
   refine ⟨1,(Z5t m hl hl2).mono fun k e=>?_,rfl⟩
   rw [hm] at e
   rw [hc] at ec
   unfold Zni
   exact Za e (Za ec rfl)
  | true=>
   rw [hc] at ec
   cases hs:stM m with
   | none=>unfold Zph at hm;rw [hs] at hm;cases hm
   | some z=>
    obtain ⟨ph,tr,nd,st,dn,dg,v,w⟩:=z
    have h:=Zp4 hs
    refine ⟨if 1000000≤(Zlb m.2).1 then 9 else 0,((Z5t m hl hl2).and (Zd0 h.fit.f h.two)).mono fun k ⟨e,e2⟩=>?_,by split <;> rfl⟩
    rw [hm] at e
    unfold Zni
    refine Za e (Za ec (Za e2 ?_))
    by_cases c9:1000000≤(Zlb m.2).1
    ·rw [if_pos c9,decide_eq_true c9]
     rfl
    ·rw [if_neg c9,decide_eq_false c9]
     rfl
theorem Zigb (m:Zq) (c:Zcg) (hl:m.2.1.length≤1048576) (hl2:m.2.2.length≤1048576):(Ze fun k=>Zgl k m c=some (flD (doR m c)))∧Ze fun k=>Z0m k m c=some (flD (doR m c)):=by
 obtain ⟨n,hn,hn1⟩:=Zinb m c hl hl2
 unfold doR
 cases hm:Zph m with
 | false=>
  rw [if_neg (fun q=>by cases q.1)]
  rw [hm] at hn1
  constructor
  ·refine (Zj3 m hl hl2).mono fun k e=>?_
   rw [hm] at e
   unfold Zgl
   exact Za e rfl
  ·refine hn.mono fun k e=>?_
   unfold Z0m
   refine Za e ?_
   rw [hn1]
   rfl
 | true=>
  cases hc:Zxj c with
  | false=>
   rw [if_neg (fun q=>by cases q.2)]
   rw [hm,hc] at hn1
   have ec:=iCmd c
   rw [hc] at ec
   constructor
   ·refine (Zj3 m hl hl2).mono fun k e=>?_
    rw [hm] at e
    unfold Zgl
    exact Za e (Za ec rfl)
   ·refine hn.mono fun k e=>?_
    unfold Z0m
    refine Za e ?_
    rw [hn1]
    rfl
  | true=>
   rw [if_pos ⟨rfl,rfl⟩]
   rw [hm,hc] at hn1
   have ec:=iCmd c
   rw [hc] at ec
   have hF:=Z9ab hm
   have hfit:=Z56 m c
   have hsm:=(Z66 m c).1
   constructor
   ·refine (((Zj3 m hl hl2).and (Z2ib hm hc)).and (Ze.ge 1048577 fun k hk=>hk)).mono fun k ⟨⟨e,e2⟩,hk⟩=>?_
    rw [hm] at e
    unfold Zgl
    exact Za e (Za ec (Za e2 (Za (Z1ib hF hfit (by omega) hk) rfl)))
   ·refine ((hn.and (Z6mb m c hl hl2)).and (Ze.ge 1048577 fun k hk=>hk)).mono fun k ⟨⟨e,e2⟩,hk⟩=>?_
    unfold Z0m
    refine Za e ?_
    rw [hn1]
    exact Za e2 (Za (sDoF hF hfit (by omega) hk) rfl)
structure Lean1 (m:Zq):Prop where
 s:m.2.1.length≤1048576
 d:m.2.2.length≤1048576
theorem Zahb {f:Z9} (h:FlashP f) {l:List Zkg} (hl:Z1f f.1.length l):(doF f l).1.length≤40∧(doF f l).2.length≤40:=by
 obtain ⟨h1,h2⟩:=h.acts _ hl
 have:=h1.n
 have:=h1.len
 omega
theorem Zchb (m:Zq) (c:Zcg):(doR m c).1.2.1.length≤40∧(doR m c).1.2.2.length≤40∧(doR m c).2.2.1.length≤100:=by
 unfold doR
 split
 ·rename_i h
  obtain ⟨h1,h2⟩:=Zahb (Z9ab h.1) (Z56 m c)
  exact ⟨h1,h2,(Z66 m c).2⟩
 ·simp [noM]
end Go.Proofs.Qz
namespace Go.Proofs.Qz
open Go
set_option linter.unusedVariables false
theorem Zdbb (l:List Str) (k0:Nat) (h:k0+l.length<9223372036854775807):Ze fun k=>Z6e k l (k0:Int)=some (((k0+l.length:Nat):Int),Zti l.length k0):=by
 have hm:=Ze.all (n:=l.length) (p:=fun i k=>Z0c k ((k0+i:Nat):Int)=some (mt ((k0+i:Nat):Int))) fun i hi=>Z3y _ (by omega)
 have key:Ze fun k=>Z6e.l0 k k (k0:Int) 0 l=some (((k0+l.length:Nat):Int),Zti l.length k0):=by
  refine Z8u (fun k j i=>Z6e.l0 k j ((k0+i:Nat):Int) (i:Int) ((Yd i).map (fun (i:Nat)=>mt ((k0+i:Nat):Int))++l.drop i)) l.length _ (hm.mono fun k hk i hi j=>?_) (Ze.of fun k j=>?_)
  ·have hlen:=Z0p l (fun (i:Nat)=>mt ((k0+i:Nat):Int)) i (by omega)
   conv=>lhs;unfold Z6e.l0
   rw [hlen,decide_eq_true (by omega:(i:Int)<(l.length:Int))]
   simp only [cond_true]
   rw [hk i hi]
   simp only [Yh]
   rw [Zi (by rw [hlen];exact hi)]
   simp only [Yh]
   rw [Yi,Zxv l (fun (i:Nat)=>mt ((k0+i:Nat):Int)) i hi,Zn (by omega),Zn (by omega)]
   rfl
  ·conv=>lhs;unfold Z6e.l0
   have hlen:=Z0p l (fun (i:Nat)=>mt ((k0+i:Nat):Int)) l.length (Ya _)
   rw [hlen,decide_eq_false (by omega:¬((l.length:Int)<(l.length:Int)))]
   simp only [cond_false]
   rw [Yw,Yv]
   refine congrArg some (congrArg (Prod.mk _) (List.map_congr_left fun i hi=>?_))
   rw [Int.natCast_add]
 refine key.mono fun k hk=>?_
 unfold Z6e
 rw [hk]
 rfl
theorem Z0ib (n:Nat) (k0:Nat) (h:k0+n<9223372036854775807):Ze fun k=>Zsf k (Zti n k0) (k0:Int)=some ((k0+n:Nat):Int):=by
 have hm:=Ze.all (n:=n) (p:=fun i k=>Z0c k ((k0+i:Nat):Int)=some (mt ((k0+i:Nat):Int))) fun i hi=>Z3y _ (by omega)
 have hl:(Zti n k0).length=n:=by simp [Zti]
 have key:Ze fun k=>Zsf.l0 k k (Zti n k0) (k0:Int) 0=some (.inl ((k0+n:Nat):Int)):=by
  refine Z8u (fun k j i=>Zsf.l0 k j (Zti n k0) ((k0+i:Nat):Int) (i:Int)) n _ (hm.mono fun k hk i hi j=>?_) (Ze.of fun k j=>?_)
  ·conv=>lhs;unfold Zsf.l0
   rw [hl,decide_eq_true (by omega:(i:Int)<(n:Int))]
   simp only [cond_true]
   rw [Zi (by rw [hl];exact hi)]
   simp only [Yh]
   rw [hk i hi]
   have e:(Zti n k0)[i]'(by rw [hl];exact hi)=mt ((k0+i:Nat):Int):=by
    simp [Zti]
   simp only [Yh,e,Zcgb,Ym,cond_false]
   rw [Zn (by omega),Zn (by omega)]
   rfl
  ·conv=>lhs;unfold Zsf.l0
   rw [hl,decide_eq_false (by omega:¬((n:Int)<(n:Int)))]
   rfl
 refine key.mono fun k hk=>?_
 unfold Zsf
 rw [hk]
 rfl
end Go.Proofs.Qz
namespace Go.Proofs.Qz
open Go
set_option linter.unusedVariables false
def Zqm (n k0:Nat):List Int:=(Yd n).map fun (i:Nat)=>((k0+i:Nat):Int)
theorem Zllb (n k0:Nat):(Zqm n k0).length=n:=by simp [Zqm]
theorem Zhlb (l:List Int) (k0:Nat) (h:k0+l.length<9223372036854775000) {k:Nat} (hk:l.length<k):Zhe k l (k0:Int)=some (((k0+l.length:Nat):Int),Zqm l.length k0):=by
 have key:=Zrb (fun j i=>Zhe.l0 j ((k0+i:Nat):Int) (i:Int) ((Yd i).map (fun (i:Nat)=>((k0+i:Nat):Int))++l.drop i)) l.length (((k0+l.length:Nat):Int),Zqm l.length k0) (fun i hi j=>by
  have hlen:=Z0p l (fun (i:Nat)=>((k0+i:Nat):Int)) i (by omega)
  show Zhe.l0 (j+1) _ (i:Int) _=Zhe.l0 j _ _ _
  rw [Zhe.l0,hlen,dlt hi,Zi (by rw [hlen];exact hi)]
  simp only [cond_true,Yh]
  rw [Yi,Zxv l (fun (i:Nat)=>((k0+i:Nat):Int)) i hi,Zn (by omega),Zn (by omega)]
  rfl) (fun j=>by
  have hlen:=Z0p l (fun (i:Nat)=>((k0+i:Nat):Int)) l.length (Ya _)
  show Zhe.l0 (j+1) _ (l.length:Int) _=_
  rw [Zhe.l0,hlen,Zy (Ya _)]
  simp only [cond_false]
  rw [Yw,Yv]
  rfl) k hk
 have key:Zhe.l0 k (k0:Int) 0 l=_:=key
 unfold Zhe
 rw [key]
 rfl
theorem Zyib (n k0:Nat) (h:k0+n<9223372036854775000) {k:Nat} (hk:n<k):Zge k (Zqm n k0) (k0:Int)=some ((k0+n:Nat):Int):=by
 have hl:=Zllb n k0
 have key:=Zrb (fun j i=>Zge.l0 j (Zqm n k0) ((k0+i:Nat):Int) (i:Int)) n (.inl ((k0+n:Nat):Int)) (fun i hi j=>by
  show Zge.l0 (j+1) _ _ (i:Int)=Zge.l0 j _ _ _
  have e:(Zqm n k0)[i]'(by rw [hl];exact hi)=((k0+i:Nat):Int):=by simp [Zqm]
  rw [Zge.l0,hl,dlt hi,Zi (by rw [hl];exact hi),e]
  simp only [cond_true,Yh,bne_self_eq_false,cond_false]
  rw [Zn (by omega),Zn (by omega)]
  rfl) (fun j=>by
  show Zge.l0 (j+1) _ _ (n:Int)=_
  rw [Zge.l0,hl,Zy (Ya _)]
  rfl) k hk
 have key:Zge.l0 k (Zqm n k0) (k0:Int) 0=_:=key
 unfold Zge
 rw [key]
 rfl
end Go.Proofs.Qz
namespace Go.Proofs.Qz
open Go
set_option linter.unusedVariables false
def Zhh (k0 i:Nat):Int×Str:=(((k0+2*i:Nat):Int),mt ((k0+2*i+1:Nat):Int))
theorem Zbbb (l:List (Int×Str)) (k0:Nat) (h:k0+2*l.length<9223372036854775000):Ze fun k=>Z5e k l (k0:Int)=some (((k0+2*l.length:Nat):Int),(Yd l.length).map (Zhh k0)):=by
 have hm:=Ze.all (n:=l.length) (p:=fun i k=>Z0c k ((k0+2*i+1:Nat):Int)=some (mt ((k0+2*i+1:Nat):Int))) fun i hi=>Z3y _ (by omega)
 have key:Ze fun k=>Z5e.l0 k k (k0:Int) 0 l=some (((k0+2*l.length:Nat):Int),(Yd l.length).map (Zhh k0)):=by
  refine Z8u (fun k j i=>Z5e.l0 k j ((k0+2*i:Nat):Int) (i:Int) ((Yd i).map (Zhh k0)++l.drop i)) l.length _ (hm.mono fun k hk i hi j=>?_) (Ze.of fun k j=>?_)
  ·have hlen:=Z0p l (Zhh k0) i (by omega)
   obtain ⟨x,hx⟩:∃x,at? ((Yd i).map (Zhh k0)++l.drop i) (i:Int)=some x:=⟨_,Zi (by rw [hlen];exact hi)⟩
   have hs:=Zxv l (Zhh k0) i hi
   have h9:∀y,at? (((Yd i).map (Zhh k0)++l.drop i).set i y) (i:Int)=some y:=fun y=>Z8fb (by rw [hlen];exact hi)
   conv=>lhs;unfold Z5e.l0
   rw [hlen,dlt hi,cond_true]
   refine Za hx (Za hx ?_)
   dsimp only
   rw [Zn (n:=k0+2*i) (by omega),Zn (n:=k0+2*i+1) (by omega),Zn (n:=i) (by omega),Yi]
   refine Za (hk i hi) (Za (h9 _) (Za (h9 _) ?_))
   rw [List.set_set]
   show Z5e.l0 k j _ _ (((Yd i).map (Zhh k0)++l.drop i).set i (Zhh k0 i))=_
   rw [hs,show k0+2*i+1+1=k0+2*(i+1) by omega]
  ·have hlen:=Z0p l (Zhh k0) l.length (Ya _)
   conv=>lhs;unfold Z5e.l0
   rw [hlen,Zy (Ya _),Yw,Yv]
   rfl
 refine key.mono fun k hk=>?_
 unfold Z5e
 exact Za hk rfl
theorem Zjlb (m:Zq) (h1:m.2.1.length≤1048576) (h2:m.2.2.length≤1048576):∃r:Int×List Str×List (Int×Str),(Ze fun k=>Ztk k m 1=some r)∧0≤r.1:=by
 refine ⟨(((1+m.2.1.length+2*m.2.2.length:Nat):Int),(Zti m.2.1.length 1,(Yd m.2.2.length).map (Zhh (1+m.2.1.length)))),?_,by show 0≤((_:Nat):Int);omega⟩
 refine ((Zdbb m.2.1 1 (by omega)).and (Zbbb m.2.2 (1+m.2.1.length) (by omega))).mono fun k ⟨e1,e2⟩=>?_
 have e1:Z6e k m.2.1 1=_:=e1
 unfold Ztk
 refine Za (a:=(((1+m.2.1.length+2*m.2.2.length:Nat):Int),(Zti m.2.1.length 1,(Yd m.2.2.length).map (Zhh (1+m.2.1.length))))) ?_ rfl
 unfold Zrp
 exact Za e1 (Za e2 rfl)
end Go.Proofs.Qz
