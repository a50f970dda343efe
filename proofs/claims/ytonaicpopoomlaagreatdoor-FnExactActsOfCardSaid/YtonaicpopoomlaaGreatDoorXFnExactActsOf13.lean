/- What the law FnExactActsOf needs, part 14 of 14: the Lean functions of the Go functions that it reaches, with the proofs that the calls come to what they say, and plain facts about them; the last theorem is the law. Conditions: those that each theorem states. Written by a session and by its programs (after the kit's printer). -/
import Derived.Lib.Join
import Derived.Test.YtonaicpopoomlaaGreatDoorRows
import Derived.Test.YtonaicpopoomlaaGreatDoorCards
import Derived.Test.YtonaicpopoomlaaGreatDoorTie
import Derived.Carry
import Derived.Handed
import Derived.LaidMore
import Derived.OpenVars
import Derived.OpenShut
import Derived.ProofKit
import Derived.SevenTiedAt
import Derived.MakeChecks
import Derived.Test.YtonaicpopoomlaaGreatDoorXFnExactActsOf6
import Derived.Test.YtonaicpopoomlaaGreatDoorXFnExactActsOf9
import Derived.Test.YtonaicpopoomlaaGreatDoorXFnExactActsOf10
import Derived.Test.YtonaicpopoomlaaGreatDoorXFnExactActsOf12
open Nat renaming le_refl → Ya, le_trans → Ym, lt_of_lt_of_le → Yx, pow_le_pow_right → Yy, testBit_lt_two_pow → Yz, eq_of_testBit_eq → Y7, or_lt_two_pow → Y8
open List renaming range → Yb, length_append → Yf, getElem_mem → Yj, length_nil → Yk, take_length → Yl, length_cons → Yn, append_nil → Yo, drop_length → Yp, all_eq_true → Ys, mem_filter → Yt, mem_iff_getElem → Yu, mem_range → Yv, set_set → Yw, length_map → Y4, length_singleton → Y5, map_append → Y6
open Bool renaming not_true → Yc, and_eq_true → Yd, not_false → Y0, or_eq_false_iff → Y1, true_and → Y2
open Go.IntKind renaming wrap → Ye
open Int renaming toNat_natCast → Yg, toNat → Y3
open Option renaming bind_some → Yh, bind → Yq, some → Y9
open BitVec renaming ofInt → Yi, getLsbD → Yr
namespace Go.Proofs.Qz
open Go
set_option linter.unusedVariables false
theorem Zkeb (a:Nat) (ha:a<16777216):intBits .andNot .i64 16777215 (a:Int)=((16777215 ^^^ a:Nat):Int):=by
 have h0:(Yi 64 (a:Int)).toNat=a:=by
  rw [BitVec.toNat_ofInt]
  omega
 have h1:(Yi 64 16777215 &&& ~~~ Yi 64 (a:Int)).toNat=16777215 ^^^ a:=by
  refine Y7 fun i=>?_
  rw [← Yr,BitVec.getLsbD_and,BitVec.getLsbD_not,Nat.testBit_xor,Yr,Yr,h0]
  have h5:(Yi 64 16777215).toNat=16777215:=rfl
  rw [h5]
  by_cases hi:i<24
  ·rw [Ziab hi,decide_eq_true (by omega:i<64)]
   cases a.testBit i <;> rfl
  ·have q1:(16777215:Nat).testBit i=false:=Yz (Yx (by decide:16777215<2^24) (Yy (by omega) (by omega)))
   have q2:a.testBit i=false:=Yz (Yx (show a<2^24 by simpa using ha) (Yy (by omega) (by omega)))
   rw [q1,q2]
   simp
 have hlt:16777215 ^^^ a<2^24:=Nat.xor_lt_two_pow (by omega) (by simpa using ha)
 have hlt:16777215 ^^^ a<16777216:=by simpa using hlt
 unfold intBits
 show Ye .i64 (((Yi 64 16777215 &&& ~~~ Yi 64 (a:Int)).toNat:Nat):Int)=_
 rw [h1]
 exact w64 (by omega) (by omega)
theorem Z1hb (v w:Nat) (hv:v<16777216) (hw:w<16777216) {k:Nat} (hk:24<k):Zdo k (Zb v) (Zb w)=some (Zb (Zub v w)):=by
 have ho:v ||| w<16777216:=by
  have:v ||| w<2^24:=Y8 (by simpa using hv) (by simpa using hw)
  simpa using this
 unfold Zdo
 refine Za (Z5n v hv k hk) (Za (Z5n w hw k hk) ?_)
 rw [ori v w (by omega) (by omega),Zkeb _ ho]
 exact Za (Zjx _ (Zgx hv hw) k hk) rfl
theorem Z5bb (v w:Nat) {k:Nat} (hk:100<k):Z1d k (Zb v) (Zb w)=some (Zb (Zub v w)):=by
 have hlv:=Z3c v
 have hlw:=Z3c w
 have run:=Zzb (fun j i=>Z1d.l0 k j (Zb v) (Zb w) (i:Int) ((Zqb (Zub v w) i).map fun n=>((n:Nat):Int))) 24 (Zb (Zub v w)) (fun i hi j=>?_) (fun j=>?_) k (by omega)
 ·have run:Z1d.l0 k k (Zb v) (Zb w) 0 []=some (Zb (Zub v w)):=run
  unfold Z1d
  exact Za run rfl
 ·have hn:=Zpw (Zub v w) i
  have m1:decide (((i:Nat):Int)∈Zb v)=v.testBit i:=by
   cases hb:v.testBit i with
   | true=>exact decide_eq_true (Zan.2 ⟨hi,hb⟩)
   | false=>exact decide_eq_false fun q=>by rw [(Zan.1 q).2] at hb;cases hb
  have m2:decide (((i:Nat):Int)∈Zb w)=w.testBit i:=by
   cases hb:w.testBit i with
   | true=>exact decide_eq_true (Zan.2 ⟨hi,hb⟩)
   | false=>exact decide_eq_false fun q=>by rw [(Zan.1 q).2] at hb;cases hb
  conv=>lhs;unfold Z1d.l0
  rw [decide_eq_true (by omega:(i:Int)<24),Zn (by omega),cond_true,Zaq,Z11 hi]
  refine Za (Z9y _ _ (by omega) k (by omega)) ?_
  rw [m1]
  cases v.testBit i with
  | true=>rfl
  | false=>
   simp only [Y0,cond_true,Y2]
   refine Za (Z9y _ _ (by omega) k (by omega)) ?_
   rw [m2]
   cases w.testBit i with
   | true=>rfl
   | false=>
    simp only [Y0,cond_true,if_true]
    refine Za (Zab (by simp;omega)) ?_
    rw [Y6]
    rfl
 ·conv=>lhs;unfold Z1d.l0
  rfl
theorem Zumb (l:List Zag) (x y:Zag):(l++[x]).set l.length y=l++[y]:=by
 rw [List.set_append_right _ _ (Ya _),Nat.sub_self]
 rfl
theorem Zt2 {acc:List Zag} {e:Zag} (h:acc.getLast? = some e):acc=acc.dropLast++[e]∧at? acc (((acc.length-1:Nat)):Int)=some e∧0<acc.length:=by
 have h1:acc=acc.dropLast++[e]:=by
  rw [List.getLast?_eq_some_iff] at h
  obtain ⟨l,rfl⟩:=h
  rw [List.dropLast_concat]
 have h2:0<acc.length:=by rw [h1];simp
 refine ⟨h1,?_,h2⟩
 rw [Zi (by omega)]
 rw [List.getLast?_eq_getElem?] at h
 rw [List.getElem?_eq_getElem (by omega)] at h
 exact h
theorem Zz5 {acc:List Zag} {e:Zag} (h:acc.getLast? = some e) (n:Int):Zil acc n=if e.1+e.2=n then acc.set (acc.length-1) (e.1,e.2+1) else acc++[(n,1)]:=by
 have h1:=(Zt2 h).1
 unfold Zil
 rw [h]
 dsimp only
 split
 ·generalize acc.dropLast=d at h1
  subst h1
  rw [Yf,Y5,Nat.add_sub_cancel,Zumb]
 ·rfl
theorem Zk4 {v:Nat} {i:Nat} {e:Zag} (h:e∈Zcb ((Zb v).take i)):0≤e.1∧1≤e.2∧e.1+e.2≤24:=by
 obtain ⟨h1,h2⟩:=Z0bb _ e h
 have lim:∀x∈(Zb v).take i,0≤x∧x≤23:=fun x hx=>by
  obtain ⟨j,hj,rfl⟩:=Yu.1 (List.mem_of_mem_take hx)
  exact Z5j hj
 have:=lim _ (h2 e.1 (Int.le_refl _) (by omega))
 have:=lim _ (h2 (e.1+e.2-1) (by omega) (by omega))
 omega
theorem Zjib (v:Nat) {k:Nat} (hk:100<k):Zle k (Zb v)=some (Zcb (Zb v)):=by
 have hlv:=Z3c v
 have run:=Zzb (fun j i=>Zle.l0 j (Zb v) ((Zb v).length:Int) (i:Int) (Zcb ((Zb v).take i))) (Zb v).length (Zcb (Zb v)) (fun i hi j=>?_) (fun j=>?_) k (by omega)
 ·have run:Zle.l0 k (Zb v) ((Zb v).length:Int) 0 []=some (Zcb (Zb v)):=run
  unfold Zle
  exact Za run rfl
 ·have hrl:=Z5y (Zb v) i
  have hx:=Z5j hi
  conv=>lhs;unfold Zle.l0
  rw [dlt hi,Zn (by omega),cond_true,Z6y hi]
  refine Za (Zi hi) ?_
  dsimp only
  rw [w64 (n:=((Zcb ((Zb v).take i)).length:Int)-1) (by omega) (by omega)]
  cases hl:(Zcb ((Zb v).take i)).getLast? with
  | none=>
   have he:Zcb ((Zb v).take i)=[]:=List.getLast?_eq_none_iff.1 hl
   rw [he]
   have ha:Zu 16 ([]:List Zag) [((Zb v)[i],1)]=some [((Zb v)[i],1)]:=Zab (by simp only [Yk,Y5];omega)
   exact Za ha rfl
  | some e=>
   obtain ⟨h1,h2,h3⟩:=Zt2 hl
   have hr:=Zk4 (v:=v) (i:=i) (e:=e) (List.mem_of_getLast? hl)
   have hat:at? (Zcb ((Zb v).take i)) (((Zcb ((Zb v).take i)).length:Int)-1)=some e:=by
    have q:((Zcb ((Zb v).take i)).length:Int)-1=(((Zcb ((Zb v).take i)).length-1:Nat):Int):=by omega
    rw [q]
    exact h2
   rw [decide_eq_true (by omega:(0:Int)≤((Zcb ((Zb v).take i)).length:Int)-1),cond_true]
   refine Za hat (Za hat (Za hat (Za hat ?_)))
   rw [w64 (n:=e.1+e.2) (by omega) (by omega),Zz5 hl]
   by_cases c:e.1+e.2=(Zb v)[i]
   ·rw [if_pos c,show (e.1+e.2==(Zb v)[i])=true by simpa using c,cond_true]
    refine Za hat (Za hat (Za hat (Za hat ?_)))
    rw [w64 (n:=e.2+1) (by omega) (by omega),show (((Zcb ((Zb v).take i)).length:Int)-1).toNat=(Zcb ((Zb v).take i)).length-1 by omega]
   ·rw [if_neg c,show (e.1+e.2==(Zb v)[i])=false by simpa using c,cond_false]
    exact Za (Zab (by simp;omega)) rfl
 ·conv=>lhs;unfold Zle.l0
  rw [Zy (Ya _),Yl]
  rfl
theorem Z9lb (v:Nat) {k:Nat} (hk:100<k):Zte k (Zb v)=some (Zcb (Zb v)):=by
 have hlv:=Z3c v
 have run:=Zzb (fun j i=>Zte.l0 j (Zb v) (i:Int) (Zcb ((Zb v).take i))) (Zb v).length (Zcb (Zb v)) (fun i hi j=>?_) (fun j=>?_) k (by omega)
 ·have run:Zte.l0 k (Zb v) 0 []=some (Zcb (Zb v)):=run
  unfold Zte
  exact Za run rfl
 ·have hrl:=Z5y (Zb v) i
  have hx:=Z5j hi
  conv=>lhs;unfold Zte.l0
  rw [dlt hi,Zn (by omega),cond_true,Z6y hi]
  dsimp only
  by_cases h0:i=0
  ·subst h0
   rw [show decide (0<((0:Nat):Int))=false from rfl,cond_false]
   refine Za (Zi hi) (Za (Zab (by simp [Zcb])) ?_)
   rfl
  ·rw [decide_eq_true (by omega:(0:Int)<(i:Int)),cond_true]
   obtain ⟨p,rfl⟩:∃p,i=p+1:=⟨i-1,by omega⟩
   have hp:p<(Zb v).length:=by omega
   have hy:=Z5j hp
   obtain ⟨e,hl,he⟩:=Zclb p hp
   obtain ⟨h1,h2,h3⟩:=Zt2 hl
   have hr:=Zk4 (v:=v) (i:=p+1) (e:=e) (List.mem_of_getLast? hl)
   have hat:at? (Zcb ((Zb v).take (p+1))) (((Zcb ((Zb v).take (p+1))).length:Int)-1)=some e:=by
    have q:((Zcb ((Zb v).take (p+1))).length:Int)-1=(((Zcb ((Zb v).take (p+1))).length-1:Nat):Int):=by omega
    rw [q]
    exact h2
   rw [show Ye .i64 (((p+1:Nat):Int)-1)=((p:Nat):Int) by rw [w64 (by omega) (by omega)];omega]
   refine Za (Zi hp) (Za (Zi hi) ?_)
   rw [w64 (n:=(Zb v)[p]+1) (by omega) (by omega),Zz5 hl,he]
   by_cases c:(Zb v)[p]+1=(Zb v)[p+1]
   ·rw [if_pos c,show ((Zb v)[p]+1==(Zb v)[p+1])=true by simpa using c,cond_true,w64 (n:=((Zcb ((Zb v).take (p+1))).length:Int)-1) (by omega) (by omega)]
    refine Za hat (Za hat (Za hat (Za hat ?_)))
    rw [w64 (n:=e.2+1) (by omega) (by omega),show (((Zcb ((Zb v).take (p+1))).length:Int)-1).toNat=(Zcb ((Zb v).take (p+1))).length-1 by omega]
   ·rw [if_neg c,show ((Zb v)[p]+1==(Zb v)[p+1])=false by simpa using c,cond_false]
    exact Za (Zi hi) (Za (Zab (by simp;omega)) rfl)
 ·conv=>lhs;unfold Zte.l0
  rw [Zy (Ya _),Yl]
  rfl
end Go.Proofs.Qz
namespace Go.Proofs.Qz
open Go
set_option linter.unusedVariables false
def Zr1:List (Nat×Nat):=(Yb 24).flatMap fun a=>(Yb (24-a)).map fun n=>(a,n+1)
theorem Zhjb (m:Nat):(Zr1.all fun p=>decide (Zac (m+60) [((p.1:Int),(p.2:Int))]=some (Zeh (p.1:Int) p.2,0)))=true:=by kernel_rfl
theorem Zylb {a n:Nat} (h1:1≤n) (h:a+n≤24) {k:Nat} (hk:60≤k):Zac k [((a:Int),(n:Int))]=some (Zeh (a:Int) n,0):=by
 obtain ⟨m,rfl⟩:∃m,k=m+60:=⟨k-60,by omega⟩
 have hm:(a,n)∈Zr1:=by
  unfold Zr1
  rw [List.mem_flatMap]
  refine ⟨a,Yv.2 (by omega),?_⟩
  rw [List.mem_map]
  exact ⟨n-1,Yv.2 (by omega),by rw [Nat.sub_add_cancel h1]⟩
 exact of_decide_eq_true (Ys.1 (Zhjb m) _ hm)
theorem Zrmb (a:Int) (n:Nat):Zeh a (n+1)=Zeh a n++[a+(n:Int)]:=by
 unfold Zeh
 rw [List.range_succ,Y6]
 rfl
theorem Zjz (a:Int) (n:Nat):(Zeh a n).length=n:=by simp [Zeh]
theorem iSeq {a n:Nat} (h:a+n≤24) (z:Int) {k:Nat} (hk:60≤k):Zyb.l0 k (n:Int) 0 (a:Int) z []=some ((a:Int),z,Zeh (a:Int) n):=by
 have run:=Zzb (fun j i=>Zyb.l0 j (n:Int) (i:Int) (a:Int) z (Zeh (a:Int) i)) n ((a:Int),z,Zeh (a:Int) n) (fun i hi j=>?_) (fun j=>?_) k (by omega)
 ·exact run
 ·conv=>lhs;unfold Zyb.l0
  rw [dlt hi,w64 (n:=(a:Int)+(i:Int)) (by omega) (by omega),Zn (by omega),cond_true]
  refine Za (Zab (by rw [Zjz];simp;omega)) ?_
  rw [Zrmb]
 ·conv=>lhs;unfold Zyb.l0
  rw [Zy (Ya _)]
  rfl
def Zhy (r:Option (List Int)) (c:Int):List Int×Int:=match r with
 | some l=>(l,0)
 | none=>([],c)
theorem Zybb {v:Nat} {e:Zag} (h:e∈Zcb (Zb v)):∃a c:Nat,e=((a:Int),(c:Int))∧1≤c∧a+c≤24:=by
 have:=Zk4 (v:=v) (i:=(Zb v).length) (e:=e) (by rw [Yl];exact h)
 exact ⟨e.1.toNat,e.2.toNat,Prod.ext (by show e.1=_;omega) (by show e.2=_;omega),by omega,by omega⟩
theorem Z1bb (v:Nat):(Zcb (Zb v)).length≤24:=by
 have:=Z5y (Zb v) (Zb v).length
 rw [Yl] at this
 have:=Z3c v
 omega
theorem Zf1 {α:Type} {l:List α} {n:Nat} (h:n≤l.length):Z8b l 0 (n:Int)=some (l.take n):=by
 have:=Znh (l:=l) (i:=0) (j:=n) (by omega) h
 rw [List.drop_zero] at this
 exact this
theorem Z78 (v w n:Nat) (hv:v<16777216) (hw:w<16777216) (h1:1≤n) {k:Nat} (hk:200≤k):Zyb k (Zb v) (Zb w) (n:Int)=some (match Z1g (Zub v w) (n:Int) with
  | some l=>(l,true)
  | none=>([],false)):=by
 have hz:Znj (Zb (Zub v w))=some ((Zb (Zub v w)).length:Int):=rfl
 have hrl:=Z1bb (Zub v w)
 unfold Zyb Z1g
 refine Za (Z1hb v w hv hw (by omega)) (Za hz ?_)
 by_cases c:((Zb (Zub v w)).length:Int)<(n:Int)
 ·rw [decide_eq_true c,if_pos c]
  rfl
 ·rw [decide_eq_false c,if_neg c,cond_false]
  refine Za (Zjib _ (by omega)) ?_
  have run:=Zph (fun j i=>Zyb.l1 k j (n:Int) ((Zcb (Zb (Zub v w))).length:Int) i (Zcb (Zb (Zub v w)))) (Zcb (Zb (Zub v w))) (fun e=>decide ((n:Int)≤e.2)) (.inl ()) (fun i=>.inr (true,Zeh ((Zcb (Zb (Zub v w))).getD i (0,0)).1 n)) (fun i hi=>⟨fun hp j=>?_,fun hp j=>?_⟩) (fun j=>?_) (k:=k) (by omega)
  ·have run:Zyb.l1 k k (n:Int) ((Zcb (Zb (Zub v w))).length:Int) 0 (Zcb (Zb (Zub v w)))=_:=run
   refine Za run ?_
   cases Z1b (fun (e:Zag)=>decide ((n:Int)≤e.2)) (Zcb (Zb (Zub v w))) 0 with
   | none=>exact Za (Zf1 (by omega)) rfl
   | some i=>rfl
  ·show Zyb.l1 k (j+1) (n:Int) _ (i:Int) _=Zyb.l1 k j (n:Int) _ ((i+1:Nat):Int) _
   conv=>lhs;unfold Zyb.l1
   rw [dlt hi,Zn (by omega),cond_true]
   refine Za (Zi hi) (Za (Zi hi) ?_)
   rw [hp]
   rfl
  ·show Zyb.l1 k (j+1) (n:Int) _ (i:Int) _=_
   obtain ⟨a,q,he,q1,q2⟩:=Zybb (Yj hi)
   have hd:(Zcb (Zb (Zub v w))).getD i (0,0)=((a:Int),(q:Int)):=by
    rw [List.getD_eq_getElem?_getD,List.getElem?_eq_getElem hi]
    exact he
   have hp':=of_decide_eq_true hp
   rw [he] at hp'
   have hp':(n:Int)≤(q:Int):=hp'
   conv=>lhs;unfold Zyb.l1
   rw [dlt hi,Zn (by omega),cond_true]
   refine Za (Zi hi) (Za (Zi hi) ?_)
   rw [hp,cond_true,he,hd]
   exact Za (iSeq (by omega) _ (by omega)) rfl
  ·show Zyb.l1 k (j+1) (n:Int) _ _ _=_
   unfold Zyb.l1
   rw [Zy (Ya _)]
   rfl
theorem Zgcb (v w n:Nat) (hv:v<16777216) (hw:w<16777216) (h1:1≤n) {k:Nat} (hk:200≤k):Z0c k (Zb v) (Zb w) (n:Int)=some (Zhy (Z1g (Zub v w) (n:Int)) 11):=by
 have hrl:=Z1bb (Zub v w)
 unfold Z0c Z1g
 refine Za (Z5bb v w (by omega)) ?_
 by_cases c:((Zb (Zub v w)).length:Int)<(n:Int)
 ·rw [decide_eq_true c,if_pos c]
  rfl
 ·rw [decide_eq_false c,if_neg c,cond_false]
  refine Za (Z9lb _ (by omega)) ?_
  have run:=Zph (fun j i=>Z0c.l0 k j (n:Int) i 0 (Zcb (Zb (Zub v w))) []) (Zcb (Zb (Zub v w))) (fun e=>decide ((n:Int)≤e.2)) (.inl (0,[])) (fun i=>.inr (Zeh ((Zcb (Zb (Zub v w))).getD i (0,0)).1 n,0)) (fun i hi=>⟨fun hp j=>?_,fun hp j=>?_⟩) (fun j=>?_) (k:=k) (by omega)
  ·have run:Z0c.l0 k k (n:Int) 0 0 (Zcb (Zb (Zub v w))) []=_:=run
   refine Za run ?_
   cases Z1b (fun (e:Zag)=>decide ((n:Int)≤e.2)) (Zcb (Zb (Zub v w))) 0 with
   | none=>exact Za (Zf1 (by omega)) rfl
   | some i=>rfl
  ·show Z0c.l0 k (j+1) (n:Int) (i:Int) _ _ _=Z0c.l0 k j (n:Int) ((i+1:Nat):Int) _ _ _
   conv=>lhs;unfold Z0c.l0
   rw [dlt hi,Zn (by omega),cond_true]
   refine Za (Zi hi) (Za (Zi hi) ?_)
   rw [hp]
   rfl
  ·show Z0c.l0 k (j+1) (n:Int) (i:Int) _ _ _=_
   obtain ⟨a,q,he,q1,q2⟩:=Zybb (Yj hi)
   have hd:(Zcb (Zb (Zub v w))).getD i (0,0)=((a:Int),(q:Int)):=by
    rw [List.getD_eq_getElem?_getD,List.getElem?_eq_getElem hi]
    exact he
   have hp':=of_decide_eq_true hp
   rw [he] at hp'
   have hp':(n:Int)≤(q:Int):=hp'
   have hmax:Zsp 1 (n:Int)=some (n:Int):=by
    unfold Zsp
    by_cases c1:(n:Int)<1
    ·omega
    ·rw [decide_eq_false c1]
     rfl
   conv=>lhs;unfold Z0c.l0
   rw [dlt hi,Zn (by omega),cond_true]
   refine Za (Zi hi) (Za (Zi hi) ?_)
   rw [hp,cond_true]
   refine Za (Zi hi) (Za (Zi hi) (Za hmax ?_))
   rw [he,hd]
   refine Za (Zylb h1 (by omega) (by omega)) ?_
   have hc:Z8b (Zeh (a:Int) n) 0 (n:Int)=some (Zeh (a:Int) n):=by
    rw [Zf1 (by rw [Zjz];exact Ya _),List.take_of_length_le (by rw [Zjz];exact Ya _)]
   exact Za hc rfl
  ·show Z0c.l0 k (j+1) (n:Int) _ _ _ _=_
   unfold Z0c.l0
   rw [Zy (Ya _)]
   rfl
end Go.Proofs.Qz
namespace Go.Proofs.Qz
open Go
set_option linter.unusedVariables false
abbrev Zci:=Int×Int×Int×Str×Zk
def Zjt (s:Zk):Bool:=decide (s.1=0)&&(decide (s.2.1=0)&&(decide (s.2.2.1=0)&&(s.2.2.2==[])))
def Zzn (c:Zci):Bool:=
 if c.1=1 then (decide (1≤c.2.1)&&decide (c.2.1≤20))&&(decide (0≤c.2.2.1)&&decide (c.2.2.1≤4))&&decide ((c.2.2.2.1.length:Int)=32)&&Zjt c.2.2.2.2
 else if c.1=2 then decide (c.2.1=0)&&decide (c.2.2.1=0)&&(c.2.2.2.1==[])&&Zbd c.2.2.2.2.1 c.2.2.2.2.2.1 c.2.2.2.2.2.2.1 c.2.2.2.2.2.2.2 8
 else if c.1=9 then (decide (1≤c.2.1)&&decide (c.2.1≤24))&&decide (c.2.2.1=0)&&(c.2.2.2.1==[])&&Zjt c.2.2.2.2
 else if c.1=7 then (decide (0≤c.2.1)&&decide (c.2.1≤1000000))&&decide (c.2.2.1=0)&&(c.2.2.2.1==[])&&Zjt c.2.2.2.2
 else (decide (1≤c.1)&&decide (c.1≤11))&&decide (c.2.1=0)&&decide (c.2.2.1=0)&&(c.2.2.2.1==[])&&Zjt c.2.2.2.2
theorem Z28 (c:Zci):Zgo c=some (Zzn c):=by
 obtain ⟨o,a,b,t,s⟩:=c
 have hs:Zkc s 8=some (Zbd s.1 s.2.1 s.2.2.1 s.2.2.2 8):=Zqx s.1 s.2.1 s.2.2.1 s.2.2.2 8 (by decide) (by decide)
 unfold Zgo Zzn Zjt
 simp only [Zeb,Z4h,Yh,hs,Zyh]
 generalize (decide (s.1=0)&&(decide (s.2.1=0)&&(decide (s.2.2.1=0)&&(s.2.2.2==[]))))=Z
 generalize (t==([]:Str))=E
 generalize Zbd s.1 s.2.1 s.2.2.1 s.2.2.2 8=S
 by_cases c1:o=1
 ·subst c1;simp
 by_cases c2:o=2
 ·subst c2;simp
 by_cases c9:o=9
 ·subst c9;simp
 by_cases c7:o=7
 ·subst c7;simp
 simp [c1,c2,c9,c7]
theorem sCmd (c:Zci):Zop c=some (Zzn c):=by
 obtain ⟨o,a,b,t,s⟩:=c
 have hs:Zrh s 8=some (Zbd s.1 s.2.1 s.2.2.1 s.2.2.2 8):=Zez s.1 s.2.1 s.2.2.1 s.2.2.2 8 (by decide) (by decide)
 unfold Zop Zzn Zjt
 simp only [Zib,Yh,hs,bne,Zyh]
 generalize (decide (s.1=0)&&(decide (s.2.1=0)&&(decide (s.2.2.1=0)&&(s.2.2.2==[]))))=Z
 generalize (t==([]:Str))=E
 generalize Zbd s.1 s.2.1 s.2.2.1 s.2.2.2 8=S
 generalize decide ((t.length:Int)=32)=W
 by_cases c1:o=1
 ·subst c1
  generalize (decide (1≤a)&&decide (a≤20))=P
  generalize (decide (0≤b)&&decide (b≤4))=Q
  cases P <;> cases Q <;> cases W <;> cases Z <;> simp
 by_cases c2:o=2
 ·subst c2
  generalize decide (a=0)=P
  generalize decide (b=0)=Q
  cases P <;> cases Q <;> cases E <;> cases S <;> simp
 by_cases c9:o=9
 ·subst c9
  generalize (decide (1≤a)&&decide (a≤24))=P
  generalize decide (b=0)=Q
  cases P <;> cases Q <;> cases E <;> cases Z <;> simp
 by_cases c7:o=7
 ·subst c7
  generalize (decide (0≤a)&&decide (a≤1000000))=P
  generalize decide (b=0)=Q
  cases P <;> cases Q <;> cases E <;> cases Z <;> simp
 simp only [decide_eq_false c1,decide_eq_false c2,decide_eq_false c9,decide_eq_false c7,if_neg c1,if_neg c2,if_neg c9,if_neg c7]
 generalize decide (a=0)=P
 generalize decide (b=0)=Q
 generalize (decide (1≤o)&&decide (o≤11))=R
 cases P <;> cases Q <;> cases E <;> cases Z <;> cases R <;> simp
end Go.Proofs.Qz
namespace Go.Proofs.Qz
open Go
set_option linter.unusedVariables false
abbrev Zel:=List Zzj×Str×List Int×Int
def Zgf (c:Int):Zel:=([],([],([],c)))
def Zoi (l:List Zzj):Zel:=(l,([],([],0)))
theorem Z1db (a b:Str):(Z0z a b).length=8:=by simp [Z0z,Zlb]
theorem Zjkb {l:List Zk} {n:Int} (h:Zbb l n=0):∀x∈Zg l,x.1=2→x.2.2.2.length=8:=by
 intro x hx h2
 obtain ⟨_,h1,_,hs,_⟩:=Zvf h
 unfold Zg at hx
 have hs:=hs x (Yt.1 hx).1
 unfold Z8f Zbd at hs
 rw [if_neg (by omega),if_pos h2] at hs
 simp only [Yd,decide_eq_true_eq] at hs
 omega
theorem Zqjb {x:Zk} {n:Int} (h:WriteOk x n) (h2:x.1=2→x.2.2.2.length=8) {s:Str} (hs:s.length=8):(Z0g x s).length=8:=by
 unfold Z0g
 split
 ·rfl
 ·split
  ·rename_i q
   exact h2 q
  ·split
   ·exact hs
   ·have:x.2.2.2.length=8:=by rcases h.kind with q | q | q | q;omega;omega;omega;exact q.2
    unfold Znr
    rw [if_pos ⟨hs,this⟩]
    exact Z1db _ _
theorem Zd6 {base:List Str} {l:List Zk} {n:Int} (hc:Zbb l n=0) (hb:(base.length:Int)=n) (hi:Z3h base=true):Z3h (Zhe base l)=true:=by
 obtain ⟨h1,h8,hs⟩:=Zpu hi
 have hl:(Zhe base l).length=base.length:=Zhh _ _ _ _
 unfold Z3h
 rw [hl,decide_eq_true h1,decide_eq_true h8]
 show (true&&(Zhe base l).all Zbk)=true
 rw [Y2]
 refine Ys.2 fun s hm=>?_
 obtain ⟨b,hb1,rfl⟩:=Yu.1 hm
 rw [hl] at hb1
 have hg:(base.getD b []).length=8:=hs _ (Z21 hb1)
 have:((Zhe base l)[b]'(by rw [hl];exact hb1)).length=8:=by
  unfold Zhe
  rw [Z1p hb1]
  cases hf:(Zg l).find? (fun x=>x.2.1==(b:Int)) with
  | none=>exact hg
  | some x=>
   have hx:=List.mem_of_find?_eq_some hf
   have hw:=Zit hc x hx
   have hsrc:=hw.src
   exact Zqjb hw (Zjkb hc x hx) (hs _ (Z21 (by omega)))
 unfold Zbk
 exact decide_eq_true this
def Zdl (m:Zv) (ph st dn:Int) (w:Nat):List Str:=if ph=4 then Zhe (Ztb m) (Zc m st w) else if ph=5 then Zmr m st dn w else Ztb m
section
variable {m:Zv} {ph tr nd st dn:Int} {dg:Str} {v w:Nat}
theorem MSt.base8 (h:MSt m ph tr nd st dn dg v w):∀s∈Ztb m,s.length=8:=(Zpu h.img).2.2
theorem MSt.base (h:MSt m ph tr nd st dn dg v w):((Ztb m).length:Int)=m.1:=by
 have:=h.fit.b
 rw [Znw]
 omega
theorem Zvdb (h:MSt m ph tr nd st dn dg v w):((Zdl m ph st dn w).length:Int)=m.1:=by
 have:=h.base
 unfold Zdl Zhe Zmr
 split
 ·rw [Zhh];exact this
 ·split
  ·rw [Zhh];exact this
  ·exact this
theorem Zwib (hs:stM m=some (ph,(tr,(nd,(st,(dn,(dg,(v,w)))))))) (h:MSt m ph tr nd st dn dg v w):Ze fun k=>Zke k m=some (Zdl m ph st dn w):=by
 have hf:=h.fit
 have hb:=hf.b
 have hn:=hf.n
 have hdr:=hf.dirt
 have hl:m.2.1.length≤1048576:=by omega
 have hfl:=(Znq hf.f).1
 have pre:Ze fun k=>Zah k m=some (Z1q (some (ph,tr,nd,st,dn,dg,v,w))):=by rw [← hs];exact Zpx m hl (by omega)
 have hll:=h.log
 have hplan:Ze fun k=>Zbb (Zc m st w) m.1=0→Zkb k (Zc m st w)=some (Zh (Zc m st w)):=if hc:Zbb (Zc m st w) m.1=0 then (Zcs (Zc m st w) (Zvf hc).1 (Zsi hc)).mono fun k e _=>e else Ze.of fun k q=>absurd q hc
 refine (((pre.and (Zou ph tr nd st dn dg (Zb v) hf)).and hplan).and (Ze.ge 1048577 fun k hk=>hk)).mono fun k ⟨⟨⟨e1,e2⟩,e3⟩,hk⟩=>?_
 unfold Zke Zdl
 refine Za e1 (Za (Za2 (m:=m) ⟨by omega,hb.2⟩ (by omega) (by omega) hk) (Za e2 ?_))
 show (bif ph==4 then _ else _)=_
 by_cases c4:ph=4
 ·have hS:=h.snd (by omega)
  rw [if_pos c4,show (ph==4)=true by simpa using c4,cond_true]
  exact Za (Z08 hS.code h.base h.base8 (by omega)) rfl
 ·rw [if_neg c4,show (ph==4)=false by simpa using c4,cond_false]
  show (bif ph==5 then _ else _)=_
  by_cases c5:ph=5
  ·have hS:=h.snd (by omega)
   rw [if_pos c5,show (ph==5)=true by simpa using c5,cond_true]
   exact Za (e3 hS.code) (Za (Zsx _ (by omega) k (by omega)) (Za (Zxib hS ph tr nd dg (Zb v) hk) rfl))
  ·rw [if_neg c5,show (ph==5)=false by simpa using c5]
   rfl
theorem Zcz (h:MSt m ph tr nd st dn dg v w) (h3:3≤ph):Ze fun k=>Zbj k m (ph,(tr,(nd,(st,(dn,(dg,(Zb v,Zb w)))))))=some (Zh (Zc m st w)):=by
 refine ((Zip ph tr nd st dn dg (Zb v) h.fit).and (Zecb _ _ (h.snd h3).code)).mono fun k ⟨e1,e2⟩=>?_
 unfold Zbj
 exact Za e1 (Za e2 rfl)
theorem Z6hb (h:MSt m ph tr nd st dn dg v w) (h3:3≤ph):Ze fun k=>Z1m k m (ph,(tr,(nd,(st,(dn,(dg,(Zb v,Zb w)))))))=some (Zh (Zc m st w)):=by
 have hc:=(h.snd h3).code
 refine (((Zou ph tr nd st dn dg (Zb v) h.fit).and (Zrx (Zc m st w) m.1 (by have:=Zzx m st w;omega))).and (Zcs _ (Zvf hc).1 (Zsi hc))).mono fun k ⟨⟨e1,e2⟩,e3⟩=>?_
 unfold Z1m
 refine Za e1 (Za e2 ?_)
 rw [hc]
 exact Za e3 rfl
theorem Zlmb (h:MSt m ph tr nd st dn dg v w):Ze fun k=>Zxe k m (ph,(tr,(nd,(st,(dn,(dg,(Zb v,Zb w)))))))=some (Zdl m ph st dn w):=by
 have hf:=h.fit
 have hb:=hf.b
 have hn:=hf.n
 have hdr:=hf.dirt
 have hll:=h.log
 have hmv:Ze fun k=>3≤ph→Zbj k m (ph,(tr,(nd,(st,(dn,(dg,(Zb v,Zb w)))))))=some (Zh (Zc m st w)):=if h3:3≤ph then (Zcz h h3).mono fun k e _=>e else Ze.of fun k q=>absurd q h3
 refine ((((Zip ph tr nd st dn dg (Zb v) hf).and (Zicb (l:=Zc m st w) h.img (by omega))).and hmv).and (Ze.ge 1048577 fun k hk=>hk)).mono fun k ⟨⟨⟨e2,e3⟩,e4⟩,hk⟩=>?_
 unfold Zxe Zdl
 refine Za (Zm4 (m:=m) ⟨by omega,hb.2⟩ (by omega) (by omega) hk) (Za e2 ?_)
 show (bif ph==4 then _ else _)=_
 by_cases c4:ph=4
 ·have hS:=h.snd (by omega)
  rw [if_pos c4,show (ph==4)=true by simpa using c4,cond_true]
  rw [h.base,if_pos hS.code] at e3
  exact Za e3 rfl
 ·rw [if_neg c4,show (ph==4)=false by simpa using c4,cond_false]
  show (bif ph != 5 then _ else _)=_
  by_cases c5:ph=5
  ·have hS:=h.snd (by omega)
   rw [if_pos c5,show (ph != 5)=false by simpa using c5,cond_false]
   have hbl:=Znw m
   exact Za (e4 (by omega)) (Za (Zx4 _ (by omega) k (by omega)) (Za (Zab (by simp;omega)) (Za (Zmmb hS ph tr nd dg (Zb v) hk) rfl)))
  ·rw [if_neg c5,show (ph != 5)=true by simpa using c5]
   rfl
end
end Go.Proofs.Qz
namespace Go.Proofs.Qz
open Go
set_option linter.unusedVariables false
def Zdg (l:List Int):Nat:=orP (l.map Y3)
theorem Zx6 {u:Nat} (h:u<16777216):Zdg (Zb u)=u:=by
 have e:(Zb u).map Y3=Zqb u 24:=by
  unfold Zb
  rw [List.map_map]
  exact List.map_id' _
 unfold Zdg
 rw [e]
 refine Y7 fun i=>?_
 rw [Zgy]
 by_cases hi:i<24
 ·cases hb:u.testBit i with
  | true=>exact decide_eq_true (by unfold Zqb;rw [Yt,Yv];exact ⟨hi,hb⟩)
  | false=>exact decide_eq_false fun q=>by rw [(Ztr q).2] at hb;cases hb
 ·rw [Yz (Yx (show u<2^24 by simpa using h) (Yy (by omega) (by omega)))]
  exact decide_eq_false fun q=>hi (Ztr q).1
theorem Zm7 {v w:Nat} (h:v &&& w=0):∀n,n≤24→(Zqb v n).length+(Zqb w n).length+(Zqb (Zub v w) n).length=n
 | 0,_=>by simp [Zqb]
 | n+1,hn=>by
  have ih:=Zm7 h n (by omega)
  have hb:(v &&& w).testBit n=false:=by rw [h];exact Nat.zero_testBit n
  rw [Nat.testBit_and] at hb
  rw [Zaq,Zaq,Zaq,Z11 (by omega)]
  cases h1:v.testBit n <;> cases h2:w.testBit n <;> simp only [h1,h2] at hb ⊢
  ·simp;omega
  ·simp;omega
  ·simp;omega
  ·cases hb
theorem Zlfb {v w:Nat} (h:v &&& w=0):(Zb v).length+(Zb w).length+(Zb (Zub v w)).length=24:=by
 have:=Zm7 h 24 (Ya _)
 unfold Zb
 simp only [Y4]
 exact this
def Zbi (m:Zv) (l:List Int):List Zzj:=l.map fun x=>(false,(3+m.1+x,[]))
section
variable {m:Zv} {ph tr nd st dn:Int} {dg:Str} {v w:Nat}
theorem Z0db {l:List Int} {i:Nat} (h:i<l.length):Zbi m (l.take (i+1))=Zbi m (l.take i)++[(false,(3+m.1+l[i],[]))]:=Zddb _ h
theorem Zzib (h:Fit m st w) (l:List Int) (hl:l.length≤24) (hx:∀x∈l,0≤x∧x≤23) {k:Nat} (hk:100≤k):Zje.l0 k m.1 m.2.1 m.2.2 l (l.length:Int) 0 []=some (Zbi m l):=by
 have run:=Zzb (fun j i=>Zje.l0 j m.1 m.2.1 m.2.2 l (l.length:Int) (i:Int) (Zbi m (l.take i))) l.length (Zbi m l) (fun i hi j=>?_) (fun j=>?_) k (by omega)
 ·exact run
 ·have hr:=hx _ (Yj hi)
  conv=>lhs;unfold Zje.l0
  rw [dlt hi,Zn (by omega),cond_true,Z0db hi]
  exact Za (Zi hi) (Za (Zix h hr.1 hr.2) (Za (Zab (by simp [Zbi];omega)) rfl))
 ·conv=>lhs;unfold Zje.l0
  rw [Zy (Ya _),Yl]
  rfl
theorem Znmb (h:Fit m st w) (l:List Int) (hl:l.length≤24) (hx:∀x∈l,0≤x∧x≤23) {k:Nat} (hk:100≤k):Zve.l0 k m.1 m.2.1 m.2.2 0 l 0 [] 0 [] []=some (l,(0,([],(0,(Zbi m l,[]))))):=by
 have run:=Zzb (fun j i=>Zve.l0 j m.1 m.2.1 m.2.2 (i:Int) l 0 [] 0 (Zbi m (l.take i)) []) l.length (l,(0,([],(0,(Zbi m l,[]))))) (fun i hi j=>?_) (fun j=>?_) k (by omega)
 ·exact run
 ·have hr:=hx _ (Yj hi)
  conv=>lhs;unfold Zve.l0
  rw [dlt hi,Zn (by omega),cond_true,Z0db hi]
  exact Za (Zi hi) (Za (Zpv h hr.1 hr.2) (Za (Zab (by simp [Zbi];omega)) rfl))
 ·conv=>lhs;unfold Zve.l0
  rw [Zy (Ya _),Yl]
  rfl
def Zsr (m:Zv) (ph:Int) (v:Nat) (a b:Int) (dg:Str):Zel:=if ph=1 then (match Z1g (Zub v 0) (a+b) with
 | some l=>Zoi ((Zbi m l++[Zli])++Zpe m.2 2 0 a b 0 dg v (Zdg l))
 | none=>Zgf 11) else Zgf 10
theorem Zjbb {f:Nat} (hf:f<16777216) {n:Int} (h0:1≤n) {l:List Int} (h:Z1g f n=some l):∃u,u<16777216∧l=Zb u∧Zdg l=u∧l.length≤24∧∀x∈l,0≤x∧x≤23:=by
 obtain ⟨⟨u,h1,h2,_⟩,_⟩:=Zibb hf h0 h
 subst h2
 refine ⟨u,h1,rfl,Zx6 h1,Z3c u,fun x hx=>?_⟩
 obtain ⟨j,hj,rfl⟩:=Yu.1 hx
 exact Z5j hj
theorem Zkhb (h:MSt m ph tr nd st dn dg v w) (c:Zci) (ha:1≤c.2.1∧c.2.1≤20) (hb:0≤c.2.2.1∧c.2.2.1≤4) (hd:c.2.2.2.1.length≤32):Ze fun k=>Zje k m (ph,(tr,(nd,(st,(dn,(dg,(Zb v,Zb w))))))) c=some (Zsr m ph v c.2.1 c.2.2.1 c.2.2.2.1):=by
 unfold Zsr
 by_cases c1:ph=1
 ·obtain ⟨n,hn⟩:∃n:Nat,c.2.1+c.2.2.1=(n:Int):=⟨(c.2.1+c.2.2.1).toNat,by omega⟩
  have hfl:=Zgx h.hv (by omega:0<16777216)
  have hr:∀k,200≤k→Zyb k (Zb v) [] (Ye .i64 (c.2.1+c.2.2.1))=some (match Z1g (Zub v 0) (c.2.1+c.2.2.1) with
   | some l=>(l,true)
   | none=>([],false)):=fun k hk=>by
   have:=Z78 v 0 n h.hv (by omega) (by omega) hk
   rw [Z9p] at this
   rw [hn,wn (by omega)]
   exact this
  rw [if_pos c1]
  cases hres:Z1g (Zub v 0) (c.2.1+c.2.2.1) with
  | none=>
   refine (Ze.ge 200 fun k hk=>hk).mono fun k hk=>?_
   have hr:=hr k hk
   rw [hres] at hr
   unfold Zje
   show (bif ph != 1 then _ else _)=_
   rw [show (ph != 1)=false by simpa using c1,cond_false]
   exact Za hr rfl
  | some l=>
   obtain ⟨u,u1,u2,u3,u4,u5⟩:=Zjbb hfl (by omega) hres
   dsimp only
   rw [u3]
   refine ((Zkj (m:=m) h.fit.f h.two (a:=2) (b:=0) (c:=c.2.1) (d:=c.2.2.1) (e:=0) (x:=c.2.2.2.1) (v:=v) (w:=u) ⟨by omega,by omega,by omega,by omega,by omega,hd,h.hv,u1⟩).and (Ze.ge 200 fun k hk=>hk)).mono fun k ⟨e,hk⟩=>?_
   have hr:=hr k hk
   rw [hres] at hr
   rw [← u2] at e
   have hkl:=Zxk m.2 (Z3d (2,0,c.2.1,c.2.2.1,0,(v:Int),(u:Int),c.2.2.2.1))
   unfold Zje
   show (bif ph != 1 then _ else _)=_
   rw [show (ph != 1)=false by simpa using c1,cond_false]
   refine Za hr ?_
   rw [Yc,cond_false]
   refine Za (Zzib h.fit l u4 u5 (by omega)) (Za (Zab (by simp [Zbi];omega)) (Za e (Za (Zab (by unfold Zpe;simp [Zbi];omega)) ?_)))
   rfl
 ·refine Ze.of fun k=>?_
  unfold Zje
  show (bif ph != 1 then _ else _)=_
  rw [show (ph != 1)=true by simpa using c1,if_neg c1]
  rfl
theorem Zglb (h:MSt m ph tr nd st dn dg v w) (c:Zci) (ha:1≤c.2.1∧c.2.1≤20) (hb:0≤c.2.2.1∧c.2.2.1≤4) (hd:c.2.2.2.1.length≤32):Ze fun k=>Zve k m (ph,(tr,(nd,(st,(dn,(dg,(Zb v,Zb w))))))) c=some (Zsr m ph v c.2.1 c.2.2.1 c.2.2.2.1):=by
 unfold Zsr
 by_cases c1:ph=1
 ·obtain ⟨n,hn⟩:∃n:Nat,c.2.1+c.2.2.1=(n:Int):=⟨(c.2.1+c.2.2.1).toNat,by omega⟩
  have hfl:=Zgx h.hv (by omega:0<16777216)
  have hr:∀k,200≤k→Z0c k (Zb v) [] (Ye .i64 (c.2.1+c.2.2.1))=some (Zhy (Z1g (Zub v 0) (c.2.1+c.2.2.1)) 11):=fun k hk=>by
   have:=Zgcb v 0 n h.hv (by omega) (by omega) hk
   rw [Z9p] at this
   rw [hn,wn (by omega)]
   exact this
  rw [if_pos c1]
  cases hres:Z1g (Zub v 0) (c.2.1+c.2.2.1) with
  | none=>
   refine (Ze.ge 200 fun k hk=>hk).mono fun k hk=>?_
   have hr:=hr k hk
   rw [hres] at hr
   unfold Zve
   show (bif ph != 1 then _ else _)=_
   rw [show (ph != 1)=false by simpa using c1,cond_false]
   exact Za hr rfl
  | some l=>
   obtain ⟨u,u1,u2,u3,u4,u5⟩:=Zjbb hfl (by omega) hres
   dsimp only
   rw [u3]
   refine ((Zuj (m:=m) h.fit.f h.two (a:=2) (b:=0) (c:=c.2.1) (d:=c.2.2.1) (e:=0) (x:=c.2.2.2.1) (v:=v) (w:=u) ⟨by omega,by omega,by omega,by omega,by omega,hd,h.hv,u1⟩).and (Ze.ge 200 fun k hk=>hk)).mono fun k ⟨e,hk⟩=>?_
   have hr:=hr k hk
   rw [hres] at hr
   rw [← u2] at e
   have hkl:=Zxk m.2 (Z3d (2,0,c.2.1,c.2.2.1,0,(v:Int),(u:Int),c.2.2.2.1))
   unfold Zve
   show (bif ph != 1 then _ else _)=_
   rw [show (ph != 1)=false by simpa using c1,cond_false]
   refine Za hr ?_
   rw [show ((Zhy (some l) 11).2 != 0)=false from rfl,cond_false]
   refine Za (Znmb h.fit l u4 u5 (by omega)) (Za (Zab (by simp [Zbi];omega)) (Za e (Za (Zab (by unfold Zpe;simp [Zbi];omega)) ?_)))
   rfl
 ·refine Ze.of fun k=>?_
  unfold Zve
  show (bif ph != 1 then _ else _)=_
  rw [show (ph != 1)=true by simpa using c1,if_neg c1]
  rfl
theorem Zfab {x:Zk} (h:Zbd x.1 x.2.1 x.2.2.1 x.2.2.2 8=true):Z4z x:=by
 unfold Zbd at h
 unfold Z4z Num
 split at h
 ·simp only [Yd,decide_eq_true_eq] at h;omega
 ·split at h
  ·simp only [Yd,decide_eq_true_eq] at h;omega
  ·split at h
   ·simp only [Yd,decide_eq_true_eq] at h;omega
   ·split at h
    ·simp only [Yd,decide_eq_true_eq] at h;omega
    ·split at h
     ·simp only [Yd,decide_eq_true_eq] at h;omega
     ·cases h
def Z83 (n:Int) (x:Zk):Str:=Zdh (Zm n++Zft x)
theorem Zgib (n:Int) (x:Zk) (h0:0≤n∧n≤1000000) (h:Zbd x.1 x.2.1 x.2.2.1 x.2.2.2 8=true):Ze fun k=>Zro k n x=some (Z83 n x):=by
 have l0:=Znc n
 have l1:=Znc x.1
 have l2:=Znc x.2.1
 have l3:=Znc x.2.2.1
 have l4:=Zoj x.2.2.2
 have l5:=Zpz h
 have lX:(Zft x).length≤60:=by unfold Zft;simp only [Yf];omega
 refine (((Zmx n (by constructor <;> omega)).and (Ztib x (Zfab h) l5)).and (Zox (Zm n++Zft x) (by simp;omega))).mono fun k ⟨⟨a,b⟩,c⟩=>?_
 unfold Zro
 exact Za a (Za b (Za (Zrc (by omega)) (Za c rfl)))
theorem Z6lb (n:Int) (x:Zk) (h0:0≤n∧n≤1000000) (h:Zbd x.1 x.2.1 x.2.2.1 x.2.2.2 8=true):Ze fun k=>Zhk k n x=some (Z83 n x):=by
 obtain ⟨q1,q2,q3⟩:=Zfab h
 have:=Zfcb n x.1 x.2.1 x.2.2.1 x.2.2.2 (by constructor <;> omega) q1 q2 q3 (Zpz h) h
 rw [if_pos h0] at this
 exact this
def Zet (m:Zv) (ph nd st:Int) (w:Nat) (x:Zk):Zel:=
 if ph=2 then (if ((Zc m st w).length:Int)=nd then Zgf 9 else if Zbb (Zc m st w++[x]) m.1=0 then
  Zoi ((false,(3+m.1+(Zb w).getD (st+((Zc m st w).length:Int)).toNat 0,Z83 ((Zc m st w).length:Int) x))::(if x.1=5 then [Zli] else []))
  else Zgf (Zbb (Zc m st w++[x]) m.1)) else Zgf 10
theorem Zrib (h:MSt m ph tr nd st dn dg v w) (x:Zk) (hx:Zbd x.1 x.2.1 x.2.2.1 x.2.2.2 8=true):Ze fun k=>Z9n k m (ph,(tr,(nd,(st,(dn,(dg,(Zb v,Zb w))))))) (Zc m st w) x=some (Zet m ph nd st w x):=by
 have hll:=h.log
 have hlw:=Z3c w
 refine (((Zrx (Zc m st w++[x]) m.1 (by simp;omega)).and (Zgib ((Zc m st w).length:Int) x (by omega) hx)).and (Ze.ge 100 fun k hk=>hk)).mono fun k ⟨⟨e1,e2⟩,hk⟩=>?_
 have hz:Z9j (Zc m st w)=some ((Zc m st w).length:Int):=rfl
 unfold Z9n Zet
 show (bif ph != 2 then _ else _)=_
 by_cases c2:ph=2
 ·rw [if_pos c2,show (ph != 2)=false by simpa using c2,cond_false]
  obtain ⟨q1,q2,q3,q4,q5,q6,q7,q8⟩:=h.busy (by omega)
  refine Za hz ?_
  show (bif ((Zc m st w).length:Int)==nd then _ else _)=_
  by_cases cn:((Zc m st w).length:Int)=nd
  ·rw [if_pos cn,show (((Zc m st w).length:Int)==nd)=true by simpa using cn]
   rfl
  ·rw [if_neg cn,show (((Zc m st w).length:Int)==nd)=false by simpa using cn,cond_false]
   refine Za (Zab (by simp;omega)) (Za e1 ?_)
   by_cases cc:Zbb (Zc m st w++[x]) m.1=0
   ·rw [if_pos cc,show (Zbb (Zc m st w++[x]) m.1 != 0)=false by simpa using cc,cond_false]
    obtain ⟨a1,a2,a3⟩:=Z2t (w:=w) (n:=st+((Zc m st w).length:Int)) (by omega) (by omega)
    show Yq (at? (Zb w) (Ye .i64 (st+((Zc m st w).length:Int)))) _=_
    rw [w64 (n:=st+((Zc m st w).length:Int)) (by omega) (by omega)]
    refine Za a1 (Za (Zix h.fit a2 a3) (Za e2 ?_))
    show (bif x.1==5 then _ else _)=_
    by_cases c5:x.1=5
    ·rw [if_pos c5,show (x.1==5)=true by simpa using c5,cond_true]
     exact Za (Zab (by simp)) rfl
    ·rw [if_neg c5,show (x.1==5)=false by simpa using c5]
     rfl
   ·rw [if_neg cc,show (Zbb (Zc m st w++[x]) m.1 != 0)=true by simpa using cc]
    rfl
 ·rw [if_neg c2,show (ph != 2)=true by simpa using c2]
  rfl
theorem Zimb (h:MSt m ph tr nd st dn dg v w) (c:Zci) (hx:Zbd c.2.2.2.2.1 c.2.2.2.2.2.1 c.2.2.2.2.2.2.1 c.2.2.2.2.2.2.2 8=true):Ze fun k=>Zxp k m (ph,(tr,(nd,(st,(dn,(dg,(Zb v,Zb w))))))) c=some (Zet m ph nd st w c.2.2.2.2):=by
 have hll:=h.log
 have hlw:=Z3c w
 refine ((((Zip ph tr nd st dn dg (Zb v) h.fit).and (Zfz (Zc m st w++[c.2.2.2.2]) m.1 (by simp;omega))).and (Z6lb ((Zc m st w).length:Int) c.2.2.2.2 (by omega) hx)).and (Ze.ge 100 fun k hk=>hk)).mono fun k ⟨⟨⟨e0,e1⟩,e2⟩,hk⟩=>?_
 unfold Zxp Zet
 show (bif ph != 2 then _ else _)=_
 by_cases c2:ph=2
 ·rw [if_pos c2,show (ph != 2)=false by simpa using c2,cond_false]
  obtain ⟨q1,q2,q3,q4,q5,q6,q7,q8⟩:=h.busy (by omega)
  refine Za e0 ?_
  show (bif decide (nd≤((Zc m st w).length:Int)) then _ else _)=_
  by_cases cn:((Zc m st w).length:Int)=nd
  ·rw [if_pos cn,decide_eq_true (by omega:nd≤((Zc m st w).length:Int))]
   rfl
  ·rw [if_neg cn,decide_eq_false (by omega:¬nd≤((Zc m st w).length:Int)),cond_false]
   have ha:Zu 40 ([]:List Zk) (Zc m st w)=some (Zc m st w):=Zab (by simp;omega)
   refine Za ha (Za (Zab (by simp;omega)) (Za e1 ?_))
   by_cases cc:Zbb (Zc m st w++[c.2.2.2.2]) m.1=0
   ·rw [if_pos cc,show (Zbb (Zc m st w++[c.2.2.2.2]) m.1 != 0)=false by simpa using cc,cond_false]
    obtain ⟨a1,a2,a3⟩:=Z2t (w:=w) (n:=st+((Zc m st w).length:Int)) (by omega) (by omega)
    show Yq (at? (Zb w) (Ye .i64 (st+((Zc m st w).length:Int)))) _=_
    rw [w64 (n:=st+((Zc m st w).length:Int)) (by omega) (by omega)]
    refine Za a1 (Za (Zpv h.fit a2 a3) (Za e2 ?_))
    show (bif c.2.2.2.2.1==5 then _ else _)=_
    by_cases c5:c.2.2.2.2.1=5
    ·rw [if_pos c5,show (c.2.2.2.2.1==5)=true by simpa using c5,cond_true]
     exact Za (Zab (by simp)) rfl
    ·rw [if_neg c5,show (c.2.2.2.2.1==5)=false by simpa using c5]
     rfl
   ·rw [if_neg cc,show (Zbb (Zc m st w++[c.2.2.2.2]) m.1 != 0)=true by simpa using cc]
    rfl
 ·rw [if_neg c2,show (ph != 2)=true by simpa using c2]
  rfl
end
end Go.Proofs.Qz
namespace Go.Proofs.Qz
open Go
set_option linter.unusedVariables false
section
variable {m:Zv} {ph tr nd st dn:Int} {dg:Str} {v w:Nat}
def Z0m (m:Zv) (v:Nat):List Zzj:=Zpe m.2 1 0 0 0 0 [] v 0
def Z5r (m:Zv) (ph tr nd st dn:Int) (dg:Str) (v w:Nat):Zel:=
 if ph=2 then (if ((Zc m st w).length:Int)=nd then (if Zbb (Zc m st w) m.1=0 then
   (if Z7h (Zhe (Ztb m) (Zc m st w)).flatten=dg then (if st<Z4b (Zh (Zc m st w)) then (Z0m m v,([],([],11))) else Zoi ([Zli]++Zpe m.2 3 tr nd st dn dg v w)) else (Z0m m v,([],([],5))))
   else (Z0m m v,([],([],5)))) else (Z0m m v,([],([],4)))) else Zgf 10
theorem Zyhb (h:MSt m ph tr nd st dn dg v w):Ze fun k=>Z8n k m (ph,(tr,(nd,(st,(dn,(dg,(Zb v,Zb w))))))) (Zc m st w)=some (Z5r m ph tr nd st dn dg v w):=by
 have hf:=h.fit
 have hb:=hf.b
 have hn:=hf.n
 have hdr:=hf.dirt
 have hfl:=(Znq hf.f).1
 have hk0:=h.keep
 have hll:=h.log
 have hplan:Ze fun k=>Zbb (Zc m st w) m.1=0→Zkb k (Zc m st w)=some (Zh (Zc m st w)):=if hc:Zbb (Zc m st w) m.1=0 then (Zcs (Zc m st w) (Zvf hc).1 (Zsi hc)).mono fun k e _=>e else Ze.of fun k q=>absurd q hc
 refine (((((Zkj (m:=m) hf.f h.two (Zwo h.hv)).and (Zrx (Zc m st w) m.1 (by omega))).and hplan).and (Zkj (m:=m) hf.f h.two (a:=3) { hk0 with a:=by omega })).and (Ze.ge 1048577 fun k hk=>hk)).mono fun k ⟨⟨⟨⟨e1,e2⟩,e3⟩,e4⟩,hk⟩=>?_
 have hz:Z9j (Zc m st w)=some ((Zc m st w).length:Int):=rfl
 unfold Z8n Z5r
 refine Za (Zlx v _ _ _ _ _ _ _) (Za e1 (Za (Za2 (m:=m) ⟨by omega,hb.2⟩ (by omega) (by omega) hk) ?_))
 show (bif ph != 2 then _ else _)=_
 by_cases c2:ph=2
 ·rw [if_pos c2,show (ph != 2)=false by simpa using c2,cond_false]
  refine Za hz ?_
  show (bif ((Zc m st w).length:Int) != nd then _ else _)=_
  by_cases cn:((Zc m st w).length:Int)=nd
  ·rw [if_pos cn,show (((Zc m st w).length:Int) != nd)=false by simpa using cn,cond_false]
   refine Za e2 ?_
   by_cases cc:Zbb (Zc m st w) m.1=0
   ·rw [if_pos cc,show (Zbb (Zc m st w) m.1 != 0)=false by simpa using cc,cond_false]
    have hpl:=Z9u _ (Zvf cc).1 (Zsi cc)
    refine Za (Z08 cc h.base h.base8 (by omega)) (Za (Zuhb (Zd6 cc h.base h.img) (by omega)) ?_)
    show (bif !(Z7h (Zhe (Ztb m) (Zc m st w)).flatten==dg) then _ else _)=_
    by_cases cd:Z7h (Zhe (Ztb m) (Zc m st w)).flatten=dg
    ·rw [if_pos cd,show (Z7h (Zhe (Ztb m) (Zc m st w)).flatten==dg)=true by simpa using cd,Yc,cond_false]
     refine Za (e3 cc) (Za (Z88 _ (by omega) k (by omega)) ?_)
     show (bif decide (st<Z4b (Zh (Zc m st w))) then _ else _)=_
     by_cases cs:st<Z4b (Zh (Zc m st w))
     ·rw [if_pos cs,decide_eq_true cs]
      rfl
     ·rw [if_neg cs,decide_eq_false cs,cond_false]
      have hkl:=Zxk m.2 (Z3d (3,tr,nd,st,dn,(v:Int),(w:Int),dg))
      exact Za e4 (Za (Zab (by unfold Zpe;simp;omega)) rfl)
    ·rw [if_neg cd,show (Z7h (Zhe (Ztb m) (Zc m st w)).flatten==dg)=false by simpa using cd]
     rfl
   ·rw [if_neg cc,show (Zbb (Zc m st w) m.1 != 0)=true by simpa using cc]
    rfl
  ·rw [if_neg cn,show (((Zc m st w).length:Int) != nd)=true by simpa using cn]
   rfl
 ·rw [if_neg c2,show (ph != 2)=true by simpa using c2]
  rfl
theorem Zslb (h:MSt m ph tr nd st dn dg v w):Ze fun k=>Zwp k m (ph,(tr,(nd,(st,(dn,(dg,(Zb v,Zb w)))))))=some (Z5r m ph tr nd st dn dg v w):=by
 have hf:=h.fit
 have hb:=hf.b
 have hn:=hf.n
 have hdr:=hf.dirt
 have hfl:=(Znq hf.f).1
 have hk0:=h.keep
 have hll:=h.log
 have hplan:Ze fun k=>Zbb (Zc m st w) m.1=0→Z8i k (Zc m st w) m.1=some (Zh (Zc m st w),0)∧Zin k (Zhe (Ztb m) (Zc m st w))=some (Z7h (Zhe (Ztb m) (Zc m st w)).flatten):=if hc:Zbb (Zc m st w) m.1=0 then ((Zecb (Zc m st w) m.1 hc).and (Zplb (Zd6 hc h.base h.img))).mono fun k e _=>e else Ze.of fun k q=>absurd q hc
 refine ((((((Zuj (m:=m) hf.f h.two (Zwo h.hv)).and (Zicb (l:=Zc m st w) h.img (by omega))).and hplan).and (Zuj (m:=m) hf.f h.two (a:=3) { hk0 with a:=by omega })).and (Zip ph tr nd st dn dg (Zb v) hf)).and (Ze.ge 1048577 fun k hk=>hk)).mono fun k ⟨⟨⟨⟨⟨e1,e2⟩,e3⟩,e4⟩,e5⟩,hk⟩=>?_
 unfold Zwp Z5r
 show (bif ph != 2 then _ else _)=_
 by_cases c2:ph=2
 ·rw [if_pos c2,show (ph != 2)=false by simpa using c2,cond_false]
  refine Za e5 (Za (Zm4 (m:=m) ⟨by omega,hb.2⟩ (by omega) (by omega) hk) (Za e2 (Za (Zaz v _ _ _ _ _ _ _) (Za e1 ?_))))
  show (bif ((Zc m st w).length:Int) != nd then _ else _)=_
  by_cases cn:((Zc m st w).length:Int)=nd
  ·rw [if_pos cn,show (((Zc m st w).length:Int) != nd)=false by simpa using cn,cond_false,h.base]
   by_cases cc:Zbb (Zc m st w) m.1=0
   ·obtain ⟨e31,e32⟩:=e3 cc
    have hpl:=Z9u _ (Zvf cc).1 (Zsi cc)
    rw [if_pos cc,if_pos cc]
    show (bif ((0:Int) != 0) then _ else _)=_
    rw [show ((0:Int) != 0)=false from rfl,cond_false]
    refine Za e32 ?_
    show (bif !(Z7h (Zhe (Ztb m) (Zc m st w)).flatten==dg) then _ else _)=_
    by_cases cd:Z7h (Zhe (Ztb m) (Zc m st w)).flatten=dg
    ·rw [if_pos cd,show (Z7h (Zhe (Ztb m) (Zc m st w)).flatten==dg)=true by simpa using cd,Yc,cond_false]
     refine Za e31 (Za (Zhcb (Zh (Zc m st w)) (by omega) k (by omega)) ?_)
     show (bif decide (st<Z4b (Zh (Zc m st w))) then _ else _)=_
     by_cases cs:st<Z4b (Zh (Zc m st w))
     ·rw [if_pos cs,decide_eq_true cs]
      rfl
     ·rw [if_neg cs,decide_eq_false cs,cond_false]
      have hkl:=Zxk m.2 (Z3d (3,tr,nd,st,dn,(v:Int),(w:Int),dg))
      exact Za (Zfn v w _ _ _ _ _ _) (Za e4 (Za (Zab (by unfold Zpe;simp;omega)) rfl))
    ·rw [if_neg cd,show (Z7h (Zhe (Ztb m) (Zc m st w)).flatten==dg)=false by simpa using cd]
     rfl
   ·rw [if_neg cc,if_neg cc]
    show (bif (Zbb (Zc m st w) m.1 != 0) then _ else _)=_
    rw [show (Zbb (Zc m st w) m.1 != 0)=true by simpa using cc]
    rfl
  ·rw [if_neg cn,show (((Zc m st w).length:Int) != nd)=true by simpa using cn]
   rfl
 ·rw [if_neg c2,show (ph != 2)=true by simpa using c2]
  rfl
def Z9b (m:Zv) (st dn:Int) (w:Nat):Zqc:=(Zh (Zc m st w)).getD dn.toNat (0,(0,(0,0)))
def Z2h (m:Zv) (st dn:Int) (w:Nat):Int:=if (Z9b m st dn w).1=1 then 3+m.1+(Zb w).getD (Z9b m st dn w).2.2.2.toNat 0 else 3+(Z9b m st dn w).2.2.1
def Z5f (m:Zv) (st dn:Int) (w:Nat):Str:=if (Z9b m st dn w).1=1 then Zw m.2 (3+(Z9b m st dn w).2.2.1) else Zzg m w (Zh (Zc m st w)) dn.toNat (wAt (Zg (Zc m st w)) (Z9b m st dn w).2.1.toNat)
def Z9r (m:Zv) (ph tr nd st dn:Int) (dg:Str) (v w:Nat):Zel:=
 if ph=5 then (if dn=((Zh (Zc m st w)).length:Int) then (Z0m m v,([],([0],0)))
  else ([(false,(2,if (Z5f m st dn w).length=8 then Z2k dn (Z2h m st dn w) (Z5f m st dn w) else [])),Zli,(false,(Z2h m st dn w,Z5f m st dn w)),Zli]++Zpe m.2 ph tr nd st (dn+1) dg v w,([],([((Zh (Zc m st w)).length:Int)-(dn+1)],0)))) else Zgf 10
theorem Z4u (hS:Sound m st dn w) (hlt:dn<((Zh (Zc m st w)).length:Int)):at? (Zh (Zc m st w)) dn=some (Z9b m st dn w)∧(0≤(Z9b m st dn w).2.2.1∧(Z9b m st dn w).2.2.1<m.1) ∧
  ((Z9b m st dn w).1=1∧(at? (Zb w) (Z9b m st dn w).2.2.2=some ((Zb w).getD (Z9b m st dn w).2.2.2.toNat 0)∧0≤(Zb w).getD (Z9b m st dn w).2.2.2.toNat 0∧(Zb w).getD (Z9b m st dn w).2.2.2.toNat 0≤23) ∨
   (Z9b m st dn w).1=2∧at? (Zg (Zc m st w)) (Z9b m st dn w).2.1=some (wAt (Zg (Zc m st w)) (Z9b m st dn w).2.1.toNat)∧WriteOk (wAt (Zg (Zc m st w)) (Z9b m st dn w).2.1.toNat) m.1):=by
 have hdn:=hS.dn
 have hs:=hS.fit.s
 have hsl:=hS.slots
 obtain ⟨d,rfl⟩:∃d:Nat,dn=(d:Int):=⟨dn.toNat,by omega⟩
 have hd:d<(Zh (Zc m st w)).length:=by omega
 have hg:Z9b m st (d:Int) w=(Zh (Zc m st w))[d]:=by
  unfold Z9b
  rw [Yg]
  exact Zhx hd
 have hm:(Zh (Zc m st w))[d]? = some (Zh (Zc m st w))[d]:=List.getElem?_eq_getElem hd
 obtain ⟨j,hj,q⟩:=(Zly hS.code).form d _ hm
 have hx:=Zit hS.code _ (Yj hj)
 have hto:=hx.tgt
 refine ⟨by rw [hg];exact Zi hd,?_,?_⟩
 ·rw [hg]
  rcases q with q | q <;> rw [q] <;> (show 0≤(wAt _ j).2.1∧(wAt _ j).2.1<m.1) <;> rw [Z9f hj] <;> exact hto
 ·rw [hg]
  rcases q with q | q
  ·right
   rw [q]
   refine ⟨rfl,?_,?_⟩
   ·show at? (Zg (Zc m st w)) ((j:Nat):Int)=some (wAt (Zg (Zc m st w)) (((j:Nat):Int)).toNat)
    rw [Yg,Z9f hj]
    exact Zi hj
   ·show WriteOk (wAt (Zg (Zc m st w)) (((j:Nat):Int)).toNat) m.1
    rw [Yg,Z9f hj]
    exact hx
  ·left
   have h1:(Zh (Zc m st w))[d].1=1:=by rw [q]
   have h2:(Zh (Zc m st w))[d].2.2.2=Z4b ((Zh (Zc m st w)).take d):=by rw [q]
   have h3:=Zzcb hm h1
   have h4:=Znz ((Zh (Zc m st w)).take d)
   refine ⟨h1,?_⟩
   rw [h2]
   exact Z2t h4.1 (by omega)
theorem Zk8 (hS:Sound m st dn w) (hlt:dn<((Zh (Zc m st w)).length:Int)):0≤Z2h m st dn w∧Z2h m st dn w≤39:=by
 have hb:=hS.fit.b
 obtain ⟨_,h2,h3⟩:=Z4u hS hlt
 unfold Z2h
 rcases h3 with ⟨q,_,q1,q2⟩ | ⟨q,_⟩
 ·rw [if_pos q];omega
 ·rw [if_neg (by omega)];omega
theorem Zojb (m:Zv) (x:Zk) (hx:WriteOk x m.1) (hf:Zug m.2=true) (mv:List Zqc) (d:Nat) (hp:x.2.2.2.length≤8):(Zzg m w mv d x).length≤96:=by
 unfold Zzg Z0g
 split
 ·exact (by decide:Zu5.length≤96)
 ·split
  ·omega
  ·split
   ·unfold Z4n
    split
    ·split
     ·exact Zql hf _
     ·exact Zql hf _
    ·simp
   ·unfold Znr
    split
    ·rw [Z1db];omega
    ·simp
theorem Znfb {l:List Zk} {n:Int} (h:Zbb l n=0):∀x∈Zg l,x.2.2.2.length≤8:=by
 intro x hx
 unfold Zg at hx
 have hs:=(Zvf h).2.2.2.1 x (Yt.1 hx).1
 exact Zpz hs
theorem Zl8 (hS:Sound m st dn w) (hlt:dn<((Zh (Zc m st w)).length:Int)):(Z5f m st dn w).length≤96:=by
 obtain ⟨_,h2,h3⟩:=Z4u hS hlt
 unfold Z5f
 rcases h3 with ⟨q,_⟩ | ⟨q,q1,q2⟩
 ·rw [if_pos q]
  exact Zql hS.fit.f _
 ·rw [if_neg (by omega)]
  refine Zojb m _ q2 hS.fit.f _ _ (Znfb hS.code _ ?_)
  have:=(Z4u hS hlt).2.1
  by_cases hi:(Z9b m st dn w).2.1.toNat<(Zg (Zc m st w)).length
  ·rw [Z9f hi]
   exact Yj hi
  ·exfalso
   have hn:at? (Zg (Zc m st w)) (Z9b m st dn w).2.1=none:=by
    unfold at?
    split
    ·exact List.getElem?_eq_none (by omega)
    ·rfl
   rw [hn] at q1
   cases q1
theorem Zzhb (h:MSt m ph tr nd st dn dg v w):Ze fun k=>Zsc k m (ph,(tr,(nd,(st,(dn,(dg,(Zb v,Zb w))))))) (Zc m st w)=some (Z9r m ph tr nd st dn dg v w):=by
 have hf:=h.fit
 have hb:=hf.b
 have hn:=hf.n
 have hdr:=hf.dirt
 have hk0:=h.keep
 have hll:=h.log
 unfold Z9r
 by_cases c5:ph=5
 ·have hS:=h.snd (by omega)
  have hdn:=hS.dn
  have hpl:=hS.plan
  have hz:Zvk (Zh (Zc m st w))=some ((Zh (Zc m st w)).length:Int):=rfl
  rw [if_pos c5]
  by_cases ce:dn=((Zh (Zc m st w)).length:Int)
  ·rw [if_pos ce]
   refine ((Zkj (m:=m) hf.f h.two (Zwo h.hv)).and (Zcs _ (Zvf hS.code).1 (Zsi hS.code))).mono fun k ⟨e1,e2⟩=>?_
   unfold Zsc
   show (bif ph != 5 then _ else _)=_
   rw [show (ph != 5)=false by simpa using c5,cond_false]
   refine Za e2 (Za hz ?_)
   show (bif (Ye .i64 (((Zh (Zc m st w)).length:Int)-dn))==0 then _ else _)=_
   rw [w64 (n:=((Zh (Zc m st w)).length:Int)-dn) (by omega) (by omega),show (((Zh (Zc m st w)).length:Int)-dn==0)=true by rw [ce];simp,cond_true]
   exact Za (Zlx v _ _ _ _ _ _ _) (Za e1 rfl)
  ·have hlt:dn<((Zh (Zc m st w)).length:Int):=by omega
   obtain ⟨m1,m2,m3⟩:=Z4u hS hlt
   have hat:=Zk8 hS hlt
   have hdl:=Zl8 hS hlt
   rw [if_neg ce]
   refine ((((Zkj (m:=m) hf.f h.two (a:=ph) (e:=dn+1) { hk0 with e:=by omega }).and (Zcs _ (Zvf hS.code).1 (Zsi hS.code))).and (Z8hb dn (Z2h m st dn w) (Z5f m st dn w) (by constructor <;> omega) (by constructor <;> omega) (by omega))).and (Ze.ge 1048577 fun k hk=>hk)).mono fun k ⟨⟨⟨e1,e2⟩,e3⟩,hk⟩=>?_
   have hj0:Zsc.j0 k (Zc m st w) (3+(Z9b m st dn w).2.2.1) m.1 m.2.1 m.2.2 ph tr nd st dn dg (Zb v) (Zb w) (Z9b m st dn w).1 (Z9b m st dn w).2.1 (Z9b m st dn w).2.2.1 (Z9b m st dn w).2.2.2 (Zh (Zc m st w))=some (Z2h m st dn w,(Z5f m st dn w,(m.1,(m.2.1,(m.2.2,(ph,(tr,(nd,(st,(dn,(dg,(Zb v,(Zb w,(Z9b m st dn w)))))))))))))):=by
    unfold Zsc.j0 Z2h Z5f
    dsimp only
    rcases m3 with ⟨q,q1,q2,q3⟩ | ⟨q,q1,q2⟩
    ·rw [if_pos q,if_pos q,show ((Z9b m st dn w).1==1)=true by simpa using q,cond_true]
     exact Za q1 (Za (Zix hf q2 q3) (Za (Z6n m.2 _ hdr (by omega) (by omega) (by omega)) rfl))
    ·rw [if_neg (by omega),if_neg (by omega),show ((Z9b m st dn w).1==1)=false by rw [q];rfl,cond_false]
     exact Za (Zsx _ (by omega) k (by omega)) (Za q1 (Za (Z58 hS ph tr nd dg (Zb v) q2 hk) rfl))
   have hj1:Zsc.j1 k (Z2h m st dn w) (Z5f m st dn w) [] ph tr nd st dn dg (Zb v) (Zb w)=some (if (Z5f m st dn w).length=8 then Z2k dn (Z2h m st dn w) (Z5f m st dn w) else [],(ph,(tr,(nd,(st,(dn,(dg,(Zb v,Zb w)))))))):=by
    unfold Zsc.j1
    by_cases c8:(Z5f m st dn w).length=8
    ·rw [if_pos c8,show (((Z5f m st dn w).length:Int)==8)=true by rw [c8];rfl,cond_true]
     exact Za e3 rfl
    ·rw [if_neg c8,show (((Z5f m st dn w).length:Int)==8)=false by simp;omega]
     rfl
   unfold Zsc
   show (bif ph != 5 then _ else _)=_
   rw [show (ph != 5)=false by simpa using c5,cond_false]
   refine Za e2 (Za hz ?_)
   show (bif (Ye .i64 (((Zh (Zc m st w)).length:Int)-dn))==0 then _ else _)=_
   rw [w64 (n:=((Zh (Zc m st w)).length:Int)-dn) (by omega) (by omega),show (((Zh (Zc m st w)).length:Int)-dn==0)=false by simp;omega,cond_false]
   refine Za m1 (Za m1 ?_)
   rw [w64 (n:=3+(Z9b m st dn w).2.2.1) (by omega) (by omega)]
   refine Za hj0 (Za hj1 ?_)
   show Yq (Z8d k m (ph,(tr,(nd,(st,(Ye .i64 (dn+1),(dg,(Zb v,Zb w)))))))) _=_
   rw [w64 (n:=dn+1) (by omega) (by omega)]
   have hkl:=Zxk m.2 (Z3d (ph,tr,nd,st,dn+1,(v:Int),(w:Int),dg))
   refine Za e1 (Za (Zab (by unfold Zpe;simp;omega)) ?_)
   rw [w64 (n:=((Zh (Zc m st w)).length:Int)-dn-1) (by omega) (by omega),show ((Zh (Zc m st w)).length:Int)-dn-1=((Zh (Zc m st w)).length:Int)-(dn+1) by omega]
   rfl
 ·rw [if_neg c5]
  refine Ze.of fun k=>?_
  unfold Zsc
  show (bif ph != 5 then _ else _)=_
  rw [show (ph != 5)=true by simpa using c5]
  rfl
theorem Zulb (h:MSt m ph tr nd st dn dg v w):Ze fun k=>Z2f k m (ph,(tr,(nd,(st,(dn,(dg,(Zb v,Zb w)))))))=some (Z9r m ph tr nd st dn dg v w):=by
 have hf:=h.fit
 have hb:=hf.b
 have hn:=hf.n
 have hdr:=hf.dirt
 have hk0:=h.keep
 have hll:=h.log
 unfold Z9r
 by_cases c5:ph=5
 ·have hS:=h.snd (by omega)
  have hdn:=hS.dn
  have hpl:=hS.plan
  rw [if_pos c5]
  by_cases ce:dn=((Zh (Zc m st w)).length:Int)
  ·rw [if_pos ce]
   refine ((Zuj (m:=m) hf.f h.two (Zwo h.hv)).and (Zcz h (by omega))).mono fun k ⟨e1,e2⟩=>?_
   unfold Z2f
   show (bif ph != 5 then _ else _)=_
   rw [show (ph != 5)=false by simpa using c5,cond_false]
   refine Za e2 ?_
   show (bif decide (((Zh (Zc m st w)).length:Int)≤dn) then _ else _)=_
   rw [decide_eq_true (by omega:((Zh (Zc m st w)).length:Int)≤dn),cond_true]
   exact Za (Zaz v _ _ _ _ _ _ _) (Za e1 rfl)
  ·have hlt:dn<((Zh (Zc m st w)).length:Int):=by omega
   obtain ⟨m1,m2,m3⟩:=Z4u hS hlt
   have hat:=Zk8 hS hlt
   have hdl:=Zl8 hS hlt
   rw [if_neg ce]
   refine (((((Zuj (m:=m) hf.f h.two (a:=ph) (e:=dn+1) { hk0 with e:=by omega }).and (Zcz h (by omega))).and (Zccb dn (Z2h m st dn w) (Z5f m st dn w) (by constructor <;> omega) (by constructor <;> omega) (by omega))).and (Zip ph tr nd st dn dg (Zb v) hf)).and (Ze.ge 1048577 fun k hk=>hk)).mono fun k ⟨⟨⟨⟨e1,e2⟩,e3⟩,e4⟩,hk⟩=>?_
   have hj0:Z2f.j0 k m.1 m.2.1 m.2.2 ph tr nd st dn dg (Zb v) (Zb w) (3+(Z9b m st dn w).2.2.1) (Zw m.2 (3+(Z9b m st dn w).2.2.1)) (Z9b m st dn w).1 (Z9b m st dn w).2.1 (Z9b m st dn w).2.2.1 (Z9b m st dn w).2.2.2 (Zh (Zc m st w))=some (Z2h m st dn w,(Z5f m st dn w,Z9b m st dn w)):=by
    unfold Z2f.j0 Z2h Z5f
    dsimp only
    rcases m3 with ⟨q,q1,q2,q3⟩ | ⟨q,q1,q2⟩
    ·rw [if_pos q,if_pos q,show ((Z9b m st dn w).1==1)=true by simpa using q,cond_true]
     exact Za q1 (Za (Zpv hf q2 q3) rfl)
    ·rw [if_neg (by omega),if_neg (by omega),show ((Z9b m st dn w).1==1)=false by rw [q];rfl,cond_false]
     exact Za e4 (Za (Zx4 _ (by omega) k (by omega)) (Za q1 (Za q1 (Za (Z9bb hS ph tr nd dg (Zb v) q2 hk) rfl))))
   have hB:(if Z5l dn (Z2h m st dn w) (Z5f m st dn w)=true then Z2k dn (Z2h m st dn w) (Z5f m st dn w) else [])=if (Z5f m st dn w).length=8 then Z2k dn (Z2h m st dn w) (Z5f m st dn w) else []:=by
    by_cases c8:(Z5f m st dn w).length=8
    ·rw [if_pos c8,if_pos (Zfy.2 ⟨⟨by omega,by omega⟩,hat,c8⟩)]
    ·rw [if_neg c8,if_neg (fun q=>c8 (Zfy.1 q).2.2)]
   rw [hB] at e3
   unfold Z2f
   show (bif ph != 5 then _ else _)=_
   rw [show (ph != 5)=false by simpa using c5,cond_false]
   refine Za e2 ?_
   show (bif decide (((Zh (Zc m st w)).length:Int)≤dn) then _ else _)=_
   rw [decide_eq_false (by omega:¬((Zh (Zc m st w)).length:Int)≤dn),cond_false]
   refine Za m1 (Za m1 ?_)
   dsimp only
   rw [w64 (n:=3+(Z9b m st dn w).2.2.1) (by omega) (by omega)]
   refine Za (Zgn m.2 _ hdr (by omega) (by omega) (by omega)) (Za hj0 (Za (Zfn v w _ _ _ _ _ _) (Za e3 ?_)))
   rw [w64 (n:=dn+1) (by omega) (by omega)]
   have hkl:=Zxk m.2 (Z3d (ph,tr,nd,st,dn+1,(v:Int),(w:Int),dg))
   refine Za e1 (Za (Zab (by unfold Zpe;simp;omega)) ?_)
   rw [w64 (n:=((Zh (Zc m st w)).length:Int)-(dn+1)) (by omega) (by omega)]
   rfl
 ·rw [if_neg c5]
  refine Ze.of fun k=>?_
  unfold Z2f
  show (bif ph != 5 then _ else _)=_
  rw [show (ph != 5)=true by simpa using c5]
  rfl
end
end Go.Proofs.Qz
namespace Go.Proofs.Qz
open Go
set_option linter.unusedVariables false
def Zbs (m:Zv) (ph tr nd st dn:Int) (dg:Str) (v w:Nat) (a:Int):Zel:=match Z1g (Zub v w) a with
 | some l=>Zoi (Zpe m.2 ph tr nd st dn dg (v ||| Zdg l) w)
 | none=>Zgf 11
def Z84 (m:Zv) (ph tr nd st dn:Int) (v w:Nat):List Int:=[ph,tr,((Zc m st w).length:Int),Zxg (Zc m st w),(if ph=5 then ((Zh (Zc m st w)).length:Int)-dn else 0),((Zb (Zub v w)).length:Int)]
def Zpr (m:Zv) (c:Zci) (ph tr nd st dn:Int) (dg:Str) (v w:Nat):Zel:=
 if c.1=1 then Zsr m ph v c.2.1 c.2.2.1 c.2.2.2.1
 else if c.1=2 then Zet m ph nd st w c.2.2.2.2
 else if c.1=3 then Z5r m ph tr nd st dn dg v w
 else if c.1=4 then (if ph=1∨ph=5 then Zgf 10 else Zoi (Z0m m v))
 else if c.1=5 then (if ph=4 then Zoi ([(false,(2,[])),Zli]++Zpe m.2 5 0 nd st dn dg v w) else Zgf 10)
 else if c.1=6 then Z9r m ph tr nd st dn dg v w
 else if c.1=7 then (if m.1≤c.2.1 then Zgf 8 else ([],((Zdl m ph st dn w).getD c.2.1.toNat [],([],0))))
 else if c.1=8 then ([],([],(Z84 m ph tr nd st dn v w,0)))
 else if c.1=9 then Zbs m ph tr nd st dn dg v w c.2.1
 else if c.1=10 then Zoi (Zpe m.2 ph tr nd st dn dg 0 w)
 else Zoi (Zdq m ph tr nd st dn dg v w)
structure CmdOk (c:Zci):Prop where
 r:1≤c.1∧c.1≤11
 k1:c.1=1→(1≤c.2.1∧c.2.1≤20)∧(0≤c.2.2.1∧c.2.2.1≤4)∧c.2.2.2.1.length≤32
 k2:c.1=2→Zbd c.2.2.2.2.1 c.2.2.2.2.2.1 c.2.2.2.2.2.2.1 c.2.2.2.2.2.2.2 8=true
 k7:c.1=7→0≤c.2.1
 k9:c.1=9→1≤c.2.1∧c.2.1≤24
theorem Zifb {c:Zci} (h:Zzn c=true):CmdOk c:=by
 unfold Zzn at h
 split at h
 ·rename_i q
  simp only [Yd,decide_eq_true_eq] at h
  exact ⟨by omega,fun _=>⟨by omega,by omega,by omega⟩,by omega,by omega,by omega⟩
 ·split at h
  ·rename_i q
   simp only [Yd,decide_eq_true_eq] at h
   exact ⟨by omega,by omega,fun _=>h.2,by omega,by omega⟩
  ·split at h
   ·rename_i q
    simp only [Yd,decide_eq_true_eq] at h
    exact ⟨by omega,by omega,by omega,by omega,fun _=>by omega⟩
   ·split at h
    ·rename_i q
     simp only [Yd,decide_eq_true_eq] at h
     exact ⟨by omega,by omega,by omega,fun _=>by omega,by omega⟩
    ·simp only [Yd,decide_eq_true_eq] at h
     exact ⟨by omega,by omega,by omega,by omega,by omega⟩
section
variable {m:Zv} {ph tr nd st dn:Int} {dg:Str} {v w:Nat}
theorem Zz8 (h:MSt m ph tr nd st dn dg v w) {n:Int} (h1:1≤n) {l:List Int} (hr:Z1g (Zub v w) n=some l):Zdg l<16777216∧l=Zb (Zdg l)∧v &&& Zdg l=0∧(v ||| Zdg l)<16777216:=by
 obtain ⟨⟨u,u1,u2,u3⟩,_⟩:=Zibb (Zgx h.hv h.hw) h1 hr
 have e:Zdg l=u:=by rw [u2];exact Zx6 u1
 rw [e]
 refine ⟨u1,u2,Zleb (fun i hi q=>?_) h.hv,?_⟩
 ·have:=u3 i q.2
  rw [Z11 hi,q.1] at this
  cases this
 ·have:v ||| u<2^24:=Y8 (by simpa using h.hv) (by simpa using u1)
  simpa using this
theorem Zihb (hs:stM m=some (ph,(tr,(nd,(st,(dn,(dg,(v,w)))))))) (h:MSt m ph tr nd st dn dg v w) {c:Zci} (hc:CmdOk c):Ze fun k=>Zwc k m c=some (if (Zmb m.2).1=1000000 then Zgf 9 else Zpr m c ph tr nd st dn dg v w):=by
 have hf:=h.fit
 have hb:=hf.b
 have hn:=hf.n
 have hdr:=hf.dirt
 have hl:m.2.1.length≤1048576:=by omega
 have hk0:=h.keep
 have hll:=h.log
 have hlv:=Z3c v
 have hlw:=Z3c w
 have pre0:Ze fun k=>Zah k m=some (Z1q (some (ph,tr,nd,st,dn,dg,v,w))):=by rw [← hs];exact Zpx m hl (by omega)
 have pre:=(pre0.and (Zg2 hf.f h.two)).and (Zou ph tr nd st dn dg (Zb v) hf)
 by_cases cg:(Zmb m.2).1=1000000
 ·rw [if_pos cg]
  refine pre.mono fun k ⟨⟨p1,p2⟩,p3⟩=>?_
  unfold Zwc
  refine Za p1 (Za p2 ?_)
  rw [show ((Zmb m.2).1==1000000)=true by simpa using cg]
  rfl
 ·rw [if_neg cg]
  have hg:((Zmb m.2).1==1000000)=false:=by simpa using cg
  obtain ⟨o,a,b,t,s⟩:=c
  have hr:=hc.r
  dsimp only at hr
  have ho:o=1∨o=2∨o=3∨o=4∨o=5∨o=6∨o=7∨o=8∨o=9∨o=10∨o=11:=by omega
  rcases ho with rfl | rfl | rfl | rfl | rfl | rfl | rfl | rfl | rfl | rfl | rfl
  ·obtain ⟨q1,q2,q3⟩:=hc.k1 rfl
   refine (pre.and (Zkhb h (1,(a,(b,(t,s)))) q1 q2 q3)).mono fun k ⟨⟨⟨p1,p2⟩,p3⟩,e⟩=>?_
   unfold Zwc
   refine Za p1 (Za p2 ?_)
   rw [hg,cond_false]
   exact Za p3 (Za e rfl)
  ·refine (pre.and (Zrib h s (hc.k2 rfl))).mono fun k ⟨⟨⟨p1,p2⟩,p3⟩,e⟩=>?_
   unfold Zwc
   refine Za p1 (Za p2 ?_)
   rw [hg,cond_false]
   exact Za p3 (Za e rfl)
  ·refine (pre.and (Zyhb h)).mono fun k ⟨⟨⟨p1,p2⟩,p3⟩,e⟩=>?_
   unfold Zwc
   refine Za p1 (Za p2 ?_)
   rw [hg,cond_false]
   exact Za p3 (Za e rfl)
  ·refine (pre.and (Zkj (m:=m) hf.f h.two (Zwo h.hv))).mono fun k ⟨⟨⟨p1,p2⟩,p3⟩,e⟩=>?_
   unfold Zwc
   refine Za p1 (Za p2 ?_)
   rw [hg,cond_false]
   refine Za p3 ?_
   show (bif (ph==1)||(ph==5) then _ else _)=some (if ph=1∨ph=5 then Zgf 10 else Zoi (Z0m m v))
   by_cases q:ph=1∨ph=5
   ·rw [if_pos q,show ((ph==1)||(ph==5))=true by rcases q with q | q <;> rw [q] <;> rfl]
    rfl
   ·rw [if_neg q,show ((ph==1)||(ph==5))=false by
     rw [Y1]
     exact ⟨by simp;omega,by simp;omega⟩,cond_false]
    exact Za (Zlx v _ _ _ _ _ _ _) (Za e rfl)
  ·refine (pre.and (Zkj (m:=m) hf.f h.two (a:=5) (b:=0) { hk0 with a:=by omega,b:=by omega })).mono fun k ⟨⟨⟨p1,p2⟩,p3⟩,e⟩=>?_
   unfold Zwc
   refine Za p1 (Za p2 ?_)
   rw [hg,cond_false]
   refine Za p3 ?_
   show (bif ph != 4 then _ else _)=some (if ph=4 then Zoi ([(false,(2,[])),Zli]++Zpe m.2 5 0 nd st dn dg v w) else Zgf 10)
   by_cases q:ph=4
   ·rw [if_pos q,show (ph != 4)=false by simpa using q,cond_false]
    have hkl:=Zxk m.2 (Z3d (5,0,nd,st,dn,(v:Int),(w:Int),dg))
    exact Za e (Za (Zab (by unfold Zpe;simp;omega)) rfl)
   ·rw [if_neg q,show (ph != 4)=true by simpa using q]
    rfl
  ·refine (pre.and (Zzhb h)).mono fun k ⟨⟨⟨p1,p2⟩,p3⟩,e⟩=>?_
   unfold Zwc
   refine Za p1 (Za p2 ?_)
   rw [hg,cond_false]
   exact Za p3 (Za e rfl)
  ·refine (pre.and (Zwib hs h)).mono fun k ⟨⟨⟨p1,p2⟩,p3⟩,e⟩=>?_
   have h7:=hc.k7 rfl
   dsimp only at h7
   have hvl:=Zvdb h
   unfold Zwc
   refine Za p1 (Za p2 ?_)
   rw [hg,cond_false]
   refine Za p3 ?_
   show (bif decide (m.1≤a) then _ else _)=some (if m.1≤a then Zgf 8 else ([],((Zdl m ph st dn w).getD a.toNat [],([],0))))
   by_cases q:m.1≤a
   ·rw [if_pos q,decide_eq_true q]
    rfl
   ·rw [if_neg q,decide_eq_false q,cond_false]
    have hat:=Ztn (l:=Zdl m ph st dn w) (n:=a) h7 (by omega)
    exact Za e (Za hat (Za hat rfl))
  ·have hmv:Ze fun k=>ph=5→Z1m k m (ph,(tr,(nd,(st,(dn,(dg,(Zb v,Zb w)))))))=some (Zh (Zc m st w)):=if h5:ph=5 then (Z6hb h (by omega)).mono fun k e _=>e else Ze.of fun k q=>absurd q h5
   refine ((pre.and hmv).and (Ze.ge 100 fun k hk=>hk)).mono fun k ⟨⟨⟨⟨p1,p2⟩,p3⟩,e⟩,hk⟩=>?_
   have hcount:=Zlfb h.apart
   have hj:Zwc.j0 k m.1 m.2.1 m.2.2 0 ph tr nd st dn dg (Zb v) (Zb w)=some ((if ph=5 then ((Zh (Zc m st w)).length:Int)-dn else 0),(ph,(tr,(nd,(st,(dn,(dg,(Zb v,Zb w)))))))):=by
    unfold Zwc.j0
    by_cases h5:ph=5
    ·have hS:=h.snd (by omega)
     have hpl:=hS.plan
     have hdn:=hS.dn
     rw [if_pos h5,show (ph==5)=true by simpa using h5,cond_true]
     refine Za (e h5) (Za (a:=((Zh (Zc m st w)).length:Int)) rfl ?_)
     rw [w64 (n:=((Zh (Zc m st w)).length:Int)-dn) (by omega) (by omega)]
    ·rw [if_neg h5,show (ph==5)=false by simpa using h5]
     rfl
   unfold Zwc
   refine Za p1 (Za p2 ?_)
   rw [hg,cond_false]
   refine Za p3 (Za hj (Za (a:=((Zc m st w).length:Int)) rfl (Za (Z48 _ hll.2.1 (by omega)) (Za (a:=((Zb v).length:Int)) rfl (Za (a:=((Zb w).length:Int)) rfl ?_)))))
   rw [w64 (n:=24-((Zb v).length:Int)) (by omega) (by omega),w64 (n:=24-((Zb v).length:Int)-((Zb w).length:Int)) (by omega) (by omega),show 24-((Zb v).length:Int)-((Zb w).length:Int)=((Zb (Zub v w)).length:Int) by omega]
   rfl
  ·obtain ⟨q1,q2⟩:=hc.k9 rfl
   dsimp only at q1 q2
   obtain ⟨n,rfl⟩:∃n:Nat,a=(n:Int):=⟨a.toNat,by omega⟩
   have hres:∀k,200≤k→Zyb k (Zb v) (Zb w) (n:Int)=some (match Z1g (Zub v w) (n:Int) with
    | some l=>(l,true)
    | none=>([],false)):=fun k hk=>Z78 v w n h.hv h.hw (by omega) hk
   have goalE:Zpr m (9,((n:Int),(b,(t,s)))) ph tr nd st dn dg v w=Zbs m ph tr nd st dn dg v w (n:Int):=rfl
   rw [goalE]
   unfold Zbs
   cases hq:Z1g (Zub v w) (n:Int) with
   | none=>
    refine (pre.and (Ze.ge 200 fun k hk=>hk)).mono fun k ⟨⟨⟨p1,p2⟩,p3⟩,hk⟩=>?_
    have hr2:=hres k hk
    rw [hq] at hr2
    unfold Zwc
    refine Za p1 (Za p2 ?_)
    rw [hg,cond_false]
    exact Za p3 (Za hr2 rfl)
   | some l=>
    obtain ⟨u1,u2,u3,u4⟩:=Zz8 h (by omega) hq
    refine ((pre.and (Zkj (m:=m) hf.f h.two (v:=v ||| Zdg l) { hk0 with v:=u4 })).and (Ze.ge 200 fun k hk=>hk)).mono fun k ⟨⟨⟨⟨p1,p2⟩,p3⟩,e⟩,hk⟩=>?_
    have hr2:=hres k hk
    rw [hq] at hr2
    unfold Zwc
    refine Za p1 (Za p2 ?_)
    rw [hg,cond_false]
    refine Za p3 (Za hr2 ?_)
    show Yq (Zic k (Zb v)) _=_
    have hbl:Zic k l=some ((Zdg l:Nat):Int):=by
     have:=Z5n (Zdg l) u1 k (by omega)
     rw [← u2] at this
     exact this
    refine Za (Z5n v h.hv k (by omega)) (Za hbl ?_)
    have hv2:=h.hv
    rw [ori v (Zdg l) (by omega) (by omega)]
    exact Za (Zjx _ u4 k (by omega)) (Za e rfl)
  ·refine (pre.and (Zkj (m:=m) hf.f h.two (v:=0) { hk0 with v:=by omega })).mono fun k ⟨⟨⟨p1,p2⟩,p3⟩,e⟩=>?_
   rw [Z9p] at e
   unfold Zwc
   refine Za p1 (Za p2 ?_)
   rw [hg,cond_false]
   exact Za p3 (Za e rfl)
  ·refine (pre.and (Zphb h)).mono fun k ⟨⟨⟨p1,p2⟩,p3⟩,e⟩=>?_
   unfold Zwc
   refine Za p1 (Za p2 ?_)
   rw [hg,cond_false]
   exact Za p3 (Za e rfl)
theorem Zdlb (h:MSt m ph tr nd st dn dg v w) {c:Zci} (hc:CmdOk c):Ze fun k=>Z2g k m (ph,(tr,(nd,(st,(dn,(dg,(Zb v,Zb w))))))) c=some (Zpr m c ph tr nd st dn dg v w):=by
 have hf:=h.fit
 have hb:=hf.b
 have hn:=hf.n
 have hdr:=hf.dirt
 have hk0:=h.keep
 have hll:=h.log
 have hlv:=Z3c v
 have hlw:=Z3c w
 have hcp:=Zfn v w ph tr nd st dn dg
 obtain ⟨o,a,b,t,s⟩:=c
 have hr:=hc.r
 dsimp only at hr
 have ho:o=1∨o=2∨o=3∨o=4∨o=5∨o=6∨o=7∨o=8∨o=9∨o=10∨o=11:=by omega
 rcases ho with rfl | rfl | rfl | rfl | rfl | rfl | rfl | rfl | rfl | rfl | rfl
 ·obtain ⟨q1,q2,q3⟩:=hc.k1 rfl
  refine (Zglb h (1,(a,(b,(t,s)))) q1 q2 q3).mono fun k e=>?_
  unfold Z2g
  exact Za hcp (Za e rfl)
 ·refine (Zimb h (2,(a,(b,(t,s)))) (hc.k2 rfl)).mono fun k e=>?_
  unfold Z2g
  exact Za hcp (Za e rfl)
 ·refine (Zslb h).mono fun k e=>?_
  unfold Z2g
  exact Za hcp (Za e rfl)
 ·refine (Zuj (m:=m) hf.f h.two (Zwo h.hv)).mono fun k e=>?_
  unfold Z2g
  refine Za hcp ?_
  show (bif (ph==1)||(ph==5) then _ else _)=some (if ph=1∨ph=5 then Zgf 10 else Zoi (Z0m m v))
  by_cases q:ph=1∨ph=5
  ·rw [if_pos q,show ((ph==1)||(ph==5))=true by rcases q with q | q <;> rw [q] <;> rfl]
   rfl
  ·rw [if_neg q,show ((ph==1)||(ph==5))=false by
    rw [Y1]
    exact ⟨by simp;omega,by simp;omega⟩,cond_false]
   exact Za (Zaz v _ _ _ _ _ _ _) (Za e rfl)
 ·refine (Zuj (m:=m) hf.f h.two (a:=5) (b:=0) { hk0 with a:=by omega,b:=by omega }).mono fun k e=>?_
  unfold Z2g
  refine Za hcp ?_
  show (bif ph != 4 then _ else _)=some (if ph=4 then Zoi ([(false,(2,[])),Zli]++Zpe m.2 5 0 nd st dn dg v w) else Zgf 10)
  by_cases q:ph=4
  ·rw [if_pos q,show (ph != 4)=false by simpa using q,cond_false]
   have hkl:=Zxk m.2 (Z3d (5,0,nd,st,dn,(v:Int),(w:Int),dg))
   exact Za e (Za (Zab (by unfold Zpe;simp;omega)) rfl)
  ·rw [if_neg q,show (ph != 4)=true by simpa using q]
   rfl
 ·refine (Zulb h).mono fun k e=>?_
  unfold Z2g
  exact Za hcp (Za e rfl)
 ·refine (Zlmb h).mono fun k e=>?_
  have h7:=hc.k7 rfl
  dsimp only at h7
  have hvl:=Zvdb h
  unfold Z2g
  refine Za hcp ?_
  show (bif decide (m.1≤a) then _ else _)=some (if m.1≤a then Zgf 8 else ([],((Zdl m ph st dn w).getD a.toNat [],([],0))))
  by_cases q:m.1≤a
  ·rw [if_pos q,decide_eq_true q]
   rfl
  ·rw [if_neg q,decide_eq_false q,cond_false]
   have hat:=Ztn (l:=Zdl m ph st dn w) (n:=a) h7 (by omega)
   exact Za e (Za hat (Za hat rfl))
 ·have hmv:Ze fun k=>ph=5→Zbj k m (ph,(tr,(nd,(st,(dn,(dg,(Zb v,Zb w)))))))=some (Zh (Zc m st w)):=if h5:ph=5 then (Zcz h (by omega)).mono fun k e _=>e else Ze.of fun k q=>absurd q h5
  refine (((Zip ph tr nd st dn dg (Zb v) hf).and hmv).and (Ze.ge 200 fun k hk=>hk)).mono fun k ⟨⟨p3,e⟩,hk⟩=>?_
  have hj:Zog.j0 k m.1 m.2.1 m.2.2 ph tr nd st dn dg (Zb v) (Zb w) 0=some (if ph=5 then ((Zh (Zc m st w)).length:Int)-dn else 0):=by
   unfold Zog.j0
   by_cases h5:ph=5
   ·have hS:=h.snd (by omega)
    have hpl:=hS.plan
    have hdn:=hS.dn
    rw [if_pos h5,show (ph==5)=true by simpa using h5,cond_true]
    refine Za (e h5) ?_
    rw [w64 (n:=((Zh (Zc m st w)).length:Int)-dn) (by omega) (by omega)]
   ·rw [if_neg h5,show (ph==5)=false by simpa using h5]
    rfl
  unfold Z2g
  refine Za hcp (Za (a:=([],([],(Z84 m ph tr nd st dn v w,0)))) ?_ rfl)
  unfold Zog
  exact Za p3 (Za hj (Za (Z7bb _ hll.2.1 (by omega)) (Za (Z5bb v w (by omega)) rfl)))
 ·obtain ⟨q1,q2⟩:=hc.k9 rfl
  dsimp only at q1 q2
  obtain ⟨n,rfl⟩:∃n:Nat,a=(n:Int):=⟨a.toNat,by omega⟩
  have hres:∀k,200≤k→Z0c k (Zb v) (Zb w) (n:Int)=some (Zhy (Z1g (Zub v w) (n:Int)) 11):=fun k hk=>Zgcb v w n h.hv h.hw (by omega) hk
  have goalE:Zpr m (9,((n:Int),(b,(t,s)))) ph tr nd st dn dg v w=Zbs m ph tr nd st dn dg v w (n:Int):=rfl
  rw [goalE]
  unfold Zbs
  cases hq:Z1g (Zub v w) (n:Int) with
  | none=>
   refine (Ze.ge 200 fun k hk=>hk).mono fun k hk=>?_
   have hr2:=hres k hk
   rw [hq] at hr2
   unfold Z2g
   exact Za hcp (Za hr2 rfl)
  | some l=>
   obtain ⟨u1,u2,u3,u4⟩:=Zz8 h (by omega) hq
   refine ((Zuj (m:=m) hf.f h.two (v:=v ||| Zdg l) { hk0 with v:=u4 }).and (Ze.ge 200 fun k hk=>hk)).mono fun k ⟨e,hk⟩=>?_
   have hr2:=hres k hk
   rw [hq] at hr2
   unfold Z2g
   refine Za hcp (Za hr2 ?_)
   have hbl:Zod k l=some ((Zdg l:Nat):Int):=by
    have:=Z7y (Zdg l) u1 k (by omega)
    rw [← u2] at this
    exact this
   have hv2:=h.hv
   refine Za (Z7y v h.hv k (by omega)) (Za hbl ?_)
   rw [w64 (n:=((v:Nat):Int)+((Zdg l:Nat):Int)) (by omega) (by omega),show ((v:Nat):Int)+((Zdg l:Nat):Int)=((v ||| Zdg l:Nat):Int) by rw [← Zheb h.hv u1 u3];omega]
   exact Za (Z6bb _ u4 k (by omega)) (Za e rfl)
 ·refine (Zuj (m:=m) hf.f h.two (v:=0) { hk0 with v:=by omega }).mono fun k e=>?_
  rw [Z9p] at e
  unfold Z2g
  exact Za hcp (Za e rfl)
 ·refine (Zklb h).mono fun k e=>?_
  unfold Z2g
  exact Za hcp (Za e rfl)
end
def Zqr (m:Zv) (c:Zci):Zel:=if Z9m m=true∧Zzn c=true then (if (Zmb m.2).1=1000000 then Zgf 9 else match stM m with
 | some (ph,tr,nd,st,dn,dg,v,w)=>Zpr m c ph tr nd st dn dg v w
 | none=>Zgf 1) else Zgf 1
theorem Z1eb (m:Zv) (c:Zci) (hl:m.2.1.length≤1048576) (hl2:m.2.2.length≤1048576):(Ze fun k=>Zuk k m c=some (Zqr m c))∧Ze fun k=>Zdm k m c=some (Zqr m c):=by
 unfold Zqr
 cases hm:Z9m m with
 | false=>
  rw [if_neg (fun q=>by cases q.1)]
  constructor
  ·refine (Ze2 m hl hl2).mono fun k e=>?_
   rw [hm] at e
   unfold Zuk
   exact Za e rfl
  ·refine (Zq4 m hl hl2).mono fun k e=>?_
   rw [hm] at e
   unfold Zdm Zhm
   exact Za (Za e rfl) rfl
 | true=>
  cases hc:Zzn c with
  | false=>
   rw [if_neg (fun q=>by cases q.2)]
   constructor
   ·refine (Ze2 m hl hl2).mono fun k e=>?_
    rw [hm] at e
    have ec:=Z28 c
    rw [hc] at ec
    unfold Zuk
    exact Za e (Za ec rfl)
   ·refine (Zq4 m hl hl2).mono fun k e=>?_
    rw [hm] at e
    have ec:=sCmd c
    rw [hc] at ec
    unfold Zdm Zhm
    exact Za (Za e (Za ec rfl)) rfl
  | true=>
   rw [if_pos ⟨rfl,rfl⟩]
   have ei:=Z28 c
   have es:=sCmd c
   rw [hc] at ei es
   have hok:=Zifb hc
   cases hs:stM m with
   | none=>
    unfold Z9m at hm
    rw [hs] at hm
    cases hm
   | some z=>
    obtain ⟨ph,tr,nd,st,dn,dg,v,w⟩:=z
    have h:=Zzjb hs hm
    dsimp only
    constructor
    ·refine ((Ze2 m hl hl2).and (Zihb hs h hok)).mono fun k ⟨e1,e2⟩=>?_
     rw [hm] at e1
     unfold Zuk
     exact Za e1 (Za ei (Za e2 rfl))
    ·have hgen:=Zg3 m.2
     have pre0:Ze fun k=>Zki k m=some (Z1q (some (ph,tr,nd,st,dn,dg,v,w))):=by rw [← hs];exact Zv4 m hl hl2
     refine ((((Zq4 m hl hl2).and (Zr4 h.fit.f h.two)).and pre0).and (Zdlb h hok)).mono fun k ⟨⟨⟨e1,e2⟩,e3⟩,e4⟩=>?_
     rw [hm] at e1
     unfold Zdm
     by_cases cg:(Zmb m.2).1=1000000
     ·rw [if_pos cg]
      refine Za (a:=9) ?_ rfl
      unfold Zhm
      refine Za e1 (Za es (Za e2 ?_))
      rw [decide_eq_true (by omega:(1000000:Int)≤(Zmb m.2).1)]
      rfl
     ·rw [if_neg cg]
      refine Za (a:=0) ?_ ?_
      ·unfold Zhm
       refine Za e1 (Za es (Za e2 ?_))
       rw [decide_eq_false (by omega:¬(1000000:Int)≤(Zmb m.2).1)]
       rfl
      ·show (bif ((0:Int) != 0) then _ else _)=_
       rw [show ((0:Int) != 0)=false from rfl,cond_false]
       exact Za e3 (Za e4 rfl)
end Go.Proofs.Qz
namespace Go.Proofs.Qz
open Go
set_option linter.unusedVariables false
theorem Zvjb (l:List Str) (k0:Nat) (h:k0+l.length<9223372036854775807):Ze fun k=>Z3e k l (k0:Int)=some (((k0+l.length:Nat):Int),Z4x l.length k0):=by
 have hm:=Ze.all (n:=l.length) (p:=fun i k=>Zyc k ((k0+i:Nat):Int)=some (mt ((k0+i:Nat):Int))) fun i hi=>Z3x _ (by omega)
 have key:Ze fun k=>Z3e.l0 k k (k0:Int) 0 l=some (((k0+l.length:Nat):Int),Z4x l.length k0):=by
  refine Zgu (fun k j i=>Z3e.l0 k j ((k0+i:Nat):Int) (i:Int) ((Yb i).map (fun (i:Nat)=>mt ((k0+i:Nat):Int))++l.drop i)) l.length _ (hm.mono fun k hk i hi j=>?_) (Ze.of fun k j=>?_)
  ·have hlen:=Z2l l (fun (i:Nat)=>mt ((k0+i:Nat):Int)) i (by omega)
   conv=>lhs;unfold Z3e.l0
   rw [hlen,decide_eq_true (by omega:(i:Int)<(l.length:Int))]
   simp only [cond_true]
   rw [hk i hi]
   simp only [Yh]
   rw [Zi (by rw [hlen];exact hi)]
   simp only [Yh]
   rw [Yg,Zos l (fun (i:Nat)=>mt ((k0+i:Nat):Int)) i hi,Zn (by omega),Zn (by omega)]
   rfl
  ·conv=>lhs;unfold Z3e.l0
   have hlen:=Z2l l (fun (i:Nat)=>mt ((k0+i:Nat):Int)) l.length (Ya _)
   rw [hlen,decide_eq_false (by omega:¬((l.length:Int)<(l.length:Int)))]
   simp only [cond_false]
   rw [Yp,Yo]
   refine congrArg some (congrArg (Prod.mk _) (List.map_congr_left fun i hi=>?_))
   rw [Int.natCast_add]
 refine key.mono fun k hk=>?_
 unfold Z3e
 rw [hk]
 rfl
end Go.Proofs.Qz
namespace Go.Proofs.Qz
open Go
set_option linter.unusedVariables false
def Z3l (n k0:Nat):List Int:=(Yb n).map fun (i:Nat)=>((k0+i:Nat):Int)
theorem Zxjb (n k0:Nat):(Z3l n k0).length=n:=by simp [Z3l]
theorem Ztjb (l:List Int) (k0:Nat) (h:k0+l.length<9223372036854775000) {k:Nat} (hk:l.length<k):Zce k l (k0:Int)=some (((k0+l.length:Nat):Int),Z3l l.length k0):=by
 have key:=Zzb (fun j i=>Zce.l0 j ((k0+i:Nat):Int) (i:Int) ((Yb i).map (fun (i:Nat)=>((k0+i:Nat):Int))++l.drop i)) l.length (((k0+l.length:Nat):Int),Z3l l.length k0) (fun i hi j=>by
  have hlen:=Z2l l (fun (i:Nat)=>((k0+i:Nat):Int)) i (by omega)
  show Zce.l0 (j+1) _ (i:Int) _=Zce.l0 j _ _ _
  rw [Zce.l0,hlen,dlt hi,Zi (by rw [hlen];exact hi)]
  simp only [cond_true,Yh]
  rw [Yg,Zos l (fun (i:Nat)=>((k0+i:Nat):Int)) i hi,Zn (by omega),Zn (by omega)]
  rfl) (fun j=>by
  have hlen:=Z2l l (fun (i:Nat)=>((k0+i:Nat):Int)) l.length (Ya _)
  show Zce.l0 (j+1) _ (l.length:Int) _=_
  rw [Zce.l0,hlen,Zy (Ya _)]
  simp only [cond_false]
  rw [Yp,Yo]
  rfl) k hk
 have key:Zce.l0 k (k0:Int) 0 l=_:=key
 unfold Zce
 rw [key]
 rfl
theorem Zhhb (n k0:Nat) (h:k0+n<9223372036854775000) {k:Nat} (hk:n<k):Zbe k (Z3l n k0) (k0:Int)=some ((k0+n:Nat):Int):=by
 have hl:=Zxjb n k0
 have key:=Zzb (fun j i=>Zbe.l0 j (Z3l n k0) ((k0+i:Nat):Int) (i:Int)) n (.inl ((k0+n:Nat):Int)) (fun i hi j=>by
  show Zbe.l0 (j+1) _ _ (i:Int)=Zbe.l0 j _ _ _
  have e:(Z3l n k0)[i]'(by rw [hl];exact hi)=((k0+i:Nat):Int):=by simp [Z3l]
  rw [Zbe.l0,hl,dlt hi,Zi (by rw [hl];exact hi),e]
  simp only [cond_true,Yh,bne_self_eq_false,cond_false]
  rw [Zn (by omega),Zn (by omega)]
  rfl) (fun j=>by
  show Zbe.l0 (j+1) _ _ (n:Int)=_
  rw [Zbe.l0,hl,Zy (Ya _)]
  rfl) k hk
 have key:Zbe.l0 k (Z3l n k0) (k0:Int) 0=_:=key
 unfold Zbe
 rw [key]
 rfl
end Go.Proofs.Qz
namespace Go.Proofs.Qz
open Go
set_option linter.unusedVariables false
abbrev Z3p:=Bool×Int×Str
def Z7j (k0 i:Nat):Int×Str:=(((k0+2*i:Nat):Int),mt ((k0+2*i+1:Nat):Int))
theorem Zsjb (l:List (Int×Str)) (k0:Nat) (h:k0+2*l.length<9223372036854775000):Ze fun k=>Z2e k l (k0:Int)=some (((k0+2*l.length:Nat):Int),(Yb l.length).map (Z7j k0)):=by
 have hm:=Ze.all (n:=l.length) (p:=fun i k=>Zyc k ((k0+2*i+1:Nat):Int)=some (mt ((k0+2*i+1:Nat):Int))) fun i hi=>Z3x _ (by omega)
 have key:Ze fun k=>Z2e.l0 k k (k0:Int) 0 l=some (((k0+2*l.length:Nat):Int),(Yb l.length).map (Z7j k0)):=by
  refine Zgu (fun k j i=>Z2e.l0 k j ((k0+2*i:Nat):Int) (i:Int) ((Yb i).map (Z7j k0)++l.drop i)) l.length _ (hm.mono fun k hk i hi j=>?_) (Ze.of fun k j=>?_)
  ·have hlen:=Z2l l (Z7j k0) i (by omega)
   obtain ⟨x,hx⟩:∃x,at? ((Yb i).map (Z7j k0)++l.drop i) (i:Int)=some x:=⟨_,Zi (by rw [hlen];exact hi)⟩
   have hs:=Zos l (Z7j k0) i hi
   have h9:∀y,at? (((Yb i).map (Z7j k0)++l.drop i).set i y) (i:Int)=some y:=fun y=>Zm6 (by rw [hlen];exact hi)
   conv=>lhs;unfold Z2e.l0
   rw [hlen,dlt hi,cond_true]
   refine Za hx (Za hx ?_)
   dsimp only
   rw [Zn (n:=k0+2*i) (by omega),Zn (n:=k0+2*i+1) (by omega),Zn (n:=i) (by omega),Yg]
   refine Za (hk i hi) (Za (h9 _) (Za (h9 _) ?_))
   rw [Yw]
   show Z2e.l0 k j _ _ (((Yb i).map (Z7j k0)++l.drop i).set i (Z7j k0 i))=_
   rw [hs,show k0+2*i+1+1=k0+2*(i+1) by omega]
  ·have hlen:=Z2l l (Z7j k0) l.length (Ya _)
   conv=>lhs;unfold Z2e.l0
   rw [hlen,Zy (Ya _),Yp,Yo]
   rfl
 refine key.mono fun k hk=>?_
 unfold Z2e
 exact Za hk rfl
theorem Zujb (m:Zv) (h1:m.2.1.length≤1048576) (h2:m.2.2.length≤1048576):∃r:Int×List Str×List (Int×Str),(Ze fun k=>Z1o k m 1=some r)∧0≤r.1:=by
 refine ⟨(((1+m.2.1.length+2*m.2.2.length:Nat):Int),(Z4x m.2.1.length 1,(Yb m.2.2.length).map (Z7j (1+m.2.1.length)))),?_,by show 0≤((_:Nat):Int);omega⟩
 refine ((Zvjb m.2.1 1 (by omega)).and (Zsjb m.2.2 (1+m.2.1.length) (by omega))).mono fun k ⟨e1,e2⟩=>?_
 have e1:Z3e k m.2.1 1=_:=e1
 unfold Z1o
 refine Za (a:=(((1+m.2.1.length+2*m.2.2.length:Nat):Int),(Z4x m.2.1.length 1,(Yb m.2.2.length).map (Z7j (1+m.2.1.length))))) ?_ rfl
 unfold Zxq
 exact Za e1 (Za e2 rfl)
def Zxh (k0 i:Nat):Z3p:=((Int.tmod ((k0+3*i:Nat):Int) 3==0),(((k0+3*i+1:Nat):Int),mt ((k0+3*i+2:Nat):Int)))
def Z0k (n k0:Nat):List Z3p:=(Yb n).map (Zxh k0)
theorem Zwjb (n k0:Nat):(Z0k n k0).length=n:=by simp [Z0k]
theorem Zrjb (l:List Z3p) (k0:Nat) (h:k0+3*l.length<9223372036854775000):Ze fun k=>Zqe k l (k0:Int)=some (((k0+3*l.length:Nat):Int),Z0k l.length k0):=by
 have hm:=Ze.all (n:=l.length) (p:=fun i k=>Zyc k ((k0+3*i+2:Nat):Int)=some (mt ((k0+3*i+2:Nat):Int))) fun i hi=>Z3x _ (by omega)
 have key:Ze fun k=>Zqe.l0 k k (k0:Int) 0 l=some (((k0+3*l.length:Nat):Int),Z0k l.length k0):=by
  refine Zgu (fun k j i=>Zqe.l0 k j ((k0+3*i:Nat):Int) (i:Int) ((Yb i).map (Zxh k0)++l.drop i)) l.length _ (hm.mono fun k hk i hi j=>?_) (Ze.of fun k j=>?_)
  ·have hlen:=Z2l l (Zxh k0) i (by omega)
   obtain ⟨x,hx⟩:∃x,at? ((Yb i).map (Zxh k0)++l.drop i) (i:Int)=some x:=⟨_,Zi (by rw [hlen];exact hi)⟩
   have hs:=Zos l (Zxh k0) i hi
   have h9:∀y,at? (((Yb i).map (Zxh k0)++l.drop i).set i y) (i:Int)=some y:=fun y=>Zm6 (by rw [hlen];exact hi)
   have h3:nz? 3=some ():=rfl
   conv=>lhs;unfold Zqe.l0
   rw [hlen,dlt hi,cond_true]
   refine Za h3 (Za hx (Za hx ?_))
   dsimp only
   rw [Zn (n:=k0+3*i) (by omega),Zn (n:=k0+3*i+1) (by omega),Zn (n:=k0+3*i+2) (by omega),Zn (n:=i) (by omega),Yg]
   refine Za (h9 _) (Za (h9 _) (Za (hk i hi) ?_))
   rw [Yw]
   refine Za (h9 _) (Za (h9 _) ?_)
   rw [Yw]
   show Zqe.l0 k j _ _ (((Yb i).map (Zxh k0)++l.drop i).set i (Zxh k0 i))=_
   rw [hs,show k0+3*i+2+1=k0+3*(i+1) by omega]
  ·have hlen:=Z2l l (Zxh k0) l.length (Ya _)
   conv=>lhs;unfold Zqe.l0
   rw [hlen,Zy (Ya _),Yp,Yo]
   rfl
 refine key.mono fun k hk=>?_
 unfold Zqe
 exact Za hk rfl
theorem Zghb (n:Nat) (k0:Nat) (h:k0+3*n<9223372036854775000):Ze fun k=>Z1e k (Z0k n k0) (k0:Int)=some ((k0+3*n:Nat):Int):=by
 have hm:=Ze.all (n:=n) (p:=fun i k=>Zyc k ((k0+3*i+2:Nat):Int)=some (mt ((k0+3*i+2:Nat):Int))) fun i hi=>Z3x _ (by omega)
 have hl:=Zwjb n k0
 have key:Ze fun k=>Z1e.l0 k k (Z0k n k0) (k0:Int) 0=some (.inl ((k0+3*n:Nat):Int)):=by
  refine Zgu (fun k j i=>Z1e.l0 k j (Z0k n k0) ((k0+3*i:Nat):Int) (i:Int)) n _ (hm.mono fun k hk i hi j=>?_) (Ze.of fun k j=>?_)
  ·have hx:at? (Z0k n k0) (i:Int)=some (Zxh k0 i):=by
    rw [Zi (by rw [hl];exact hi)]
    simp [Z0k]
   have h3:nz? 3=some ():=rfl
   conv=>lhs;unfold Z1e.l0
   rw [hl,dlt hi,cond_true]
   refine Za hx (Za h3 ?_)
   rw [show ((Zxh k0 i).1==(Int.tmod ((k0+3*i:Nat):Int) 3==0))=true by simp [Zxh],Yc,cond_false]
   refine Za hx ?_
   dsimp only
   rw [Zn (n:=k0+3*i) (by omega),Zn (n:=k0+3*i+1) (by omega),Zn (n:=k0+3*i+2) (by omega),Zn (n:=i) (by omega)]
   rw [show ((Zxh k0 i).2.1 != ((k0+3*i+1:Nat):Int))=false by simp [Zxh],cond_false]
   refine Za hx (Za (hk i hi) ?_)
   rw [show ((Zxh k0 i).2.2==mt ((k0+3*i+2:Nat):Int))=true by simp [Zxh],Yc,cond_false,show k0+3*i+2+1=k0+3*(i+1) by omega]
  ·conv=>lhs;unfold Z1e.l0
   rw [hl,Zy (Ya _)]
   rfl
 refine key.mono fun k hk=>?_
 unfold Z1e
 exact Za hk rfl
theorem Z0fb (x:Z3p):Zxo x x=some true:=by
 unfold Zxo
 simp only [bne_self_eq_false,beq_self_eq_true,Yc,cond_false]
theorem Zzfb (l:List Z3p) (hl:l.length≤1048576):Ze fun k=>Zjf k l l=some true:=by
 have key:Ze fun k=>Zjf.l0 k l l 0=some (.inl ()):=by
  refine Z0x (fun j i=>Zjf.l0 j l l (i:Int)) l.length _ (fun i hi j=>?_) fun j=>?_
  ·conv=>lhs;unfold Zjf.l0
   rw [dlt hi,Zn (by omega),cond_true]
   refine Za (Zi hi) (Za (Zi hi) (Za (Z0fb _) ?_))
   rfl
  ·conv=>lhs;unfold Zjf.l0
   rw [Zy (Ya _)]
   rfl
 refine key.mono fun k hk=>?_
 unfold Zjf
 rw [show ((l.length:Int) != (l.length:Int))=false by simp,cond_false,hk]
 rfl
abbrev Z3db:=List Z3p×Str×List Int×Int
theorem Zceb (a:Z3db) (h1:a.1.length≤100000) (h2:a.2.2.1.length≤100000):∃n:Nat,∃x:List Z3p,∃y:List Int,Ze fun k=>Z0o k a 1=some ((n:Int),(x,y))∧Z6m k (x,(a.2.1,(y,a.2.2.2))) 1=some (n:Int)∧Z1l k a a=some true:=by
 refine ⟨1+3*a.1.length+a.2.2.1.length,Z0k a.1.length 1,Z3l a.2.2.1.length (1+3*a.1.length),?_⟩
 refine (((((Zrjb a.1 1 (by omega)).and (Zghb a.1.length 1 (by omega))).and (Zzfb a.1 (by omega))).and (Z3fb a.2.2.1 (by omega))).and (Ze.ge 100001 fun k hk=>hk)).mono fun k ⟨⟨⟨⟨e1,e2⟩,e3⟩,e4⟩,hk⟩=>⟨?_,?_,?_⟩
 ·have e1:Zqe k a.1 1=_:=e1
  unfold Z0o
  exact Za e1 (Za (Ztjb a.2.2.1 (1+3*a.1.length) (by omega) (by omega)) rfl)
 ·have e2:Z1e k (Z0k a.1.length 1) 1=_:=e2
  unfold Z6m
  refine Za e2 ?_
  rw [decide_eq_false (by omega:¬((1+3*a.1.length:Nat):Int)<0),cond_false]
  refine Za (Zhhb a.2.2.1.length (1+3*a.1.length) (by omega) (by omega)) ?_
  rw [decide_eq_false (by omega:¬((1+3*a.1.length+a.2.2.1.length:Nat):Int)<0)]
  rfl
 ·unfold Z1l
  refine Za e3 ?_
  rw [Yc,cond_false,show (a.2.1==a.2.1)=true by simp,Yc,cond_false]
  refine Za e4 ?_
  rw [Yc,cond_false,show (a.2.2.2 != a.2.2.2)=false by simp]
  rfl
end Go.Proofs.Qz
namespace Go.Proofs.Qz
open Go
def Zyg.Pure:Prop:=∀(y0:G27) (y1:G31),Bnd T27 y0→Bnd T31 y1→∃k:Nat,Zyg k y0 y1=some true
end Go.Proofs.Qz
namespace Go.Proofs.Qz
open Go
set_option linter.unusedVariables false
theorem Zijb (m:Zv) (l:List Int):(Zms m l).length≤l.length+1:=by
 have:=Zfu m l
 unfold Zms
 split
 ·simp
 ·rw [Yf]
  simp
  omega
theorem Zi9 (f:Zpd) (a b c d e:Int) (x:Str) (v w:Nat):(Zpe f a b c d e x v w).length≤2:=Zxk _ _
theorem Zzeb (m:Zv) (ph tr nd st dn:Int) (dg:Str) (v w:Nat):(Zdq m ph tr nd st dn dg v w).length≤100:=by
 have hk:=fun a b c d e x v w=>Zi9 m.2 a b c d e x v w
 have hl:=Z3c w
 unfold Zdq
 split
 ·have:=Zijb m ((Zb w).drop (st+Zxg (Zc m st w)).toNat)
  rw [List.length_drop] at this
  omega
 ·split
  ·exact Ym (hk _ _ _ _ _ _ _ _) (by omega)
  ·split
   ·split
    ·exact Ym (hk _ _ _ _ _ _ _ _) (by omega)
    ·exact Ym (hk _ _ _ _ _ _ _ _) (by omega)
   ·split
    ·split
     ·simp
     ·rw [Yf]
      have:=hk 5 tr nd st (dn+1) dg v w
      simp only [Yn,Yk]
      omega
    ·simp
def Z8z (a:Zel):Prop:=a.1.length≤100∧a.2.2.1.length≤100
theorem Z7i (c:Int):Z8z (Zgf c):=⟨by simp [Zgf],by simp [Zgf]⟩
theorem Znp {l:List Zzj} (h:l.length≤100):Z8z (Zoi l):=⟨h,by simp [Zoi]⟩
theorem Zdeb (m:Zv) (c:Zci):Z8z (Zqr m c):=by
 have hk:=fun a b c d e x v w=>Zi9 m.2 a b c d e x v w
 have hid:∀v,(Z0m m v).length≤100:=fun v=>Ym (hk _ _ _ _ _ _ _ _) (by omega)
 unfold Zqr
 split
 ·split
  ·exact Z7i _
  ·split
   ·rename_i ph tr nd st dn dg v w hs
    unfold Zpr
    split
    ·unfold Zsr
     split
     ·split
      ·rename_i l hl
       have hle:l.length≤24:=by
        unfold Z1g at hl
        split at hl
        ·cases hl
        ·rename_i hn
         have:=Z3c (Zub v 0)
         split at hl
         ·cases hl
          rw [Zjz]
          omega
         ·cases hl
          rw [List.length_take]
          omega
       refine Znp ?_
       have:=hk 2 0 c.2.1 c.2.2.1 0 c.2.2.2.1 v (Zdg l)
       simp only [Yf,Zbi,Y4,Yn,Yk]
       omega
      ·exact Z7i _
     ·exact Z7i _
    ·split
     ·unfold Zet
      split
      ·split
       ·exact Z7i _
       ·split
        ·refine Znp ?_
         split <;> simp
        ·exact Z7i _
      ·exact Z7i _
     ·split
      ·unfold Z5r
       split
       ·split
        ·split
         ·split
          ·split
           ·exact ⟨hid v,by simp⟩
           ·refine Znp ?_
            have:=hk 3 tr nd st dn dg v w
            simp only [Yf,Yn,Yk]
            omega
          ·exact ⟨hid v,by simp⟩
         ·exact ⟨hid v,by simp⟩
        ·exact ⟨hid v,by simp⟩
       ·exact Z7i _
      ·split
       ·split
        ·exact Z7i _
        ·exact Znp (hid v)
       ·split
        ·split
         ·refine Znp ?_
          have:=hk 5 0 nd st dn dg v w
          simp only [Yf,Yn,Yk]
          omega
         ·exact Z7i _
        ·split
         ·unfold Z9r
          split
          ·split
           ·exact ⟨hid v,by simp⟩
           ·refine ⟨?_,by simp⟩
            have:=hk ph tr nd st (dn+1) dg v w
            simp only [Yf,Yn,Yk]
            omega
          ·exact Z7i _
         ·split
          ·split
           ·exact Z7i _
           ·exact ⟨by simp,by simp⟩
          ·split
           ·exact ⟨by simp,by simp [Z84]⟩
           ·split
            ·unfold Zbs
             split
             ·exact Znp (Ym (hk _ _ _ _ _ _ _ _) (by omega))
             ·exact Z7i _
            ·split
             ·exact Znp (Ym (hk _ _ _ _ _ _ _ _) (by omega))
             ·exact Znp (Zzeb _ _ _ _ _ _ _ _ _)
   ·exact Z7i _
 ·exact Z7i _
theorem Z8mb (c:Zci) (n:Int) (h1:c.2.2.2.1.length≤140737488351232) (h2:c.2.2.2.2.2.2.2.length≤140737488351232) (h0:0≤n) (hn:n≤1048576):∃v,Z2o c n=some v:=by
 unfold Z2o
 dsimp only
 rw [w64 (n:=n-(c.2.2.2.1.length:Int)) (by omega) (by omega)]
 cases decide (n-(c.2.2.2.1.length:Int)<0) with
 | true=>exact ⟨-1,rfl⟩
 | false=>
  rw [cond_false]
  unfold Zyq
  dsimp only
  rw [w64 (n:=n-(c.2.2.2.1.length:Int)-(c.2.2.2.2.2.2.2.length:Int)) (by omega) (by omega)]
  cases decide (n-(c.2.2.2.1.length:Int)-(c.2.2.2.2.2.2.2.length:Int)<0) with
  | true=>exact ⟨-1,rfl⟩
  | false=>
   simp only [cond_false,Yh]
   cases decide (n-(c.2.2.2.1.length:Int)-(c.2.2.2.2.2.2.2.length:Int)<0) <;> exact ⟨_,rfl⟩
theorem Zyg.proved:Zyg.Pure:=by
 intro m c hm hc
 have hbig:Z3z m.2:=⟨⟨hm.2.1.1,fun x hx=>hm.2.1.2 x hx⟩,hm.2.2.1,fun x hx=>(hm.2.2.2 x hx).2⟩
 obtain ⟨u,hu,ev⟩:=Zbnb m 1048576 hbig (by omega) (by omega)
 by_cases hu0:u<0
 ·obtain ⟨k,g1⟩:=ev.ex
  refine ⟨k,?_⟩
  unfold Zyg
  refine Za g1 ?_
  rw [decide_eq_true hu0]
  rfl
 ·have hf:=hu.2 (by omega)
  have hm1:=hf.1.1
  have hm2:=hf.2.1
  obtain ⟨z,hz⟩:=Z8mb c u hc.2.2.2.1 hc.2.2.2.2.2.2.2 (by omega) (by omega)
  have htc:Z7m c=some c:=rfl
  obtain ⟨bi,bs⟩:=Z1eb m c (by omega) (by omega)
  obtain ⟨hs1,hs2⟩:=Zdeb m c
  obtain ⟨r,hr,hr0⟩:=Zujb m (by omega) (by omega)
  obtain ⟨n,x,y,hmk⟩:=Zceb (Zqr m c) (by omega) (by omega)
  obtain ⟨k,⟨⟨⟨⟨⟨⟨g1,g5⟩,g6⟩,g7⟩,g8⟩,g9⟩,g10,g11,g12⟩⟩:=((((((ev.and (Zknb m 1048576 hf (by omega))).and (Z4fb m 1048576 hf (by omega))).and bi).and bs).and hr).and hmk).ex
  refine ⟨k,?_⟩
  unfold Zyg
  refine Za g1 ?_
  rw [decide_eq_false hu0,cond_false]
  refine Za hz ?_
  cases decide (z<0) with
  | true=>rfl
  | false=>
   rw [cond_false]
   refine Za g5 (Za htc (Za g8 (Za g5 (Za htc (Za g7 (Za g12 ?_))))))
   rw [Yc,cond_false]
   refine Za g5 (Za g6 ?_)
   rw [Yc,cond_false]
   refine Za g9 ?_
   rw [decide_eq_false (by omega:¬r.1<0),cond_false]
   refine Za g12 ?_
   rw [Yc,cond_false]
   refine Za g10 (Za g11 ?_)
   rw [decide_eq_false (by omega:¬((n:Nat):Int)<0),cond_false,show (((n:Nat):Int) != ((n:Nat):Int))=false by simp,cond_false]
   refine Za g5 (Za htc (Za g7 (Za g12 ?_)))
   rw [Yc,cond_false]
   refine Za g11 ?_
   rw [decide_eq_false (by omega:¬((n:Nat):Int)<0),cond_false,show (((n:Nat):Int) != ((n:Nat):Int))=false by simp]
   rfl
end Go.Proofs.Qz
namespace Go.Proofs.YtonaicpopoomlaaGreatDoor.fnExactActsOf
open Go Go.ChangeShapes Go.WideShapes Go.ChangeAt Go.RowKit Go.Proofs.Qz
set_option linter.unusedVariables false
theorem own:ownKnob Tryz.prog.godebug=none:=by kernel_rfl
theorem Zs2:laidOutB Tryz.prog=true:=by kernel_rfl
theorem go (k:Nat) (y0:G27) (y1:G31):(Zyg.con k).f [Z1t true T27 y0,Z1t true T31 y1] = .opt (Z7 Zyg.sig.outs) (Zyg k y0 y1) Zyg.sig.enc:=by kernel_rfl
abbrev Zuu:List (String×DataW Unit):=[("loop.example/g00668/impl.digestStart",Rows.laid_loop_example_g00668_impl_digestStart),("loop.example/g00668/impl.digestRounds",Rows.laid_loop_example_g00668_impl_digestRounds)]
theorem Zufb (os:Os) (args:Array Value):laidMetH Tryz.prog Zuu ((World.doorLaid Tryz.prog 19 os).forCall (fun _ _=>0) ⟨#[],args,[]⟩).memory:=
 laidMetH_of_parts3 (fuel:=8) (laidMet_of_run' 8 (by kernel_rfl) (by kernel_rfl)) (by kernel_rfl) (by kernel_rfl)
theorem globals {W:World} (h:laidMetH Tryz.prog Zuu W):GlW W:=by
 rw [MakeChecks.laidMetH_plain _ _ _ (by kernel_rfl)] at h
 intro n r l e
 unfold GL at e
 split at e
 ·cases e;exact Zl9 h (name:= "loop.example/g00668/impl.digestStart") (k:=.u32) (zs:=Zjm) (List.mem_of_getElem? (i:=0) (by kernel_rfl)) (n:=8) (t:=235) (e:=233) (by kernel_rfl) (by kernel_rfl) (by kernel_rfl) (by kernel_rfl) (by kernel_rfl) (by kernel_rfl)
 ·cases e;exact Zl9 h (name:= "loop.example/g00668/impl.digestRounds") (k:=.u32) (zs:=Zkm) (List.mem_of_getElem? (i:=1) (by kernel_rfl)) (n:=64) (t:=256) (e:=233) (by kernel_rfl) (by kernel_rfl) (by kernel_rfl) (by kernel_rfl) (by kernel_rfl) (by kernel_rfl)
 ·cases e
set_option maxRecDepth 100000 in
theorem lifted (os:Os) (started:os.Started) (H:Type) (enc:TypeId×Value→H):
  ReturnsInHanded {} Tryz.checked os 3 .any (fun w args=>(Rows.fnExactActsOfSpec.pre enc Tryz.prog Tryz.f3 [] false w args∧laidMetH Tryz.prog Zuu w)∧sizedMet enc Tryz.prog Tryz.f3 (OpenSpec.ofChange Rows.fnExactActsOfSpec) false w args) (Rows.fnExactActsOfSpec.post enc Tryz.prog Tryz.f3 false true false false):=by
 refine returnsInHanded_of_change_and (C:=Tryz.checked) (X:=fun w _=>laidMetH Tryz.prog Zuu w) (fun _ _ _ hh h=>h.of_heap hh) own started (by kernel_rfl) Tryz.func3
  (ChangeSpec.witness_shaped (enc:=enc) (C:=Tryz.checked) (os:=os) (X:=fun w _=>laidMetH Tryz.prog Zuu w) false (World.doorLaid Tryz.prog 19 os) #[.agg #[.int .i64 0,.slice none 0 0,.slice none 0 0],.agg #[.int .i64 0,.int .i64 0,.int .i64 0,.string ByteArray.empty,.int .i64 0,.int .i64 0,.int .i64 0,.string ByteArray.empty]] 8 rfl (World.shaped_of_RefB (by kernel_rfl) (by kernel_rfl)) (by kernel_rfl) (by kernel_rfl) (by kernel_rfl) (Zufb os _)) ?_
 intro W base args ds gs before hval0 hW hcnd hsz0 hL _
 have hsz:(DataW.weightsEach Tryz.prog (Tryz.f3.params.toList++Rows.fnExactActsOfSpec.plain.varTypes Tryz.prog) (ds++gs)).all (·≤reachBytes)=true:=hsz0
 have hval:∀(j:Nat) t v,Tryz.f3.params[j]? = some t→args[j]? = some v→Value.okWide Tryz.prog W .any base t v:=hval0
 have hW':=hW
 obtain ⟨p,q,hA0,hV,rfl,hfz,hnd⟩:=hW
 have hA:DataW.TrodAll enc Tryz.prog W 0 (fun _=>true) true Tryz.f3.params.toList args.toList ds p:=hA0
 rw [Tryz.params3] at hA hval hsz
 obtain ⟨v0,vs0,d0,ds0,p0,q0,hargs,rfl,rfl,h0,r0⟩:=trodAll_cons hA
 obtain ⟨v1,vs1,d1,ds1,p1,q1,rfl,rfl,rfl,h1,r1⟩:=trodAll_cons r0
 obtain ⟨rfl,rfl,rfl⟩:=trodAll_nil r1
 obtain rfl:args = #[v0,v1]:=by cases args;simp_all
 obtain ⟨_,_,_,_,gd0,_,_,_,_,_,gd1,_,rfl,_⟩:=trodVars_two hV
 have lt0:=Zodb h0
 have z0:=Zzdb hsz (j:=0) (t:=27) rfl rfl
 obtain ⟨y0,b0,c0⟩:=Zf6 (ty:=T27) (n:=20) (ag:=true) (by kernel_rfl) (by kernel_rfl) (hval 0 27 v0 rfl rfl) h0 z0
 have lt1:=Zodb h1
 have z1:=Zzdb hsz (j:=1) (t:=31) rfl rfl
 obtain ⟨y1,b1,c1⟩:=Zf6 (ty:=T31) (n:=20) (ag:=true) (by kernel_rfl) (by kernel_rfl) (hval 1 31 v1 rfl rfl) h1 z1
 obtain ⟨k,hp⟩:=Zyg.proved y0 y1 b0 b1
 have hrr:((Zyg.con k).f [Z1t true T27 y0,Z1t true T31 y1]).val=some ⟨[.val false [.leaf (.bool true)]],[]⟩:=by
  refine (congrArg CR.val (go k y0 y1)).trans ?_
  rw [hp]
  kernel_rfl
 refine (Z9ib (Zyg.ok k) hrr (globals hL) (vs:=[v0,v1]) (Z86 (c0 _) (Z86 (c1 _) Zcfb))).mono fun e W' ⟨he,bel0⟩=>?_
 have bel:Below W.heap.size W W':=bel0
 subst he
 exact ⟨_,rfl,_,_,_,[],_,_,hW',trodAll_mk1 (Zvmb Tryz.underlying4 _),(trodAll_cons_mk (Below.trod Zs2 (by kernel_rfl) (of_decide_eq_true (by kernel_rfl)) h0 bel lt0) (trodAll_cons_mk (Below.trod Zs2 (by kernel_rfl) (of_decide_eq_true (by kernel_rfl)) h1 bel lt1) trodAll_mk0)),Below.trodVars Zs2 bel (by kernel_rfl) hV,bel.frame _,fun h=>by cases h⟩
theorem k10:(Rows.fnExactActsOfRow.inPlace==Tryz.prog.inPlace 3)=true:=by kernel_rfl
theorem k11:(Rows.fnExactActsOfRow.unfollowed==Tryz.prog.unfollowed 3)=true:=by kernel_rfl
theorem k12:(Rows.fnExactActsOfRow.recurses==Tryz.prog.recurses 3)=true:=by kernel_rfl
theorem k13:(Rows.fnExactActsOfRow.named==Tryz.prog.varsNamed 3)=true:=by kernel_rfl
theorem Zhfb:joinedFacts Tryz.prog 3 Tryz.f3 Rows.fnExactActsOfSpec Rows.fnExactActsOfRow=true:=by
 unfold joinedFacts
 rw [k10,k11,k12,k13]
 kernel_rfl
theorem Zap:Rows.fnExactActsOfRow.holds Tryz.pinned (OpenSpec.ofChange Rows.fnExactActsOfSpec):=
 OpenClaim.holds_of_wide 3 Tryz.f3 rfl rfl rfl rfl rfl rfl rfl ⟨rfl,rfl,rfl,rfl,rfl⟩ rfl rfl rfl rfl rfl (by kernel_rfl) Tryz.func3 Zhfb
  (of_decide_eq_true (by kernel_rfl)) (by unfold Func.isWrapper;first | (rw [if_pos (by decide +kernel)];kernel_rfl) | (rw [if_neg (by decide +kernel)];exact ⟨rfl,rfl⟩))
  (fun os started H enc _=>lifted os started H enc)
theorem proved:Rows.FnExactActsOfSaid:=Zap
theorem t1:Rows.fnExactActsOfRow.wfByText (OpenSpec.ofChange Rows.fnExactActsOfSpec)=true:=by kernel_rfl
theorem t2:Tryz.prog.mainIs=some ((true, "fd6392baa9a32074ba94a4cbafc2723605810d6f2e1b46b50a24eff59c092550").1,(true, "fd6392baa9a32074ba94a4cbafc2723605810d6f2e1b46b50a24eff59c092550").2.toList):=by kernel_rfl
theorem t3:false=Tryz.prog.looks []:=by kernel_rfl
theorem t4:false=Rows.fnExactActsOfRow.goesBy Tryz.prog:=by kernel_rfl
theorem tied:Rows.FnExactActsOfCardSaid:=
 Claim7.holds_tied_plain_at .later [] [.data,.data] true (true, "fd6392baa9a32074ba94a4cbafc2723605810d6f2e1b46b50a24eff59c092550") false
  proved (fun _ h=>by cases h) t1 (fun _ h=>by cases h) fnExactActsOf_row_tie rfl ⟨rfl,rfl⟩ t2 rfl
  (fun f fn hf hfn=>by
   obtain rfl:f=3:=Y9.inj ((show Tryz.prog.funcNamed "loop.example/g00668/laws.FnExactActsOf" = some 3 by kernel_rfl).symm.trans hf) |>.symm
   obtain rfl:fn=Tryz.f3:=(Y9.inj (Tryz.func3.symm.trans hfn)).symm
   exact ⟨t3,fun j t ht=>by
    rw [Tryz.params3] at ht
    have hm:t∈[27,31]:=by simpa using Array.mem_of_getElem? ht
    have hall:([27,31].all fun u=>!Tryz.prog.wantsStandIn u)=true:=by kernel_rfl
    exact (show Tryz.prog.wantsStandIn t=false by simpa using Ys.1 hall t hm)⟩)
  t4
end Go.Proofs.YtonaicpopoomlaaGreatDoor.fnExactActsOf
namespace Go.Proofs.YtonaicpopoomlaaGreatDoor
theorem fnExactActsOf_card:Rows.FnExactActsOfCardSaid:=fnExactActsOf.tied
#print axioms fnExactActsOf_card
end Go.Proofs.YtonaicpopoomlaaGreatDoor
