/- What the law FnFold needs, part 15 of 15: the Lean functions of the Go functions that it reaches, with the proofs that the calls come to what they say, and plain facts about them; the last theorem is the law. Conditions: those that each theorem states. Written by a session and by its programs (after the kit's printer). -/
import Derived.Test.YtmohoeinamddcaaGreatDoorRows
import Derived.Test.YtmohoeinamddcaaGreatDoorCards
import Derived.Test.YtmohoeinamddcaaGreatDoorTie
import Derived.Carry
import Derived.Handed
import Derived.LaidMore
import Derived.OpenVars
import Derived.OpenShut
import Derived.ProofKit
import Derived.SevenTiedAt
import Derived.MakeChecks
import Derived.Test.YtmohoeinamddcaaGreatDoorXFnFold6
import Derived.Test.YtmohoeinamddcaaGreatDoorXFnFold8
import Derived.Test.YtmohoeinamddcaaGreatDoorXFnFold13
open Go.Proofs.Tryz renaming prog → Ya, f3 → Yb, checked → Yc, func3 → Yd, params3 → Yk
open Go.IntKind renaming wrap → Ye
open List renaming mem_cons → Yf, mem_of_getElem? → Yg, mem_singleton → Yh
open Nat renaming zero_le → Yi
open Option renaming some → Yj
namespace Go.Proofs.Qz
open Go
set_option linter.unusedVariables false
def Zd2:Zmg:=(5,(0,(0,([],Zvm))))
theorem Zqib:Zeg Zd2=true:=Zcx (by omega) (by omega) (by omega)
theorem Zolb (a b:List Str) (mv:List Zbc):Z6k a b mv 0=a:=by
 refine List.ext_getElem (Zih _ _ _ _) fun j h1 h2=>?_
 rw [← Z3g h1,← Z3g h2,Zcm h2]
 rfl
theorem Z76 {c m:Zn} (h:Zpd c=(m,0)):Zc fun k=>Zcn k c=some (flC (m,0)):=by
 cases hs:stM c with
 | none=>
  unfold Zpd at h;rw [hs] at h;have:=(Prod.mk.inj h).2;exact absurd this (by decide)
 | some z=>
  obtain ⟨ph,tr,nd,st,dn,dg,v,w⟩:=z;rw [← h];exact Z8ib hs
section
variable {m:Zn} {a b:List Str} {L:List Zk} {nd st:Int} {dg:Str} {w:Nat}
theorem OnTrial.good {tr:Int} (h:OnTrial m a b L nd st dg w tr) (ib:Zvb b=true):FoldC a b L st∧∃m',doR m Zd2=(m',([],([],0)))∧Folding m' a b L nd st dg w 0∧(Zf m'.2).1≤20:=by
 have C:FoldC a b L st:=⟨h.dev.img,ib,h.ab,h.code,h.slots⟩
 refine ⟨C,?_⟩
 have hd:=h.dev
 have hn:=hd.n
 have hmb:=hd.b
 have hgen:=h.gen
 have K:=hd.kp
 have S:=hd.sb
 have hb:=K.b
 obtain ⟨q1,q2,q3,q4⟩:=hd.busy (by omega)
 have hup:∀k,Zde (Zd m.2) [(false,(2,[])),Zp] k=if k=2 then [] else Zd m.2 k:=fun k=>by
  rw [Zag,Zag,Zum];show Zdd (Zd m.2) (false,(2,[])) k=_;unfold Zdd
  by_cases c:k=2
  ·rw [Xc ⟨rfl,c⟩,Xc c]
  ·rw [Xd (fun z=>c z.2),Xd c]
 obtain ⟨k1,k2,k3,k4⟩:=hd.keep (pre:=[(false,(2,[])),Zp]) (Z7f (fun _=>⟨⟨by show (0:Int)≤2;omega,by show (2:Int)<_;omega⟩,by simp⟩) (Zgi _)) (fun x hx q=>by
  rcases Yf.1 hx with z | z
  ·rw [z];show (2:Int)≤2;omega
  ·rw [Yh.1 z] at q;cases q) (by omega) rfl hd.img (fun i hi=>by
  rw [hup,Xd (by omega)];exact hd.base i hi) (ph':=5) (tr':=0) (nd':=nd) (st':=st) (dn':=0) (dg':=dg) (v':=0) (w':=w) { K with a:=by omega,b:=by omega } (by
  unfold Zre at S ⊢;rw [Xd (by omega)] at S ⊢;simp only [Bool.and_eq_true,decide_eq_true_eq] at S ⊢;exact ⟨by omega,S.2.1,S.2.2.1,S.2.2.2.1,S.2.2.2.2.1,S.2.2.2.2.2.1,by omega,S.2.2.2.2.2.2.2.1,.inl trivial,.inr trivial⟩)
 have e:Zai m Zd2 4 tr nd st 0 dg 0 w=Zoh ([(false,(2,[])),Zp]++Zgb m.2 5 0 nd st 0 dg 0 w):=rfl
 refine ⟨(m.1,doF m.2 ([(false,(2,[])),Zp]++Zgb m.2 5 0 nd st 0 dg 0 w)),?_,⟨?_,h.log.move q2.1 rfl fun i _ hi=>?_,⟨_,_,Zfmb h.code,fun j hj=>absurd hj (Nat.not_lt_zero j)⟩,Yi _,k3,?_⟩,?_⟩
 ·rw [hd.does (fun _=>h.sound) Zqib (by omega),e]
  rfl
 ·rw [Zolb]
  exact k1
 ·have:=Zjn hi
  show Zd (doF m.2 _) _=_;rw [k4 _ (by omega),hup,Xd (by omega)]
 ·show (Z4b (Zd (doF m.2 _) 2) _).1=true
  rw [k4 _ (by omega),hup,Xc rfl];rfl
 ·show (Zf (doF m.2 _)).1≤20
  rw [k2];omega
theorem Z9h.now {k:Nat} (C:FoldC a b L st) (h:Z9h m a b L nd st dg w k):Zaf m=true∧∃ph tr nd' st' dn dg' v w',stM m=some (ph,(tr,(nd',(st',(dn,(dg',(v,w')))))))∧Z1j m ph st' dn w'=b:=by
 rcases h with ⟨dn,_,h⟩ | h
 ·refine ⟨h.right C,_,_,_,_,_,_,_,_,h.dev.state,?_⟩
  have:=h.view C;unfold Z1j;rw [Xd (by omega),Xc rfl];exact this
 ·refine ⟨h.1.right fun q=>by omega,_,_,_,_,_,_,_,_,h.1.state,?_⟩
  unfold Z1j;rw [Xd (by omega),Xd (by omega),h.1.blocks]
theorem Z9h.view {k:Nat} (C:FoldC a b L st) (h:Z9h m a b L nd st dg w k):Zc fun k=>Zak k m=some (b,0):=by
 obtain ⟨hm,ph,tr,nd',st',dn,dg',v,w',hs,hv⟩:=h.now C
 have:=Zjkb hm hs
 rw [hv] at this
 exact this
theorem Z9h.idle {k:Nat} (h:Z9h m a b L nd st dg w k) (hk:(Zg L).length<k):Zuk m b:=by
 rcases h with ⟨dn,hd,h⟩ | h
 ·have:=h.le
  omega
 ·exact h
end
end Go.Proofs.Qz
namespace Go.Proofs.Qz
open Go
def Zqb.Pure:Prop:=∀(y0:List Int) (y1:List Int),Bnd (.sl (.int .u8)) y0→Bnd (.sl (.int .u8)) y1→∃k:Nat,Zqb k y0 y1=some true
end Go.Proofs.Qz
namespace Go.Proofs.Qz
open Go
set_option linter.unusedVariables false
theorem Ztl {α:Type} {c:Bool} {x y z:α} (h:c=false) (k:y=z):(bif c then x else y)=z:=by rw [h];exact k
theorem Zhu {α:Type} {c:Bool} {x y z:α} (h:c=true) (k:x=z):(bif c then x else y)=z:=by rw [h];exact k
theorem Zrjb {m:Zn} {tr nd st dn:Int} {dg:Str} {v w:Nat} (hm:Zaf m=true) (hs:stM m=some (5,(tr,(nd,(st,(dn,(dg,(v,w)))))))):Zc fun k=>Zwo k m=some (Zg (Zh m st w)):=by
 have h:=Zvy hs hm
 obtain ⟨hl,hl2⟩:=Zav hm
 have hi:=Z2q m hl hl2
 rw [hs] at hi
 refine (hi.and (Zw9 h (by omega))).mono fun k ⟨e,e2⟩=>?_
 unfold Zwo
 exact Za e (Ztl rfl (Za e2 rfl))
section
variable {m:Zn} {a b:List Str} {L:List Zk} {nd st:Int} {dg:Str} {w:Nat}
theorem Zkhb {y:Zn} (hv:Zc fun k=>Zak k y=some (b,0)) (hbl:b.length≤1048576) {more:List Int} (hm:∀x∈more,0≤x∧x<256) (hml:more.length≤1048576) (i:Nat) (hi:i≤1000):
  ∃z,(z=m∨z=y)∧Zc fun k=>Zqb.j0 k more (i:Int) m.1 m.2.1 m.2.2 y.1 0 b y.2.1 y.2.2=some (.inl (z.1,(z.2.1,(z.2.2,(y.1,(y.2.1,(y.2.2,(0,b)))))))):=by
 obtain ⟨v,ev,hv2⟩:=Zly more hm hml (i+3) (z:=2) ⟨by omega,by omega⟩
 have e3:Ye .i64 ((i:Int)+3)=((i+3:Nat):Int):=by rw [w64 (by omega) (by omega)];omega
 by_cases c:v=0
 ·subst c
  refine ⟨y,.inr rfl,(hv.and (Zmy b hbl)).mono fun k ⟨e1,e2⟩=>?_⟩;unfold Zqb.j0;rw [e3];exact Za ev (Zhu rfl (Za e1 (Za e2 (Ztl rfl rfl))))
 ·refine ⟨m,.inl rfl,Zc.of fun k=>?_⟩
  unfold Zqb.j0;rw [e3];refine Za ev (Ztl ?_ rfl);rw [show (((v:Nat):Int)==0)=false by rw [Zqh];exact Xb (by omega)];rfl
theorem Zlhb (C:FoldC a b L st) (hbl:b.length≤1048576) {more:List Int} (hmo:∀x∈more,0≤x∧x<256) (hml:more.length≤1048576) (hf:Folding m a b L nd st dg w 0) (hg:(Zf m.2).1≤20):
  Ev (fun k=>Zqb.l1 k k more ((Zg L).length:Int) 0 m.1 m.2.1 m.2.2 b) fun r=>∃m',r = .inl (m'.1,(m'.2.1,(m'.2.2,b)))∧Zuk m' b:=by
 have hpl:=Zjp L (Zue C.code).1 (Zrh C.code)
 refine Ev.loop (fun k j (z:Nat×Zn)=>Zqb.l1 k j more ((Zg L).length:Int) (z.1:Int) z.2.1 z.2.2.1 z.2.2.2 b) (fun z=>(Zg L).length+1-z.1) (fun z=>z.1≤(Zg L).length+1∧Z9h z.2 a b L nd st dg w z.1∧(Zf z.2.2).1≤20+2*(z.1:Int)) _ (0,m) ⟨Yi _,.inl ⟨0,Nat.le_refl _,hf⟩,by show (Zf m.2).1≤20+2*((0:Nat):Int);omega⟩ ?_
 rintro ⟨i,m⟩ ⟨q0,q1,q2⟩
 have q0:i≤(Zg L).length+1:=q0
 have q1:Z9h m a b L nd st dg w i:=q1
 have q2:(Zf m.2).1≤20+2*(i:Int):=q2
 by_cases hi:i≤(Zg L).length
 ·right
  obtain ⟨n,en,_⟩:=Zly more hmo hml i (z:=7) ⟨by omega,by omega⟩;obtain ⟨f1,ef1,l1⟩:=Zly more hmo hml (i+1) (z:=20) ⟨by omega,by omega⟩;obtain ⟨f2,ef2,l2⟩:=Zly more hmo hml (i+2) (z:=20) ⟨by omega,by omega⟩;have e2:Ye .i64 ((i:Int)+2)=((i+2:Nat):Int):=by rw [w64 (by omega) (by omega)];omega
  obtain ⟨c,m1,k1,k2,k3,k4⟩:=q1.cut C (by omega) n [(f1:Int),(f2:Int)] (by simp);have hm:=(q1.now C).1
  have ecut:=Zejb hm Zjs (n:=(n:Int)) (by omega) (fs:=[(f1:Int),(f2:Int)]) (fun x hx=>by
   unfold Z1n;rcases Yf.1 hx with z | z
   ·omega
   ·have:=Yh.1 z
    omega) (by simp)
  rw [k1] at ecut;obtain ⟨z,hz,ej⟩:=Zkhb (m:=m) (k3.view C) hbl hmo hml i (by omega)
  have hW:Z9h z a b L nd st dg w i∧(Zf z.2).1≤20+2*(i:Int)+1:=by
   rcases hz with rfl | rfl
   ·exact ⟨q1,by omega⟩
   ·exact ⟨k3,by omega⟩
  obtain ⟨hW,hgz⟩:=hW;obtain ⟨ph,⟨tr,nd',st',dn,dg',v,w',hs⟩,h5 | h1⟩:=hW.fold C (by omega)
  ·obtain ⟨rfl,m2,t,r,d1,d2,d3⟩:=h5
   refine ⟨(i+1,m2),⟨by show i+1≤_;omega,d2,by show (Zf m2.2).1≤20+2*((i+1:Nat):Int);omega⟩,by show (Zg L).length+1-(i+1)<(Zg L).length+1-i;omega,?_⟩;refine ((((((ecut.and (Z76 k2)).and ej).and (Zm2 hs)).and (Zbs d1)).and (d2.view C)).and (Zmy b hbl)).mono fun k ⟨⟨⟨⟨⟨⟨ecut,eb⟩,ej⟩,es⟩,ed⟩,ev⟩,et⟩ j=>?_
   show Zqb.l1 k (j+1) more ((Zg L).length:Int) (i:Int) m.1 m.2.1 m.2.2 b=_
   conv=>lhs;unfold Zqb.l1
   rw [Xa (by omega:(i:Int)≤((Zg L).length:Int)),Xe,Zv (by omega),e2];exact Za en (Za ef1 (Za ef2 (Za ecut (Za eb (Za ej (Za es (Zhu rfl (Za ed (Za ev (Za et (Ztl rfl rfl)))))))))))
  ·obtain ⟨rfl,hI⟩:=h1
   refine ⟨(i+1,z),⟨by show i+1≤_;omega,.inr hI,by show (Zf z.2).1≤20+2*((i+1:Nat):Int);omega⟩,by show (Zg L).length+1-(i+1)<(Zg L).length+1-i;omega,?_⟩;refine (((((ecut.and (Z76 k2)).and ej).and (Zm2 hs)).and (hW.view C)).and (Zmy b hbl)).mono fun k ⟨⟨⟨⟨⟨ecut,eb⟩,ej⟩,es⟩,ev⟩,et⟩ j=>?_
   show Zqb.l1 k (j+1) more ((Zg L).length:Int) (i:Int) m.1 m.2.1 m.2.2 b=_
   conv=>lhs;unfold Zqb.l1
   rw [Xa (by omega:(i:Int)≤((Zg L).length:Int)),Xe,Zv (by omega),e2];exact Za en (Za ef1 (Za ef2 (Za ecut (Za eb (Za ej (Za es (Ztl rfl (Za ev (Za et (Ztl rfl rfl))))))))))
 ·left
  refine ⟨_,Zc.of fun k j=>?_,m,rfl,q1.idle (by omega)⟩;show Zqb.l1 k (j+1) more ((Zg L).length:Int) (i:Int) m.1 m.2.1 m.2.2 b=_
  conv=>lhs;unfold Zqb.l1
  rw [Xb (by omega:¬(i:Int)≤((Zg L).length:Int))];rfl
end
theorem Zrhb:Zc fun k=>Zqo k (Zb 0) (Zb 0)=some (Zb (Zuc 0 0)):=by
 refine Zc.ge 25 fun k hk=>?_
 unfold Zqo
 exact Za (Z7x 0 k (by omega)) (Ztl rfl (Za (Z7x 0 k (by omega)) (Ztl rfl (Za (Zq9 0 0 (by decide) (by decide) (by omega)) rfl))))
theorem Zqb.proved:Zqb.Pure:=by
 intro code more hcode hmore
 by_cases hb:1048576<code.length∨1048576<more.length
 ·refine ⟨0,?_⟩
  unfold Zqb
  have e:(decide (1048576<(code.length:Int))||decide (1048576<(more.length:Int)))=true:=by
   rw [Bool.or_eq_true,decide_eq_true_eq,decide_eq_true_eq];omega
  rw [e];rfl
 have hc1:code.length≤1048576:=by omega
 have hc2:more.length≤1048576:=by omega
 have hsz:(decide (1048576<(code.length:Int))||decide (1048576<(more.length:Int)))=false:=by
  rw [Xb (by omega:¬(1048576<(code.length:Int))),Xb (by omega:¬(1048576<(more.length:Int)))];rfl
 have hbytes:∀x∈more,0≤x∧x<256:=fun x hx=>by
  have h:(Lit.int .u8 x).wf=true:=hmore.2 x hx;simp [Lit.wf,IntKind.min,IntKind.max,IntKind.signed,IntKind.bits] at h;omega
 obtain ⟨⟨a,b⟩,⟨ha,hbb⟩,ed⟩:=Zygb code hc1
 have ha:a.length≤100:=ha
 have hbb:b.length≤100:=hbb
 have ed:Zc fun k=>Zfl k code=some (a,b):=ed
 by_cases good:Zvb a=true∧Zvb b=true∧a.length=b.length
 ·obtain ⟨ga,gb,gab⟩:=good
  obtain ⟨r,⟨m,L,nd,st,dg,w,hr,hT⟩,er⟩:=Zvfb ga gb gab ed;obtain ⟨p,⟨l,hl,hp⟩,ep⟩:=Zobb ga gb gab;subst hr hp;obtain ⟨C,m1,g1,hF,hg⟩:=hT.good gb;obtain ⟨rl,⟨m2,hrl,hI⟩,el⟩:=Zlhb C (by omega) hbytes hc2 hF hg;subst hrl;have mv:=Zrjb (hF.right C) hF.dev.state;rw [hF.log.log] at mv;have hs2:=hI.1.state;have hm2:Zaf m2=true:=hI.1.right fun q=>by omega
  have b2:=Z2ib hm2 hs2;rw [hI.1.blocks] at b2
  have hlen:(Zb (Zuc 0 0)).length=24:=by
   have:=Zj1 (v:=0) (w:=0) rfl;rw [Zmq] at this;simpa using this
  obtain ⟨k,⟨⟨⟨⟨⟨⟨⟨⟨er,ep⟩,g1⟩,mv⟩,el⟩,s2⟩,b2⟩,tb⟩,fr⟩⟩:=((((((((er.and ep).and (Zbs g1)).and mv).and el).and (Zm2 hs2)).and b2).and (Zmy b (by omega))).and Zrhb).ex;refine ⟨k,?_⟩;unfold Zqb;rw [hsz,Xf];refine Za er (Za ep (Ztl rfl (Za g1 (Ztl rfl (Za mv (Za el ?_))))));refine Za s2 (Zhu rfl (Za b2 (Za tb (Zhu rfl (Za fr ?_)))));rw [hlen];rfl
 ·obtain ⟨r,⟨x,y,z,hr⟩,er⟩:=Zwfb ha hbb good ed
  obtain ⟨p,⟨hp,_⟩,ep⟩:=Znbb (a:=a) (b:=b) (by omega) (by omega) good;subst hr;obtain ⟨k,⟨⟨⟨er,ep⟩,e1⟩,e2⟩⟩:=(((er.and ep).and (Zh2 (a:=a) (by omega))).and (Zznb (a:=a) (by omega))).ex;refine ⟨k,?_⟩;unfold Zqb;rw [hsz,Xf];refine Za er (Za ep (Zhu (by simpa using hp) (Za e1 (Za e2 ?_))));simp
end Go.Proofs.Qz
namespace Go.Proofs.YtmohoeinamddcaaGreatDoor.fnFold
open Go Go.ChangeShapes Go.WideShapes Go.ChangeAt Go.RowKit Go.Proofs.Qz
set_option linter.unusedVariables false
theorem own:ownKnob Ya.godebug=none:=by kernel_rfl
theorem Zw2:laidOutB Ya=true:=by kernel_rfl
theorem go (k:Nat) (y0:List Int) (y1:List Int):(Zqb.con k).f [Z8t false (.sl (.int .u8)) y0,Z8t false (.sl (.int .u8)) y1] = .opt (Zdb Zqb.sig.outs) (Zqb k y0 y1) Zqb.sig.enc:=by kernel_rfl
abbrev Z2u:List (String×DataW Unit):=[("loop.example/g00668/impl.digestStart",Rows.laid_loop_example_g00668_impl_digestStart),("loop.example/g00668/impl.digestRounds",Rows.laid_loop_example_g00668_impl_digestRounds)]
theorem Zvgb (os:Os) (args:Array Value):laidMetH Ya Z2u ((World.doorLaid Ya 19 os).forCall (fun _ _=>0) ⟨#[],args,[]⟩).memory:=
 laidMetH_of_parts3 (fuel:=8) (laidMet_of_run' 8 (by kernel_rfl) (by kernel_rfl)) (by kernel_rfl) (by kernel_rfl)
theorem globals {W:World} (h:laidMetH Ya Z2u W):GlW W:=by
 rw [MakeChecks.laidMetH_plain _ _ _ (by kernel_rfl)] at h
 intro n r l e
 unfold GL at e
 split at e
 ·cases e;exact Zeab h (name:= "loop.example/g00668/impl.digestStart") (k:=.u32) (zs:=Zqm) (Yg (i:=0) (by kernel_rfl)) (n:=8) (t:=223) (e:=218) (by kernel_rfl) (by kernel_rfl) (by kernel_rfl) (by kernel_rfl) (by kernel_rfl) (by kernel_rfl)
 ·cases e;exact Zeab h (name:= "loop.example/g00668/impl.digestRounds") (k:=.u32) (zs:=Zrm) (Yg (i:=1) (by kernel_rfl)) (n:=64) (t:=240) (e:=218) (by kernel_rfl) (by kernel_rfl) (by kernel_rfl) (by kernel_rfl) (by kernel_rfl) (by kernel_rfl)
 ·cases e
set_option maxRecDepth 100000 in
theorem lifted (os:Os) (started:os.Started) (H:Type) (enc:TypeId×Value→H):
  ReturnsInHanded {} Yc os 3 .any (fun w args=>(Rows.fnFoldSpec.pre enc Ya Yb [] false w args∧laidMetH Ya Z2u w)∧sizedMet enc Ya Yb (OpenSpec.ofChange Rows.fnFoldSpec) false w args) (Rows.fnFoldSpec.post enc Ya Yb false true false false):=by
 refine returnsInHanded_of_change_and (C:=Yc) (X:=fun w _=>laidMetH Ya Z2u w) (fun _ _ _ hh h=>h.of_heap hh) own started (by kernel_rfl) Yd
  (ChangeSpec.witness_shaped (enc:=enc) (C:=Yc) (os:=os) (X:=fun w _=>laidMetH Ya Z2u w) false (World.doorLaid Ya 19 os) #[.slice none 0 0,.slice none 0 0] 8 rfl (World.shaped_of_RefB (by kernel_rfl) (by kernel_rfl)) (by kernel_rfl) (by kernel_rfl) (by kernel_rfl) (Zvgb os _)) ?_
 intro W base args ds gs before hval0 hW hcnd hsz0 hL _
 have hsz:(DataW.weightsEach Ya (Yb.params.toList++Rows.fnFoldSpec.plain.varTypes Ya) (ds++gs)).all (·≤reachBytes)=true:=hsz0
 have hval:∀(j:Nat) t v,Yb.params[j]? = some t→args[j]? = some v→Value.okWide Ya W .any base t v:=hval0
 have hW':=hW
 obtain ⟨p,q,hA0,hV,rfl,hfz,hnd⟩:=hW
 have hA:DataW.TrodAll enc Ya W 0 (fun _=>true) true Yb.params.toList args.toList ds p:=hA0
 rw [Yk] at hA hval hsz
 obtain ⟨v0,vs0,d0,ds0,p0,q0,hargs,rfl,rfl,h0,r0⟩:=trodAll_cons hA
 obtain ⟨v1,vs1,d1,ds1,p1,q1,rfl,rfl,rfl,h1,r1⟩:=trodAll_cons r0
 obtain ⟨rfl,rfl,rfl⟩:=trodAll_nil r1
 obtain rfl:args = #[v0,v1]:=by cases args;simp_all
 obtain ⟨_,_,_,_,gd0,_,_,_,_,_,gd1,_,rfl,_⟩:=trodVars_two hV
 have lt0:=Zceb h0
 have z0:=Zpeb hsz (j:=0) (t:=22) rfl rfl
 obtain ⟨y0,b0,c0⟩:=Zo6 (ty:=(.sl (.int .u8))) (n:=20) (ag:=false) (by kernel_rfl) (by kernel_rfl) (hval 0 22 v0 rfl rfl) h0 z0
 have lt1:=Zceb h1
 have z1:=Zpeb hsz (j:=1) (t:=22) rfl rfl
 obtain ⟨y1,b1,c1⟩:=Zo6 (ty:=(.sl (.int .u8))) (n:=20) (ag:=false) (by kernel_rfl) (by kernel_rfl) (hval 1 22 v1 rfl rfl) h1 z1
 obtain ⟨k,hp⟩:=Zqb.proved y0 y1 b0 b1
 have hrr:((Zqb.con k).f [Z8t false (.sl (.int .u8)) y0,Z8t false (.sl (.int .u8)) y1]).val=some ⟨[.val false [.leaf (.bool true)]],[]⟩:=by
  refine (congrArg CR.val (go k y0 y1)).trans ?_;rw [hp]
  kernel_rfl
 refine (Zxkb (Zqb.ok k) hrr (globals hL) (vs:=[v0,v1]) (Zi7 (c0 _) (Zi7 (c1 _) Z9fb))).mono fun e W' ⟨he,bel0⟩=>?_
 have bel:Below W.heap.size W W':=bel0
 subst he
 exact ⟨_,rfl,_,_,_,[],_,_,hW',trodAll_mk1 (Zrob Tryz.underlying4 _),(trodAll_cons_mk (Below.trod Zw2 (by kernel_rfl) (of_decide_eq_true (by kernel_rfl)) h0 bel lt0) (trodAll_cons_mk (Below.trod Zw2 (by kernel_rfl) (of_decide_eq_true (by kernel_rfl)) h1 bel lt1) trodAll_mk0)),Below.trodVars Zw2 bel (by kernel_rfl) hV,bel.frame _,fun h=>by cases h⟩
theorem k10:(Rows.fnFoldRow.inPlace==Ya.inPlace 3)=true:=by kernel_rfl
theorem k11:(Rows.fnFoldRow.unfollowed==Ya.unfollowed 3)=true:=by kernel_rfl
theorem k12:(Rows.fnFoldRow.recurses==Ya.recurses 3)=true:=by kernel_rfl
theorem k13:(Rows.fnFoldRow.named==Ya.varsNamed 3)=true:=by kernel_rfl
theorem Zegb:joinedFacts Ya 3 Yb Rows.fnFoldSpec Rows.fnFoldRow=true:=by
 unfold joinedFacts
 rw [k10,k11,k12,k13]
 kernel_rfl
theorem over:Rows.fnFoldRow.holds Tryz.pinned (OpenSpec.ofChange Rows.fnFoldSpec):=
 OpenClaim.holds_of_wide 3 Yb rfl rfl rfl rfl rfl rfl rfl ⟨rfl,rfl,rfl,rfl,rfl⟩ rfl rfl rfl rfl rfl (by kernel_rfl) Yd Zegb
  (of_decide_eq_true (by kernel_rfl)) (by unfold Func.isWrapper;first | (rw [Xc (by decide +kernel)];kernel_rfl) | (rw [Xd (by decide +kernel)];exact ⟨rfl,rfl⟩))
  (fun os started H enc _=>lifted os started H enc)
theorem proved:Rows.FnFoldSaid:=over
theorem t1:Rows.fnFoldRow.wfByText (OpenSpec.ofChange Rows.fnFoldSpec)=true:=by kernel_rfl
theorem t2:Ya.mainIs=some ((true, "5792118fd4b9991cbe3f715af41dc01fa433b782bcf80f19a45965a9c9476280").1,(true, "5792118fd4b9991cbe3f715af41dc01fa433b782bcf80f19a45965a9c9476280").2.toList):=by kernel_rfl
theorem t3:false=Ya.looks []:=by kernel_rfl
theorem t4:false=Rows.fnFoldRow.goesBy Ya:=by kernel_rfl
theorem tied:Rows.FnFoldCardSaid:=
 Claim7.holds_tied_plain_at .later [] [.data,.data] true (true, "5792118fd4b9991cbe3f715af41dc01fa433b782bcf80f19a45965a9c9476280") false
  proved (fun _ h=>by cases h) t1 (fun _ h=>by cases h) fnFold_row_tie rfl ⟨rfl,rfl⟩ t2 rfl
  (fun f fn hf hfn=>by
   obtain rfl:f=3:=Yj.inj ((show Ya.funcNamed "loop.example/g00668/laws.FnFold" = some 3 by kernel_rfl).symm.trans hf) |>.symm;obtain rfl:fn=Yb:=(Yj.inj (Yd.symm.trans hfn)).symm
   exact ⟨t3,fun j t ht=>by
    rw [Yk] at ht;have hm:t∈[22,22]:=by simpa using Array.mem_of_getElem? ht
    have hall:([22,22].all fun u=>!Tryz.prog.wantsStandIn u)=true:=by kernel_rfl
    exact (show Ya.wantsStandIn t=false by simpa using List.all_eq_true.1 hall t hm)⟩)
  t4
end Go.Proofs.YtmohoeinamddcaaGreatDoor.fnFold
namespace Go.Proofs.YtmohoeinamddcaaGreatDoor
theorem fnFold_card:Rows.FnFoldCardSaid:=fnFold.tied
#print axioms fnFold_card
end Go.Proofs.YtmohoeinamddcaaGreatDoor
