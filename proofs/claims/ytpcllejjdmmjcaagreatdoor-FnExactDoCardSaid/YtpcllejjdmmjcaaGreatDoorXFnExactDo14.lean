/- What the law FnExactDo needs, part 15 of 15: the Lean functions of the Go functions that it reaches, with the proofs that the calls come to what they say, and plain facts about them; the last theorem is the law. Conditions: those that each theorem states. Written by a session and by its programs (after the kit's printer). -/
import Derived.Test.YtpcllejjdmmjcaaGreatDoorRows
import Derived.Test.YtpcllejjdmmjcaaGreatDoorCards
import Derived.Test.YtpcllejjdmmjcaaGreatDoorTie
import Derived.Carry
import Derived.Handed
import Derived.LaidMore
import Derived.OpenVars
import Derived.OpenShut
import Derived.ProofKit
import Derived.SevenTiedAt
import Derived.MakeChecks
import Derived.Test.YtpcllejjdmmjcaaGreatDoorXFnExactDo6
import Derived.Test.YtpcllejjdmmjcaaGreatDoorXFnExactDo9
import Derived.Test.YtpcllejjdmmjcaaGreatDoorXFnExactDo13
open Bool renaming not_true → Ya
open Nat renaming add_assoc → Yb
open Option renaming some → Yc
namespace Go.Proofs.Qz
open Go
set_option linter.unusedVariables false
def Zml (n k0:Nat):List (Int×Str):=(List.range n).map (Zhh k0)
theorem Zklb (n k0:Nat):(Zml n k0).length=n:=by simp [Zml]
def Zvn (m:Zq):Nat:=m.2.1.length+2*m.2.2.length
theorem Zilb (m:Zq) (k0:Nat) (h1:m.2.1.length≤1048576) (h2:m.2.2.length≤1048576) (h0:k0≤1048576000):Ze fun k=>Ztk k m (k0:Int)=some (((k0+Zvn m:Nat):Int),(Zti m.2.1.length k0,Zml m.2.2.length (k0+m.2.1.length))):=by
 refine ((Zdbb m.2.1 k0 (by omega)).and (Zbbb m.2.2 (k0+m.2.1.length) (by omega))).mono fun k ⟨e1,e2⟩=>?_
 unfold Ztk
 refine Za (a:=(((k0+Zvn m:Nat):Int),(Zti m.2.1.length k0,Zml m.2.2.length (k0+m.2.1.length)))) ?_ rfl
 unfold Zrp
 refine Za e1 (Za e2 ?_)
 unfold Zvn
 rw [Yb]
 rfl
theorem Zxib (n k0:Nat) (h:k0+2*n<9223372036854775000):Ze fun k=>Zrf k (Zml n k0) (k0:Int)=some ((k0+2*n:Nat):Int):=by
 have hm:=Ze.all (n:=n) (p:=fun i k=>Z0c k ((k0+2*i+1:Nat):Int)=some (mt ((k0+2*i+1:Nat):Int))) fun i hi=>Z3y _ (by omega)
 have hl:=Zklb n k0
 have key:Ze fun k=>Zrf.l0 k k (Zml n k0) (k0:Int) 0=some (.inl ((k0+2*n:Nat):Int)):=by
  refine Z8u (fun k j i=>Zrf.l0 k j (Zml n k0) ((k0+2*i:Nat):Int) (i:Int)) n _ (hm.mono fun k hk i hi j=>?_) (Ze.of fun k j=>?_)
  ·have hx:at? (Zml n k0) (i:Int)=some (Zhh k0 i):=by
    rw [Zi (by rw [hl];exact hi)]
    simp [Zml]
   conv=>lhs;unfold Zrf.l0
   rw [hl,dlt hi,cond_true]
   refine Za hx ?_
   rw [show ((Zhh k0 i).1 != ((k0+2*i:Nat):Int))=false by simp [Zhh],cond_false]
   refine Za hx ?_
   dsimp only
   rw [Zn (n:=k0+2*i) (by omega),Zn (n:=k0+2*i+1) (by omega),Zn (n:=i) (by omega)]
   refine Za (hk i hi) ?_
   rw [show ((Zhh k0 i).2==mt ((k0+2*i+1:Nat):Int))=true by simp [Zhh],Ya,cond_false,show k0+2*i+1+1=k0+2*(i+1) by omega]
  ·conv=>lhs;unfold Zrf.l0
   rw [hl,Zy (Nat.le_refl _)]
   rfl
 refine key.mono fun k hk=>?_
 unfold Zrf
 rw [hk]
 rfl
theorem Zzib (b:Int) (n d k0:Nat) (h1:n≤1048576) (h2:d≤1048576) (h0:k0≤1048576000):Ze fun k=>Zpp k (b,(Zti n k0,Zml d (k0+n))) (k0:Int)=some ((k0+(n+2*d):Nat):Int):=by
 refine ((Z0ib n k0 (by omega)).and (Zxib d (k0+n) (by omega))).mono fun k ⟨e1,e2⟩=>?_
 unfold Zpp
 refine Za (a:=((k0+(n+2*d):Nat):Int)) ?_ ?_
 ·unfold Zur
  refine Za e1 ?_
  rw [decide_eq_false (by omega:¬((k0+n:Nat):Int)<0),cond_false]
  refine Za e2 ?_
  rw [decide_eq_false (by omega:¬((k0+n+2*d:Nat):Int)<0),cond_false,Yb]
 ·rw [decide_eq_false (by omega:¬((k0+(n+2*d):Nat):Int)<0)]
  rfl
theorem Zkhb (m:Zq) (h1:m.2.1.length≤1048576) (h2:m.2.2.length≤1048576):Ze fun k=>Zsk k m m=some true:=by
 refine ((Zj9 m.2.1 (by omega)).and (Zf9 m.2.2 (by omega))).mono fun k ⟨e1,e2⟩=>?_
 unfold Zsk Zop
 rw [e1,e2]
 simp only [bne_self_eq_false,cond_false,Option.bind_some,Ya]
abbrev DoK:=Zq×Str×List Int×Int
theorem Zbhb (d:DoK) (h1:d.1.2.1.length≤100000) (h2:d.1.2.2.length≤100000) (h3:d.2.2.1.length≤100000):∃n:Nat,∃(x:List Str) (y:List (Int×Str)) (z:List Int),Ze fun k=>Zqp k d 1=some ((n:Int),(x,(y,z)))∧Zsn k ((d.1.1,(x,y)),(d.2.1,(z,d.2.2.2))) 1=some (n:Int)∧Zpm k d d=some true:=by
 refine ⟨1+Zvn d.1+d.2.2.1.length,Zti d.1.2.1.length 1,Zml d.1.2.2.length (1+d.1.2.1.length),Zqm d.2.2.1.length (1+Zvn d.1),?_⟩
 have hN:Zvn d.1=d.1.2.1.length+2*d.1.2.2.length:=rfl
 refine (((((Zilb d.1 1 (by omega) (by omega) (by omega)).and (Zzib d.1.1 d.1.2.1.length d.1.2.2.length 1 (by omega) (by omega) (by omega))).and (Zkhb d.1 (by omega) (by omega))).and (Zjhb d.2.2.1 (by omega))).and (Ze.ge 100001 fun k hk=>hk)).mono fun k ⟨⟨⟨⟨e1,e2⟩,e3⟩,e4⟩,hk⟩=>⟨?_,?_,?_⟩
 ·unfold Zqp
  exact Za e1 (Za (Zhlb d.2.2.1 (1+Zvn d.1) (by omega) (by omega)) rfl)
 ·unfold Zsn
  refine Za e2 ?_
  rw [decide_eq_false (by omega:¬((1+(d.1.2.1.length+2*d.1.2.2.length):Nat):Int)<0),cond_false]
  refine Za (Zyib d.2.2.1.length (1+Zvn d.1) (by omega) (by omega)) ?_
  rw [decide_eq_false (by omega:¬((1+Zvn d.1+d.2.2.1.length:Nat):Int)<0)]
  rfl
 ·unfold Zpm
  refine Za e3 ?_
  rw [Ya,cond_false,show (d.2.1==d.2.1)=true by simp,Ya,cond_false]
  refine Za e4 ?_
  rw [Ya,cond_false,show (d.2.2.2 != d.2.2.2)=false by simp]
  rfl
end Go.Proofs.Qz
namespace Go.Proofs.Qz
open Go
def Z9g.Pure:Prop:=∀(y0:G28) (y1:G54),Bnd T28 y0→Bnd T54 y1→∃k:Nat,Z9g k y0 y1=some true
end Go.Proofs.Qz
namespace Go.Proofs.Qz
open Go
set_option linter.unusedVariables false
theorem Z9g.proved:Z9g.Pure:=by
 intro m c hm hc
 have hbig:Z50 m.2:=⟨⟨hm.2.1.1,fun x hx=>hm.2.1.2 x hx⟩,hm.2.2.1,fun x hx=>(hm.2.2.2 x hx).2⟩
 obtain ⟨u,hu,ev⟩:=Z9ob m 1048576 hbig (by omega) (by omega)
 by_cases hu0:u<0
 ·obtain ⟨k,g1⟩:=ev.ex
  refine ⟨k,?_⟩
  unfold Z9g
  refine Za g1 ?_
  rw [decide_eq_true hu0]
  rfl
 ·have hf:=hu.2 (by omega)
  have hm1:=hf.1.1
  have hm2:=hf.2.1
  obtain ⟨z,hz⟩:=Z6ob c u hc.2.2.2.1 hc.2.2.2.2.2.2.2 (by omega) (by omega)
  have htc:Ztn c=some c:=rfl
  obtain ⟨bi,bs⟩:=Zigb m c (by omega) (by omega)
  obtain ⟨hs1,hs2,hs3⟩:=Zchb m c
  obtain ⟨r,hr,hr0⟩:=Zjlb m (by omega) (by omega)
  obtain ⟨n,x,y,w,hmk⟩:=Zbhb (doR m c) (by omega) (by omega) (by omega)
  obtain ⟨k,⟨⟨⟨⟨⟨⟨g1,g5⟩,g6⟩,g7⟩,g8⟩,g9⟩,g10,g11,g12⟩⟩:=((((((ev.and (Zipb m 1048576 hf (by omega))).and (Zlhb m 1048576 hf (by omega))).and bi).and bs).and hr).and hmk).ex
  refine ⟨k,?_⟩
  unfold Z9g
  refine Za g1 ?_
  rw [decide_eq_false hu0,cond_false]
  refine Za hz ?_
  cases decide (z<0) with
  | true=>rfl
  | false=>
   rw [cond_false]
   refine Za g5 (Za htc (Za g8 (Za g5 (Za htc (Za g7 (Za g12 ?_))))))
   rw [Ya,cond_false]
   refine Za g5 (Za g6 ?_)
   rw [Ya,cond_false]
   refine Za g9 ?_
   rw [decide_eq_false (by omega:¬r.1<0),cond_false]
   refine Za g12 ?_
   rw [Ya,cond_false]
   refine Za g10 (Za g11 ?_)
   rw [decide_eq_false (by omega:¬((n:Nat):Int)<0),cond_false,show (((n:Nat):Int) != ((n:Nat):Int))=false by simp,cond_false]
   refine Za g5 (Za htc (Za g7 (Za g12 ?_)))
   rw [Ya,cond_false]
   refine Za g11 ?_
   rw [decide_eq_false (by omega:¬((n:Nat):Int)<0),cond_false,show (((n:Nat):Int) != ((n:Nat):Int))=false by simp]
   rfl
end Go.Proofs.Qz
namespace Go.Proofs.YtpcllejjdmmjcaaGreatDoor.fnExactDo
open Go Go.ChangeShapes Go.WideShapes Go.ChangeAt Go.RowKit Go.Proofs.Qz
set_option linter.unusedVariables false
theorem own:ownKnob Tryz.prog.godebug=none:=by kernel_rfl
theorem Zx3:laidOutB Tryz.prog=true:=by kernel_rfl
theorem go (k:Nat) (y0:G28) (y1:G54):(Z9g.con k).f [Zuu true T28 y0,Zuu true T54 y1] = .opt (Zab Z9g.sig.outs) (Z9g k y0 y1) Z9g.sig.enc:=by kernel_rfl
abbrev Zov:List (String×DataW Unit):=[("loop.example/g00668/impl.digestStart",Rows.laid_loop_example_g00668_impl_digestStart),("loop.example/g00668/impl.digestRounds",Rows.laid_loop_example_g00668_impl_digestRounds)]
theorem Zdhb (os:Os) (args:Array Value):laidMetH Tryz.prog Zov ((World.doorLaid Tryz.prog 19 os).forCall (fun _ _=>0) ⟨#[],args,[]⟩).memory:=
 laidMetH_of_parts3 (fuel:=8) (laidMet_of_run' 8 (by kernel_rfl) (by kernel_rfl)) (by kernel_rfl) (by kernel_rfl)
theorem globals {W:World} (h:laidMetH Tryz.prog Zov W):GlW W:=by
 rw [MakeChecks.laidMetH_plain _ _ _ (by kernel_rfl)] at h
 intro n r l e
 unfold GL at e
 split at e
 ·cases e;exact Ztab h (name:= "loop.example/g00668/impl.digestStart") (k:=.u32) (zs:=Z6m) (List.mem_of_getElem? (i:=0) (by kernel_rfl)) (n:=8) (t:=302) (e:=297) (by kernel_rfl) (by kernel_rfl) (by kernel_rfl) (by kernel_rfl) (by kernel_rfl) (by kernel_rfl)
 ·cases e;exact Ztab h (name:= "loop.example/g00668/impl.digestRounds") (k:=.u32) (zs:=Z7m) (List.mem_of_getElem? (i:=1) (by kernel_rfl)) (n:=64) (t:=324) (e:=297) (by kernel_rfl) (by kernel_rfl) (by kernel_rfl) (by kernel_rfl) (by kernel_rfl) (by kernel_rfl)
 ·cases e
set_option maxRecDepth 100000 in
theorem lifted (os:Os) (started:os.Started) (H:Type) (enc:TypeId×Value→H):
  ReturnsInHanded {} Tryz.checked os 4 .any (fun w args=>(Rows.fnExactDoSpec.pre enc Tryz.prog Tryz.f4 [] false w args∧laidMetH Tryz.prog Zov w)∧sizedMet enc Tryz.prog Tryz.f4 (OpenSpec.ofChange Rows.fnExactDoSpec) false w args) (Rows.fnExactDoSpec.post enc Tryz.prog Tryz.f4 false true false false):=by
 refine returnsInHanded_of_change_and (C:=Tryz.checked) (X:=fun w _=>laidMetH Tryz.prog Zov w) (fun _ _ _ hh h=>h.of_heap hh) own started (by kernel_rfl) Tryz.func4
  (ChangeSpec.witness_shaped (enc:=enc) (C:=Tryz.checked) (os:=os) (X:=fun w _=>laidMetH Tryz.prog Zov w) false (World.doorLaid Tryz.prog 19 os) #[.agg #[.int .i64 0,.slice none 0 0,.slice none 0 0],.agg #[.int .i64 0,.int .i64 0,.int .i64 0,.string ByteArray.empty,.int .i64 0,.int .i64 0,.int .i64 0,.string ByteArray.empty]] 8 rfl (World.shaped_of_RefB (by kernel_rfl) (by kernel_rfl)) (by kernel_rfl) (by kernel_rfl) (by kernel_rfl) (Zdhb os _)) ?_
 intro W base args ds gs before hval0 hW hcnd hsz0 hL _
 have hsz:(DataW.weightsEach Tryz.prog (Tryz.f4.params.toList++Rows.fnExactDoSpec.plain.varTypes Tryz.prog) (ds++gs)).all (·≤reachBytes)=true:=hsz0
 have hval:∀(j:Nat) t v,Tryz.f4.params[j]? = some t→args[j]? = some v→Value.okWide Tryz.prog W .any base t v:=hval0
 have hW':=hW
 obtain ⟨p,q,hA0,hV,rfl,hfz,hnd⟩:=hW
 have hA:DataW.TrodAll enc Tryz.prog W 0 (fun _=>true) true Tryz.f4.params.toList args.toList ds p:=hA0
 rw [Tryz.params4] at hA hval hsz
 obtain ⟨v0,vs0,d0,ds0,p0,q0,hargs,rfl,rfl,h0,r0⟩:=trodAll_cons hA
 obtain ⟨v1,vs1,d1,ds1,p1,q1,rfl,rfl,rfl,h1,r1⟩:=trodAll_cons r0
 obtain ⟨rfl,rfl,rfl⟩:=trodAll_nil r1
 obtain rfl:args = #[v0,v1]:=by cases args;simp_all
 obtain ⟨_,_,_,_,gd0,_,_,_,_,_,gd1,_,rfl,_⟩:=trodVars_two hV
 have lt0:=Z0eb h0
 have z0:=Zbfb hsz (j:=0) (t:=63) rfl rfl
 obtain ⟨y0,b0,c0⟩:=Zn7 (ty:=T28) (n:=20) (ag:=true) (by kernel_rfl) (by kernel_rfl) (hval 0 63 v0 rfl rfl) h0 z0
 have lt1:=Z0eb h1
 have z1:=Zbfb hsz (j:=1) (t:=66) rfl rfl
 obtain ⟨y1,b1,c1⟩:=Zn7 (ty:=T54) (n:=20) (ag:=true) (by kernel_rfl) (by kernel_rfl) (hval 1 66 v1 rfl rfl) h1 z1
 obtain ⟨k,hp⟩:=Z9g.proved y0 y1 b0 b1
 have hrr:((Z9g.con k).f [Zuu true T28 y0,Zuu true T54 y1]).val=some ⟨[.val false [.leaf (.bool true)]],[]⟩:=by
  refine (congrArg CR.val (go k y0 y1)).trans ?_
  rw [hp]
  kernel_rfl
 refine (Zykb (Z9g.ok k) hrr (globals hL) (vs:=[v0,v1]) (Zd8 (c0 _) (Zd8 (c1 _) Ztgb))).mono fun e W' ⟨he,bel0⟩=>?_
 have bel:Below W.heap.size W W':=bel0
 subst he
 exact ⟨_,rfl,_,_,_,[],_,_,hW',trodAll_mk1 (Ztob Tryz.underlying4 _),(trodAll_cons_mk (Below.trod Zx3 (by kernel_rfl) (of_decide_eq_true (by kernel_rfl)) h0 bel lt0) (trodAll_cons_mk (Below.trod Zx3 (by kernel_rfl) (of_decide_eq_true (by kernel_rfl)) h1 bel lt1) trodAll_mk0)),Below.trodVars Zx3 bel (by kernel_rfl) hV,bel.frame _,fun h=>by cases h⟩
theorem k10:(Rows.fnExactDoRow.inPlace==Tryz.prog.inPlace 4)=true:=by kernel_rfl
theorem k11:(Rows.fnExactDoRow.unfollowed==Tryz.prog.unfollowed 4)=true:=by kernel_rfl
theorem k12:(Rows.fnExactDoRow.recurses==Tryz.prog.recurses 4)=true:=by kernel_rfl
theorem k13:(Rows.fnExactDoRow.named==Tryz.prog.varsNamed 4)=true:=by kernel_rfl
theorem Zygb:joinedFacts Tryz.prog 4 Tryz.f4 Rows.fnExactDoSpec Rows.fnExactDoRow=true:=by
 unfold joinedFacts
 rw [k10,k11,k12,k13]
 kernel_rfl
theorem Z2p:Rows.fnExactDoRow.holds Tryz.pinned (OpenSpec.ofChange Rows.fnExactDoSpec):=
 OpenClaim.holds_of_wide 4 Tryz.f4 rfl rfl rfl rfl rfl rfl rfl ⟨rfl,rfl,rfl,rfl,rfl⟩ rfl rfl rfl rfl rfl (by kernel_rfl) Tryz.func4 Zygb
  (of_decide_eq_true (by kernel_rfl)) (by unfold Func.isWrapper;first | (rw [if_pos (by decide +kernel)];kernel_rfl) | (rw [if_neg (by decide +kernel)];exact ⟨rfl,rfl⟩))
  (fun os started H enc _=>lifted os started H enc)
theorem proved:Rows.FnExactDoSaid:=Z2p
theorem t1:Rows.fnExactDoRow.wfByText (OpenSpec.ofChange Rows.fnExactDoSpec)=true:=by kernel_rfl
theorem t2:Tryz.prog.mainIs=some ((true, "933041b7a138b4b8385d4c8b62717555527b224f332a52fd1e388c0e673042bb").1,(true, "933041b7a138b4b8385d4c8b62717555527b224f332a52fd1e388c0e673042bb").2.toList):=by kernel_rfl
theorem t3:false=Tryz.prog.looks []:=by kernel_rfl
theorem t4:false=Rows.fnExactDoRow.goesBy Tryz.prog:=by kernel_rfl
theorem tied:Rows.FnExactDoCardSaid:=
 Claim7.holds_tied_plain_at .later [] [.data,.data] true (true, "933041b7a138b4b8385d4c8b62717555527b224f332a52fd1e388c0e673042bb") false
  proved (fun _ h=>by cases h) t1 (fun _ h=>by cases h) fnExactDo_row_tie rfl ⟨rfl,rfl⟩ t2 rfl
  (fun f fn hf hfn=>by
   obtain rfl:f=4:=Yc.inj ((show Tryz.prog.funcNamed "loop.example/g00668/laws.FnExactDo" = some 4 by kernel_rfl).symm.trans hf) |>.symm
   obtain rfl:fn=Tryz.f4:=(Yc.inj (Tryz.func4.symm.trans hfn)).symm
   exact ⟨t3,fun j t ht=>by
    rw [Tryz.params4] at ht
    have hm:t∈[63,66]:=by simpa using Array.mem_of_getElem? ht
    have hall:([63,66].all fun u=>!Tryz.prog.wantsStandIn u)=true:=by kernel_rfl
    exact (show Tryz.prog.wantsStandIn t=false by simpa using List.all_eq_true.1 hall t hm)⟩)
  t4
end Go.Proofs.YtpcllejjdmmjcaaGreatDoor.fnExactDo
namespace Go.Proofs.YtpcllejjdmmjcaaGreatDoor
theorem fnExactDo_card:Rows.FnExactDoCardSaid:=fnExactDo.tied
#print axioms fnExactDo_card
end Go.Proofs.YtpcllejjdmmjcaaGreatDoor
