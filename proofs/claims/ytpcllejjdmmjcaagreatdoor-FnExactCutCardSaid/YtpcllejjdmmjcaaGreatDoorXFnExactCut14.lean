/- What the law FnExactCut needs, part 15 of 15: the Lean functions of the Go functions that it reaches, with the proofs that the calls come to what they say, and plain facts about them; the last theorem is the law. Conditions: those that each theorem states. Written by a session and by its programs (after the kit's printer). -/
import Derived.Test.YtpcllejjdmmjcaaGreatDoorRows
import Derived.Test.YtpcllejjdmmjcaaGreatDoorCards
import Derived.Test.YtpcllejjdmmjcaaGreatDoorTie
import Derived.Carry
import Derived.Handed
import Derived.LaidMore
import Derived.OpenVars
import Derived.OpenShut
import Derived.ProofKit
import Derived.SevenTiedAt
import Derived.MakeChecks
import Derived.Test.YtpcllejjdmmjcaaGreatDoorXFnExactCut6
import Derived.Test.YtpcllejjdmmjcaaGreatDoorXFnExactCut9
import Derived.Test.YtpcllejjdmmjcaaGreatDoorXFnExactCut10
import Derived.Test.YtpcllejjdmmjcaaGreatDoorXFnExactCut13
open Go.Proofs.Tryz renaming prog → Ya, f5 → Yc, checked → Yf, func5 → Yg, params5 → Yo
open List renaming range → Yb, append_nil → Yi, drop_length → Yj, mem_of_getElem? → Yk
open Bool renaming not_true → Yd
open Nat renaming le_refl → Ye, add_assoc → Yl
open Int renaming toNat_natCast → Yh
open Option renaming bind_some → Ym, some → Yn
namespace Go.Proofs.Qz
open Go
set_option linter.unusedVariables false
def Zzbb (n k0:Nat):List Int:=(Yb n).map fun (i:Nat)=>((k0+i:Nat):Int)
theorem Z4lb (l:List Int) (k0:Nat) (h:k0+l.length<9223372036854775000) {k:Nat} (hk:l.length<k):Zje k l (k0:Int)=some (((k0+l.length:Nat):Int),Zzbb l.length k0):=by
 have key:=Zrb (fun j i=>Zje.l0 j ((k0+i:Nat):Int) (i:Int) ((Yb i).map (fun (i:Nat)=>((k0+i:Nat):Int))++l.drop i)) l.length (((k0+l.length:Nat):Int),Zzbb l.length k0) (fun i hi j=>by
  have hlen:=Z6p l (fun (i:Nat)=>((k0+i:Nat):Int)) i (by omega);show Zje.l0 (j+1) _ (i:Int) _=Zje.l0 j _ _ _;rw [Zje.l0,hlen,dlt hi,Zi (by rw [hlen];exact hi)];simp only [Xe,Ym];rw [Yh,Zdw l (fun (i:Nat)=>((k0+i:Nat):Int)) i hi,Zn (by omega),Zn (by omega)];rfl) (fun j=>by
  have hlen:=Z6p l (fun (i:Nat)=>((k0+i:Nat):Int)) l.length (Ye _);show Zje.l0 (j+1) _ (l.length:Int) _=_;rw [Zje.l0,hlen,Zv (Ye _)];simp only [Xf];rw [Yj,Yi];rfl) k hk
 have key:Zje.l0 k (k0:Int) 0 l=_:=key
 unfold Zje
 rw [key]
 rfl
def Zii (k0 i:Nat):Int×Str:=(((k0+2*i:Nat):Int),mt ((k0+2*i+1:Nat):Int))
theorem Z3lb (l:List (Int×Str)) (k0:Nat) (h:k0+2*l.length<9223372036854775000):Ze fun k=>Z7e k l (k0:Int)=some (((k0+2*l.length:Nat):Int),(Yb l.length).map (Zii k0)):=by
 have hm:=Ze.all (n:=l.length) (p:=fun i k=>Z2c k ((k0+2*i+1:Nat):Int)=some (mt ((k0+2*i+1:Nat):Int))) fun i hi=>Zlz _ (by omega)
 have key:Ze fun k=>Z7e.l0 k k (k0:Int) 0 l=some (((k0+2*l.length:Nat):Int),(Yb l.length).map (Zii k0)):=by
  refine Zov (fun k j i=>Z7e.l0 k j ((k0+2*i:Nat):Int) (i:Int) ((Yb i).map (Zii k0)++l.drop i)) l.length _ (hm.mono fun k hk i hi j=>?_) (Ze.of fun k j=>?_)
  ·have hlen:=Z6p l (Zii k0) i (by omega)
   obtain ⟨x,hx⟩:∃x,at? ((Yb i).map (Zii k0)++l.drop i) (i:Int)=some x:=⟨_,Zi (by rw [hlen];exact hi)⟩;have hs:=Zdw l (Zii k0) i hi;have h9:∀y,at? (((Yb i).map (Zii k0)++l.drop i).set i y) (i:Int)=some y:=fun y=>Zsgb (by rw [hlen];exact hi)
   conv=>lhs;unfold Z7e.l0
   rw [hlen,dlt hi,Xe];refine Za hx (Za hx ?_);dsimp only;rw [Zn (n:=k0+2*i) (by omega),Zn (n:=k0+2*i+1) (by omega),Zn (n:=i) (by omega),Yh];refine Za (hk i hi) (Za (h9 _) (Za (h9 _) ?_));rw [List.set_set];show Z7e.l0 k j _ _ (((Yb i).map (Zii k0)++l.drop i).set i (Zii k0 i))=_;rw [hs,show k0+2*i+1+1=k0+2*(i+1) by omega]
  ·have hlen:=Z6p l (Zii k0) l.length (Ye _)
   conv=>lhs;unfold Z7e.l0
   rw [hlen,Zv (Ye _),Yj,Yi];rfl
 refine key.mono fun k hk=>?_
 unfold Z7e
 exact Za hk rfl
def Zsl (n k0:Nat):List (Int×Str):=(Yb n).map (Zii k0)
theorem Z6lb (n k0:Nat):(Zsl n k0).length=n:=by simp [Zsl]
def Z7r (m:Zr):Nat:=m.2.1.length+2*m.2.2.length
theorem Zybb (m:Zr) (k0:Nat) (h1:m.2.1.length≤1048576) (h2:m.2.2.length≤1048576) (h0:k0≤1048576000):Ze fun k=>Zxm k m (k0:Int)=some (((k0+Z7r m:Nat):Int),(Z9j m.2.1.length k0,Zsl m.2.2.length (k0+m.2.1.length))):=by
 refine ((Z5lb m.2.1 k0 (by omega)).and (Z3lb m.2.2 (k0+m.2.1.length) (by omega))).mono fun k ⟨e1,e2⟩=>?_
 unfold Zxm
 refine Za (a:=(((k0+Z7r m:Nat):Int),(Z9j m.2.1.length k0,Zsl m.2.2.length (k0+m.2.1.length)))) ?_ rfl
 unfold Z5r
 refine Za e1 (Za e2 ?_)
 unfold Z7r
 rw [Yl]
 rfl
theorem Zgjb (n k0:Nat) (h:k0+2*n<9223372036854775000):Ze fun k=>Zvf k (Zsl n k0) (k0:Int)=some ((k0+2*n:Nat):Int):=by
 have hm:=Ze.all (n:=n) (p:=fun i k=>Z2c k ((k0+2*i+1:Nat):Int)=some (mt ((k0+2*i+1:Nat):Int))) fun i hi=>Zlz _ (by omega)
 have hl:=Z6lb n k0
 have key:Ze fun k=>Zvf.l0 k k (Zsl n k0) (k0:Int) 0=some (.inl ((k0+2*n:Nat):Int)):=by
  refine Zov (fun k j i=>Zvf.l0 k j (Zsl n k0) ((k0+2*i:Nat):Int) (i:Int)) n _ (hm.mono fun k hk i hi j=>?_) (Ze.of fun k j=>?_)
  ·have hx:at? (Zsl n k0) (i:Int)=some (Zii k0 i):=by
    rw [Zi (by rw [hl];exact hi)];simp [Zsl]
   conv=>lhs;unfold Zvf.l0
   rw [hl,dlt hi,Xe];refine Za hx ?_;rw [show ((Zii k0 i).1 != ((k0+2*i:Nat):Int))=false by simp [Zii],Xf];refine Za hx ?_;dsimp only;rw [Zn (n:=k0+2*i) (by omega),Zn (n:=k0+2*i+1) (by omega),Zn (n:=i) (by omega)];refine Za (hk i hi) ?_;rw [show ((Zii k0 i).2==mt ((k0+2*i+1:Nat):Int))=true by simp [Zii],Yd,Xf,show k0+2*i+1+1=k0+2*(i+1) by omega]
  ·conv=>lhs;unfold Zvf.l0
   rw [hl,Zv (Ye _)];rfl
 refine key.mono fun k hk=>?_
 unfold Zvf
 rw [hk]
 rfl
theorem Zhjb (b:Int) (n d k0:Nat) (h1:n≤1048576) (h2:d≤1048576) (h0:k0≤1048576000):Ze fun k=>Zwp k (b,(Z9j n k0,Zsl d (k0+n))) (k0:Int)=some ((k0+(n+2*d):Nat):Int):=by
 refine ((Zijb n k0 (by omega)).and (Zgjb d (k0+n) (by omega))).mono fun k ⟨e1,e2⟩=>?_
 unfold Zwp
 refine Za (a:=((k0+(n+2*d):Nat):Int)) ?_ ?_
 ·unfold Z4r
  refine Za e1 ?_;rw [Xb (by omega:¬((k0+n:Nat):Int)<0),Xf];refine Za e2 ?_;rw [Xb (by omega:¬((k0+n+2*d:Nat):Int)<0),Xf,Yl]
 ·rw [Xb (by omega:¬((k0+(n+2*d):Nat):Int)<0)]
  rfl
theorem Z3hb (m:Zr) (h1:m.2.1.length≤1048576) (h2:m.2.2.length≤1048576):Ze fun k=>Zxk k m m=some true:=by
 refine ((Z29 m.2.1 (by omega)).and (Zy9 m.2.2 (by omega))).mono fun k ⟨e1,e2⟩=>?_
 unfold Zxk Zvp
 rw [e1,e2]
 simp only [bne_self_eq_false,Xf,Ym,Yd]
theorem Zzlb (d:Zr×Int) (h1:d.1.2.1.length≤1048576) (h2:d.1.2.2.length≤1048576):∃n:Nat,∃(x:List Str) (y:List (Int×Str)),Ze fun k=>Zxp k d 1=some ((n:Int),(x,y))∧Zzn k ((d.1.1,(x,y)),d.2) 1=some (n:Int)∧Zwm k d d=some true:=by
 refine ⟨1+Z7r d.1,Z9j d.1.2.1.length 1,Zsl d.1.2.2.length (1+d.1.2.1.length),?_⟩
 refine (((Zybb d.1 1 (by omega) (by omega) (by omega)).and (Zhjb d.1.1 d.1.2.1.length d.1.2.2.length 1 (by omega) (by omega) (by omega))).and (Z3hb d.1 (by omega) (by omega))).mono fun k ⟨⟨e1,e2⟩,e3⟩=>⟨?_,?_,?_⟩
 ·unfold Zxp
  exact Za e1 rfl
 ·unfold Zzn
  refine Za e2 ?_;rw [Xb (by omega:¬((1+(d.1.2.1.length+2*d.1.2.2.length):Nat):Int)<0)];rfl
 ·unfold Zwm
  refine Za e3 ?_;rw [Yd,Xf,show (d.2 != d.2)=false by simp];rfl
end Go.Proofs.Qz
namespace Go.Proofs.Qz
open Go
def Z1g.Pure:Prop:=∀(y0:G28) (y1:G54) (y2:Int) (y3:List Int),Bnd T28 y0→Bnd T54 y1→Bnd (.int .i64) y2→Bnd (.sl (.int .i64)) y3→∃k:Nat,Z1g k y0 y1 y2 y3=some true
end Go.Proofs.Qz
namespace Go.Proofs.Qz
open Go
set_option linter.unusedVariables false
theorem Z1g.proved:Z1g.Pure:=by
 intro m c q fs hm hc hq hfs
 by_cases hfl:1048576<fs.length
 ·refine ⟨0,?_⟩
  unfold Z1g;rw [Xa (by omega:(1048576:Int)<(fs.length:Int))];rfl
 ·have d0:decide ((1048576:Int)<(fs.length:Int))=false:=Xb (by omega)
  have hfa:∀x∈fs,Zil x:=fun x hx=>(wf64 (hfs.2 x hx)).2
  have hbig:Zq1 m.2:=⟨⟨hm.2.1.1,fun x hx=>hm.2.1.2 x hx⟩,hm.2.2.1,fun x hx=>(hm.2.2.2 x hx).2⟩;obtain ⟨u,hu,ev⟩:=Zwpb m 1048576 hbig (by omega) (by omega)
  by_cases hu0:u<0
  ·obtain ⟨k,g1⟩:=ev.ex
   refine ⟨k,?_⟩;unfold Z1g;rw [d0,Xf];refine Za g1 ?_;rw [Xa hu0];rfl
  ·have hf:=hu.2 (by omega)
   have hm1:=hf.1.1;have hm2:=hf.2.1;obtain ⟨z,hz⟩:=Ztpb c u hc.2.2.2.1 hc.2.2.2.2.2.2.2 (by omega) (by omega);have htc:Z0n c=some c:=rfl;obtain ⟨bi,bs⟩:=Z2gb m c q hfa (by omega) (by omega);have hs:=Znhb m c q fs;have hmm:=Zybb m 1 (by omega) (by omega) (by omega);have hN:Z7r m=m.2.1.length+2*m.2.2.length:=rfl;obtain ⟨n,x,y,hmk⟩:=Zzlb (Z9s m c q fs) hs.s hs.d;obtain ⟨k,⟨⟨⟨⟨⟨⟨⟨⟨⟨g1,g5⟩,g6⟩,g7⟩,g8⟩,g9⟩,g10,g11,g12⟩,g13⟩,g14⟩,hk⟩⟩:=(((((((((ev.and (Z7pb m 1048576 hf (by omega))).and (Z4hb m 1048576 hf (by omega))).and bi).and bs).and hmm).and hmk).and (Z5pb fs (by omega))).and (Z2hb fs (by omega))).and (Ze.ge 1048577 fun k hk=>hk)).ex;have g15:=Z4lb fs (1+Z7r m) (by omega) (k:=k) (by omega);refine ⟨k,?_⟩;unfold Z1g;rw [d0,Xf];refine Za g1 ?_;rw [Xb hu0,Xf];refine Za hz ?_;cases decide (z<0) with
   | true=>rfl
   | false=>
    rw [Xf];refine Za g5 (Za htc (Za g13 (Za g8 (Za g5 (Za g13 (Za htc (Za g7 (Za g12 ?_))))))));rw [Yd,Xf];refine Za g5 (Za g6 ?_);rw [Yd,Xf];refine Za g13 (Za g14 ?_);rw [Yd,Xf];refine Za g9 (Za g15 ?_);rw [Xb (by omega:¬((1+Z7r m+fs.length:Nat):Int)<0),Xf];refine Za g12 ?_;rw [Yd,Xf];refine Za g10 (Za g11 ?_);rw [Xb (by omega:¬((n:Nat):Int)<0),Xf,show (((n:Nat):Int) != ((n:Nat):Int))=false by simp,Xf];refine Za g5 (Za htc (Za g13 (Za g7 (Za g12 ?_))));rw [Yd,Xf];refine Za g11 ?_;rw [Xb (by omega:¬((n:Nat):Int)<0),Xf,show (((n:Nat):Int) != ((n:Nat):Int))=false by simp];rfl
end Go.Proofs.Qz
namespace Go.Proofs.YtpcllejjdmmjcaaGreatDoor.fnExactCut
open Go Go.ChangeShapes Go.WideShapes Go.ChangeAt Go.RowKit Go.Proofs.Qz
set_option linter.unusedVariables false
theorem own:ownKnob Ya.godebug=none:=by kernel_rfl
theorem Z5v:laidOutB Ya=true:=by kernel_rfl
theorem go (k:Nat) (y0:G28) (y1:G54) (y2:Int) (y3:List Int):(Z1g.con k).f [Zkn true T28 y0,Zkn true T54 y1,Zkn false (.int .i64) y2,Zkn false (.sl (.int .i64)) y3] = .opt (Zab Z1g.sig.outs) (Z1g k y0 y1 y2 y3) Z1g.sig.enc:=by kernel_rfl
abbrev Z4v:List (String×DataW Unit):=[("loop.example/g00668/impl.digestStart",Rows.laid_loop_example_g00668_impl_digestStart),("loop.example/g00668/impl.digestRounds",Rows.laid_loop_example_g00668_impl_digestRounds)]
theorem Zwhb (os:Os) (args:Array Value):laidMetH Ya Z4v ((World.doorLaid Ya 19 os).forCall (fun _ _=>0) ⟨#[],args,[]⟩).memory:=
 laidMetH_of_parts3 (fuel:=8) (laidMet_of_run' 8 (by kernel_rfl) (by kernel_rfl)) (by kernel_rfl) (by kernel_rfl)
theorem globals {W:World} (h:laidMetH Ya Z4v W):GlW W:=by
 rw [MakeChecks.laidMetH_plain _ _ _ (by kernel_rfl)] at h
 intro n r l e
 unfold GL at e
 split at e
 ·cases e;exact Zfbb h (name:= "loop.example/g00668/impl.digestStart") (k:=.u32) (zs:=Zbn) (Yk (i:=0) (by kernel_rfl)) (n:=8) (t:=302) (e:=297) (by kernel_rfl) (by kernel_rfl) (by kernel_rfl) (by kernel_rfl) (by kernel_rfl) (by kernel_rfl)
 ·cases e;exact Zfbb h (name:= "loop.example/g00668/impl.digestRounds") (k:=.u32) (zs:=Zcn) (Yk (i:=1) (by kernel_rfl)) (n:=64) (t:=324) (e:=297) (by kernel_rfl) (by kernel_rfl) (by kernel_rfl) (by kernel_rfl) (by kernel_rfl) (by kernel_rfl)
 ·cases e
set_option maxRecDepth 100000 in
theorem lifted (os:Os) (started:os.Started) (H:Type) (enc:TypeId×Value→H):
  ReturnsInHanded {} Yf os 5 .any (fun w args=>(Rows.fnExactCutSpec.pre enc Ya Yc [] false w args∧laidMetH Ya Z4v w)∧sizedMet enc Ya Yc (OpenSpec.ofChange Rows.fnExactCutSpec) false w args) (Rows.fnExactCutSpec.post enc Ya Yc false true false false):=by
 refine returnsInHanded_of_change_and (C:=Yf) (X:=fun w _=>laidMetH Ya Z4v w) (fun _ _ _ hh h=>h.of_heap hh) own started (by kernel_rfl) Yg
  (ChangeSpec.witness_shaped (enc:=enc) (C:=Yf) (os:=os) (X:=fun w _=>laidMetH Ya Z4v w) false (World.doorLaid Ya 19 os) #[.agg #[.int .i64 0,.slice none 0 0,.slice none 0 0],.agg #[.int .i64 0,.int .i64 0,.int .i64 0,.string ByteArray.empty,.int .i64 0,.int .i64 0,.int .i64 0,.string ByteArray.empty],.int .i64 0,.slice none 0 0] 8 rfl (World.shaped_of_RefB (by kernel_rfl) (by kernel_rfl)) (by kernel_rfl) (by kernel_rfl) (by kernel_rfl) (Zwhb os _)) ?_
 intro W base args ds gs before hval0 hW hcnd hsz0 hL _
 have hsz:(DataW.weightsEach Ya (Yc.params.toList++Rows.fnExactCutSpec.plain.varTypes Ya) (ds++gs)).all (·≤reachBytes)=true:=hsz0
 have hval:∀(j:Nat) t v,Yc.params[j]? = some t→args[j]? = some v→Value.okWide Ya W .any base t v:=hval0
 have hW':=hW
 obtain ⟨p,q,hA0,hV,rfl,hfz,hnd⟩:=hW
 have hA:DataW.TrodAll enc Ya W 0 (fun _=>true) true Yc.params.toList args.toList ds p:=hA0
 rw [Yo] at hA hval hsz
 obtain ⟨v0,vs0,d0,ds0,p0,q0,hargs,rfl,rfl,h0,r0⟩:=trodAll_cons hA
 obtain ⟨v1,vs1,d1,ds1,p1,q1,rfl,rfl,rfl,h1,r1⟩:=trodAll_cons r0
 obtain ⟨v2,vs2,d2,ds2,p2,q2,rfl,rfl,rfl,h2,r2⟩:=trodAll_cons r1
 obtain ⟨v3,vs3,d3,ds3,p3,q3,rfl,rfl,rfl,h3,r3⟩:=trodAll_cons r2
 obtain ⟨rfl,rfl,rfl⟩:=trodAll_nil r3
 obtain rfl:args = #[v0,v1,v2,v3]:=by cases args;simp_all
 obtain ⟨_,_,_,_,gd0,_,_,_,_,_,gd1,_,rfl,_⟩:=trodVars_two hV
 have lt0:=Zh1 h0
 have z0:=Zm1 hsz (j:=0) (t:=63) rfl rfl
 obtain ⟨y0,b0,c0⟩:=Zzx (ty:=T28) (n:=20) (ag:=true) (by kernel_rfl) (by kernel_rfl) (hval 0 63 v0 rfl rfl) h0 z0
 have lt1:=Zh1 h1
 have z1:=Zm1 hsz (j:=1) (t:=66) rfl rfl
 obtain ⟨y1,b1,c1⟩:=Zzx (ty:=T54) (n:=20) (ag:=true) (by kernel_rfl) (by kernel_rfl) (hval 1 66 v1 rfl rfl) h1 z1
 have lt2:=Zh1 h2
 have z2:=Zm1 hsz (j:=2) (t:=2) rfl rfl
 obtain ⟨y2,b2,c2⟩:=Zzx (ty:=(.int .i64)) (n:=20) (ag:=false) (by kernel_rfl) (by kernel_rfl) (hval 2 2 v2 rfl rfl) h2 z2
 have lt3:=Zh1 h3
 have z3:=Zm1 hsz (j:=3) (t:=44) rfl rfl
 obtain ⟨y3,b3,c3⟩:=Zzx (ty:=(.sl (.int .i64))) (n:=20) (ag:=false) (by kernel_rfl) (by kernel_rfl) (hval 3 44 v3 rfl rfl) h3 z3
 obtain ⟨k,hp⟩:=Z1g.proved y0 y1 y2 y3 b0 b1 b2 b3
 have hrr:((Z1g.con k).f [Zkn true T28 y0,Zkn true T54 y1,Zkn false (.int .i64) y2,Zkn false (.sl (.int .i64)) y3]).val=some ⟨[.val false [.leaf (.bool true)]],[]⟩:=by
  refine (congrArg CR.val (go k y0 y1 y2 y3)).trans ?_;rw [hp]
  kernel_rfl
 refine (Zjlb (Z1g.ok k) hrr (globals hL) (vs:=[v0,v1,v2,v3]) (Zcy (c0 _) (Zcy (c1 _) (Zcy (c2 _) (Zcy (c3 _) Zdhb))))).mono fun e W' ⟨he,bel0⟩=>?_
 have bel:Below W.heap.size W W':=bel0
 subst he
 exact ⟨_,rfl,_,_,_,[],_,_,hW',trodAll_mk1 (Zgpb Tryz.underlying4 _),(trodAll_cons_mk (Below.trod Z5v (by kernel_rfl) (of_decide_eq_true (by kernel_rfl)) h0 bel lt0) (trodAll_cons_mk (Below.trod Z5v (by kernel_rfl) (of_decide_eq_true (by kernel_rfl)) h1 bel lt1) (trodAll_cons_mk (Below.trod Z5v (by kernel_rfl) (of_decide_eq_true (by kernel_rfl)) h2 bel lt2) (trodAll_cons_mk (Below.trod Z5v (by kernel_rfl) (of_decide_eq_true (by kernel_rfl)) h3 bel lt3) trodAll_mk0)))),Below.trodVars Z5v bel (by kernel_rfl) hV,bel.frame _,fun h=>by cases h⟩
theorem k10:(Rows.fnExactCutRow.inPlace==Ya.inPlace 5)=true:=by kernel_rfl
theorem k11:(Rows.fnExactCutRow.unfollowed==Ya.unfollowed 5)=true:=by kernel_rfl
theorem k12:(Rows.fnExactCutRow.recurses==Ya.recurses 5)=true:=by kernel_rfl
theorem k13:(Rows.fnExactCutRow.named==Ya.varsNamed 5)=true:=by kernel_rfl
theorem Zihb:joinedFacts Ya 5 Yc Rows.fnExactCutSpec Rows.fnExactCutRow=true:=by
 unfold joinedFacts
 rw [k10,k11,k12,k13]
 kernel_rfl
theorem Z8p:Rows.fnExactCutRow.holds Tryz.pinned (OpenSpec.ofChange Rows.fnExactCutSpec):=
 OpenClaim.holds_of_wide 5 Yc rfl rfl rfl rfl rfl rfl rfl ⟨rfl,rfl,rfl,rfl,rfl⟩ rfl rfl rfl rfl rfl (by kernel_rfl) Yg Zihb
  (of_decide_eq_true (by kernel_rfl)) (by unfold Func.isWrapper;first | (rw [Xc (by decide +kernel)];kernel_rfl) | (rw [Xd (by decide +kernel)];exact ⟨rfl,rfl⟩))
  (fun os started H enc _=>lifted os started H enc)
theorem proved:Rows.FnExactCutSaid:=Z8p
theorem t1:Rows.fnExactCutRow.wfByText (OpenSpec.ofChange Rows.fnExactCutSpec)=true:=by kernel_rfl
theorem t2:Ya.mainIs=some ((true, "933041b7a138b4b8385d4c8b62717555527b224f332a52fd1e388c0e673042bb").1,(true, "933041b7a138b4b8385d4c8b62717555527b224f332a52fd1e388c0e673042bb").2.toList):=by kernel_rfl
theorem t3:false=Ya.looks []:=by kernel_rfl
theorem t4:false=Rows.fnExactCutRow.goesBy Ya:=by kernel_rfl
theorem tied:Rows.FnExactCutCardSaid:=
 Claim7.holds_tied_plain_at .later [] [.data,.data] true (true, "933041b7a138b4b8385d4c8b62717555527b224f332a52fd1e388c0e673042bb") false
  proved (fun _ h=>by cases h) t1 (fun _ h=>by cases h) fnExactCut_row_tie rfl ⟨rfl,rfl⟩ t2 rfl
  (fun f fn hf hfn=>by
   obtain rfl:f=5:=Yn.inj ((show Ya.funcNamed "loop.example/g00668/laws.FnExactCut" = some 5 by kernel_rfl).symm.trans hf) |>.symm;obtain rfl:fn=Yc:=(Yn.inj (Yg.symm.trans hfn)).symm
   exact ⟨t3,fun j t ht=>by
    rw [Yo] at ht;have hm:t∈[63,66,2,44]:=by simpa using Array.mem_of_getElem? ht
    have hall:([63,66,2,44].all fun u=>!Tryz.prog.wantsStandIn u)=true:=by kernel_rfl
    exact (show Ya.wantsStandIn t=false by simpa using List.all_eq_true.1 hall t hm)⟩)
  t4
end Go.Proofs.YtpcllejjdmmjcaaGreatDoor.fnExactCut
namespace Go.Proofs.YtpcllejjdmmjcaaGreatDoor
theorem fnExactCut_card:Rows.FnExactCutCardSaid:=fnExactCut.tied
#print axioms fnExactCut_card
end Go.Proofs.YtpcllejjdmmjcaaGreatDoor
