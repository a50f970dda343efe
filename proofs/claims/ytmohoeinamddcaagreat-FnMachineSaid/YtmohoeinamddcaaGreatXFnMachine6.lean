/- What the law FnMachine needs, part 7 of 16: the Lean functions of the Go functions that it reaches, with the proofs that the calls come to what they say, and plain facts about them. Conditions: those that each theorem states. Written by a session and by its programs (after the kit's printer). -/
import Derived.Lib.LaidTab
import Derived.Lib.AppendIntMem
import Derived.Ground.Names2Prog
import Derived.Shelf.Slices.Clone
import Derived.Shelf.Slices.Delete
import Derived.Shelf.Slices.Cells
import Derived.Shelf.Slices.Empties
import Derived.Ground.SlgnProg
import Derived.Shelf.SlicesE.Clone
import Derived.Ground.SlgfProg
import Derived.Shelf.SlicesE.IndexFunc
import Derived.Test.YtmohoeinamddcaaGreatProg
import Derived.Test.YtmohoeinamddcaaGreatXFnMachine4
import Derived.Test.YtmohoeinamddcaaGreatXFnMachine5
open Option renaming bind → Ya
open Go.Proofs.Tryz renaming prog → Yb, f112 → Yk, f161 → Yr, f162 → Ys, func186 → Yt, isAgg4 → Yu, sizeOf4 → Yv, underlying4 → Yw, zeroValue4 → Yx
open Go.IntKind renaming wrap → Yc, max → Yi
open Bool renaming and_eq_true → Yd, and_true → Yl
open List renaming all_cons → Ye, set → Yg, map_cons → Yh, mem_singleton → Yj, all_append → Ym, append_assoc → Yn, cons → Yo, cons_append → Yp, replicate → Yq
open Int renaming toNat → Yf
namespace Go.Proofs.Qz
open Go Go.RowKit
set_option linter.unusedVariables false
section
variable {P:Program} {w:World}
end
end Go.Proofs.Qz
namespace Go.Proofs.Qz
open Go
set_option linter.unusedVariables false
theorem cC {P:Program} {n:Nat} {c:Con} {L:List (Nat×Con)} (h:Ze P n c) (t:Zbp P L):Zbp P ((n,c)::L):=⟨h,t⟩
theorem cN {P:Program}:Zbp P []:=trivial
theorem sC {P:Program} {C:Ctx} {c:Code} {s:Summ} {L:List (Summ×Code)} (h:Zl P C c s) (t:Zvl P C L):Zvl P C ((s,c)::L):=⟨h,t⟩
theorem sN {P:Program} {C:Ctx}:Zvl P C []:=trivial
theorem Zlr:∀c:Code,Z2e .auto c=[]
 | .seq a b=>by
  show Z2e .auto a++Z2e .auto b=[];rw [Zlr a,Zlr b];rfl
 | .cond _ a b=>by
  show Z2e .auto a++Z2e .auto b=[];rw [Zlr a,Zlr b];rfl
 | .block _ a=>Zlr a
 | .skip=>rfl
 | .region _ _ _=>rfl
 | .loop _=>rfl
 | .rangeFunc _ _ _ _=>rfl
 | .exit _=>rfl
 | .scope _=>rfl
 | .label _=>rfl
 | .goto _=>rfl
 | .ret=>rfl
 | .refuse _=>rfl
def lp (n:Nat) (ish:Shape) (outs:List (Ex×Shape)) (F:Nat→Zpb ish.tys→Option (Zuh outs)) (k:Nat):Summ:={ n:=n,ish:=ish,outs:=outs,f:=F k }
def lq (n:Nat) (ish:Shape) (outs:List (Ex×Shape)) (F:Zpb ish.tys→Option (Zuh outs)):Summ:={ n:=n,ish:=ish,outs:=outs,f:=F }
section
variable {P:Program} {C:Ctx} {c:Code} {L:List (Summ×Code)} {n:Nat} {ish:Shape} {outs:List (Ex×Shape)}
theorem lP (p:Plan) {F:Nat→Zpb ish.tys→Option (Zuh outs)} {k:Nat} (H:CtxOk P C) (hs:Zvl P C L) (hl:Z2e p c=L:=by kernel_rfl) (hok:(lp n ish outs F k).ok=true:=by kernel_rfl) (h0:∀x,F 0 x=none:=by intro x;rfl)
  (hev:∀j x,V C p c (mk ish n x) (fun e st'=>match e with
   | .nrm=>(rd ish st').bind (F j)
   | e=>Zhl e st' outs)=F (j+1) x:=by intro j x;kernel_rfl):Zl P C (.loop c) (lp n ish outs F k):=
 Zdgb hok (sum_loop (s:=lp n ish outs F k) (F:=F) H hok (Zf0 hl hs) h0 (fun j x y h=>(hev j x).trans h) k rfl)
theorem lA {F:Nat→Zpb ish.tys→Option (Zuh outs)} {k:Nat} (H:CtxOk P C) (hok:(lp n ish outs F k).ok=true:=by kernel_rfl) (h0:∀x,F 0 x=none:=by intro x;rfl)
  (hev:∀j x,V C .auto c (mk ish n x) (fun e st'=>match e with
   | .nrm=>(rd ish st').bind (F j)
   | e=>Zhl e st' outs)=F (j+1) x:=by intro j x;kernel_rfl):Zl P C (.loop c) (lp n ish outs F k):=lP .auto H sN (Zlr c) hok h0 hev
theorem jP (p:Plan) {F:Zpb ish.tys→Option (Zuh outs)} (H:CtxOk P C) (hs:Zvl P C L) (hl:Z2e p c=L:=by kernel_rfl) (hok:(lq n ish outs F).ok=true:=by kernel_rfl)
  (hev:∀x,V C p c (mk ish n x) (fun e st'=>Zhl e st' outs)=F x:=by intro x;kernel_rfl):Zl P C c (lq n ish outs F):=
 Zdgb hok (Z8rb (s:=lq n ish outs F) (p:=p) H hok (Zf0 hl hs) (fun x y h=>(hev x).trans h))
theorem jA {F:Zpb ish.tys→Option (Zuh outs)} (H:CtxOk P C) (hok:(lq n ish outs F).ok=true:=by kernel_rfl)
  (hev:∀x,V C .auto c (mk ish n x) (fun e st'=>Zhl e st' outs)=F x:=by intro x;kernel_rfl):Zl P C c (lq n ish outs F):=jP .auto H sN (Zlr c) hok hev
theorem fP (p:Plan) {f:FuncId} {fn:Func} {s:Sig} {F:Zpb s.ins→Option (Zpb s.outs)} (H:CtxOk P C) (hf:P.funcs[f]? = some fn) (hs:Zvl P C L) (hname:(fn.name == "runtime.NumGoroutine")=false:=by kernel_rfl) (hb:fn.body=some (cB fn):=by kernel_rfl)
  (hn:fn.ntmps=s.ntmps:=by kernel_rfl) (hps:Nat.ble s.ps.length s.ntmps=true:=by kernel_rfl) (hl:Z2e p (cB fn)=L:=by kernel_rfl) (hev:∀x,s.ev C p fn.results.toList (cB fn) x=F x:=by intro x;kernel_rfl):Ze P f (s.con F):=
 Zirb H hf hname hb hn hps (Zf0 hl hs) (fun x y h=>(hev x).trans h)
theorem fA {f:FuncId} {fn:Func} {s:Sig} {F:Zpb s.ins→Option (Zpb s.outs)} (H:CtxOk P C) (hf:P.funcs[f]? = some fn) (hname:(fn.name == "runtime.NumGoroutine")=false:=by kernel_rfl) (hb:fn.body=some (cB fn):=by kernel_rfl)
  (hn:fn.ntmps=s.ntmps:=by kernel_rfl) (hps:Nat.ble s.ps.length s.ntmps=true:=by kernel_rfl) (hev:∀x,s.ev C .auto fn.results.toList (cB fn) x=F x:=by intro x;kernel_rfl):Ze P f (s.con F):=fP .auto H hf sN hname hb hn hps (Zlr _) hev
end
end Go.Proofs.Qz
namespace Go.Proofs.Qz
open Go Go.RowKit
set_option linter.unusedVariables false
def Z57:CL→CL
 | .leaf (.bor r l)=>.leaf (.list r l)
 | x=>x
def Zw1:CArg→CArg
 | .val a xs=>.val a (xs.map Z57)
 | x=>x
def roP:PL→PL
 | .v=>.ro
 | x=>x
def roK:PK→PK
 | .val a t ms=>.val a t (ms.map roP)
 | x=>x
def Sig.conR (s:Sig) (f:Zpb s.ins→Option (Zpb s.outs)):Con:={ ms:=(s.ps.map roK).map PK.pm,f:=fun asx=>s.run f (asx.map Zw1) }
section
variable {w:World} {F F' B:Nat→Prop}
theorem Zof.weak (hF:∀b,F b→B b) {x:Leaf} {v:Value} (h:VLs w F B [.leaf x] [v] []):VLs w B B [Z57 (.leaf x)] [v] []:=by
 have h:=h.1
 cases x with
 | bor r l=>exact ⟨h,rfl⟩
 | _=>exact ⟨Zof.mono hF (fun _ q=>q) h,rfl⟩
theorem VLs.weak (hF:∀b,F b→B b):∀{xs:List CL} {vs:List Value} {L:List GI},VLs w F B xs vs L→VLs w B B (xs.map Z57) vs L
 | [],[],_,h=>h
 | .leaf x::xs,v::vs,L,h=>by
  have h2:=VLs.weak hF h.2;have h1:Zof w F B x v:=h.1;cases x with
  | bor r l=>exact ⟨h1,h2⟩
  | _=>exact ⟨Zof.mono hF (fun _ q=>q) h1,h2⟩
 | .row _ _ _::xs,v::vs,.row _::L,h=>⟨h.1,h.2.1.mono hF,VLs.weak hF h.2.2⟩
 | .nil::xs,v::vs,.no::L,h=>⟨h.1,VLs.weak hF h.2⟩
theorem Zth.weak (hF:∀b,F b→B b):∀{asx:List CArg} {vs:List Value} {L:List GI} {M:List Value},Zth w F B asx vs L M→Zth w B B (asx.map Zw1) vs L M
 | [],[],_,_,h=>h
 | a::asx,v::vs,L,M,⟨L1,L2,M1,M2,h1,h2,h3,h4⟩=>by
  refine ⟨L1,L2,M1,M2,h1,h2,?_,Zth.weak hF h4⟩;cases a with
  | val ag xs=>
   cases ag with
   | false=>exact ⟨h3.1,VLs.weak hF h3.2⟩
   | true=>
    obtain ⟨k1,cs,k2,k3⟩:=h3;exact ⟨k1,cs,k2,VLs.weak hF k3⟩
  | _=>exact h3.mono hF (fun _ q=>q)
def Zocb:Leaf→Bool
 | .list _ _=>false
 | .bor _ _=>false
 | _=>true
def Zrt:RL→Bool
 | .leaf x=>Zocb x
 | .own _ r _=>flat r
def Zdo:RC→Bool
 | .val _ xs=>xs.all Zrt
 | .box _ xs=>xs.all Zrt
theorem Zac.flat {z:Bool} {e:TypeId} {t:Ty} {v:Value} {l:List t.T} (ht:Go.Proofs.Qz.flat t=true) (h:Zac w F z e t v l):Zac w F' z e t v l:=by
 rcases h.cases with ⟨he,h | ⟨g,cap,cs,fr,h0,h1,h2,h3,h4,h5,h6⟩⟩ | ⟨he,rfl,hM | hM⟩
 ·exact Zfc.ok (.inl h) he
 ·exact Zfc.ok (.inr ⟨g,cap,cs,fr,h0,h1,h2,h3,h4,h5,fun j x hj=>Rep.flat ht (h6 j x hj)⟩) he
 ·exact Z6n.ok hM he
 ·exact Zwm.ok hM
theorem Zaf.flat:∀{xs:List RL} {vs:List Value} {O:List Conc},xs.all Zrt=true→Zaf w F xs vs O→Zaf w F' xs vs O
 | [],[],_,_,h=>h
 | .leaf x::xs,v::vs,O,hf,h=>by
  rw [Ye,Yd] at hf;refine ⟨?_,Zaf.flat hf.2 h.2⟩;have h1:Zof w F (fun _=>False) x v:=h.1;cases x with
  | list r l=>cases hf.1
  | bor r l=>cases hf.1
  | _=>exact h1
 | .own e r l::xs,v::vs,c::O,hf,h=>by
  rw [Ye,Yd] at hf;exact ⟨h.1,Zac.flat hf.1 h.2.1,Zaf.flat hf.2 h.2.2⟩
theorem Zvm.flat {p:RC} {v:Value} {O:List Conc} (hf:Zdo p=true) (h:Zvm w F p v O):Zvm w F' p v O:=by
 cases p with
 | val a xs=>
  cases a with
  | true=>
   obtain ⟨cs,h1,h2⟩:=h;exact ⟨cs,h1,Zaf.flat hf h2⟩
  | false=>exact Zaf.flat hf h
 | box t xs=>
  obtain ⟨g,cs,fr,O1,h1,h2,h3,h4,h5⟩:=h;exact ⟨g,cs,fr,O1,h1,h2,h3,h4,Zaf.flat hf h5⟩
theorem Zzl.flat:∀{ps:List RC} {vs:List Value} {O:List Conc},ps.all Zdo=true→Zzl w F ps vs O→Zzl w F' ps vs O
 | [],[],_,_,h=>h
 | p::ps,v::vs,O,hf,⟨O1,O2,h1,h2,h3⟩=>by
  rw [Ye,Yd] at hf;exact ⟨O1,O2,h1,Zvm.flat hf.1 h2,Zzl.flat hf.2 h3⟩
theorem Z9ob {rs:List RC} {v:Value} {O:List Conc} (hf:rs.all Zdo=true) (h:Znu w F rs v O):Znu w F' rs v O:=by
 match rs,hf,h with
 | [p],hf,h=>
  rw [Ye,Yd] at hf;exact Zvm.flat (p:=p) hf.1 h
 | [],hf,⟨vs,h1,h2⟩=>exact ⟨vs,h1,Zzl.flat hf h2⟩
 | p::q::ps,hf,⟨vs,h1,h2⟩=>exact ⟨vs,h1,Zzl.flat hf h2⟩
theorem Z5ob {L:List GI} {O:List Conc} (h:Z1i w F L [] O):Z1i w F' L [] O:=by
 match L,h with
 | [],h=>exact h
def Z13:RK→Bool
 | .v t=>flat t
 | .own _ r=>flat r
def noB:PK→Bool
 | .val _ _ ms=>ms.all fun m=>match m with
  | .own _=>false
  | _=>true
 | .rptr _=>true
 | _=>false
def Sig.keptOk (s:Sig):Bool:=s.ps.all noB&&s.rs.all fun r=>r.ks.all Z13
theorem Zz4:∀(t:Ty) (x:t.T),flat t=true→∀y∈Z2 t x,Zocb y=true
 | .int _,x,_,y,hy=>by rw [Yj.1 hy];rfl
 | .bool,x,_,y,hy=>by rw [Yj.1 hy];rfl
 | .str,x,_,y,hy=>by rw [Yj.1 hy];rfl
 | .unit,x,_,y,hy=>by cases hy
 | .sl _,x,h,y,hy=>by cases h
 | .pair a b,x,h,y,hy=>by
  have h:(flat a&&flat b)=true:=h;rw [Yd] at h;rcases List.mem_append.1 hy with hy | hy
  ·exact Zz4 a x.1 h.1 y hy
  ·exact Zz4 b x.2 h.2 y hy
def DV.t:DV→Ty
 | .mk t _=>t
theorem Zldb:∀(ts:List Ty) (y:Zpb ts),(Z1h ts y).map DV.t=ts
 | [],_=>rfl
 | [t],y=>rfl
 | t::u::ts,y=>by
  show DV.t _::(Z1h (u::ts) y.2).map DV.t=_;rw [Zldb (u::ts) y.2];rfl
theorem Z3y:∀(ks:List RK) (ds:List DV) (rest:List Ty),ds.map DV.t=ks.map RK.ty++rest→ks.all Z13=true→(Zeb ks ds).1.all Zrt=true∧(Zeb ks ds).2.map DV.t=rest
 | [],ds,rest,h,_=>⟨rfl,h⟩
 | .v t::ks,[],rest,h,_=>by cases h
 | .own e r::ks,[],rest,h,_=>by cases h
 | .v t::ks,.mk t' x::ds,rest,h,hf=>by
  rw [Ye,Yd] at hf;rw [Yh,Yh,Yp,Yo.injEq] at h;obtain ⟨k1,k2⟩:=Z3y ks ds rest h.2 hf.2;have ht:t'=t:=h.1;subst ht;refine ⟨?_,k2⟩;show ((Z2 t' x).map RL.leaf++(Zeb ks ds).1).all Zrt=true;rw [Ym,k1,Yl,List.all_map];exact List.all_eq_true.2 fun y hy=>Zz4 t' x hf.1 y hy
 | .own e r::ks,.mk t' x::ds,rest,h,hf=>by
  rw [Ye,Yd] at hf;rw [Yh,Yh,Yp,Yo.injEq] at h;obtain ⟨k1,k2⟩:=Z3y ks ds rest h.2 hf.2;have ht:t' = .sl r:=h.1;subst ht;refine ⟨?_,k2⟩;show ([RL.own e r x]++(Zeb ks ds).1).all Zrt=true;rw [Ym,k1,Yl];show (flat r&&true)=true;rw [show flat r=true from hf.1];rfl
theorem Zn3:∀(rs:List SK) (ds:List DV) (rest:List Ty),ds.map DV.t=Zms rs++rest→(rs.all fun r=>r.ks.all Z13)=true→(Z5f rs ds).1.all Zdo=true∧(Z5f rs ds).2.map DV.t=rest
 | [],ds,rest,h,_=>⟨rfl,h⟩
 | .val a ks::rs,ds,rest,h,hf=>by
  rw [Ye,Yd] at hf;obtain ⟨k1,k2⟩:=Z3y ks ds (Zms rs++rest) (by rw [h];show (ks.map RK.ty++Zms rs)++rest=_;rw [Yn]) hf.1;obtain ⟨j1,j2⟩:=Zn3 rs (Zeb ks ds).2 rest k2 hf.2;refine ⟨?_,j2⟩;show (Zdo (.val a (Zeb ks ds).1)&&_)=true;rw [show Zdo (.val a (Zeb ks ds).1)=true from k1];exact j1
 | .box a ks::rs,ds,rest,h,hf=>by
  rw [Ye,Yd] at hf;obtain ⟨k1,k2⟩:=Z3y ks ds (Zms rs++rest) (by rw [h];show (ks.map RK.ty++Zms rs)++rest=_;rw [Yn]) hf.1;obtain ⟨j1,j2⟩:=Zn3 rs (Zeb ks ds).2 rest k2 hf.2;refine ⟨?_,j2⟩;show (Zdo (.box a (Zeb ks ds).1)&&_)=true;rw [show Zdo (.box a (Zeb ks ds).1)=true from k1];exact j1
theorem Zreb:∀(ts:List Ty) (ms:List PL),(ms.all fun m=>match m with
  | .own _=>false
  | _=>true)=true→Zil ts ms=[]
 | [],[],_=>rfl
 | [],_::_,_=>rfl
 | t::ts,[],_=>by cases t <;> rfl
 | t::ts,m::ms,h=>by
  rw [Ye,Yd] at h;have ih:=Zreb ts ms h.2;cases m with
  | own e=>cases h.1
  | v=>cases t <;> exact ih
  | ro=>cases t <;> exact ih
theorem Zuab:∀(ps:List PK) (ds:List DV),ps.all noB=true→Zri ps ds=[]
 | [],_,_=>rfl
 | p::ps,ds,h=>by
  rw [Ye,Yd] at h
  have e:Zzv p ds=([],ds):=by
   cases p with
   | val a t ms=>
    show Z5k (Zil (Zfb t) ms) ds=_;rw [Zreb _ _ h.1];rfl
   | rptr t=>rfl
   | ref _ _ _=>cases h.1
   | fn _ _=>cases h.1
   | mv _ _=>cases h.1
   | vm _ _ _=>cases h.1
  show (Zzv p ds).1++Zri ps (Zzv p ds).2=[];rw [e];exact Zuab ps ds h.2
end
theorem Zsv {P:Program} {n:FuncId} {s:Sig} {f:Zpb s.ins→Option (Zpb s.outs)} (h:Ze P n (s.con f)) (hk:s.keptOk=true:=by kernel_rfl):Ze P n (s.conR f):=by
 unfold Sig.keptOk at hk
 rw [Yd] at hk
 refine ⟨h.1,fun asx rr hrr w vs F L M hF hnd hgl hargs=>?_⟩
 have hrr:(s.run f (asx.map Zw1)).val=some rr:=hrr
 have hfl:rr.res.all Zdo=true∧rr.refs=[]:=by
  unfold Sig.run at hrr;split at hrr
  ·split at hrr
   ·rename_i x _
    obtain ⟨y,_,hy⟩:=Option.map_eq_some_iff.1 (show (f x).map s.enc=some rr from hrr);rw [← hy];exact ⟨(Zn3 s.rs (Z1h s.outs y) (Zk2 s.ps) (Zldb _ _) hk.2).1,Zuab s.ps _ hk.1⟩
   ·cases hrr
  ·cases hrr
 refine (h.2 (asx.map Zw1) rr hrr w vs (Bor w (GI.blocks L++Zxb M)) L M (fun b hb=>hb) hnd hgl (Zth.weak hF hargs)).mono fun e w' ⟨v,he,hK,O1,O2,h1,h2,h3,h4⟩=>?_
 refine ⟨v,he,hK,O1,O2,h1,h2,?_,Z9ob hfl.1 h4⟩
 rw [hfl.2] at h3 ⊢
 exact Z5ob h3
end Go.Proofs.Qz
section
namespace Go.Proofs
open Go.Shelf
def Tryz.laysNm216_ren:Go.Shelf.Ren:=⟨fun | 16=>186 | n=>n,fun | 24=>23 | 9=>9 | 4=>4 | n=>n,fun | n=>n⟩
theorem Tryz.laysNm216:Go.Proofs.Lays2.n16 Yb Tryz.laysNm216_ren:={
 mixed:=by kernel_rfl
 f16:=Yt.trans (congrArg some (by kernel_rfl))
 t4:=Yw
 a4:=Yu
 z4:=Yv
 v4:=Yx
 t9:=Tryz.underlying9
 a9:=Tryz.isAgg9
 z9:=Tryz.sizeOf9
 v9:=Tryz.zeroValue9
 t24:=Tryz.underlying23
 a24:=Tryz.isAgg23
 z24:=Tryz.sizeOf23
 v24:=Tryz.zeroValue23
 i9:=by kernel_rfl }
open Go.RowKit Go.Lib in
theorem Tryz.slices_Clone_string (b off n c:Nat) (zs:List ByteArray) (w:World) (hz:n≤zs.length) (hbig:n*16≤140737488355328) (hc:∀j,j<zs.length→w.cell? ⟨b,off+j,none⟩=some (.string (zs.getD j ByteArray.empty))):
  Calls Yb 186 #[.slice (some ⟨b,off,none⟩) n c] w fun e w'=>∃v',e = .returned v'∧w'.ownsRow w.heap.size 9 1 v' n ((zs.take n).map (Value.string))∧v'≠.slice none 0 0∧Below w.heap.size w w':=Any.slices_Clone_string Tryz.laysNm216 b off n c zs w hz hbig hc
def Tryz.laysNm223_ren:Go.Shelf.Ren:=⟨fun | 23=>181 | n=>n,fun | 22=>203 | 3=>3 | 4=>4 | 0=>0 | n=>n,fun | n=>n⟩
theorem Tryz.laysNm223:Go.Proofs.Lays2.n23 Yb Tryz.laysNm223_ren:={
 mixed:=by kernel_rfl
 f23:=Tryz.func181.trans (congrArg some (by kernel_rfl))
 t0:=Tryz.underlying0
 a0:=Tryz.isAgg0
 z0:=Tryz.sizeOf0
 v0:=Tryz.zeroValue0
 t3:=Tryz.underlying3
 a3:=Tryz.isAgg3
 z3:=Tryz.sizeOf3
 v3:=Tryz.zeroValue3
 t4:=Yw
 a4:=Yu
 z4:=Yv
 v4:=Yx
 t22:=Tryz.underlying203
 a22:=Tryz.isAgg203
 z22:=Tryz.sizeOf203
 v22:=Tryz.zeroValue203
 i3:=by kernel_rfl }
open Go.RowKit Go.Lib Go.Sort in
theorem Tryz.slices_Delete_int (blk off cap i j:Nat) (zs:List Int) (w:World) (hH:Holds (Value.int .i64) w blk off zs.toArray) (hcap:zs.length≤cap) (hm:cap≤9223372036854775807) (hij:i≤j) (hj:j≤zs.length):
  Calls Yb 181 #[.slice (some ⟨blk,off,none⟩) zs.length cap,.int .i64 i,.int .i64 j] w fun e w'=>e = .returned (.slice (some ⟨blk,off,none⟩) (zs.length-(j-i)) cap)∧∃q,w'=putRow (Value.int .i64) (Sort.ahead w q) blk off (zs.take i++zs.drop j++Yq (j-i) 0).toArray:=Any.slices_Delete_int Tryz.laysNm223 blk off cap i j zs w hH hcap hm hij hj
open Go.RowKit Go.Lib Go.Sort in
theorem Tryz.slices_Delete_int_cells (b off n c i j:Nat) (zs:List Int) (w:World) (hz:n≤zs.length) (hcap:n≤c) (hm:c≤9223372036854775807) (hij:i≤j) (hj:j≤n) (hc:∀j,j<zs.length→w.cell? ⟨b,off+j,none⟩=some (.int .i64 (zs.getD j 0))) (hf:∀j,j<n→w.frozen? ⟨b,off+j,none⟩=false):
  Calls Yb 181 #[.slice (some ⟨b,off,none⟩) n c,.int .i64 i,.int .i64 j] w fun e w'=>e = .returned (.slice (some ⟨b,off,none⟩) (n-(j-i)) c)∧∃q,w'=(w.drewN q).setCells b off (((zs.take n).take i++(zs.take n).drop j++Yq (j-i) 0).map (Value.int .i64)):=Any.slices_Delete_int_cells Tryz.laysNm223 b off n c i j zs w hz hcap hm hij hj hc hf
open Go.RowKit Go.Lib in
theorem Tryz.slices_Delete_int_empty (a:Option Addr) (c:Nat) (w:World):
  Calls Yb 181 #[.slice a 0 c,.int .i64 0,.int .i64 0] w fun e w'=>e = .returned (.slice a 0 c)∧w'=w:=Any.slices_Delete_int_empty Tryz.laysNm223 a c w
end Go.Proofs
end
namespace Go.Proofs.Qz
open Go Go.RowKit
set_option linter.unusedVariables false
set_option linter.defProp false
abbrev Zv:Ty:=(.pair (.int .i64) .str)
abbrev Zx:=Int×Str
abbrev Z1k:Ty:=(.pair (.int .i64) (.int .i64))
abbrev Zdp:=Int×Int
abbrev T55:Ty:=(.pair (.sl .str) (.int .i64))
abbrev G55:=List Str×Int
abbrev Z71:Ty:=(.pair (.sl (.int .i64)) (.int .i64))
abbrev T60:Ty:=(.pair .bool Zv)
abbrev G60:=Bool×Zx
abbrev Z0k:Ty:=(.pair .str (.pair (.int .i64) .bool))
abbrev Z6u:=Str×Int×Bool
abbrev T87:Ty:=(.pair .str Z1k)
abbrev T118:Ty:=(.pair (.int .i64) (.pair .str (.int .i64)))
abbrev Ze8:Ty:=(.pair (.int .i64) Z1k)
abbrev G157:=Int×Zdp
abbrev T27:Ty:=(.pair (.sl .str) (.sl Zv))
abbrev G27:=List Str×List Zx
abbrev T99:Ty:=(.pair (.int .i64) (.pair (.int .i64) Zv))
abbrev G99:=Int×Int×Zx
abbrev Zlc:Ty:=(.pair (.int .i64) Ze8)
abbrev Zge:=Int×G157
abbrev T29:Ty:=(.pair (.int .i64) T27)
abbrev G29:=Int×G27
abbrev Zgc:Ty:=(.pair (.sl (.int .u8)) (.pair (.int .i64) (.pair (.int .u64) (.int .i64))))
abbrev Z1g:=List Int×Int×Int×Int
abbrev T198:Ty:=(.pair T99 (.int .i64))
abbrev T73:Ty:=(.pair T27 (.pair .str (.int .i64)))
abbrev T43:Ty:=(.pair (.sl T99) (.int .i64))
abbrev T31:Ty:=(.pair T29 (.int .i64))
abbrev T161:Ty:=(.pair (.sl Zlc) (.int .i64))
abbrev T179:Ty:=(.pair (.sl T60) (.pair .str Z71))
abbrev T221:Ty:=(.pair T29 (.pair .str Z71))
abbrev Z5d:Ty:=(.pair (.int .i64) (.pair (.int .i64) (.pair (.int .i64) (.pair .str T99))))
abbrev Zgh:=Int×Int×Int×Str×G99
abbrev T49:Ty:=(.pair (.int .i64) (.pair (.int .i64) (.pair (.int .i64) (.pair (.int .i64) (.pair (.int .i64) (.pair .str (.pair (.sl (.int .i64)) (.sl (.int .i64)))))))))
abbrev G49:=Int×Int×Int×Int×Int×Str×List Int×List Int
abbrev T51:Ty:=(.pair T49 (.int .i64))
abbrev G51:=G49×Int
def TAB:Tab TI:=(.node (.node (.node (.node (.node (.node (.node .nil none (.node .nil (some { sz:=1,agg:=false,offs:=[],elem:=0,kind:=1,ik:=.u32,bytes:=4,zero:=[.int .u32 0],ty:=(.int .u32),eqs:=false }) .nil)) (some { sz:=4,agg:=true,offs:=[(0,29),(3,2)],elem:=0,kind:=4,ik:=.i64,bytes:=64,zero:=[.int .i64 0,.nil,.nil,.int .i64 0],ty:=T31,eqs:=false }) .nil) none (.node .nil (some { sz:=1,agg:=false,offs:=[],elem:=2,kind:=3,ik:=.i64,bytes:=24,zero:=[.nil],ty:=(.sl (.int .i64)),eqs:=false }) .nil)) none (.node (.node .nil none (.node .nil (some { sz:=3,agg:=true,offs:=[(0,9),(1,2),(2,4)],elem:=0,kind:=4,ik:=.i64,bytes:=32,zero:=[.str [],.int .i64 0,.kb false],ty:=Z0k,eqs:=true }) .nil)) (some { sz:=1,agg:=false,offs:=[],elem:=9,kind:=3,ik:=.i64,bytes:=24,zero:=[.nil],ty:=(.sl .str),eqs:=false }) (.node (.node .nil (some { sz:=3,agg:=true,offs:=[(0,9),(1,2),(2,2)],elem:=0,kind:=4,ik:=.i64,bytes:=32,zero:=[.str [],.int .i64 0,.int .i64 0],ty:=T87,eqs:=true }) .nil) (some { sz:=2,agg:=true,offs:=[(0,23),(1,2)],elem:=0,kind:=4,ik:=.i64,bytes:=32,zero:=[.nil,.int .i64 0],ty:=T55,eqs:=false }) (.node .nil none (.node .nil (some { sz:=2,agg:=true,offs:=[(0,2),(1,2)],elem:=0,kind:=4,ik:=.i64,bytes:=16,zero:=[.int .i64 0,.int .i64 0],ty:=Z1k,eqs:=true }) .nil))))) (some { sz:=1,agg:=false,offs:=[],elem:=0,kind:=1,ik:=.i64,bytes:=8,zero:=[.int .i64 0],ty:=(.int .i64),eqs:=false }) (.node (.node (.node .nil none (.node .nil (some { sz:=4,agg:=true,offs:=[(0,2),(1,2),(2,2),(3,9)],elem:=0,kind:=4,ik:=.i64,bytes:=40,zero:=[.int .i64 0,.int .i64 0,.int .i64 0,.str []],ty:=T99,eqs:=true }) .nil)) none (.node .nil (some { sz:=9,agg:=true,offs:=[(0,49),(8,2)],elem:=0,kind:=4,ik:=.i64,bytes:=112,zero:=[.int .i64 0,.int .i64 0,.int .i64 0,.int .i64 0,.int .i64 0,.str [],.nil,.nil,.int .i64 0],ty:=T51,eqs:=false }) (.node (.node .nil (some { sz:=4,agg:=true,offs:=[(0,75),(1,9),(2,47),(3,2)],elem:=0,kind:=4,ik:=.i64,bytes:=72,zero:=[.nil,.str [],.nil,.int .i64 0],ty:=T179,eqs:=false }) .nil) none .nil))) none (.node (.node (.node .nil (some { sz:=1,agg:=false,offs:=[],elem:=60,kind:=3,ik:=.i64,bytes:=24,zero:=[.nil],ty:=(.sl T60),eqs:=false }) (.node .nil (some { sz:=1,agg:=false,offs:=[],elem:=3,kind:=3,ik:=.i64,bytes:=24,zero:=[.nil],ty:=(.sl (.int .i64)),eqs:=false }) .nil)) (some { sz:=2,agg:=true,offs:=[(0,41),(1,2)],elem:=0,kind:=4,ik:=.i64,bytes:=32,zero:=[.nil,.int .i64 0],ty:=T43,eqs:=false }) (.node .nil (some { sz:=4,agg:=true,offs:=[(0,22),(1,3),(2,105),(3,2)],elem:=0,kind:=4,ik:=.i64,bytes:=48,zero:=[.nil,.int .i64 0,.int .u64 0,.int .i64 0],ty:=Zgc,eqs:=false }) .nil)) (some { sz:=2,agg:=true,offs:=[(0,23),(1,25)],elem:=0,kind:=4,ik:=.i64,bytes:=48,zero:=[.nil,.nil],ty:=T27,eqs:=false }) (.node (.node (.node .nil (some { sz:=3,agg:=true,offs:=[(0,9),(1,2),(2,4)],elem:=0,kind:=4,ik:=.i64,bytes:=32,zero:=[.str [],.int .i64 0,.kb false],ty:=Z0k,eqs:=true }) .nil) none .nil) none (.node .nil none (.node .nil (some { sz:=1,agg:=false,offs:=[],elem:=191,kind:=3,ik:=.i64,bytes:=24,zero:=[.nil],ty:=(.sl (.int .u32)),eqs:=false }) .nil)))))) none (.node (.node (.node (.node .nil none (.node (.node .nil (some { sz:=2,agg:=true,offs:=[(0,146),(1,2)],elem:=0,kind:=4,ik:=.i64,bytes:=32,zero:=[.nil,.int .i64 0],ty:=T161,eqs:=false }) .nil) none .nil)) none (.node .nil (some { sz:=8,agg:=true,offs:=[(0,2),(1,2),(2,2),(3,2),(4,2),(5,9),(6,47),(7,47)],elem:=0,kind:=4,ik:=.i64,bytes:=104,zero:=[.int .i64 0,.int .i64 0,.int .i64 0,.int .i64 0,.int .i64 0,.str [],.nil,.nil],ty:=T49,eqs:=false }) .nil)) (some { sz:=1,agg:=false,offs:=[],elem:=0,kind:=2,ik:=.i64,bytes:=16,zero:=[.str []],ty:=.str,eqs:=false }) (.node (.node (.node .nil (some { sz:=4,agg:=true,offs:=[(0,27),(2,9),(3,2)],elem:=0,kind:=4,ik:=.i64,bytes:=72,zero:=[.nil,.nil,.str [],.int .i64 0],ty:=T73,eqs:=false }) .nil) (some { sz:=1,agg:=false,offs:=[],elem:=99,kind:=3,ik:=.i64,bytes:=24,zero:=[.nil],ty:=(.sl T99),eqs:=false }) (.node .nil (some { sz:=1,agg:=false,offs:=[],elem:=0,kind:=1,ik:=.u64,bytes:=8,zero:=[.int .u64 0],ty:=(.int .u64),eqs:=false }) .nil)) (some { sz:=1,agg:=false,offs:=[],elem:=144,kind:=3,ik:=.i64,bytes:=24,zero:=[.nil],ty:=(.sl Zv),eqs:=false }) .nil)) (some { sz:=1,agg:=false,offs:=[],elem:=0,kind:=1,ik:=.u8,bytes:=1,zero:=[.int .u8 0],ty:=(.int .u8),eqs:=false }) (.node (.node (.node (.node (.node .nil (some { sz:=1,agg:=false,offs:=[],elem:=0,kind:=1,ik:=.u64,bytes:=8,zero:=[.int .u64 0],ty:=(.int .u64),eqs:=false }) .nil) none .nil) none .nil) none .nil) none (.node .nil (some { sz:=3,agg:=true,offs:=[(0,2),(1,27)],elem:=0,kind:=4,ik:=.i64,bytes:=56,zero:=[.int .i64 0,.nil,.nil],ty:=T29,eqs:=false }) (.node (.node (.node .nil (some { sz:=3,agg:=true,offs:=[(0,2),(1,2),(2,2)],elem:=0,kind:=4,ik:=.i64,bytes:=24,zero:=[.int .i64 0,.int .i64 0,.int .i64 0],ty:=Ze8,eqs:=true }) .nil) none (.node .nil (some { sz:=6,agg:=true,offs:=[(0,29),(3,9),(4,47),(5,2)],elem:=0,kind:=4,ik:=.i64,bytes:=104,zero:=[.int .i64 0,.nil,.nil,.str [],.nil,.int .i64 0],ty:=T221,eqs:=false }) .nil)) none (.node (.node .nil (some { sz:=2,agg:=true,offs:=[(0,47),(1,2)],elem:=0,kind:=4,ik:=.i64,bytes:=32,zero:=[.nil,.int .i64 0],ty:=Z71,eqs:=false }) .nil) none .nil)))))) none (.node (.node (.node (.node .nil none (.node (.node (.node .nil (some { sz:=2,agg:=true,offs:=[(0,2),(1,9)],elem:=0,kind:=4,ik:=.i64,bytes:=24,zero:=[.int .i64 0,.str []],ty:=Zv,eqs:=true }) .nil) none .nil) none .nil)) none .nil) (some { sz:=1,agg:=false,offs:=[],elem:=0,kind:=5,ik:=.i64,bytes:=1,zero:=[.kb false],ty:=.bool,eqs:=false }) (.node (.node .nil none (.node .nil none (.node .nil none (.node .nil (some { sz:=1,agg:=false,offs:=[],elem:=247,kind:=3,ik:=.i64,bytes:=24,zero:=[.nil],ty:=(.sl Z1k),eqs:=false }) .nil)))) none (.node (.node (.node .nil none (.node .nil (some { sz:=1,agg:=false,offs:=[],elem:=1000204,kind:=6,ik:=.i64,bytes:=8,zero:=[.unk],ty:=(.sl (.int .i64)),eqs:=false }) .nil)) none .nil) none (.node .nil (some { sz:=3,agg:=true,offs:=[(0,4),(1,2),(2,9)],elem:=0,kind:=4,ik:=.i64,bytes:=32,zero:=[.kb false,.int .i64 0,.str []],ty:=T60,eqs:=true }) (.node .nil (some { sz:=8,agg:=true,offs:=[(0,2),(1,2),(2,2),(3,9),(4,99)],elem:=0,kind:=4,ik:=.i64,bytes:=80,zero:=[.int .i64 0,.int .i64 0,.int .i64 0,.str [],.int .i64 0,.int .i64 0,.int .i64 0,.str []],ty:=Z5d,eqs:=true }) .nil))))) (some { sz:=1,agg:=false,offs:=[],elem:=0,kind:=1,ik:=.i64,bytes:=8,zero:=[.int .i64 0],ty:=(.int .i64),eqs:=false }) (.node (.node (.node .nil none (.node (.node (.node .nil (some { sz:=1,agg:=false,offs:=[],elem:=150,kind:=3,ik:=.i64,bytes:=24,zero:=[.nil],ty:=(.sl Zlc),eqs:=false }) .nil) none .nil) none .nil)) none (.node (.node .nil none (.node .nil none (.node .nil (some { sz:=1,agg:=false,offs:=[],elem:=4,kind:=3,ik:=.i64,bytes:=24,zero:=[.nil],ty:=(.sl .bool),eqs:=false }) .nil))) none .nil)) none (.node (.node (.node (.node .nil none (.node .nil (some { sz:=5,agg:=true,offs:=[(0,99),(4,2)],elem:=0,kind:=4,ik:=.i64,bytes:=48,zero:=[.int .i64 0,.int .i64 0,.int .i64 0,.str [],.int .i64 0],ty:=T198,eqs:=true }) .nil)) none .nil) (some { sz:=1,agg:=false,offs:=[],elem:=5,kind:=3,ik:=.i64,bytes:=24,zero:=[.nil],ty:=(.sl (.int .u8)),eqs:=false }) (.node (.node (.node .nil (some { sz:=4,agg:=true,offs:=[(0,2),(1,2),(2,2),(3,2)],elem:=0,kind:=4,ik:=.i64,bytes:=32,zero:=[.int .i64 0,.int .i64 0,.int .i64 0,.int .i64 0],ty:=Zlc,eqs:=true }) .nil) none .nil) none (.node .nil (some { sz:=3,agg:=true,offs:=[(0,2),(1,9),(2,2)],elem:=0,kind:=4,ik:=.i64,bytes:=32,zero:=[.int .i64 0,.str [],.int .i64 0],ty:=T118,eqs:=true }) .nil))) none (.node (.node .nil none (.node (.node .nil (some { sz:=1,agg:=false,offs:=[],elem:=124,kind:=3,ik:=.i64,bytes:=24,zero:=[.nil],ty:=(.sl Z5d),eqs:=false }) .nil) none .nil)) none .nil)))))
theorem Zcv:Zob Yb TAB∧Yb.follows .mixedOrders=true:=⟨Zbsb (by kernel_rfl),by kernel_rfl⟩
theorem cX {L:List (Nat×Con)} (h:Zbp Yb L):CtxOk Yb { ti:=TAB,con:=Z4m L }:=Zuv Zcv h
theorem cXr (r t:Bool) {L:List (Nat×Con)} (h:Zbp Yb L):CtxOk Yb { ti:=TAB,con:=Z4m L,rob:=r,tl:=t }:=Zuv Zcv h
def Z9c.l0:Nat→List Int→Int→List Int→Int→Int→Int→Option ((List Int×Int×Int×Int))
 | 0,_,_,_,_,_,_=>none
 | j+1,a1,a2,a3,a4,a5,a6=>bif (decide (a2<((a1.length):Int)))&&(decide (a2<64)) then Ya (at? a1 a2) fun v7=>Z9c.l0 j a1 (Yc .i64 (a2+1)) a3 a4 (Yc .u64 ((intBits .xor .u64 a5 (Yc .u64 v7))*1099511628211)) a6 else some (a3,a4,a5,a6)
def Z9c (k:Nat) (a1:List Int):Option (List Int×Int×Int×Int):=Ya (Z9c.l0 k a1 0 a1 0 88172645463325252 0) fun y2=>Ya (nz? 20) fun v3=>let e4:=Yc .i64 (Int.tdiv ((a1.length):Int) 20);bif decide (12<e4) then some (y2.1,y2.2.1,y2.2.2.1,12) else some (y2.1,y2.2.1,y2.2.2.1,e4)
def Z9c.con (k:Nat):Con:=Sig.con { ps:=[.val false (.sl (.int .u8)) (Zcc (.sl (.int .u8)))],rs:=[.box 107 [.v (.sl (.int .u8)),.v (.int .i64),.v (.int .u64),.v (.int .i64)]],ntmps:=47 } (fun x=>Z9c k x)
def Z9c.cok (k:Nat):=cX cN
def Z9c.l0.s (k:Nat):Summ:=lp 47 { tmps:=[(0,.one (.v (.sl (.int .u8)))),(3,.one (.ptr 0 0)),(4,.one (.v (.int .i64)))],slots:=[(0,.box 107 [.v (.sl (.int .u8)),.v (.int .i64),.v (.int .u64),.v (.int .i64)])],nb:=1 } [(.exit 0,{ tmps:=[],slots:=[(0,.box 107 [.v (.sl (.int .u8)),.v (.int .i64),.v (.int .u64),.v (.int .i64)])],nb:=1 })] (fun j x=>Z9c.l0 j x.1 x.2.1 x.2.2.1 x.2.2.2.1 x.2.2.2.2.1 x.2.2.2.2.2) k
def Z9c.l0.ok (k:Nat):=(lA (Z9c.cok k):Zl Yb _ (.loop (cO (cO (cR (cL (cR (cR (cB Tryz.f34)))))))) (Z9c.l0.s k))
theorem Z9c.ok (k:Nat):Ze Yb 34 (Z9c.con k):=fP (.two .auto (.two .auto (.two (.two .auto (.one (.sum (Z9c.l0.s k)))) .auto))) (Z9c.cok k) Tryz.func34 (sC (Z9c.l0.ok k) sN)
def Zp.j0 (a1:Int) (a2:List Int) (a3:Int) (a4:Int) (a5:Int):Option ((Int×List Int×Int×Int×Int)):=bif decide (a3<((a2.length):Int)) then Ya (at? a2 a3) fun v6=>some (Yc .u64 v6,a2,Yc .i64 (a3+1),a4,a5) else some (a1,a2,a3,a4,a5)
def Zp (a1:Z1g) (a2:Int):Option (Int×List Int×Int×Int×Int):=bif decide (a2≤1) then some (0,a1.1,a1.2.1,a1.2.2.1,a1.2.2.2) else Ya (Zp.j0 0 a1.1 a1.2.1 a1.2.2.1 a1.2.2.2) fun y3=>Ya (Zbc 13) fun v4=>Ya (Zbc 7) fun v5=>Ya (Zbc 17) fun v6=>Ya (Zbc 20) fun v7=>Ya (nz? (Yc .u64 a2)) fun v8=>let e9:=intBits .xor .u64 y3.2.2.2.1 (shl .u64 y3.2.2.2.1 13);let e10:=intBits .xor .u64 e9 (shr .u64 e9 7);let e11:=intBits .xor .u64 e10 (shl .u64 e10 17);some (Yc .i64 (Int.tmod (Yc .u64 (y3.1+(shr .u64 e11 20))) (Yc .u64 a2)),y3.2.1,y3.2.2.1,e11,y3.2.2.2.2)
def Zp.con (k:Nat):Con:=Sig.con { ps:=[.ref 107 Zgc (Zcc Zgc),.val false (.int .i64) (ros (.int .i64))],rs:=[.val false [.v (.int .i64)]],ntmps:=87 } (fun x=>Zp x.1 x.2)
def Zp.cok (k:Nat):=cX cN
def Zp.j0.s (k:Nat):Summ:=lq 87 { tmps:=[(0,.one (.ptr 0 0)),(5,.one (.v (.int .u64)))],slots:=[(0,.box 107 [.v (.sl (.int .u8)),.v (.int .i64),.v (.int .u64),.v (.int .i64)])],nb:=1 } [(.nrm,{ tmps:=[(5,.one (.v (.int .u64)))],slots:=[(0,.box 107 [.v (.sl (.int .u8)),.v (.int .i64),.v (.int .u64),.v (.int .i64)])],nb:=1 })] (fun x=>Zp.j0 x.1 x.2.1 x.2.2.1 x.2.2.2.1 x.2.2.2.2)
def Zp.j0.ok (k:Nat):=(jA (Zp.cok k):Zl Yb _ (cL (cR (cR (cR (cB Tryz.f44))))) (Zp.j0.s k))
theorem Zp.ok (k:Nat):Ze Yb 44 (Zp.con k):=fP (.two .auto (.two .auto (.two .auto (.two (.sum (Zp.j0.s k)) .auto)))) (Zp.cok k) Tryz.func44 (sC (Zp.j0.ok k) sN)
def Z9b (a1:Z1g) (a2:Int):Option (Bool×List Int×Int×Int×Int):=Ya (Zp a1 a2) fun v3=>some (v3.1==0,v3.2.1,v3.2.2.1,v3.2.2.2.1,v3.2.2.2.2)
def Z9b.con (k:Nat):Con:=Sig.con { ps:=[.ref 107 Zgc (Zcc Zgc),.val false (.int .i64) (ros (.int .i64))],rs:=[.val false [.v .bool]],ntmps:=9 } (fun x=>Z9b x.1 x.2)
theorem Z9b.ok (k:Nat):Ze Yb 45 (Z9b.con k):=fA (cX (cC (Zp.ok k) cN)) Tryz.func45
def Zmd.l0:Nat→Int→Int→List Int→Int→Int→Int→List Int→Option ((List Int×Int×Int×Int×List Int))
 | 0,_,_,_,_,_,_,_=>none
 | j+1,a1,a2,a3,a4,a5,a6,a7=>bif decide (a2<a1) then Ya (Zp (a3,(a4,(a5,a6))) 256) fun v8=>Ya (Zw 1 a7 [(Yc .u8 v8.1)]) fun v9=>Zmd.l0 j a1 (Yc .i64 (a2+1)) v8.2.1 v8.2.2.1 v8.2.2.2.1 v8.2.2.2.2 v9 else some (a3,a4,a5,a6,a7)
def Zmd (k:Nat) (a1:Z1g) (a2:Int):Option (Str×List Int×Int×Int×Int):=Ya (Zmd.l0 k a2 0 a1.1 a1.2.1 a1.2.2.1 a1.2.2.2 []) fun y3=>some (Ztb y3.2.2.2.2,y3.1,y3.2.1,y3.2.2.1,y3.2.2.2.1)
def Zmd.con (k:Nat):Con:=Sig.con { ps:=[.ref 107 Zgc (Zcc Zgc),.val false (.int .i64) (ros (.int .i64))],rs:=[.val false [.v .str]],ntmps:=21 } (fun x=>Zmd k x.1 x.2)
def Zmd.cok (k:Nat):=cX (cC (Zp.ok k) cN)
def Zmd.l0.s (k:Nat):Summ:=lp 21 { tmps:=[(0,.one (.ptr 0 0)),(1,.one (.v (.int .i64))),(5,.one (.own 2)),(6,.one (.v (.int .i64)))],slots:=[(0,.box 107 [.v (.sl (.int .u8)),.v (.int .i64),.v (.int .u64),.v (.int .i64)]),(2,.arr false 5 (.int .u8))],nb:=3 } [(.exit 0,{ tmps:=[(5,.one (.own 3))],slots:=[(0,.box 107 [.v (.sl (.int .u8)),.v (.int .i64),.v (.int .u64),.v (.int .i64)]),(3,.arr false 5 (.int .u8))],nb:=4 })] (fun j x=>Zmd.l0 j x.1 x.2.1 x.2.2.1 x.2.2.2.1 x.2.2.2.2.1 x.2.2.2.2.2.1 x.2.2.2.2.2.2) k
def Zmd.l0.ok (k:Nat):=(lA (Zmd.cok k):Zl Yb _ (.loop (cO (cO (cR (cL (cR (cR (cB Tryz.f47)))))))) (Zmd.l0.s k))
theorem Zmd.ok (k:Nat):Ze Yb 47 (Zmd.con k):=fP (.two .auto (.two .auto (.two (.two .auto (.one (.sum (Zmd.l0.s k)))) .auto))) (Zmd.cok k) Tryz.func47 (sC (Zmd.l0.ok k) sN)
def Zyn (a1:Z1g) (a2:List Str):Option (Str×List Int×Int×Int×Int):=Ya (Zp a1 ((a2.length):Int)) fun v3=>Ya (at? a2 v3.1) fun v4=>some (v4,v3.2.1,v3.2.2.1,v3.2.2.2.1,v3.2.2.2.2)
def Zyn.con (k:Nat):Con:=Sig.con { ps:=[.ref 107 Zgc (Zcc Zgc),.val false (.sl .str) (ros (.sl .str))],rs:=[.val false [.v .str]],ntmps:=12 } (fun x=>Zyn x.1 x.2)
theorem Zyn.ok (k:Nat):Ze Yb 102 (Zyn.con k):=fA (cX (cC (Zp.ok k) cN)) Tryz.func102
def Z5h (a1:Z1g):Option (Str×List Int×Int×Int×Int):=Ya (Zyn a1 ([([97,97,97,97,97,97,97,97]:Str),([97,98,97,98,97,98,97,98]:Str),([104,101,108,108,111,32,32,33]:Str),([0,0,0,0,0,0,0,0]:Str),([0,0,0,1,0,0,0,0]:Str)])) fun v2=>some (v2.1,v2.2.1,v2.2.2.1,v2.2.2.2.1,v2.2.2.2.2)
def Z5h.con (k:Nat):Con:=Sig.con { ps:=[.ref 107 Zgc (Zcc Zgc)],rs:=[.val false [.v .str]],ntmps:=6 } (fun x=>Z5h x)
theorem Z5h.ok (k:Nat):Ze Yb 48 (Z5h.con k):=fA (cX (cC (Zyn.ok k) cN)) Tryz.func48
def Zze.l0:Nat→Int→List Int→Int→Int→Int→List Str→Option ((List Int×Int×Int×Int×List Str))
 | 0,_,_,_,_,_,_=>none
 | j+1,a1,a2,a3,a4,a5,a6=>bif decide (0<a1) then Ya (Z5h (a2,(a3,(a4,a5)))) fun v7=>Ya (Zw 16 a6 [v7.1]) fun v8=>Zze.l0 j (Yc .i64 (a1-1)) v7.2.1 v7.2.2.1 v7.2.2.2.1 v7.2.2.2.2 v8 else some (a2,a3,a4,a5,a6)
def Zze (k:Nat) (a1:Z1g) (a2:Int):Option (List Str×List Int×Int×Int×Int):=Ya (Zze.l0 k a2 a1.1 a1.2.1 a1.2.2.1 a1.2.2.2 []) fun y3=>some (y3.2.2.2.2,y3.1,y3.2.1,y3.2.2.1,y3.2.2.2.1)
def Zze.con (k:Nat):Con:=Sig.con { ps:=[.ref 107 Zgc (Zcc Zgc),.val false (.int .i64) (ros (.int .i64))],rs:=[.val false [.own 9 .str]],ntmps:=17 } (fun x=>Zze k x.1 x.2)
def Zze.cok (k:Nat):=cX (cC (Z5h.ok k) cN)
def Zze.l0.s (k:Nat):Summ:=lp 17 { tmps:=[(0,.one (.ptr 0 0)),(1,.one (.v (.int .i64))),(5,.one (.own 2))],slots:=[(0,.box 107 [.v (.sl (.int .u8)),.v (.int .i64),.v (.int .u64),.v (.int .i64)]),(2,.arr false 9 .str)],nb:=3 } [(.exit 0,{ tmps:=[(5,.one (.own 3))],slots:=[(0,.box 107 [.v (.sl (.int .u8)),.v (.int .i64),.v (.int .u64),.v (.int .i64)]),(3,.arr false 9 .str)],nb:=4 })] (fun j x=>Zze.l0 j x.1 x.2.1 x.2.2.1 x.2.2.2.1 x.2.2.2.2.1 x.2.2.2.2.2) k
def Zze.l0.ok (k:Nat):=(lA (Zze.cok k):Zl Yb _ (.loop (cO (cO (cL (cR (cR (cB Tryz.f77))))))) (Zze.l0.s k))
theorem Zze.ok (k:Nat):Ze Yb 77 (Zze.con k):=fP (.two .auto (.two .auto (.two (.one (.sum (Zze.l0.s k))) .auto))) (Zze.cok k) Tryz.func77 (sC (Zze.l0.ok k) sN)
def Zgr (k:Nat) (a1:Z1g):Option (List Str×List Int×Int×Int×Int):=Ya (Zp a1 5) fun v2=>Ya (Zze k v2.2 (Yc .i64 (1+v2.1))) fun v3=>Ya (Z9b v3.2 12) fun v4=>bif v4.1 then Ya (Zp v4.2 3) fun v5=>bif v5.1==0 then Ya (Zp v5.2 2) fun v6=>Ya (Zmd k v6.2 (Yc .i64 (7+(Yc .i64 (2*v6.1))))) fun v7=>let e8:=at? v3.1 0;Ya (e8) fun v9=>Ya (e8) fun v10=>some (Yg v3.1 (Yf 0) v7.1,v7.2.1,v7.2.2.1,v7.2.2.2.1,v7.2.2.2.2) else bif v5.1==1 then some ([],v5.2.1,v5.2.2.1,v5.2.2.2.1,v5.2.2.2.2) else Ya (Zp v5.2 2) fun v11=>Ya (Zze k v11.2 (Yc .i64 (8+v11.1))) fun v12=>some (v12.1,v12.2.1,v12.2.2.1,v12.2.2.2.1,v12.2.2.2.2) else some (v3.1,v4.2.1,v4.2.2.1,v4.2.2.2.1,v4.2.2.2.2)
def Zgr.con (k:Nat):Con:=Sig.con { ps:=[.ref 107 Zgc (Zcc Zgc)],rs:=[.val false [.own 9 .str]],ntmps:=31 } (fun x=>Zgr k x)
theorem Zgr.ok (k:Nat):Ze Yb 35 (Zgr.con k):=fA (cX (cC (Zp.ok k) (cC (Z9b.ok k) (cC (Zmd.ok k) (cC (Zze.ok k) cN))))) Tryz.func35
def Zyo (k:Nat) (a1:List Int):Option (List Str):=Ya (Z9c k a1) fun v2=>Ya (Zgr k v2) fun v3=>some v3.1
def Zyo.con (k:Nat):Con:=Sig.conR { ps:=[.val false (.sl (.int .u8)) (Zcc (.sl (.int .u8)))],rs:=[.val false [.own 9 .str]],ntmps:=6 } (fun x=>Zyo k x)
theorem Zyo.ok (k:Nat):Ze Yb 4 (Zyo.con k):=Zsv (fA (cX (cC (Z9c.ok k) (cC (Zgr.ok k) cN))) Tryz.func4)
def Znb (a1:Int) (a2:Int) (a3:Int):Option (Bool):=some ((decide (a2≤a1))&&(decide (a1≤a3)))
def Znb.con (k:Nat):Con:=Sig.con { ps:=[.val false (.int .i64) (ros (.int .i64)),.val false (.int .i64) (ros (.int .i64)),.val false (.int .i64) (ros (.int .i64))],rs:=[.val false [.v .bool]],ntmps:=15 } (fun x=>Znb x.1 x.2.1 x.2.2)
theorem Znb.ok (k:Nat):Ze Yb 50 (Znb.con k):=fA (cX cN) Tryz.func50
def Zjk (a1:Int):Option (Bool):=Ya (Znb a1 1 8) fun v2=>some v2
def Zjk.con (k:Nat):Con:=Sig.con { ps:=[.val false (.int .i64) (ros (.int .i64))],rs:=[.val false [.v .bool]],ntmps:=5 } (fun x=>Zjk x)
theorem Zjk.ok (k:Nat):Ze Yb 78 (Zjk.con k):=fA (cX (cC (Znb.ok k) cN)) Tryz.func78
def Znh (a1:List Str):Option (Int):=some ((a1.length):Int)
def Znh.con (k:Nat):Con:=Sig.con { ps:=[.val false (.sl .str) (ros (.sl .str))],rs:=[.val false [.v (.int .i64)]],ntmps:=5 } (fun x=>Znh x)
theorem Znh.ok (k:Nat):Ze Yb 79 (Znh.con k):=fA (cX cN) Tryz.func79
def Z6p (a1:Str):Option (Bool):=some (((a1.length):Int) != 8)
def Z6p.con (k:Nat):Con:=Sig.con { ps:=[.val false .str (ros .str)],rs:=[.val false [.v .bool]],ntmps:=6 } (fun x=>Z6p x)
theorem Z6p.ok (k:Nat):Ze Yb 81 (Z6p.con k):=fA (cX cN) Tryz.func81
def Z8d.l0:Nat→List Str→Int→Int→Option (Unit ⊕ Int)
 | 0,_,_,_=>none
 | j+1,a1,a2,a3=>bif decide (a3<a2) then Ya (at? a1 a3) fun v4=>Ya (Z6p v4) fun v5=>bif v5 then some (.inr a3) else Z8d.l0 j a1 a2 (Yc .i64 (a3+1)) else some (.inl ())
def Z8d (k:Nat) (a1:List Str):Option (Int):=Ya (Z8d.l0 k a1 ((a1.length):Int) 0) fun
  | .inl y2=>some (-1)
  | .inr y3=>some y3
def Z8d.con (k:Nat):Con:=Sig.con { ps:=[.val false (.sl .str) (ros (.sl .str)),.fn 81 []],rs:=[.val false [.v (.int .i64)]],ntmps:=19 } (fun x=>Z8d k x)
def Z8d.cok (k:Nat):=cX (cC (Z6p.ok k) cN)
def Z8d.l0.s (k:Nat):Summ:=lp 19 { tmps:=[(0,.one (.bor .str)),(1,.fn 81 []),(7,.one (.v (.int .i64))),(8,.one (.v (.int .i64)))],slots:=[],nb:=0 } [(.exit 0,{ tmps:=[],slots:=[],nb:=0 }),(.ret,{ tmps:=[(4,.one (.v (.int .i64)))],slots:=[],nb:=0 })] (fun j x=>Z8d.l0 j x.1 x.2.1 x.2.2) k
def Z8d.l0.ok (k:Nat):=(lA (Z8d.cok k):Zl Yb _ (.loop (cO (cO (cR (cL (cR (cB Tryz.f137))))))) (Z8d.l0.s k))
theorem Z8d.ok (k:Nat):Ze Yb 137 (Z8d.con k):=fP (.two .auto (.two (.two .auto (.one (.sum (Z8d.l0.s k)))) .auto)) (Z8d.cok k) Tryz.func137 (sC (Z8d.l0.ok k) sN)
def Zss (k:Nat) (a1:List Str):Option (Bool):=Ya (Z8d k a1) fun v2=>some (decide (0≤v2))
def Zss.con (k:Nat):Con:=Sig.con { ps:=[.val false (.sl .str) (ros (.sl .str)),.fn 81 []],rs:=[.val false [.v .bool]],ntmps:=9 } (fun x=>Zss k x)
theorem Zss.ok (k:Nat):Ze Yb 80 (Zss.con k):=fA (cX (cC (Z8d.ok k) cN)) Tryz.func80
def Z4l (k:Nat) (a1:List Str):Option (Bool):=Ya (Znh a1) fun v2=>Ya (Zjk v2) fun v3=>bif v3 then Ya (Zss k a1) fun v4=>some (!v4) else some false
def Z4l.con (k:Nat):Con:=Sig.con { ps:=[.val false (.sl .str) (ros (.sl .str))],rs:=[.val false [.v .bool]],ntmps:=11 } (fun x=>Z4l k x)
theorem Z4l.ok (k:Nat):Ze Yb 36 (Z4l.con k):=fA (cX (cC (Zjk.ok k) (cC (Znh.ok k) (cC (Zss.ok k) cN)))) Tryz.func36
def slices_Clone_string (a:List Str):Option (List Str):=Ya (Zw 16 [] a) fun y=>some y
def slices_Clone_string.sig:Sig:={ ps:=[.val false (.sl .str) (ros (.sl .str))],rs:=[.val false [.own 9 .str]],ntmps:=8 }
def slices_Clone_string.con (k:Nat):Con:=slices_Clone_string.sig.con (fun x=>slices_Clone_string x)
theorem slices_Clone_string.ok (k:Nat):Ze Yb 186 (slices_Clone_string.con k):=
 Z72 (e:=9) (C:={ ti:=TAB,con:=Z4m [] }) (s:=slices_Clone_string.sig) (G:=fun x=>slices_Clone_string x) (Zuv Zcv trivial) Yt (by kernel_rfl) rfl (by kernel_rfl) (by kernel_rfl) (by kernel_rfl) rfl rfl rfl rfl rfl rfl (by kernel_rfl) (by kernel_rfl)
  (fun x=>⟨_,_,.inl rfl⟩) (fun x y h=>Eq.trans (b:=slices_Clone_string x) (by kernel_rfl) h) (fun x y h hl=>by
   have e:x=([]:List Str):=hl .str x (.inl (by kernel_rfl));subst e;exact Eq.trans (b:=slices_Clone_string []) (by kernel_rfl) h)
def Zrk (a:List Zx):Option (List Zx):=Ya (Zw 24 [] a) fun y=>some y
def Zrk.sig:Sig:={ ps:=[.val false (.sl Zv) (ros (.sl Zv))],rs:=[.val false [.own 144 Zv]],ntmps:=8 }
def Zrk.con (k:Nat):Con:=Zrk.sig.con (fun x=>Zrk x)
theorem Zrk.ok (k:Nat):Ze Yb 193 (Zrk.con k):=
 Z72 (e:=144) (C:={ ti:=TAB,con:=Z4m [] }) (s:=Zrk.sig) (G:=fun x=>Zrk x) (Zuv Zcv trivial) Tryz.func193 (by kernel_rfl) rfl (by kernel_rfl) (by kernel_rfl) (by kernel_rfl) rfl rfl rfl rfl rfl rfl (by kernel_rfl) (by kernel_rfl)
  (fun x=>⟨_,_,.inl rfl⟩) (fun x y h=>Eq.trans (b:=Zrk x) (by kernel_rfl) h) (fun x y h hl=>by
   have e:x=([]:List Zx):=hl Zv x (.inl (by kernel_rfl));subst e;exact Eq.trans (b:=Zrk []) (by kernel_rfl) h)
def Z3p (a1:G27):Option (List Str×List Zx):=Ya (slices_Clone_string a1.1) fun v2=>Ya (Zrk a1.2) fun v3=>some (v2,v3)
def Z3p.con (k:Nat):Con:=Sig.con { ps:=[.val true T27 (ros T27)],rs:=[.val true [.own 9 .str,.own 144 Zv]],ntmps:=10 } (fun x=>Z3p x)
theorem Z3p.ok (k:Nat):Ze Yb 138 (Z3p.con k):=fA (cXr true false (cC (slices_Clone_string.ok k) (cC (Zrk.ok k) cN))) Tryz.func138
def Z7f.l0:Nat→Int→Int→List Zx→List Str→Option ((List Str×List Zx))
 | 0,_,_,_,_=>none
 | j+1,a1,a2,a3,a4=>bif decide (a2<a1) then Ya (at? a3 a2) fun v5=>Ya (at? a3 a2) fun v6=>let e7:=at? a4 v6.1;Ya (e7) fun v8=>Ya (e7) fun v9=>Z7f.l0 j a1 (Yc .i64 (a2+1)) a3 (Yg a4 (Yf v6.1) v6.2) else some (a4,a3)
def Z7f (k:Nat) (a1:G27):Option (List Str×List Zx):=Ya (Z7f.l0 k ((a1.2.length):Int) 0 a1.2 a1.1) fun y2=>some (y2.1,[])
def Z7f.con (k:Nat):Con:=Sig.con { ps:=[.ref 27 T27 [.own 9,.own 144]],rs:=[],ntmps:=26 } (fun x=>Z7f k x)
def Z7f.cok (k:Nat):=cX cN
def Z7f.l0.s (k:Nat):Summ:=lp 26 { tmps:=[(0,.one (.ptr 0 0)),(7,.one (.own 3)),(8,.one (.v (.int .i64))),(9,.one (.v (.int .i64)))],slots:=[(0,.box 27 [.own 4,.own 3]),(3,.arr false 144 Zv),(4,.arr false 9 .str)],nb:=5 } [(.exit 0,{ tmps:=[],slots:=[(0,.box 27 [.own 5,.own 6]),(5,.arr false 9 .str),(6,.arr false 144 Zv)],nb:=7 })] (fun j x=>Z7f.l0 j x.1 x.2.1 x.2.2.1 x.2.2.2) k
def Z7f.l0.ok (k:Nat):=(lA (Z7f.cok k):Zl Yb _ (.loop (cO (cO (cR (cL (cB Tryz.f139)))))) (Z7f.l0.s k))
theorem Z7f.ok (k:Nat):Ze Yb 139 (Z7f.con k):=fP (.two (.two .auto (.one (.sum (Z7f.l0.s k)))) .auto) (Z7f.cok k) Tryz.func139 (sC (Z7f.l0.ok k) sN)
def Zbs (a1:Zx) (a2:Int):Option (Bool):=some (a1.1==a2)
def Zbs.con (k:Nat):Con:=Sig.con { ps:=[.val true Zv (ros Zv),.rptr (.int .i64)],rs:=[.val false [.v .bool]],ntmps:=8 } (fun x=>Zbs x.1 x.2)
theorem Zbs.ok (k:Nat):Ze Yb 207 (Zbs.con k):=fA (cX cN) Tryz.func207
def Zre.l0:Nat→List Zx→Int→Int→Int→Option (Int ⊕ (Int×Int))
 | 0,_,_,_,_=>none
 | j+1,a1,a2,a3,a4=>bif decide (a3<a2) then Ya (at? a1 a3) fun v5=>Ya (Zbs v5 a4) fun v6=>bif v6 then some (.inr (a3,a4)) else Zre.l0 j a1 a2 (Yc .i64 (a3+1)) a4 else some (.inl a4)
def Zre (k:Nat) (a1:List Zx) (a2:Int):Option (Int×Int):=Ya (Zre.l0 k a1 ((a1.length):Int) 0 a2) fun
  | .inl y3=>some ((-1),y3)
  | .inr y4=>some (y4.1,y4.2)
def Zre.con (k:Nat):Con:=Sig.con { ps:=[.val false (.sl Zv) (ros (.sl Zv)),.fn 207 [(2,(.int .i64),(Zcc (.int .i64)))]],rs:=[.val false [.v (.int .i64)]],ntmps:=19 } (fun x=>Zre k x.1 x.2)
def Zre.cok (k:Nat):=cX (cC (Zbs.ok k) cN)
def Zre.l0.s (k:Nat):Summ:=lp 19 { tmps:=[(0,.one (.bor Zv)),(1,.fn 207 [.ptr 0 0]),(7,.one (.v (.int .i64))),(8,.one (.v (.int .i64)))],slots:=[(0,.box 2 [.v (.int .i64)])],nb:=1 } [(.exit 0,{ tmps:=[],slots:=[(0,.box 2 [.v (.int .i64)])],nb:=1 }),(.ret,{ tmps:=[(4,.one (.v (.int .i64)))],slots:=[(0,.box 2 [.v (.int .i64)])],nb:=1 })] (fun j x=>Zre.l0 j x.1 x.2.1 x.2.2.1 x.2.2.2) k
def Zre.l0.ok (k:Nat):=(lA (Zre.cok k):Zl Yb _ (.loop (cO (cO (cR (cL (cR (cB Tryz.f206))))))) (Zre.l0.s k))
theorem Zre.ok (k:Nat):Ze Yb 206 (Zre.con k):=fP (.two .auto (.two (.two .auto (.one (.sum (Zre.l0.s k)))) .auto)) (Zre.cok k) Tryz.func206 (sC (Zre.l0.ok k) sN)
def Z7k (k:Nat) (a1:G27) (a2:Int):Option (Int):=Ya (Zre k a1.2 a2) fun v3=>some v3.1
def Z7k.con (k:Nat):Con:=Sig.con { ps:=[.val true T27 (ros T27),.val false (.int .i64) (ros (.int .i64))],rs:=[.val false [.v (.int .i64)]],ntmps:=9 } (fun x=>Z7k k x.1 x.2)
theorem Z7k.ok (k:Nat):Ze Yb 165 (Z7k.con k):=fA (cXr true false (cC (Zre.ok k) cN)) Tryz.func165
def Zyp (k:Nat) (a1:G27) (a2:Int) (a3:Str):Option (List Str×List Zx):=Ya (Z7k k a1 a2) fun v4=>bif decide (0≤v4) then let e5:=at? a1.2 v4;Ya (e5) fun v6=>Ya (e5) fun v7=>some (a1.1,Yg a1.2 (Yf v4) (v7.1,a3)) else Ya (Zw 24 a1.2 [(a2,a3)]) fun v8=>some (a1.1,v8)
def Zyp.con (k:Nat):Con:=Sig.con { ps:=[.ref 27 T27 [.own 9,.own 144],.val false (.int .i64) (ros (.int .i64)),.val false .str (ros .str)],rs:=[],ntmps:=34 } (fun x=>Zyp k x.1 x.2.1 x.2.2)
theorem Zyp.ok (k:Nat):Ze Yb 140 (Zyp.con k):=fA (cX (cC (Z7k.ok k) cN)) Tryz.func140
def Zsf.l0 (k:Nat):Nat→List G60→Int→Int→List Str→List Zx→Option ((List Str×List Zx))
 | 0,_,_,_,_,_=>none
 | j+1,a1,a2,a3,a4,a5=>bif decide (a3<a2) then Ya (at? a1 a3) fun v6=>let e7:=Yc .i64 (a3+1);bif v6.1 then Ya (Z7f k (a4,a5)) fun v8=>Zsf.l0 k j a1 a2 e7 v8.1 v8.2 else Ya (Zyp k (a4,a5) v6.2.1 v6.2.2) fun v9=>Zsf.l0 k j a1 a2 e7 v9.1 v9.2 else some (a4,a5)
def Zsf (k:Nat) (a1:G27) (a2:List G60):Option (List Str×List Zx):=Ya (Z3p a1) fun v3=>Ya (Zsf.l0 k k a2 ((a2.length):Int) 0 v3.1 v3.2) fun y4=>some (y4.1,y4.2)
def Zsf.con (k:Nat):Con:=Sig.con { ps:=[.val true T27 (ros T27),.val false (.sl T60) (ros (.sl T60))],rs:=[.val true [.own 9 .str,.own 144 Zv]],ntmps:=26 } (fun x=>Zsf k x.1 x.2)
def Zsf.cok (k:Nat):=cXr true false (cC (Z3p.ok k) (cC (Z7f.ok k) (cC (Zyp.ok k) cN)))
def Zsf.l0.s (k:Nat):Summ:=lp 26 { tmps:=[(5,.one (.ptr 3 0)),(10,.one (.bor T60)),(11,.one (.v (.int .i64))),(12,.one (.v (.int .i64)))],slots:=[(3,.box 27 [.own 4,.own 5]),(4,.arr false 9 .str),(5,.arr false 144 Zv)],nb:=6 } [(.exit 0,{ tmps:=[],slots:=[(3,.box 27 [.own 6,.own 7]),(6,.arr false 9 .str),(7,.arr false 144 Zv)],nb:=8 })] (fun j x=>Zsf.l0 k j x.1 x.2.1 x.2.2.1 x.2.2.2.1 x.2.2.2.2) k
def Zsf.l0.ok (k:Nat):=(lA (Zsf.cok k):Zl Yb _ (.loop (cO (cO (cR (cL (cR (cR (cB Tryz.f82)))))))) (Zsf.l0.s k))
theorem Zsf.ok (k:Nat):Ze Yb 82 (Zsf.con k):=fP (.two .auto (.two .auto (.two (.two .auto (.one (.sum (Zsf.l0.s k)))) .auto))) (Zsf.cok k) Tryz.func82 (sC (Zsf.l0.ok k) sN)
def Zyh (k:Nat) (a1:G27) (a2:Int):Option (Str):=Ya (Z7k k a1 a2) fun v3=>bif decide (0≤v3) then Ya (at? a1.2 v3) fun v4=>some v4.2 else Ya (at? a1.1 a2) fun v5=>some v5
def Zyh.con (k:Nat):Con:=Sig.con { ps:=[.val true T27 (ros T27),.val false (.int .i64) (ros (.int .i64))],rs:=[.val false [.v .str]],ntmps:=22 } (fun x=>Zyh k x.1 x.2)
theorem Zyh.ok (k:Nat):Ze Yb 121 (Zyh.con k):=fA (cXr true false (cC (Z7k.ok k) cN)) Tryz.func121
def Zpc.l0:Nat→Str→Int→Int→Int→Option (Int)
 | 0,_,_,_,_=>none
 | j+1,a1,a2,a3,a4=>bif decide (a4<8) then Ya (at? a1 a3) fun v5=>Ya (Zbc a4) fun v6=>Ya (Zbc 1) fun v7=>let e8:=Yc .i64 (a4+1);bif (intBits .and .u32 (intBits .xor .u32 a2 (shr .u32 (Yc .u32 (v5.toNat:Int)) a4)) 1)==1 then Zpc.l0 j a1 (intBits .xor .u32 (shr .u32 a2 1) 3988292384) a3 e8 else Zpc.l0 j a1 (shr .u32 a2 1) a3 e8 else some a2
def Zpc.l1 (k:Nat):Nat→Str→Int→Int→Int→Option (Int)
 | 0,_,_,_,_=>none
 | j+1,a1,a2,a3,a4=>bif decide (a4<a3) then Ya (Zpc.l0 k a1 a2 a4 0) fun y5=>Zpc.l1 k j a1 y5 a3 (Yc .i64 (a4+1)) else some a2
def Zpc (k:Nat) (a1:Int) (a2:Str):Option (Int):=Ya (Zpc.l1 k k a2 (intBits .xor .u32 (Yi .u32) a1) ((a2.length):Int) 0) fun y3=>some (intBits .xor .u32 (Yi .u32) y3)
def Zpc.con (k:Nat):Con:=Sig.con { ps:=[.val false (.int .u32) (ros (.int .u32)),.val false .str (ros .str)],rs:=[.val false [.v (.int .u32)]],ntmps:=38 } (fun x=>Zpc k x.1 x.2)
def Zpc.cok (k:Nat):=cX cN
def Zpc.l0.s (k:Nat):Summ:=lp 38 { tmps:=[(1,.one (.v .str)),(5,.one (.v (.int .u32))),(6,.one (.v (.int .i64))),(16,.one (.v (.int .i64)))],slots:=[],nb:=0 } [(.exit 2,{ tmps:=[(5,.one (.v (.int .u32)))],slots:=[],nb:=0 })] (fun j x=>Zpc.l0 j x.1 x.2.1 x.2.2.1 x.2.2.2) k
def Zpc.l0.ok (k:Nat):=(lA (Zpc.cok k):Zl Yb _ (.loop (cO (cO (cR (cR (cO (cL (cR (cR (cO (cO (cR (cL (cR (cR (cB Yr)))))))))))))))) (Zpc.l0.s k))
def Zpc.l1.s (k:Nat):Summ:=lp 38 { tmps:=[(1,.one (.v .str)),(5,.one (.v (.int .u32))),(12,.one (.v (.int .i64))),(13,.one (.v (.int .i64)))],slots:=[],nb:=0 } [(.exit 0,{ tmps:=[(5,.one (.v (.int .u32)))],slots:=[],nb:=0 })] (fun j x=>Zpc.l1 k j x.1 x.2.1 x.2.2.1 x.2.2.2) k
def Zpc.l1.ok (k:Nat):=(lP (.two .auto (.two .auto (.two (.one (.two .auto (.two .auto (.one (.sum (Zpc.l0.s k)))))) .auto))) (Zpc.cok k) (sC (Zpc.l0.ok k) sN):Zl Yb _ (.loop (cO (cO (cR (cL (cR (cR (cB Yr)))))))) (Zpc.l1.s k))
theorem Zpc.ok (k:Nat):Ze Yb 161 (Zpc.con k):=fP (.two .auto (.two .auto (.two (.two .auto (.one (.sum (Zpc.l1.s k)))) .auto))) (Zpc.cok k) Tryz.func161 (sC (Zpc.l1.ok k) sN)
def Z9k (k:Nat) (a1:Str):Option (Str):=Ya (Zpc k 0 a1) fun v2=>Ya (Zbc 8) fun v3=>Ya (Zbc 16) fun v4=>Ya (Zbc 24) fun v5=>Ya (Z2c a1 (Ztb [(Yc .u8 v2),(Yc .u8 (shr .u32 v2 8)),(Yc .u8 (shr .u32 v2 16)),(Yc .u8 (shr .u32 v2 24))])) fun v6=>some v6
def Z9k.con (k:Nat):Con:=Sig.con { ps:=[.val false .str (ros .str)],rs:=[.val false [.v .str]],ntmps:=21 } (fun x=>Z9k k x)
theorem Z9k.ok (k:Nat):Ze Yb 103 (Z9k.con k):=fA (cX (cC (Zpc.ok k) cN)) Tryz.func103
def Zal (k:Nat) (a1:Str):Option (Str×Int):=bif decide (((a1.length):Int)<4) then some ([],4) else Ya (Z2b a1 0 (Yc .i64 (((a1.length):Int)-4))) fun v2=>Ya (Z9k k v2) fun v3=>bif !(v3==a1) then some ([],5) else some (v2,0)
def Zal.con (k:Nat):Con:=Sig.con { ps:=[.val false .str (ros .str)],rs:=[.val false [.v .str],.val false [.v (.int .i64)]],ntmps:=18 } (fun x=>Zal k x)
theorem Zal.ok (k:Nat):Ze Yb 124 (Zal.con k):=fA (cX (cC (Z9k.ok k) cN)) Tryz.func124
def Ztf.l0:Nat→Str→Int→Int→Int→Option ((Int×Int×Int))
 | 0,_,_,_,_=>none
 | j+1,a1,a2,a3,a4=>bif decide ((Yc .i64 (((a1.length):Int)-a4))≤a2) then some (0,0,4) else let e5:=Yc .i64 (a2+a4);Ya (at? a1 e5) fun v6=>bif (a4==9)&&(decide (1<(v6.toNat:Int))) then some (0,0,3) else let e7:=Yc .i64 (7*a4);Ya (Zbc e7) fun v8=>let e9:=intBits .or .u64 a3 (shl .u64 (Yc .u64 (intBits .and .u8 (v6.toNat:Int) 127)) e7);bif decide (127<(v6.toNat:Int)) then Ztf.l0 j a1 a2 e9 (Yc .i64 (a4+1)) else bif ((v6.toNat:Int)==0)&&(decide (0<a4)) then some (0,0,3) else Ya (Zbc 1) fun v10=>let e11:=Yc .i64 (e5+1);let e12:=Yc .i64 (shr .u64 e9 1);bif (intBits .and .u64 e9 1)==1 then some (intBits .xor .i64 (-1) e12,e11,0) else some (e12,e11,0)
def Ztf (k:Nat) (a1:Str) (a2:Int):Option (Int×Int×Int):=bif decide (a2<0) then some (0,0,1) else Ya (Ztf.l0 k a1 a2 0 0) fun y3=>some (y3.1,y3.2.1,y3.2.2)
def Ztf.con (k:Nat):Con:=Sig.con { ps:=[.val false .str (ros .str),.val false (.int .i64) (ros (.int .i64))],rs:=[.val false [.v (.int .i64)],.val false [.v (.int .i64)],.val false [.v (.int .i64)]],ntmps:=61 } (fun x=>Ztf k x.1 x.2)
def Ztf.cok (k:Nat):=cX cN
def Ztf.l0.s (k:Nat):Summ:=lp 61 { tmps:=[(0,.one (.v .str)),(1,.one (.v (.int .i64))),(7,.one (.v (.int .u64))),(8,.one (.v (.int .i64)))],slots:=[],nb:=0 } [(.ret,{ tmps:=[(4,.one (.v (.int .i64))),(5,.one (.v (.int .i64))),(6,.one (.v (.int .i64)))],slots:=[],nb:=0 })] (fun j x=>Ztf.l0 j x.1 x.2.1 x.2.2.1 x.2.2.2) k
def Ztf.l0.ok (k:Nat):=(lA (Ztf.cok k):Zl Yb _ (.loop (cO (cO (cR (cR (cR (cR (cB Tryz.f182)))))))) (Ztf.l0.s k))
theorem Ztf.ok (k:Nat):Ze Yb 182 (Ztf.con k):=fP (.two .auto (.two .auto (.two .auto (.two .auto (.one (.sum (Ztf.l0.s k))))))) (Ztf.cok k) Tryz.func182 (sC (Ztf.l0.ok k) sN)
def Zqc (k:Nat) (a1:Z6u):Option (Int×Str×Int×Bool):=Ya (Ztf k a1.1 a1.2.1) fun v2=>bif v2.2.2 != 0 then some (0,a1.1,a1.2.1,true) else some (v2.1,a1.1,v2.2.1,a1.2.2)
def Zqc.con (k:Nat):Con:=Sig.con { ps:=[.ref 155 Z0k (Zcc Z0k)],rs:=[.val false [.v (.int .i64)]],ntmps:=29 } (fun x=>Zqc k x)
theorem Zqc.ok (k:Nat):Ze Yb 125 (Zqc.con k):=fA (cX (cC (Ztf.ok k) cN)) Tryz.func125
def Z4p (k:Nat) (a1:Str) (a2:Int):Option (Str×Int×Int):=Ya (Ztf k a1 a2) fun v3=>bif v3.2.2 != 0 then some ([],0,v3.2.2) else Ya (Znb v3.1 0 8000) fun v4=>bif !v4 then some ([],0,3) else bif decide ((Yc .i64 (((a1.length):Int)-v3.2.1))<v3.1) then some ([],0,4) else let e5:=Yc .i64 (v3.2.1+v3.1);Ya (Z2b a1 v3.2.1 e5) fun v6=>some (v6,e5,0)
def Z4p.con (k:Nat):Con:=Sig.con { ps:=[.val false .str (ros .str),.val false (.int .i64) (ros (.int .i64))],rs:=[.val false [.v .str],.val false [.v (.int .i64)],.val false [.v (.int .i64)]],ntmps:=41 } (fun x=>Z4p k x.1 x.2)
theorem Z4p.ok (k:Nat):Ze Yb 183 (Z4p.con k):=fA (cX (cC (Znb.ok k) (cC (Ztf.ok k) cN))) Tryz.func183
def Z7g (k:Nat) (a1:Z6u):Option (Str×Str×Int×Bool):=Ya (Z4p k a1.1 a1.2.1) fun v2=>bif v2.2.2 != 0 then some ([],a1.1,a1.2.1,true) else some (v2.1,a1.1,v2.2.1,a1.2.2)
def Z7g.con (k:Nat):Con:=Sig.con { ps:=[.ref 155 Z0k (Zcc Z0k)],rs:=[.val false [.v .str]],ntmps:=29 } (fun x=>Z7g k x)
theorem Z7g.ok (k:Nat):Ze Yb 126 (Z7g.con k):=fA (cX (cC (Z4p.ok k) cN)) Tryz.func126
def Zhn (k:Nat) (a1:Str):Option (Int×Str×Int):=Ya (Zal k a1) fun v2=>bif v2.2 != 0 then some (0,[],v2.2) else Ya (Zqc k (v2.1,(0,false))) fun v3=>Ya (Z7g k v3.2) fun v4=>bif v4.2.2.2||(v4.2.2.1 != ((v2.1.length):Int)) then some (0,[],3) else Ya (Znb v3.1 1 1000000) fun v5=>bif (!v5)||(decide (80<((v4.1.length):Int))) then some (0,[],3) else some (v3.1,v4.1,0)
def Zhn.con (k:Nat):Con:=Sig.con { ps:=[.val false .str (ros .str)],rs:=[.val true [.v (.int .i64),.v .str,.v (.int .i64)]],ntmps:=51 } (fun x=>Zhn k x)
theorem Zhn.ok (k:Nat):Ze Yb 166 (Zhn.con k):=fA (cX (cC (Znb.ok k) (cC (Zal.ok k) (cC (Zqc.ok k) (cC (Z7g.ok k) cN))))) Tryz.func166
def Zzd.l0 (k:Nat):Nat→List Str→List Zx→Int→Int→Int→Str→Int→Option ((Int×Int×Str×Int))
 | 0,_,_,_,_,_,_,_=>none
 | j+1,a1,a2,a3,a4,a5,a6,a7=>bif decide (a4<2) then Ya (Zyh k (a1,a2) a4) fun v8=>Ya (Zhn k v8) fun v9=>let e10:=Yc .i64 (a4+1);bif (v9.2.2==0)&&((decide (a3<0))||(decide (a5<v9.1))) then Zzd.l0 k j a1 a2 a4 e10 v9.1 v9.2.1 v9.2.2 else Zzd.l0 k j a1 a2 a3 e10 a5 a6 a7 else some (a3,a5,a6,a7)
def Zzd (k:Nat) (a1:G27):Option (Int×Str×Int×Int):=Ya (Zzd.l0 k k a1.1 a1.2 (-1) 0 0 [] 6) fun y2=>some (y2.2.1,y2.2.2.1,y2.2.2.2,y2.1)
def Zzd.con (k:Nat):Con:=Sig.con { ps:=[.val true T27 (ros T27)],rs:=[.val true [.v (.int .i64),.v .str,.v (.int .i64)],.val false [.v (.int .i64)]],ntmps:=35 } (fun x=>Zzd k x)
def Zzd.cok (k:Nat):=cXr true false (cC (Zyh.ok k) (cC (Zhn.ok k) cN))
def Zzd.l0.s (k:Nat):Summ:=lp 35 { tmps:=[(1,.eptr [.bor .str,.bor Zv]),(4,.one (.ptr 1 0)),(5,.one (.v (.int .i64))),(9,.one (.v (.int .i64)))],slots:=[(1,.box 118 [.v (.int .i64),.v .str,.v (.int .i64)])],nb:=2 } [(.exit 0,{ tmps:=[(5,.one (.v (.int .i64)))],slots:=[(1,.box 118 [.v (.int .i64),.v .str,.v (.int .i64)])],nb:=2 })] (fun j x=>Zzd.l0 k j x.1 x.2.1 x.2.2.1 x.2.2.2.1 x.2.2.2.2.1 x.2.2.2.2.2.1 x.2.2.2.2.2.2) k
def Zzd.l0.ok (k:Nat):=(lA (Zzd.cok k):Zl Yb _ (.loop (cO (cO (cR (cL (cR (cR (cB Tryz.f109)))))))) (Zzd.l0.s k))
theorem Zzd.ok (k:Nat):Ze Yb 109 (Zzd.con k):=fP (.two .auto (.two .auto (.two (.two .auto (.one (.sum (Zzd.l0.s k)))) .auto))) (Zzd.cok k) Tryz.func109 (sC (Zzd.l0.ok k) sN)
def Zzc.j0 (a1:Int) (a2:Int):Option (Int):=bif decide (a1<0) then some (intBits .xor .u64 (Yi .u64) a2) else some a2
def Zzc.l1:Nat→Int→List Int→Option ((Int×List Int))
 | 0,_,_=>none
 | j+1,a1,a2=>bif decide (127<a1) then Ya (Zw 1 a2 [(intBits .or .u8 (Yc .u8 a1) 128)]) fun v3=>Ya (Zbc 7) fun v4=>Zzc.l1 j (shr .u64 a1 7) v3 else some (a1,a2)
def Zzc (k:Nat) (a1:Int):Option (Str):=Ya (Zbc 1) fun v2=>Ya (Zzc.j0 a1 (shl .u64 (Yc .u64 a1) 1)) fun y3=>Ya (Zzc.l1 k y3 []) fun y4=>Ya (Zw 1 y4.2 [(Yc .u8 y4.1)]) fun v5=>some (Ztb v5)
def Zzc.con (k:Nat):Con:=Sig.con { ps:=[.val false (.int .i64) (ros (.int .i64))],rs:=[.val false [.v .str]],ntmps:=28 } (fun x=>Zzc k x)
def Zzc.cok (k:Nat):=cX cN
def Zzc.j0.s (k:Nat):Summ:=lq 28 { tmps:=[(0,.one (.v (.int .i64))),(3,.one (.v (.int .u64)))],slots:=[],nb:=0 } [(.nrm,{ tmps:=[(3,.one (.v (.int .u64)))],slots:=[],nb:=0 })] (fun x=>Zzc.j0 x.1 x.2)
def Zzc.j0.ok (k:Nat):=(jA (Zzc.cok k):Zl Yb _ (cL (cR (cR (cB Ys)))) (Zzc.j0.s k))
def Zzc.l1.s (k:Nat):Summ:=lp 28 { tmps:=[(3,.one (.v (.int .u64))),(4,.one (.own 0))],slots:=[(0,.arr false 5 (.int .u8))],nb:=1 } [(.exit 0,{ tmps:=[(3,.one (.v (.int .u64))),(4,.one (.own 1))],slots:=[(1,.arr false 5 (.int .u8))],nb:=2 })] (fun j x=>Zzc.l1 j x.1 x.2) k
def Zzc.l1.ok (k:Nat):=(lA (Zzc.cok k):Zl Yb _ (.loop (cO (cO (cL (cR (cR (cR (cR (cB Ys))))))))) (Zzc.l1.s k))
theorem Zzc.ok (k:Nat):Ze Yb 162 (Zzc.con k):=fP (.two .auto (.two .auto (.two (.sum (Zzc.j0.s k)) (.two .auto (.two (.one (.sum (Zzc.l1.s k))) .auto))))) (Zzc.cok k) Tryz.func162 (sC (Zzc.j0.ok k) (sC (Zzc.l1.ok k) sN))
def Z8k (k:Nat) (a1:Str):Option (Str):=Ya (Zzc k ((a1.length):Int)) fun v2=>Ya (Z2c v2 a1) fun v3=>some v3
def Z8k.con (k:Nat):Con:=Sig.con { ps:=[.val false .str (ros .str)],rs:=[.val false [.v .str]],ntmps:=8 } (fun x=>Z8k k x)
theorem Z8k.ok (k:Nat):Ze Yb 105 (Z8k.con k):=fA (cX (cC (Zzc.ok k) cN)) Tryz.func105
def Zko (k:Nat) (a1:Int) (a2:Str):Option (Str):=Ya (Zzc k a1) fun v3=>Ya (Z8k k a2) fun v4=>Ya (Z2c v3 v4) fun v5=>Ya (Z9k k v5) fun v6=>some v6
def Zko.con (k:Nat):Con:=Sig.con { ps:=[.val false (.int .i64) (ros (.int .i64)),.val false .str (ros .str)],rs:=[.val false [.v .str]],ntmps:=11 } (fun x=>Zko k x.1 x.2)
theorem Zko.ok (k:Nat):Ze Yb 141 (Zko.con k):=fA (cX (cC (Z9k.ok k) (cC (Z8k.ok k) (cC (Zzc.ok k) cN)))) Tryz.func141
def Z9p (k:Nat) (a1:G27) (a2:Str):Option (List G60):=Ya (Zzd k a1) fun v3=>let e4:=Yc .i64 (v3.1+1);bif decide (1000000<e4) then some ([]) else let e5:=(true,(0,[]));bif v3.2.2.2==0 then Ya (Zko k e4 a2) fun v6=>some ([(false,(1,v6)),e5]) else Ya (Zko k e4 a2) fun v7=>some ([(false,(0,v7)),e5])
def Z9p.con (k:Nat):Con:=Sig.con { ps:=[.val true T27 (ros T27),.val false .str (ros .str)],rs:=[.val false [.own 60 T60]],ntmps:=28 } (fun x=>Z9p k x.1 x.2)
theorem Z9p.ok (k:Nat):Ze Yb 83 (Z9p.con k):=fA (cXr true false (cC (Zzd.ok k) (cC (Zko.ok k) cN))) Tryz.func83
def Zff.l0 (k:Nat):Nat→Str→List Int→Int→Int→Option (Str)
 | 0,_,_,_,_=>none
 | j+1,a1,a2,a3,a4=>bif decide (a4<a3) then Ya (at? a2 a4) fun v5=>Ya (Zzc k v5) fun v6=>Ya (Z2c a1 v6) fun v7=>Zff.l0 k j v7 a2 a3 (Yc .i64 (a4+1)) else some a1
def Zff (k:Nat) (a1:List Int):Option (Str):=Ya (Zff.l0 k k [] a1 ((a1.length):Int) 0) fun y2=>some y2
def Zff.con (k:Nat):Con:=Sig.con { ps:=[.val false (.sl (.int .i64)) (ros (.sl (.int .i64)))],rs:=[.val false [.v .str]],ntmps:=18 } (fun x=>Zff k x)
def Zff.cok (k:Nat):=cX (cC (Zzc.ok k) cN)
def Zff.l0.s (k:Nat):Summ:=lp 18 { tmps:=[(3,.one (.v .str)),(6,.one (.bor (.int .i64))),(7,.one (.v (.int .i64))),(8,.one (.v (.int .i64)))],slots:=[],nb:=0 } [(.exit 0,{ tmps:=[(3,.one (.v .str))],slots:=[],nb:=0 })] (fun j x=>Zff.l0 k j x.1 x.2.1 x.2.2.1 x.2.2.2) k
def Zff.l0.ok (k:Nat):=(lA (Zff.cok k):Zl Yb _ (.loop (cO (cO (cR (cL (cR (cR (cB Tryz.f104)))))))) (Zff.l0.s k))
theorem Zff.ok (k:Nat):Ze Yb 104 (Zff.con k):=fP (.two .auto (.two .auto (.two (.two .auto (.one (.sum (Zff.l0.s k)))) .auto))) (Zff.cok k) Tryz.func104 (sC (Zff.l0.ok k) sN)
def Zqe.l0:Nat→Int→List Int→Int→Int→Option (Int)
 | 0,_,_,_,_=>none
 | j+1,a1,a2,a3,a4=>bif decide (a4<a3) then Ya (at? a2 a4) fun v5=>Ya (Zbc v5) fun v6=>Zqe.l0 j (intBits .or .i64 a1 (shl .i64 1 v5)) a2 a3 (Yc .i64 (a4+1)) else some a1
def Zqe (k:Nat) (a1:List Int):Option (Int):=Ya (Zqe.l0 k 0 a1 ((a1.length):Int) 0) fun y2=>some y2
def Zqe.con (k:Nat):Con:=Sig.con { ps:=[.val false (.sl (.int .i64)) (ros (.sl (.int .i64)))],rs:=[.val false [.v (.int .i64)]],ntmps:=18 } (fun x=>Zqe k x)
def Zqe.cok (k:Nat):=cX cN
def Zqe.l0.s (k:Nat):Summ:=lp 18 { tmps:=[(3,.one (.v (.int .i64))),(6,.one (.bor (.int .i64))),(7,.one (.v (.int .i64))),(8,.one (.v (.int .i64)))],slots:=[],nb:=0 } [(.exit 0,{ tmps:=[(3,.one (.v (.int .i64)))],slots:=[],nb:=0 })] (fun j x=>Zqe.l0 j x.1 x.2.1 x.2.2.1 x.2.2.2) k
def Zqe.l0.ok (k:Nat):=(lA (Zqe.cok k):Zl Yb _ (.loop (cO (cO (cR (cL (cR (cR (cB Tryz.f142)))))))) (Zqe.l0.s k))
theorem Zqe.ok (k:Nat):Ze Yb 142 (Zqe.con k):=fP (.two .auto (.two .auto (.two (.two .auto (.one (.sum (Zqe.l0.s k)))) .auto))) (Zqe.cok k) Tryz.func142 (sC (Zqe.l0.ok k) sN)
def Zfq (k:Nat) (a1:G49):Option (Str):=Ya (Zqe k a1.2.2.2.2.2.2.1) fun v2=>Ya (Zqe k a1.2.2.2.2.2.2.2) fun v3=>Ya (Zff k [a1.1,a1.2.1,a1.2.2.1,a1.2.2.2.1,a1.2.2.2.2.1,v2,v3]) fun v4=>Ya (Z8k k a1.2.2.2.2.2.1) fun v5=>Ya (Z2c v4 v5) fun v6=>some v6
def Zfq.con (k:Nat):Con:=Sig.con { ps:=[.val true T49 (ros T49)],rs:=[.val false [.v .str]],ntmps:=25 } (fun x=>Zfq k x)
theorem Zfq.ok (k:Nat):Ze Yb 84 (Zfq.con k):=fA (cXr true false (cC (Zff.ok k) (cC (Z8k.ok k) (cC (Zqe.ok k) cN)))) Tryz.func84
def Z8p (k:Nat) (a1:List Str):Option (Int×List Str×List Zx):=Ya (Znh a1) fun v2=>let e3:=Yc .i64 ((Yc .i64 (3+v2))+24);Ya (Z9g 16 e3 e3 []) fun v4=>Ya (Zmr 3 (v4.length)) fun v5=>Ya (Zfq k (1,(0,(0,(0,(0,([],([],[])))))))) fun v6=>let e7:=((Z6m v4 (Yf 3) a1),[]);Ya (Z9p k e7 v6) fun v8=>Ya (Zsf k e7 v8) fun v9=>some (v2,v9.1,v9.2)
def Z8p.con (k:Nat):Con:=Sig.con { ps:=[.val false (.sl .str) (ros (.sl .str))],rs:=[.val true [.v (.int .i64),.own 9 .str,.own 144 Zv]],ntmps:=30 } (fun x=>Z8p k x)
theorem Z8p.ok (k:Nat):Ze Yb 37 (Z8p.con k):=fA (cXr false true (cC (Znh.ok k) (cC (Zsf.ok k) (cC (Z9p.ok k) (cC (Zfq.ok k) cN))))) Tryz.func37
def Zdn (k:Nat) (a1:List Str):Option (Int×List Str×List Zx×Int):=bif decide (400<((a1.length):Int)) then some (0,[],[],2) else Ya (Z4l k a1) fun v2=>bif !v2 then some (0,[],[],1) else Ya (Z8p k a1) fun v3=>some (v3.1,v3.2.1,v3.2.2,0)
def Zdn.con (k:Nat):Con:=Sig.con { ps:=[.val false (.sl .str) (ros (.sl .str))],rs:=[.val true [.v (.int .i64),.own 9 .str,.own 144 Zv,.v (.int .i64)]],ntmps:=16 } (fun x=>Zdn k x)
theorem Zdn.ok (k:Nat):Ze Yb 5 (Zdn.con k):=fA (cX (cC (Z4l.ok k) (cC (Z8p.ok k) cN))) Tryz.func5
def Zvc.l0:Nat→List Str→Int→Option (Unit ⊕ Bool)
 | 0,_,_=>none
 | j+1,a1,a2=>bif decide (a2<((a1.length):Int)) then Ya (at? a1 a2) fun v3=>bif ((v3.length):Int) != 8 then some (.inr false) else Zvc.l0 j a1 (Yc .i64 (a2+1)) else some (.inl ())
def Zvc (k:Nat) (a1:List Str):Option (Bool):=bif (decide (((a1.length):Int)<1))||(decide (8<((a1.length):Int))) then some false else Ya (Zvc.l0 k a1 0) fun
  | .inl y2=>some true
  | .inr y3=>some y3
def Zvc.con (k:Nat):Con:=Sig.con { ps:=[.val false (.sl .str) (ros (.sl .str))],rs:=[.val false [.v .bool]],ntmps:=24 } (fun x=>Zvc k x)
def Zvc.cok (k:Nat):=cX cN
def Zvc.l0.s (k:Nat):Summ:=lp 24 { tmps:=[(0,.one (.bor .str)),(3,.one (.v (.int .i64)))],slots:=[],nb:=0 } [(.exit 0,{ tmps:=[],slots:=[],nb:=0 }),(.ret,{ tmps:=[(2,.one (.v .bool))],slots:=[],nb:=0 })] (fun j x=>Zvc.l0 j x.1 x.2) k
def Zvc.l0.ok (k:Nat):=(lA (Zvc.cok k):Zl Yb _ (.loop (cO (cO (cR (cL (cR (cR (cB Tryz.f38)))))))) (Zvc.l0.s k))
theorem Zvc.ok (k:Nat):Ze Yb 38 (Zvc.con k):=fP (.two .auto (.two .auto (.two (.two .auto (.one (.sum (Zvc.l0.s k)))) .auto))) (Zvc.cok k) Tryz.func38 (sC (Zvc.l0.ok k) sN)
def Z9 (a1:Int) (a2:Int) (a3:Int):Option (Bool):=some ((decide (a2≤a1))&&(decide (a1≤a3)))
def Z9.con (k:Nat):Con:=Sig.con { ps:=[.val false (.int .i64) (ros (.int .i64)),.val false (.int .i64) (ros (.int .i64)),.val false (.int .i64) (ros (.int .i64))],rs:=[.val false [.v .bool]],ntmps:=15 } (fun x=>Z9 x.1 x.2.1 x.2.2)
theorem Z9.ok (k:Nat):Ze Yb 68 (Z9.con k):=fA (cX cN) Tryz.func68
def Z9q (a1:Int):Option (List Str×List Zx):=Ya (Z9 a1 1 40) fun v2=>bif !v2 then some ([],[]) else Ya (Z9g 16 a1 a1 []) fun v3=>some (v3,[])
def Z9q.con (k:Nat):Con:=Sig.con { ps:=[.val false (.int .i64) (ros (.int .i64))],rs:=[.val true [.own 9 .str,.own 144 Zv]],ntmps:=10 } (fun x=>Z9q x)
theorem Z9q.ok (k:Nat):Ze Yb 39 (Z9q.con k):=fA (cX (cC (Z9.ok k) cN)) Tryz.func39
def Zpl (a1:G27):Option (List Str×List Zx):=Ya (Zw 16 [] a1.1) fun v2=>Ya (Zw 24 [] a1.2) fun v3=>some (v2,v3)
def Zpl.con (k:Nat):Con:=Sig.con { ps:=[.val true T27 (ros T27)],rs:=[.val true [.own 9 .str,.own 144 Zv]],ntmps:=12 } (fun x=>Zpl x)
theorem Zpl.ok (k:Nat):Ze Yb 85 (Zpl.con k):=fA (cXr true false cN) Tryz.func85
def Zql (a1:Int):Option (List Str×List Zx×Str×Int):=some ([],[],[],a1)
def Zql.con (k:Nat):Con:=Sig.con { ps:=[.val false (.int .i64) (ros (.int .i64))],rs:=[.val true [.own 9 .str,.own 144 Zv,.v .str,.v (.int .i64)]],ntmps:=5 } (fun x=>Zql x)
theorem Zql.ok (k:Nat):Ze Yb 88 (Zql.con k):=fA (cX cN) Tryz.func88
def Z7.l0:Nat→List Str→List Zx→Int→Option (Unit ⊕ Bool)
 | 0,_,_,_=>none
 | j+1,a1,a2,a3=>bif decide (a3<((a1.length):Int)) then Ya (at? a1 a3) fun v4=>bif decide (96<((v4.length):Int)) then some (.inr false) else Z7.l0 j a1 a2 (Yc .i64 (a3+1)) else some (.inl ())
def Z7.l1:Nat→List Str→List Zx→Int→Int→Option (Unit ⊕ Bool)
 | 0,_,_,_,_=>none
 | j+1,a1,a2,a3,a4=>bif decide (a4<a3) then Ya (at? a2 a4) fun v5=>Ya (at? a2 a3) fun v6=>bif v5.1==v6.1 then some (.inr false) else Z7.l1 j a1 a2 a3 (Yc .i64 (a4+1)) else some (.inl ())
def Z7.l2 (k:Nat):Nat→List Str→List Zx→Int→Option (Unit ⊕ Bool)
 | 0,_,_,_=>none
 | j+1,a1,a2,a3=>bif decide (a3<((a2.length):Int)) then Ya (at? a2 a3) fun v4=>Ya (Z9 v4.1 0 (Yc .i64 (((a1.length):Int)-1))) fun v5=>bif !v5 then some (.inr false) else Ya (at? a2 a3) fun v6=>bif decide (96<((v6.2.length):Int)) then some (.inr false) else Ya (Z7.l1 k a1 a2 a3 0) fun
    | .inl y7=>Z7.l2 k j a1 a2 (Yc .i64 (a3+1))
    | .inr y8=>some (.inr y8) else some (.inl ())
def Z7 (k:Nat) (a1:G27):Option (Bool):=let e2:=((a1.1.length):Int);bif ((decide (e2<1))||(decide (40<e2)))||(decide (e2<((a1.2.length):Int))) then some false else Ya (Z7.l0 k a1.1 a1.2 0) fun
  | .inl y3=>Ya (Z7.l2 k k a1.1 a1.2 0) fun
    | .inl y4=>some true
    | .inr y5=>some y5
  | .inr y6=>some y6
def Z7.con (k:Nat):Con:=Sig.con { ps:=[.val true T27 (ros T27)],rs:=[.val false [.v .bool]],ntmps:=86 } (fun x=>Z7 k x)
def Z7.cok (k:Nat):=cXr true false (cC (Z9.ok k) cN)
def Z7.l0.s (k:Nat):Summ:=lp 86 { tmps:=[(1,.eptr [.bor .str,.bor Zv]),(3,.one (.v (.int .i64)))],slots:=[],nb:=0 } [(.exit 0,{ tmps:=[],slots:=[],nb:=0 }),(.ret,{ tmps:=[(2,.one (.v .bool))],slots:=[],nb:=0 })] (fun j x=>Z7.l0 j x.1 x.2.1 x.2.2) k
def Z7.l0.ok (k:Nat):=(lA (Z7.cok k):Zl Yb _ (.loop (cO (cO (cR (cL (cR (cR (cB Yk)))))))) (Z7.l0.s k))
def Z7.l1.s (k:Nat):Summ:=lp 86 { tmps:=[(1,.eptr [.bor .str,.bor Zv]),(4,.one (.v (.int .i64))),(5,.one (.v (.int .i64)))],slots:=[],nb:=0 } [(.exit 4,{ tmps:=[],slots:=[],nb:=0 }),(.ret,{ tmps:=[(2,.one (.v .bool))],slots:=[],nb:=0 })] (fun j x=>Z7.l1 j x.1 x.2.1 x.2.2.1 x.2.2.2) k
def Z7.l1.ok (k:Nat):=(lA (Z7.cok k):Zl Yb _ (.loop (cO (cO (cR (cR (cO (cL (cR (cO (cO (cR (cL (cR (cR (cR (cB Yk)))))))))))))))) (Z7.l1.s k))
def Z7.l2.s (k:Nat):Summ:=lp 86 { tmps:=[(1,.eptr [.bor .str,.bor Zv]),(4,.one (.v (.int .i64)))],slots:=[],nb:=0 } [(.exit 2,{ tmps:=[],slots:=[],nb:=0 }),(.ret,{ tmps:=[(2,.one (.v .bool))],slots:=[],nb:=0 })] (fun j x=>Z7.l2 k j x.1 x.2.1 x.2.2) k
def Z7.l2.ok (k:Nat):=(lP (.two .auto (.two (.one (.two .auto (.two .auto (.one (.sum (Z7.l1.s k)))))) .auto)) (Z7.cok k) (sC (Z7.l1.ok k) sN):Zl Yb _ (.loop (cO (cO (cR (cL (cR (cR (cR (cB Yk))))))))) (Z7.l2.s k))
theorem Z7.ok (k:Nat):Ze Yb 112 (Z7.con k):=fP (.two .auto (.two .auto (.two (.two .auto (.one (.sum (Z7.l0.s k)))) (.two (.two .auto (.one (.sum (Z7.l2.s k)))) .auto)))) (Z7.cok k) Tryz.func112 (sC (Z7.l0.ok k) (sC (Z7.l2.ok k) sN))
def Zpg.l0:Nat→List Str→List Zx→Int→List Str→List Zx→Option ((List Str×List Zx))
 | 0,_,_,_,_,_=>none
 | j+1,a1,a2,a3,a4,a5=>bif decide (a3<((a2.length):Int)) then Ya (at? a2 a3) fun v6=>Ya (at? a2 a3) fun v7=>let e8:=at? a4 v6.1;Ya (e8) fun v9=>Ya (e8) fun v10=>Zpg.l0 j a1 a2 (Yc .i64 (a3+1)) (Yg a4 (Yf v6.1) v7.2) a5 else some (a4,a5)
def Zpg (k:Nat) (a1:G27):Option (List Str×List Zx):=Ya (Zw 16 [] a1.1) fun v2=>Ya (Zpg.l0 k a1.1 a1.2 0 v2 []) fun y3=>some (y3.1,y3.2)
def Zpg.con (k:Nat):Con:=Sig.con { ps:=[.val true T27 (ros T27)],rs:=[.val true [.own 9 .str,.own 144 Zv]],ntmps:=33 } (fun x=>Zpg k x)
def Zpg.cok (k:Nat):=cXr true false cN
def Zpg.l0.s (k:Nat):Summ:=lp 33 { tmps:=[(1,.eptr [.bor .str,.bor Zv]),(3,.one (.ptr 3 0)),(4,.one (.v (.int .i64)))],slots:=[(3,.box 27 [.own 4,.own 5]),(4,.arr false 9 .str),(5,.arr false 144 Zv)],nb:=6 } [(.exit 0,{ tmps:=[],slots:=[(3,.box 27 [.own 6,.own 7]),(6,.arr false 9 .str),(7,.arr false 144 Zv)],nb:=8 })] (fun j x=>Zpg.l0 j x.1 x.2.1 x.2.2.1 x.2.2.2.1 x.2.2.2.2) k
def Zpg.l0.ok (k:Nat):=(lA (Zpg.cok k):Zl Yb _ (.loop (cO (cO (cR (cL (cR (cR (cB Tryz.f143)))))))) (Zpg.l0.s k))
theorem Zpg.ok (k:Nat):Ze Yb 143 (Zpg.con k):=fP (.two .auto (.two .auto (.two (.two .auto (.one (.sum (Zpg.l0.s k)))) .auto))) (Zpg.cok k) Tryz.func143 (sC (Zpg.l0.ok k) sN)
def Zar (k:Nat) (a1:G27):Option (List Str×List Zx×Str×Int):=Ya (Z7 k a1) fun v2=>bif !v2 then Ya (Zql 1) fun v3=>some (v3.1,v3.2.1,v3.2.2.1,v3.2.2.2) else Ya (Zpg k a1) fun v4=>some (v4.1,v4.2,[],0)
def Zar.con (k:Nat):Con:=Sig.con { ps:=[.val true T27 (ros T27)],rs:=[.val true [.own 9 .str,.own 144 Zv,.v .str,.v (.int .i64)]],ntmps:=10 } (fun x=>Zar k x)
theorem Zar.ok (k:Nat):Ze Yb 86 (Zar.con k):=fA (cXr true false (cC (Zql.ok k) (cC (Z7.ok k) (cC (Zpg.ok k) cN)))) Tryz.func86
def Zfg.l0:Nat→Int→Str→Int→List Str→List Zx→List Str→List Zx→Option ((List Str×List Zx×List Str×List Zx) ⊕ (List Str×List Zx))
 | 0,_,_,_,_,_,_,_=>none
 | j+1,a1,a2,a3,a4,a5,a6,a7=>bif decide (a3<((a7.length):Int)) then Ya (at? a7 a3) fun v8=>Ya (at? a7 a3) fun v9=>bif v9.1==a1 then Ya (at? a7 a3) fun v10=>Ya (at? a7 a3) fun v11=>some (.inr (a6,Yg a7 (Yf a3) (v11.1,a2))) else Zfg.l0 j a1 a2 (Yc .i64 (a3+1)) a4 a5 a6 a7 else some (.inl (a4,a5,a6,a7))
def Zfg (k:Nat) (a1:G27) (a2:Int) (a3:Str):Option (List Str×List Zx):=Ya (Zpl a1) fun v4=>Ya (Zfg.l0 k a2 a3 0 [] [] v4.1 v4.2) fun
  | .inl y5=>Ya (Zw 24 y5.2.2.2 [(a2,a3)]) fun v6=>some (y5.2.2.1,v6)
  | .inr y7=>some (y7.1,y7.2)
def Zfg.con (k:Nat):Con:=Sig.con { ps:=[.val true T27 (ros T27),.val false (.int .i64) (ros (.int .i64)),.val false .str (ros .str)],rs:=[.val true [.own 9 .str,.own 144 Zv]],ntmps:=42 } (fun x=>Zfg k x.1 x.2.1 x.2.2)
def Zfg.cok (k:Nat):=cXr true false (cC (Zpl.ok k) cN)
def Zfg.l0.s (k:Nat):Summ:=lp 42 { tmps:=[(1,.one (.v (.int .i64))),(2,.one (.v .str)),(6,.one (.ptr 0 0)),(7,.one (.ptr 3 0)),(8,.one (.v (.int .i64)))],slots:=[(0,.box 27 [.own 4,.own 5]),(3,.box 27 [.own 6,.own 7]),(4,.arr false 9 .str),(5,.arr false 144 Zv),(6,.arr false 9 .str),(7,.arr false 144 Zv)],nb:=8 } [(.exit 0,{ tmps:=[],slots:=[(0,.box 27 [.own 8,.own 9]),(3,.box 27 [.own 10,.own 11]),(8,.arr false 9 .str),(9,.arr false 144 Zv),(10,.arr false 9 .str),(11,.arr false 144 Zv)],nb:=12 }),(.ret,{ tmps:=[],slots:=[(0,.box 27 [.own 8,.own 9]),(3,.box 27 [.own 8,.own 9]),(8,.arr false 9 .str),(9,.arr false 144 Zv)],nb:=10 })] (fun j x=>Zfg.l0 j x.1 x.2.1 x.2.2.1 x.2.2.2.1 x.2.2.2.2.1 x.2.2.2.2.2.1 x.2.2.2.2.2.2) k
def Zfg.l0.ok (k:Nat):=(lA (Zfg.cok k):Zl Yb _ (.loop (cO (cO (cR (cL (cR (cR (cB Tryz.f144)))))))) (Zfg.l0.s k))
theorem Zfg.ok (k:Nat):Ze Yb 144 (Zfg.con k):=fP (.two .auto (.two .auto (.two (.two .auto (.one (.sum (Zfg.l0.s k)))) .auto))) (Zfg.cok k) Tryz.func144 (sC (Zfg.l0.ok k) sN)
end Go.Proofs.Qz
