/- What the law FnExactDo needs, part 7 of 15: the Lean functions of the Go functions that it reaches, with the proofs that the calls come to what they say, and plain facts about them. Conditions: those that each theorem states. Written by a session and by its programs (after the kit's printer). -/
import Derived.Lib.LaidTab
import Derived.Lib.AppendIntMem
import Derived.Shelf.Strings.Builder1
import Derived.Shelf.Strings.Builder2
import Derived.Shelf.Strings.OnBuilder
import Derived.Shelf.Strings.BuilderF
import Derived.Shelf.Strings.Prefix
import Derived.Shelf.Bits.Mul64
import Derived.Shelf.Strings.Repeat
import Derived.Ground.Names2Prog
import Derived.Shelf.Slices.Delete
import Derived.Shelf.Slices.Cells
import Derived.Shelf.Slices.Empties
import Derived.Ground.SlgfProg
import Derived.Shelf.SlicesE.IndexFunc
import Derived.Test.YtpcllejjdmmjcaaGreatDoorProg
import Derived.Test.YtpcllejjdmmjcaaGreatDoorXFnExactDo4
import Derived.Test.YtpcllejjdmmjcaaGreatDoorXFnExactDo5
open Option renaming bind → Ya, some → Yh
open Go.IntKind renaming wrap → Yb
open Bool renaming and_eq_true → Yc, and_true → Yi
open List renaming all_cons → Yd, map_cons → Ye, mem_singleton → Yg, all_append → Yk, append_assoc → Yl, cons → Ym, cons_append → Yn, replicate → Yo, set → Yp
open Int renaming tmod → Yf, toNat → Yj
open Nat renaming mul_one → Yq
namespace Go.Proofs.Qz
open Go Go.RowKit
set_option linter.unusedVariables false
def Z00:(r:Ty)→r.T→Option Value
 | .int k,n=>some (.int k n)
 | .bool,b=>some (.bool b)
 | .str,s=>some (.string (ba s))
 | _,_=>none
section
variable {P:Program} {w:World}
theorem Zjmb {F:Nat→Prop}:∀{r:Ty} {x:r.T} {v:Value},Z00 r x=some v→Rep w F r x [v]∧r.sz=1
 | .int k,_,_,h=>by cases h;exact ⟨rfl,rfl⟩
 | .bool,_,_,h=>by cases h;exact ⟨rfl,rfl⟩
 | .str,_,_,h=>by cases h;exact ⟨rfl,rfl⟩
 | .sl _,_,_,h=>by cases h
 | .pair _ _,_,_,h=>by cases h
 | .unit,_,_,h=>by cases h
theorem Zwhb {n:Nat} {r:Ty} {l:List r.T} {cs:Array Value} {ty:TypeId} {fr:Nat×Nat} (hg:w.heap[n]? = some (.cells cs ty fr)) (h:l.map (Z00 r)=cs.toList.map some) (hr:r.sz=1):Gl1 w n r l:=by
 have hlen:l.length=cs.size:=by
  have:=congrArg List.length h
  simpa using this
 refine ⟨(Array.getElem?_eq_some_iff.1 hg).1,⟨_,_,rfl,Nat.le_refl _,.inr ⟨n,0,rfl,rfl,fun j x hj=>?_⟩⟩,cs,ty,fr,hg,by rw [hr,hlen,Yq]⟩
 have hx:=congrArg (fun z=>z[j]?) h
 simp only [List.getElem?_map,hj,Option.map_some] at hx
 cases hv:cs.toList[j]? with
 | none=>rw [hv] at hx;cases hx
 | some v=>
  rw [hv] at hx
  have hx:Z00 r x=some v:=Yh.inj hx
  refine ⟨[v],fun i u hu=>?_,(Zjmb hx).1⟩
  cases i with
  | zero=>
   cases hu
   rw [cell_of_row w n _ cs ty fr hg,hr,Nat.zero_add,Yq,Nat.add_zero]
   simpa using hv
  | succ i=>cases hu
theorem Zuab {ps:List MemPlace}:∀{l:List (String×DataW Unit)} {ps:List MemPlace},DataW.LaidVars P w l ps→∀{name:String} {d:DataW Unit},(name,d)∈l→∃g t cs fuel p,P.globalNamed name=some g∧(P.globals[g]?).map (·.type)=some t∧w.var? P name=some cs∧DataW.trod (fun _=>()) P w 0 (fun _=>true) false fuel t cs.toList=some (d,p)
 | [],_,_,_,_,hm=>nomatch hm
 | (n,d)::l,_,⟨g,t,cs,fuel,p,q,h1,h2,h3,h4,h5,_⟩,name,d',hm=>by
  rcases List.mem_cons.1 hm with e | hm
  ·cases e
   exact ⟨g,t,cs,fuel,p,h1,h2,h3,h4⟩
  ·exact Zuab (ps:=ps) h5 hm
theorem Zppb {name:String} {g:Nat} {cs:Array Value} (hg:P.globalNamed name=some g) (h:w.var? P name=some cs):∃ty fr,w.heap[g]? = some (.cells cs ty fr):=by
 unfold World.var? at h
 rw [hg,Option.bind_some] at h
 split at h
 ·rename_i c ty fr hb
  cases h
  exact ⟨ty,fr,hb⟩
 ·cases h
theorem Ztab {l:List (String×DataW Unit)} (h:laidMet P l w) {name:String} {k:IntKind} {zs:List Int} (hm:(name,Lib.tabData k zs)∈l) {g n:Nat} {t e:TypeId} (hg:P.globalNamed name=some g) (hty:(P.globals[g]?).map (·.type)=some t)
  (ht:P.underlying t=some (.array n e)) (he:P.underlying e=some (.int k)) (hce:P.cellsOf e=1) (hct:P.cellsOf t=n):Gl1 w g (.int k) zs:=by
 obtain ⟨ps,hv,_⟩:=h
 obtain ⟨g',t',cs,fuel,p,h1,h2,h3,h4⟩:=Zuab (ps:=ps) hv hm
 obtain rfl:=Yh.inj (hg.symm.trans h1)
 obtain rfl:=Yh.inj (hty.symm.trans h2)
 obtain ⟨ty,fr,hb⟩:=Zppb hg h3
 have hc:=Lib.cells_of_tab ht he hce hct h4
 exact Zwhb hb (by rw [hc];simp [Z00]) rfl
end
end Go.Proofs.Qz
namespace Go.Proofs.Qz
open Go
set_option linter.unusedVariables false
theorem cC {P:Program} {n:Nat} {c:Con} {L:List (Nat×Con)} (h:Zf P n c) (t:Zbo P L):Zbo P ((n,c)::L):=⟨h,t⟩
theorem cN {P:Program}:Zbo P []:=trivial
theorem sC {P:Program} {C:Ctx} {c:Code} {s:Summ} {L:List (Summ×Code)} (h:Zj P C c s) (t:Zal P C L):Zal P C ((s,c)::L):=⟨h,t⟩
theorem sN {P:Program} {C:Ctx}:Zal P C []:=trivial
theorem Zsq:∀c:Code,Z8d .auto c=[]
 | .seq a b=>by
  show Z8d .auto a++Z8d .auto b=[]
  rw [Zsq a,Zsq b]
  rfl
 | .cond _ a b=>by
  show Z8d .auto a++Z8d .auto b=[]
  rw [Zsq a,Zsq b]
  rfl
 | .block _ a=>Zsq a
 | .skip=>rfl
 | .region _ _ _=>rfl
 | .loop _=>rfl
 | .rangeFunc _ _ _ _=>rfl
 | .exit _=>rfl
 | .scope _=>rfl
 | .label _=>rfl
 | .goto _=>rfl
 | .ret=>rfl
 | .refuse _=>rfl
def lp (n:Nat) (ish:Shape) (outs:List (Ex×Shape)) (F:Nat→Zab ish.tys→Option (Zfh outs)) (k:Nat):Summ:={ n:=n,ish:=ish,outs:=outs,f:=F k }
def lq (n:Nat) (ish:Shape) (outs:List (Ex×Shape)) (F:Zab ish.tys→Option (Zfh outs)):Summ:={ n:=n,ish:=ish,outs:=outs,f:=F }
section
variable {P:Program} {C:Ctx} {c:Code} {L:List (Summ×Code)} {n:Nat} {ish:Shape} {outs:List (Ex×Shape)}
theorem lP (p:Plan) {F:Nat→Zab ish.tys→Option (Zfh outs)} {k:Nat} (H:CtxOk P C) (hs:Zal P C L) (hl:Z8d p c=L:=by kernel_rfl) (hok:(lp n ish outs F k).ok=true:=by kernel_rfl) (h0:∀x,F 0 x=none:=by intro x;rfl)
  (hev:∀j x,V C p c (mk ish n x) (fun e st'=>match e with
   | .nrm=>(rd ish st').bind (F j)
   | e=>Zyk e st' outs)=F (j+1) x:=by intro j x;kernel_rfl):Zj P C (.loop c) (lp n ish outs F k):=
 Zmeb hok (sum_loop (s:=lp n ish outs F k) (F:=F) H hok (Zmz hl hs) h0 (fun j x y h=>(hev j x).trans h) k rfl)
theorem lA {F:Nat→Zab ish.tys→Option (Zfh outs)} {k:Nat} (H:CtxOk P C) (hok:(lp n ish outs F k).ok=true:=by kernel_rfl) (h0:∀x,F 0 x=none:=by intro x;rfl)
  (hev:∀j x,V C .auto c (mk ish n x) (fun e st'=>match e with
   | .nrm=>(rd ish st').bind (F j)
   | e=>Zyk e st' outs)=F (j+1) x:=by intro j x;kernel_rfl):Zj P C (.loop c) (lp n ish outs F k):=lP .auto H sN (Zsq c) hok h0 hev
theorem jP (p:Plan) {F:Zab ish.tys→Option (Zfh outs)} (H:CtxOk P C) (hs:Zal P C L) (hl:Z8d p c=L:=by kernel_rfl) (hok:(lq n ish outs F).ok=true:=by kernel_rfl)
  (hev:∀x,V C p c (mk ish n x) (fun e st'=>Zyk e st' outs)=F x:=by intro x;kernel_rfl):Zj P C c (lq n ish outs F):=
 Zmeb hok (Z5ob (s:=lq n ish outs F) (p:=p) H hok (Zmz hl hs) (fun x y h=>(hev x).trans h))
theorem jA {F:Zab ish.tys→Option (Zfh outs)} (H:CtxOk P C) (hok:(lq n ish outs F).ok=true:=by kernel_rfl)
  (hev:∀x,V C .auto c (mk ish n x) (fun e st'=>Zyk e st' outs)=F x:=by intro x;kernel_rfl):Zj P C c (lq n ish outs F):=jP .auto H sN (Zsq c) hok hev
theorem fP (p:Plan) {f:FuncId} {fn:Func} {s:Sig} {F:Zab s.ins→Option (Zab s.outs)} (H:CtxOk P C) (hf:P.funcs[f]? = some fn) (hs:Zal P C L) (hname:(fn.name == "runtime.NumGoroutine")=false:=by kernel_rfl) (hb:fn.body=some (cB fn):=by kernel_rfl)
  (hn:fn.ntmps=s.ntmps:=by kernel_rfl) (hps:Nat.ble s.ps.length s.ntmps=true:=by kernel_rfl) (hl:Z8d p (cB fn)=L:=by kernel_rfl) (hev:∀x,s.ev C p fn.results.toList (cB fn) x=F x:=by intro x;kernel_rfl):Zf P f (s.con F):=
 Zuob H hf hname hb hn hps (Zmz hl hs) (fun x y h=>(hev x).trans h)
theorem fA {f:FuncId} {fn:Func} {s:Sig} {F:Zab s.ins→Option (Zab s.outs)} (H:CtxOk P C) (hf:P.funcs[f]? = some fn) (hname:(fn.name == "runtime.NumGoroutine")=false:=by kernel_rfl) (hb:fn.body=some (cB fn):=by kernel_rfl)
  (hn:fn.ntmps=s.ntmps:=by kernel_rfl) (hps:Nat.ble s.ps.length s.ntmps=true:=by kernel_rfl) (hev:∀x,s.ev C .auto fn.results.toList (cB fn) x=F x:=by intro x;kernel_rfl):Zf P f (s.con F):=fP .auto H hf sN hname hb hn hps (Zsq _) hev
end
end Go.Proofs.Qz
namespace Go.Proofs.Qz
open Go Go.RowKit
set_option linter.unusedVariables false
def Zx6:CL→CL
 | .leaf (.bor r l)=>.leaf (.list r l)
 | x=>x
def Z10:CArg→CArg
 | .val a xs=>.val a (xs.map Zx6)
 | x=>x
def roP:PL→PL
 | .v=>.ro
 | x=>x
def roK:PK→PK
 | .val a t ms=>.val a t (ms.map roP)
 | x=>x
def Sig.conR (s:Sig) (f:Zab s.ins→Option (Zab s.outs)):Con:={ ms:=(s.ps.map roK).map PK.pm,f:=fun asx=>s.run f (asx.map Z10) }
section
variable {w:World} {F F' B:Nat→Prop}
theorem Z9d.weak (hF:∀b,F b→B b) {x:Leaf} {v:Value} (h:VLs w F B [.leaf x] [v] []):VLs w B B [Zx6 (.leaf x)] [v] []:=by
 have h:=h.1
 cases x with
 | bor r l=>exact ⟨h,rfl⟩
 | _=>exact ⟨Z9d.mono hF (fun _ q=>q) h,rfl⟩
theorem VLs.weak (hF:∀b,F b→B b):∀{xs:List CL} {vs:List Value} {L:List GI},VLs w F B xs vs L→VLs w B B (xs.map Zx6) vs L
 | [],[],_,h=>h
 | .leaf x::xs,v::vs,L,h=>by
  have h2:=VLs.weak hF h.2
  have h1:Z9d w F B x v:=h.1
  cases x with
  | bor r l=>exact ⟨h1,h2⟩
  | _=>exact ⟨Z9d.mono hF (fun _ q=>q) h1,h2⟩
 | .row _ _ _::xs,v::vs,.row _::L,h=>⟨h.1,h.2.1.mono hF,VLs.weak hF h.2.2⟩
 | .nil::xs,v::vs,.no::L,h=>⟨h.1,VLs.weak hF h.2⟩
theorem Z2g.weak (hF:∀b,F b→B b):∀{asx:List CArg} {vs:List Value} {L:List GI} {M:List Value},Z2g w F B asx vs L M→Z2g w B B (asx.map Z10) vs L M
 | [],[],_,_,h=>h
 | a::asx,v::vs,L,M,⟨L1,L2,M1,M2,h1,h2,h3,h4⟩=>by
  refine ⟨L1,L2,M1,M2,h1,h2,?_,Z2g.weak hF h4⟩
  cases a with
  | val ag xs=>
   cases ag with
   | false=>exact ⟨h3.1,VLs.weak hF h3.2⟩
   | true=>
    obtain ⟨k1,cs,k2,k3⟩:=h3
    exact ⟨k1,cs,k2,VLs.weak hF k3⟩
  | _=>exact h3.mono hF (fun _ q=>q)
def Zzab:Leaf→Bool
 | .list _ _=>false
 | .bor _ _=>false
 | _=>true
def Z6s:RL→Bool
 | .leaf x=>Zzab x
 | .own _ r _=>flat r
def Zkn:RC→Bool
 | .val _ xs=>xs.all Z6s
 | .box _ xs=>xs.all Z6s
theorem Z3b.flat {z:Bool} {e:TypeId} {t:Ty} {v:Value} {l:List t.T} (ht:Go.Proofs.Qz.flat t=true) (h:Z3b w F z e t v l):Z3b w F' z e t v l:=by
 rcases h.cases with ⟨he,h | ⟨g,cap,cs,fr,h0,h1,h2,h3,h4,h5,h6⟩⟩ | ⟨he,rfl,hM | hM⟩
 ·exact Z8b.ok (.inl h) he
 ·exact Z8b.ok (.inr ⟨g,cap,cs,fr,h0,h1,h2,h3,h4,h5,fun j x hj=>Rep.flat ht (h6 j x hj)⟩) he
 ·exact Zcn.ok hM he
 ·exact Z4l.ok hM
theorem Zae.flat:∀{xs:List RL} {vs:List Value} {O:List Conc},xs.all Z6s=true→Zae w F xs vs O→Zae w F' xs vs O
 | [],[],_,_,h=>h
 | .leaf x::xs,v::vs,O,hf,h=>by
  rw [Yd,Yc] at hf
  refine ⟨?_,Zae.flat hf.2 h.2⟩
  have h1:Z9d w F (fun _=>False) x v:=h.1
  cases x with
  | list r l=>cases hf.1
  | bor r l=>cases hf.1
  | _=>exact h1
 | .own e r l::xs,v::vs,c::O,hf,h=>by
  rw [Yd,Yc] at hf
  exact ⟨h.1,Z3b.flat hf.1 h.2.1,Zae.flat hf.2 h.2.2⟩
theorem Z3l.flat {p:RC} {v:Value} {O:List Conc} (hf:Zkn p=true) (h:Z3l w F p v O):Z3l w F' p v O:=by
 cases p with
 | val a xs=>
  cases a with
  | true=>
   obtain ⟨cs,h1,h2⟩:=h
   exact ⟨cs,h1,Zae.flat hf h2⟩
  | false=>exact Zae.flat hf h
 | box t xs=>
  obtain ⟨g,cs,fr,O1,h1,h2,h3,h4,h5⟩:=h
  exact ⟨g,cs,fr,O1,h1,h2,h3,h4,Zae.flat hf h5⟩
theorem Ztj.flat:∀{ps:List RC} {vs:List Value} {O:List Conc},ps.all Zkn=true→Ztj w F ps vs O→Ztj w F' ps vs O
 | [],[],_,_,h=>h
 | p::ps,v::vs,O,hf,⟨O1,O2,h1,h2,h3⟩=>by
  rw [Yd,Yc] at hf
  exact ⟨O1,O2,h1,Z3l.flat hf.1 h2,Ztj.flat hf.2 h3⟩
theorem Zmmb {rs:List RC} {v:Value} {O:List Conc} (hf:rs.all Zkn=true) (h:Zyt w F rs v O):Zyt w F' rs v O:=by
 match rs,hf,h with
 | [p],hf,h=>
  rw [Yd,Yc] at hf
  exact Z3l.flat (p:=p) hf.1 h
 | [],hf,⟨vs,h1,h2⟩=>exact ⟨vs,h1,Ztj.flat hf h2⟩
 | p::q::ps,hf,⟨vs,h1,h2⟩=>exact ⟨vs,h1,Ztj.flat hf h2⟩
theorem Zimb {L:List GI} {O:List Conc} (h:Zbi w F L [] O):Zbi w F' L [] O:=by
 match L,h with
 | [],h=>exact h
def Z32:RK→Bool
 | .v t=>flat t
 | .own _ r=>flat r
def noB:PK→Bool
 | .val _ _ ms=>ms.all fun m=>match m with
  | .own _=>false
  | _=>true
 | .rptr _=>true
 | _=>false
def Sig.keptOk (s:Sig):Bool:=s.ps.all noB&&s.rs.all fun r=>r.ks.all Z32
theorem Z43:∀(t:Ty) (x:t.T),flat t=true→∀y∈Z0 t x,Zzab y=true
 | .int _,x,_,y,hy=>by rw [Yg.1 hy];rfl
 | .bool,x,_,y,hy=>by rw [Yg.1 hy];rfl
 | .str,x,_,y,hy=>by rw [Yg.1 hy];rfl
 | .unit,x,_,y,hy=>by cases hy
 | .sl _,x,h,y,hy=>by cases h
 | .pair a b,x,h,y,hy=>by
  have h:(flat a&&flat b)=true:=h
  rw [Yc] at h
  rcases List.mem_append.1 hy with hy | hy
  ·exact Z43 a x.1 h.1 y hy
  ·exact Z43 b x.2 h.2 y hy
def DV.t:DV→Ty
 | .mk t _=>t
theorem Zsbb:∀(ts:List Ty) (y:Zab ts),(Zte ts y).map DV.t=ts
 | [],_=>rfl
 | [t],y=>rfl
 | t::u::ts,y=>by
  show DV.t _::(Zte (u::ts) y.2).map DV.t=_
  rw [Zsbb (u::ts) y.2]
  rfl
theorem Zby:∀(ks:List RK) (ds:List DV) (rest:List Ty),ds.map DV.t=ks.map RK.ty++rest→ks.all Z32=true→(Z6 ks ds).1.all Z6s=true∧(Z6 ks ds).2.map DV.t=rest
 | [],ds,rest,h,_=>⟨rfl,h⟩
 | .v t::ks,[],rest,h,_=>by cases h
 | .own e r::ks,[],rest,h,_=>by cases h
 | .v t::ks,.mk t' x::ds,rest,h,hf=>by
  rw [Yd,Yc] at hf
  rw [Ye,Ye,Yn,Ym.injEq] at h
  obtain ⟨k1,k2⟩:=Zby ks ds rest h.2 hf.2
  have ht:t'=t:=h.1
  subst ht
  refine ⟨?_,k2⟩
  show ((Z0 t' x).map RL.leaf++(Z6 ks ds).1).all Z6s=true
  rw [Yk,k1,Yi,List.all_map]
  exact List.all_eq_true.2 fun y hy=>Z43 t' x hf.1 y hy
 | .own e r::ks,.mk t' x::ds,rest,h,hf=>by
  rw [Yd,Yc] at hf
  rw [Ye,Ye,Yn,Ym.injEq] at h
  obtain ⟨k1,k2⟩:=Zby ks ds rest h.2 hf.2
  have ht:t' = .sl r:=h.1
  subst ht
  refine ⟨?_,k2⟩
  show ([RL.own e r x]++(Z6 ks ds).1).all Z6s=true
  rw [Yk,k1,Yi]
  show (flat r&&true)=true
  rw [show flat r=true from hf.1]
  rfl
theorem Zp2:∀(rs:List SK) (ds:List DV) (rest:List Ty),ds.map DV.t=Z1r rs++rest→(rs.all fun r=>r.ks.all Z32)=true→(Zbe rs ds).1.all Zkn=true∧(Zbe rs ds).2.map DV.t=rest
 | [],ds,rest,h,_=>⟨rfl,h⟩
 | .val a ks::rs,ds,rest,h,hf=>by
  rw [Yd,Yc] at hf
  obtain ⟨k1,k2⟩:=Zby ks ds (Z1r rs++rest) (by rw [h];show (ks.map RK.ty++Z1r rs)++rest=_;rw [Yl]) hf.1
  obtain ⟨j1,j2⟩:=Zp2 rs (Z6 ks ds).2 rest k2 hf.2
  refine ⟨?_,j2⟩
  show (Zkn (.val a (Z6 ks ds).1)&&_)=true
  rw [show Zkn (.val a (Z6 ks ds).1)=true from k1]
  exact j1
 | .box a ks::rs,ds,rest,h,hf=>by
  rw [Yd,Yc] at hf
  obtain ⟨k1,k2⟩:=Zby ks ds (Z1r rs++rest) (by rw [h];show (ks.map RK.ty++Z1r rs)++rest=_;rw [Yl]) hf.1
  obtain ⟨j1,j2⟩:=Zp2 rs (Z6 ks ds).2 rest k2 hf.2
  refine ⟨?_,j2⟩
  show (Zkn (.box a (Z6 ks ds).1)&&_)=true
  rw [show Zkn (.box a (Z6 ks ds).1)=true from k1]
  exact j1
theorem Zycb:∀(ts:List Ty) (ms:List PL),(ms.all fun m=>match m with
  | .own _=>false
  | _=>true)=true→Zij ts ms=[]
 | [],[],_=>rfl
 | [],_::_,_=>rfl
 | t::ts,[],_=>by cases t <;> rfl
 | t::ts,m::ms,h=>by
  rw [Yd,Yc] at h
  have ih:=Zycb ts ms h.2
  cases m with
  | own e=>cases h.1
  | v=>cases t <;> exact ih
  | ro=>cases t <;> exact ih
theorem Zc9:∀(ps:List PK) (ds:List DV),ps.all noB=true→Z5g ps ds=[]
 | [],_,_=>rfl
 | p::ps,ds,h=>by
  rw [Yd,Yc] at h
  have e:Z6u p ds=([],ds):=by
   cases p with
   | val a t ms=>
    show Zzj (Zij (Z8 t) ms) ds=_
    rw [Zycb _ _ h.1]
    rfl
   | rptr t=>rfl
   | ref _ _ _=>cases h.1
   | fn _ _=>cases h.1
   | mv _ _=>cases h.1
  show (Z6u p ds).1++Z5g ps (Z6u p ds).2=[]
  rw [e]
  exact Zc9 ps ds h.2
end
theorem Zn8 {P:Program} {n:FuncId} {s:Sig} {f:Zab s.ins→Option (Zab s.outs)} (h:Zf P n (s.con f)) (hk:s.keptOk=true:=by kernel_rfl):Zf P n (s.conR f):=by
 unfold Sig.keptOk at hk
 rw [Yc] at hk
 refine ⟨h.1,fun asx rr hrr w vs F L M hF hnd hgl hargs=>?_⟩
 have hrr:(s.run f (asx.map Z10)).val=some rr:=hrr
 have hfl:rr.res.all Zkn=true∧rr.refs=[]:=by
  unfold Sig.run at hrr
  split at hrr
  ·split at hrr
   ·rename_i x _
    obtain ⟨y,_,hy⟩:=Option.map_eq_some_iff.1 (show (f x).map s.enc=some rr from hrr)
    rw [← hy]
    exact ⟨(Zp2 s.rs (Zte s.outs y) (Zo1 s.ps) (Zsbb _ _) hk.2).1,Zc9 s.ps _ hk.1⟩
   ·cases hrr
  ·cases hrr
 refine (h.2 (asx.map Z10) rr hrr w vs (Bor w (GI.blocks L++Zyb M)) L M (fun b hb=>hb) hnd hgl (Z2g.weak hF hargs)).mono fun e w' ⟨v,he,hK,O1,O2,h1,h2,h3,h4⟩=>?_
 refine ⟨v,he,hK,O1,O2,h1,h2,?_,Zmmb hfl.1 h4⟩
 rw [hfl.2] at h3 ⊢
 exact Zimb h3
end Go.Proofs.Qz
section
namespace Go.Proofs
open Go.Shelf
def Tryz.lays156_ren:Go.Shelf.Ren:=⟨fun | 156=>271 | 165=>297 | 166=>298 | 169=>299 | 240=>313 | 241=>314 | 276=>322 | 277=>323 | n=>n,fun | 31=>23 | 9=>9 | 3=>3 | 4=>4 | 0=>0 | 20=>20 | 72=>309 | 76=>313 | 70=>307 | 37=>22 | 75=>312 | 127=>327 | 164=>334 | 5=>5 | 80=>204 | n=>n,fun | n=>n⟩
theorem Tryz.lays156:Go.Proofs.Lays.n156 Tryz.prog Tryz.lays156_ren:={
 mixed:=by kernel_rfl
 f156:=Tryz.func271.trans (congrArg some (by kernel_rfl))
 f165:=Tryz.func297.trans (congrArg some (by kernel_rfl))
 f166:=Tryz.func298.trans (congrArg some (by kernel_rfl))
 f169:=Tryz.func299.trans (congrArg some (by kernel_rfl))
 f240:=Tryz.func313.trans (congrArg some (by kernel_rfl))
 f241:=Tryz.func314.trans (congrArg some (by kernel_rfl))
 f276:=Tryz.func322.trans (congrArg some (by kernel_rfl))
 f277:=Tryz.func323.trans (congrArg some (by kernel_rfl))
 t0:=Tryz.underlying0
 a0:=Tryz.isAgg0
 z0:=Tryz.sizeOf0
 v0:=Tryz.zeroValue0
 t3:=Tryz.underlying3
 a3:=Tryz.isAgg3
 z3:=Tryz.sizeOf3
 v3:=Tryz.zeroValue3
 t4:=Tryz.underlying4
 a4:=Tryz.isAgg4
 z4:=Tryz.sizeOf4
 v4:=Tryz.zeroValue4
 t9:=Tryz.underlying9
 a9:=Tryz.isAgg9
 z9:=Tryz.sizeOf9
 v9:=Tryz.zeroValue9
 t20:=Tryz.underlying20
 a20:=Tryz.isAgg20
 z20:=Tryz.sizeOf20
 v20:=Tryz.zeroValue20
 t31:=Tryz.underlying23
 a31:=Tryz.isAgg23
 z31:=Tryz.sizeOf23
 v31:=Tryz.zeroValue23
 t37:=Tryz.underlying22
 a37:=Tryz.isAgg22
 z37:=Tryz.sizeOf22
 v37:=Tryz.zeroValue22
 t70:=Tryz.underlying307
 a70:=Tryz.isAgg307
 z70:=Tryz.sizeOf307
 v70:=Tryz.zeroValue307
 t72:=Tryz.underlying309
 a72:=Tryz.isAgg309
 z72:=Tryz.sizeOf309
 v72:=Tryz.zeroValue309
 t75:=Tryz.underlying312
 a75:=Tryz.isAgg312
 z75:=Tryz.sizeOf312
 v75:=Tryz.zeroValue312
 t76:=Tryz.underlying313
 a76:=Tryz.isAgg313
 z76:=Tryz.sizeOf313
 v76:=Tryz.zeroValue313
 t127:=Tryz.underlying327
 a127:=Tryz.isAgg327
 z127:=Tryz.sizeOf327
 v127:=Tryz.zeroValue327
 t164:=Tryz.underlying334
 a164:=Tryz.isAgg334
 z164:=Tryz.sizeOf334
 v164:=Tryz.zeroValue334 }
theorem Tryz.Builder_Extra_156:Builder.Extra Tryz.prog Tryz.lays156_ren:={
 sizeBuilder:=by kernel_rfl
 liesBuilder:=by kernel_rfl
 t5:=Tryz.underlying5
 a5:=Tryz.isAgg5
 z5:=Tryz.sizeOf5
 v5:=Tryz.zeroValue5
 infoByte:=by kernel_rfl
 cellsByte:=by kernel_rfl
 sizeByte:=by kernel_rfl
 neB5:=by decide }
open Go.RowKit in
theorem Tryz.strings_Join_none (a:Option Addr) (c:Nat) (sep:ByteArray) (w:World):
  Calls Tryz.prog 271 #[.slice a 0 c,.string sep] w fun e w'=>e = .returned (.string ⟨#[]⟩)∧w'=w:=Any.strings_Join_none Tryz.lays156 Tryz.Builder_Extra_156 a c sep w
open Go.RowKit in
theorem Tryz.strings_Join (bk o c:Nat) (xs:List ByteArray) (sep:ByteArray) (w:World) (hcells:∀(j:Nat) x,xs[j]? = some x→w.cell? ⟨bk,o+j,none⟩=some (.string x)) (hbk:bk<w.heap.size) (hN:xs.length≤140737488355328) (hcap:xs.length≤c) (hlen:(Lib.join (xs.map (·.data.toList)) sep.data.toList).length≤140737488355328):
  Calls Tryz.prog 271 #[.slice (some ⟨bk,o,none⟩) xs.length c,.string sep] w fun e w'=>e = .returned (.string ⟨(Lib.join (xs.map (·.data.toList)) sep.data.toList).toArray⟩)∧Below w.heap.size w w':=Any.strings_Join Tryz.lays156 Tryz.Builder_Extra_156 bk o c xs sep w hcells hbk hN hcap hlen
def Tryz.lays105_ren:Go.Shelf.Ren:=⟨fun | 105=>294 | 212=>308 | 99=>309 | 165=>297 | 166=>298 | 170=>310 | 169=>299 | 263=>318 | 264=>319 | 206=>320 | 240=>313 | 241=>314 | 276=>322 | 277=>323 | n=>n,fun | 9=>9 | 3=>3 | 4=>4 | 20=>20 | 0=>0 | 46=>265 | 109=>320 | 5=>5 | 72=>309 | 76=>313 | 51=>297 | 146=>330 | 53=>215 | 148=>332 | 70=>307 | 37=>22 | 75=>312 | 127=>327 | 164=>334 | 80=>204 | n=>n,fun | n=>n⟩
theorem Tryz.lays105:Go.Proofs.Lays.n105 Tryz.prog Tryz.lays105_ren:={
 mixed:=by kernel_rfl
 f99:=Tryz.func309.trans (congrArg some (by kernel_rfl))
 f105:=Tryz.func294.trans (congrArg some (by kernel_rfl))
 f165:=Tryz.func297.trans (congrArg some (by kernel_rfl))
 f166:=Tryz.func298.trans (congrArg some (by kernel_rfl))
 f169:=Tryz.func299.trans (congrArg some (by kernel_rfl))
 f170:=Tryz.func310.trans (congrArg some (by kernel_rfl))
 f206:=Tryz.func320.trans (congrArg some (by kernel_rfl))
 f212:=Tryz.func308.trans (congrArg some (by kernel_rfl))
 f240:=Tryz.func313.trans (congrArg some (by kernel_rfl))
 f241:=Tryz.func314.trans (congrArg some (by kernel_rfl))
 f263:=Tryz.func318.trans (congrArg some (by kernel_rfl))
 f264:=Tryz.func319.trans (congrArg some (by kernel_rfl))
 f276:=Tryz.func322.trans (congrArg some (by kernel_rfl))
 f277:=Tryz.func323.trans (congrArg some (by kernel_rfl))
 t0:=Tryz.underlying0
 a0:=Tryz.isAgg0
 z0:=Tryz.sizeOf0
 v0:=Tryz.zeroValue0
 t3:=Tryz.underlying3
 a3:=Tryz.isAgg3
 z3:=Tryz.sizeOf3
 v3:=Tryz.zeroValue3
 t4:=Tryz.underlying4
 a4:=Tryz.isAgg4
 z4:=Tryz.sizeOf4
 v4:=Tryz.zeroValue4
 t5:=Tryz.underlying5
 a5:=Tryz.isAgg5
 z5:=Tryz.sizeOf5
 v5:=Tryz.zeroValue5
 t9:=Tryz.underlying9
 a9:=Tryz.isAgg9
 z9:=Tryz.sizeOf9
 v9:=Tryz.zeroValue9
 t20:=Tryz.underlying20
 a20:=Tryz.isAgg20
 z20:=Tryz.sizeOf20
 v20:=Tryz.zeroValue20
 t37:=Tryz.underlying22
 a37:=Tryz.isAgg22
 z37:=Tryz.sizeOf22
 v37:=Tryz.zeroValue22
 t46:=Tryz.underlying265
 a46:=Tryz.isAgg265
 z46:=Tryz.sizeOf265
 v46:=Tryz.zeroValue265
 t51:=Tryz.underlying297
 a51:=Tryz.isAgg297
 z51:=Tryz.sizeOf297
 v51:=Tryz.zeroValue297
 t53:=Tryz.underlying215
 a53:=Tryz.isAgg215
 z53:=Tryz.sizeOf215
 v53:=Tryz.zeroValue215
 t70:=Tryz.underlying307
 a70:=Tryz.isAgg307
 z70:=Tryz.sizeOf307
 v70:=Tryz.zeroValue307
 t72:=Tryz.underlying309
 a72:=Tryz.isAgg309
 z72:=Tryz.sizeOf309
 v72:=Tryz.zeroValue309
 t75:=Tryz.underlying312
 a75:=Tryz.isAgg312
 z75:=Tryz.sizeOf312
 v75:=Tryz.zeroValue312
 t76:=Tryz.underlying313
 a76:=Tryz.isAgg313
 z76:=Tryz.sizeOf313
 v76:=Tryz.zeroValue313
 t109:=Tryz.underlying320
 a109:=Tryz.isAgg320
 z109:=Tryz.sizeOf320
 v109:=Tryz.zeroValue320
 t127:=Tryz.underlying327
 a127:=Tryz.isAgg327
 z127:=Tryz.sizeOf327
 v127:=Tryz.zeroValue327
 t146:=Tryz.underlying330
 a146:=Tryz.isAgg330
 z146:=Tryz.sizeOf330
 v146:=Tryz.zeroValue330
 t148:=Tryz.underlying332
 a148:=Tryz.isAgg332
 z148:=Tryz.sizeOf332
 v148:=Tryz.zeroValue332
 t164:=Tryz.underlying334
 a164:=Tryz.isAgg334
 z164:=Tryz.sizeOf334
 v164:=Tryz.zeroValue334 }
theorem Tryz.Builder_Extra_105:Builder.Extra Tryz.prog Tryz.lays105_ren:={
 sizeBuilder:=by kernel_rfl
 liesBuilder:=by kernel_rfl
 t5:=Tryz.underlying5
 a5:=Tryz.isAgg5
 z5:=Tryz.sizeOf5
 v5:=Tryz.zeroValue5
 infoByte:=by kernel_rfl
 cellsByte:=by kernel_rfl
 sizeByte:=by kernel_rfl
 neB5:=by decide }
open Go.RowKit Go.Lib in
theorem Tryz.strings_Repeat (s:ByteArray) (c:Nat) (w:World) (hc:c≤9223372036854775807) (hlen:s.size*c≤140737488355328):
  Calls Tryz.prog 294 #[.string s,.int .i64 c] w fun e w'=>e = .returned (.string ⟨(Lib.repeatL s.data.toList c).toArray⟩)∧Below w.heap.size w w':=Any.strings_Repeat Tryz.lays105 Tryz.Builder_Extra_105 s c w hc hlen
def Tryz.laysNm223_ren:Go.Shelf.Ren:=⟨fun | 23=>204 | n=>n,fun | 22=>221 | 3=>3 | 4=>4 | 0=>0 | n=>n,fun | n=>n⟩
theorem Tryz.laysNm223:Go.Proofs.Lays2.n23 Tryz.prog Tryz.laysNm223_ren:={
 mixed:=by kernel_rfl
 f23:=Tryz.func204.trans (congrArg some (by kernel_rfl))
 t0:=Tryz.underlying0
 a0:=Tryz.isAgg0
 z0:=Tryz.sizeOf0
 v0:=Tryz.zeroValue0
 t3:=Tryz.underlying3
 a3:=Tryz.isAgg3
 z3:=Tryz.sizeOf3
 v3:=Tryz.zeroValue3
 t4:=Tryz.underlying4
 a4:=Tryz.isAgg4
 z4:=Tryz.sizeOf4
 v4:=Tryz.zeroValue4
 t22:=Tryz.underlying221
 a22:=Tryz.isAgg221
 z22:=Tryz.sizeOf221
 v22:=Tryz.zeroValue221
 i3:=by kernel_rfl }
open Go.RowKit Go.Lib Go.Sort in
theorem Tryz.slices_Delete_int (blk off cap i j:Nat) (zs:List Int) (w:World) (hH:Holds (Value.int .i64) w blk off zs.toArray) (hcap:zs.length≤cap) (hm:cap≤9223372036854775807) (hij:i≤j) (hj:j≤zs.length):
  Calls Tryz.prog 204 #[.slice (some ⟨blk,off,none⟩) zs.length cap,.int .i64 i,.int .i64 j] w fun e w'=>e = .returned (.slice (some ⟨blk,off,none⟩) (zs.length-(j-i)) cap)∧∃q,w'=putRow (Value.int .i64) (Sort.ahead w q) blk off (zs.take i++zs.drop j++Yo (j-i) 0).toArray:=Any.slices_Delete_int Tryz.laysNm223 blk off cap i j zs w hH hcap hm hij hj
open Go.RowKit Go.Lib Go.Sort in
theorem Tryz.slices_Delete_int_cells (b off n c i j:Nat) (zs:List Int) (w:World) (hz:n≤zs.length) (hcap:n≤c) (hm:c≤9223372036854775807) (hij:i≤j) (hj:j≤n) (hc:∀j,j<zs.length→w.cell? ⟨b,off+j,none⟩=some (.int .i64 (zs.getD j 0))) (hf:∀j,j<n→w.frozen? ⟨b,off+j,none⟩=false):
  Calls Tryz.prog 204 #[.slice (some ⟨b,off,none⟩) n c,.int .i64 i,.int .i64 j] w fun e w'=>e = .returned (.slice (some ⟨b,off,none⟩) (n-(j-i)) c)∧∃q,w'=(w.drewN q).setCells b off (((zs.take n).take i++(zs.take n).drop j++Yo (j-i) 0).map (Value.int .i64)):=Any.slices_Delete_int_cells Tryz.laysNm223 b off n c i j zs w hz hcap hm hij hj hc hf
open Go.RowKit Go.Lib in
theorem Tryz.slices_Delete_int_empty (a:Option Addr) (c:Nat) (w:World):
  Calls Tryz.prog 204 #[.slice a 0 c,.int .i64 0,.int .i64 0] w fun e w'=>e = .returned (.slice a 0 c)∧w'=w:=Any.slices_Delete_int_empty Tryz.laysNm223 a c w
end Go.Proofs
end
namespace Go.Proofs.Qz
open Go Go.RowKit
set_option linter.unusedVariables false
set_option linter.defProp false
abbrev Zp:Ty:=(.pair (.int .i64) .str)
abbrev Zr:=Int×Str
abbrev Zci:Ty:=(.pair (.int .i64) (.int .i64))
abbrev Zjk:=Int×Int
abbrev T42:Ty:=(.pair (.sl .str) (.int .i64))
abbrev Zc1:Ty:=(.pair (.sl (.int .i64)) (.int .i64))
abbrev G254:=List Int×Int
abbrev Zjc:Ty:=(.pair .bool Zp)
abbrev Z5c:=Bool×Zr
abbrev Zkk:Ty:=(.pair .str (.pair (.int .i64) .bool))
abbrev Ziu:=Str×Int×Bool
abbrev T156:Ty:=(.pair (.int .i64) (.pair .str (.int .i64)))
abbrev T269:Ty:=(.pair .str Zci)
abbrev Z46:Ty:=(.pair (.int .i64) Zci)
abbrev G272:=Int×Zjk
abbrev T26:Ty:=(.pair (.sl .str) (.sl Zp))
abbrev G26:=List Str×List Zr
abbrev T52:Ty:=(.pair (.int .i64) (.pair (.int .i64) Zp))
abbrev G52:=Int×Int×Zr
abbrev Z4b:Ty:=(.pair (.int .i64) Z46)
abbrev Zad:=Int×G272
abbrev T28:Ty:=(.pair (.int .i64) T26)
abbrev G28:=Int×G26
abbrev T262:Ty:=(.pair (.sl (.int .u8)) (.pair (.int .i64) (.pair (.int .u64) (.int .i64))))
abbrev T318:Ty:=(.pair T52 (.int .i64))
abbrev T109:Ty:=(.pair T26 (.pair .str (.int .i64)))
abbrev T38:Ty:=(.pair T28 (.int .i64))
abbrev T100:Ty:=(.pair (.sl Z4b) (.int .i64))
abbrev T33:Ty:=(.pair (.int .i64) (.pair .str (.sl T52)))
abbrev T121:Ty:=(.pair (.sl Zjc) (.pair .str Zc1))
abbrev T35:Ty:=(.pair T33 (.int .i64))
abbrev T70:Ty:=(.pair T28 (.pair .str Zc1))
abbrev G70:=G28×Str×G254
abbrev T54:Ty:=(.pair (.int .i64) (.pair (.int .i64) (.pair (.int .i64) (.pair .str T52))))
abbrev G54:=Int×Int×Int×Str×G52
abbrev T46:Ty:=(.pair (.int .i64) (.pair (.int .i64) (.pair (.int .i64) (.pair (.int .i64) (.pair (.int .i64) (.pair .str (.pair (.sl (.int .i64)) (.sl (.int .i64)))))))))
abbrev G46:=Int×Int×Int×Int×Int×Str×List Int×List Int
abbrev T48:Ty:=(.pair T46 (.int .i64))
abbrev T86:Ty:=(.pair T54 (.pair (.int .i64) (.pair (.sl (.int .i64)) (.sl (.int .i64)))))
def TAB:Tab TI:=(.node (.node (.node (.node (.node (.node (.node .nil (some { sz:=3,agg:=true,offs:=[(0,2),(1,61)],elem:=0,kind:=4,ik:=.i64,bytes:=56,zero:=[.int .i64 0,.nil,.nil],ty:=T28,eqs:=false }) .nil) (some { sz:=1,agg:=false,offs:=[],elem:=52,kind:=3,ik:=.i64,bytes:=24,zero:=[.nil],ty:=(.sl T52),eqs:=false }) .nil) none (.node .nil none (.node .nil (some { sz:=1,agg:=false,offs:=[],elem:=151,kind:=3,ik:=.i64,bytes:=24,zero:=[.nil],ty:=(.sl Zjc),eqs:=false }) .nil))) none (.node .nil (some { sz:=1,agg:=false,offs:=[],elem:=9,kind:=3,ik:=.i64,bytes:=24,zero:=[.nil],ty:=(.sl .str),eqs:=false }) (.node (.node (.node .nil (some { sz:=3,agg:=true,offs:=[(0,4),(1,2),(2,9)],elem:=0,kind:=4,ik:=.i64,bytes:=32,zero:=[.kb false,.int .i64 0,.str []],ty:=Zjc,eqs:=true }) .nil) none (.node .nil (some { sz:=1,agg:=false,offs:=[],elem:=0,kind:=1,ik:=.u64,bytes:=8,zero:=[.int .u64 0],ty:=(.int .u64),eqs:=false }) .nil)) none .nil))) (some { sz:=1,agg:=false,offs:=[],elem:=0,kind:=1,ik:=.i64,bytes:=8,zero:=[.int .i64 0],ty:=(.int .i64),eqs:=false }) (.node (.node (.node (.node .nil none (.node .nil (some { sz:=2,agg:=true,offs:=[(0,2),(1,9)],elem:=0,kind:=4,ik:=.i64,bytes:=24,zero:=[.int .i64 0,.str []],ty:=Zp,eqs:=true }) .nil)) (some { sz:=4,agg:=true,offs:=[(0,33),(3,2)],elem:=0,kind:=4,ik:=.i64,bytes:=56,zero:=[.int .i64 0,.str [],.nil,.int .i64 0],ty:=T35,eqs:=false }) .nil) none (.node .nil none (.node .nil none (.node .nil (some { sz:=2,agg:=true,offs:=[(0,2),(1,2)],elem:=0,kind:=4,ik:=.i64,bytes:=16,zero:=[.int .i64 0,.int .i64 0],ty:=Zci,eqs:=true }) .nil)))) none (.node (.node (.node (.node .nil (some { sz:=4,agg:=true,offs:=[(0,2),(1,2),(2,2),(3,2)],elem:=0,kind:=4,ik:=.i64,bytes:=32,zero:=[.int .i64 0,.int .i64 0,.int .i64 0,.int .i64 0],ty:=Z4b,eqs:=true }) .nil) none .nil) none .nil) none (.node .nil (some { sz:=1,agg:=false,offs:=[],elem:=248,kind:=3,ik:=.i64,bytes:=24,zero:=[.nil],ty:=(.sl Zp),eqs:=false }) .nil)))) none (.node (.node (.node (.node .nil (some { sz:=3,agg:=true,offs:=[(0,2),(1,9),(2,31)],elem:=0,kind:=4,ik:=.i64,bytes:=48,zero:=[.int .i64 0,.str [],.nil],ty:=T33,eqs:=false }) (.node (.node (.node .nil (some { sz:=3,agg:=true,offs:=[(0,9),(1,2),(2,4)],elem:=0,kind:=4,ik:=.i64,bytes:=32,zero:=[.str [],.int .i64 0,.kb false],ty:=Zkk,eqs:=true }) .nil) none .nil) none .nil)) none .nil) (some { sz:=1,agg:=false,offs:=[],elem:=0,kind:=2,ik:=.i64,bytes:=16,zero:=[.str []],ty:=.str,eqs:=false }) (.node (.node (.node (.node (.node .nil (some { sz:=1,agg:=false,offs:=[],elem:=0,kind:=1,ik:=.u64,bytes:=8,zero:=[.int .u64 0],ty:=(.int .u64),eqs:=false }) .nil) none .nil) none .nil) none (.node (.node (.node .nil (some { sz:=1,agg:=false,offs:=[],elem:=0,kind:=1,ik:=.u32,bytes:=4,zero:=[.int .u32 0],ty:=(.int .u32),eqs:=false }) .nil) none .nil) none .nil)) none (.node .nil none (.node .nil (some { sz:=4,agg:=true,offs:=[(0,111),(1,9),(2,44),(3,2)],elem:=0,kind:=4,ik:=.i64,bytes:=72,zero:=[.nil,.str [],.nil,.int .i64 0],ty:=T121,eqs:=false }) .nil)))) (some { sz:=1,agg:=false,offs:=[],elem:=0,kind:=1,ik:=.u8,bytes:=1,zero:=[.int .u8 0],ty:=(.int .u8),eqs:=false }) (.node .nil none (.node (.node (.node (.node (.node .nil (some { sz:=3,agg:=true,offs:=[(0,9),(1,2),(2,2)],elem:=0,kind:=4,ik:=.i64,bytes:=32,zero:=[.str [],.int .i64 0,.int .i64 0],ty:=T269,eqs:=true }) .nil) none .nil) none (.node .nil (some { sz:=1,agg:=false,offs:=[],elem:=4,kind:=3,ik:=.i64,bytes:=24,zero:=[.nil],ty:=(.sl .bool),eqs:=false }) .nil)) none (.node .nil (some { sz:=4,agg:=true,offs:=[(0,26),(2,9),(3,2)],elem:=0,kind:=4,ik:=.i64,bytes:=72,zero:=[.nil,.nil,.str [],.int .i64 0],ty:=T109,eqs:=false }) .nil)) none (.node (.node .nil none (.node .nil (some { sz:=1,agg:=false,offs:=[],elem:=3,kind:=3,ik:=.i64,bytes:=24,zero:=[.nil],ty:=(.sl (.int .i64)),eqs:=false }) .nil)) (some { sz:=2,agg:=true,offs:=[(0,23),(1,59)],elem:=0,kind:=4,ik:=.i64,bytes:=48,zero:=[.nil,.nil],ty:=T26,eqs:=false }) .nil))))) none (.node (.node (.node (.node (.node (.node .nil (some { sz:=4,agg:=true,offs:=[(0,2),(1,2),(2,2),(3,9)],elem:=0,kind:=4,ik:=.i64,bytes:=40,zero:=[.int .i64 0,.int .i64 0,.int .i64 0,.str []],ty:=T52,eqs:=true }) .nil) none .nil) none (.node (.node (.node (.node .nil (some { sz:=3,agg:=true,offs:=[(0,2),(1,2),(2,2)],elem:=0,kind:=4,ik:=.i64,bytes:=24,zero:=[.int .i64 0,.int .i64 0,.int .i64 0],ty:=Z46,eqs:=true }) .nil) none .nil) none .nil) (some { sz:=9,agg:=true,offs:=[(0,46),(8,2)],elem:=0,kind:=4,ik:=.i64,bytes:=112,zero:=[.int .i64 0,.int .i64 0,.int .i64 0,.int .i64 0,.int .i64 0,.str [],.nil,.nil,.int .i64 0],ty:=T48,eqs:=false }) (.node .nil none (.node .nil (some { sz:=1,agg:=false,offs:=[],elem:=243,kind:=3,ik:=.i64,bytes:=24,zero:=[.nil],ty:=(.sl Zci),eqs:=false }) .nil)))) none (.node (.node .nil none (.node (.node (.node .nil (some { sz:=1,agg:=false,offs:=[],elem:=297,kind:=3,ik:=.i64,bytes:=24,zero:=[.nil],ty:=(.sl (.int .u32)),eqs:=false }) .nil) none .nil) none .nil)) (some { sz:=1,agg:=false,offs:=[],elem:=195,kind:=3,ik:=.i64,bytes:=24,zero:=[.nil],ty:=(.sl Zp),eqs:=false }) (.node .nil none (.node .nil none (.node .nil (some { sz:=2,agg:=true,offs:=[(0,2),(1,9)],elem:=0,kind:=4,ik:=.i64,bytes:=24,zero:=[.int .i64 0,.str []],ty:=Zp,eqs:=true }) .nil))))) (some { sz:=1,agg:=false,offs:=[],elem:=0,kind:=5,ik:=.i64,bytes:=1,zero:=[.kb false],ty:=.bool,eqs:=false }) (.node (.node (.node (.node .nil none (.node (.node .nil (some { sz:=64,agg:=true,offs:=[(64,0)],elem:=297,kind:=7,ik:=.i64,bytes:=256,zero:=[.int .u32 0,.int .u32 0,.int .u32 0,.int .u32 0,.int .u32 0,.int .u32 0,.int .u32 0,.int .u32 0,.int .u32 0,.int .u32 0,.int .u32 0,.int .u32 0,.int .u32 0,.int .u32 0,.int .u32 0,.int .u32 0,.int .u32 0,.int .u32 0,.int .u32 0,.int .u32 0,.int .u32 0,.int .u32 0,.int .u32 0,.int .u32 0,.int .u32 0,.int .u32 0,.int .u32 0,.int .u32 0,.int .u32 0,.int .u32 0,.int .u32 0,.int .u32 0,.int .u32 0,.int .u32 0,.int .u32 0,.int .u32 0,.int .u32 0,.int .u32 0,.int .u32 0,.int .u32 0,.int .u32 0,.int .u32 0,.int .u32 0,.int .u32 0,.int .u32 0,.int .u32 0,.int .u32 0,.int .u32 0,.int .u32 0,.int .u32 0,.int .u32 0,.int .u32 0,.int .u32 0,.int .u32 0,.int .u32 0,.int .u32 0,.int .u32 0,.int .u32 0,.int .u32 0,.int .u32 0,.int .u32 0,.int .u32 0,.int .u32 0,.int .u32 0],ty:=.unit,eqs:=false }) .nil) none .nil)) none (.node .nil (some { sz:=2,agg:=true,offs:=[(0,98),(1,2)],elem:=0,kind:=4,ik:=.i64,bytes:=32,zero:=[.nil,.int .i64 0],ty:=T100,eqs:=false }) .nil)) none (.node .nil (some { sz:=4,agg:=true,offs:=[(0,2),(1,2),(2,2),(3,9)],elem:=0,kind:=4,ik:=.i64,bytes:=40,zero:=[.int .i64 0,.int .i64 0,.int .i64 0,.str []],ty:=T52,eqs:=true }) .nil)) none (.node (.node .nil (some { sz:=1,agg:=false,offs:=[],elem:=2,kind:=3,ik:=.i64,bytes:=24,zero:=[.nil],ty:=(.sl (.int .i64)),eqs:=false }) .nil) (some { sz:=3,agg:=true,offs:=[(0,2),(1,26)],elem:=0,kind:=4,ik:=.i64,bytes:=56,zero:=[.int .i64 0,.nil,.nil],ty:=T28,eqs:=false }) (.node (.node (.node .nil (some { sz:=3,agg:=true,offs:=[(0,2),(1,9),(2,2)],elem:=0,kind:=4,ik:=.i64,bytes:=32,zero:=[.int .i64 0,.str [],.int .i64 0],ty:=T156,eqs:=true }) .nil) none .nil) none .nil)))) (some { sz:=1,agg:=false,offs:=[],elem:=0,kind:=1,ik:=.i64,bytes:=8,zero:=[.int .i64 0],ty:=(.int .i64),eqs:=false }) (.node (.node (.node (.node (.node .nil (some { sz:=8,agg:=true,offs:=[(0,2),(1,2),(2,2),(3,9),(4,64)],elem:=0,kind:=4,ik:=.i64,bytes:=80,zero:=[.int .i64 0,.int .i64 0,.int .i64 0,.str [],.int .i64 0,.int .i64 0,.int .i64 0,.str []],ty:=T54,eqs:=true }) .nil) none (.node .nil (some { sz:=1,agg:=false,offs:=[],elem:=139,kind:=3,ik:=.i64,bytes:=24,zero:=[.nil],ty:=(.sl Z4b),eqs:=false }) .nil)) none .nil) none (.node (.node .nil (some { sz:=2,agg:=true,offs:=[(0,23),(1,2)],elem:=0,kind:=4,ik:=.i64,bytes:=32,zero:=[.nil,.int .i64 0],ty:=T42,eqs:=false }) (.node .nil none (.node .nil (some { sz:=3,agg:=true,offs:=[(0,9),(1,2),(2,4)],elem:=0,kind:=4,ik:=.i64,bytes:=32,zero:=[.str [],.int .i64 0,.kb false],ty:=Zkk,eqs:=true }) .nil))) (some { sz:=2,agg:=true,offs:=[(0,23),(1,24)],elem:=0,kind:=4,ik:=.i64,bytes:=48,zero:=[.nil,.nil],ty:=T26,eqs:=false }) (.node (.node .nil (some { sz:=11,agg:=true,offs:=[(0,54),(8,2),(9,44),(10,44)],elem:=0,kind:=4,ik:=.i64,bytes:=136,zero:=[.int .i64 0,.int .i64 0,.int .i64 0,.str [],.int .i64 0,.int .i64 0,.int .i64 0,.str [],.int .i64 0,.nil,.nil],ty:=T86,eqs:=false }) .nil) none .nil))) none (.node (.node (.node (.node (.node (.node .nil (some { sz:=4,agg:=true,offs:=[(0,22),(1,3),(2,215),(3,2)],elem:=0,kind:=4,ik:=.i64,bytes:=48,zero:=[.nil,.int .i64 0,.int .u64 0,.int .i64 0],ty:=T262,eqs:=false }) .nil) none .nil) (some { sz:=6,agg:=true,offs:=[(0,28),(3,9),(4,44),(5,2)],elem:=0,kind:=4,ik:=.i64,bytes:=104,zero:=[.int .i64 0,.nil,.nil,.str [],.nil,.int .i64 0],ty:=T70,eqs:=false }) .nil) (some { sz:=4,agg:=true,offs:=[(0,28),(3,2)],elem:=0,kind:=4,ik:=.i64,bytes:=64,zero:=[.int .i64 0,.nil,.nil,.int .i64 0],ty:=T38,eqs:=false }) .nil) (some { sz:=1,agg:=false,offs:=[],elem:=5,kind:=3,ik:=.i64,bytes:=24,zero:=[.nil],ty:=(.sl (.int .u8)),eqs:=false }) (.node (.node .nil (some { sz:=11,agg:=true,offs:=[(0,66),(8,2),(9,44),(10,44)],elem:=0,kind:=4,ik:=.i64,bytes:=136,zero:=[.int .i64 0,.int .i64 0,.int .i64 0,.str [],.int .i64 0,.int .i64 0,.int .i64 0,.str [],.int .i64 0,.nil,.nil],ty:=T86,eqs:=false }) .nil) (some { sz:=8,agg:=true,offs:=[(0,2),(1,2),(2,2),(3,9),(4,52)],elem:=0,kind:=4,ik:=.i64,bytes:=80,zero:=[.int .i64 0,.int .i64 0,.int .i64 0,.str [],.int .i64 0,.int .i64 0,.int .i64 0,.str []],ty:=T54,eqs:=true }) .nil)) none (.node (.node .nil (some { sz:=8,agg:=true,offs:=[(0,2),(1,2),(2,2),(3,2),(4,2),(5,9),(6,44),(7,44)],elem:=0,kind:=4,ik:=.i64,bytes:=104,zero:=[.int .i64 0,.int .i64 0,.int .i64 0,.int .i64 0,.int .i64 0,.str [],.nil,.nil],ty:=T46,eqs:=false }) (.node (.node (.node .nil (some { sz:=8,agg:=true,offs:=[(8,0)],elem:=297,kind:=7,ik:=.i64,bytes:=32,zero:=[.int .u32 0,.int .u32 0,.int .u32 0,.int .u32 0,.int .u32 0,.int .u32 0,.int .u32 0,.int .u32 0],ty:=.unit,eqs:=false }) .nil) none .nil) none .nil)) none (.node (.node .nil none (.node .nil (some { sz:=1,agg:=false,offs:=[],elem:=1000222,kind:=6,ik:=.i64,bytes:=8,zero:=[.unk],ty:=(.sl (.int .i64)),eqs:=false }) .nil)) none (.node (.node (.node .nil (some { sz:=5,agg:=true,offs:=[(0,52),(4,2)],elem:=0,kind:=4,ik:=.i64,bytes:=48,zero:=[.int .i64 0,.int .i64 0,.int .i64 0,.str [],.int .i64 0],ty:=T318,eqs:=true }) .nil) none .nil) none (.node .nil (some { sz:=2,agg:=true,offs:=[(0,44),(1,2)],elem:=0,kind:=4,ik:=.i64,bytes:=32,zero:=[.nil,.int .i64 0],ty:=Zc1,eqs:=false }) .nil))))))))
theorem Zps:Zkb Tryz.prog TAB∧Tryz.prog.follows .mixedOrders=true:=⟨Zepb (by kernel_rfl),by kernel_rfl⟩
theorem cX {L:List (Nat×Con)} (h:Zbo Tryz.prog L):CtxOk Tryz.prog { ti:=TAB,con:=Zel L }:=Zws Zps h
theorem cXr (r t:Bool) {L:List (Nat×Con)} (h:Zbo Tryz.prog L):CtxOk Tryz.prog { ti:=TAB,con:=Zel L,rob:=r,tl:=t }:=Zws Zps h
end Go.Proofs.Qz
namespace Go.Proofs.Qz
open Go Go.RowKit
set_option linter.unusedVariables false
set_option linter.defProp false
def Z8e.l0:Nat→List Str→Int→Int→Option (Int ⊕ Int)
 | 0,_,_,_=>none
 | j+1,a1,a2,a3=>
  bif decide (a3<((a1.length):Int)) then
   Ya (at? a1 a3) fun v4=>
   let e5:=Yb .i64 (a2-((v4.length):Int))
   bif decide (e5<0) then
    some (.inr (-1))
   else
   Z8e.l0 j a1 e5 (Yb .i64 (a3+1))
  else
  some (.inl a2)
def Z8e (k:Nat) (a1:List Str) (a2:Int):Option (Int):=
 let e3:=Yb .i64 (a2-((a1.length):Int))
 bif decide (e3<0) then
  some (-1)
 else
 Ya (Z8e.l0 k a1 e3 0) fun
  | .inl y4=>
   some y4
  | .inr y5=>
   some y5
def Z8e.con (k:Nat):Con:=Sig.con { ps:=[.val false (.sl .str) (ros (.sl .str)),.val false (.int .i64) (ros (.int .i64))],rs:=[.val false [.v (.int .i64)]],ntmps:=28 } (fun x=>Z8e k x.1 x.2)
def Z8e.cok (k:Nat):=cX cN
def Z8e.l0.s (k:Nat):Summ:=lp 28 { tmps:=[(0,.one (.bor .str)),(1,.one (.v (.int .i64))),(5,.one (.v (.int .i64)))],slots:=[],nb:=0 } [(.exit 0,{ tmps:=[(1,.one (.v (.int .i64)))],slots:=[],nb:=0 }),(.ret,{ tmps:=[(4,.one (.v (.int .i64)))],slots:=[],nb:=0 })] (fun j x=>Z8e.l0 j x.1 x.2.1 x.2.2) k
def Z8e.l0.ok (k:Nat):=(lA (Z8e.cok k):Zj Tryz.prog _ (.loop (cO (cO (cR (cL (cR (cR (cR (cB Tryz.f148))))))))) (Z8e.l0.s k))
theorem Z8e.ok (k:Nat):Zf Tryz.prog 148 (Z8e.con k):=fP (.two .auto (.two .auto (.two .auto (.two (.two .auto (.one (.sum (Z8e.l0.s k)))) .auto)))) (Z8e.cok k) Tryz.func148 (sC (Z8e.l0.ok k) sN)
def Ztp (a1:Zr) (a2:Int):Option (Int):=
 let e3:=Yb .i64 (a2-((a1.2.length):Int))
 bif decide (e3<0) then
  some (-1)
 else
 some e3
def Ztp.con (k:Nat):Con:=Sig.con { ps:=[.val true Zp (ros Zp),.val false (.int .i64) (ros (.int .i64))],rs:=[.val false [.v (.int .i64)]],ntmps:=13 } (fun x=>Ztp x.1 x.2)
theorem Ztp.ok (k:Nat):Zf Tryz.prog 226 (Ztp.con k):=fA (cX cN) Tryz.func226
def Z7e.l0:Nat→List Zr→Int→Int→Option (Int ⊕ Int)
 | 0,_,_,_=>none
 | j+1,a1,a2,a3=>
  bif decide (a3<((a1.length):Int)) then
   Ya (at? a1 a3) fun v4=>
   Ya (Ztp v4 a2) fun v5=>
   bif decide (v5<0) then
    some (.inr (-1))
   else
   Z7e.l0 j a1 v5 (Yb .i64 (a3+1))
  else
  some (.inl a2)
def Z7e (k:Nat) (a1:List Zr) (a2:Int):Option (Int):=
 let e3:=Yb .i64 (a2-((a1.length):Int))
 bif decide (e3<0) then
  some (-1)
 else
 Ya (Z7e.l0 k a1 e3 0) fun
  | .inl y4=>
   some y4
  | .inr y5=>
   some y5
def Z7e.con (k:Nat):Con:=Sig.con { ps:=[.val false (.sl Zp) (ros (.sl Zp)),.val false (.int .i64) (ros (.int .i64))],rs:=[.val false [.v (.int .i64)]],ntmps:=27 } (fun x=>Z7e k x.1 x.2)
def Z7e.cok (k:Nat):=cX (cC (Ztp.ok k) cN)
def Z7e.l0.s (k:Nat):Summ:=lp 27 { tmps:=[(0,.one (.bor Zp)),(1,.one (.v (.int .i64))),(5,.one (.v (.int .i64)))],slots:=[],nb:=0 } [(.exit 0,{ tmps:=[(1,.one (.v (.int .i64)))],slots:=[],nb:=0 }),(.ret,{ tmps:=[(4,.one (.v (.int .i64)))],slots:=[],nb:=0 })] (fun j x=>Z7e.l0 j x.1 x.2.1 x.2.2) k
def Z7e.l0.ok (k:Nat):=(lA (Z7e.cok k):Zj Tryz.prog _ (.loop (cO (cO (cR (cL (cR (cR (cR (cB Tryz.f149))))))))) (Z7e.l0.s k))
theorem Z7e.ok (k:Nat):Zf Tryz.prog 149 (Z7e.con k):=fP (.two .auto (.two .auto (.two .auto (.two (.two .auto (.one (.sum (Z7e.l0.s k)))) .auto)))) (Z7e.cok k) Tryz.func149 (sC (Z7e.l0.ok k) sN)
def Zup (k:Nat) (a1:G26) (a2:Int):Option (Int):=
 Ya (Z8e k a1.1 a2) fun v3=>
 bif decide (v3<0) then
  some (-1)
 else
 Ya (Z7e k a1.2 v3) fun v4=>
 bif decide (v4<0) then
  some (-1)
 else
 some v4
def Zup.con (k:Nat):Con:=Sig.con { ps:=[.val true T26 (ros T26),.val false (.int .i64) (ros (.int .i64))],rs:=[.val false [.v (.int .i64)]],ntmps:=18 } (fun x=>Zup k x.1 x.2)
theorem Zup.ok (k:Nat):Zf Tryz.prog 67 (Zup.con k):=fA (cXr true false (cC (Z8e.ok k) (cC (Z7e.ok k) cN))) Tryz.func67
def Zvp (k:Nat) (a1:G28) (a2:Int):Option (Int):=
 Ya (Zup k a1.2 a2) fun v3=>
 bif decide (v3<0) then
  some (-1)
 else
 some v3
def Zvp.con (k:Nat):Con:=Sig.con { ps:=[.val true T28 (ros T28),.val false (.int .i64) (ros (.int .i64))],rs:=[.val false [.v (.int .i64)]],ntmps:=12 } (fun x=>Zvp k x.1 x.2)
theorem Zvp.ok (k:Nat):Zf Tryz.prog 19 (Zvp.con k):=fA (cXr true false (cC (Zup.ok k) cN)) Tryz.func19
def Zvr (a1:G52) (a2:Int):Option (Int):=
 let e3:=Yb .i64 (a2-((a1.2.2.2.length):Int))
 bif decide (e3<0) then
  some (-1)
 else
 some e3
def Zvr.con (k:Nat):Con:=Sig.con { ps:=[.val true T52 (ros T52),.val false (.int .i64) (ros (.int .i64))],rs:=[.val false [.v (.int .i64)]],ntmps:=13 } (fun x=>Zvr x.1 x.2)
theorem Zvr.ok (k:Nat):Zf Tryz.prog 68 (Zvr.con k):=fA (cX cN) Tryz.func68
def Zsp (a1:G54) (a2:Int):Option (Int):=
 let e3:=Yb .i64 (a2-((a1.2.2.2.1.length):Int))
 bif decide (e3<0) then
  some (-1)
 else
 Ya (Zvr a1.2.2.2.2 e3) fun v4=>
 bif decide (v4<0) then
  some (-1)
 else
 some v4
def Zsp.con (k:Nat):Con:=Sig.con { ps:=[.val true T54 (ros T54),.val false (.int .i64) (ros (.int .i64))],rs:=[.val false [.v (.int .i64)]],ntmps:=19 } (fun x=>Zsp x.1 x.2)
theorem Zsp.ok (k:Nat):Zf Tryz.prog 20 (Zsp.con k):=fA (cX (cC (Zvr.ok k) cN)) Tryz.func20
def Z4m (a1:G26):Option (List Str×List Zr):=
 Ya (Zt 16 [] a1.1) fun v2=>
 Ya (Zt 24 [] a1.2) fun v3=>
 some (v2,v3)
def Z4m.con (k:Nat):Con:=Sig.con { ps:=[.val true T26 (ros T26)],rs:=[.val true [.own 9 .str,.own 195 Zp]],ntmps:=12 } (fun x=>Z4m x)
theorem Z4m.ok (k:Nat):Zf Tryz.prog 99 (Z4m.con k):=fA (cXr true false cN) Tryz.func99
def Z4k (a1:Int):Option (List Str×List Zr×Str×Int):=
 some ([],[],[],a1)
def Z4k.con (k:Nat):Con:=Sig.con { ps:=[.val false (.int .i64) (ros (.int .i64))],rs:=[.val true [.own 9 .str,.own 195 Zp,.v .str,.v (.int .i64)]],ntmps:=5 } (fun x=>Z4k x)
theorem Z4k.ok (k:Nat):Zf Tryz.prog 102 (Z4k.con k):=fA (cX cN) Tryz.func102
def Zfb (a1:Int) (a2:Int) (a3:Int):Option (Bool):=
 some ((decide (a2≤a1))&&(decide (a1≤a3)))
def Zfb.con (k:Nat):Con:=Sig.con { ps:=[.val false (.int .i64) (ros (.int .i64)),.val false (.int .i64) (ros (.int .i64)),.val false (.int .i64) (ros (.int .i64))],rs:=[.val false [.v .bool]],ntmps:=15 } (fun x=>Zfb x.1 x.2.1 x.2.2)
theorem Zfb.ok (k:Nat):Zf Tryz.prog 98 (Zfb.con k):=fA (cX cN) Tryz.func98
def Z1.l0:Nat→List Str→List Zr→Int→Option (Unit ⊕ Bool)
 | 0,_,_,_=>none
 | j+1,a1,a2,a3=>
  bif decide (a3<((a1.length):Int)) then
   Ya (at? a1 a3) fun v4=>
   bif decide (96<((v4.length):Int)) then
    some (.inr false)
   else
   Z1.l0 j a1 a2 (Yb .i64 (a3+1))
  else
  some (.inl ())
def Z1.l1:Nat→List Str→List Zr→Int→Int→Option (Unit ⊕ Bool)
 | 0,_,_,_,_=>none
 | j+1,a1,a2,a3,a4=>
  bif decide (a4<a3) then
   Ya (at? a2 a4) fun v5=>
   Ya (at? a2 a3) fun v6=>
   bif v5.1==v6.1 then
    some (.inr false)
   else
   Z1.l1 j a1 a2 a3 (Yb .i64 (a4+1))
  else
  some (.inl ())
def Z1.l2 (k:Nat):Nat→List Str→List Zr→Int→Option (Unit ⊕ Bool)
 | 0,_,_,_=>none
 | j+1,a1,a2,a3=>
  bif decide (a3<((a2.length):Int)) then
   Ya (at? a2 a3) fun v4=>
   Ya (Zfb v4.1 0 (Yb .i64 (((a1.length):Int)-1))) fun v5=>
   bif !v5 then
    some (.inr false)
   else
   Ya (at? a2 a3) fun v6=>
   bif decide (96<((v6.2.length):Int)) then
    some (.inr false)
   else
   Ya (Z1.l1 k a1 a2 a3 0) fun
    | .inl y7=>
     Z1.l2 k j a1 a2 (Yb .i64 (a3+1))
    | .inr y8=>
     some (.inr y8)
  else
  some (.inl ())
def Z1 (k:Nat) (a1:G26):Option (Bool):=
 let e2:=((a1.1.length):Int)
 bif ((decide (e2<1))||(decide (40<e2)))||(decide (e2<((a1.2.length):Int))) then
  some false
 else
 Ya (Z1.l0 k a1.1 a1.2 0) fun
  | .inl y3=>
   Ya (Z1.l2 k k a1.1 a1.2 0) fun
    | .inl y4=>
     some true
    | .inr y5=>
     some y5
  | .inr y6=>
   some y6
def Z1.con (k:Nat):Con:=Sig.con { ps:=[.val true T26 (ros T26)],rs:=[.val false [.v .bool]],ntmps:=86 } (fun x=>Z1 k x)
def Z1.cok (k:Nat):=cXr true false (cC (Zfb.ok k) cN)
def Z1.l0.s (k:Nat):Summ:=lp 86 { tmps:=[(1,.eptr [.bor .str,.bor Zp]),(3,.one (.v (.int .i64)))],slots:=[],nb:=0 } [(.exit 0,{ tmps:=[],slots:=[],nb:=0 }),(.ret,{ tmps:=[(2,.one (.v .bool))],slots:=[],nb:=0 })] (fun j x=>Z1.l0 j x.1 x.2.1 x.2.2) k
def Z1.l0.ok (k:Nat):=(lA (Z1.cok k):Zj Tryz.prog _ (.loop (cO (cO (cR (cL (cR (cR (cB Tryz.f161)))))))) (Z1.l0.s k))
def Z1.l1.s (k:Nat):Summ:=lp 86 { tmps:=[(1,.eptr [.bor .str,.bor Zp]),(4,.one (.v (.int .i64))),(5,.one (.v (.int .i64)))],slots:=[],nb:=0 } [(.exit 4,{ tmps:=[],slots:=[],nb:=0 }),(.ret,{ tmps:=[(2,.one (.v .bool))],slots:=[],nb:=0 })] (fun j x=>Z1.l1 j x.1 x.2.1 x.2.2.1 x.2.2.2) k
def Z1.l1.ok (k:Nat):=(lA (Z1.cok k):Zj Tryz.prog _ (.loop (cO (cO (cR (cR (cO (cL (cR (cO (cO (cR (cL (cR (cR (cR (cB Tryz.f161)))))))))))))))) (Z1.l1.s k))
def Z1.l2.s (k:Nat):Summ:=lp 86 { tmps:=[(1,.eptr [.bor .str,.bor Zp]),(4,.one (.v (.int .i64)))],slots:=[],nb:=0 } [(.exit 2,{ tmps:=[],slots:=[],nb:=0 }),(.ret,{ tmps:=[(2,.one (.v .bool))],slots:=[],nb:=0 })] (fun j x=>Z1.l2 k j x.1 x.2.1 x.2.2) k
def Z1.l2.ok (k:Nat):=(lP (.two .auto (.two (.one (.two .auto (.two .auto (.one (.sum (Z1.l1.s k)))))) .auto)) (Z1.cok k) (sC (Z1.l1.ok k) sN):Zj Tryz.prog _ (.loop (cO (cO (cR (cL (cR (cR (cR (cB Tryz.f161))))))))) (Z1.l2.s k))
theorem Z1.ok (k:Nat):Zf Tryz.prog 161 (Z1.con k):=fP (.two .auto (.two .auto (.two (.two .auto (.one (.sum (Z1.l0.s k)))) (.two (.two .auto (.one (.sum (Z1.l2.s k)))) .auto)))) (Z1.cok k) Tryz.func161 (sC (Z1.l0.ok k) (sC (Z1.l2.ok k) sN))
def Zag.l0:Nat→List Str→List Zr→Int→List Str→List Zr→Option ((List Str×List Zr))
 | 0,_,_,_,_,_=>none
 | j+1,a1,a2,a3,a4,a5=>
  bif decide (a3<((a2.length):Int)) then
   Ya (at? a2 a3) fun v6=>
   Ya (at? a2 a3) fun v7=>
   let e8:=at? a4 v6.1
   Ya (e8) fun v9=>
   Ya (e8) fun v10=>
   Zag.l0 j a1 a2 (Yb .i64 (a3+1)) (Yp a4 (Yj v6.1) v7.2) a5
  else
  some (a4,a5)
def Zag (k:Nat) (a1:G26):Option (List Str×List Zr):=
 Ya (Zt 16 [] a1.1) fun v2=>
 Ya (Zag.l0 k a1.1 a1.2 0 v2 []) fun y3=>
 some (y3.1,y3.2)
def Zag.con (k:Nat):Con:=Sig.con { ps:=[.val true T26 (ros T26)],rs:=[.val true [.own 9 .str,.own 195 Zp]],ntmps:=33 } (fun x=>Zag k x)
def Zag.cok (k:Nat):=cXr true false cN
def Zag.l0.s (k:Nat):Summ:=lp 33 { tmps:=[(1,.eptr [.bor .str,.bor Zp]),(3,.one (.ptr 3 0)),(4,.one (.v (.int .i64)))],slots:=[(3,.box 26 [.own 4,.own 5]),(4,.arr false 9 .str),(5,.arr false 195 Zp)],nb:=6 } [(.exit 0,{ tmps:=[],slots:=[(3,.box 26 [.own 6,.own 7]),(6,.arr false 9 .str),(7,.arr false 195 Zp)],nb:=8 })] (fun j x=>Zag.l0 j x.1 x.2.1 x.2.2.1 x.2.2.2.1 x.2.2.2.2) k
def Zag.l0.ok (k:Nat):=(lA (Zag.cok k):Zj Tryz.prog _ (.loop (cO (cO (cR (cL (cR (cR (cB Tryz.f188)))))))) (Zag.l0.s k))
theorem Zag.ok (k:Nat):Zf Tryz.prog 188 (Zag.con k):=fP (.two .auto (.two .auto (.two (.two .auto (.one (.sum (Zag.l0.s k)))) .auto))) (Zag.cok k) Tryz.func188 (sC (Zag.l0.ok k) sN)
def Zhq (k:Nat) (a1:G26):Option (List Str×List Zr×Str×Int):=
 Ya (Z1 k a1) fun v2=>
 bif !v2 then
  Ya (Z4k 1) fun v3=>
  some (v3.1,v3.2.1,v3.2.2.1,v3.2.2.2)
 else
 Ya (Zag k a1) fun v4=>
 some (v4.1,v4.2,[],0)
def Zhq.con (k:Nat):Con:=Sig.con { ps:=[.val true T26 (ros T26)],rs:=[.val true [.own 9 .str,.own 195 Zp,.v .str,.v (.int .i64)]],ntmps:=10 } (fun x=>Zhq k x)
theorem Zhq.ok (k:Nat):Zf Tryz.prog 100 (Zhq.con k):=fA (cXr true false (cC (Z4k.ok k) (cC (Z1.ok k) (cC (Zag.ok k) cN)))) Tryz.func100
def Zxf.l0:Nat→Int→Str→Int→List Str→List Zr→List Str→List Zr→Option ((List Str×List Zr×List Str×List Zr) ⊕ (List Str×List Zr))
 | 0,_,_,_,_,_,_,_=>none
 | j+1,a1,a2,a3,a4,a5,a6,a7=>
  bif decide (a3<((a7.length):Int)) then
   Ya (at? a7 a3) fun v8=>
   Ya (at? a7 a3) fun v9=>
   bif v9.1==a1 then
    Ya (at? a7 a3) fun v10=>
    Ya (at? a7 a3) fun v11=>
    some (.inr (a6,Yp a7 (Yj a3) (v11.1,a2)))
   else
   Zxf.l0 j a1 a2 (Yb .i64 (a3+1)) a4 a5 a6 a7
  else
  some (.inl (a4,a5,a6,a7))
def Zxf (k:Nat) (a1:G26) (a2:Int) (a3:Str):Option (List Str×List Zr):=
 Ya (Z4m a1) fun v4=>
 Ya (Zxf.l0 k a2 a3 0 [] [] v4.1 v4.2) fun
  | .inl y5=>
   Ya (Zt 24 y5.2.2.2 [(a2,a3)]) fun v6=>
   some (y5.2.2.1,v6)
  | .inr y7=>
   some (y7.1,y7.2)
def Zxf.con (k:Nat):Con:=Sig.con { ps:=[.val true T26 (ros T26),.val false (.int .i64) (ros (.int .i64)),.val false .str (ros .str)],rs:=[.val true [.own 9 .str,.own 195 Zp]],ntmps:=42 } (fun x=>Zxf k x.1 x.2.1 x.2.2)
def Zxf.cok (k:Nat):=cXr true false (cC (Z4m.ok k) cN)
def Zxf.l0.s (k:Nat):Summ:=lp 42 { tmps:=[(1,.one (.v (.int .i64))),(2,.one (.v .str)),(6,.one (.ptr 0 0)),(7,.one (.ptr 3 0)),(8,.one (.v (.int .i64)))],slots:=[(0,.box 26 [.own 4,.own 5]),(3,.box 26 [.own 6,.own 7]),(4,.arr false 9 .str),(5,.arr false 195 Zp),(6,.arr false 9 .str),(7,.arr false 195 Zp)],nb:=8 } [(.exit 0,{ tmps:=[],slots:=[(0,.box 26 [.own 8,.own 9]),(3,.box 26 [.own 10,.own 11]),(8,.arr false 9 .str),(9,.arr false 195 Zp),(10,.arr false 9 .str),(11,.arr false 195 Zp)],nb:=12 }),(.ret,{ tmps:=[],slots:=[(0,.box 26 [.own 8,.own 9]),(3,.box 26 [.own 8,.own 9]),(8,.arr false 9 .str),(9,.arr false 195 Zp)],nb:=10 })] (fun j x=>Zxf.l0 j x.1 x.2.1 x.2.2.1 x.2.2.2.1 x.2.2.2.2.1 x.2.2.2.2.2.1 x.2.2.2.2.2.2) k
def Zxf.l0.ok (k:Nat):=(lA (Zxf.cok k):Zj Tryz.prog _ (.loop (cO (cO (cR (cL (cR (cR (cB Tryz.f189)))))))) (Zxf.l0.s k))
theorem Zxf.ok (k:Nat):Zf Tryz.prog 189 (Zxf.con k):=fP (.two .auto (.two .auto (.two (.two .auto (.one (.sum (Zxf.l0.s k)))) .auto))) (Zxf.cok k) Tryz.func189 (sC (Zxf.l0.ok k) sN)
def Ziq (k:Nat) (a1:G26) (a2:Int) (a3:Str):Option (List Str×List Zr×Str×Int):=
 bif decide (8000<((a3.length):Int)) then
  Ya (Z4k 2) fun v4=>
  some (v4.1,v4.2.1,v4.2.2.1,v4.2.2.2)
 else
 Ya (Z1 k a1) fun v5=>
 bif (!v5)||(decide (96<((a3.length):Int))) then
  Ya (Z4k 1) fun v6=>
  some (v6.1,v6.2.1,v6.2.2.1,v6.2.2.2)
 else
 Ya (Zfb a2 0 (Yb .i64 (((a1.1.length):Int)-1))) fun v7=>
 bif !v7 then
  Ya (Z4k 8) fun v8=>
  some (v8.1,v8.2.1,v8.2.2.1,v8.2.2.2)
 else
 Ya (Zxf k a1 a2 a3) fun v9=>
 some (v9.1,v9.2,[],0)
def Ziq.con (k:Nat):Con:=Sig.con { ps:=[.val true T26 (ros T26),.val false (.int .i64) (ros (.int .i64)),.val false .str (ros .str)],rs:=[.val true [.own 9 .str,.own 195 Zp,.v .str,.v (.int .i64)]],ntmps:=33 } (fun x=>Ziq k x.1 x.2.1 x.2.2)
theorem Ziq.ok (k:Nat):Zf Tryz.prog 101 (Ziq.con k):=fA (cXr true false (cC (Zfb.ok k) (cC (Z4k.ok k) (cC (Z1.ok k) (cC (Zxf.ok k) cN))))) Tryz.func101
def Zef.l0 (k:Nat):Nat→List Z5c→Int→Str→Int→List Str→List Zr→Option ((Str×Int×List Str×List Zr))
 | 0,_,_,_,_,_,_=>none
 | j+1,a1,a2,a3,a4,a5,a6=>
  bif (decide (a2<((a1.length):Int)))&&(a4==0) then
   Ya (at? a1 a2) fun v7=>
   let e8:=Yb .i64 (a2+1)
   bif v7.1 then
    Ya (Zhq k (a5,a6)) fun v9=>
    Zef.l0 k j a1 e8 v9.2.2.1 v9.2.2.2 v9.1 v9.2.1
   else
   Ya (at? a1 a2) fun v10=>
   Ya (at? a1 a2) fun v11=>
   Ya (Ziq k (a5,a6) v10.2.1 v11.2.2) fun v12=>
   Zef.l0 k j a1 e8 v12.2.2.1 v12.2.2.2 v12.1 v12.2.1
  else
  some (a3,a4,a5,a6)
def Zef (k:Nat) (a1:G26) (a2:List Z5c):Option (List Str×List Zr×Str×Int):=
 Ya (Z4m a1) fun v3=>
 Ya (Zef.l0 k k a2 0 [] 0 v3.1 v3.2) fun y4=>
 bif y4.2.1 != 0 then
  Ya (Z4k y4.2.1) fun v5=>
  some (v5.1,v5.2.1,v5.2.2.1,v5.2.2.2)
 else
 some (y4.2.2.1,y4.2.2.2,y4.1,y4.2.1)
def Zef.con (k:Nat):Con:=Sig.con { ps:=[.val true T26 (ros T26),.val false (.sl Zjc) (ros (.sl Zjc))],rs:=[.val true [.own 9 .str,.own 195 Zp,.v .str,.v (.int .i64)]],ntmps:=49 } (fun x=>Zef k x.1 x.2)
def Zef.cok (k:Nat):=cXr true false (cC (Z4m.ok k) (cC (Zhq.ok k) (cC (Ziq.ok k) (cC (Z4k.ok k) cN))))
def Zef.l0.s (k:Nat):Summ:=lp 49 { tmps:=[(1,.one (.bor Zjc)),(5,.one (.ptr 3 0)),(6,.one (.v (.int .i64)))],slots:=[(3,.box 109 [.own 4,.own 5,.v .str,.v (.int .i64)]),(4,.arr false 9 .str),(5,.arr false 195 Zp)],nb:=6 } [(.exit 0,{ tmps:=[],slots:=[(3,.box 109 [.own 6,.own 7,.v .str,.v (.int .i64)]),(6,.arr false 9 .str),(7,.arr false 195 Zp)],nb:=8 })] (fun j x=>Zef.l0 k j x.1 x.2.1 x.2.2.1 x.2.2.2.1 x.2.2.2.2.1 x.2.2.2.2.2) k
def Zef.l0.ok (k:Nat):=(lA (Zef.cok k):Zj Tryz.prog _ (.loop (cO (cO (cR (cL (cR (cR (cB Tryz.f53)))))))) (Zef.l0.s k))
theorem Zef.ok (k:Nat):Zf Tryz.prog 53 (Zef.con k):=fP (.two .auto (.two .auto (.two (.two .auto (.one (.sum (Zef.l0.s k)))) .auto))) (Zef.cok k) Tryz.func53 (sC (Zef.l0.ok k) sN)
def Zrc.l0:Nat→List Str→Int→Option (Unit ⊕ Bool)
 | 0,_,_=>none
 | j+1,a1,a2=>
  bif decide (a2<((a1.length):Int)) then
   Ya (at? a1 a2) fun v3=>
   bif ((v3.length):Int) != 8 then
    some (.inr false)
   else
   Zrc.l0 j a1 (Yb .i64 (a2+1))
  else
  some (.inl ())
def Zrc (k:Nat) (a1:List Str):Option (Bool):=
 bif (decide (((a1.length):Int)<1))||(decide (8<((a1.length):Int))) then
  some false
 else
 Ya (Zrc.l0 k a1 0) fun
  | .inl y2=>
   some true
  | .inr y3=>
   some y3
def Zrc.con (k:Nat):Con:=Sig.con { ps:=[.val false (.sl .str) (ros (.sl .str))],rs:=[.val false [.v .bool]],ntmps:=24 } (fun x=>Zrc k x)
def Zrc.cok (k:Nat):=cX cN
def Zrc.l0.s (k:Nat):Summ:=lp 24 { tmps:=[(0,.one (.bor .str)),(3,.one (.v (.int .i64)))],slots:=[],nb:=0 } [(.exit 0,{ tmps:=[],slots:=[],nb:=0 }),(.ret,{ tmps:=[(2,.one (.v .bool))],slots:=[],nb:=0 })] (fun j x=>Zrc.l0 j x.1 x.2) k
def Zrc.l0.ok (k:Nat):=(lA (Zrc.cok k):Zj Tryz.prog _ (.loop (cO (cO (cR (cL (cR (cR (cB Tryz.f47)))))))) (Zrc.l0.s k))
theorem Zrc.ok (k:Nat):Zf Tryz.prog 47 (Zrc.con k):=fP (.two .auto (.two .auto (.two (.two .auto (.one (.sum (Zrc.l0.s k)))) .auto))) (Zrc.cok k) Tryz.func47 (sC (Zrc.l0.ok k) sN)
def Zlq (a1:Int):Option (Int):=
 bif decide (a1<0) then
  some (Yb .u64 ((Yb .u64 (2*(Yb .u64 (Yb .i64 (0-(Yb .i64 (a1+1)))))))+1))
 else
 some (Yb .u64 (2*(Yb .u64 a1)))
def Zlq.con (k:Nat):Con:=Sig.con { ps:=[.val false (.int .i64) (ros (.int .i64))],rs:=[.val false [.v (.int .u64)]],ntmps:=14 } (fun x=>Zlq x)
theorem Zlq.ok (k:Nat):Zf Tryz.prog 193 (Zlq.con k):=fA (cX cN) Tryz.func193
def Z6b.l0:Nat→Int→List Int→Option ((Int×List Int))
 | 0,_,_=>none
 | j+1,a1,a2=>
  bif decide (128≤a1) then
   Ya (nz? 128) fun v3=>
   Ya (Zt 1 a2 [(Yb .u8 (Yb .u64 ((Yf a1 128)+128)))]) fun v4=>
   Ya (nz? 128) fun v5=>
   Z6b.l0 j (Yb .u64 (Int.tdiv a1 128)) v4
  else
  some (a1,a2)
def Z6b (k:Nat) (a1:Int):Option (Str):=
 Ya (Zlq a1) fun v2=>
 Ya (Z6b.l0 k v2 []) fun y3=>
 Ya (Zt 1 y3.2 [(Yb .u8 y3.1)]) fun v4=>
 some (Znb v4)
def Z6b.con (k:Nat):Con:=Sig.con { ps:=[.val false (.int .i64) (ros (.int .i64))],rs:=[.val false [.v .str]],ntmps:=25 } (fun x=>Z6b k x)
def Z6b.cok (k:Nat):=cX (cC (Zlq.ok k) cN)
def Z6b.l0.s (k:Nat):Summ:=lp 25 { tmps:=[(3,.one (.v (.int .u64))),(4,.one (.own 1))],slots:=[(1,.arr false 5 (.int .u8))],nb:=2 } [(.exit 0,{ tmps:=[(3,.one (.v (.int .u64))),(4,.one (.own 2))],slots:=[(2,.arr false 5 (.int .u8))],nb:=3 })] (fun j x=>Z6b.l0 j x.1 x.2) k
def Z6b.l0.ok (k:Nat):=(lA (Z6b.cok k):Zj Tryz.prog _ (.loop (cO (cO (cL (cR (cR (cR (cB Tryz.f105)))))))) (Z6b.l0.s k))
theorem Z6b.ok (k:Nat):Zf Tryz.prog 105 (Z6b.con k):=fP (.two .auto (.two .auto (.two .auto (.two (.one (.sum (Z6b.l0.s k))) .auto)))) (Z6b.cok k) Tryz.func105 (sC (Z6b.l0.ok k) sN)
def Zxi (k:Nat) (a1:Str):Option (Str):=
 bif decide (8000<((a1.length):Int)) then
  some ([])
 else
 Ya (Z6b k ((a1.length):Int)) fun v2=>
 Ya (Zpc v2 a1) fun v3=>
 some v3
def Zxi.con (k:Nat):Con:=Sig.con { ps:=[.val false .str (ros .str)],rs:=[.val false [.v .str]],ntmps:=11 } (fun x=>Zxi k x)
theorem Zxi.ok (k:Nat):Zf Tryz.prog 107 (Zxi.con k):=fA (cX (cC (Z6b.ok k) cN)) Tryz.func107
def Z3m (a1:Int):Option (Str):=
 Ya (Zvb 8) fun v2=>
 Ya (Zvb 16) fun v3=>
 Ya (Zvb 24) fun v4=>
 some (Znb [(Yb .u8 a1),(Yb .u8 (shr .i64 a1 8)),(Yb .u8 (shr .i64 a1 16)),(Yb .u8 (shr .i64 a1 24))])
def Z3m.con (k:Nat):Con:=Sig.con { ps:=[.val false (.int .i64) (ros (.int .i64))],rs:=[.val false [.v .str]],ntmps:=16 } (fun x=>Z3m x)
theorem Z3m.ok (k:Nat):Zf Tryz.prog 259 (Z3m.con k):=fA (cX cN) Tryz.func259
def Z7b.l0:Nat→Int→Int→Option (Int)
 | 0,_,_=>none
 | j+1,a1,a2=>
  bif decide (a2<8) then
   let e3:=Yb .i64 (a2+1)
   bif (intBits .and .u32 a1 1)==1 then
    Ya (Zvb 1) fun v4=>
    Z7b.l0 j (intBits .xor .u32 (shr .u32 a1 1) 3988292384) e3
   else
   Ya (Zvb 1) fun v5=>
   Z7b.l0 j (shr .u32 a1 1) e3
  else
  some a1
def Z7b.l1 (k:Nat):Nat→Str→Int→Int→Option (Int)
 | 0,_,_,_=>none
 | j+1,a1,a2,a3=>
  bif decide (a3<((a1.length):Int)) then
   Ya (at? a1 a3) fun v4=>
   Ya (Z7b.l0 k (intBits .xor .u32 a2 (Yb .u32 (v4.toNat:Int))) 0) fun y5=>
   Z7b.l1 k j a1 y5 (Yb .i64 (a3+1))
  else
  some a2
def Z7b (k:Nat) (a1:Int) (a2:Str):Option (Int):=
 Ya (Z7b.l1 k k a2 (intBits .xor .u32 (Yb .u32 a1) 4294967295) 0) fun y3=>
 some (Yb .i64 (intBits .xor .u32 y3 4294967295))
def Z7b.con (k:Nat):Con:=Sig.con { ps:=[.val false (.int .i64) (ros (.int .i64)),.val false .str (ros .str)],rs:=[.val false [.v (.int .i64)]],ntmps:=38 } (fun x=>Z7b k x.1 x.2)
def Z7b.cok (k:Nat):=cX cN
def Z7b.l0.s (k:Nat):Summ:=lp 38 { tmps:=[(5,.one (.v (.int .u32))),(7,.one (.v (.int .i64)))],slots:=[],nb:=0 } [(.exit 2,{ tmps:=[(5,.one (.v (.int .u32)))],slots:=[],nb:=0 })] (fun j x=>Z7b.l0 j x.1 x.2) k
def Z7b.l0.ok (k:Nat):=(lA (Z7b.cok k):Zj Tryz.prog _ (.loop (cO (cO (cR (cR (cO (cL (cR (cO (cO (cR (cL (cR (cR (cB Tryz.f260))))))))))))))) (Z7b.l0.s k))
def Z7b.l1.s (k:Nat):Summ:=lp 38 { tmps:=[(1,.one (.v .str)),(5,.one (.v (.int .u32))),(6,.one (.v (.int .i64)))],slots:=[],nb:=0 } [(.exit 0,{ tmps:=[(5,.one (.v (.int .u32)))],slots:=[],nb:=0 })] (fun j x=>Z7b.l1 k j x.1 x.2.1 x.2.2) k
def Z7b.l1.ok (k:Nat):=(lP (.two .auto (.two (.one (.two .auto (.two .auto (.one (.sum (Z7b.l0.s k)))))) .auto)) (Z7b.cok k) (sC (Z7b.l0.ok k) sN):Zj Tryz.prog _ (.loop (cO (cO (cR (cL (cR (cR (cB Tryz.f260)))))))) (Z7b.l1.s k))
theorem Z7b.ok (k:Nat):Zf Tryz.prog 260 (Z7b.con k):=fP (.two .auto (.two .auto (.two (.two .auto (.one (.sum (Z7b.l1.s k)))) .auto))) (Z7b.cok k) Tryz.func260 (sC (Z7b.l1.ok k) sN)
def Z2k (k:Nat) (a1:Str):Option (Str):=
 bif decide (7996<((a1.length):Int)) then
  some ([])
 else
 Ya (Z7b k 0 a1) fun v2=>
 Ya (Z3m v2) fun v3=>
 Ya (Zpc a1 v3) fun v4=>
 some v4
def Z2k.con (k:Nat):Con:=Sig.con { ps:=[.val false .str (ros .str)],rs:=[.val false [.v .str]],ntmps:=11 } (fun x=>Z2k k x)
theorem Z2k.ok (k:Nat):Zf Tryz.prog 192 (Z2k.con k):=fA (cX (cC (Z3m.ok k) (cC (Z7b.ok k) cN))) Tryz.func192
def Zek (k:Nat) (a1:Int) (a2:Str):Option (Str):=
 Ya (Zfb a1 1 1000000) fun v3=>
 bif (!v3)||(decide (80<((a2.length):Int))) then
  some ([])
 else
 Ya (Z6b k a1) fun v4=>
 Ya (Zxi k a2) fun v5=>
 Ya (Zpc v4 v5) fun v6=>
 Ya (Z2k k v6) fun v7=>
 some v7
def Zek.con (k:Nat):Con:=Sig.con { ps:=[.val false (.int .i64) (ros (.int .i64)),.val false .str (ros .str)],rs:=[.val false [.v .str]],ntmps:=19 } (fun x=>Zek k x.1 x.2)
theorem Zek.ok (k:Nat):Zf Tryz.prog 104 (Zek.con k):=fA (cX (cC (Zfb.ok k) (cC (Z6b.ok k) (cC (Zxi.ok k) (cC (Z2k.ok k) cN))))) Tryz.func104
def Z3k (k:Nat) (a1:Str):Option (Str×Int×Int):=
 bif decide (8000<((a1.length):Int)) then
  some ([],0,2)
 else
 bif decide (((a1.length):Int)<4) then
  some ([],0,4)
 else
 let e2:=Yb .i64 (((a1.length):Int)-4)
 Ya (Z9b a1 0 e2) fun v3=>
 Ya (Z7b k 0 v3) fun v4=>
 Ya (Z3m v4) fun v5=>
 Ya (Z9b a1 e2 ((a1.length):Int)) fun v6=>
 bif !(v5==v6) then
  some ([],0,5)
 else
 some (v3,0,0)
def Z3k.con (k:Nat):Con:=Sig.con { ps:=[.val false .str (ros .str)],rs:=[.val true [.v .str,.v (.int .i64),.v (.int .i64)]],ntmps:=29 } (fun x=>Z3k k x)
theorem Z3k.ok (k:Nat):Zf Tryz.prog 256 (Z3k.con k):=fA (cX (cC (Z3m.ok k) (cC (Z7b.ok k) cN))) Tryz.func256
def Zjd.l0:Nat→Str→Int→Int→Int→Int→Int→Int→Option ((Int×Int×Int) ⊕ (Int×Int×Int))
 | 0,_,_,_,_,_,_,_=>none
 | j+1,a1,a2,a3,a4,a5,a6,a7=>
  bif decide (a4<10) then
   bif decide ((Yb .i64 (((a1.length):Int)-a4))≤a2) then
    some (.inr (0,0,4))
   else
   let e8:=Yb .i64 (a2+a4)
   Ya (at? a1 e8) fun v9=>
   bif (a4==9)&&(decide (1<(Yb .u64 (v9.toNat:Int)))) then
    some (.inr (0,0,3))
   else
   Ya (nz? 128) fun v10=>
   let e11:=Yb .u64 (Yb .i64 (7*a4))
   Ya (Zvb e11) fun v12=>
   let e13:=Yb .u64 (a3+(shl .u64 (Yf (Yb .u64 (v9.toNat:Int)) 128) e11))
   bif decide ((Yb .u64 (v9.toNat:Int))<128) then
    bif ((Yb .u64 (v9.toNat:Int))==0)&&(decide (0<a4)) then
     some (.inr (0,0,3))
    else
    Ya (nz? 2) fun v14=>
    Ya (nz? 2) fun v15=>
    let e16:=Yb .i64 (e8+1)
    let e17:=Yb .i64 (Yb .u64 (Int.tdiv e13 2))
    bif (Yf e13 2)==1 then
     some (.inr (Yb .i64 ((Yb .i64 (0-e17))-1),e16,0))
    else
    some (.inr (e17,e16,0))
   else
   Zjd.l0 j a1 a2 e13 (Yb .i64 (a4+1)) a5 a6 a7
  else
  some (.inl (a5,a6,a7))
def Zjd (k:Nat) (a1:Str) (a2:Int):Option (Int×Int×Int):=
 bif decide (8000<((a1.length):Int)) then
  some (0,0,2)
 else
 bif decide (a2<0) then
  some (0,0,1)
 else
 Ya (Zjd.l0 k a1 a2 0 0 0 0 0) fun
  | .inl y3=>
   some (0,0,3)
  | .inr y4=>
   some (y4.1,y4.2.1,y4.2.2)
def Zjd.con (k:Nat):Con:=Sig.con { ps:=[.val false .str (ros .str),.val false (.int .i64) (ros (.int .i64))],rs:=[.val true [.v (.int .i64),.v (.int .i64),.v (.int .i64)]],ntmps:=73 } (fun x=>Zjd k x.1 x.2)
def Zjd.cok (k:Nat):=cX cN
def Zjd.l0.s (k:Nat):Summ:=lp 73 { tmps:=[(0,.one (.v .str)),(1,.one (.v (.int .i64))),(4,.one (.ptr 0 0)),(5,.one (.v (.int .u64))),(6,.one (.v (.int .i64)))],slots:=[(0,.box 272 [.v (.int .i64),.v (.int .i64),.v (.int .i64)])],nb:=1 } [(.exit 0,{ tmps:=[],slots:=[(0,.box 272 [.v (.int .i64),.v (.int .i64),.v (.int .i64)])],nb:=1 }),(.ret,{ tmps:=[],slots:=[(0,.box 272 [.v (.int .i64),.v (.int .i64),.v (.int .i64)])],nb:=1 })] (fun j x=>Zjd.l0 j x.1 x.2.1 x.2.2.1 x.2.2.2.1 x.2.2.2.2.1 x.2.2.2.2.2.1 x.2.2.2.2.2.2) k
def Zjd.l0.ok (k:Nat):=(lA (Zjd.cok k):Zj Tryz.prog _ (.loop (cO (cO (cR (cL (cR (cR (cR (cR (cB Tryz.f257)))))))))) (Zjd.l0.s k))
theorem Zjd.ok (k:Nat):Zf Tryz.prog 257 (Zjd.con k):=fP (.two .auto (.two .auto (.two .auto (.two .auto (.two (.two .auto (.one (.sum (Zjd.l0.s k)))) .auto))))) (Zjd.cok k) Tryz.func257 (sC (Zjd.l0.ok k) sN)
def Ztl (k:Nat) (a1:Str) (a2:Int):Option (Str×Int×Int):=
 Ya (Zjd k a1 a2) fun v3=>
 bif v3.2.2 != 0 then
  some ([],0,v3.2.2)
 else
 bif (decide (v3.1<0))||(decide (8000<v3.1)) then
  some ([],0,3)
 else
 bif decide ((Yb .i64 (((a1.length):Int)-v3.1))<v3.2.1) then
  some ([],0,4)
 else
 let e4:=Yb .i64 (v3.2.1+v3.1)
 Ya (Z9b a1 v3.2.1 e4) fun v5=>
 some (v5,e4,0)
def Ztl.con (k:Nat):Con:=Sig.con { ps:=[.val false .str (ros .str),.val false (.int .i64) (ros (.int .i64))],rs:=[.val true [.v .str,.v (.int .i64),.v (.int .i64)]],ntmps:=48 } (fun x=>Ztl k x.1 x.2)
theorem Ztl.ok (k:Nat):Zf Tryz.prog 258 (Ztl.con k):=fA (cX (cC (Zjd.ok k) cN)) Tryz.func258
def Zzk (k:Nat) (a1:Str):Option (Int×Str×Int):=
 Ya (Z3k k a1) fun v2=>
 bif v2.2.2 != 0 then
  some (0,[],v2.2.2)
 else
 Ya (Zjd k v2.1 0) fun v3=>
 Ya (Ztl k v2.1 v3.2.1) fun v4=>
 bif (v3.2.2 != 0)||(v4.2.2 != 0) then
  some (0,[],3)
 else
 Ya (Zek k v3.1 v4.1) fun v5=>
 bif !(v5==a1) then
  some (0,[],3)
 else
 some (v3.1,v4.1,0)
def Zzk.con (k:Nat):Con:=Sig.con { ps:=[.val false .str (ros .str)],rs:=[.val true [.v (.int .i64),.v .str,.v (.int .i64)]],ntmps:=45 } (fun x=>Zzk k x)
theorem Zzk.ok (k:Nat):Zf Tryz.prog 190 (Zzk.con k):=fA (cX (cC (Zek.ok k) (cC (Z3k.ok k) (cC (Zjd.ok k) (cC (Ztl.ok k) cN))))) Tryz.func190
def Zsb.l0:Nat→Int→List Str→List Zr→Int→Option (Unit ⊕ Str)
 | 0,_,_,_,_=>none
 | j+1,a1,a2,a3,a4=>
  bif decide (a4<((a3.length):Int)) then
   Ya (at? a3 a4) fun v5=>
   bif v5.1==a1 then
    Ya (at? a3 a4) fun v6=>
    some (.inr (v6.2))
   else
   Zsb.l0 j a1 a2 a3 (Yb .i64 (a4+1))
  else
  some (.inl ())
def Zsb (k:Nat) (a1:G26) (a2:Int):Option (Str):=
 Ya (Zsb.l0 k a2 a1.1 a1.2 0) fun
  | .inl y3=>
   Ya (at? a1.1 a2) fun v4=>
   some v4
  | .inr y5=>
   some y5
def Zsb.con (k:Nat):Con:=Sig.con { ps:=[.val true T26 (ros T26),.val false (.int .i64) (ros (.int .i64))],rs:=[.val false [.v .str]],ntmps:=32 } (fun x=>Zsb k x.1 x.2)
def Zsb.cok (k:Nat):=cXr true false cN
def Zsb.l0.s (k:Nat):Summ:=lp 32 { tmps:=[(1,.one (.v (.int .i64))),(2,.eptr [.bor .str,.bor Zp]),(5,.one (.v (.int .i64)))],slots:=[],nb:=0 } [(.exit 0,{ tmps:=[],slots:=[],nb:=0 }),(.ret,{ tmps:=[(4,.one (.v .str))],slots:=[],nb:=0 })] (fun j x=>Zsb.l0 j x.1 x.2.1 x.2.2.1 x.2.2.2) k
def Zsb.l0.ok (k:Nat):=(lA (Zsb.cok k):Zj Tryz.prog _ (.loop (cO (cO (cR (cL (cR (cB Tryz.f191))))))) (Zsb.l0.s k))
theorem Zsb.ok (k:Nat):Zf Tryz.prog 191 (Zsb.con k):=fP (.two .auto (.two (.two .auto (.one (.sum (Zsb.l0.s k)))) .auto)) (Zsb.cok k) Tryz.func191 (sC (Zsb.l0.ok k) sN)
def Z5k (k:Nat) (a1:G26):Option (Int×Str×Int×Int):=
 Ya (Zsb k a1 0) fun v2=>
 Ya (Zzk k v2) fun v3=>
 Ya (Zsb k a1 1) fun v4=>
 Ya (Zzk k v4) fun v5=>
 bif (v3.2.2==0)&&((v5.2.2 != 0)||(decide (v5.1≤v3.1))) then
  some (v3.1,v3.2.1,v3.2.2,0)
 else
 bif v5.2.2==0 then
  some (v5.1,v5.2.1,v5.2.2,1)
 else
 some (0,[],6,(-1))
def Z5k.con (k:Nat):Con:=Sig.con { ps:=[.val true T26 (ros T26)],rs:=[.val true [.v (.int .i64),.v .str,.v (.int .i64)],.val false [.v (.int .i64)]],ntmps:=35 } (fun x=>Z5k k x)
theorem Z5k.ok (k:Nat):Zf Tryz.prog 103 (Z5k.con k):=fA (cXr true false (cC (Zzk.ok k) (cC (Zsb.ok k) cN))) Tryz.func103
def Zdd.l0:Nat→Int→Int→List Int→Option ((List Int))
 | 0,_,_,_=>none
 | j+1,a1,a2,a3=>
  bif decide (a2<24) then
   Ya (Zvb a2) fun v4=>
   let e5:=Yb .i64 (a2+1)
   bif (intBits .and .i64 (shr .i64 a1 a2) 1)==1 then
    Ya (Zt 8 a3 [a2]) fun v6=>
    Zdd.l0 j a1 e5 v6
   else
   Zdd.l0 j a1 e5 a3
  else
  some a3
def Zdd (k:Nat) (a1:Int):Option (List Int):=
 bif (decide (a1<0))||(decide (16777216≤a1)) then
  some ([])
 else
 Ya (Zdd.l0 k a1 0 []) fun y2=>
 some y2
def Zdd.con (k:Nat):Con:=Sig.con { ps:=[.val false (.int .i64) (ros (.int .i64))],rs:=[.val false [.own 2 (.int .i64)]],ntmps:=27 } (fun x=>Zdd k x)
def Zdd.cok (k:Nat):=cX cN
def Zdd.l0.s (k:Nat):Summ:=lp 27 { tmps:=[(0,.one (.v (.int .i64))),(3,.one (.own 1)),(4,.one (.v (.int .i64)))],slots:=[(1,.arr false 2 (.int .i64))],nb:=2 } [(.exit 0,{ tmps:=[(3,.one (.own 2))],slots:=[(2,.arr false 2 (.int .i64))],nb:=3 })] (fun j x=>Zdd.l0 j x.1 x.2.1 x.2.2) k
def Zdd.l0.ok (k:Nat):=(lA (Zdd.cok k):Zj Tryz.prog _ (.loop (cO (cO (cR (cL (cR (cR (cR (cB Tryz.f238))))))))) (Zdd.l0.s k))
theorem Zdd.ok (k:Nat):Zf Tryz.prog 238 (Zdd.con k):=fP (.two .auto (.two .auto (.two .auto (.two (.two .auto (.one (.sum (Zdd.l0.s k)))) .auto)))) (Zdd.cok k) Tryz.func238 (sC (Zdd.l0.ok k) sN)
def Zcc (k:Nat) (a1:Ziu):Option (Int×Str×Int×Bool):=
 Ya (Zjd k a1.1 a1.2.1) fun v2=>
 bif a1.2.2||(v2.2.2 != 0) then
  some (0,a1.1,a1.2.1,true)
 else
 some (v2.1,a1.1,v2.2.1,a1.2.2)
def Zcc.con (k:Nat):Con:=Sig.con { ps:=[.ref 289 Zkk (Z7g Zkk)],rs:=[.val false [.v (.int .i64)]],ntmps:=32 } (fun x=>Zcc k x)
theorem Zcc.ok (k:Nat):Zf Tryz.prog 272 (Zcc.con k):=fA (cX (cC (Zjd.ok k) cN)) Tryz.func272
def Zth (k:Nat) (a1:Ziu):Option (Str×Str×Int×Bool):=
 Ya (Ztl k a1.1 a1.2.1) fun v2=>
 bif a1.2.2||(v2.2.2 != 0) then
  some ([],a1.1,a1.2.1,true)
 else
 some (v2.1,a1.1,v2.2.1,a1.2.2)
def Zth.con (k:Nat):Con:=Sig.con { ps:=[.ref 289 Zkk (Z7g Zkk)],rs:=[.val false [.v .str]],ntmps:=32 } (fun x=>Zth k x)
theorem Zth.ok (k:Nat):Zf Tryz.prog 273 (Zth.con k):=fA (cX (cC (Ztl.ok k) cN)) Tryz.func273
def Z4d.l0:Nat→List Int→Int→Option (Unit ⊕ Bool)
 | 0,_,_=>none
 | j+1,a1,a2=>
  bif decide (a2<((a1.length):Int)) then
   Ya (at? a1 a2) fun v3=>
   Ya (Zfb v3 0 23) fun v4=>
   bif !v4 then
    some (.inr false)
   else
   let e5:=Yb .i64 (a2+1)
   bif decide (0<a2) then
    Ya (at? a1 (Yb .i64 (a2-1))) fun v6=>
    Ya (at? a1 a2) fun v7=>
    bif decide (v7≤v6) then
     some (.inr false)
    else
    Z4d.l0 j a1 e5
   else
   Z4d.l0 j a1 e5
  else
  some (.inl ())
def Z4d (k:Nat) (a1:List Int):Option (Bool):=
 bif decide (24<((a1.length):Int)) then
  some false
 else
 Ya (Z4d.l0 k a1 0) fun
  | .inl y2=>
   some true
  | .inr y3=>
   some y3
def Z4d.con (k:Nat):Con:=Sig.con { ps:=[.val false (.sl (.int .i64)) (ros (.sl (.int .i64)))],rs:=[.val false [.v .bool]],ntmps:=35 } (fun x=>Z4d k x)
def Z4d.cok (k:Nat):=cX (cC (Zfb.ok k) cN)
def Z4d.l0.s (k:Nat):Summ:=lp 35 { tmps:=[(0,.one (.bor (.int .i64))),(3,.one (.v (.int .i64)))],slots:=[],nb:=0 } [(.exit 0,{ tmps:=[],slots:=[],nb:=0 }),(.ret,{ tmps:=[(2,.one (.v .bool))],slots:=[],nb:=0 })] (fun j x=>Z4d.l0 j x.1 x.2) k
def Z4d.l0.ok (k:Nat):=(lA (Z4d.cok k):Zj Tryz.prog _ (.loop (cO (cO (cR (cL (cR (cR (cB Tryz.f194)))))))) (Z4d.l0.s k))
theorem Z4d.ok (k:Nat):Zf Tryz.prog 194 (Z4d.con k):=fP (.two .auto (.two .auto (.two (.two .auto (.one (.sum (Z4d.l0.s k)))) .auto))) (Z4d.cok k) Tryz.func194 (sC (Z4d.l0.ok k) sN)
def Zsd.l0:Nat→List Int→Int→Int→Option (Int)
 | 0,_,_,_=>none
 | j+1,a1,a2,a3=>
  bif decide (a3<((a1.length):Int)) then
   Ya (at? a1 a3) fun v4=>
   Ya (Zvb v4) fun v5=>
   Zsd.l0 j a1 (Yb .i64 (a2+(shl .i64 1 v4))) (Yb .i64 (a3+1))
  else
  some a2
def Zsd (k:Nat) (a1:List Int):Option (Int):=
 Ya (Z4d k a1) fun v2=>
 bif !v2 then
  some (-1)
 else
 Ya (Zsd.l0 k a1 0 0) fun y3=>
 some y3
def Zsd.con (k:Nat):Con:=Sig.con { ps:=[.val false (.sl (.int .i64)) (ros (.sl (.int .i64)))],rs:=[.val false [.v (.int .i64)]],ntmps:=22 } (fun x=>Zsd k x)
def Zsd.cok (k:Nat):=cX (cC (Z4d.ok k) cN)
def Zsd.l0.s (k:Nat):Summ:=lp 22 { tmps:=[(0,.one (.bor (.int .i64))),(3,.one (.v (.int .i64))),(4,.one (.v (.int .i64)))],slots:=[],nb:=0 } [(.exit 0,{ tmps:=[(3,.one (.v (.int .i64)))],slots:=[],nb:=0 })] (fun j x=>Zsd.l0 j x.1 x.2.1 x.2.2) k
def Zsd.l0.ok (k:Nat):=(lA (Zsd.cok k):Zj Tryz.prog _ (.loop (cO (cO (cR (cL (cR (cR (cR (cB Tryz.f106))))))))) (Zsd.l0.s k))
theorem Zsd.ok (k:Nat):Zf Tryz.prog 106 (Zsd.con k):=fP (.two .auto (.two .auto (.two .auto (.two (.two .auto (.one (.sum (Zsd.l0.s k)))) .auto)))) (Zsd.cok k) Tryz.func106 (sC (Zsd.l0.ok k) sN)
def Zxl (k:Nat) (a1:G46):Option (Str):=
 Ya (Z6b k a1.1) fun v2=>
 Ya (Z6b k a1.2.1) fun v3=>
 Ya (Zpc v2 v3) fun v4=>
 Ya (Z6b k a1.2.2.1) fun v5=>
 Ya (Zpc v4 v5) fun v6=>
 Ya (Z6b k a1.2.2.2.1) fun v7=>
 Ya (Zpc v6 v7) fun v8=>
 Ya (Z6b k a1.2.2.2.2.1) fun v9=>
 Ya (Zpc v8 v9) fun v10=>
 Ya (Zsd k a1.2.2.2.2.2.2.1) fun v11=>
 Ya (Z6b k v11) fun v12=>
 Ya (Zpc v10 v12) fun v13=>
 Ya (Zsd k a1.2.2.2.2.2.2.2) fun v14=>
 Ya (Z6b k v14) fun v15=>
 Ya (Zpc v13 v15) fun v16=>
 Ya (Zxi k a1.2.2.2.2.2.1) fun v17=>
 Ya (Zpc v16 v17) fun v18=>
 some v18
def Zxl.con (k:Nat):Con:=Sig.con { ps:=[.val true T46 (ros T46)],rs:=[.val false [.v .str]],ntmps:=36 } (fun x=>Zxl k x)
theorem Zxl.ok (k:Nat):Zf Tryz.prog 55 (Zxl.con k):=fA (cXr true false (cC (Z6b.ok k) (cC (Zsd.ok k) (cC (Zxi.ok k) cN)))) Tryz.func55
def Z9c.l0:Nat→List Int→Int→Int→Option (Unit ⊕ Bool)
 | 0,_,_,_=>none
 | j+1,a1,a2,a3=>
  bif decide (a3<((a1.length):Int)) then
   Ya (at? a1 a3) fun v4=>
   bif v4==a2 then
    some (.inr true)
   else
   Z9c.l0 j a1 a2 (Yb .i64 (a3+1))
  else
  some (.inl ())
def Z9c (k:Nat) (a1:List Int) (a2:Int):Option (Bool):=
 Ya (Z9c.l0 k a1 a2 0) fun
  | .inl y3=>
   some false
  | .inr y4=>
   some y4
def Z9c.con (k:Nat):Con:=Sig.con { ps:=[.val false (.sl (.int .i64)) (ros (.sl (.int .i64))),.val false (.int .i64) (ros (.int .i64))],rs:=[.val false [.v .bool]],ntmps:=18 } (fun x=>Z9c k x.1 x.2)
def Z9c.cok (k:Nat):=cX cN
def Z9c.l0.s (k:Nat):Summ:=lp 18 { tmps:=[(0,.one (.bor (.int .i64))),(1,.one (.v (.int .i64))),(5,.one (.v (.int .i64)))],slots:=[],nb:=0 } [(.exit 0,{ tmps:=[],slots:=[],nb:=0 }),(.ret,{ tmps:=[(4,.one (.v .bool))],slots:=[],nb:=0 })] (fun j x=>Z9c.l0 j x.1 x.2.1 x.2.2) k
def Z9c.l0.ok (k:Nat):=(lA (Z9c.cok k):Zj Tryz.prog _ (.loop (cO (cO (cR (cL (cR (cB Tryz.f306))))))) (Z9c.l0.s k))
theorem Z9c.ok (k:Nat):Zf Tryz.prog 306 (Z9c.con k):=fP (.two .auto (.two (.two .auto (.one (.sum (Z9c.l0.s k)))) .auto)) (Z9c.cok k) Tryz.func306 (sC (Z9c.l0.ok k) sN)
def Zdf.l0 (k:Nat):Nat→Int→Int→Int→Int→Int→Str→List Int→List Int→Int→Option (Unit ⊕ Bool)
 | 0,_,_,_,_,_,_,_,_,_=>none
 | j+1,a1,a2,a3,a4,a5,a6,a7,a8,a9=>
  bif decide (a9<((a8.length):Int)) then
   Ya (at? a8 a9) fun v10=>
   Ya (Z9c k a7 v10) fun v11=>
   bif v11 then
    some (.inr false)
   else
   Zdf.l0 k j a1 a2 a3 a4 a5 a6 a7 a8 (Yb .i64 (a9+1))
  else
  some (.inl ())
def Zdf (k:Nat) (a1:G46):Option (Bool):=
 Ya (Zfb a1.1 1 5) fun v2=>
 bif !v2 then
  some false
 else
 Ya (Z4d k a1.2.2.2.2.2.2.1) fun v3=>
 bif !v3 then
  some false
 else
 Ya (Z4d k a1.2.2.2.2.2.2.2) fun v4=>
 bif !v4 then
  some false
 else
 Ya (Zdf.l0 k k a1.1 a1.2.1 a1.2.2.1 a1.2.2.2.1 a1.2.2.2.2.1 a1.2.2.2.2.2.1 a1.2.2.2.2.2.2.1 a1.2.2.2.2.2.2.2 0) fun
  | .inl y5=>
   let e6:=a1.2.1==0
   let e7:=a1.2.2.2.2.1==0
   let e8:=((a1.2.2.2.2.2.2.2.length):Int)
   bif a1.1==1 then
    some (((((e6&&(a1.2.2.1==0))&&(a1.2.2.2.1==0))&&e7)&&(a1.2.2.2.2.2.1==[]))&&(e8==0))
   else
   Ya (Zfb a1.2.2.1 1 20) fun v9=>
   bif !v9 then
    some false
   else
   Ya (Zfb a1.2.2.2.1 0 4) fun v10=>
   bif ((!v10)||(e8 != (Yb .i64 (a1.2.2.1+a1.2.2.2.1))))||(((a1.2.2.2.2.2.1.length):Int) != 32) then
    some false
   else
   Ya (Zfb a1.2.1 0 2) fun v11=>
   bif v11 then
    Ya (Zfb a1.2.2.2.2.1 0 40) fun v12=>
    some ((v12&&(e6||(a1.1==4)))&&(e7||(a1.1==5)))
   else
   some false
  | .inr y13=>
   some y13
def Zdf.con (k:Nat):Con:=Sig.con { ps:=[.val true T46 (ros T46)],rs:=[.val false [.v .bool]],ntmps:=122 } (fun x=>Zdf k x)
def Zdf.cok (k:Nat):=cXr true false (cC (Zfb.ok k) (cC (Z4d.ok k) (cC (Z9c.ok k) cN)))
def Zdf.l0.s (k:Nat):Summ:=lp 122 { tmps:=[(1,.eptr [.v (.int .i64),.v (.int .i64),.v (.int .i64),.v (.int .i64),.v (.int .i64),.v .str,.bor (.int .i64),.bor (.int .i64)]),(3,.one (.v (.int .i64)))],slots:=[],nb:=0 } [(.exit 0,{ tmps:=[],slots:=[],nb:=0 }),(.ret,{ tmps:=[(2,.one (.v .bool))],slots:=[],nb:=0 })] (fun j x=>Zdf.l0 k j x.1 x.2.1 x.2.2.1 x.2.2.2.1 x.2.2.2.2.1 x.2.2.2.2.2.1 x.2.2.2.2.2.2.1 x.2.2.2.2.2.2.2.1 x.2.2.2.2.2.2.2.2) k
def Zdf.l0.ok (k:Nat):=(lA (Zdf.cok k):Zj Tryz.prog _ (.loop (cO (cO (cR (cL (cR (cR (cB Tryz.f300)))))))) (Zdf.l0.s k))
theorem Zdf.ok (k:Nat):Zf Tryz.prog 300 (Zdf.con k):=fP (.two .auto (.two .auto (.two (.two .auto (.one (.sum (Zdf.l0.s k)))) .auto))) (Zdf.cok k) Tryz.func300 (sC (Zdf.l0.ok k) sN)
def Zjq (k:Nat) (a1:G46):Option (Str):=
 Ya (Zdf k a1) fun v2=>
 bif !v2 then
  some ([])
 else
 Ya (Zxl k a1) fun v3=>
 some v3
def Zjq.con (k:Nat):Con:=Sig.con { ps:=[.val true T46 (ros T46)],rs:=[.val false [.v .str]],ntmps:=8 } (fun x=>Zjq k x)
theorem Zjq.ok (k:Nat):Zf Tryz.prog 274 (Zjq.con k):=fA (cXr true false (cC (Zxl.ok k) (cC (Zdf.ok k) cN))) Tryz.func274
def Z6n (k:Nat) (a1:Str):Option (Int×Int×Int×Int×Int×Str×List Int×List Int×Int):=
 bif decide (8000<((a1.length):Int)) then
  some (0,0,0,0,0,[],[],[],2)
 else
 Ya (Zcc k (a1,(0,false))) fun v2=>
 Ya (Zcc k v2.2) fun v3=>
 Ya (Zcc k v3.2) fun v4=>
 Ya (Zcc k v4.2) fun v5=>
 Ya (Zcc k v5.2) fun v6=>
 Ya (Zcc k v6.2) fun v7=>
 Ya (Zdd k v7.1) fun v8=>
 Ya (Zcc k v7.2) fun v9=>
 Ya (Zdd k v9.1) fun v10=>
 Ya (Zth k v9.2) fun v11=>
 bif v11.2.2.2 then
  some (0,0,0,0,0,[],[],[],3)
 else
 Ya (Zjq k (v2.1,(v3.1,(v4.1,(v5.1,(v6.1,(v11.1,(v8,v10)))))))) fun v12=>
 bif !(v12==a1) then
  some (0,0,0,0,0,[],[],[],3)
 else
 some (v2.1,v3.1,v4.1,v5.1,v6.1,v11.1,v8,v10,0)
def Z6n.con (k:Nat):Con:=Sig.con { ps:=[.val false .str (ros .str)],rs:=[.val true [.v (.int .i64),.v (.int .i64),.v (.int .i64),.v (.int .i64),.v (.int .i64),.v .str,.own 2 (.int .i64),.own 2 (.int .i64),.v (.int .i64)]],ntmps:=51 } (fun x=>Z6n k x)
theorem Z6n.ok (k:Nat):Zf Tryz.prog 227 (Z6n.con k):=fA (cX (cC (Zdd.ok k) (cC (Zcc.ok k) (cC (Zth.ok k) (cC (Zjq.ok k) cN))))) Tryz.func227
def Zyi (k:Nat) (a1:G28):Option (Int×Int×Int×Int×Int×Str×List Int×List Int×Bool):=
 Ya (Zfb a1.1 1 8) fun v2=>
 bif !v2 then
  some (0,0,0,0,0,[],[],[],false)
 else
 Ya (Z1 k a1.2) fun v3=>
 bif (!v3)||(((a1.2.1.length):Int) != (Yb .i64 ((Yb .i64 (3+a1.1))+24))) then
  some (0,0,0,0,0,[],[],[],false)
 else
 Ya (Z5k k a1.2) fun v4=>
 bif v4.2.2.1 != 0 then
  some (0,0,0,0,0,[],[],[],false)
 else
 Ya (Z6n k v4.2.1) fun v5=>
 some (v5.1,v5.2.1,v5.2.2.1,v5.2.2.2.1,v5.2.2.2.2.1,v5.2.2.2.2.2.1,v5.2.2.2.2.2.2.1,v5.2.2.2.2.2.2.2.1,v5.2.2.2.2.2.2.2.2==0)
def Zyi.con (k:Nat):Con:=Sig.con { ps:=[.val true T28 (ros T28)],rs:=[.val true [.v (.int .i64),.v (.int .i64),.v (.int .i64),.v (.int .i64),.v (.int .i64),.v .str,.own 2 (.int .i64),.own 2 (.int .i64)],.val false [.v .bool]],ntmps:=47 } (fun x=>Zyi k x)
theorem Zyi.ok (k:Nat):Zf Tryz.prog 152 (Zyi.con k):=fA (cXr true false (cC (Zfb.ok k) (cC (Z5k.ok k) (cC (Z1.ok k) (cC (Z6n.ok k) cN))))) Tryz.func152
def Z6d.l0 (k:Nat):Nat→Int→List Str→List Zr→Int→List Str→Option ((List Str))
 | 0,_,_,_,_,_=>none
 | j+1,a1,a2,a3,a4,a5=>
  bif decide (a4<a1) then
   Ya (Zsb k (a2,a3) (Yb .i64 (3+a4))) fun v6=>
   Ya (Zt 16 a5 [v6]) fun v7=>
   Z6d.l0 k j a1 a2 a3 (Yb .i64 (a4+1)) v7
  else
  some a5
def Z6d (k:Nat) (a1:G28):Option (List Str):=
 Ya (Z6d.l0 k k a1.1 a1.2.1 a1.2.2 0 []) fun y2=>
 some y2
def Z6d.con (k:Nat):Con:=Sig.con { ps:=[.val true T28 (ros T28)],rs:=[.val false [.own 9 .str]],ntmps:=21 } (fun x=>Z6d k x)
def Z6d.cok (k:Nat):=cXr true false (cC (Zsb.ok k) cN)
def Z6d.l0.s (k:Nat):Summ:=lp 21 { tmps:=[(1,.eptr [.v (.int .i64),.bor .str,.bor Zp]),(3,.one (.own 1)),(4,.one (.v (.int .i64)))],slots:=[(1,.arr false 9 .str)],nb:=2 } [(.exit 0,{ tmps:=[(3,.one (.own 2))],slots:=[(2,.arr false 9 .str)],nb:=3 })] (fun j x=>Z6d.l0 k j x.1 x.2.1 x.2.2.1 x.2.2.2.1 x.2.2.2.2) k
def Z6d.l0.ok (k:Nat):=(lA (Z6d.cok k):Zj Tryz.prog _ (.loop (cO (cO (cR (cL (cR (cR (cB Tryz.f163)))))))) (Z6d.l0.s k))
theorem Z6d.ok (k:Nat):Zf Tryz.prog 163 (Z6d.con k):=fP (.two .auto (.two .auto (.two (.two .auto (.one (.sum (Z6d.l0.s k)))) .auto))) (Z6d.cok k) Tryz.func163 (sC (Z6d.l0.ok k) sN)
def Zje.l0:Nat→List Zad→Int→Int→Option (Int)
 | 0,_,_,_=>none
 | j+1,a1,a2,a3=>
  bif (decide (a3<((a1.length):Int)))&&(decide (((a1.length):Int)≤40)) then
   Ya (at? a1 a3) fun v4=>
   let e5:=Yb .i64 (a3+1)
   bif v4.1==1 then
    Zje.l0 j a1 (Yb .i64 (a2+1)) e5
   else
   Zje.l0 j a1 a2 e5
  else
  some a2
def Zje (k:Nat) (a1:List Zad):Option (Int):=
 Ya (Zje.l0 k a1 0 0) fun y2=>
 some y2
def Zje.con (k:Nat):Con:=Sig.con { ps:=[.val false (.sl Z4b) (ros (.sl Z4b))],rs:=[.val false [.v (.int .i64)]],ntmps:=25 } (fun x=>Zje k x)
def Zje.cok (k:Nat):=cX cN
def Zje.l0.s (k:Nat):Summ:=lp 25 { tmps:=[(0,.one (.bor Z4b)),(3,.one (.v (.int .i64))),(4,.one (.v (.int .i64)))],slots:=[],nb:=0 } [(.exit 0,{ tmps:=[(3,.one (.v (.int .i64)))],slots:=[],nb:=0 })] (fun j x=>Zje.l0 j x.1 x.2.1 x.2.2) k
def Zje.l0.ok (k:Nat):=(lA (Zje.cok k):Zj Tryz.prog _ (.loop (cO (cO (cR (cL (cR (cR (cB Tryz.f44)))))))) (Zje.l0.s k))
theorem Zje.ok (k:Nat):Zf Tryz.prog 44 (Zje.con k):=fP (.two .auto (.two .auto (.two (.two .auto (.one (.sum (Zje.l0.s k)))) .auto))) (Zje.cok k) Tryz.func44 (sC (Zje.l0.ok k) sN)
def Z5h (a1:G52) (a2:Int):Option (Bool):=
 Ya (Zfb a2 1 8) fun v3=>
 bif !v3 then
  some false
 else
 let e4:=Yb .i64 (a2-1)
 Ya (Zfb a1.2.1 0 e4) fun v5=>
 Ya (Zfb a1.2.2.1 0 e4) fun v6=>
 let e7:=a1.2.2.2==[]
 let e8:=v5&&(a1.2.2.1==0)
 bif a1.1==1 then
  some (e8&&e7)
 else
 let e9:=((a1.2.2.2.length):Int)==8
 bif a1.1==2 then
  some (e8&&e9)
 else
 bif a1.1==3 then
  some ((v5&&v6)&&e7)
 else
 bif a1.1==4 then
  some ((v5&&v6)&&e9)
 else
 bif a1.1==5 then
  bif a1.2.1==0 then
   Ya (Zfb a1.2.2.1 0 1000000) fun v10=>
   some (v10&&e7)
  else
  some false
 else
 some false
def Z5h.con (k:Nat):Con:=Sig.con { ps:=[.val true T52 (ros T52),.val false (.int .i64) (ros (.int .i64))],rs:=[.val false [.v .bool]],ntmps:=87 } (fun x=>Z5h x.1 x.2)
theorem Z5h.ok (k:Nat):Zf Tryz.prog 177 (Z5h.con k):=fA (cX (cC (Zfb.ok k) cN)) Tryz.func177
def Zs.l0:Nat→List G52→Int→Int→Option (Unit ⊕ Int)
 | 0,_,_,_=>none
 | j+1,a1,a2,a3=>
  bif decide (a3<((a1.length):Int)) then
   Ya (at? a1 a3) fun v4=>
   Ya (Z5h v4 a2) fun v5=>
   bif !v5 then
    some (.inr 1)
   else
   Zs.l0 j a1 a2 (Yb .i64 (a3+1))
  else
  some (.inl ())
def Zs.l1:Nat→List G52→Int→Int→Option (Unit ⊕ Int)
 | 0,_,_,_=>none
 | j+1,a1,a2,a3=>
  bif decide (a3<a2) then
   Ya (at? a1 a2) fun v4=>
   let e5:=Yb .i64 (a3+1)
   bif v4.1 != 5 then
    Ya (at? a1 a3) fun v6=>
    bif v6.1 != 5 then
     Ya (at? a1 a2) fun v7=>
     Ya (at? a1 a3) fun v8=>
     bif v7.2.1==v8.2.1 then
      some (.inr 12)
     else
     Zs.l1 j a1 a2 e5
    else
    Zs.l1 j a1 a2 e5
   else
   Zs.l1 j a1 a2 e5
  else
  some (.inl ())
def Zs.l2 (k:Nat):Nat→List G52→Int→Option (Unit ⊕ Int)
 | 0,_,_=>none
 | j+1,a1,a2=>
  bif decide (a2<((a1.length):Int)) then
   Ya (Zs.l1 k a1 a2 0) fun
    | .inl y3=>
     Zs.l2 k j a1 (Yb .i64 (a2+1))
    | .inr y4=>
     some (.inr y4)
  else
  some (.inl ())
def Zs.l3:Nat→List G52→Int→Int→Option (Unit ⊕ Int)
 | 0,_,_,_=>none
 | j+1,a1,a2,a3=>
  bif decide (a3<((a1.length):Int)) then
   Ya (at? a1 a3) fun v4=>
   let e5:=Yb .i64 (a3+1)
   bif v4.1 != 5 then
    Zs.l3 j a1 a2 e5
   else
   Ya (at? a1 a3) fun v6=>
   bif decide (v6.2.2.1≤a2) then
    some (.inr 8)
   else
   Ya (at? a1 a3) fun v7=>
   Zs.l3 j a1 v7.2.2.1 e5
  else
  some (.inl ())
def Zs (k:Nat) (a1:List G52) (a2:Int):Option (Int):=
 bif decide (20<((a1.length):Int)) then
  some 1
 else
 Ya (Zfb a2 1 8) fun v3=>
 bif !v3 then
  some 1
 else
 Ya (Zs.l0 k a1 a2 0) fun
  | .inl y4=>
   Ya (Zs.l2 k k a1 0) fun
    | .inl y5=>
     Ya (Zs.l3 k a1 (-1) 0) fun
      | .inl y6=>
       some 0
      | .inr y7=>
       some y7
    | .inr y8=>
     some y8
  | .inr y9=>
   some y9
def Zs.con (k:Nat):Con:=Sig.con { ps:=[.val false (.sl T52) (ros (.sl T52)),.val false (.int .i64) (ros (.int .i64))],rs:=[.val false [.v (.int .i64)]],ntmps:=93 } (fun x=>Zs k x.1 x.2)
def Zs.cok (k:Nat):=cX (cC (Zfb.ok k) (cC (Z5h.ok k) cN))
def Zs.l0.s (k:Nat):Summ:=lp 93 { tmps:=[(0,.one (.bor T52)),(1,.one (.v (.int .i64))),(5,.one (.v (.int .i64)))],slots:=[],nb:=0 } [(.exit 0,{ tmps:=[],slots:=[],nb:=0 }),(.ret,{ tmps:=[(4,.one (.v (.int .i64)))],slots:=[],nb:=0 })] (fun j x=>Zs.l0 j x.1 x.2.1 x.2.2) k
def Zs.l0.ok (k:Nat):=(lA (Zs.cok k):Zj Tryz.prog _ (.loop (cO (cO (cR (cL (cR (cR (cB Tryz.f87)))))))) (Zs.l0.s k))
def Zs.l1.s (k:Nat):Summ:=lp 93 { tmps:=[(0,.one (.bor T52)),(6,.one (.v (.int .i64))),(7,.one (.v (.int .i64)))],slots:=[],nb:=0 } [(.exit 4,{ tmps:=[],slots:=[],nb:=0 }),(.ret,{ tmps:=[(4,.one (.v (.int .i64)))],slots:=[],nb:=0 })] (fun j x=>Zs.l1 j x.1 x.2.1 x.2.2) k
def Zs.l1.ok (k:Nat):=(lA (Zs.cok k):Zj Tryz.prog _ (.loop (cO (cO (cR (cO (cL (cR (cO (cO (cR (cL (cR (cR (cR (cB Tryz.f87))))))))))))))) (Zs.l1.s k))
def Zs.l2.s (k:Nat):Summ:=lp 93 { tmps:=[(0,.one (.bor T52)),(6,.one (.v (.int .i64)))],slots:=[],nb:=0 } [(.exit 2,{ tmps:=[],slots:=[],nb:=0 }),(.ret,{ tmps:=[(4,.one (.v (.int .i64)))],slots:=[],nb:=0 })] (fun j x=>Zs.l2 k j x.1 x.2) k
def Zs.l2.ok (k:Nat):=(lP (.two .auto (.two (.one (.two .auto (.one (.sum (Zs.l1.s k))))) .auto)) (Zs.cok k) (sC (Zs.l1.ok k) sN):Zj Tryz.prog _ (.loop (cO (cO (cR (cL (cR (cR (cR (cB Tryz.f87))))))))) (Zs.l2.s k))
def Zs.l3.s (k:Nat):Summ:=lp 93 { tmps:=[(0,.one (.bor T52)),(8,.one (.v (.int .i64))),(9,.one (.v (.int .i64)))],slots:=[],nb:=0 } [(.exit 6,{ tmps:=[],slots:=[],nb:=0 }),(.ret,{ tmps:=[(4,.one (.v (.int .i64)))],slots:=[],nb:=0 })] (fun j x=>Zs.l3 j x.1 x.2.1 x.2.2) k
def Zs.l3.ok (k:Nat):=(lA (Zs.cok k):Zj Tryz.prog _ (.loop (cO (cO (cR (cL (cR (cR (cR (cR (cR (cB Tryz.f87))))))))))) (Zs.l3.s k))
theorem Zs.ok (k:Nat):Zf Tryz.prog 87 (Zs.con k):=fP (.two .auto (.two .auto (.two (.two .auto (.one (.sum (Zs.l0.s k)))) (.two (.two .auto (.one (.sum (Zs.l2.s k)))) (.two .auto (.two (.two .auto (.one (.sum (Zs.l3.s k)))) .auto)))))) (Zs.cok k) Tryz.func87 (sC (Zs.l0.ok k) (sC (Zs.l2.ok k) (sC (Zs.l3.ok k) sN)))
end Go.Proofs.Qz
