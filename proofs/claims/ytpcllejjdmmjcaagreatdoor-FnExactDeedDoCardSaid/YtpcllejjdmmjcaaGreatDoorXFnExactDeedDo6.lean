/- What the law FnExactDeedDo needs, part 7 of 15: the Lean functions of the Go functions that it reaches, with the proofs that the calls come to what they say, and plain facts about them. Conditions: those that each theorem states. Written by a session and by its programs (after the kit's printer). -/
import Derived.Lib.LaidTab
import Derived.Lib.AppendIntMem
import Derived.Shelf.Strings.Builder1
import Derived.Shelf.Strings.Builder2
import Derived.Shelf.Strings.OnBuilder
import Derived.Shelf.Strings.BuilderF
import Derived.Shelf.Strings.Prefix
import Derived.Shelf.Bits.Mul64
import Derived.Shelf.Strings.Repeat
import Derived.Ground.Names2Prog
import Derived.Shelf.Slices.Delete
import Derived.Shelf.Slices.Cells
import Derived.Shelf.Slices.Empties
import Derived.Ground.SlgfProg
import Derived.Shelf.SlicesE.IndexFunc
import Derived.Test.YtpcllejjdmmjcaaGreatDoorProg
import Derived.Test.YtpcllejjdmmjcaaGreatDoorXFnExactDeedDo4
import Derived.Test.YtpcllejjdmmjcaaGreatDoorXFnExactDeedDo5
open Option renaming bind → Ya, some → Yl
open Go.Proofs.Tryz renaming prog → Yb, f161 → Ym, isAgg0 → Yn, isAgg3 → Yo, isAgg4 → Yp, isAgg5 → Yq, sizeOf0 → Yr, sizeOf3 → Ys, sizeOf4 → Yt, sizeOf5 → Yu, underlying0 → Yv, underlying3 → Yw, underlying4 → Yx, underlying5 → Yy, zeroValue0 → Yz, zeroValue3 → Y0, zeroValue4 → Y1, zeroValue5 → Y2, func297 → Yaa, func298 → Yba, func299 → Yca, func313 → Yda, func314 → Yea, func322 → Yfa, func323 → Yga, isAgg20 → Yha, isAgg22 → Yia, isAgg307 → Yja, isAgg309 → Yka, isAgg312 → Yla, isAgg313 → Yma, isAgg327 → Yna, isAgg334 → Yoa, isAgg9 → Ypa, sizeOf20 → Yqa, sizeOf22 → Yra, sizeOf307 → Ysa, sizeOf309 → Yta, sizeOf312 → Yua, sizeOf313 → Yva, sizeOf327 → Ywa, sizeOf334 → Yxa, sizeOf9 → Yya, underlying20 → Yza, underlying22 → Y0a, underlying307 → Y1a, underlying309 → Y2a, underlying312 → Y3a, underlying313 → Y4a, underlying327 → Y5a, underlying334 → Y6a, underlying9 → Y7a, zeroValue20 → Y8a, zeroValue22 → Y9a, zeroValue307 → Yab, zeroValue309 → Ybb, zeroValue312 → Ycb, zeroValue313 → Ydb, zeroValue327 → Yeb, zeroValue334 → Yfb, zeroValue9 → Ygb
open Go.IntKind renaming wrap → Yc
open Bool renaming and_eq_true → Yd, and_true → Y3
open List renaming all_cons → Ye, set → Yg, map_cons → Yi, mem_singleton → Yk, all_append → Y4, append_assoc → Y5, cons → Y6, cons_append → Y7, replicate → Y8
open Int renaming toNat → Yf, tmod → Yh, tdiv → Yj
open Nat renaming mul_one → Y9
namespace Go.Proofs.Qz
open Go Go.RowKit
set_option linter.unusedVariables false
def Zp2:(r:Ty)→r.T→Option Value
 | .int k,n=>some (.int k n)
 | .bool,b=>some (.bool b)
 | .str,s=>some (.string (ba s))
 | _,_=>none
section
variable {P:Program} {w:World}
theorem Zuob {F:Nat→Prop}:∀{r:Ty} {x:r.T} {v:Value},Zp2 r x=some v→Rep w F r x [v]∧r.sz=1
 | .int k,_,_,h=>by cases h;exact ⟨rfl,rfl⟩
 | .bool,_,_,h=>by cases h;exact ⟨rfl,rfl⟩
 | .str,_,_,h=>by cases h;exact ⟨rfl,rfl⟩
 | .sl _,_,_,h=>by cases h
 | .pair _ _,_,_,h=>by cases h
 | .unit,_,_,h=>by cases h
theorem Z5jb {n:Nat} {r:Ty} {l:List r.T} {cs:Array Value} {ty:TypeId} {fr:Nat×Nat} (hg:w.heap[n]? = some (.cells cs ty fr)) (h:l.map (Zp2 r)=cs.toList.map some) (hr:r.sz=1):Gl1 w n r l:=by
 have hlen:l.length=cs.size:=by
  have:=congrArg List.length h;simpa using this
 refine ⟨(Array.getElem?_eq_some_iff.1 hg).1,⟨_,_,rfl,Nat.le_refl _,.inr ⟨n,0,rfl,rfl,fun j x hj=>?_⟩⟩,cs,ty,fr,hg,by rw [hr,hlen,Y9]⟩
 have hx:=congrArg (fun z=>z[j]?) h
 simp only [List.getElem?_map,hj,Option.map_some] at hx
 cases hv:cs.toList[j]? with
 | none=>rw [hv] at hx;cases hx
 | some v=>
  rw [hv] at hx;have hx:Zp2 r x=some v:=Yl.inj hx;refine ⟨[v],fun i u hu=>?_,(Zuob hx).1⟩;cases i with
  | zero=>
   cases hu;rw [cell_of_row w n _ cs ty fr hg,hr,Nat.zero_add,Y9,Nat.add_zero];simpa using hv
  | succ i=>cases hu
theorem Zucb {ps:List MemPlace}:∀{l:List (String×DataW Unit)} {ps:List MemPlace},DataW.LaidVars P w l ps→∀{name:String} {d:DataW Unit},(name,d)∈l→∃g t cs fuel p,P.globalNamed name=some g∧(P.globals[g]?).map (·.type)=some t∧w.var? P name=some cs∧DataW.trod (fun _=>()) P w 0 (fun _=>true) false fuel t cs.toList=some (d,p)
 | [],_,_,_,_,hm=>nomatch hm
 | (n,d)::l,_,⟨g,t,cs,fuel,p,q,h1,h2,h3,h4,h5,_⟩,name,d',hm=>by
  rcases List.mem_cons.1 hm with e | hm
  ·cases e
   exact ⟨g,t,cs,fuel,p,h1,h2,h3,h4⟩
  ·exact Zucb (ps:=ps) h5 hm
theorem Z2rb {name:String} {g:Nat} {cs:Array Value} (hg:P.globalNamed name=some g) (h:w.var? P name=some cs):∃ty fr,w.heap[g]? = some (.cells cs ty fr):=by
 unfold World.var? at h
 rw [hg,Option.bind_some] at h
 split at h
 ·rename_i c ty fr hb
  cases h;exact ⟨ty,fr,hb⟩
 ·cases h
theorem Ztcb {l:List (String×DataW Unit)} (h:laidMet P l w) {name:String} {k:IntKind} {zs:List Int} (hm:(name,Lib.tabData k zs)∈l) {g n:Nat} {t e:TypeId} (hg:P.globalNamed name=some g) (hty:(P.globals[g]?).map (·.type)=some t)
  (ht:P.underlying t=some (.array n e)) (he:P.underlying e=some (.int k)) (hce:P.cellsOf e=1) (hct:P.cellsOf t=n):Gl1 w g (.int k) zs:=by
 obtain ⟨ps,hv,_⟩:=h
 obtain ⟨g',t',cs,fuel,p,h1,h2,h3,h4⟩:=Zucb (ps:=ps) hv hm
 obtain rfl:=Yl.inj (hg.symm.trans h1)
 obtain rfl:=Yl.inj (hty.symm.trans h2)
 obtain ⟨ty,fr,hb⟩:=Z2rb hg h3
 have hc:=Lib.cells_of_tab ht he hce hct h4
 exact Z5jb hb (by rw [hc];simp [Zp2]) rfl
end
end Go.Proofs.Qz
namespace Go.Proofs.Qz
open Go
set_option linter.unusedVariables false
theorem cC {P:Program} {n:Nat} {c:Con} {L:List (Nat×Con)} (h:Ze P n c) (t:Z9o P L):Z9o P ((n,c)::L):=⟨h,t⟩
theorem cN {P:Program}:Z9o P []:=trivial
theorem sC {P:Program} {C:Ctx} {c:Code} {s:Summ} {L:List (Summ×Code)} (h:Zj P C c s) (t:Zzl P C L):Zzl P C ((s,c)::L):=⟨h,t⟩
theorem sN {P:Program} {C:Ctx}:Zzl P C []:=trivial
theorem Z0r:∀c:Code,Zfe .auto c=[]
 | .seq a b=>by
  show Zfe .auto a++Zfe .auto b=[];rw [Z0r a,Z0r b];rfl
 | .cond _ a b=>by
  show Zfe .auto a++Zfe .auto b=[];rw [Z0r a,Z0r b];rfl
 | .block _ a=>Z0r a
 | .skip=>rfl
 | .region _ _ _=>rfl
 | .loop _=>rfl
 | .rangeFunc _ _ _ _=>rfl
 | .exit _=>rfl
 | .scope _=>rfl
 | .label _=>rfl
 | .goto _=>rfl
 | .ret=>rfl
 | .refuse _=>rfl
def lp (n:Nat) (ish:Shape) (outs:List (Ex×Shape)) (F:Nat→Zcb ish.tys→Option (Zuh outs)) (k:Nat):Summ:={ n:=n,ish:=ish,outs:=outs,f:=F k }
def lq (n:Nat) (ish:Shape) (outs:List (Ex×Shape)) (F:Zcb ish.tys→Option (Zuh outs)):Summ:={ n:=n,ish:=ish,outs:=outs,f:=F }
section
variable {P:Program} {C:Ctx} {c:Code} {L:List (Summ×Code)} {n:Nat} {ish:Shape} {outs:List (Ex×Shape)}
theorem lP (p:Plan) {F:Nat→Zcb ish.tys→Option (Zuh outs)} {k:Nat} (H:CtxOk P C) (hs:Zzl P C L) (hl:Zfe p c=L:=by kernel_rfl) (hok:(lp n ish outs F k).ok=true:=by kernel_rfl) (h0:∀x,F 0 x=none:=by intro x;rfl)
  (hev:∀j x,V C p c (mk ish n x) (fun e st'=>match e with
   | .nrm=>(rd ish st').bind (F j)
   | e=>Zjl e st' outs)=F (j+1) x:=by intro j x;kernel_rfl):Zj P C (.loop c) (lp n ish outs F k):=
 Zngb hok (sum_loop (s:=lp n ish outs F k) (F:=F) H hok (Z90 hl hs) h0 (fun j x y h=>(hev j x).trans h) k rfl)
theorem lA {F:Nat→Zcb ish.tys→Option (Zuh outs)} {k:Nat} (H:CtxOk P C) (hok:(lp n ish outs F k).ok=true:=by kernel_rfl) (h0:∀x,F 0 x=none:=by intro x;rfl)
  (hev:∀j x,V C .auto c (mk ish n x) (fun e st'=>match e with
   | .nrm=>(rd ish st').bind (F j)
   | e=>Zjl e st' outs)=F (j+1) x:=by intro j x;kernel_rfl):Zj P C (.loop c) (lp n ish outs F k):=lP .auto H sN (Z0r c) hok h0 hev
theorem jP (p:Plan) {F:Zcb ish.tys→Option (Zuh outs)} (H:CtxOk P C) (hs:Zzl P C L) (hl:Zfe p c=L:=by kernel_rfl) (hok:(lq n ish outs F).ok=true:=by kernel_rfl)
  (hev:∀x,V C p c (mk ish n x) (fun e st'=>Zjl e st' outs)=F x:=by intro x;kernel_rfl):Zj P C c (lq n ish outs F):=
 Zngb hok (Zfrb (s:=lq n ish outs F) (p:=p) H hok (Z90 hl hs) (fun x y h=>(hev x).trans h))
theorem jA {F:Zcb ish.tys→Option (Zuh outs)} (H:CtxOk P C) (hok:(lq n ish outs F).ok=true:=by kernel_rfl)
  (hev:∀x,V C .auto c (mk ish n x) (fun e st'=>Zjl e st' outs)=F x:=by intro x;kernel_rfl):Zj P C c (lq n ish outs F):=jP .auto H sN (Z0r c) hok hev
theorem fP (p:Plan) {f:FuncId} {fn:Func} {s:Sig} {F:Zcb s.ins→Option (Zcb s.outs)} (H:CtxOk P C) (hf:P.funcs[f]? = some fn) (hs:Zzl P C L) (hname:(fn.name == "runtime.NumGoroutine")=false:=by kernel_rfl) (hb:fn.body=some (cB fn):=by kernel_rfl)
  (hn:fn.ntmps=s.ntmps:=by kernel_rfl) (hps:Nat.ble s.ps.length s.ntmps=true:=by kernel_rfl) (hl:Zfe p (cB fn)=L:=by kernel_rfl) (hev:∀x,s.ev C p fn.results.toList (cB fn) x=F x:=by intro x;kernel_rfl):Ze P f (s.con F):=
 Z4qb H hf hname hb hn hps (Z90 hl hs) (fun x y h=>(hev x).trans h)
theorem fA {f:FuncId} {fn:Func} {s:Sig} {F:Zcb s.ins→Option (Zcb s.outs)} (H:CtxOk P C) (hf:P.funcs[f]? = some fn) (hname:(fn.name == "runtime.NumGoroutine")=false:=by kernel_rfl) (hb:fn.body=some (cB fn):=by kernel_rfl)
  (hn:fn.ntmps=s.ntmps:=by kernel_rfl) (hps:Nat.ble s.ps.length s.ntmps=true:=by kernel_rfl) (hev:∀x,s.ev C .auto fn.results.toList (cB fn) x=F x:=by intro x;kernel_rfl):Ze P f (s.con F):=fP .auto H hf sN hname hb hn hps (Z0r _) hev
end
end Go.Proofs.Qz
namespace Go.Proofs.Qz
open Go Go.RowKit
set_option linter.unusedVariables false
def Zq8:CL→CL
 | .leaf (.bor r l)=>.leaf (.list r l)
 | x=>x
def Zq2:CArg→CArg
 | .val a xs=>.val a (xs.map Zq8)
 | x=>x
def roP:PL→PL
 | .v=>.ro
 | x=>x
def roK:PK→PK
 | .val a t ms=>.val a t (ms.map roP)
 | x=>x
def Sig.conR (s:Sig) (f:Zcb s.ins→Option (Zcb s.outs)):Con:={ ms:=(s.ps.map roK).map PK.pm,f:=fun asx=>s.run f (asx.map Zq2) }
section
variable {w:World} {F F' B:Nat→Prop}
theorem Zge.weak (hF:∀b,F b→B b) {x:Leaf} {v:Value} (h:VLs w F B [.leaf x] [v] []):VLs w B B [Zq8 (.leaf x)] [v] []:=by
 have h:=h.1
 cases x with
 | bor r l=>exact ⟨h,rfl⟩
 | _=>exact ⟨Zge.mono hF (fun _ q=>q) h,rfl⟩
theorem VLs.weak (hF:∀b,F b→B b):∀{xs:List CL} {vs:List Value} {L:List GI},VLs w F B xs vs L→VLs w B B (xs.map Zq8) vs L
 | [],[],_,h=>h
 | .leaf x::xs,v::vs,L,h=>by
  have h2:=VLs.weak hF h.2;have h1:Zge w F B x v:=h.1;cases x with
  | bor r l=>exact ⟨h1,h2⟩
  | _=>exact ⟨Zge.mono hF (fun _ q=>q) h1,h2⟩
 | .row _ _ _::xs,v::vs,.row _::L,h=>⟨h.1,h.2.1.mono hF,VLs.weak hF h.2.2⟩
 | .nil::xs,v::vs,.no::L,h=>⟨h.1,VLs.weak hF h.2⟩
theorem Zih.weak (hF:∀b,F b→B b):∀{asx:List CArg} {vs:List Value} {L:List GI} {M:List Value},Zih w F B asx vs L M→Zih w B B (asx.map Zq2) vs L M
 | [],[],_,_,h=>h
 | a::asx,v::vs,L,M,⟨L1,L2,M1,M2,h1,h2,h3,h4⟩=>by
  refine ⟨L1,L2,M1,M2,h1,h2,?_,Zih.weak hF h4⟩;cases a with
  | val ag xs=>
   cases ag with
   | false=>exact ⟨h3.1,VLs.weak hF h3.2⟩
   | true=>
    obtain ⟨k1,cs,k2,k3⟩:=h3;exact ⟨k1,cs,k2,VLs.weak hF k3⟩
  | _=>exact h3.mono hF (fun _ q=>q)
def Zzcb:Leaf→Bool
 | .list _ _=>false
 | .bor _ _=>false
 | _=>true
def Zmu:RL→Bool
 | .leaf x=>Zzcb x
 | .own _ r _=>flat r
def Zeo:RC→Bool
 | .val _ xs=>xs.all Zmu
 | .box _ xs=>xs.all Zmu
theorem Z4b.flat {z:Bool} {e:TypeId} {t:Ty} {v:Value} {l:List t.T} (ht:Go.Proofs.Qz.flat t=true) (h:Z4b w F z e t v l):Z4b w F' z e t v l:=by
 rcases h.cases with ⟨he,h | ⟨g,cap,cs,fr,h0,h1,h2,h3,h4,h5,h6⟩⟩ | ⟨he,rfl,hM | hM⟩
 ·exact Zac.ok (.inl h) he
 ·exact Zac.ok (.inr ⟨g,cap,cs,fr,h0,h1,h2,h3,h4,h5,fun j x hj=>Rep.flat ht (h6 j x hj)⟩) he
 ·exact Z5n.ok hM he
 ·exact Zvm.ok hM
theorem Zhe.flat:∀{xs:List RL} {vs:List Value} {O:List Conc},xs.all Zmu=true→Zhe w F xs vs O→Zhe w F' xs vs O
 | [],[],_,_,h=>h
 | .leaf x::xs,v::vs,O,hf,h=>by
  rw [Ye,Yd] at hf;refine ⟨?_,Zhe.flat hf.2 h.2⟩;have h1:Zge w F (fun _=>False) x v:=h.1;cases x with
  | list r l=>cases hf.1
  | bor r l=>cases hf.1
  | _=>exact h1
 | .own e r l::xs,v::vs,c::O,hf,h=>by
  rw [Ye,Yd] at hf;exact ⟨h.1,Z4b.flat hf.1 h.2.1,Zhe.flat hf.2 h.2.2⟩
theorem Zum.flat {p:RC} {v:Value} {O:List Conc} (hf:Zeo p=true) (h:Zum w F p v O):Zum w F' p v O:=by
 cases p with
 | val a xs=>
  cases a with
  | true=>
   obtain ⟨cs,h1,h2⟩:=h;exact ⟨cs,h1,Zhe.flat hf h2⟩
  | false=>exact Zhe.flat hf h
 | box t xs=>
  obtain ⟨g,cs,fr,O1,h1,h2,h3,h4,h5⟩:=h;exact ⟨g,cs,fr,O1,h1,h2,h3,h4,Zhe.flat hf h5⟩
theorem Z7j.flat:∀{ps:List RC} {vs:List Value} {O:List Conc},ps.all Zeo=true→Z7j w F ps vs O→Z7j w F' ps vs O
 | [],[],_,_,h=>h
 | p::ps,v::vs,O,hf,⟨O1,O2,h1,h2,h3⟩=>by
  rw [Ye,Yd] at hf;exact ⟨O1,O2,h1,Zum.flat hf.1 h2,Z7j.flat hf.2 h3⟩
theorem Zxob {rs:List RC} {v:Value} {O:List Conc} (hf:rs.all Zeo=true) (h:Zhv w F rs v O):Zhv w F' rs v O:=by
 match rs,hf,h with
 | [p],hf,h=>
  rw [Ye,Yd] at hf;exact Zum.flat (p:=p) hf.1 h
 | [],hf,⟨vs,h1,h2⟩=>exact ⟨vs,h1,Z7j.flat hf h2⟩
 | p::q::ps,hf,⟨vs,h1,h2⟩=>exact ⟨vs,h1,Z7j.flat hf h2⟩
theorem Ztob {L:List GI} {O:List Conc} (h:Zri w F L [] O):Zri w F' L [] O:=by
 match L,h with
 | [],h=>exact h
def Zw4:RK→Bool
 | .v t=>flat t
 | .own _ r=>flat r
def noB:PK→Bool
 | .val _ _ ms=>ms.all fun m=>match m with
  | .own _=>false
  | _=>true
 | .rptr _=>true
 | _=>false
def Sig.keptOk (s:Sig):Bool:=s.ps.all noB&&s.rs.all fun r=>r.ks.all Zw4
theorem Zx5:∀(t:Ty) (x:t.T),flat t=true→∀y∈Z0 t x,Zzcb y=true
 | .int _,x,_,y,hy=>by rw [Yk.1 hy];rfl
 | .bool,x,_,y,hy=>by rw [Yk.1 hy];rfl
 | .str,x,_,y,hy=>by rw [Yk.1 hy];rfl
 | .unit,x,_,y,hy=>by cases hy
 | .sl _,x,h,y,hy=>by cases h
 | .pair a b,x,h,y,hy=>by
  have h:(flat a&&flat b)=true:=h;rw [Yd] at h;rcases List.mem_append.1 hy with hy | hy
  ·exact Zx5 a x.1 h.1 y hy
  ·exact Zx5 b x.2 h.2 y hy
def DV.t:DV→Ty
 | .mk t _=>t
theorem Zqdb:∀(ts:List Ty) (y:Zcb ts),(Z3e ts y).map DV.t=ts
 | [],_=>rfl
 | [t],y=>rfl
 | t::u::ts,y=>by
  show DV.t _::(Z3e (u::ts) y.2).map DV.t=_;rw [Zqdb (u::ts) y.2];rfl
theorem Zyz:∀(ks:List RK) (ds:List DV) (rest:List Ty),ds.map DV.t=ks.map RK.ty++rest→ks.all Zw4=true→(Z9 ks ds).1.all Zmu=true∧(Z9 ks ds).2.map DV.t=rest
 | [],ds,rest,h,_=>⟨rfl,h⟩
 | .v t::ks,[],rest,h,_=>by cases h
 | .own e r::ks,[],rest,h,_=>by cases h
 | .v t::ks,.mk t' x::ds,rest,h,hf=>by
  rw [Ye,Yd] at hf;rw [Yi,Yi,Y7,Y6.injEq] at h;obtain ⟨k1,k2⟩:=Zyz ks ds rest h.2 hf.2;have ht:t'=t:=h.1;subst ht;refine ⟨?_,k2⟩;show ((Z0 t' x).map RL.leaf++(Z9 ks ds).1).all Zmu=true;rw [Y4,k1,Y3,List.all_map];exact List.all_eq_true.2 fun y hy=>Zx5 t' x hf.1 y hy
 | .own e r::ks,.mk t' x::ds,rest,h,hf=>by
  rw [Ye,Yd] at hf;rw [Yi,Yi,Y7,Y6.injEq] at h;obtain ⟨k1,k2⟩:=Zyz ks ds rest h.2 hf.2;have ht:t' = .sl r:=h.1;subst ht;refine ⟨?_,k2⟩;show ([RL.own e r x]++(Z9 ks ds).1).all Zmu=true;rw [Y4,k1,Y3];show (flat r&&true)=true;rw [show flat r=true from hf.1];rfl
theorem Zh4:∀(rs:List SK) (ds:List DV) (rest:List Ty),ds.map DV.t=Zht rs++rest→(rs.all fun r=>r.ks.all Zw4)=true→(Zie rs ds).1.all Zeo=true∧(Zie rs ds).2.map DV.t=rest
 | [],ds,rest,h,_=>⟨rfl,h⟩
 | .val a ks::rs,ds,rest,h,hf=>by
  rw [Ye,Yd] at hf;obtain ⟨k1,k2⟩:=Zyz ks ds (Zht rs++rest) (by rw [h];show (ks.map RK.ty++Zht rs)++rest=_;rw [Y5]) hf.1;obtain ⟨j1,j2⟩:=Zh4 rs (Z9 ks ds).2 rest k2 hf.2;refine ⟨?_,j2⟩;show (Zeo (.val a (Z9 ks ds).1)&&_)=true;rw [show Zeo (.val a (Z9 ks ds).1)=true from k1];exact j1
 | .box a ks::rs,ds,rest,h,hf=>by
  rw [Ye,Yd] at hf;obtain ⟨k1,k2⟩:=Zyz ks ds (Zht rs++rest) (by rw [h];show (ks.map RK.ty++Zht rs)++rest=_;rw [Y5]) hf.1;obtain ⟨j1,j2⟩:=Zh4 rs (Z9 ks ds).2 rest k2 hf.2;refine ⟨?_,j2⟩;show (Zeo (.box a (Z9 ks ds).1)&&_)=true;rw [show Zeo (.box a (Z9 ks ds).1)=true from k1];exact j1
theorem Zweb:∀(ts:List Ty) (ms:List PL),(ms.all fun m=>match m with
  | .own _=>false
  | _=>true)=true→Zwj ts ms=[]
 | [],[],_=>rfl
 | [],_::_,_=>rfl
 | t::ts,[],_=>by cases t <;> rfl
 | t::ts,m::ms,h=>by
  rw [Ye,Yd] at h;have ih:=Zweb ts ms h.2;cases m with
  | own e=>cases h.1
  | v=>cases t <;> exact ih
  | ro=>cases t <;> exact ih
theorem Z8ab:∀(ps:List PK) (ds:List DV),ps.all noB=true→Zlh ps ds=[]
 | [],_,_=>rfl
 | p::ps,ds,h=>by
  rw [Ye,Yd] at h
  have e:Zqw p ds=([],ds):=by
   cases p with
   | val a t ms=>
    show Zdk (Zwj (Zbb t) ms) ds=_;rw [Zweb _ _ h.1];rfl
   | rptr t=>rfl
   | ref _ _ _=>cases h.1
   | fn _ _=>cases h.1
   | mv _ _=>cases h.1
  show (Zqw p ds).1++Zlh ps (Zqw p ds).2=[];rw [e];exact Z8ab ps ds h.2
end
theorem Zfab {P:Program} {n:FuncId} {s:Sig} {f:Zcb s.ins→Option (Zcb s.outs)} (h:Ze P n (s.con f)) (hk:s.keptOk=true:=by kernel_rfl):Ze P n (s.conR f):=by
 unfold Sig.keptOk at hk
 rw [Yd] at hk
 refine ⟨h.1,fun asx rr hrr w vs F L M hF hnd hgl hargs=>?_⟩
 have hrr:(s.run f (asx.map Zq2)).val=some rr:=hrr
 have hfl:rr.res.all Zeo=true∧rr.refs=[]:=by
  unfold Sig.run at hrr;split at hrr
  ·split at hrr
   ·rename_i x _
    obtain ⟨y,_,hy⟩:=Option.map_eq_some_iff.1 (show (f x).map s.enc=some rr from hrr);rw [← hy];exact ⟨(Zh4 s.rs (Z3e s.outs y) (Zf3 s.ps) (Zqdb _ _) hk.2).1,Z8ab s.ps _ hk.1⟩
   ·cases hrr
  ·cases hrr
 refine (h.2 (asx.map Zq2) rr hrr w vs (Bor w (GI.blocks L++Zzb M)) L M (fun b hb=>hb) hnd hgl (Zih.weak hF hargs)).mono fun e w' ⟨v,he,hK,O1,O2,h1,h2,h3,h4⟩=>?_
 refine ⟨v,he,hK,O1,O2,h1,h2,?_,Zxob hfl.1 h4⟩
 rw [hfl.2] at h3 ⊢
 exact Ztob h3
end Go.Proofs.Qz
section
namespace Go.Proofs
open Go.Shelf
def Tryz.lays156_ren:Go.Shelf.Ren:=⟨fun | 156=>271 | 165=>297 | 166=>298 | 169=>299 | 240=>313 | 241=>314 | 276=>322 | 277=>323 | n=>n,fun | 31=>23 | 9=>9 | 3=>3 | 4=>4 | 0=>0 | 20=>20 | 72=>309 | 76=>313 | 70=>307 | 37=>22 | 75=>312 | 127=>327 | 164=>334 | 5=>5 | 80=>204 | n=>n,fun | n=>n⟩
theorem Tryz.lays156:Go.Proofs.Lays.n156 Yb Tryz.lays156_ren:={
 mixed:=by kernel_rfl
 f156:=Tryz.func271.trans (congrArg some (by kernel_rfl))
 f165:=Yaa.trans (congrArg some (by kernel_rfl))
 f166:=Yba.trans (congrArg some (by kernel_rfl))
 f169:=Yca.trans (congrArg some (by kernel_rfl))
 f240:=Yda.trans (congrArg some (by kernel_rfl))
 f241:=Yea.trans (congrArg some (by kernel_rfl))
 f276:=Yfa.trans (congrArg some (by kernel_rfl))
 f277:=Yga.trans (congrArg some (by kernel_rfl))
 t0:=Yv
 a0:=Yn
 z0:=Yr
 v0:=Yz
 t3:=Yw
 a3:=Yo
 z3:=Ys
 v3:=Y0
 t4:=Yx
 a4:=Yp
 z4:=Yt
 v4:=Y1
 t9:=Y7a
 a9:=Ypa
 z9:=Yya
 v9:=Ygb
 t20:=Yza
 a20:=Yha
 z20:=Yqa
 v20:=Y8a
 t31:=Tryz.underlying23
 a31:=Tryz.isAgg23
 z31:=Tryz.sizeOf23
 v31:=Tryz.zeroValue23
 t37:=Y0a
 a37:=Yia
 z37:=Yra
 v37:=Y9a
 t70:=Y1a
 a70:=Yja
 z70:=Ysa
 v70:=Yab
 t72:=Y2a
 a72:=Yka
 z72:=Yta
 v72:=Ybb
 t75:=Y3a
 a75:=Yla
 z75:=Yua
 v75:=Ycb
 t76:=Y4a
 a76:=Yma
 z76:=Yva
 v76:=Ydb
 t127:=Y5a
 a127:=Yna
 z127:=Ywa
 v127:=Yeb
 t164:=Y6a
 a164:=Yoa
 z164:=Yxa
 v164:=Yfb }
theorem Tryz.Builder_Extra_156:Builder.Extra Yb Tryz.lays156_ren:={
 sizeBuilder:=by kernel_rfl
 liesBuilder:=by kernel_rfl
 t5:=Yy
 a5:=Yq
 z5:=Yu
 v5:=Y2
 infoByte:=by kernel_rfl
 cellsByte:=by kernel_rfl
 sizeByte:=by kernel_rfl
 neB5:=by decide }
open Go.RowKit in
theorem Tryz.strings_Join_none (a:Option Addr) (c:Nat) (sep:ByteArray) (w:World):
  Calls Yb 271 #[.slice a 0 c,.string sep] w fun e w'=>e = .returned (.string ⟨#[]⟩)∧w'=w:=Any.strings_Join_none Tryz.lays156 Tryz.Builder_Extra_156 a c sep w
open Go.RowKit in
theorem Tryz.strings_Join (bk o c:Nat) (xs:List ByteArray) (sep:ByteArray) (w:World) (hcells:∀(j:Nat) x,xs[j]? = some x→w.cell? ⟨bk,o+j,none⟩=some (.string x)) (hbk:bk<w.heap.size) (hN:xs.length≤140737488355328) (hcap:xs.length≤c) (hlen:(Lib.join (xs.map (·.data.toList)) sep.data.toList).length≤140737488355328):
  Calls Yb 271 #[.slice (some ⟨bk,o,none⟩) xs.length c,.string sep] w fun e w'=>e = .returned (.string ⟨(Lib.join (xs.map (·.data.toList)) sep.data.toList).toArray⟩)∧Below w.heap.size w w':=Any.strings_Join Tryz.lays156 Tryz.Builder_Extra_156 bk o c xs sep w hcells hbk hN hcap hlen
def Tryz.lays105_ren:Go.Shelf.Ren:=⟨fun | 105=>294 | 212=>308 | 99=>309 | 165=>297 | 166=>298 | 170=>310 | 169=>299 | 263=>318 | 264=>319 | 206=>320 | 240=>313 | 241=>314 | 276=>322 | 277=>323 | n=>n,fun | 9=>9 | 3=>3 | 4=>4 | 20=>20 | 0=>0 | 46=>265 | 109=>320 | 5=>5 | 72=>309 | 76=>313 | 51=>297 | 146=>330 | 53=>215 | 148=>332 | 70=>307 | 37=>22 | 75=>312 | 127=>327 | 164=>334 | 80=>204 | n=>n,fun | n=>n⟩
theorem Tryz.lays105:Go.Proofs.Lays.n105 Yb Tryz.lays105_ren:={
 mixed:=by kernel_rfl
 f99:=Tryz.func309.trans (congrArg some (by kernel_rfl))
 f105:=Tryz.func294.trans (congrArg some (by kernel_rfl))
 f165:=Yaa.trans (congrArg some (by kernel_rfl))
 f166:=Yba.trans (congrArg some (by kernel_rfl))
 f169:=Yca.trans (congrArg some (by kernel_rfl))
 f170:=Tryz.func310.trans (congrArg some (by kernel_rfl))
 f206:=Tryz.func320.trans (congrArg some (by kernel_rfl))
 f212:=Tryz.func308.trans (congrArg some (by kernel_rfl))
 f240:=Yda.trans (congrArg some (by kernel_rfl))
 f241:=Yea.trans (congrArg some (by kernel_rfl))
 f263:=Tryz.func318.trans (congrArg some (by kernel_rfl))
 f264:=Tryz.func319.trans (congrArg some (by kernel_rfl))
 f276:=Yfa.trans (congrArg some (by kernel_rfl))
 f277:=Yga.trans (congrArg some (by kernel_rfl))
 t0:=Yv
 a0:=Yn
 z0:=Yr
 v0:=Yz
 t3:=Yw
 a3:=Yo
 z3:=Ys
 v3:=Y0
 t4:=Yx
 a4:=Yp
 z4:=Yt
 v4:=Y1
 t5:=Yy
 a5:=Yq
 z5:=Yu
 v5:=Y2
 t9:=Y7a
 a9:=Ypa
 z9:=Yya
 v9:=Ygb
 t20:=Yza
 a20:=Yha
 z20:=Yqa
 v20:=Y8a
 t37:=Y0a
 a37:=Yia
 z37:=Yra
 v37:=Y9a
 t46:=Tryz.underlying265
 a46:=Tryz.isAgg265
 z46:=Tryz.sizeOf265
 v46:=Tryz.zeroValue265
 t51:=Tryz.underlying297
 a51:=Tryz.isAgg297
 z51:=Tryz.sizeOf297
 v51:=Tryz.zeroValue297
 t53:=Tryz.underlying215
 a53:=Tryz.isAgg215
 z53:=Tryz.sizeOf215
 v53:=Tryz.zeroValue215
 t70:=Y1a
 a70:=Yja
 z70:=Ysa
 v70:=Yab
 t72:=Y2a
 a72:=Yka
 z72:=Yta
 v72:=Ybb
 t75:=Y3a
 a75:=Yla
 z75:=Yua
 v75:=Ycb
 t76:=Y4a
 a76:=Yma
 z76:=Yva
 v76:=Ydb
 t109:=Tryz.underlying320
 a109:=Tryz.isAgg320
 z109:=Tryz.sizeOf320
 v109:=Tryz.zeroValue320
 t127:=Y5a
 a127:=Yna
 z127:=Ywa
 v127:=Yeb
 t146:=Tryz.underlying330
 a146:=Tryz.isAgg330
 z146:=Tryz.sizeOf330
 v146:=Tryz.zeroValue330
 t148:=Tryz.underlying332
 a148:=Tryz.isAgg332
 z148:=Tryz.sizeOf332
 v148:=Tryz.zeroValue332
 t164:=Y6a
 a164:=Yoa
 z164:=Yxa
 v164:=Yfb }
theorem Tryz.Builder_Extra_105:Builder.Extra Yb Tryz.lays105_ren:={
 sizeBuilder:=by kernel_rfl
 liesBuilder:=by kernel_rfl
 t5:=Yy
 a5:=Yq
 z5:=Yu
 v5:=Y2
 infoByte:=by kernel_rfl
 cellsByte:=by kernel_rfl
 sizeByte:=by kernel_rfl
 neB5:=by decide }
open Go.RowKit Go.Lib in
theorem Tryz.strings_Repeat (s:ByteArray) (c:Nat) (w:World) (hc:c≤9223372036854775807) (hlen:s.size*c≤140737488355328):
  Calls Yb 294 #[.string s,.int .i64 c] w fun e w'=>e = .returned (.string ⟨(Lib.repeatL s.data.toList c).toArray⟩)∧Below w.heap.size w w':=Any.strings_Repeat Tryz.lays105 Tryz.Builder_Extra_105 s c w hc hlen
def Tryz.laysNm223_ren:Go.Shelf.Ren:=⟨fun | 23=>204 | n=>n,fun | 22=>221 | 3=>3 | 4=>4 | 0=>0 | n=>n,fun | n=>n⟩
theorem Tryz.laysNm223:Go.Proofs.Lays2.n23 Yb Tryz.laysNm223_ren:={
 mixed:=by kernel_rfl
 f23:=Tryz.func204.trans (congrArg some (by kernel_rfl))
 t0:=Yv
 a0:=Yn
 z0:=Yr
 v0:=Yz
 t3:=Yw
 a3:=Yo
 z3:=Ys
 v3:=Y0
 t4:=Yx
 a4:=Yp
 z4:=Yt
 v4:=Y1
 t22:=Tryz.underlying221
 a22:=Tryz.isAgg221
 z22:=Tryz.sizeOf221
 v22:=Tryz.zeroValue221
 i3:=by kernel_rfl }
open Go.RowKit Go.Lib Go.Sort in
theorem Tryz.slices_Delete_int (blk off cap i j:Nat) (zs:List Int) (w:World) (hH:Holds (Value.int .i64) w blk off zs.toArray) (hcap:zs.length≤cap) (hm:cap≤9223372036854775807) (hij:i≤j) (hj:j≤zs.length):
  Calls Yb 204 #[.slice (some ⟨blk,off,none⟩) zs.length cap,.int .i64 i,.int .i64 j] w fun e w'=>e = .returned (.slice (some ⟨blk,off,none⟩) (zs.length-(j-i)) cap)∧∃q,w'=putRow (Value.int .i64) (Sort.ahead w q) blk off (zs.take i++zs.drop j++Y8 (j-i) 0).toArray:=Any.slices_Delete_int Tryz.laysNm223 blk off cap i j zs w hH hcap hm hij hj
open Go.RowKit Go.Lib Go.Sort in
theorem Tryz.slices_Delete_int_cells (b off n c i j:Nat) (zs:List Int) (w:World) (hz:n≤zs.length) (hcap:n≤c) (hm:c≤9223372036854775807) (hij:i≤j) (hj:j≤n) (hc:∀j,j<zs.length→w.cell? ⟨b,off+j,none⟩=some (.int .i64 (zs.getD j 0))) (hf:∀j,j<n→w.frozen? ⟨b,off+j,none⟩=false):
  Calls Yb 204 #[.slice (some ⟨b,off,none⟩) n c,.int .i64 i,.int .i64 j] w fun e w'=>e = .returned (.slice (some ⟨b,off,none⟩) (n-(j-i)) c)∧∃q,w'=(w.drewN q).setCells b off (((zs.take n).take i++(zs.take n).drop j++Y8 (j-i) 0).map (Value.int .i64)):=Any.slices_Delete_int_cells Tryz.laysNm223 b off n c i j zs w hz hcap hm hij hj hc hf
open Go.RowKit Go.Lib in
theorem Tryz.slices_Delete_int_empty (a:Option Addr) (c:Nat) (w:World):
  Calls Yb 204 #[.slice a 0 c,.int .i64 0,.int .i64 0] w fun e w'=>e = .returned (.slice a 0 c)∧w'=w:=Any.slices_Delete_int_empty Tryz.laysNm223 a c w
end Go.Proofs
end
namespace Go.Proofs.Qz
open Go Go.RowKit
set_option linter.unusedVariables false
set_option linter.defProp false
abbrev Zo:Ty:=(.pair (.int .i64) .str)
abbrev Zq:=Int×Str
abbrev Zsi:Ty:=(.pair (.int .i64) (.int .i64))
abbrev Zyk:=Int×Int
abbrev T42:Ty:=(.pair (.sl .str) (.int .i64))
abbrev Z12:Ty:=(.pair (.sl (.int .i64)) (.int .i64))
abbrev G254:=List Int×Int
abbrev Z6b:Ty:=(.pair .bool Zo)
abbrev Zmc:=Bool×Zq
abbrev Zzk:Ty:=(.pair .str (.pair (.int .i64) .bool))
abbrev Z0v:=Str×Int×Bool
abbrev T156:Ty:=(.pair (.int .i64) (.pair .str (.int .i64)))
abbrev T269:Ty:=(.pair .str Zsi)
abbrev Zx8:Ty:=(.pair (.int .i64) Zsi)
abbrev G272:=Int×Zyk
abbrev T26:Ty:=(.pair (.sl .str) (.sl Zo))
abbrev G26:=List Str×List Zq
abbrev T52:Ty:=(.pair (.int .i64) (.pair (.int .i64) Zo))
abbrev G52:=Int×Int×Zq
abbrev Z5b:Ty:=(.pair (.int .i64) Zx8)
abbrev Zed:=Int×G272
abbrev T28:Ty:=(.pair (.int .i64) T26)
abbrev G28:=Int×G26
abbrev T262:Ty:=(.pair (.sl (.int .u8)) (.pair (.int .i64) (.pair (.int .u64) (.int .i64))))
abbrev T318:Ty:=(.pair T52 (.int .i64))
abbrev T109:Ty:=(.pair T26 (.pair .str (.int .i64)))
abbrev T38:Ty:=(.pair T28 (.int .i64))
abbrev T100:Ty:=(.pair (.sl Z5b) (.int .i64))
abbrev T33:Ty:=(.pair (.int .i64) (.pair .str (.sl T52)))
abbrev T121:Ty:=(.pair (.sl Z6b) (.pair .str Z12))
abbrev T35:Ty:=(.pair T33 (.int .i64))
abbrev T70:Ty:=(.pair T28 (.pair .str Z12))
abbrev G70:=G28×Str×G254
abbrev T54:Ty:=(.pair (.int .i64) (.pair (.int .i64) (.pair (.int .i64) (.pair .str T52))))
abbrev G54:=Int×Int×Int×Str×G52
abbrev T46:Ty:=(.pair (.int .i64) (.pair (.int .i64) (.pair (.int .i64) (.pair (.int .i64) (.pair (.int .i64) (.pair .str (.pair (.sl (.int .i64)) (.sl (.int .i64)))))))))
abbrev G46:=Int×Int×Int×Int×Int×Str×List Int×List Int
abbrev T48:Ty:=(.pair T46 (.int .i64))
abbrev T86:Ty:=(.pair T54 (.pair (.int .i64) (.pair (.sl (.int .i64)) (.sl (.int .i64)))))
abbrev G86:=G54×Int×List Int×List Int
def TAB:Tab TI:=(.node (.node (.node (.node (.node (.node (.node .nil (some { sz:=3,agg:=true,offs:=[(0,2),(1,61)],elem:=0,kind:=4,ik:=.i64,bytes:=56,zero:=[.int .i64 0,.nil,.nil],ty:=T28,eqs:=false }) .nil) (some { sz:=1,agg:=false,offs:=[],elem:=52,kind:=3,ik:=.i64,bytes:=24,zero:=[.nil],ty:=(.sl T52),eqs:=false }) .nil) none (.node .nil none (.node .nil (some { sz:=1,agg:=false,offs:=[],elem:=151,kind:=3,ik:=.i64,bytes:=24,zero:=[.nil],ty:=(.sl Z6b),eqs:=false }) .nil))) none (.node .nil (some { sz:=1,agg:=false,offs:=[],elem:=9,kind:=3,ik:=.i64,bytes:=24,zero:=[.nil],ty:=(.sl .str),eqs:=false }) (.node (.node (.node .nil (some { sz:=3,agg:=true,offs:=[(0,4),(1,2),(2,9)],elem:=0,kind:=4,ik:=.i64,bytes:=32,zero:=[.kb false,.int .i64 0,.str []],ty:=Z6b,eqs:=true }) .nil) none (.node .nil (some { sz:=1,agg:=false,offs:=[],elem:=0,kind:=1,ik:=.u64,bytes:=8,zero:=[.int .u64 0],ty:=(.int .u64),eqs:=false }) .nil)) none .nil))) (some { sz:=1,agg:=false,offs:=[],elem:=0,kind:=1,ik:=.i64,bytes:=8,zero:=[.int .i64 0],ty:=(.int .i64),eqs:=false }) (.node (.node (.node (.node .nil none (.node .nil (some { sz:=2,agg:=true,offs:=[(0,2),(1,9)],elem:=0,kind:=4,ik:=.i64,bytes:=24,zero:=[.int .i64 0,.str []],ty:=Zo,eqs:=true }) .nil)) (some { sz:=4,agg:=true,offs:=[(0,33),(3,2)],elem:=0,kind:=4,ik:=.i64,bytes:=56,zero:=[.int .i64 0,.str [],.nil,.int .i64 0],ty:=T35,eqs:=false }) .nil) none (.node .nil none (.node .nil none (.node .nil (some { sz:=2,agg:=true,offs:=[(0,2),(1,2)],elem:=0,kind:=4,ik:=.i64,bytes:=16,zero:=[.int .i64 0,.int .i64 0],ty:=Zsi,eqs:=true }) .nil)))) none (.node (.node (.node (.node .nil (some { sz:=4,agg:=true,offs:=[(0,2),(1,2),(2,2),(3,2)],elem:=0,kind:=4,ik:=.i64,bytes:=32,zero:=[.int .i64 0,.int .i64 0,.int .i64 0,.int .i64 0],ty:=Z5b,eqs:=true }) .nil) none .nil) none .nil) none (.node .nil (some { sz:=1,agg:=false,offs:=[],elem:=248,kind:=3,ik:=.i64,bytes:=24,zero:=[.nil],ty:=(.sl Zo),eqs:=false }) .nil)))) none (.node (.node (.node (.node .nil (some { sz:=3,agg:=true,offs:=[(0,2),(1,9),(2,31)],elem:=0,kind:=4,ik:=.i64,bytes:=48,zero:=[.int .i64 0,.str [],.nil],ty:=T33,eqs:=false }) (.node (.node (.node .nil (some { sz:=3,agg:=true,offs:=[(0,9),(1,2),(2,4)],elem:=0,kind:=4,ik:=.i64,bytes:=32,zero:=[.str [],.int .i64 0,.kb false],ty:=Zzk,eqs:=true }) .nil) none .nil) none .nil)) none .nil) (some { sz:=1,agg:=false,offs:=[],elem:=0,kind:=2,ik:=.i64,bytes:=16,zero:=[.str []],ty:=.str,eqs:=false }) (.node (.node (.node (.node (.node .nil (some { sz:=1,agg:=false,offs:=[],elem:=0,kind:=1,ik:=.u64,bytes:=8,zero:=[.int .u64 0],ty:=(.int .u64),eqs:=false }) .nil) none .nil) none .nil) none (.node (.node (.node .nil (some { sz:=1,agg:=false,offs:=[],elem:=0,kind:=1,ik:=.u32,bytes:=4,zero:=[.int .u32 0],ty:=(.int .u32),eqs:=false }) .nil) none .nil) none .nil)) none (.node .nil none (.node .nil (some { sz:=4,agg:=true,offs:=[(0,111),(1,9),(2,44),(3,2)],elem:=0,kind:=4,ik:=.i64,bytes:=72,zero:=[.nil,.str [],.nil,.int .i64 0],ty:=T121,eqs:=false }) .nil)))) (some { sz:=1,agg:=false,offs:=[],elem:=0,kind:=1,ik:=.u8,bytes:=1,zero:=[.int .u8 0],ty:=(.int .u8),eqs:=false }) (.node .nil none (.node (.node (.node (.node (.node .nil (some { sz:=3,agg:=true,offs:=[(0,9),(1,2),(2,2)],elem:=0,kind:=4,ik:=.i64,bytes:=32,zero:=[.str [],.int .i64 0,.int .i64 0],ty:=T269,eqs:=true }) .nil) none .nil) none (.node .nil (some { sz:=1,agg:=false,offs:=[],elem:=4,kind:=3,ik:=.i64,bytes:=24,zero:=[.nil],ty:=(.sl .bool),eqs:=false }) .nil)) none (.node .nil (some { sz:=4,agg:=true,offs:=[(0,26),(2,9),(3,2)],elem:=0,kind:=4,ik:=.i64,bytes:=72,zero:=[.nil,.nil,.str [],.int .i64 0],ty:=T109,eqs:=false }) .nil)) none (.node (.node .nil none (.node .nil (some { sz:=1,agg:=false,offs:=[],elem:=3,kind:=3,ik:=.i64,bytes:=24,zero:=[.nil],ty:=(.sl (.int .i64)),eqs:=false }) .nil)) (some { sz:=2,agg:=true,offs:=[(0,23),(1,59)],elem:=0,kind:=4,ik:=.i64,bytes:=48,zero:=[.nil,.nil],ty:=T26,eqs:=false }) .nil))))) none (.node (.node (.node (.node (.node (.node .nil (some { sz:=4,agg:=true,offs:=[(0,2),(1,2),(2,2),(3,9)],elem:=0,kind:=4,ik:=.i64,bytes:=40,zero:=[.int .i64 0,.int .i64 0,.int .i64 0,.str []],ty:=T52,eqs:=true }) .nil) none .nil) none (.node (.node (.node (.node .nil (some { sz:=3,agg:=true,offs:=[(0,2),(1,2),(2,2)],elem:=0,kind:=4,ik:=.i64,bytes:=24,zero:=[.int .i64 0,.int .i64 0,.int .i64 0],ty:=Zx8,eqs:=true }) .nil) none .nil) none .nil) (some { sz:=9,agg:=true,offs:=[(0,46),(8,2)],elem:=0,kind:=4,ik:=.i64,bytes:=112,zero:=[.int .i64 0,.int .i64 0,.int .i64 0,.int .i64 0,.int .i64 0,.str [],.nil,.nil,.int .i64 0],ty:=T48,eqs:=false }) (.node .nil none (.node .nil (some { sz:=1,agg:=false,offs:=[],elem:=243,kind:=3,ik:=.i64,bytes:=24,zero:=[.nil],ty:=(.sl Zsi),eqs:=false }) .nil)))) none (.node (.node .nil none (.node (.node (.node .nil (some { sz:=1,agg:=false,offs:=[],elem:=297,kind:=3,ik:=.i64,bytes:=24,zero:=[.nil],ty:=(.sl (.int .u32)),eqs:=false }) .nil) none .nil) none .nil)) (some { sz:=1,agg:=false,offs:=[],elem:=195,kind:=3,ik:=.i64,bytes:=24,zero:=[.nil],ty:=(.sl Zo),eqs:=false }) (.node .nil none (.node .nil none (.node .nil (some { sz:=2,agg:=true,offs:=[(0,2),(1,9)],elem:=0,kind:=4,ik:=.i64,bytes:=24,zero:=[.int .i64 0,.str []],ty:=Zo,eqs:=true }) .nil))))) (some { sz:=1,agg:=false,offs:=[],elem:=0,kind:=5,ik:=.i64,bytes:=1,zero:=[.kb false],ty:=.bool,eqs:=false }) (.node (.node (.node (.node .nil none (.node (.node .nil (some { sz:=64,agg:=true,offs:=[(64,0)],elem:=297,kind:=7,ik:=.i64,bytes:=256,zero:=[.int .u32 0,.int .u32 0,.int .u32 0,.int .u32 0,.int .u32 0,.int .u32 0,.int .u32 0,.int .u32 0,.int .u32 0,.int .u32 0,.int .u32 0,.int .u32 0,.int .u32 0,.int .u32 0,.int .u32 0,.int .u32 0,.int .u32 0,.int .u32 0,.int .u32 0,.int .u32 0,.int .u32 0,.int .u32 0,.int .u32 0,.int .u32 0,.int .u32 0,.int .u32 0,.int .u32 0,.int .u32 0,.int .u32 0,.int .u32 0,.int .u32 0,.int .u32 0,.int .u32 0,.int .u32 0,.int .u32 0,.int .u32 0,.int .u32 0,.int .u32 0,.int .u32 0,.int .u32 0,.int .u32 0,.int .u32 0,.int .u32 0,.int .u32 0,.int .u32 0,.int .u32 0,.int .u32 0,.int .u32 0,.int .u32 0,.int .u32 0,.int .u32 0,.int .u32 0,.int .u32 0,.int .u32 0,.int .u32 0,.int .u32 0,.int .u32 0,.int .u32 0,.int .u32 0,.int .u32 0,.int .u32 0,.int .u32 0,.int .u32 0,.int .u32 0],ty:=.unit,eqs:=false }) .nil) none .nil)) none (.node .nil (some { sz:=2,agg:=true,offs:=[(0,98),(1,2)],elem:=0,kind:=4,ik:=.i64,bytes:=32,zero:=[.nil,.int .i64 0],ty:=T100,eqs:=false }) .nil)) none (.node .nil (some { sz:=4,agg:=true,offs:=[(0,2),(1,2),(2,2),(3,9)],elem:=0,kind:=4,ik:=.i64,bytes:=40,zero:=[.int .i64 0,.int .i64 0,.int .i64 0,.str []],ty:=T52,eqs:=true }) .nil)) none (.node (.node .nil (some { sz:=1,agg:=false,offs:=[],elem:=2,kind:=3,ik:=.i64,bytes:=24,zero:=[.nil],ty:=(.sl (.int .i64)),eqs:=false }) .nil) (some { sz:=3,agg:=true,offs:=[(0,2),(1,26)],elem:=0,kind:=4,ik:=.i64,bytes:=56,zero:=[.int .i64 0,.nil,.nil],ty:=T28,eqs:=false }) (.node (.node (.node .nil (some { sz:=3,agg:=true,offs:=[(0,2),(1,9),(2,2)],elem:=0,kind:=4,ik:=.i64,bytes:=32,zero:=[.int .i64 0,.str [],.int .i64 0],ty:=T156,eqs:=true }) .nil) none .nil) none .nil)))) (some { sz:=1,agg:=false,offs:=[],elem:=0,kind:=1,ik:=.i64,bytes:=8,zero:=[.int .i64 0],ty:=(.int .i64),eqs:=false }) (.node (.node (.node (.node (.node .nil (some { sz:=8,agg:=true,offs:=[(0,2),(1,2),(2,2),(3,9),(4,64)],elem:=0,kind:=4,ik:=.i64,bytes:=80,zero:=[.int .i64 0,.int .i64 0,.int .i64 0,.str [],.int .i64 0,.int .i64 0,.int .i64 0,.str []],ty:=T54,eqs:=true }) .nil) none (.node .nil (some { sz:=1,agg:=false,offs:=[],elem:=139,kind:=3,ik:=.i64,bytes:=24,zero:=[.nil],ty:=(.sl Z5b),eqs:=false }) .nil)) none .nil) none (.node (.node .nil (some { sz:=2,agg:=true,offs:=[(0,23),(1,2)],elem:=0,kind:=4,ik:=.i64,bytes:=32,zero:=[.nil,.int .i64 0],ty:=T42,eqs:=false }) (.node .nil none (.node .nil (some { sz:=3,agg:=true,offs:=[(0,9),(1,2),(2,4)],elem:=0,kind:=4,ik:=.i64,bytes:=32,zero:=[.str [],.int .i64 0,.kb false],ty:=Zzk,eqs:=true }) .nil))) (some { sz:=2,agg:=true,offs:=[(0,23),(1,24)],elem:=0,kind:=4,ik:=.i64,bytes:=48,zero:=[.nil,.nil],ty:=T26,eqs:=false }) (.node (.node .nil (some { sz:=11,agg:=true,offs:=[(0,54),(8,2),(9,44),(10,44)],elem:=0,kind:=4,ik:=.i64,bytes:=136,zero:=[.int .i64 0,.int .i64 0,.int .i64 0,.str [],.int .i64 0,.int .i64 0,.int .i64 0,.str [],.int .i64 0,.nil,.nil],ty:=T86,eqs:=false }) .nil) none .nil))) none (.node (.node (.node (.node (.node (.node .nil (some { sz:=4,agg:=true,offs:=[(0,22),(1,3),(2,215),(3,2)],elem:=0,kind:=4,ik:=.i64,bytes:=48,zero:=[.nil,.int .i64 0,.int .u64 0,.int .i64 0],ty:=T262,eqs:=false }) .nil) none .nil) (some { sz:=6,agg:=true,offs:=[(0,28),(3,9),(4,44),(5,2)],elem:=0,kind:=4,ik:=.i64,bytes:=104,zero:=[.int .i64 0,.nil,.nil,.str [],.nil,.int .i64 0],ty:=T70,eqs:=false }) .nil) (some { sz:=4,agg:=true,offs:=[(0,28),(3,2)],elem:=0,kind:=4,ik:=.i64,bytes:=64,zero:=[.int .i64 0,.nil,.nil,.int .i64 0],ty:=T38,eqs:=false }) .nil) (some { sz:=1,agg:=false,offs:=[],elem:=5,kind:=3,ik:=.i64,bytes:=24,zero:=[.nil],ty:=(.sl (.int .u8)),eqs:=false }) (.node (.node .nil (some { sz:=11,agg:=true,offs:=[(0,66),(8,2),(9,44),(10,44)],elem:=0,kind:=4,ik:=.i64,bytes:=136,zero:=[.int .i64 0,.int .i64 0,.int .i64 0,.str [],.int .i64 0,.int .i64 0,.int .i64 0,.str [],.int .i64 0,.nil,.nil],ty:=T86,eqs:=false }) .nil) (some { sz:=8,agg:=true,offs:=[(0,2),(1,2),(2,2),(3,9),(4,52)],elem:=0,kind:=4,ik:=.i64,bytes:=80,zero:=[.int .i64 0,.int .i64 0,.int .i64 0,.str [],.int .i64 0,.int .i64 0,.int .i64 0,.str []],ty:=T54,eqs:=true }) .nil)) none (.node (.node .nil (some { sz:=8,agg:=true,offs:=[(0,2),(1,2),(2,2),(3,2),(4,2),(5,9),(6,44),(7,44)],elem:=0,kind:=4,ik:=.i64,bytes:=104,zero:=[.int .i64 0,.int .i64 0,.int .i64 0,.int .i64 0,.int .i64 0,.str [],.nil,.nil],ty:=T46,eqs:=false }) (.node (.node (.node .nil (some { sz:=8,agg:=true,offs:=[(8,0)],elem:=297,kind:=7,ik:=.i64,bytes:=32,zero:=[.int .u32 0,.int .u32 0,.int .u32 0,.int .u32 0,.int .u32 0,.int .u32 0,.int .u32 0,.int .u32 0],ty:=.unit,eqs:=false }) .nil) none .nil) none .nil)) none (.node (.node .nil none (.node .nil (some { sz:=1,agg:=false,offs:=[],elem:=1000222,kind:=6,ik:=.i64,bytes:=8,zero:=[.unk],ty:=(.sl (.int .i64)),eqs:=false }) .nil)) none (.node (.node (.node .nil (some { sz:=5,agg:=true,offs:=[(0,52),(4,2)],elem:=0,kind:=4,ik:=.i64,bytes:=48,zero:=[.int .i64 0,.int .i64 0,.int .i64 0,.str [],.int .i64 0],ty:=T318,eqs:=true }) .nil) none .nil) none (.node .nil (some { sz:=2,agg:=true,offs:=[(0,44),(1,2)],elem:=0,kind:=4,ik:=.i64,bytes:=32,zero:=[.nil,.int .i64 0],ty:=Z12,eqs:=false }) .nil))))))))
theorem Z6t:Zkb Yb TAB∧Yb.follows .mixedOrders=true:=⟨Zqrb (by kernel_rfl),by kernel_rfl⟩
theorem cX {L:List (Nat×Con)} (h:Z9o Yb L):CtxOk Yb { ti:=TAB,con:=Z3l L }:=Zdu Z6t h
theorem cXr (r t:Bool) {L:List (Nat×Con)} (h:Z9o Yb L):CtxOk Yb { ti:=TAB,con:=Z3l L,rob:=r,tl:=t }:=Zdu Z6t h
def Zkf.l0:Nat→List Str→Int→Int→Option (Int ⊕ Int)
 | 0,_,_,_=>none
 | j+1,a1,a2,a3=>bif decide (a3<((a1.length):Int)) then Ya (at? a1 a3) fun v4=>let e5:=Yc .i64 (a2-((v4.length):Int));bif decide (e5<0) then some (.inr (-1)) else Zkf.l0 j a1 e5 (Yc .i64 (a3+1)) else some (.inl a2)
def Zkf (k:Nat) (a1:List Str) (a2:Int):Option (Int):=let e3:=Yc .i64 (a2-((a1.length):Int));bif decide (e3<0) then some (-1) else Ya (Zkf.l0 k a1 e3 0) fun
  | .inl y4=>some y4
  | .inr y5=>some y5
def Zkf.con (k:Nat):Con:=Sig.con { ps:=[.val false (.sl .str) (ros (.sl .str)),.val false (.int .i64) (ros (.int .i64))],rs:=[.val false [.v (.int .i64)]],ntmps:=28 } (fun x=>Zkf k x.1 x.2)
def Zkf.cok (k:Nat):=cX cN
def Zkf.l0.s (k:Nat):Summ:=lp 28 { tmps:=[(0,.one (.bor .str)),(1,.one (.v (.int .i64))),(5,.one (.v (.int .i64)))],slots:=[],nb:=0 } [(.exit 0,{ tmps:=[(1,.one (.v (.int .i64)))],slots:=[],nb:=0 }),(.ret,{ tmps:=[(4,.one (.v (.int .i64)))],slots:=[],nb:=0 })] (fun j x=>Zkf.l0 j x.1 x.2.1 x.2.2) k
def Zkf.l0.ok (k:Nat):=(lA (Zkf.cok k):Zj Yb _ (.loop (cO (cO (cR (cL (cR (cR (cR (cB Tryz.f148))))))))) (Zkf.l0.s k))
theorem Zkf.ok (k:Nat):Ze Yb 148 (Zkf.con k):=fP (.two .auto (.two .auto (.two .auto (.two (.two .auto (.one (.sum (Zkf.l0.s k)))) .auto)))) (Zkf.cok k) Tryz.func148 (sC (Zkf.l0.ok k) sN)
def Zyq (a1:Zq) (a2:Int):Option (Int):=let e3:=Yc .i64 (a2-((a1.2.length):Int));bif decide (e3<0) then some (-1) else some e3
def Zyq.con (k:Nat):Con:=Sig.con { ps:=[.val true Zo (ros Zo),.val false (.int .i64) (ros (.int .i64))],rs:=[.val false [.v (.int .i64)]],ntmps:=13 } (fun x=>Zyq x.1 x.2)
theorem Zyq.ok (k:Nat):Ze Yb 226 (Zyq.con k):=fA (cX cN) Tryz.func226
def Zjf.l0:Nat→List Zq→Int→Int→Option (Int ⊕ Int)
 | 0,_,_,_=>none
 | j+1,a1,a2,a3=>bif decide (a3<((a1.length):Int)) then Ya (at? a1 a3) fun v4=>Ya (Zyq v4 a2) fun v5=>bif decide (v5<0) then some (.inr (-1)) else Zjf.l0 j a1 v5 (Yc .i64 (a3+1)) else some (.inl a2)
def Zjf (k:Nat) (a1:List Zq) (a2:Int):Option (Int):=let e3:=Yc .i64 (a2-((a1.length):Int));bif decide (e3<0) then some (-1) else Ya (Zjf.l0 k a1 e3 0) fun
  | .inl y4=>some y4
  | .inr y5=>some y5
def Zjf.con (k:Nat):Con:=Sig.con { ps:=[.val false (.sl Zo) (ros (.sl Zo)),.val false (.int .i64) (ros (.int .i64))],rs:=[.val false [.v (.int .i64)]],ntmps:=27 } (fun x=>Zjf k x.1 x.2)
def Zjf.cok (k:Nat):=cX (cC (Zyq.ok k) cN)
def Zjf.l0.s (k:Nat):Summ:=lp 27 { tmps:=[(0,.one (.bor Zo)),(1,.one (.v (.int .i64))),(5,.one (.v (.int .i64)))],slots:=[],nb:=0 } [(.exit 0,{ tmps:=[(1,.one (.v (.int .i64)))],slots:=[],nb:=0 }),(.ret,{ tmps:=[(4,.one (.v (.int .i64)))],slots:=[],nb:=0 })] (fun j x=>Zjf.l0 j x.1 x.2.1 x.2.2) k
def Zjf.l0.ok (k:Nat):=(lA (Zjf.cok k):Zj Yb _ (.loop (cO (cO (cR (cL (cR (cR (cR (cB Tryz.f149))))))))) (Zjf.l0.s k))
theorem Zjf.ok (k:Nat):Ze Yb 149 (Zjf.con k):=fP (.two .auto (.two .auto (.two .auto (.two (.two .auto (.one (.sum (Zjf.l0.s k)))) .auto)))) (Zjf.cok k) Tryz.func149 (sC (Zjf.l0.ok k) sN)
def Zzq (k:Nat) (a1:G26) (a2:Int):Option (Int):=Ya (Zkf k a1.1 a2) fun v3=>bif decide (v3<0) then some (-1) else Ya (Zjf k a1.2 v3) fun v4=>bif decide (v4<0) then some (-1) else some v4
def Zzq.con (k:Nat):Con:=Sig.con { ps:=[.val true T26 (ros T26),.val false (.int .i64) (ros (.int .i64))],rs:=[.val false [.v (.int .i64)]],ntmps:=18 } (fun x=>Zzq k x.1 x.2)
theorem Zzq.ok (k:Nat):Ze Yb 67 (Zzq.con k):=fA (cXr true false (cC (Zkf.ok k) (cC (Zjf.ok k) cN))) Tryz.func67
def Z0q (k:Nat) (a1:G28) (a2:Int):Option (Int):=Ya (Zzq k a1.2 a2) fun v3=>bif decide (v3<0) then some (-1) else some v3
def Z0q.con (k:Nat):Con:=Sig.con { ps:=[.val true T28 (ros T28),.val false (.int .i64) (ros (.int .i64))],rs:=[.val false [.v (.int .i64)]],ntmps:=12 } (fun x=>Z0q k x.1 x.2)
theorem Z0q.ok (k:Nat):Ze Yb 19 (Z0q.con k):=fA (cXr true false (cC (Zzq.ok k) cN)) Tryz.func19
def Zmf.l0:Nat→List Str→Int→List Str→Option ((List Str))
 | 0,_,_,_=>none
 | j+1,a1,a2,a3=>bif decide (a2<((a1.length):Int)) then Ya (at? a1 a2) fun v4=>Ya (at? a3 a2) fun v5=>Ya (at? a3 a2) fun v6=>Zmf.l0 j a1 (Yc .i64 (a2+1)) (Yg a3 (Yf a2) v4) else some a3
def Zmf (k:Nat) (a1:List Str):Option (List Str):=Ya (Z3g 16 ((a1.length):Int) ((a1.length):Int) []) fun v2=>Ya (Zmf.l0 k a1 0 v2) fun y3=>some y3
def Zmf.con (k:Nat):Con:=Sig.con { ps:=[.val false (.sl .str) (ros (.sl .str))],rs:=[.val false [.own 9 .str]],ntmps:=22 } (fun x=>Zmf k x)
def Zmf.cok (k:Nat):=cX cN
def Zmf.l0.s (k:Nat):Summ:=lp 22 { tmps:=[(0,.one (.bor .str)),(3,.one (.own 1)),(4,.one (.v (.int .i64)))],slots:=[(1,.arr false 9 .str)],nb:=2 } [(.exit 0,{ tmps:=[(3,.one (.own 2))],slots:=[(2,.arr false 9 .str)],nb:=3 })] (fun j x=>Zmf.l0 j x.1 x.2.1 x.2.2) k
def Zmf.l0.ok (k:Nat):=(lA (Zmf.cok k):Zj Yb _ (.loop (cO (cO (cR (cL (cR (cR (cB Tryz.f154)))))))) (Zmf.l0.s k))
theorem Zmf.ok (k:Nat):Ze Yb 154 (Zmf.con k):=fP (.two .auto (.two .auto (.two (.two .auto (.one (.sum (Zmf.l0.s k)))) .auto))) (Zmf.cok k) Tryz.func154 (sC (Zmf.l0.ok k) sN)
def Zxu (a1:Zq):Option (Int×Str):=some (a1.1,a1.2)
def Zxu.con (k:Nat):Con:=Sig.con { ps:=[.val true Zo (ros Zo)],rs:=[.val true [.v (.int .i64),.v .str]],ntmps:=11 } (fun x=>Zxu x)
theorem Zxu.ok (k:Nat):Ze Yb 240 (Zxu.con k):=fA (cX cN) Tryz.func240
def Zlf.l0:Nat→List Zq→Int→List Zq→Option ((List Zq))
 | 0,_,_,_=>none
 | j+1,a1,a2,a3=>bif decide (a2<((a1.length):Int)) then Ya (at? a1 a2) fun v4=>Ya (Zxu v4) fun v5=>Ya (at? a3 a2) fun v6=>Ya (at? a3 a2) fun v7=>Zlf.l0 j a1 (Yc .i64 (a2+1)) (Yg a3 (Yf a2) v5) else some a3
def Zlf (k:Nat) (a1:List Zq):Option (List Zq):=Ya (Z3g 24 ((a1.length):Int) ((a1.length):Int) (0,[])) fun v2=>Ya (Zlf.l0 k a1 0 v2) fun y3=>some y3
def Zlf.con (k:Nat):Con:=Sig.con { ps:=[.val false (.sl Zo) (ros (.sl Zo))],rs:=[.val false [.own 195 Zo]],ntmps:=23 } (fun x=>Zlf k x)
def Zlf.cok (k:Nat):=cX (cC (Zxu.ok k) cN)
def Zlf.l0.s (k:Nat):Summ:=lp 23 { tmps:=[(0,.one (.bor Zo)),(3,.one (.own 1)),(4,.one (.v (.int .i64)))],slots:=[(1,.arr false 195 Zo)],nb:=2 } [(.exit 0,{ tmps:=[(3,.one (.own 2))],slots:=[(2,.arr false 195 Zo)],nb:=3 })] (fun j x=>Zlf.l0 j x.1 x.2.1 x.2.2) k
def Zlf.l0.ok (k:Nat):=(lA (Zlf.cok k):Zj Yb _ (.loop (cO (cO (cR (cL (cR (cR (cB Tryz.f155)))))))) (Zlf.l0.s k))
theorem Zlf.ok (k:Nat):Ze Yb 155 (Zlf.con k):=fP (.two .auto (.two .auto (.two (.two .auto (.one (.sum (Zlf.l0.s k)))) .auto))) (Zlf.cok k) Tryz.func155 (sC (Zlf.l0.ok k) sN)
def Z2q (k:Nat) (a1:G26):Option (List Str×List Zq):=Ya (Zmf k a1.1) fun v2=>Ya (Zlf k a1.2) fun v3=>some (v2,v3)
def Z2q.con (k:Nat):Con:=Sig.con { ps:=[.val true T26 (ros T26)],rs:=[.val true [.own 9 .str,.own 195 Zo]],ntmps:=13 } (fun x=>Z2q k x)
theorem Z2q.ok (k:Nat):Ze Yb 71 (Z2q.con k):=fA (cXr true false (cC (Zmf.ok k) (cC (Zlf.ok k) cN))) Tryz.func71
def Zam (k:Nat) (a1:G28):Option (Int×List Str×List Zq):=Ya (Z2q k a1.2) fun v2=>some (a1.1,v2.1,v2.2)
def Zam.con (k:Nat):Con:=Sig.con { ps:=[.val true T28 (ros T28)],rs:=[.val true [.v (.int .i64),.own 9 .str,.own 195 Zo]],ntmps:=12 } (fun x=>Zam k x)
theorem Zam.ok (k:Nat):Ze Yb 22 (Zam.con k):=fA (cXr true false (cC (Z2q.ok k) cN)) Tryz.func22
def Z2f.l0:Nat→List Str→List Str→Int→Option (Unit ⊕ Bool)
 | 0,_,_,_=>none
 | j+1,a1,a2,a3=>bif decide (a3<((a1.length):Int)) then Ya (at? a1 a3) fun v4=>Ya (at? a2 a3) fun v5=>bif !(v4==v5) then some (.inr false) else Z2f.l0 j a1 a2 (Yc .i64 (a3+1)) else some (.inl ())
def Z2f (k:Nat) (a1:List Str) (a2:List Str):Option (Bool):=bif ((a1.length):Int) != ((a2.length):Int) then some false else Ya (Z2f.l0 k a1 a2 0) fun
  | .inl y3=>some true
  | .inr y4=>some y4
def Z2f.con (k:Nat):Con:=Sig.con { ps:=[.val false (.sl .str) (ros (.sl .str)),.val false (.sl .str) (ros (.sl .str))],rs:=[.val false [.v .bool]],ntmps:=26 } (fun x=>Z2f k x.1 x.2)
def Z2f.cok (k:Nat):=cX cN
def Z2f.l0.s (k:Nat):Summ:=lp 26 { tmps:=[(0,.one (.bor .str)),(1,.one (.bor .str)),(5,.one (.v (.int .i64)))],slots:=[],nb:=0 } [(.exit 0,{ tmps:=[],slots:=[],nb:=0 }),(.ret,{ tmps:=[(4,.one (.v .bool))],slots:=[],nb:=0 })] (fun j x=>Z2f.l0 j x.1 x.2.1 x.2.2) k
def Z2f.l0.ok (k:Nat):=(lA (Z2f.cok k):Zj Yb _ (.loop (cO (cO (cR (cL (cR (cR (cB Tryz.f156)))))))) (Z2f.l0.s k))
theorem Z2f.ok (k:Nat):Ze Yb 156 (Z2f.con k):=fP (.two .auto (.two .auto (.two (.two .auto (.one (.sum (Z2f.l0.s k)))) .auto))) (Z2f.cok k) Tryz.func156 (sC (Z2f.l0.ok k) sN)
def Zqq (a1:Zq) (a2:Zq):Option (Bool):=bif a1.1 != a2.1 then some false else bif !(a1.2==a2.2) then some false else some true
def Zqq.con (k:Nat):Con:=Sig.con { ps:=[.val true Zo (ros Zo),.val true Zo (ros Zo)],rs:=[.val false [.v .bool]],ntmps:=15 } (fun x=>Zqq x.1 x.2)
theorem Zqq.ok (k:Nat):Ze Yb 241 (Zqq.con k):=fA (cX cN) Tryz.func241
def Z1f.l0:Nat→List Zq→List Zq→Int→Option (Unit ⊕ Bool)
 | 0,_,_,_=>none
 | j+1,a1,a2,a3=>bif decide (a3<((a1.length):Int)) then Ya (at? a1 a3) fun v4=>Ya (at? a2 a3) fun v5=>Ya (Zqq v4 v5) fun v6=>bif !v6 then some (.inr false) else Z1f.l0 j a1 a2 (Yc .i64 (a3+1)) else some (.inl ())
def Z1f (k:Nat) (a1:List Zq) (a2:List Zq):Option (Bool):=bif ((a1.length):Int) != ((a2.length):Int) then some false else Ya (Z1f.l0 k a1 a2 0) fun
  | .inl y3=>some true
  | .inr y4=>some y4
def Z1f.con (k:Nat):Con:=Sig.con { ps:=[.val false (.sl Zo) (ros (.sl Zo)),.val false (.sl Zo) (ros (.sl Zo))],rs:=[.val false [.v .bool]],ntmps:=27 } (fun x=>Z1f k x.1 x.2)
def Z1f.cok (k:Nat):=cX (cC (Zqq.ok k) cN)
def Z1f.l0.s (k:Nat):Summ:=lp 27 { tmps:=[(0,.one (.bor Zo)),(1,.one (.bor Zo)),(5,.one (.v (.int .i64)))],slots:=[],nb:=0 } [(.exit 0,{ tmps:=[],slots:=[],nb:=0 }),(.ret,{ tmps:=[(4,.one (.v .bool))],slots:=[],nb:=0 })] (fun j x=>Z1f.l0 j x.1 x.2.1 x.2.2) k
def Z1f.l0.ok (k:Nat):=(lA (Z1f.cok k):Zj Yb _ (.loop (cO (cO (cR (cL (cR (cR (cB Tryz.f157)))))))) (Z1f.l0.s k))
theorem Z1f.ok (k:Nat):Ze Yb 157 (Z1f.con k):=fP (.two .auto (.two .auto (.two (.two .auto (.one (.sum (Z1f.l0.s k)))) .auto))) (Z1f.cok k) Tryz.func157 (sC (Z1f.l0.ok k) sN)
def Zrq (k:Nat) (a1:G26) (a2:G26):Option (Bool):=Ya (Z2f k a1.1 a2.1) fun v3=>bif !v3 then some false else Ya (Z1f k a1.2 a2.2) fun v4=>bif !v4 then some false else some true
def Zrq.con (k:Nat):Con:=Sig.con { ps:=[.val true T26 (ros T26),.val true T26 (ros T26)],rs:=[.val false [.v .bool]],ntmps:=17 } (fun x=>Zrq k x.1 x.2)
theorem Zrq.ok (k:Nat):Ze Yb 73 (Zrq.con k):=fA (cXr true false (cC (Z2f.ok k) (cC (Z1f.ok k) cN))) Tryz.func73
def Zdl (k:Nat) (a1:G28) (a2:G28):Option (Bool):=bif a1.1 != a2.1 then some false else Ya (Zrq k a1.2 a2.2) fun v3=>bif !v3 then some false else some true
def Zdl.con (k:Nat):Con:=Sig.con { ps:=[.val true T28 (ros T28),.val true T28 (ros T28)],rs:=[.val false [.v .bool]],ntmps:=16 } (fun x=>Zdl k x.1 x.2)
theorem Zdl.ok (k:Nat):Ze Yb 26 (Zdl.con k):=fA (cXr true false (cC (Zrq.ok k) cN)) Tryz.func26
def Zoe.l0:Nat→List Int→List Int→Int→Option (Unit ⊕ Bool)
 | 0,_,_,_=>none
 | j+1,a1,a2,a3=>bif decide (a3<((a1.length):Int)) then Ya (at? a1 a3) fun v4=>Ya (at? a2 a3) fun v5=>bif v4 != v5 then some (.inr false) else Zoe.l0 j a1 a2 (Yc .i64 (a3+1)) else some (.inl ())
def Zoe (k:Nat) (a1:List Int) (a2:List Int):Option (Bool):=bif ((a1.length):Int) != ((a2.length):Int) then some false else Ya (Zoe.l0 k a1 a2 0) fun
  | .inl y3=>some true
  | .inr y4=>some y4
def Zoe.con (k:Nat):Con:=Sig.con { ps:=[.val false (.sl (.int .i64)) (ros (.sl (.int .i64))),.val false (.sl (.int .i64)) (ros (.sl (.int .i64)))],rs:=[.val false [.v .bool]],ntmps:=26 } (fun x=>Zoe k x.1 x.2)
def Zoe.cok (k:Nat):=cX cN
def Zoe.l0.s (k:Nat):Summ:=lp 26 { tmps:=[(0,.one (.bor (.int .i64))),(1,.one (.bor (.int .i64))),(5,.one (.v (.int .i64)))],slots:=[],nb:=0 } [(.exit 0,{ tmps:=[],slots:=[],nb:=0 }),(.ret,{ tmps:=[(4,.one (.v .bool))],slots:=[],nb:=0 })] (fun j x=>Zoe.l0 j x.1 x.2.1 x.2.2) k
def Zoe.l0.ok (k:Nat):=(lA (Zoe.cok k):Zj Yb _ (.loop (cO (cO (cR (cL (cR (cR (cB Tryz.f33)))))))) (Zoe.l0.s k))
theorem Zoe.ok (k:Nat):Ze Yb 33 (Zoe.con k):=fP (.two .auto (.two .auto (.two (.two .auto (.one (.sum (Zoe.l0.s k)))) .auto))) (Zoe.cok k) Tryz.func33 (sC (Zoe.l0.ok k) sN)
def Zin (k:Nat) (a1:G70) (a2:G70):Option (Bool):=Ya (Zdl k a1.1 a2.1) fun v3=>bif !v3 then some false else bif !(a1.2.1==a2.2.1) then some false else Ya (Zoe k a1.2.2.1 a2.2.2.1) fun v4=>bif !v4 then some false else bif a1.2.2.2 != a2.2.2.2 then some false else some true
def Zin.con (k:Nat):Con:=Sig.con { ps:=[.val true T70 (ros T70),.val true T70 (ros T70)],rs:=[.val false [.v .bool]],ntmps:=27 } (fun x=>Zin k x.1 x.2)
theorem Zin.ok (k:Nat):Ze Yb 25 (Zin.con k):=fA (cXr true false (cC (Zdl.ok k) (cC (Zoe.ok k) cN))) Tryz.func25
def Z3c.l0:Nat→Int→Str→Option (Str)
 | 0,_,_=>none
 | j+1,a1,a2=>bif decide (0<a1) then Ya (nz? 10) fun v3=>Ya (Zsc (Zob [(Yc .u8 (Yc .i64 (48+(Yh a1 10))))]) a2) fun v4=>Ya (nz? 10) fun v5=>Z3c.l0 j (Yc .i64 (Yj a1 10)) v4 else some a2
def Z3c (k:Nat) (a1:Int):Option (Str):=bif decide (a1≤0) then some ([109,48]:Str) else Ya (Z3c.l0 k a1 []) fun y2=>Ya (Zsc ([109]:Str) y2) fun v3=>some v3
def Z3c.con (k:Nat):Con:=Sig.con { ps:=[.val false (.int .i64) (ros (.int .i64))],rs:=[.val false [.v .str]],ntmps:=20 } (fun x=>Z3c k x)
def Z3c.cok (k:Nat):=cX cN
def Z3c.l0.s (k:Nat):Summ:=lp 20 { tmps:=[(0,.one (.v (.int .i64))),(3,.one (.v .str))],slots:=[],nb:=0 } [(.exit 0,{ tmps:=[(3,.one (.v .str))],slots:=[],nb:=0 })] (fun j x=>Z3c.l0 j x.1 x.2) k
def Z3c.l0.ok (k:Nat):=(lA (Z3c.cok k):Zj Yb _ (.loop (cO (cO (cL (cR (cR (cR (cB Tryz.f242)))))))) (Z3c.l0.s k))
theorem Z3c.ok (k:Nat):Ze Yb 242 (Z3c.con k):=fP (.two .auto (.two .auto (.two .auto (.two (.one (.sum (Z3c.l0.s k))) .auto)))) (Z3c.cok k) Tryz.func242 (sC (Z3c.l0.ok k) sN)
def Z5f.l0 (k:Nat):Nat→Int→Int→List Str→Option ((Int×List Str))
 | 0,_,_,_=>none
 | j+1,a1,a2,a3=>bif decide (a2<((a3.length):Int)) then Ya (Z3c k a1) fun v4=>Ya (at? a3 a2) fun v5=>Ya (at? a3 a2) fun v6=>Z5f.l0 k j (Yc .i64 (a1+1)) (Yc .i64 (a2+1)) (Yg a3 (Yf a2) v4) else some (a1,a3)
def Z5f (k:Nat) (a1:List Str) (a2:Int):Option (Int×List Str):=Ya (Z5f.l0 k k a2 0 a1) fun y3=>some (y3.1,y3.2)
def Z5f.con (k:Nat):Con:=Sig.con { ps:=[.val false (.sl .str) [.own 9],.val false (.int .i64) (ros (.int .i64))],rs:=[.val false [.v (.int .i64)]],ntmps:=20 } (fun x=>Z5f k x.1 x.2)
def Z5f.cok (k:Nat):=cX (cC (Z3c.ok k) cN)
def Z5f.l0.s (k:Nat):Summ:=lp 20 { tmps:=[(0,.one (.pin 0)),(1,.one (.v (.int .i64))),(5,.one (.v (.int .i64)))],slots:=[(0,.pin 9 .str)],nb:=1 } [(.exit 0,{ tmps:=[(1,.one (.v (.int .i64)))],slots:=[(0,.pin 9 .str)],nb:=1 })] (fun j x=>Z5f.l0 k j x.1 x.2.1 x.2.2) k
def Z5f.l0.ok (k:Nat):=(lA (Z5f.cok k):Zj Yb _ (.loop (cO (cO (cR (cL (cR (cB Tryz.f158))))))) (Z5f.l0.s k))
theorem Z5f.ok (k:Nat):Ze Yb 158 (Z5f.con k):=fP (.two .auto (.two (.two .auto (.one (.sum (Z5f.l0.s k)))) .auto)) (Z5f.cok k) Tryz.func158 (sC (Z5f.l0.ok k) sN)
def Zif.l0 (k:Nat):Nat→Int→Int→List Zq→Option ((Int×List Zq))
 | 0,_,_,_=>none
 | j+1,a1,a2,a3=>bif decide (a2<((a3.length):Int)) then Ya (at? a3 a2) fun v4=>Ya (at? a3 a2) fun v5=>let e6:=Yc .i64 (a1+1);Ya (Z3c k e6) fun v7=>let e8:=Yg a3 (Yf a2) (a1,v5.2);let e9:=at? e8 a2;Ya (e9) fun v10=>Ya (e9) fun v11=>Zif.l0 k j (Yc .i64 (e6+1)) (Yc .i64 (a2+1)) (Yg e8 (Yf a2) (v11.1,v7)) else some (a1,a3)
def Zif (k:Nat) (a1:List Zq) (a2:Int):Option (Int×List Zq):=Ya (Zif.l0 k k a2 0 a1) fun y3=>some (y3.1,y3.2)
def Zif.con (k:Nat):Con:=Sig.con { ps:=[.val false (.sl Zo) [.own 195],.val false (.int .i64) (ros (.int .i64))],rs:=[.val false [.v (.int .i64)]],ntmps:=28 } (fun x=>Zif k x.1 x.2)
def Zif.cok (k:Nat):=cX (cC (Z3c.ok k) cN)
def Zif.l0.s (k:Nat):Summ:=lp 28 { tmps:=[(0,.one (.pin 0)),(1,.one (.v (.int .i64))),(5,.one (.v (.int .i64)))],slots:=[(0,.pin 195 Zo)],nb:=1 } [(.exit 0,{ tmps:=[(1,.one (.v (.int .i64)))],slots:=[(0,.pin 195 Zo)],nb:=1 })] (fun j x=>Zif.l0 k j x.1 x.2.1 x.2.2) k
def Zif.l0.ok (k:Nat):=(lA (Zif.cok k):Zj Yb _ (.loop (cO (cO (cR (cL (cR (cB Tryz.f159))))))) (Zif.l0.s k))
theorem Zif.ok (k:Nat):Ze Yb 159 (Zif.con k):=fP (.two .auto (.two (.two .auto (.one (.sum (Zif.l0.s k)))) .auto)) (Zif.cok k) Tryz.func159 (sC (Zif.l0.ok k) sN)
def Z9s (k:Nat) (a1:G26) (a2:Int):Option (Int×List Str×List Zq):=Ya (Z5f k a1.1 a2) fun v3=>Ya (Zif k a1.2 v3.1) fun v4=>some (v4.1,v3.2,v4.2)
def Z9s.con (k:Nat):Con:=Sig.con { ps:=[.val true T26 [.own 9,.own 195],.val false (.int .i64) (ros (.int .i64))],rs:=[.val false [.v (.int .i64)]],ntmps:=14 } (fun x=>Z9s k x.1 x.2)
theorem Z9s.ok (k:Nat):Ze Yb 74 (Z9s.con k):=fA (cX (cC (Z5f.ok k) (cC (Zif.ok k) cN))) Tryz.func74
def Zjn (k:Nat) (a1:G28) (a2:Int):Option (Int×List Str×List Zq):=Ya (Z9s k a1.2 a2) fun v3=>some (v3.1,v3.2.1,v3.2.2)
def Zjn.con (k:Nat):Con:=Sig.con { ps:=[.val true T28 [.v,.own 9,.own 195],.val false (.int .i64) (ros (.int .i64))],rs:=[.val false [.v (.int .i64)]],ntmps:=10 } (fun x=>Zjn k x.1 x.2)
theorem Zjn.ok (k:Nat):Ze Yb 27 (Zjn.con k):=fA (cX (cC (Z9s.ok k) cN)) Tryz.func27
def Zmd.l0:Nat→Int→Int→List Int→Option ((Int×List Int))
 | 0,_,_,_=>none
 | j+1,a1,a2,a3=>bif decide (a2<((a3.length):Int)) then Ya (at? a3 a2) fun v4=>Ya (at? a3 a2) fun v5=>Zmd.l0 j (Yc .i64 (a1+1)) (Yc .i64 (a2+1)) (Yg a3 (Yf a2) a1) else some (a1,a3)
def Zmd (k:Nat) (a1:List Int) (a2:Int):Option (Int×List Int):=Ya (Zmd.l0 k a2 0 a1) fun y3=>some (y3.1,y3.2)
def Zmd.con (k:Nat):Con:=Sig.con { ps:=[.val false (.sl (.int .i64)) [.own 2],.val false (.int .i64) (ros (.int .i64))],rs:=[.val false [.v (.int .i64)]],ntmps:=19 } (fun x=>Zmd k x.1 x.2)
def Zmd.cok (k:Nat):=cX cN
def Zmd.l0.s (k:Nat):Summ:=lp 19 { tmps:=[(0,.one (.pin 0)),(1,.one (.v (.int .i64))),(5,.one (.v (.int .i64)))],slots:=[(0,.pin 2 (.int .i64))],nb:=1 } [(.exit 0,{ tmps:=[(1,.one (.v (.int .i64)))],slots:=[(0,.pin 2 (.int .i64))],nb:=1 })] (fun j x=>Zmd.l0 j x.1 x.2.1 x.2.2) k
def Zmd.l0.ok (k:Nat):=(lA (Zmd.cok k):Zj Yb _ (.loop (cO (cO (cR (cL (cR (cB Tryz.f34))))))) (Zmd.l0.s k))
theorem Zmd.ok (k:Nat):Ze Yb 34 (Zmd.con k):=fP (.two .auto (.two (.two .auto (.one (.sum (Zmd.l0.s k)))) .auto)) (Zmd.cok k) Tryz.func34 (sC (Zmd.l0.ok k) sN)
def Zvq (k:Nat) (a1:G70) (a2:Int):Option (Int×List Str×List Zq×List Int):=Ya (Zjn k a1.1 a2) fun v3=>Ya (Zmd k a1.2.2.1 v3.1) fun v4=>some (v4.1,v3.2.1,v3.2.2,v4.2)
def Zvq.con (k:Nat):Con:=Sig.con { ps:=[.val true T70 [.v,.own 9,.own 195,.v,.own 2,.v],.val false (.int .i64) (ros (.int .i64))],rs:=[.val false [.v (.int .i64)]],ntmps:=14 } (fun x=>Zvq k x.1 x.2)
theorem Zvq.ok (k:Nat):Ze Yb 28 (Zvq.con k):=fA (cX (cC (Zjn.ok k) (cC (Zmd.ok k) cN))) Tryz.func28
def Z4f.l0 (k:Nat):Nat→List Str→Int→Int→Option (Int ⊕ Int)
 | 0,_,_,_=>none
 | j+1,a1,a2,a3=>bif decide (a3<((a1.length):Int)) then Ya (at? a1 a3) fun v4=>Ya (Z3c k a2) fun v5=>bif !(v4==v5) then some (.inr (-1)) else Z4f.l0 k j a1 (Yc .i64 (a2+1)) (Yc .i64 (a3+1)) else some (.inl a2)
def Z4f (k:Nat) (a1:List Str) (a2:Int):Option (Int):=Ya (Z4f.l0 k k a1 a2 0) fun
  | .inl y3=>some y3
  | .inr y4=>some y4
def Z4f.con (k:Nat):Con:=Sig.con { ps:=[.val false (.sl .str) (ros (.sl .str)),.val false (.int .i64) (ros (.int .i64))],rs:=[.val false [.v (.int .i64)]],ntmps:=22 } (fun x=>Z4f k x.1 x.2)
def Z4f.cok (k:Nat):=cX (cC (Z3c.ok k) cN)
def Z4f.l0.s (k:Nat):Summ:=lp 22 { tmps:=[(0,.one (.bor .str)),(1,.one (.v (.int .i64))),(5,.one (.v (.int .i64)))],slots:=[],nb:=0 } [(.exit 0,{ tmps:=[(1,.one (.v (.int .i64)))],slots:=[],nb:=0 }),(.ret,{ tmps:=[(4,.one (.v (.int .i64)))],slots:=[],nb:=0 })] (fun j x=>Z4f.l0 k j x.1 x.2.1 x.2.2) k
def Z4f.l0.ok (k:Nat):=(lA (Z4f.cok k):Zj Yb _ (.loop (cO (cO (cR (cL (cR (cB Tryz.f243))))))) (Z4f.l0.s k))
theorem Z4f.ok (k:Nat):Ze Yb 243 (Z4f.con k):=fP (.two .auto (.two (.two .auto (.one (.sum (Z4f.l0.s k)))) .auto)) (Z4f.cok k) Tryz.func243 (sC (Z4f.l0.ok k) sN)
def Z3f.l0 (k:Nat):Nat→List Zq→Int→Int→Option (Int ⊕ Int)
 | 0,_,_,_=>none
 | j+1,a1,a2,a3=>bif decide (a3<((a1.length):Int)) then Ya (at? a1 a3) fun v4=>bif v4.1 != a2 then some (.inr (-1)) else Ya (at? a1 a3) fun v5=>let e6:=Yc .i64 (a2+1);Ya (Z3c k e6) fun v7=>bif !(v5.2==v7) then some (.inr (-1)) else Z3f.l0 k j a1 (Yc .i64 (e6+1)) (Yc .i64 (a3+1)) else some (.inl a2)
def Z3f (k:Nat) (a1:List Zq) (a2:Int):Option (Int):=Ya (Z3f.l0 k k a1 a2 0) fun
  | .inl y3=>some y3
  | .inr y4=>some y4
def Z3f.con (k:Nat):Con:=Sig.con { ps:=[.val false (.sl Zo) (ros (.sl Zo)),.val false (.int .i64) (ros (.int .i64))],rs:=[.val false [.v (.int .i64)]],ntmps:=32 } (fun x=>Z3f k x.1 x.2)
def Z3f.cok (k:Nat):=cX (cC (Z3c.ok k) cN)
def Z3f.l0.s (k:Nat):Summ:=lp 32 { tmps:=[(0,.one (.bor Zo)),(1,.one (.v (.int .i64))),(5,.one (.v (.int .i64)))],slots:=[],nb:=0 } [(.exit 0,{ tmps:=[(1,.one (.v (.int .i64)))],slots:=[],nb:=0 }),(.ret,{ tmps:=[(4,.one (.v (.int .i64)))],slots:=[],nb:=0 })] (fun j x=>Z3f.l0 k j x.1 x.2.1 x.2.2) k
def Z3f.l0.ok (k:Nat):=(lA (Z3f.cok k):Zj Yb _ (.loop (cO (cO (cR (cL (cR (cB Tryz.f244))))))) (Z3f.l0.s k))
theorem Z3f.ok (k:Nat):Ze Yb 244 (Z3f.con k):=fP (.two .auto (.two (.two .auto (.one (.sum (Z3f.l0.s k)))) .auto)) (Z3f.cok k) Tryz.func244 (sC (Z3f.l0.ok k) sN)
def Z8s (k:Nat) (a1:G26) (a2:Int):Option (Int):=Ya (Z4f k a1.1 a2) fun v3=>bif decide (v3<0) then some (-1) else Ya (Z3f k a1.2 v3) fun v4=>bif decide (v4<0) then some (-1) else some v4
def Z8s.con (k:Nat):Con:=Sig.con { ps:=[.val true T26 (ros T26),.val false (.int .i64) (ros (.int .i64))],rs:=[.val false [.v (.int .i64)]],ntmps:=18 } (fun x=>Z8s k x.1 x.2)
theorem Z8s.ok (k:Nat):Ze Yb 160 (Z8s.con k):=fA (cXr true false (cC (Z4f.ok k) (cC (Z3f.ok k) cN))) Tryz.func160
def Ztq (k:Nat) (a1:G28) (a2:Int):Option (Int):=Ya (Z8s k a1.2 a2) fun v3=>bif decide (v3<0) then some (-1) else some v3
def Ztq.con (k:Nat):Con:=Sig.con { ps:=[.val true T28 (ros T28),.val false (.int .i64) (ros (.int .i64))],rs:=[.val false [.v (.int .i64)]],ntmps:=12 } (fun x=>Ztq k x.1 x.2)
theorem Ztq.ok (k:Nat):Ze Yb 75 (Ztq.con k):=fA (cXr true false (cC (Z8s.ok k) cN)) Tryz.func75
def Zpe.l0:Nat→List Int→Int→Int→Option (Int ⊕ Int)
 | 0,_,_,_=>none
 | j+1,a1,a2,a3=>bif decide (a3<((a1.length):Int)) then Ya (at? a1 a3) fun v4=>bif v4 != a2 then some (.inr (-1)) else Zpe.l0 j a1 (Yc .i64 (a2+1)) (Yc .i64 (a3+1)) else some (.inl a2)
def Zpe (k:Nat) (a1:List Int) (a2:Int):Option (Int):=Ya (Zpe.l0 k a1 a2 0) fun
  | .inl y3=>some y3
  | .inr y4=>some y4
def Zpe.con (k:Nat):Con:=Sig.con { ps:=[.val false (.sl (.int .i64)) (ros (.sl (.int .i64))),.val false (.int .i64) (ros (.int .i64))],rs:=[.val false [.v (.int .i64)]],ntmps:=21 } (fun x=>Zpe k x.1 x.2)
def Zpe.cok (k:Nat):=cX cN
def Zpe.l0.s (k:Nat):Summ:=lp 21 { tmps:=[(0,.one (.bor (.int .i64))),(1,.one (.v (.int .i64))),(5,.one (.v (.int .i64)))],slots:=[],nb:=0 } [(.exit 0,{ tmps:=[(1,.one (.v (.int .i64)))],slots:=[],nb:=0 }),(.ret,{ tmps:=[(4,.one (.v (.int .i64)))],slots:=[],nb:=0 })] (fun j x=>Zpe.l0 j x.1 x.2.1 x.2.2) k
def Zpe.l0.ok (k:Nat):=(lA (Zpe.cok k):Zj Yb _ (.loop (cO (cO (cR (cL (cR (cB Tryz.f76))))))) (Zpe.l0.s k))
theorem Zpe.ok (k:Nat):Ze Yb 76 (Zpe.con k):=fP (.two .auto (.two (.two .auto (.one (.sum (Zpe.l0.s k)))) .auto)) (Zpe.cok k) Tryz.func76 (sC (Zpe.l0.ok k) sN)
def Zoo (k:Nat) (a1:G70) (a2:Int):Option (Int):=Ya (Ztq k a1.1 a2) fun v3=>bif decide (v3<0) then some (-1) else Ya (Zpe k a1.2.2.1 v3) fun v4=>bif decide (v4<0) then some (-1) else some v4
def Zoo.con (k:Nat):Con:=Sig.con { ps:=[.val true T70 (ros T70),.val false (.int .i64) (ros (.int .i64))],rs:=[.val false [.v (.int .i64)]],ntmps:=18 } (fun x=>Zoo k x.1 x.2)
theorem Zoo.ok (k:Nat):Ze Yb 29 (Zoo.con k):=fA (cXr true false (cC (Ztq.ok k) (cC (Zpe.ok k) cN))) Tryz.func29
def Z1q (a1:G52) (a2:Int):Option (Int):=let e3:=Yc .i64 (a2-((a1.2.2.2.length):Int));bif decide (e3<0) then some (-1) else some e3
def Z1q.con (k:Nat):Con:=Sig.con { ps:=[.val true T52 (ros T52),.val false (.int .i64) (ros (.int .i64))],rs:=[.val false [.v (.int .i64)]],ntmps:=13 } (fun x=>Z1q x.1 x.2)
theorem Z1q.ok (k:Nat):Ze Yb 68 (Z1q.con k):=fA (cX cN) Tryz.func68
def Zwq (a1:G54) (a2:Int):Option (Int):=let e3:=Yc .i64 (a2-((a1.2.2.2.1.length):Int));bif decide (e3<0) then some (-1) else Ya (Z1q a1.2.2.2.2 e3) fun v4=>bif decide (v4<0) then some (-1) else some v4
def Zwq.con (k:Nat):Con:=Sig.con { ps:=[.val true T54 (ros T54),.val false (.int .i64) (ros (.int .i64))],rs:=[.val false [.v (.int .i64)]],ntmps:=19 } (fun x=>Zwq x.1 x.2)
theorem Zwq.ok (k:Nat):Ze Yb 20 (Zwq.con k):=fA (cX (cC (Z1q.ok k) cN)) Tryz.func20
def Zpo (a1:List Int) (a2:Int):Option (Int):=let e3:=Yc .i64 (a2-((a1.length):Int));bif decide (e3<0) then some (-1) else some e3
def Zpo.con (k:Nat):Con:=Sig.con { ps:=[.val false (.sl (.int .i64)) (ros (.sl (.int .i64))),.val false (.int .i64) (ros (.int .i64))],rs:=[.val false [.v (.int .i64)]],ntmps:=12 } (fun x=>Zpo x.1 x.2)
theorem Zpo.ok (k:Nat):Ze Yb 79 (Zpo.con k):=fA (cX cN) Tryz.func79
def Zxq (a1:G86) (a2:Int):Option (Int):=Ya (Zwq a1.1 a2) fun v3=>bif decide (v3<0) then some (-1) else Ya (Zpo a1.2.2.1 v3) fun v4=>bif decide (v4<0) then some (-1) else Ya (Zpo a1.2.2.2 v4) fun v5=>bif decide (v5<0) then some (-1) else some v5
def Zxq.con (k:Nat):Con:=Sig.con { ps:=[.val true T86 (ros T86),.val false (.int .i64) (ros (.int .i64))],rs:=[.val false [.v (.int .i64)]],ntmps:=24 } (fun x=>Zxq x.1 x.2)
theorem Zxq.ok (k:Nat):Ze Yb 37 (Zxq.con k):=fA (cXr true false (cC (Zwq.ok k) (cC (Zpo.ok k) cN))) Tryz.func37
def Zuc.l0:Nat→List Str→Int→Option (Unit ⊕ Bool)
 | 0,_,_=>none
 | j+1,a1,a2=>bif decide (a2<((a1.length):Int)) then Ya (at? a1 a2) fun v3=>bif ((v3.length):Int) != 8 then some (.inr false) else Zuc.l0 j a1 (Yc .i64 (a2+1)) else some (.inl ())
def Zuc (k:Nat) (a1:List Str):Option (Bool):=bif (decide (((a1.length):Int)<1))||(decide (8<((a1.length):Int))) then some false else Ya (Zuc.l0 k a1 0) fun
  | .inl y2=>some true
  | .inr y3=>some y3
def Zuc.con (k:Nat):Con:=Sig.con { ps:=[.val false (.sl .str) (ros (.sl .str))],rs:=[.val false [.v .bool]],ntmps:=24 } (fun x=>Zuc k x)
def Zuc.cok (k:Nat):=cX cN
def Zuc.l0.s (k:Nat):Summ:=lp 24 { tmps:=[(0,.one (.bor .str)),(3,.one (.v (.int .i64)))],slots:=[],nb:=0 } [(.exit 0,{ tmps:=[],slots:=[],nb:=0 }),(.ret,{ tmps:=[(2,.one (.v .bool))],slots:=[],nb:=0 })] (fun j x=>Zuc.l0 j x.1 x.2) k
def Zuc.l0.ok (k:Nat):=(lA (Zuc.cok k):Zj Yb _ (.loop (cO (cO (cR (cL (cR (cR (cB Tryz.f47)))))))) (Zuc.l0.s k))
theorem Zuc.ok (k:Nat):Ze Yb 47 (Zuc.con k):=fP (.two .auto (.two .auto (.two (.two .auto (.one (.sum (Zuc.l0.s k)))) .auto))) (Zuc.cok k) Tryz.func47 (sC (Zuc.l0.ok k) sN)
def Z7 (a1:Int) (a2:Int) (a3:Int):Option (Bool):=some ((decide (a2≤a1))&&(decide (a1≤a3)))
def Z7.con (k:Nat):Con:=Sig.con { ps:=[.val false (.int .i64) (ros (.int .i64)),.val false (.int .i64) (ros (.int .i64)),.val false (.int .i64) (ros (.int .i64))],rs:=[.val false [.v .bool]],ntmps:=15 } (fun x=>Z7 x.1 x.2.1 x.2.2)
theorem Z7.ok (k:Nat):Ze Yb 98 (Z7.con k):=fA (cX cN) Tryz.func98
def Ztr (a1:Int):Option (Int):=bif decide (a1<0) then some (Yc .u64 ((Yc .u64 (2*(Yc .u64 (Yc .i64 (0-(Yc .i64 (a1+1)))))))+1)) else some (Yc .u64 (2*(Yc .u64 a1)))
def Ztr.con (k:Nat):Con:=Sig.con { ps:=[.val false (.int .i64) (ros (.int .i64))],rs:=[.val false [.v (.int .u64)]],ntmps:=14 } (fun x=>Ztr x)
theorem Ztr.ok (k:Nat):Ze Yb 193 (Ztr.con k):=fA (cX cN) Tryz.func193
def Z8b.l0:Nat→Int→List Int→Option ((Int×List Int))
 | 0,_,_=>none
 | j+1,a1,a2=>bif decide (128≤a1) then Ya (nz? 128) fun v3=>Ya (Zt 1 a2 [(Yc .u8 (Yc .u64 ((Yh a1 128)+128)))]) fun v4=>Ya (nz? 128) fun v5=>Z8b.l0 j (Yc .u64 (Yj a1 128)) v4 else some (a1,a2)
def Z8b (k:Nat) (a1:Int):Option (Str):=Ya (Ztr a1) fun v2=>Ya (Z8b.l0 k v2 []) fun y3=>Ya (Zt 1 y3.2 [(Yc .u8 y3.1)]) fun v4=>some (Zob v4)
def Z8b.con (k:Nat):Con:=Sig.con { ps:=[.val false (.int .i64) (ros (.int .i64))],rs:=[.val false [.v .str]],ntmps:=25 } (fun x=>Z8b k x)
def Z8b.cok (k:Nat):=cX (cC (Ztr.ok k) cN)
def Z8b.l0.s (k:Nat):Summ:=lp 25 { tmps:=[(3,.one (.v (.int .u64))),(4,.one (.own 1))],slots:=[(1,.arr false 5 (.int .u8))],nb:=2 } [(.exit 0,{ tmps:=[(3,.one (.v (.int .u64))),(4,.one (.own 2))],slots:=[(2,.arr false 5 (.int .u8))],nb:=3 })] (fun j x=>Z8b.l0 j x.1 x.2) k
def Z8b.l0.ok (k:Nat):=(lA (Z8b.cok k):Zj Yb _ (.loop (cO (cO (cL (cR (cR (cR (cB Tryz.f105)))))))) (Z8b.l0.s k))
theorem Z8b.ok (k:Nat):Ze Yb 105 (Z8b.con k):=fP (.two .auto (.two .auto (.two .auto (.two (.one (.sum (Z8b.l0.s k))) .auto)))) (Z8b.cok k) Tryz.func105 (sC (Z8b.l0.ok k) sN)
def Zbj (k:Nat) (a1:Str):Option (Str):=bif decide (8000<((a1.length):Int)) then some ([]) else Ya (Z8b k ((a1.length):Int)) fun v2=>Ya (Zsc v2 a1) fun v3=>some v3
def Zbj.con (k:Nat):Con:=Sig.con { ps:=[.val false .str (ros .str)],rs:=[.val false [.v .str]],ntmps:=11 } (fun x=>Zbj k x)
theorem Zbj.ok (k:Nat):Ze Yb 107 (Zbj.con k):=fA (cX (cC (Z8b.ok k) cN)) Tryz.func107
def Zwn (a1:Int):Option (Str):=Ya (Zwb 8) fun v2=>Ya (Zwb 16) fun v3=>Ya (Zwb 24) fun v4=>some (Zob [(Yc .u8 a1),(Yc .u8 (shr .i64 a1 8)),(Yc .u8 (shr .i64 a1 16)),(Yc .u8 (shr .i64 a1 24))])
def Zwn.con (k:Nat):Con:=Sig.con { ps:=[.val false (.int .i64) (ros (.int .i64))],rs:=[.val false [.v .str]],ntmps:=16 } (fun x=>Zwn x)
theorem Zwn.ok (k:Nat):Ze Yb 259 (Zwn.con k):=fA (cX cN) Tryz.func259
def Z9b.l0:Nat→Int→Int→Option (Int)
 | 0,_,_=>none
 | j+1,a1,a2=>bif decide (a2<8) then let e3:=Yc .i64 (a2+1);bif (intBits .and .u32 a1 1)==1 then Ya (Zwb 1) fun v4=>Z9b.l0 j (intBits .xor .u32 (shr .u32 a1 1) 3988292384) e3 else Ya (Zwb 1) fun v5=>Z9b.l0 j (shr .u32 a1 1) e3 else some a1
def Z9b.l1 (k:Nat):Nat→Str→Int→Int→Option (Int)
 | 0,_,_,_=>none
 | j+1,a1,a2,a3=>bif decide (a3<((a1.length):Int)) then Ya (at? a1 a3) fun v4=>Ya (Z9b.l0 k (intBits .xor .u32 a2 (Yc .u32 (v4.toNat:Int))) 0) fun y5=>Z9b.l1 k j a1 y5 (Yc .i64 (a3+1)) else some a2
def Z9b (k:Nat) (a1:Int) (a2:Str):Option (Int):=Ya (Z9b.l1 k k a2 (intBits .xor .u32 (Yc .u32 a1) 4294967295) 0) fun y3=>some (Yc .i64 (intBits .xor .u32 y3 4294967295))
def Z9b.con (k:Nat):Con:=Sig.con { ps:=[.val false (.int .i64) (ros (.int .i64)),.val false .str (ros .str)],rs:=[.val false [.v (.int .i64)]],ntmps:=38 } (fun x=>Z9b k x.1 x.2)
def Z9b.cok (k:Nat):=cX cN
def Z9b.l0.s (k:Nat):Summ:=lp 38 { tmps:=[(5,.one (.v (.int .u32))),(7,.one (.v (.int .i64)))],slots:=[],nb:=0 } [(.exit 2,{ tmps:=[(5,.one (.v (.int .u32)))],slots:=[],nb:=0 })] (fun j x=>Z9b.l0 j x.1 x.2) k
def Z9b.l0.ok (k:Nat):=(lA (Z9b.cok k):Zj Yb _ (.loop (cO (cO (cR (cR (cO (cL (cR (cO (cO (cR (cL (cR (cR (cB Tryz.f260))))))))))))))) (Z9b.l0.s k))
def Z9b.l1.s (k:Nat):Summ:=lp 38 { tmps:=[(1,.one (.v .str)),(5,.one (.v (.int .u32))),(6,.one (.v (.int .i64)))],slots:=[],nb:=0 } [(.exit 0,{ tmps:=[(5,.one (.v (.int .u32)))],slots:=[],nb:=0 })] (fun j x=>Z9b.l1 k j x.1 x.2.1 x.2.2) k
def Z9b.l1.ok (k:Nat):=(lP (.two .auto (.two (.one (.two .auto (.two .auto (.one (.sum (Z9b.l0.s k)))))) .auto)) (Z9b.cok k) (sC (Z9b.l0.ok k) sN):Zj Yb _ (.loop (cO (cO (cR (cL (cR (cR (cB Tryz.f260)))))))) (Z9b.l1.s k))
theorem Z9b.ok (k:Nat):Ze Yb 260 (Z9b.con k):=fP (.two .auto (.two .auto (.two (.two .auto (.one (.sum (Z9b.l1.s k)))) .auto))) (Z9b.cok k) Tryz.func260 (sC (Z9b.l1.ok k) sN)
def Zql (k:Nat) (a1:Str):Option (Str):=bif decide (7996<((a1.length):Int)) then some ([]) else Ya (Z9b k 0 a1) fun v2=>Ya (Zwn v2) fun v3=>Ya (Zsc a1 v3) fun v4=>some v4
def Zql.con (k:Nat):Con:=Sig.con { ps:=[.val false .str (ros .str)],rs:=[.val false [.v .str]],ntmps:=11 } (fun x=>Zql k x)
theorem Zql.ok (k:Nat):Ze Yb 192 (Zql.con k):=fA (cX (cC (Zwn.ok k) (cC (Z9b.ok k) cN))) Tryz.func192
def Zuk (k:Nat) (a1:Int) (a2:Str):Option (Str):=Ya (Z7 a1 1 1000000) fun v3=>bif (!v3)||(decide (80<((a2.length):Int))) then some ([]) else Ya (Z8b k a1) fun v4=>Ya (Zbj k a2) fun v5=>Ya (Zsc v4 v5) fun v6=>Ya (Zql k v6) fun v7=>some v7
def Zuk.con (k:Nat):Con:=Sig.con { ps:=[.val false (.int .i64) (ros (.int .i64)),.val false .str (ros .str)],rs:=[.val false [.v .str]],ntmps:=19 } (fun x=>Zuk k x.1 x.2)
theorem Zuk.ok (k:Nat):Ze Yb 104 (Zuk.con k):=fA (cX (cC (Z7.ok k) (cC (Z8b.ok k) (cC (Zbj.ok k) (cC (Zql.ok k) cN))))) Tryz.func104
def Zrl (k:Nat) (a1:Str):Option (Str×Int×Int):=bif decide (8000<((a1.length):Int)) then some ([],0,2) else bif decide (((a1.length):Int)<4) then some ([],0,4) else let e2:=Yc .i64 (((a1.length):Int)-4);Ya (Zpb a1 0 e2) fun v3=>Ya (Z9b k 0 v3) fun v4=>Ya (Zwn v4) fun v5=>Ya (Zpb a1 e2 ((a1.length):Int)) fun v6=>bif !(v5==v6) then some ([],0,5) else some (v3,0,0)
def Zrl.con (k:Nat):Con:=Sig.con { ps:=[.val false .str (ros .str)],rs:=[.val true [.v .str,.v (.int .i64),.v (.int .i64)]],ntmps:=29 } (fun x=>Zrl k x)
theorem Zrl.ok (k:Nat):Ze Yb 256 (Zrl.con k):=fA (cX (cC (Zwn.ok k) (cC (Z9b.ok k) cN))) Tryz.func256
def Zpd.l0:Nat→Str→Int→Int→Int→Int→Int→Int→Option ((Int×Int×Int) ⊕ (Int×Int×Int))
 | 0,_,_,_,_,_,_,_=>none
 | j+1,a1,a2,a3,a4,a5,a6,a7=>bif decide (a4<10) then bif decide ((Yc .i64 (((a1.length):Int)-a4))≤a2) then some (.inr (0,0,4)) else let e8:=Yc .i64 (a2+a4);Ya (at? a1 e8) fun v9=>bif (a4==9)&&(decide (1<(Yc .u64 (v9.toNat:Int)))) then some (.inr (0,0,3)) else Ya (nz? 128) fun v10=>let e11:=Yc .u64 (Yc .i64 (7*a4));Ya (Zwb e11) fun v12=>let e13:=Yc .u64 (a3+(shl .u64 (Yh (Yc .u64 (v9.toNat:Int)) 128) e11));bif decide ((Yc .u64 (v9.toNat:Int))<128) then bif ((Yc .u64 (v9.toNat:Int))==0)&&(decide (0<a4)) then some (.inr (0,0,3)) else Ya (nz? 2) fun v14=>Ya (nz? 2) fun v15=>let e16:=Yc .i64 (e8+1);let e17:=Yc .i64 (Yc .u64 (Yj e13 2));bif (Yh e13 2)==1 then some (.inr (Yc .i64 ((Yc .i64 (0-e17))-1),e16,0)) else some (.inr (e17,e16,0)) else Zpd.l0 j a1 a2 e13 (Yc .i64 (a4+1)) a5 a6 a7 else some (.inl (a5,a6,a7))
def Zpd (k:Nat) (a1:Str) (a2:Int):Option (Int×Int×Int):=bif decide (8000<((a1.length):Int)) then some (0,0,2) else bif decide (a2<0) then some (0,0,1) else Ya (Zpd.l0 k a1 a2 0 0 0 0 0) fun
  | .inl y3=>some (0,0,3)
  | .inr y4=>some (y4.1,y4.2.1,y4.2.2)
def Zpd.con (k:Nat):Con:=Sig.con { ps:=[.val false .str (ros .str),.val false (.int .i64) (ros (.int .i64))],rs:=[.val true [.v (.int .i64),.v (.int .i64),.v (.int .i64)]],ntmps:=73 } (fun x=>Zpd k x.1 x.2)
def Zpd.cok (k:Nat):=cX cN
def Zpd.l0.s (k:Nat):Summ:=lp 73 { tmps:=[(0,.one (.v .str)),(1,.one (.v (.int .i64))),(4,.one (.ptr 0 0)),(5,.one (.v (.int .u64))),(6,.one (.v (.int .i64)))],slots:=[(0,.box 272 [.v (.int .i64),.v (.int .i64),.v (.int .i64)])],nb:=1 } [(.exit 0,{ tmps:=[],slots:=[(0,.box 272 [.v (.int .i64),.v (.int .i64),.v (.int .i64)])],nb:=1 }),(.ret,{ tmps:=[],slots:=[(0,.box 272 [.v (.int .i64),.v (.int .i64),.v (.int .i64)])],nb:=1 })] (fun j x=>Zpd.l0 j x.1 x.2.1 x.2.2.1 x.2.2.2.1 x.2.2.2.2.1 x.2.2.2.2.2.1 x.2.2.2.2.2.2) k
def Zpd.l0.ok (k:Nat):=(lA (Zpd.cok k):Zj Yb _ (.loop (cO (cO (cR (cL (cR (cR (cR (cR (cB Tryz.f257)))))))))) (Zpd.l0.s k))
theorem Zpd.ok (k:Nat):Ze Yb 257 (Zpd.con k):=fP (.two .auto (.two .auto (.two .auto (.two .auto (.two (.two .auto (.one (.sum (Zpd.l0.s k)))) .auto))))) (Zpd.cok k) Tryz.func257 (sC (Zpd.l0.ok k) sN)
def Zjm (k:Nat) (a1:Str) (a2:Int):Option (Str×Int×Int):=Ya (Zpd k a1 a2) fun v3=>bif v3.2.2 != 0 then some ([],0,v3.2.2) else bif (decide (v3.1<0))||(decide (8000<v3.1)) then some ([],0,3) else bif decide ((Yc .i64 (((a1.length):Int)-v3.1))<v3.2.1) then some ([],0,4) else let e4:=Yc .i64 (v3.2.1+v3.1);Ya (Zpb a1 v3.2.1 e4) fun v5=>some (v5,e4,0)
def Zjm.con (k:Nat):Con:=Sig.con { ps:=[.val false .str (ros .str),.val false (.int .i64) (ros (.int .i64))],rs:=[.val true [.v .str,.v (.int .i64),.v (.int .i64)]],ntmps:=48 } (fun x=>Zjm k x.1 x.2)
theorem Zjm.ok (k:Nat):Ze Yb 258 (Zjm.con k):=fA (cX (cC (Zpd.ok k) cN)) Tryz.func258
def Znl (k:Nat) (a1:Str):Option (Int×Str×Int):=Ya (Zrl k a1) fun v2=>bif v2.2.2 != 0 then some (0,[],v2.2.2) else Ya (Zpd k v2.1 0) fun v3=>Ya (Zjm k v2.1 v3.2.1) fun v4=>bif (v3.2.2 != 0)||(v4.2.2 != 0) then some (0,[],3) else Ya (Zuk k v3.1 v4.1) fun v5=>bif !(v5==a1) then some (0,[],3) else some (v3.1,v4.1,0)
def Znl.con (k:Nat):Con:=Sig.con { ps:=[.val false .str (ros .str)],rs:=[.val true [.v (.int .i64),.v .str,.v (.int .i64)]],ntmps:=45 } (fun x=>Znl k x)
theorem Znl.ok (k:Nat):Ze Yb 190 (Znl.con k):=fA (cX (cC (Zuk.ok k) (cC (Zrl.ok k) (cC (Zpd.ok k) (cC (Zjm.ok k) cN))))) Tryz.func190
def Ztb.l0:Nat→Int→List Str→List Zq→Int→Option (Unit ⊕ Str)
 | 0,_,_,_,_=>none
 | j+1,a1,a2,a3,a4=>bif decide (a4<((a3.length):Int)) then Ya (at? a3 a4) fun v5=>bif v5.1==a1 then Ya (at? a3 a4) fun v6=>some (.inr (v6.2)) else Ztb.l0 j a1 a2 a3 (Yc .i64 (a4+1)) else some (.inl ())
def Ztb (k:Nat) (a1:G26) (a2:Int):Option (Str):=Ya (Ztb.l0 k a2 a1.1 a1.2 0) fun
  | .inl y3=>Ya (at? a1.1 a2) fun v4=>some v4
  | .inr y5=>some y5
def Ztb.con (k:Nat):Con:=Sig.con { ps:=[.val true T26 (ros T26),.val false (.int .i64) (ros (.int .i64))],rs:=[.val false [.v .str]],ntmps:=32 } (fun x=>Ztb k x.1 x.2)
def Ztb.cok (k:Nat):=cXr true false cN
def Ztb.l0.s (k:Nat):Summ:=lp 32 { tmps:=[(1,.one (.v (.int .i64))),(2,.eptr [.bor .str,.bor Zo]),(5,.one (.v (.int .i64)))],slots:=[],nb:=0 } [(.exit 0,{ tmps:=[],slots:=[],nb:=0 }),(.ret,{ tmps:=[(4,.one (.v .str))],slots:=[],nb:=0 })] (fun j x=>Ztb.l0 j x.1 x.2.1 x.2.2.1 x.2.2.2) k
def Ztb.l0.ok (k:Nat):=(lA (Ztb.cok k):Zj Yb _ (.loop (cO (cO (cR (cL (cR (cB Tryz.f191))))))) (Ztb.l0.s k))
theorem Ztb.ok (k:Nat):Ze Yb 191 (Ztb.con k):=fP (.two .auto (.two (.two .auto (.one (.sum (Ztb.l0.s k)))) .auto)) (Ztb.cok k) Tryz.func191 (sC (Ztb.l0.ok k) sN)
def Zul (k:Nat) (a1:G26):Option (Int×Str×Int×Int):=Ya (Ztb k a1 0) fun v2=>Ya (Znl k v2) fun v3=>Ya (Ztb k a1 1) fun v4=>Ya (Znl k v4) fun v5=>bif (v3.2.2==0)&&((v5.2.2 != 0)||(decide (v5.1≤v3.1))) then some (v3.1,v3.2.1,v3.2.2,0) else bif v5.2.2==0 then some (v5.1,v5.2.1,v5.2.2,1) else some (0,[],6,(-1))
def Zul.con (k:Nat):Con:=Sig.con { ps:=[.val true T26 (ros T26)],rs:=[.val true [.v (.int .i64),.v .str,.v (.int .i64)],.val false [.v (.int .i64)]],ntmps:=35 } (fun x=>Zul k x)
theorem Zul.ok (k:Nat):Ze Yb 103 (Zul.con k):=fA (cXr true false (cC (Znl.ok k) (cC (Ztb.ok k) cN))) Tryz.func103
def Z1.l0:Nat→List Str→List Zq→Int→Option (Unit ⊕ Bool)
 | 0,_,_,_=>none
 | j+1,a1,a2,a3=>bif decide (a3<((a1.length):Int)) then Ya (at? a1 a3) fun v4=>bif decide (96<((v4.length):Int)) then some (.inr false) else Z1.l0 j a1 a2 (Yc .i64 (a3+1)) else some (.inl ())
def Z1.l1:Nat→List Str→List Zq→Int→Int→Option (Unit ⊕ Bool)
 | 0,_,_,_,_=>none
 | j+1,a1,a2,a3,a4=>bif decide (a4<a3) then Ya (at? a2 a4) fun v5=>Ya (at? a2 a3) fun v6=>bif v5.1==v6.1 then some (.inr false) else Z1.l1 j a1 a2 a3 (Yc .i64 (a4+1)) else some (.inl ())
def Z1.l2 (k:Nat):Nat→List Str→List Zq→Int→Option (Unit ⊕ Bool)
 | 0,_,_,_=>none
 | j+1,a1,a2,a3=>bif decide (a3<((a2.length):Int)) then Ya (at? a2 a3) fun v4=>Ya (Z7 v4.1 0 (Yc .i64 (((a1.length):Int)-1))) fun v5=>bif !v5 then some (.inr false) else Ya (at? a2 a3) fun v6=>bif decide (96<((v6.2.length):Int)) then some (.inr false) else Ya (Z1.l1 k a1 a2 a3 0) fun
    | .inl y7=>Z1.l2 k j a1 a2 (Yc .i64 (a3+1))
    | .inr y8=>some (.inr y8) else some (.inl ())
def Z1 (k:Nat) (a1:G26):Option (Bool):=let e2:=((a1.1.length):Int);bif ((decide (e2<1))||(decide (40<e2)))||(decide (e2<((a1.2.length):Int))) then some false else Ya (Z1.l0 k a1.1 a1.2 0) fun
  | .inl y3=>Ya (Z1.l2 k k a1.1 a1.2 0) fun
    | .inl y4=>some true
    | .inr y5=>some y5
  | .inr y6=>some y6
def Z1.con (k:Nat):Con:=Sig.con { ps:=[.val true T26 (ros T26)],rs:=[.val false [.v .bool]],ntmps:=86 } (fun x=>Z1 k x)
def Z1.cok (k:Nat):=cXr true false (cC (Z7.ok k) cN)
def Z1.l0.s (k:Nat):Summ:=lp 86 { tmps:=[(1,.eptr [.bor .str,.bor Zo]),(3,.one (.v (.int .i64)))],slots:=[],nb:=0 } [(.exit 0,{ tmps:=[],slots:=[],nb:=0 }),(.ret,{ tmps:=[(2,.one (.v .bool))],slots:=[],nb:=0 })] (fun j x=>Z1.l0 j x.1 x.2.1 x.2.2) k
def Z1.l0.ok (k:Nat):=(lA (Z1.cok k):Zj Yb _ (.loop (cO (cO (cR (cL (cR (cR (cB Ym)))))))) (Z1.l0.s k))
def Z1.l1.s (k:Nat):Summ:=lp 86 { tmps:=[(1,.eptr [.bor .str,.bor Zo]),(4,.one (.v (.int .i64))),(5,.one (.v (.int .i64)))],slots:=[],nb:=0 } [(.exit 4,{ tmps:=[],slots:=[],nb:=0 }),(.ret,{ tmps:=[(2,.one (.v .bool))],slots:=[],nb:=0 })] (fun j x=>Z1.l1 j x.1 x.2.1 x.2.2.1 x.2.2.2) k
def Z1.l1.ok (k:Nat):=(lA (Z1.cok k):Zj Yb _ (.loop (cO (cO (cR (cR (cO (cL (cR (cO (cO (cR (cL (cR (cR (cR (cB Ym)))))))))))))))) (Z1.l1.s k))
def Z1.l2.s (k:Nat):Summ:=lp 86 { tmps:=[(1,.eptr [.bor .str,.bor Zo]),(4,.one (.v (.int .i64)))],slots:=[],nb:=0 } [(.exit 2,{ tmps:=[],slots:=[],nb:=0 }),(.ret,{ tmps:=[(2,.one (.v .bool))],slots:=[],nb:=0 })] (fun j x=>Z1.l2 k j x.1 x.2.1 x.2.2) k
def Z1.l2.ok (k:Nat):=(lP (.two .auto (.two (.one (.two .auto (.two .auto (.one (.sum (Z1.l1.s k)))))) .auto)) (Z1.cok k) (sC (Z1.l1.ok k) sN):Zj Yb _ (.loop (cO (cO (cR (cL (cR (cR (cR (cB Ym))))))))) (Z1.l2.s k))
theorem Z1.ok (k:Nat):Ze Yb 161 (Z1.con k):=fP (.two .auto (.two .auto (.two (.two .auto (.one (.sum (Z1.l0.s k)))) (.two (.two .auto (.one (.sum (Z1.l2.s k)))) .auto)))) (Z1.cok k) Tryz.func161 (sC (Z1.l0.ok k) (sC (Z1.l2.ok k) sN))
def Zhd.l0:Nat→Int→Int→List Int→Option ((List Int))
 | 0,_,_,_=>none
 | j+1,a1,a2,a3=>bif decide (a2<24) then Ya (Zwb a2) fun v4=>let e5:=Yc .i64 (a2+1);bif (intBits .and .i64 (shr .i64 a1 a2) 1)==1 then Ya (Zt 8 a3 [a2]) fun v6=>Zhd.l0 j a1 e5 v6 else Zhd.l0 j a1 e5 a3 else some a3
def Zhd (k:Nat) (a1:Int):Option (List Int):=bif (decide (a1<0))||(decide (16777216≤a1)) then some ([]) else Ya (Zhd.l0 k a1 0 []) fun y2=>some y2
def Zhd.con (k:Nat):Con:=Sig.con { ps:=[.val false (.int .i64) (ros (.int .i64))],rs:=[.val false [.own 2 (.int .i64)]],ntmps:=27 } (fun x=>Zhd k x)
def Zhd.cok (k:Nat):=cX cN
def Zhd.l0.s (k:Nat):Summ:=lp 27 { tmps:=[(0,.one (.v (.int .i64))),(3,.one (.own 1)),(4,.one (.v (.int .i64)))],slots:=[(1,.arr false 2 (.int .i64))],nb:=2 } [(.exit 0,{ tmps:=[(3,.one (.own 2))],slots:=[(2,.arr false 2 (.int .i64))],nb:=3 })] (fun j x=>Zhd.l0 j x.1 x.2.1 x.2.2) k
def Zhd.l0.ok (k:Nat):=(lA (Zhd.cok k):Zj Yb _ (.loop (cO (cO (cR (cL (cR (cR (cR (cB Tryz.f238))))))))) (Zhd.l0.s k))
theorem Zhd.ok (k:Nat):Ze Yb 238 (Zhd.con k):=fP (.two .auto (.two .auto (.two .auto (.two (.two .auto (.one (.sum (Zhd.l0.s k)))) .auto)))) (Zhd.cok k) Tryz.func238 (sC (Zhd.l0.ok k) sN)
def Zdc (k:Nat) (a1:Z0v):Option (Int×Str×Int×Bool):=Ya (Zpd k a1.1 a1.2.1) fun v2=>bif a1.2.2||(v2.2.2 != 0) then some (0,a1.1,a1.2.1,true) else some (v2.1,a1.1,v2.2.1,a1.2.2)
def Zdc.con (k:Nat):Con:=Sig.con { ps:=[.ref 289 Zzk (Z9g Zzk)],rs:=[.val false [.v (.int .i64)]],ntmps:=32 } (fun x=>Zdc k x)
theorem Zdc.ok (k:Nat):Ze Yb 272 (Zdc.con k):=fA (cX (cC (Zpd.ok k) cN)) Tryz.func272
def Z5h (k:Nat) (a1:Z0v):Option (Str×Str×Int×Bool):=Ya (Zjm k a1.1 a1.2.1) fun v2=>bif a1.2.2||(v2.2.2 != 0) then some ([],a1.1,a1.2.1,true) else some (v2.1,a1.1,v2.2.1,a1.2.2)
def Z5h.con (k:Nat):Con:=Sig.con { ps:=[.ref 289 Zzk (Z9g Zzk)],rs:=[.val false [.v .str]],ntmps:=32 } (fun x=>Z5h k x)
theorem Z5h.ok (k:Nat):Ze Yb 273 (Z5h.con k):=fA (cX (cC (Zjm.ok k) cN)) Tryz.func273
def Zbe.l0:Nat→List Int→Int→Option (Unit ⊕ Bool)
 | 0,_,_=>none
 | j+1,a1,a2=>bif decide (a2<((a1.length):Int)) then Ya (at? a1 a2) fun v3=>Ya (Z7 v3 0 23) fun v4=>bif !v4 then some (.inr false) else let e5:=Yc .i64 (a2+1);bif decide (0<a2) then Ya (at? a1 (Yc .i64 (a2-1))) fun v6=>Ya (at? a1 a2) fun v7=>bif decide (v7≤v6) then some (.inr false) else Zbe.l0 j a1 e5 else Zbe.l0 j a1 e5 else some (.inl ())
def Zbe (k:Nat) (a1:List Int):Option (Bool):=bif decide (24<((a1.length):Int)) then some false else Ya (Zbe.l0 k a1 0) fun
  | .inl y2=>some true
  | .inr y3=>some y3
def Zbe.con (k:Nat):Con:=Sig.con { ps:=[.val false (.sl (.int .i64)) (ros (.sl (.int .i64)))],rs:=[.val false [.v .bool]],ntmps:=35 } (fun x=>Zbe k x)
def Zbe.cok (k:Nat):=cX (cC (Z7.ok k) cN)
def Zbe.l0.s (k:Nat):Summ:=lp 35 { tmps:=[(0,.one (.bor (.int .i64))),(3,.one (.v (.int .i64)))],slots:=[],nb:=0 } [(.exit 0,{ tmps:=[],slots:=[],nb:=0 }),(.ret,{ tmps:=[(2,.one (.v .bool))],slots:=[],nb:=0 })] (fun j x=>Zbe.l0 j x.1 x.2) k
def Zbe.l0.ok (k:Nat):=(lA (Zbe.cok k):Zj Yb _ (.loop (cO (cO (cR (cL (cR (cR (cB Tryz.f194)))))))) (Zbe.l0.s k))
theorem Zbe.ok (k:Nat):Ze Yb 194 (Zbe.con k):=fP (.two .auto (.two .auto (.two (.two .auto (.one (.sum (Zbe.l0.s k)))) .auto))) (Zbe.cok k) Tryz.func194 (sC (Zbe.l0.ok k) sN)
end Go.Proofs.Qz
