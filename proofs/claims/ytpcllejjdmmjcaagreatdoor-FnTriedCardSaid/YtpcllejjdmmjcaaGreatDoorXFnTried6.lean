/- What the law FnTried needs, part 7 of 14: the Lean functions of the Go functions that it reaches, with the proofs that the calls come to what they say, and plain facts about them. Conditions: those that each theorem states. Written by a session and by its programs (after the kit's printer). -/
import Derived.Lib.LaidTab
import Derived.Lib.AppendIntMem
import Derived.Shelf.Strings.Builder1
import Derived.Shelf.Strings.Builder2
import Derived.Shelf.Strings.OnBuilder
import Derived.Shelf.Strings.BuilderF
import Derived.Shelf.Strings.Prefix
import Derived.Shelf.Bits.Mul64
import Derived.Shelf.Strings.Repeat
import Derived.Ground.Names2Prog
import Derived.Shelf.Slices.Delete
import Derived.Shelf.Slices.Cells
import Derived.Shelf.Slices.Empties
import Derived.Ground.SlgfProg
import Derived.Shelf.SlicesE.IndexFunc
import Derived.Test.YtpcllejjdmmjcaaGreatDoorProg
import Derived.Test.YtpcllejjdmmjcaaGreatDoorXFnTried4
import Derived.Test.YtpcllejjdmmjcaaGreatDoorXFnTried5
open Option renaming bind → Ya, some → Ym
open Go.Proofs.Tryz renaming prog → Yb, f183 → Yj, f253 → Yk, isAgg0 → Yn, isAgg3 → Yo, isAgg4 → Yp, isAgg5 → Yq, sizeOf0 → Yr, sizeOf3 → Ys, sizeOf4 → Yt, sizeOf5 → Yu, underlying0 → Yv, underlying3 → Yw, underlying4 → Yx, underlying5 → Yy, zeroValue0 → Yz, zeroValue3 → Y0, zeroValue4 → Y1, zeroValue5 → Y2, func297 → Yaa, func298 → Yba, func299 → Yca, func313 → Yda, func314 → Yea, func322 → Yfa, func323 → Yga, isAgg20 → Yha, isAgg22 → Yia, isAgg307 → Yja, isAgg309 → Yka, isAgg312 → Yla, isAgg313 → Yma, isAgg327 → Yna, isAgg334 → Yoa, isAgg9 → Ypa, sizeOf20 → Yqa, sizeOf22 → Yra, sizeOf307 → Ysa, sizeOf309 → Yta, sizeOf312 → Yua, sizeOf313 → Yva, sizeOf327 → Ywa, sizeOf334 → Yxa, sizeOf9 → Yya, underlying20 → Yza, underlying22 → Y0a, underlying307 → Y1a, underlying309 → Y2a, underlying312 → Y3a, underlying313 → Y4a, underlying327 → Y5a, underlying334 → Y6a, underlying9 → Y7a, zeroValue20 → Y8a, zeroValue22 → Y9a, zeroValue307 → Yab, zeroValue309 → Ybb, zeroValue312 → Ycb, zeroValue313 → Ydb, zeroValue327 → Yeb, zeroValue334 → Yfb, zeroValue9 → Ygb
open Go.IntKind renaming wrap → Yc, max → Yh
open Bool renaming and_eq_true → Yd, and_true → Y3
open List renaming all_cons → Ye, set → Yg, map_cons → Yi, mem_singleton → Yl, all_append → Y4, append_assoc → Y5, cons → Y6, cons_append → Y7, replicate → Y8
open Int renaming toNat → Yf
open Nat renaming mul_one → Y9
namespace Go.Proofs.Qz
open Go Go.RowKit
set_option linter.unusedVariables false
def Zez:(r:Ty)→r.T→Option Value
 | .int k,n=>some (.int k n)
 | .bool,b=>some (.bool b)
 | .str,s=>some (.string (ba s))
 | _,_=>none
section
variable {P:Program} {w:World}
theorem Z3lb {F:Nat→Prop}:∀{r:Ty} {x:r.T} {v:Value},Zez r x=some v→Rep w F r x [v]∧r.sz=1
 | .int k,_,_,h=>by cases h;exact ⟨rfl,rfl⟩
 | .bool,_,_,h=>by cases h;exact ⟨rfl,rfl⟩
 | .str,_,_,h=>by cases h;exact ⟨rfl,rfl⟩
 | .sl _,_,_,h=>by cases h
 | .pair _ _,_,_,h=>by cases h
 | .unit,_,_,h=>by cases h
theorem Z6gb {n:Nat} {r:Ty} {l:List r.T} {cs:Array Value} {ty:TypeId} {fr:Nat×Nat} (hg:w.heap[n]? = some (.cells cs ty fr)) (h:l.map (Zez r)=cs.toList.map some) (hr:r.sz=1):Gl1 w n r l:=by
 have hlen:l.length=cs.size:=by
  have:=congrArg List.length h;simpa using this
 refine ⟨(Array.getElem?_eq_some_iff.1 hg).1,⟨_,_,rfl,Nat.le_refl _,.inr ⟨n,0,rfl,rfl,fun j x hj=>?_⟩⟩,cs,ty,fr,hg,by rw [hr,hlen,Y9]⟩
 have hx:=congrArg (fun z=>z[j]?) h
 simp only [List.getElem?_map,hj,Option.map_some] at hx
 cases hv:cs.toList[j]? with
 | none=>rw [hv] at hx;cases hx
 | some v=>
  rw [hv] at hx;have hx:Zez r x=some v:=Ym.inj hx;refine ⟨[v],fun i u hu=>?_,(Z3lb hx).1⟩;cases i with
  | zero=>
   cases hu;rw [cell_of_row w n _ cs ty fr hg,hr,Nat.zero_add,Y9,Nat.add_zero];simpa using hv
  | succ i=>cases hu
theorem Zp9 {ps:List MemPlace}:∀{l:List (String×DataW Unit)} {ps:List MemPlace},DataW.LaidVars P w l ps→∀{name:String} {d:DataW Unit},(name,d)∈l→∃g t cs fuel p,P.globalNamed name=some g∧(P.globals[g]?).map (·.type)=some t∧w.var? P name=some cs∧DataW.trod (fun _=>()) P w 0 (fun _=>true) false fuel t cs.toList=some (d,p)
 | [],_,_,_,_,hm=>nomatch hm
 | (n,d)::l,_,⟨g,t,cs,fuel,p,q,h1,h2,h3,h4,h5,_⟩,name,d',hm=>by
  rcases List.mem_cons.1 hm with e | hm
  ·cases e
   exact ⟨g,t,cs,fuel,p,h1,h2,h3,h4⟩
  ·exact Zp9 (ps:=ps) h5 hm
theorem Zzob {name:String} {g:Nat} {cs:Array Value} (hg:P.globalNamed name=some g) (h:w.var? P name=some cs):∃ty fr,w.heap[g]? = some (.cells cs ty fr):=by
 unfold World.var? at h
 rw [hg,Option.bind_some] at h
 split at h
 ·rename_i c ty fr hb
  cases h;exact ⟨ty,fr,hb⟩
 ·cases h
theorem Zo9 {l:List (String×DataW Unit)} (h:laidMet P l w) {name:String} {k:IntKind} {zs:List Int} (hm:(name,Lib.tabData k zs)∈l) {g n:Nat} {t e:TypeId} (hg:P.globalNamed name=some g) (hty:(P.globals[g]?).map (·.type)=some t)
  (ht:P.underlying t=some (.array n e)) (he:P.underlying e=some (.int k)) (hce:P.cellsOf e=1) (hct:P.cellsOf t=n):Gl1 w g (.int k) zs:=by
 obtain ⟨ps,hv,_⟩:=h
 obtain ⟨g',t',cs,fuel,p,h1,h2,h3,h4⟩:=Zp9 (ps:=ps) hv hm
 obtain rfl:=Ym.inj (hg.symm.trans h1)
 obtain rfl:=Ym.inj (hty.symm.trans h2)
 obtain ⟨ty,fr,hb⟩:=Zzob hg h3
 have hc:=Lib.cells_of_tab ht he hce hct h4
 exact Z6gb hb (by rw [hc];simp [Zez]) rfl
end
end Go.Proofs.Qz
namespace Go.Proofs.Qz
open Go
set_option linter.unusedVariables false
theorem cC {P:Program} {n:Nat} {c:Con} {L:List (Nat×Con)} (h:Zd P n c) (t:Zen P L):Zen P ((n,c)::L):=⟨h,t⟩
theorem cN {P:Program}:Zen P []:=trivial
theorem sC {P:Program} {C:Ctx} {c:Code} {s:Summ} {L:List (Summ×Code)} (h:Zn P C c s) (t:Z7j P C L):Z7j P C ((s,c)::L):=⟨h,t⟩
theorem sN {P:Program} {C:Ctx}:Z7j P C []:=trivial
theorem Zgp:∀c:Code,Z7d .auto c=[]
 | .seq a b=>by
  show Z7d .auto a++Z7d .auto b=[];rw [Zgp a,Zgp b];rfl
 | .cond _ a b=>by
  show Z7d .auto a++Z7d .auto b=[];rw [Zgp a,Zgp b];rfl
 | .block _ a=>Zgp a
 | .skip=>rfl
 | .region _ _ _=>rfl
 | .loop _=>rfl
 | .rangeFunc _ _ _ _=>rfl
 | .exit _=>rfl
 | .scope _=>rfl
 | .label _=>rfl
 | .goto _=>rfl
 | .ret=>rfl
 | .refuse _=>rfl
def lp (n:Nat) (ish:Shape) (outs:List (Ex×Shape)) (F:Nat→Z8 ish.tys→Option (Zwg outs)) (k:Nat):Summ:={ n:=n,ish:=ish,outs:=outs,f:=F k }
def lq (n:Nat) (ish:Shape) (outs:List (Ex×Shape)) (F:Z8 ish.tys→Option (Zwg outs)):Summ:={ n:=n,ish:=ish,outs:=outs,f:=F }
section
variable {P:Program} {C:Ctx} {c:Code} {L:List (Summ×Code)} {n:Nat} {ish:Shape} {outs:List (Ex×Shape)}
theorem lP (p:Plan) {F:Nat→Z8 ish.tys→Option (Zwg outs)} {k:Nat} (H:CtxOk P C) (hs:Z7j P C L) (hl:Z7d p c=L:=by kernel_rfl) (hok:(lp n ish outs F k).ok=true:=by kernel_rfl) (h0:∀x,F 0 x=none:=by intro x;rfl)
  (hev:∀j x,V C p c (mk ish n x) (fun e st'=>match e with
   | .nrm=>(rd ish st').bind (F j)
   | e=>Zyj e st' outs)=F (j+1) x:=by intro j x;kernel_rfl):Zn P C (.loop c) (lp n ish outs F k):=
 Z7cb hok (sum_loop (s:=lp n ish outs F k) (F:=F) H hok (Zcy hl hs) h0 (fun j x y h=>(hev j x).trans h) k rfl)
theorem lA {F:Nat→Z8 ish.tys→Option (Zwg outs)} {k:Nat} (H:CtxOk P C) (hok:(lp n ish outs F k).ok=true:=by kernel_rfl) (h0:∀x,F 0 x=none:=by intro x;rfl)
  (hev:∀j x,V C .auto c (mk ish n x) (fun e st'=>match e with
   | .nrm=>(rd ish st').bind (F j)
   | e=>Zyj e st' outs)=F (j+1) x:=by intro j x;kernel_rfl):Zn P C (.loop c) (lp n ish outs F k):=lP .auto H sN (Zgp c) hok h0 hev
theorem jP (p:Plan) {F:Z8 ish.tys→Option (Zwg outs)} (H:CtxOk P C) (hs:Z7j P C L) (hl:Z7d p c=L:=by kernel_rfl) (hok:(lq n ish outs F).ok=true:=by kernel_rfl)
  (hev:∀x,V C p c (mk ish n x) (fun e st'=>Zyj e st' outs)=F x:=by intro x;kernel_rfl):Zn P C c (lq n ish outs F):=
 Z7cb hok (Zjob (s:=lq n ish outs F) (p:=p) H hok (Zcy hl hs) (fun x y h=>(hev x).trans h))
theorem jA {F:Z8 ish.tys→Option (Zwg outs)} (H:CtxOk P C) (hok:(lq n ish outs F).ok=true:=by kernel_rfl)
  (hev:∀x,V C .auto c (mk ish n x) (fun e st'=>Zyj e st' outs)=F x:=by intro x;kernel_rfl):Zn P C c (lq n ish outs F):=jP .auto H sN (Zgp c) hok hev
theorem fP (p:Plan) {f:FuncId} {fn:Func} {s:Sig} {F:Z8 s.ins→Option (Z8 s.outs)} (H:CtxOk P C) (hf:P.funcs[f]? = some fn) (hs:Z7j P C L) (hname:(fn.name == "runtime.NumGoroutine")=false:=by kernel_rfl) (hb:fn.body=some (cB fn):=by kernel_rfl)
  (hn:fn.ntmps=s.ntmps:=by kernel_rfl) (hps:Nat.ble s.ps.length s.ntmps=true:=by kernel_rfl) (hl:Z7d p (cB fn)=L:=by kernel_rfl) (hev:∀x,s.ev C p fn.results.toList (cB fn) x=F x:=by intro x;kernel_rfl):Zd P f (s.con F):=
 Zynb H hf hname hb hn hps (Zcy hl hs) (fun x y h=>(hev x).trans h)
theorem fA {f:FuncId} {fn:Func} {s:Sig} {F:Z8 s.ins→Option (Z8 s.outs)} (H:CtxOk P C) (hf:P.funcs[f]? = some fn) (hname:(fn.name == "runtime.NumGoroutine")=false:=by kernel_rfl) (hb:fn.body=some (cB fn):=by kernel_rfl)
  (hn:fn.ntmps=s.ntmps:=by kernel_rfl) (hps:Nat.ble s.ps.length s.ntmps=true:=by kernel_rfl) (hev:∀x,s.ev C .auto fn.results.toList (cB fn) x=F x:=by intro x;kernel_rfl):Zd P f (s.con F):=fP .auto H hf sN hname hb hn hps (Zgp _) hev
end
end Go.Proofs.Qz
namespace Go.Proofs.Qz
open Go Go.RowKit
set_option linter.unusedVariables false
def Zb5:CL→CL
 | .leaf (.bor r l)=>.leaf (.list r l)
 | x=>x
def Zgz:CArg→CArg
 | .val a xs=>.val a (xs.map Zb5)
 | x=>x
def roP:PL→PL
 | .v=>.ro
 | x=>x
def roK:PK→PK
 | .val a t ms=>.val a t (ms.map roP)
 | x=>x
def Sig.conR (s:Sig) (f:Z8 s.ins→Option (Z8 s.outs)):Con:={ ms:=(s.ps.map roK).map PK.pm,f:=fun asx=>s.run f (asx.map Zgz) }
section
variable {w:World} {F F' B:Nat→Prop}
theorem Z8d.weak (hF:∀b,F b→B b) {x:Leaf} {v:Value} (h:VLs w F B [.leaf x] [v] []):VLs w B B [Zb5 (.leaf x)] [v] []:=by
 have h:=h.1
 cases x with
 | bor r l=>exact ⟨h,rfl⟩
 | _=>exact ⟨Z8d.mono hF (fun _ q=>q) h,rfl⟩
theorem VLs.weak (hF:∀b,F b→B b):∀{xs:List CL} {vs:List Value} {L:List GI},VLs w F B xs vs L→VLs w B B (xs.map Zb5) vs L
 | [],[],_,h=>h
 | .leaf x::xs,v::vs,L,h=>by
  have h2:=VLs.weak hF h.2;have h1:Z8d w F B x v:=h.1;cases x with
  | bor r l=>exact ⟨h1,h2⟩
  | _=>exact ⟨Z8d.mono hF (fun _ q=>q) h1,h2⟩
 | .row _ _ _::xs,v::vs,.row _::L,h=>⟨h.1,h.2.1.mono hF,VLs.weak hF h.2.2⟩
 | .nil::xs,v::vs,.no::L,h=>⟨h.1,VLs.weak hF h.2⟩
theorem Zig.weak (hF:∀b,F b→B b):∀{asx:List CArg} {vs:List Value} {L:List GI} {M:List Value},Zig w F B asx vs L M→Zig w B B (asx.map Zgz) vs L M
 | [],[],_,_,h=>h
 | a::asx,v::vs,L,M,⟨L1,L2,M1,M2,h1,h2,h3,h4⟩=>by
  refine ⟨L1,L2,M1,M2,h1,h2,?_,Zig.weak hF h4⟩;cases a with
  | val ag xs=>
   cases ag with
   | false=>exact ⟨h3.1,VLs.weak hF h3.2⟩
   | true=>
    obtain ⟨k1,cs,k2,k3⟩:=h3;exact ⟨k1,cs,k2,VLs.weak hF k3⟩
  | _=>exact h3.mono hF (fun _ q=>q)
def Zw9:Leaf→Bool
 | .list _ _=>false
 | .bor _ _=>false
 | _=>true
def Zqr:RL→Bool
 | .leaf x=>Zw9 x
 | .own _ r _=>flat r
def Zmm:RC→Bool
 | .val _ xs=>xs.all Zqr
 | .box _ xs=>xs.all Zqr
theorem Zxb.flat {z:Bool} {e:TypeId} {t:Ty} {v:Value} {l:List t.T} (ht:Go.Proofs.Qz.flat t=true) (h:Zxb w F z e t v l):Zxb w F' z e t v l:=by
 rcases h.cases with ⟨he,h | ⟨g,cap,cs,fr,h0,h1,h2,h3,h4,h5,h6⟩⟩ | ⟨he,rfl,hM | hM⟩
 ·exact Z2b.ok (.inl h) he
 ·exact Z2b.ok (.inr ⟨g,cap,cs,fr,h0,h1,h2,h3,h4,h5,fun j x hj=>Rep.flat ht (h6 j x hj)⟩) he
 ·exact Zam.ok hM he
 ·exact Zxk.ok hM
theorem Z9d.flat:∀{xs:List RL} {vs:List Value} {O:List Conc},xs.all Zqr=true→Z9d w F xs vs O→Z9d w F' xs vs O
 | [],[],_,_,h=>h
 | .leaf x::xs,v::vs,O,hf,h=>by
  rw [Ye,Yd] at hf;refine ⟨?_,Z9d.flat hf.2 h.2⟩;have h1:Z8d w F (fun _=>False) x v:=h.1;cases x with
  | list r l=>cases hf.1
  | bor r l=>cases hf.1
  | _=>exact h1
 | .own e r l::xs,v::vs,c::O,hf,h=>by
  rw [Ye,Yd] at hf;exact ⟨h.1,Zxb.flat hf.1 h.2.1,Z9d.flat hf.2 h.2.2⟩
theorem Zwk.flat {p:RC} {v:Value} {O:List Conc} (hf:Zmm p=true) (h:Zwk w F p v O):Zwk w F' p v O:=by
 cases p with
 | val a xs=>
  cases a with
  | true=>
   obtain ⟨cs,h1,h2⟩:=h;exact ⟨cs,h1,Z9d.flat hf h2⟩
  | false=>exact Z9d.flat hf h
 | box t xs=>
  obtain ⟨g,cs,fr,O1,h1,h2,h3,h4,h5⟩:=h;exact ⟨g,cs,fr,O1,h1,h2,h3,h4,Z9d.flat hf h5⟩
theorem Zyi.flat:∀{ps:List RC} {vs:List Value} {O:List Conc},ps.all Zmm=true→Zyi w F ps vs O→Zyi w F' ps vs O
 | [],[],_,_,h=>h
 | p::ps,v::vs,O,hf,⟨O1,O2,h1,h2,h3⟩=>by
  rw [Ye,Yd] at hf;exact ⟨O1,O2,h1,Zwk.flat hf.1 h2,Zyi.flat hf.2 h3⟩
theorem Z6lb {rs:List RC} {v:Value} {O:List Conc} (hf:rs.all Zmm=true) (h:Zms w F rs v O):Zms w F' rs v O:=by
 match rs,hf,h with
 | [p],hf,h=>
  rw [Ye,Yd] at hf;exact Zwk.flat (p:=p) hf.1 h
 | [],hf,⟨vs,h1,h2⟩=>exact ⟨vs,h1,Zyi.flat hf h2⟩
 | p::q::ps,hf,⟨vs,h1,h2⟩=>exact ⟨vs,h1,Zyi.flat hf h2⟩
theorem Z2lb {L:List GI} {O:List Conc} (h:Zhh w F L [] O):Zhh w F' L [] O:=by
 match L,h with
 | [],h=>exact h
def Zk1:RK→Bool
 | .v t=>flat t
 | .own _ r=>flat r
def noB:PK→Bool
 | .val _ _ ms=>ms.all fun m=>match m with
  | .own _=>false
  | _=>true
 | .rptr _=>true
 | _=>false
def Sig.keptOk (s:Sig):Bool:=s.ps.all noB&&s.rs.all fun r=>r.ks.all Zk1
theorem Zf2:∀(t:Ty) (x:t.T),flat t=true→∀y∈Z1 t x,Zw9 y=true
 | .int _,x,_,y,hy=>by rw [Yl.1 hy];rfl
 | .bool,x,_,y,hy=>by rw [Yl.1 hy];rfl
 | .str,x,_,y,hy=>by rw [Yl.1 hy];rfl
 | .unit,x,_,y,hy=>by cases hy
 | .sl _,x,h,y,hy=>by cases h
 | .pair a b,x,h,y,hy=>by
  have h:(flat a&&flat b)=true:=h;rw [Yd] at h;rcases List.mem_append.1 hy with hy | hy
  ·exact Zf2 a x.1 h.1 y hy
  ·exact Zf2 b x.2 h.2 y hy
def DV.t:DV→Ty
 | .mk t _=>t
theorem Znab:∀(ts:List Ty) (y:Z8 ts),(Zqe ts y).map DV.t=ts
 | [],_=>rfl
 | [t],y=>rfl
 | t::u::ts,y=>by
  show DV.t _::(Zqe (u::ts) y.2).map DV.t=_;rw [Znab (u::ts) y.2];rfl
theorem Zsw:∀(ks:List RK) (ds:List DV) (rest:List Ty),ds.map DV.t=ks.map RK.ty++rest→ks.all Zk1=true→(Z6 ks ds).1.all Zqr=true∧(Z6 ks ds).2.map DV.t=rest
 | [],ds,rest,h,_=>⟨rfl,h⟩
 | .v t::ks,[],rest,h,_=>by cases h
 | .own e r::ks,[],rest,h,_=>by cases h
 | .v t::ks,.mk t' x::ds,rest,h,hf=>by
  rw [Ye,Yd] at hf;rw [Yi,Yi,Y7,Y6.injEq] at h;obtain ⟨k1,k2⟩:=Zsw ks ds rest h.2 hf.2;have ht:t'=t:=h.1;subst ht;refine ⟨?_,k2⟩;show ((Z1 t' x).map RL.leaf++(Z6 ks ds).1).all Zqr=true;rw [Y4,k1,Y3,List.all_map];exact List.all_eq_true.2 fun y hy=>Zf2 t' x hf.1 y hy
 | .own e r::ks,.mk t' x::ds,rest,h,hf=>by
  rw [Ye,Yd] at hf;rw [Yi,Yi,Y7,Y6.injEq] at h;obtain ⟨k1,k2⟩:=Zsw ks ds rest h.2 hf.2;have ht:t' = .sl r:=h.1;subst ht;refine ⟨?_,k2⟩;show ([RL.own e r x]++(Z6 ks ds).1).all Zqr=true;rw [Y4,k1,Y3];show (flat r&&true)=true;rw [show flat r=true from hf.1];rfl
theorem Z60:∀(rs:List SK) (ds:List DV) (rest:List Ty),ds.map DV.t=Zlq rs++rest→(rs.all fun r=>r.ks.all Zk1)=true→(Zbe rs ds).1.all Zmm=true∧(Zbe rs ds).2.map DV.t=rest
 | [],ds,rest,h,_=>⟨rfl,h⟩
 | .val a ks::rs,ds,rest,h,hf=>by
  rw [Ye,Yd] at hf;obtain ⟨k1,k2⟩:=Zsw ks ds (Zlq rs++rest) (by rw [h];show (ks.map RK.ty++Zlq rs)++rest=_;rw [Y5]) hf.1;obtain ⟨j1,j2⟩:=Z60 rs (Z6 ks ds).2 rest k2 hf.2;refine ⟨?_,j2⟩;show (Zmm (.val a (Z6 ks ds).1)&&_)=true;rw [show Zmm (.val a (Z6 ks ds).1)=true from k1];exact j1
 | .box a ks::rs,ds,rest,h,hf=>by
  rw [Ye,Yd] at hf;obtain ⟨k1,k2⟩:=Zsw ks ds (Zlq rs++rest) (by rw [h];show (ks.map RK.ty++Zlq rs)++rest=_;rw [Y5]) hf.1;obtain ⟨j1,j2⟩:=Z60 rs (Z6 ks ds).2 rest k2 hf.2;refine ⟨?_,j2⟩;show (Zmm (.box a (Z6 ks ds).1)&&_)=true;rw [show Zmm (.box a (Z6 ks ds).1)=true from k1];exact j1
theorem Zsbb:∀(ts:List Ty) (ms:List PL),(ms.all fun m=>match m with
  | .own _=>false
  | _=>true)=true→Zqi ts ms=[]
 | [],[],_=>rfl
 | [],_::_,_=>rfl
 | t::ts,[],_=>by cases t <;> rfl
 | t::ts,m::ms,h=>by
  rw [Ye,Yd] at h;have ih:=Zsbb ts ms h.2;cases m with
  | own e=>cases h.1
  | v=>cases t <;> exact ih
  | ro=>cases t <;> exact ih
theorem Zw7:∀(ps:List PK) (ds:List DV),ps.all noB=true→Zog ps ds=[]
 | [],_,_=>rfl
 | p::ps,ds,h=>by
  rw [Ye,Yd] at h
  have e:Zpt p ds=([],ds):=by
   cases p with
   | val a t ms=>
    show Z3i (Zqi (Z7 t) ms) ds=_;rw [Zsbb _ _ h.1];rfl
   | rptr t=>rfl
   | ref _ _ _=>cases h.1
   | fn _ _=>cases h.1
   | mv _ _=>cases h.1
  show (Zpt p ds).1++Zog ps (Zpt p ds).2=[];rw [e];exact Zw7 ps ds h.2
end
theorem Zt0 {P:Program} {n:FuncId} {s:Sig} {f:Z8 s.ins→Option (Z8 s.outs)} (h:Zd P n (s.con f)) (hk:s.keptOk=true:=by kernel_rfl):Zd P n (s.conR f):=by
 unfold Sig.keptOk at hk
 rw [Yd] at hk
 refine ⟨h.1,fun asx rr hrr w vs F L M hF hnd hgl hargs=>?_⟩
 have hrr:(s.run f (asx.map Zgz)).val=some rr:=hrr
 have hfl:rr.res.all Zmm=true∧rr.refs=[]:=by
  unfold Sig.run at hrr;split at hrr
  ·split at hrr
   ·rename_i x _
    obtain ⟨y,_,hy⟩:=Option.map_eq_some_iff.1 (show (f x).map s.enc=some rr from hrr);rw [← hy];exact ⟨(Z60 s.rs (Zqe s.outs y) (Z2z s.ps) (Znab _ _) hk.2).1,Zw7 s.ps _ hk.1⟩
   ·cases hrr
  ·cases hrr
 refine (h.2 (asx.map Zgz) rr hrr w vs (Bor w (GI.blocks L++Zqb M)) L M (fun b hb=>hb) hnd hgl (Zig.weak hF hargs)).mono fun e w' ⟨v,he,hK,O1,O2,h1,h2,h3,h4⟩=>?_
 refine ⟨v,he,hK,O1,O2,h1,h2,?_,Z6lb hfl.1 h4⟩
 rw [hfl.2] at h3 ⊢
 exact Z2lb h3
end Go.Proofs.Qz
section
namespace Go.Proofs
open Go.Shelf
def Tryz.lays156_ren:Go.Shelf.Ren:=⟨fun | 156=>271 | 165=>297 | 166=>298 | 169=>299 | 240=>313 | 241=>314 | 276=>322 | 277=>323 | n=>n,fun | 31=>23 | 9=>9 | 3=>3 | 4=>4 | 0=>0 | 20=>20 | 72=>309 | 76=>313 | 70=>307 | 37=>22 | 75=>312 | 127=>327 | 164=>334 | 5=>5 | 80=>204 | n=>n,fun | n=>n⟩
theorem Tryz.lays156:Go.Proofs.Lays.n156 Yb Tryz.lays156_ren:={
 mixed:=by kernel_rfl
 f156:=Tryz.func271.trans (congrArg some (by kernel_rfl))
 f165:=Yaa.trans (congrArg some (by kernel_rfl))
 f166:=Yba.trans (congrArg some (by kernel_rfl))
 f169:=Yca.trans (congrArg some (by kernel_rfl))
 f240:=Yda.trans (congrArg some (by kernel_rfl))
 f241:=Yea.trans (congrArg some (by kernel_rfl))
 f276:=Yfa.trans (congrArg some (by kernel_rfl))
 f277:=Yga.trans (congrArg some (by kernel_rfl))
 t0:=Yv
 a0:=Yn
 z0:=Yr
 v0:=Yz
 t3:=Yw
 a3:=Yo
 z3:=Ys
 v3:=Y0
 t4:=Yx
 a4:=Yp
 z4:=Yt
 v4:=Y1
 t9:=Y7a
 a9:=Ypa
 z9:=Yya
 v9:=Ygb
 t20:=Yza
 a20:=Yha
 z20:=Yqa
 v20:=Y8a
 t31:=Tryz.underlying23
 a31:=Tryz.isAgg23
 z31:=Tryz.sizeOf23
 v31:=Tryz.zeroValue23
 t37:=Y0a
 a37:=Yia
 z37:=Yra
 v37:=Y9a
 t70:=Y1a
 a70:=Yja
 z70:=Ysa
 v70:=Yab
 t72:=Y2a
 a72:=Yka
 z72:=Yta
 v72:=Ybb
 t75:=Y3a
 a75:=Yla
 z75:=Yua
 v75:=Ycb
 t76:=Y4a
 a76:=Yma
 z76:=Yva
 v76:=Ydb
 t127:=Y5a
 a127:=Yna
 z127:=Ywa
 v127:=Yeb
 t164:=Y6a
 a164:=Yoa
 z164:=Yxa
 v164:=Yfb }
theorem Tryz.Builder_Extra_156:Builder.Extra Yb Tryz.lays156_ren:={
 sizeBuilder:=by kernel_rfl
 liesBuilder:=by kernel_rfl
 t5:=Yy
 a5:=Yq
 z5:=Yu
 v5:=Y2
 infoByte:=by kernel_rfl
 cellsByte:=by kernel_rfl
 sizeByte:=by kernel_rfl
 neB5:=by decide }
open Go.RowKit in
theorem Tryz.strings_Join_none (a:Option Addr) (c:Nat) (sep:ByteArray) (w:World):
  Calls Yb 271 #[.slice a 0 c,.string sep] w fun e w'=>e = .returned (.string ⟨#[]⟩)∧w'=w:=Any.strings_Join_none Tryz.lays156 Tryz.Builder_Extra_156 a c sep w
open Go.RowKit in
theorem Tryz.strings_Join (bk o c:Nat) (xs:List ByteArray) (sep:ByteArray) (w:World) (hcells:∀(j:Nat) x,xs[j]? = some x→w.cell? ⟨bk,o+j,none⟩=some (.string x)) (hbk:bk<w.heap.size) (hN:xs.length≤140737488355328) (hcap:xs.length≤c) (hlen:(Lib.join (xs.map (·.data.toList)) sep.data.toList).length≤140737488355328):
  Calls Yb 271 #[.slice (some ⟨bk,o,none⟩) xs.length c,.string sep] w fun e w'=>e = .returned (.string ⟨(Lib.join (xs.map (·.data.toList)) sep.data.toList).toArray⟩)∧Below w.heap.size w w':=Any.strings_Join Tryz.lays156 Tryz.Builder_Extra_156 bk o c xs sep w hcells hbk hN hcap hlen
def Tryz.lays105_ren:Go.Shelf.Ren:=⟨fun | 105=>294 | 212=>308 | 99=>309 | 165=>297 | 166=>298 | 170=>310 | 169=>299 | 263=>318 | 264=>319 | 206=>320 | 240=>313 | 241=>314 | 276=>322 | 277=>323 | n=>n,fun | 9=>9 | 3=>3 | 4=>4 | 20=>20 | 0=>0 | 46=>265 | 109=>320 | 5=>5 | 72=>309 | 76=>313 | 51=>297 | 146=>330 | 53=>215 | 148=>332 | 70=>307 | 37=>22 | 75=>312 | 127=>327 | 164=>334 | 80=>204 | n=>n,fun | n=>n⟩
theorem Tryz.lays105:Go.Proofs.Lays.n105 Yb Tryz.lays105_ren:={
 mixed:=by kernel_rfl
 f99:=Tryz.func309.trans (congrArg some (by kernel_rfl))
 f105:=Tryz.func294.trans (congrArg some (by kernel_rfl))
 f165:=Yaa.trans (congrArg some (by kernel_rfl))
 f166:=Yba.trans (congrArg some (by kernel_rfl))
 f169:=Yca.trans (congrArg some (by kernel_rfl))
 f170:=Tryz.func310.trans (congrArg some (by kernel_rfl))
 f206:=Tryz.func320.trans (congrArg some (by kernel_rfl))
 f212:=Tryz.func308.trans (congrArg some (by kernel_rfl))
 f240:=Yda.trans (congrArg some (by kernel_rfl))
 f241:=Yea.trans (congrArg some (by kernel_rfl))
 f263:=Tryz.func318.trans (congrArg some (by kernel_rfl))
 f264:=Tryz.func319.trans (congrArg some (by kernel_rfl))
 f276:=Yfa.trans (congrArg some (by kernel_rfl))
 f277:=Yga.trans (congrArg some (by kernel_rfl))
 t0:=Yv
 a0:=Yn
 z0:=Yr
 v0:=Yz
 t3:=Yw
 a3:=Yo
 z3:=Ys
 v3:=Y0
 t4:=Yx
 a4:=Yp
 z4:=Yt
 v4:=Y1
 t5:=Yy
 a5:=Yq
 z5:=Yu
 v5:=Y2
 t9:=Y7a
 a9:=Ypa
 z9:=Yya
 v9:=Ygb
 t20:=Yza
 a20:=Yha
 z20:=Yqa
 v20:=Y8a
 t37:=Y0a
 a37:=Yia
 z37:=Yra
 v37:=Y9a
 t46:=Tryz.underlying265
 a46:=Tryz.isAgg265
 z46:=Tryz.sizeOf265
 v46:=Tryz.zeroValue265
 t51:=Tryz.underlying297
 a51:=Tryz.isAgg297
 z51:=Tryz.sizeOf297
 v51:=Tryz.zeroValue297
 t53:=Tryz.underlying215
 a53:=Tryz.isAgg215
 z53:=Tryz.sizeOf215
 v53:=Tryz.zeroValue215
 t70:=Y1a
 a70:=Yja
 z70:=Ysa
 v70:=Yab
 t72:=Y2a
 a72:=Yka
 z72:=Yta
 v72:=Ybb
 t75:=Y3a
 a75:=Yla
 z75:=Yua
 v75:=Ycb
 t76:=Y4a
 a76:=Yma
 z76:=Yva
 v76:=Ydb
 t109:=Tryz.underlying320
 a109:=Tryz.isAgg320
 z109:=Tryz.sizeOf320
 v109:=Tryz.zeroValue320
 t127:=Y5a
 a127:=Yna
 z127:=Ywa
 v127:=Yeb
 t146:=Tryz.underlying330
 a146:=Tryz.isAgg330
 z146:=Tryz.sizeOf330
 v146:=Tryz.zeroValue330
 t148:=Tryz.underlying332
 a148:=Tryz.isAgg332
 z148:=Tryz.sizeOf332
 v148:=Tryz.zeroValue332
 t164:=Y6a
 a164:=Yoa
 z164:=Yxa
 v164:=Yfb }
theorem Tryz.Builder_Extra_105:Builder.Extra Yb Tryz.lays105_ren:={
 sizeBuilder:=by kernel_rfl
 liesBuilder:=by kernel_rfl
 t5:=Yy
 a5:=Yq
 z5:=Yu
 v5:=Y2
 infoByte:=by kernel_rfl
 cellsByte:=by kernel_rfl
 sizeByte:=by kernel_rfl
 neB5:=by decide }
open Go.RowKit Go.Lib in
theorem Tryz.strings_Repeat (s:ByteArray) (c:Nat) (w:World) (hc:c≤9223372036854775807) (hlen:s.size*c≤140737488355328):
  Calls Yb 294 #[.string s,.int .i64 c] w fun e w'=>e = .returned (.string ⟨(Lib.repeatL s.data.toList c).toArray⟩)∧Below w.heap.size w w':=Any.strings_Repeat Tryz.lays105 Tryz.Builder_Extra_105 s c w hc hlen
def Tryz.laysNm223_ren:Go.Shelf.Ren:=⟨fun | 23=>204 | n=>n,fun | 22=>221 | 3=>3 | 4=>4 | 0=>0 | n=>n,fun | n=>n⟩
theorem Tryz.laysNm223:Go.Proofs.Lays2.n23 Yb Tryz.laysNm223_ren:={
 mixed:=by kernel_rfl
 f23:=Tryz.func204.trans (congrArg some (by kernel_rfl))
 t0:=Yv
 a0:=Yn
 z0:=Yr
 v0:=Yz
 t3:=Yw
 a3:=Yo
 z3:=Ys
 v3:=Y0
 t4:=Yx
 a4:=Yp
 z4:=Yt
 v4:=Y1
 t22:=Tryz.underlying221
 a22:=Tryz.isAgg221
 z22:=Tryz.sizeOf221
 v22:=Tryz.zeroValue221
 i3:=by kernel_rfl }
open Go.RowKit Go.Lib Go.Sort in
theorem Tryz.slices_Delete_int (blk off cap i j:Nat) (zs:List Int) (w:World) (hH:Holds (Value.int .i64) w blk off zs.toArray) (hcap:zs.length≤cap) (hm:cap≤9223372036854775807) (hij:i≤j) (hj:j≤zs.length):
  Calls Yb 204 #[.slice (some ⟨blk,off,none⟩) zs.length cap,.int .i64 i,.int .i64 j] w fun e w'=>e = .returned (.slice (some ⟨blk,off,none⟩) (zs.length-(j-i)) cap)∧∃q,w'=putRow (Value.int .i64) (Sort.ahead w q) blk off (zs.take i++zs.drop j++Y8 (j-i) 0).toArray:=Any.slices_Delete_int Tryz.laysNm223 blk off cap i j zs w hH hcap hm hij hj
open Go.RowKit Go.Lib Go.Sort in
theorem Tryz.slices_Delete_int_cells (b off n c i j:Nat) (zs:List Int) (w:World) (hz:n≤zs.length) (hcap:n≤c) (hm:c≤9223372036854775807) (hij:i≤j) (hj:j≤n) (hc:∀j,j<zs.length→w.cell? ⟨b,off+j,none⟩=some (.int .i64 (zs.getD j 0))) (hf:∀j,j<n→w.frozen? ⟨b,off+j,none⟩=false):
  Calls Yb 204 #[.slice (some ⟨b,off,none⟩) n c,.int .i64 i,.int .i64 j] w fun e w'=>e = .returned (.slice (some ⟨b,off,none⟩) (n-(j-i)) c)∧∃q,w'=(w.drewN q).setCells b off (((zs.take n).take i++(zs.take n).drop j++Y8 (j-i) 0).map (Value.int .i64)):=Any.slices_Delete_int_cells Tryz.laysNm223 b off n c i j zs w hz hcap hm hij hj hc hf
open Go.RowKit Go.Lib in
theorem Tryz.slices_Delete_int_empty (a:Option Addr) (c:Nat) (w:World):
  Calls Yb 204 #[.slice a 0 c,.int .i64 0,.int .i64 0] w fun e w'=>e = .returned (.slice a 0 c)∧w'=w:=Any.slices_Delete_int_empty Tryz.laysNm223 a c w
end Go.Proofs
end
namespace Go.Proofs.Qz
open Go Go.RowKit
set_option linter.unusedVariables false
set_option linter.defProp false
abbrev Zz:Ty:=(.pair (.int .i64) .str)
abbrev Z2:=Int×Str
abbrev Zin:Ty:=(.pair (.int .i64) (.int .i64))
abbrev Z1s:=Int×Int
abbrev T42:Ty:=(.pair (.sl .str) (.int .i64))
abbrev Zrz:Ty:=(.pair (.sl (.int .i64)) (.int .i64))
abbrev Zke:Ty:=(.pair .bool Zz)
abbrev Zkg:=Bool×Z2
abbrev Zhn:Ty:=(.pair .str (.pair (.int .i64) .bool))
abbrev Zlz:=Str×Int×Bool
abbrev T156:Ty:=(.pair (.int .i64) (.pair .str (.int .i64)))
abbrev T269:Ty:=(.pair .str Zin)
abbrev Zh5:Ty:=(.pair (.int .i64) Zin)
abbrev G272:=Int×Z1s
abbrev T26:Ty:=(.pair (.sl .str) (.sl Zz))
abbrev G26:=List Str×List Z2
abbrev T52:Ty:=(.pair (.int .i64) (.pair (.int .i64) Zz))
abbrev G52:=Int×Int×Z2
abbrev Zkc:Ty:=(.pair (.int .i64) Zh5)
abbrev Zve:=Int×G272
abbrev T28:Ty:=(.pair (.int .i64) T26)
abbrev G28:=Int×G26
abbrev Zvh:Ty:=(.pair (.sl (.int .u8)) (.pair (.int .i64) (.pair (.int .u64) (.int .i64))))
abbrev Zlp:=List Int×Int×Int×Int
abbrev T318:Ty:=(.pair T52 (.int .i64))
abbrev T109:Ty:=(.pair T26 (.pair .str (.int .i64)))
abbrev T38:Ty:=(.pair T28 (.int .i64))
abbrev T100:Ty:=(.pair (.sl Zkc) (.int .i64))
abbrev T33:Ty:=(.pair (.int .i64) (.pair .str (.sl T52)))
abbrev T121:Ty:=(.pair (.sl Zke) (.pair .str Zrz))
abbrev T35:Ty:=(.pair T33 (.int .i64))
abbrev T70:Ty:=(.pair T28 (.pair .str Zrz))
abbrev T54:Ty:=(.pair (.int .i64) (.pair (.int .i64) (.pair (.int .i64) (.pair .str T52))))
abbrev G54:=Int×Int×Int×Str×G52
abbrev T46:Ty:=(.pair (.int .i64) (.pair (.int .i64) (.pair (.int .i64) (.pair (.int .i64) (.pair (.int .i64) (.pair .str (.pair (.sl (.int .i64)) (.sl (.int .i64)))))))))
abbrev G46:=Int×Int×Int×Int×Int×Str×List Int×List Int
abbrev T48:Ty:=(.pair T46 (.int .i64))
abbrev T86:Ty:=(.pair T54 (.pair (.int .i64) (.pair (.sl (.int .i64)) (.sl (.int .i64)))))
def TAB:Tab TI:=(.node (.node (.node (.node (.node (.node (.node .nil (some { sz:=3,agg:=true,offs:=[(0,2),(1,61)],elem:=0,kind:=4,ik:=.i64,bytes:=56,zero:=[.int .i64 0,.nil,.nil],ty:=T28,eqs:=false }) .nil) (some { sz:=1,agg:=false,offs:=[],elem:=52,kind:=3,ik:=.i64,bytes:=24,zero:=[.nil],ty:=(.sl T52),eqs:=false }) .nil) none (.node .nil none (.node .nil (some { sz:=1,agg:=false,offs:=[],elem:=151,kind:=3,ik:=.i64,bytes:=24,zero:=[.nil],ty:=(.sl Zke),eqs:=false }) .nil))) none (.node .nil (some { sz:=1,agg:=false,offs:=[],elem:=9,kind:=3,ik:=.i64,bytes:=24,zero:=[.nil],ty:=(.sl .str),eqs:=false }) (.node (.node (.node .nil (some { sz:=3,agg:=true,offs:=[(0,4),(1,2),(2,9)],elem:=0,kind:=4,ik:=.i64,bytes:=32,zero:=[.kb false,.int .i64 0,.str []],ty:=Zke,eqs:=true }) .nil) none (.node .nil (some { sz:=1,agg:=false,offs:=[],elem:=0,kind:=1,ik:=.u64,bytes:=8,zero:=[.int .u64 0],ty:=(.int .u64),eqs:=false }) .nil)) none .nil))) (some { sz:=1,agg:=false,offs:=[],elem:=0,kind:=1,ik:=.i64,bytes:=8,zero:=[.int .i64 0],ty:=(.int .i64),eqs:=false }) (.node (.node (.node (.node .nil none (.node .nil (some { sz:=2,agg:=true,offs:=[(0,2),(1,9)],elem:=0,kind:=4,ik:=.i64,bytes:=24,zero:=[.int .i64 0,.str []],ty:=Zz,eqs:=true }) .nil)) (some { sz:=4,agg:=true,offs:=[(0,33),(3,2)],elem:=0,kind:=4,ik:=.i64,bytes:=56,zero:=[.int .i64 0,.str [],.nil,.int .i64 0],ty:=T35,eqs:=false }) .nil) none (.node .nil none (.node .nil none (.node .nil (some { sz:=2,agg:=true,offs:=[(0,2),(1,2)],elem:=0,kind:=4,ik:=.i64,bytes:=16,zero:=[.int .i64 0,.int .i64 0],ty:=Zin,eqs:=true }) .nil)))) none (.node (.node (.node (.node .nil (some { sz:=4,agg:=true,offs:=[(0,2),(1,2),(2,2),(3,2)],elem:=0,kind:=4,ik:=.i64,bytes:=32,zero:=[.int .i64 0,.int .i64 0,.int .i64 0,.int .i64 0],ty:=Zkc,eqs:=true }) .nil) none .nil) none .nil) none (.node .nil (some { sz:=1,agg:=false,offs:=[],elem:=248,kind:=3,ik:=.i64,bytes:=24,zero:=[.nil],ty:=(.sl Zz),eqs:=false }) .nil)))) none (.node (.node (.node (.node .nil (some { sz:=3,agg:=true,offs:=[(0,2),(1,9),(2,31)],elem:=0,kind:=4,ik:=.i64,bytes:=48,zero:=[.int .i64 0,.str [],.nil],ty:=T33,eqs:=false }) (.node (.node (.node .nil (some { sz:=3,agg:=true,offs:=[(0,9),(1,2),(2,4)],elem:=0,kind:=4,ik:=.i64,bytes:=32,zero:=[.str [],.int .i64 0,.kb false],ty:=Zhn,eqs:=true }) .nil) none .nil) none .nil)) none .nil) (some { sz:=1,agg:=false,offs:=[],elem:=0,kind:=2,ik:=.i64,bytes:=16,zero:=[.str []],ty:=.str,eqs:=false }) (.node (.node (.node (.node (.node .nil (some { sz:=1,agg:=false,offs:=[],elem:=0,kind:=1,ik:=.u64,bytes:=8,zero:=[.int .u64 0],ty:=(.int .u64),eqs:=false }) .nil) none .nil) none .nil) none (.node (.node (.node .nil (some { sz:=1,agg:=false,offs:=[],elem:=0,kind:=1,ik:=.u32,bytes:=4,zero:=[.int .u32 0],ty:=(.int .u32),eqs:=false }) .nil) none .nil) none .nil)) none (.node .nil none (.node .nil (some { sz:=4,agg:=true,offs:=[(0,111),(1,9),(2,44),(3,2)],elem:=0,kind:=4,ik:=.i64,bytes:=72,zero:=[.nil,.str [],.nil,.int .i64 0],ty:=T121,eqs:=false }) .nil)))) (some { sz:=1,agg:=false,offs:=[],elem:=0,kind:=1,ik:=.u8,bytes:=1,zero:=[.int .u8 0],ty:=(.int .u8),eqs:=false }) (.node .nil none (.node (.node (.node (.node (.node .nil (some { sz:=3,agg:=true,offs:=[(0,9),(1,2),(2,2)],elem:=0,kind:=4,ik:=.i64,bytes:=32,zero:=[.str [],.int .i64 0,.int .i64 0],ty:=T269,eqs:=true }) .nil) none .nil) none (.node .nil (some { sz:=1,agg:=false,offs:=[],elem:=4,kind:=3,ik:=.i64,bytes:=24,zero:=[.nil],ty:=(.sl .bool),eqs:=false }) .nil)) none (.node .nil (some { sz:=4,agg:=true,offs:=[(0,26),(2,9),(3,2)],elem:=0,kind:=4,ik:=.i64,bytes:=72,zero:=[.nil,.nil,.str [],.int .i64 0],ty:=T109,eqs:=false }) .nil)) none (.node (.node .nil none (.node .nil (some { sz:=1,agg:=false,offs:=[],elem:=3,kind:=3,ik:=.i64,bytes:=24,zero:=[.nil],ty:=(.sl (.int .i64)),eqs:=false }) .nil)) (some { sz:=2,agg:=true,offs:=[(0,23),(1,59)],elem:=0,kind:=4,ik:=.i64,bytes:=48,zero:=[.nil,.nil],ty:=T26,eqs:=false }) .nil))))) none (.node (.node (.node (.node (.node (.node .nil (some { sz:=4,agg:=true,offs:=[(0,2),(1,2),(2,2),(3,9)],elem:=0,kind:=4,ik:=.i64,bytes:=40,zero:=[.int .i64 0,.int .i64 0,.int .i64 0,.str []],ty:=T52,eqs:=true }) .nil) none .nil) none (.node (.node (.node (.node .nil (some { sz:=3,agg:=true,offs:=[(0,2),(1,2),(2,2)],elem:=0,kind:=4,ik:=.i64,bytes:=24,zero:=[.int .i64 0,.int .i64 0,.int .i64 0],ty:=Zh5,eqs:=true }) .nil) none .nil) none .nil) (some { sz:=9,agg:=true,offs:=[(0,46),(8,2)],elem:=0,kind:=4,ik:=.i64,bytes:=112,zero:=[.int .i64 0,.int .i64 0,.int .i64 0,.int .i64 0,.int .i64 0,.str [],.nil,.nil,.int .i64 0],ty:=T48,eqs:=false }) (.node .nil none (.node .nil (some { sz:=1,agg:=false,offs:=[],elem:=243,kind:=3,ik:=.i64,bytes:=24,zero:=[.nil],ty:=(.sl Zin),eqs:=false }) .nil)))) none (.node (.node .nil none (.node (.node (.node .nil (some { sz:=1,agg:=false,offs:=[],elem:=297,kind:=3,ik:=.i64,bytes:=24,zero:=[.nil],ty:=(.sl (.int .u32)),eqs:=false }) .nil) none .nil) none .nil)) (some { sz:=1,agg:=false,offs:=[],elem:=195,kind:=3,ik:=.i64,bytes:=24,zero:=[.nil],ty:=(.sl Zz),eqs:=false }) (.node .nil none (.node .nil none (.node .nil (some { sz:=2,agg:=true,offs:=[(0,2),(1,9)],elem:=0,kind:=4,ik:=.i64,bytes:=24,zero:=[.int .i64 0,.str []],ty:=Zz,eqs:=true }) .nil))))) (some { sz:=1,agg:=false,offs:=[],elem:=0,kind:=5,ik:=.i64,bytes:=1,zero:=[.kb false],ty:=.bool,eqs:=false }) (.node (.node (.node (.node .nil none (.node (.node .nil (some { sz:=64,agg:=true,offs:=[(64,0)],elem:=297,kind:=7,ik:=.i64,bytes:=256,zero:=[.int .u32 0,.int .u32 0,.int .u32 0,.int .u32 0,.int .u32 0,.int .u32 0,.int .u32 0,.int .u32 0,.int .u32 0,.int .u32 0,.int .u32 0,.int .u32 0,.int .u32 0,.int .u32 0,.int .u32 0,.int .u32 0,.int .u32 0,.int .u32 0,.int .u32 0,.int .u32 0,.int .u32 0,.int .u32 0,.int .u32 0,.int .u32 0,.int .u32 0,.int .u32 0,.int .u32 0,.int .u32 0,.int .u32 0,.int .u32 0,.int .u32 0,.int .u32 0,.int .u32 0,.int .u32 0,.int .u32 0,.int .u32 0,.int .u32 0,.int .u32 0,.int .u32 0,.int .u32 0,.int .u32 0,.int .u32 0,.int .u32 0,.int .u32 0,.int .u32 0,.int .u32 0,.int .u32 0,.int .u32 0,.int .u32 0,.int .u32 0,.int .u32 0,.int .u32 0,.int .u32 0,.int .u32 0,.int .u32 0,.int .u32 0,.int .u32 0,.int .u32 0,.int .u32 0,.int .u32 0,.int .u32 0,.int .u32 0,.int .u32 0,.int .u32 0],ty:=.unit,eqs:=false }) .nil) none .nil)) none (.node .nil (some { sz:=2,agg:=true,offs:=[(0,98),(1,2)],elem:=0,kind:=4,ik:=.i64,bytes:=32,zero:=[.nil,.int .i64 0],ty:=T100,eqs:=false }) .nil)) none (.node .nil (some { sz:=4,agg:=true,offs:=[(0,2),(1,2),(2,2),(3,9)],elem:=0,kind:=4,ik:=.i64,bytes:=40,zero:=[.int .i64 0,.int .i64 0,.int .i64 0,.str []],ty:=T52,eqs:=true }) .nil)) none (.node (.node .nil (some { sz:=1,agg:=false,offs:=[],elem:=2,kind:=3,ik:=.i64,bytes:=24,zero:=[.nil],ty:=(.sl (.int .i64)),eqs:=false }) .nil) (some { sz:=3,agg:=true,offs:=[(0,2),(1,26)],elem:=0,kind:=4,ik:=.i64,bytes:=56,zero:=[.int .i64 0,.nil,.nil],ty:=T28,eqs:=false }) (.node (.node (.node .nil (some { sz:=3,agg:=true,offs:=[(0,2),(1,9),(2,2)],elem:=0,kind:=4,ik:=.i64,bytes:=32,zero:=[.int .i64 0,.str [],.int .i64 0],ty:=T156,eqs:=true }) .nil) none .nil) none .nil)))) (some { sz:=1,agg:=false,offs:=[],elem:=0,kind:=1,ik:=.i64,bytes:=8,zero:=[.int .i64 0],ty:=(.int .i64),eqs:=false }) (.node (.node (.node (.node (.node .nil (some { sz:=8,agg:=true,offs:=[(0,2),(1,2),(2,2),(3,9),(4,64)],elem:=0,kind:=4,ik:=.i64,bytes:=80,zero:=[.int .i64 0,.int .i64 0,.int .i64 0,.str [],.int .i64 0,.int .i64 0,.int .i64 0,.str []],ty:=T54,eqs:=true }) .nil) none (.node .nil (some { sz:=1,agg:=false,offs:=[],elem:=139,kind:=3,ik:=.i64,bytes:=24,zero:=[.nil],ty:=(.sl Zkc),eqs:=false }) .nil)) none .nil) none (.node (.node .nil (some { sz:=2,agg:=true,offs:=[(0,23),(1,2)],elem:=0,kind:=4,ik:=.i64,bytes:=32,zero:=[.nil,.int .i64 0],ty:=T42,eqs:=false }) (.node .nil none (.node .nil (some { sz:=3,agg:=true,offs:=[(0,9),(1,2),(2,4)],elem:=0,kind:=4,ik:=.i64,bytes:=32,zero:=[.str [],.int .i64 0,.kb false],ty:=Zhn,eqs:=true }) .nil))) (some { sz:=2,agg:=true,offs:=[(0,23),(1,24)],elem:=0,kind:=4,ik:=.i64,bytes:=48,zero:=[.nil,.nil],ty:=T26,eqs:=false }) (.node (.node .nil (some { sz:=11,agg:=true,offs:=[(0,54),(8,2),(9,44),(10,44)],elem:=0,kind:=4,ik:=.i64,bytes:=136,zero:=[.int .i64 0,.int .i64 0,.int .i64 0,.str [],.int .i64 0,.int .i64 0,.int .i64 0,.str [],.int .i64 0,.nil,.nil],ty:=T86,eqs:=false }) .nil) none .nil))) none (.node (.node (.node (.node (.node (.node .nil (some { sz:=4,agg:=true,offs:=[(0,22),(1,3),(2,215),(3,2)],elem:=0,kind:=4,ik:=.i64,bytes:=48,zero:=[.nil,.int .i64 0,.int .u64 0,.int .i64 0],ty:=Zvh,eqs:=false }) .nil) none .nil) (some { sz:=6,agg:=true,offs:=[(0,28),(3,9),(4,44),(5,2)],elem:=0,kind:=4,ik:=.i64,bytes:=104,zero:=[.int .i64 0,.nil,.nil,.str [],.nil,.int .i64 0],ty:=T70,eqs:=false }) .nil) (some { sz:=4,agg:=true,offs:=[(0,28),(3,2)],elem:=0,kind:=4,ik:=.i64,bytes:=64,zero:=[.int .i64 0,.nil,.nil,.int .i64 0],ty:=T38,eqs:=false }) .nil) (some { sz:=1,agg:=false,offs:=[],elem:=5,kind:=3,ik:=.i64,bytes:=24,zero:=[.nil],ty:=(.sl (.int .u8)),eqs:=false }) (.node (.node .nil (some { sz:=11,agg:=true,offs:=[(0,66),(8,2),(9,44),(10,44)],elem:=0,kind:=4,ik:=.i64,bytes:=136,zero:=[.int .i64 0,.int .i64 0,.int .i64 0,.str [],.int .i64 0,.int .i64 0,.int .i64 0,.str [],.int .i64 0,.nil,.nil],ty:=T86,eqs:=false }) .nil) (some { sz:=8,agg:=true,offs:=[(0,2),(1,2),(2,2),(3,9),(4,52)],elem:=0,kind:=4,ik:=.i64,bytes:=80,zero:=[.int .i64 0,.int .i64 0,.int .i64 0,.str [],.int .i64 0,.int .i64 0,.int .i64 0,.str []],ty:=T54,eqs:=true }) .nil)) none (.node (.node .nil (some { sz:=8,agg:=true,offs:=[(0,2),(1,2),(2,2),(3,2),(4,2),(5,9),(6,44),(7,44)],elem:=0,kind:=4,ik:=.i64,bytes:=104,zero:=[.int .i64 0,.int .i64 0,.int .i64 0,.int .i64 0,.int .i64 0,.str [],.nil,.nil],ty:=T46,eqs:=false }) (.node (.node (.node .nil (some { sz:=8,agg:=true,offs:=[(8,0)],elem:=297,kind:=7,ik:=.i64,bytes:=32,zero:=[.int .u32 0,.int .u32 0,.int .u32 0,.int .u32 0,.int .u32 0,.int .u32 0,.int .u32 0,.int .u32 0],ty:=.unit,eqs:=false }) .nil) none .nil) none .nil)) none (.node (.node .nil none (.node .nil (some { sz:=1,agg:=false,offs:=[],elem:=1000222,kind:=6,ik:=.i64,bytes:=8,zero:=[.unk],ty:=(.sl (.int .i64)),eqs:=false }) .nil)) none (.node (.node (.node .nil (some { sz:=5,agg:=true,offs:=[(0,52),(4,2)],elem:=0,kind:=4,ik:=.i64,bytes:=48,zero:=[.int .i64 0,.int .i64 0,.int .i64 0,.str [],.int .i64 0],ty:=T318,eqs:=true }) .nil) none .nil) none (.node .nil (some { sz:=2,agg:=true,offs:=[(0,44),(1,2)],elem:=0,kind:=4,ik:=.i64,bytes:=32,zero:=[.nil,.int .i64 0],ty:=Zrz,eqs:=false }) .nil))))))))
theorem Z7q:Zeb Yb TAB∧Yb.follows .mixedOrders=true:=⟨Zqob (by kernel_rfl),by kernel_rfl⟩
theorem cX {L:List (Nat×Con)} (h:Zen Yb L):CtxOk Yb { ti:=TAB,con:=Zck L }:=Zfr Z7q h
theorem cXr (r t:Bool) {L:List (Nat×Con)} (h:Zen Yb L):CtxOk Yb { ti:=TAB,con:=Zck L,rob:=r,tl:=t }:=Zfr Z7q h
def Z7m (a1:Int):Option (Int×Str×List G52×Int):=some (0,[],[],a1)
def Z7m.con (k:Nat):Con:=Sig.con { ps:=[.val false (.int .i64) (ros (.int .i64))],rs:=[.val true [.v (.int .i64),.v .str,.own 52 T52,.v (.int .i64)]],ntmps:=5 } (fun x=>Z7m x)
theorem Z7m.ok (k:Nat):Zd Yb 46 (Z7m.con k):=fA (cX cN) Tryz.func46
def Z6b.l0:Nat→List Str→Int→Option (Unit ⊕ Bool)
 | 0,_,_=>none
 | j+1,a1,a2=>bif decide (a2<((a1.length):Int)) then Ya (at? a1 a2) fun v3=>bif ((v3.length):Int) != 8 then some (.inr false) else Z6b.l0 j a1 (Yc .i64 (a2+1)) else some (.inl ())
def Z6b (k:Nat) (a1:List Str):Option (Bool):=bif (decide (((a1.length):Int)<1))||(decide (8<((a1.length):Int))) then some false else Ya (Z6b.l0 k a1 0) fun
  | .inl y2=>some true
  | .inr y3=>some y3
def Z6b.con (k:Nat):Con:=Sig.con { ps:=[.val false (.sl .str) (ros (.sl .str))],rs:=[.val false [.v .bool]],ntmps:=24 } (fun x=>Z6b k x)
def Z6b.cok (k:Nat):=cX cN
def Z6b.l0.s (k:Nat):Summ:=lp 24 { tmps:=[(0,.one (.bor .str)),(3,.one (.v (.int .i64)))],slots:=[],nb:=0 } [(.exit 0,{ tmps:=[],slots:=[],nb:=0 }),(.ret,{ tmps:=[(2,.one (.v .bool))],slots:=[],nb:=0 })] (fun j x=>Z6b.l0 j x.1 x.2) k
def Z6b.l0.ok (k:Nat):=(lA (Z6b.cok k):Zn Yb _ (.loop (cO (cO (cR (cL (cR (cR (cB Tryz.f47)))))))) (Z6b.l0.s k))
theorem Z6b.ok (k:Nat):Zd Yb 47 (Z6b.con k):=fP (.two .auto (.two .auto (.two (.two .auto (.one (.sum (Z6b.l0.s k)))) .auto))) (Z6b.cok k) Tryz.func47 (sC (Z6b.l0.ok k) sN)
def Ztq:Option (Str):=Ya (Zdg 1 8 8 0) fun v1=>some (Zhb v1)
def Ztq.con (k:Nat):Con:=Sig.con { ps:=[],rs:=[.val false [.v .str]],ntmps:=3 } (fun x=>Ztq )
theorem Ztq.ok (k:Nat):Zd Yb 180 (Ztq.con k):=fA (cX cN) Tryz.func180
def Z5d.l0:Nat→Str→Str→Int→Int→Option (Int)
 | 0,_,_,_,_=>none
 | j+1,a1,a2,a3,a4=>bif decide (a4<8) then Ya (at? a1 a4) fun v5=>Ya (at? a2 a4) fun v6=>let e7:=Yc .i64 (a4+1);bif (v5.toNat:Int) != (v6.toNat:Int) then Z5d.l0 j a1 a2 (Yc .i64 (a3+1)) e7 else Z5d.l0 j a1 a2 a3 e7 else some a3
def Z5d (k:Nat) (a1:Str) (a2:Str):Option (Int):=Ya (Z5d.l0 k a1 a2 0 0) fun y3=>some y3
def Z5d.con (k:Nat):Con:=Sig.con { ps:=[.val false .str (ros .str),.val false .str (ros .str)],rs:=[.val false [.v (.int .i64)]],ntmps:=21 } (fun x=>Z5d k x.1 x.2)
def Z5d.cok (k:Nat):=cX cN
def Z5d.l0.s (k:Nat):Summ:=lp 21 { tmps:=[(0,.one (.v .str)),(1,.one (.v .str)),(5,.one (.v (.int .i64))),(6,.one (.v (.int .i64)))],slots:=[],nb:=0 } [(.exit 0,{ tmps:=[(5,.one (.v (.int .i64)))],slots:=[],nb:=0 })] (fun j x=>Z5d.l0 j x.1 x.2.1 x.2.2.1 x.2.2.2) k
def Z5d.l0.ok (k:Nat):=(lA (Z5d.cok k):Zn Yb _ (.loop (cO (cO (cR (cL (cR (cR (cB Tryz.f181)))))))) (Z5d.l0.s k))
theorem Z5d.ok (k:Nat):Zd Yb 181 (Z5d.con k):=fP (.two .auto (.two .auto (.two (.two .auto (.one (.sum (Z5d.l0.s k)))) .auto))) (Z5d.cok k) Tryz.func181 (sC (Z5d.l0.ok k) sN)
def Zse.l0:Nat→Str→Str→Int→List Int→Option ((List Int))
 | 0,_,_,_,_=>none
 | j+1,a1,a2,a3,a4=>bif decide (a3<8) then Ya (at? a1 a3) fun v5=>Ya (at? a2 a3) fun v6=>Ya (at? a4 a3) fun v7=>Ya (at? a4 a3) fun v8=>Zse.l0 j a1 a2 (Yc .i64 (a3+1)) (Yg a4 (Yf a3) (intBits .xor .u8 (v5.toNat:Int) (v6.toNat:Int))) else some a4
def Zse (k:Nat) (a1:Str) (a2:Str):Option (Str):=bif (((a1.length):Int) != 8)||(((a2.length):Int) != 8) then some ([]) else Ya (Zdg 1 8 8 0) fun v3=>Ya (Zse.l0 k a1 a2 0 v3) fun y4=>some (Zhb y4)
def Zse.con (k:Nat):Con:=Sig.con { ps:=[.val false .str (ros .str),.val false .str (ros .str)],rs:=[.val false [.v .str]],ntmps:=32 } (fun x=>Zse k x.1 x.2)
def Zse.cok (k:Nat):=cX cN
def Zse.l0.s (k:Nat):Summ:=lp 32 { tmps:=[(0,.one (.v .str)),(1,.one (.v .str)),(5,.one (.own 1)),(6,.one (.v (.int .i64)))],slots:=[(1,.arr false 5 (.int .u8))],nb:=2 } [(.exit 0,{ tmps:=[(5,.one (.own 2))],slots:=[(2,.arr false 5 (.int .u8))],nb:=3 })] (fun j x=>Zse.l0 j x.1 x.2.1 x.2.2.1 x.2.2.2) k
def Zse.l0.ok (k:Nat):=(lA (Zse.cok k):Zn Yb _ (.loop (cO (cO (cR (cL (cR (cR (cR (cB Tryz.f182))))))))) (Zse.l0.s k))
theorem Zse.ok (k:Nat):Zd Yb 182 (Zse.con k):=fP (.two .auto (.two .auto (.two .auto (.two (.two .auto (.one (.sum (Zse.l0.s k)))) .auto)))) (Zse.cok k) Tryz.func182 (sC (Zse.l0.ok k) sN)
def Zhc.l0:Nat→List Str→Int→Str→Int→Int→Int→Int→Str→Option ((Int×Int×Int×Str) ⊕ (Int×Int×Int×Str))
 | 0,_,_,_,_,_,_,_,_=>none
 | j+1,a1,a2,a3,a4,a5,a6,a7,a8=>bif decide (a4<((a1.length):Int)) then Ya (at? a1 a4) fun v9=>bif v9==a3 then some (.inr (3,a2,a4,[])) else Zhc.l0 j a1 a2 a3 (Yc .i64 (a4+1)) a5 a6 a7 a8 else some (.inl (a5,a6,a7,a8))
def Zhc.l1 (k:Nat):Nat→List Str→Int→Str→Int→Int→Int→Int→Str→Option ((Int×Int×Int×Str) ⊕ (Int×Int×Int×Str))
 | 0,_,_,_,_,_,_,_,_=>none
 | j+1,a1,a2,a3,a4,a5,a6,a7,a8=>bif decide (a4<((a1.length):Int)) then Ya (at? a1 a4) fun v9=>Ya (Z5d k v9 a3) fun v10=>bif decide (v10≤2) then Ya (at? a1 a4) fun v11=>Ya (Zse k v11 a3) fun v12=>some (.inr (4,a2,a4,v12)) else Zhc.l1 k j a1 a2 a3 (Yc .i64 (a4+1)) a5 a6 a7 a8 else some (.inl (a5,a6,a7,a8))
def Zhc (k:Nat) (a1:List Str) (a2:Int) (a3:Str):Option (Int×Int×Int×Str):=Ya (Ztq ) fun v4=>bif a3==v4 then some (1,a2,0,[]) else Ya (Zhc.l0 k a1 a2 a3 0 0 0 0 []) fun
  | .inl y5=>Ya (Zhc.l1 k k a1 a2 a3 0 y5.1 y5.2.1 y5.2.2.1 y5.2.2.2) fun
    | .inl y6=>some (2,a2,0,a3)
    | .inr y7=>some (y7.1,y7.2.1,y7.2.2.1,y7.2.2.2)
  | .inr y8=>some (y8.1,y8.2.1,y8.2.2.1,y8.2.2.2)
def Zhc.con (k:Nat):Con:=Sig.con { ps:=[.val false (.sl .str) (ros (.sl .str)),.val false (.int .i64) (ros (.int .i64)),.val false .str (ros .str)],rs:=[.val true [.v (.int .i64),.v (.int .i64),.v (.int .i64),.v .str]],ntmps:=54 } (fun x=>Zhc k x.1 x.2.1 x.2.2)
def Zhc.cok (k:Nat):=cX (cC (Ztq.ok k) (cC (Z5d.ok k) (cC (Zse.ok k) cN)))
def Zhc.l0.s (k:Nat):Summ:=lp 54 { tmps:=[(0,.one (.bor .str)),(1,.one (.v (.int .i64))),(2,.one (.v .str)),(6,.one (.ptr 0 0)),(7,.one (.v (.int .i64)))],slots:=[(0,.box 52 [.v (.int .i64),.v (.int .i64),.v (.int .i64),.v .str])],nb:=1 } [(.exit 0,{ tmps:=[],slots:=[(0,.box 52 [.v (.int .i64),.v (.int .i64),.v (.int .i64),.v .str])],nb:=1 }),(.ret,{ tmps:=[],slots:=[(0,.box 52 [.v (.int .i64),.v (.int .i64),.v (.int .i64),.v .str])],nb:=1 })] (fun j x=>Zhc.l0 j x.1 x.2.1 x.2.2.1 x.2.2.2.1 x.2.2.2.2.1 x.2.2.2.2.2.1 x.2.2.2.2.2.2.1 x.2.2.2.2.2.2.2) k
def Zhc.l0.ok (k:Nat):=(lA (Zhc.cok k):Zn Yb _ (.loop (cO (cO (cR (cL (cR (cR (cB Tryz.f89)))))))) (Zhc.l0.s k))
def Zhc.l1.s (k:Nat):Summ:=lp 54 { tmps:=[(0,.one (.bor .str)),(1,.one (.v (.int .i64))),(2,.one (.v .str)),(6,.one (.ptr 0 0)),(8,.one (.v (.int .i64)))],slots:=[(0,.box 52 [.v (.int .i64),.v (.int .i64),.v (.int .i64),.v .str])],nb:=1 } [(.exit 2,{ tmps:=[],slots:=[(0,.box 52 [.v (.int .i64),.v (.int .i64),.v (.int .i64),.v .str])],nb:=1 }),(.ret,{ tmps:=[],slots:=[(0,.box 52 [.v (.int .i64),.v (.int .i64),.v (.int .i64),.v .str])],nb:=1 })] (fun j x=>Zhc.l1 k j x.1 x.2.1 x.2.2.1 x.2.2.2.1 x.2.2.2.2.1 x.2.2.2.2.2.1 x.2.2.2.2.2.2.1 x.2.2.2.2.2.2.2) k
def Zhc.l1.ok (k:Nat):=(lA (Zhc.cok k):Zn Yb _ (.loop (cO (cO (cR (cL (cR (cR (cR (cB Tryz.f89))))))))) (Zhc.l1.s k))
theorem Zhc.ok (k:Nat):Zd Yb 89 (Zhc.con k):=fP (.two .auto (.two .auto (.two (.two .auto (.one (.sum (Zhc.l0.s k)))) (.two (.two .auto (.one (.sum (Zhc.l1.s k)))) .auto)))) (Zhc.cok k) Tryz.func89 (sC (Zhc.l0.ok k) (sC (Zhc.l1.ok k) sN))
def Z3d.l0 (k:Nat):Nat→List Str→List Str→Int→List G52→Option ((List G52))
 | 0,_,_,_,_=>none
 | j+1,a1,a2,a3,a4=>bif decide (a3<((a1.length):Int)) then Ya (at? a1 a3) fun v5=>Ya (at? a2 a3) fun v6=>let e7:=Yc .i64 (a3+1);bif !(v5==v6) then Ya (at? a2 a3) fun v8=>Ya (Zhc k a1 a3 v8) fun v9=>Ya (Zfb 40 a4 [v9]) fun v10=>Z3d.l0 k j a1 a2 e7 v10 else Z3d.l0 k j a1 a2 e7 a4 else some a4
def Z3d (k:Nat) (a1:List Str) (a2:List Str):Option (List G52):=Ya (Z6b k a1) fun v3=>bif !v3 then some ([]) else Ya (Z6b k a2) fun v4=>bif (!v4)||(((a1.length):Int) != ((a2.length):Int)) then some ([]) else Ya (Z3d.l0 k k a1 a2 0 []) fun y5=>some y5
def Z3d.con (k:Nat):Con:=Sig.con { ps:=[.val false (.sl .str) (ros (.sl .str)),.val false (.sl .str) (ros (.sl .str))],rs:=[.val false [.own 52 T52]],ntmps:=50 } (fun x=>Z3d k x.1 x.2)
def Z3d.cok (k:Nat):=cX (cC (Z6b.ok k) (cC (Zhc.ok k) cN))
def Z3d.l0.s (k:Nat):Summ:=lp 50 { tmps:=[(0,.one (.bor .str)),(1,.one (.bor .str)),(5,.one (.own 1)),(6,.one (.v (.int .i64)))],slots:=[(1,.arr false 52 T52)],nb:=2 } [(.exit 0,{ tmps:=[(5,.one (.own 2))],slots:=[(2,.arr false 52 T52)],nb:=3 })] (fun j x=>Z3d.l0 k j x.1 x.2.1 x.2.2.1 x.2.2.2) k
def Z3d.l0.ok (k:Nat):=(lA (Z3d.cok k):Zn Yb _ (.loop (cO (cO (cR (cL (cR (cR (cR (cB Tryz.f48))))))))) (Z3d.l0.s k))
theorem Z3d.ok (k:Nat):Zd Yb 48 (Z3d.con k):=fP (.two .auto (.two .auto (.two .auto (.two (.two .auto (.one (.sum (Z3d.l0.s k)))) .auto)))) (Z3d.cok k) Tryz.func48 (sC (Z3d.l0.ok k) sN)
def Zsq:Option (List Int):=some ([1779033703,3144134277,1013904242,2773480762,1359893119,2600822924,528734635,1541459225])
def Zsq.con (k:Nat):Con:=Sig.con { ps:=[],rs:=[.val false [.own 2 (.int .i64)]],ntmps:=2 } (fun x=>Zsq )
theorem Zsq.ok (k:Nat):Zd Yb 252 (Zsq.con k):=fA (cX cN) Tryz.func252
def Ztg (a1:Int) (a2:Int):Option (Int):=Ya (Zkb a2) fun v3=>let e4:=Yc .u64 (32-a2);Ya (Zkb e4) fun v5=>some (intBits .or .u32 (shr .u32 a1 a2) (shl .u32 a1 e4))
def Ztg.con (k:Nat):Con:=Sig.con { ps:=[.val false (.int .u32) (ros (.int .u32)),.val false (.int .u64) (ros (.int .u64))],rs:=[.val false [.v (.int .u32)]],ntmps:=13 } (fun x=>Ztg x.1 x.2)
theorem Ztg.ok (k:Nat):Zd Yb 290 (Ztg.con k):=fA (cX cN) Tryz.func290
def Zbp:Option (List Int):=some ([1116352408,1899447441,3049323471,3921009573,961987163,1508970993,2453635748,2870763221,3624381080,310598401,607225278,1426881987,1925078388,2162078206,2614888103,3248222580,3835390401,4022224774,264347078,604807628,770255983,1249150122,1555081692,1996064986,2554220882,2821834349,2952996808,3210313671,3336571891,3584528711,113926993,338241895,666307205,773529912,1294757372,1396182291,1695183700,1986661051,2177026350,2456956037,2730485921,2820302411,3259730800,3345764771,3516065817,3600352804,4094571909,275423344,430227734,506948616,659060556,883997877,958139571,1322822218,1537002063,1747873779,1955562222,2024104815,2227730452,2361852424,2428436474,2756734187,3204031479,3329325298])
def Zbp.con (k:Nat):Con:=Sig.con { ps:=[],rs:=[.val false [.own 297 (.int .u32)]],ntmps:=2 } (fun x=>Zbp )
theorem Zbp.ok (k:Nat):Zd Yb 291 (Zbp.con k):=fA (cX cN) Tryz.func291
def Zq.l0:Nat→Str→Int→List Int→Option ((List Int))
 | 0,_,_,_=>none
 | j+1,a1,a2,a3=>bif decide (a2<16) then let e4:=Yc .i64 (4*a2);Ya (at? a1 e4) fun v5=>Ya (Zkb 24) fun v6=>Ya (at? a1 (Yc .i64 (e4+1))) fun v7=>Ya (Zkb 16) fun v8=>Ya (at? a1 (Yc .i64 (e4+2))) fun v9=>Ya (Zkb 8) fun v10=>Ya (at? a1 (Yc .i64 (e4+3))) fun v11=>Ya (at? a3 a2) fun v12=>Ya (at? a3 a2) fun v13=>Zq.l0 j a1 (Yc .i64 (a2+1)) (Yg a3 (Yf a2) (intBits .or .u32 (intBits .or .u32 (intBits .or .u32 (shl .u32 (Yc .u32 (v5.toNat:Int)) 24) (shl .u32 (Yc .u32 (v7.toNat:Int)) 16)) (shl .u32 (Yc .u32 (v9.toNat:Int)) 8)) (Yc .u32 (v11.toNat:Int)))) else some a3
def Zq.l1:Nat→Int→List Int→Option ((List Int))
 | 0,_,_=>none
 | j+1,a1,a2=>bif decide (a1<64) then let e3:=at? a2 (Yc .i64 (a1-15));Ya (e3) fun v4=>Ya (e3) fun v5=>let e6:=at? a2 (Yc .i64 (a1-2));Ya (e6) fun v7=>Ya (e6) fun v8=>let e9:=at? a2 (Yc .i64 (a1-16));Ya (e9) fun v10=>Ya (e9) fun v11=>Ya (Ztg v5 7) fun v12=>Ya (Ztg v5 18) fun v13=>Ya (Zkb 3) fun v14=>let e15:=at? a2 (Yc .i64 (a1-7));Ya (e15) fun v16=>Ya (e15) fun v17=>Ya (Ztg v8 17) fun v18=>Ya (Ztg v8 19) fun v19=>Ya (Zkb 10) fun v20=>Ya (at? a2 a1) fun v21=>Ya (at? a2 a1) fun v22=>Zq.l1 j (Yc .i64 (a1+1)) (Yg a2 (Yf a1) (Yc .u32 ((Yc .u32 ((Yc .u32 (v11+(intBits .xor .u32 (intBits .xor .u32 v12 v13) (shr .u32 v5 3))))+v17))+(intBits .xor .u32 (intBits .xor .u32 v18 v19) (shr .u32 v8 10))))) else some a2
def Zq.l2:Nat→Int→Int→Int→Int→Int→Int→Int→Int→Int→List Int→List Int→Option ((Int×Int×Int×Int×Int×Int×Int×Int))
 | 0,_,_,_,_,_,_,_,_,_,_,_=>none
 | j+1,a1,a2,a3,a4,a5,a6,a7,a8,a9,a10,a11=>bif decide (a9<64) then Ya (Ztg a5 6) fun v12=>Ya (Ztg a5 11) fun v13=>Ya (Ztg a5 25) fun v14=>Ya (at? a11 a9) fun v15=>Ya (at? a11 a9) fun v16=>Ya (at? a10 a9) fun v17=>Ya (at? a10 a9) fun v18=>Ya (Ztg a1 2) fun v19=>Ya (Ztg a1 13) fun v20=>Ya (Ztg a1 22) fun v21=>let e22:=Yc .u32 ((Yc .u32 ((Yc .u32 ((Yc .u32 (a8+(intBits .xor .u32 (intBits .xor .u32 v12 v13) v14)))+(intBits .xor .u32 (intBits .and .u32 a5 a6) (intBits .and .u32 (intBits .xor .u32 (Yh .u32) a5) a7))))+v16))+v18);Zq.l2 j (Yc .u32 (e22+(Yc .u32 ((intBits .xor .u32 (intBits .xor .u32 v19 v20) v21)+(intBits .xor .u32 (intBits .xor .u32 (intBits .and .u32 a1 a2) (intBits .and .u32 a1 a3)) (intBits .and .u32 a2 a3)))))) a1 a2 a3 (Yc .u32 (a4+e22)) a5 a6 a7 (Yc .i64 (a9+1)) a10 a11 else some (a1,a2,a3,a4,a5,a6,a7,a8)
def Zq.l3:Nat→List Int→Int→List Int→List Int→Option ((List Int))
 | 0,_,_,_,_=>none
 | j+1,a1,a2,a3,a4=>bif decide (a2<8) then Ya (at? a1 a2) fun v5=>Ya (at? a3 a2) fun v6=>Ya (at? a3 a2) fun v7=>Ya (Zfb 8 a4 [(Yc .i64 (Yc .u32 ((Yc .u32 v5)+v7)))]) fun v8=>Zq.l3 j a1 (Yc .i64 (a2+1)) a3 v8 else some a4
def Zq (k:Nat) (a1:List Int) (a2:Str):Option (List Int):=Ya (Zdg 4 64 64 0) fun v3=>Ya (Zq.l0 k a2 0 v3) fun y4=>Ya (Zq.l1 k 16 y4) fun y5=>Ya (at? a1 0) fun v6=>Ya (at? a1 1) fun v7=>Ya (at? a1 2) fun v8=>Ya (at? a1 3) fun v9=>Ya (at? a1 4) fun v10=>Ya (at? a1 5) fun v11=>Ya (at? a1 6) fun v12=>Ya (at? a1 7) fun v13=>Ya (Zbp ) fun v14=>Ya (Zq.l2 k (Yc .u32 v6) (Yc .u32 v7) (Yc .u32 v8) (Yc .u32 v9) (Yc .u32 v10) (Yc .u32 v11) (Yc .u32 v12) (Yc .u32 v13) 0 y5 v14) fun y15=>Ya (Zq.l3 k a1 0 [y15.1,y15.2.1,y15.2.2.1,y15.2.2.2.1,y15.2.2.2.2.1,y15.2.2.2.2.2.1,y15.2.2.2.2.2.2.1,y15.2.2.2.2.2.2.2] []) fun y16=>some y16
def Zq.con (k:Nat):Con:=Sig.con { ps:=[.val false (.sl (.int .i64)) (ros (.sl (.int .i64))),.val false .str (ros .str)],rs:=[.val false [.own 2 (.int .i64)]],ntmps:=235 } (fun x=>Zq k x.1 x.2)
def Zq.cok (k:Nat):=cX (cC (Ztg.ok k) (cC (Zbp.ok k) cN))
def Zq.l0.s (k:Nat):Summ:=lp 235 { tmps:=[(1,.one (.v .str)),(5,.one (.own 1)),(6,.one (.v (.int .i64)))],slots:=[(1,.arr false 297 (.int .u32))],nb:=2 } [(.exit 0,{ tmps:=[(5,.one (.own 2))],slots:=[(2,.arr false 297 (.int .u32))],nb:=3 })] (fun j x=>Zq.l0 j x.1 x.2.1 x.2.2) k
def Zq.l0.ok (k:Nat):=(lA (Zq.cok k):Zn Yb _ (.loop (cO (cO (cR (cL (cR (cR (cB Yk)))))))) (Zq.l0.s k))
def Zq.l1.s (k:Nat):Summ:=lp 235 { tmps:=[(5,.one (.own 3)),(7,.one (.v (.int .i64)))],slots:=[(3,.arr false 297 (.int .u32))],nb:=4 } [(.exit 2,{ tmps:=[(5,.one (.own 4))],slots:=[(4,.arr false 297 (.int .u32))],nb:=5 })] (fun j x=>Zq.l1 j x.1 x.2) k
def Zq.l1.ok (k:Nat):=(lA (Zq.cok k):Zn Yb _ (.loop (cO (cO (cR (cL (cR (cR (cR (cB Yk))))))))) (Zq.l1.s k))
def Zq.l2.s (k:Nat):Summ:=lp 235 { tmps:=[(5,.one (.own 6)),(10,.one (.v (.int .u32))),(11,.one (.v (.int .u32))),(12,.one (.v (.int .u32))),(13,.one (.v (.int .u32))),(14,.one (.v (.int .u32))),(15,.one (.v (.int .u32))),(16,.one (.v (.int .u32))),(17,.one (.v (.int .u32))),(18,.one (.own 7)),(19,.one (.v (.int .i64)))],slots:=[(6,.arr false 297 (.int .u32)),(7,.arr false 297 (.int .u32))],nb:=8 } [(.exit 4,{ tmps:=[(10,.one (.v (.int .u32))),(11,.one (.v (.int .u32))),(12,.one (.v (.int .u32))),(13,.one (.v (.int .u32))),(14,.one (.v (.int .u32))),(15,.one (.v (.int .u32))),(16,.one (.v (.int .u32))),(17,.one (.v (.int .u32)))],slots:=[],nb:=8 })] (fun j x=>Zq.l2 j x.1 x.2.1 x.2.2.1 x.2.2.2.1 x.2.2.2.2.1 x.2.2.2.2.2.1 x.2.2.2.2.2.2.1 x.2.2.2.2.2.2.2.1 x.2.2.2.2.2.2.2.2.1 x.2.2.2.2.2.2.2.2.2.1 x.2.2.2.2.2.2.2.2.2.2) k
def Zq.l2.ok (k:Nat):=(lA (Zq.cok k):Zn Yb _ (.loop (cO (cO (cR (cL (cR (cR (cR (cR (cR (cR (cR (cB Yk))))))))))))) (Zq.l2.s k))
def Zq.l3.s (k:Nat):Summ:=lp 235 { tmps:=[(0,.one (.bor (.int .i64))),(22,.one (.own 10)),(23,.one (.own 11)),(24,.one (.v (.int .i64)))],slots:=[(10,.arr false 297 (.int .u32)),(11,.arr false 2 (.int .i64))],nb:=12 } [(.exit 6,{ tmps:=[(23,.one (.own 12))],slots:=[(12,.arr false 2 (.int .i64))],nb:=13 })] (fun j x=>Zq.l3 j x.1 x.2.1 x.2.2.1 x.2.2.2) k
def Zq.l3.ok (k:Nat):=(lA (Zq.cok k):Zn Yb _ (.loop (cO (cO (cR (cL (cR (cR (cR (cR (cR (cR (cR (cR (cR (cR (cB Yk)))))))))))))))) (Zq.l3.s k))
theorem Zq.ok (k:Nat):Zd Yb 253 (Zq.con k):=fP (.two .auto (.two .auto (.two (.two .auto (.one (.sum (Zq.l0.s k)))) (.two (.two .auto (.one (.sum (Zq.l1.s k)))) (.two .auto (.two .auto (.two .auto (.two (.two .auto (.one (.sum (Zq.l2.s k)))) (.two .auto (.two .auto (.two (.two .auto (.one (.sum (Zq.l3.s k)))) .auto))))))))))) (Zq.cok k) Tryz.func253 (sC (Zq.l0.ok k) (sC (Zq.l1.ok k) (sC (Zq.l2.ok k) (sC (Zq.l3.ok k) sN))))
def Zr.l0:Nat→List Int→Option ((List Int))
 | 0,_=>none
 | j+1,a1=>Ya (nz? 64) fun v2=>bif (Int.tmod ((a1.length):Int) 64) != 56 then Ya (Zfb 1 a1 [0]) fun v3=>Zr.l0 j v3 else some a1
def Zr.l1:Nat→Int→Int→List Int→Option ((List Int))
 | 0,_,_,_=>none
 | j+1,a1,a2,a3=>bif decide (0≤a2) then Ya (Zkb (Yc .u64 a2)) fun v4=>Ya (Zfb 1 a3 [(Yc .u8 (shr .u64 a1 (Yc .u64 a2)))]) fun v5=>Zr.l1 j a1 (Yc .i64 (a2-8)) v5 else some a3
def Zr.l2 (k:Nat):Nat→List Int→Int→List Int→Option ((List Int))
 | 0,_,_,_=>none
 | j+1,a1,a2,a3=>bif decide (a2<((a1.length):Int)) then let e4:=Yc .i64 (a2+64);Ya (Z3b a1 a2 e4) fun v5=>Ya (Zq k a3 (Zhb v5)) fun v6=>Zr.l2 k j a1 e4 v6 else some a3
def Zr.l3:Nat→Int→List Int→List Int→Option ((List Int))
 | 0,_,_,_=>none
 | j+1,a1,a2,a3=>bif decide (a1<8) then Ya (at? a2 a1) fun v4=>Ya (at? a2 a1) fun v5=>Ya (Zkb 24) fun v6=>Ya (Zkb 16) fun v7=>Ya (Zkb 8) fun v8=>Ya (Zfb 1 a3 [(Yc .u8 (shr .i64 v5 24)),(Yc .u8 (shr .i64 v5 16)),(Yc .u8 (shr .i64 v5 8)),(Yc .u8 v5)]) fun v9=>Zr.l3 j (Yc .i64 (a1+1)) a2 v9 else some a3
def Zr (k:Nat) (a1:Str):Option (Str):=Ya (Zzu (a1.length) 1) fun v2=>Ya (Zfb 1 (Z9 a1) [128]) fun v3=>Ya (Zr.l0 k v3) fun y4=>Ya (Zr.l1 k (Yc .u64 (Yc .i64 (8*((a1.length):Int)))) 56 y4) fun y5=>Ya (Zsq ) fun v6=>Ya (Zr.l2 k k y5 0 v6) fun y7=>Ya (Zr.l3 k 0 y7 []) fun y8=>some (Zhb y8)
def Zr.con (k:Nat):Con:=Sig.con { ps:=[.val false .str (ros .str)],rs:=[.val false [.v .str]],ntmps:=78 } (fun x=>Zr k x)
def Zr.cok (k:Nat):=cX (cC (Zsq.ok k) (cC (Zq.ok k) cN))
def Zr.l0.s (k:Nat):Summ:=lp 78 { tmps:=[(3,.one (.own 3))],slots:=[(3,.arr true 5 (.int .u8))],nb:=4 } [(.exit 0,{ tmps:=[(3,.one (.own 4))],slots:=[(4,.arr true 5 (.int .u8))],nb:=5 })] (fun j x=>Zr.l0 j x) k
def Zr.l0.ok (k:Nat):=(lA (Zr.cok k):Zn Yb _ (.loop (cO (cO (cL (cR (cR (cB Yj))))))) (Zr.l0.s k))
def Zr.l1.s (k:Nat):Summ:=lp 78 { tmps:=[(3,.one (.own 5)),(4,.one (.v (.int .u64))),(5,.one (.v (.int .i64)))],slots:=[(5,.arr true 5 (.int .u8))],nb:=6 } [(.exit 2,{ tmps:=[(3,.one (.own 6))],slots:=[(6,.arr true 5 (.int .u8))],nb:=7 })] (fun j x=>Zr.l1 j x.1 x.2.1 x.2.2) k
def Zr.l1.ok (k:Nat):=(lA (Zr.cok k):Zn Yb _ (.loop (cO (cO (cR (cL (cR (cR (cR (cR (cB Yj)))))))))) (Zr.l1.s k))
def Zr.l2.s (k:Nat):Summ:=lp 78 { tmps:=[(3,.one (.v (.sl (.int .u8)))),(6,.one (.own 8)),(7,.one (.v (.int .i64)))],slots:=[(8,.arr false 2 (.int .i64))],nb:=9 } [(.exit 4,{ tmps:=[(6,.one (.own 9))],slots:=[(9,.arr false 2 (.int .i64))],nb:=10 })] (fun j x=>Zr.l2 k j x.1 x.2.1 x.2.2) k
def Zr.l2.ok (k:Nat):=(lA (Zr.cok k):Zn Yb _ (.loop (cO (cO (cR (cL (cR (cR (cR (cR (cR (cR (cB Yj)))))))))))) (Zr.l2.s k))
def Zr.l3.s (k:Nat):Summ:=lp 78 { tmps:=[(6,.one (.own 11)),(8,.one (.own 12)),(9,.one (.v (.int .i64)))],slots:=[(11,.arr false 2 (.int .i64)),(12,.arr false 5 (.int .u8))],nb:=13 } [(.exit 6,{ tmps:=[(8,.one (.own 13))],slots:=[(13,.arr false 5 (.int .u8))],nb:=14 })] (fun j x=>Zr.l3 j x.1 x.2.1 x.2.2) k
def Zr.l3.ok (k:Nat):=(lA (Zr.cok k):Zn Yb _ (.loop (cO (cO (cR (cL (cR (cR (cR (cR (cR (cR (cR (cR (cB Yj)))))))))))))) (Zr.l3.s k))
theorem Zr.ok (k:Nat):Zd Yb 183 (Zr.con k):=fP (.two .auto (.two .auto (.two (.one (.sum (Zr.l0.s k))) (.two .auto (.two (.two .auto (.one (.sum (Zr.l1.s k)))) (.two .auto (.two (.two .auto (.one (.sum (Zr.l2.s k)))) (.two .auto (.two (.two .auto (.one (.sum (Zr.l3.s k)))) .auto))))))))) (Zr.cok k) Tryz.func183 (sC (Zr.l0.ok k) (sC (Zr.l1.ok k) (sC (Zr.l2.ok k) (sC (Zr.l3.ok k) sN))))
def Z3m (k:Nat) (a1:Str):Option (Str):=bif decide (8000<((a1.length):Int)) then some ([]) else Ya (Zr k a1) fun v2=>some v2
def Z3m.con (k:Nat):Con:=Sig.con { ps:=[.val false .str (ros .str)],rs:=[.val false [.v .str]],ntmps:=8 } (fun x=>Z3m k x)
theorem Z3m.ok (k:Nat):Zd Yb 90 (Z3m.con k):=fA (cX (cC (Zr.ok k) cN)) Tryz.func90
def Zue.l0:Nat→List Str→Str→Int→Option (Str)
 | 0,_,_,_=>none
 | j+1,a1,a2,a3=>bif decide (a3<((a1.length):Int)) then Ya (at? a1 a3) fun v4=>Ya (Zae a2 v4) fun v5=>Zue.l0 j a1 v5 (Yc .i64 (a3+1)) else some a2
def Zue (k:Nat) (a1:List Str):Option (Str):=Ya (Zue.l0 k a1 [] 0) fun y2=>some y2
def Zue.con (k:Nat):Con:=Sig.con { ps:=[.val false (.sl .str) (ros (.sl .str))],rs:=[.val false [.v .str]],ntmps:=18 } (fun x=>Zue k x)
def Zue.cok (k:Nat):=cX cN
def Zue.l0.s (k:Nat):Summ:=lp 18 { tmps:=[(0,.one (.bor .str)),(3,.one (.v .str)),(4,.one (.v (.int .i64)))],slots:=[],nb:=0 } [(.exit 0,{ tmps:=[(3,.one (.v .str))],slots:=[],nb:=0 })] (fun j x=>Zue.l0 j x.1 x.2.1 x.2.2) k
def Zue.l0.ok (k:Nat):=(lA (Zue.cok k):Zn Yb _ (.loop (cO (cO (cR (cL (cR (cR (cB Tryz.f91)))))))) (Zue.l0.s k))
theorem Zue.ok (k:Nat):Zd Yb 91 (Zue.con k):=fP (.two .auto (.two .auto (.two (.two .auto (.one (.sum (Zue.l0.s k)))) .auto))) (Zue.cok k) Tryz.func91 (sC (Zue.l0.ok k) sN)
def Z6o (k:Nat) (a1:List Str):Option (Str):=Ya (Z6b k a1) fun v2=>bif !v2 then some ([]) else Ya (Zue k a1) fun v3=>Ya (Z3m k v3) fun v4=>some v4
def Z6o.con (k:Nat):Con:=Sig.con { ps:=[.val false (.sl .str) (ros (.sl .str))],rs:=[.val false [.v .str]],ntmps:=9 } (fun x=>Z6o k x)
theorem Z6o.ok (k:Nat):Zd Yb 49 (Z6o.con k):=fA (cX (cC (Z6b.ok k) (cC (Z3m.ok k) (cC (Zue.ok k) cN)))) Tryz.func49
def Z0j (k:Nat) (a1:List Str) (a2:List Str):Option (Int×Str×List G52×Int):=bif (decide (400<((a1.length):Int)))||(decide (400<((a2.length):Int))) then Ya (Z7m 2) fun v3=>some (v3.1,v3.2.1,v3.2.2.1,v3.2.2.2) else Ya (Z6b k a1) fun v4=>bif !v4 then Ya (Z7m 1) fun v5=>some (v5.1,v5.2.1,v5.2.2.1,v5.2.2.2) else Ya (Z6b k a2) fun v6=>bif (!v6)||(((a1.length):Int) != ((a2.length):Int)) then Ya (Z7m 1) fun v7=>some (v7.1,v7.2.1,v7.2.2.1,v7.2.2.2) else Ya (Z3d k a1 a2) fun v8=>Ya (Zfb 40 v8 ([(5,(0,(1,[])))])) fun v9=>Ya (Z6o k a2) fun v10=>some (((a1.length):Int),v10,v9,0)
def Z0j.con (k:Nat):Con:=Sig.con { ps:=[.val false (.sl .str) (ros (.sl .str)),.val false (.sl .str) (ros (.sl .str))],rs:=[.val true [.v (.int .i64),.v .str,.own 52 T52,.v (.int .i64)]],ntmps:=44 } (fun x=>Z0j k x.1 x.2)
theorem Z0j.ok (k:Nat):Zd Yb 8 (Z0j.con k):=fA (cX (cC (Z7m.ok k) (cC (Z6b.ok k) (cC (Z3d.ok k) (cC (Z6o.ok k) cN))))) Tryz.func8
def Zcb (a1:Int) (a2:Int) (a3:Int):Option (Bool):=some ((decide (a2≤a1))&&(decide (a1≤a3)))
def Zcb.con (k:Nat):Con:=Sig.con { ps:=[.val false (.int .i64) (ros (.int .i64)),.val false (.int .i64) (ros (.int .i64)),.val false (.int .i64) (ros (.int .i64))],rs:=[.val false [.v .bool]],ntmps:=15 } (fun x=>Zcb x.1 x.2.1 x.2.2)
theorem Zcb.ok (k:Nat):Zd Yb 123 (Zcb.con k):=fA (cX cN) Tryz.func123
def Z8i (a1:Int):Option (Bool):=Ya (Zcb a1 1 8) fun v2=>some v2
def Z8i.con (k:Nat):Con:=Sig.con { ps:=[.val false (.int .i64) (ros (.int .i64))],rs:=[.val false [.v .bool]],ntmps:=5 } (fun x=>Z8i x)
theorem Z8i.ok (k:Nat):Zd Yb 92 (Z8i.con k):=fA (cX (cC (Zcb.ok k) cN)) Tryz.func92
def Zqg (a1:List Str):Option (Int):=some ((a1.length):Int)
def Zqg.con (k:Nat):Con:=Sig.con { ps:=[.val false (.sl .str) (ros (.sl .str))],rs:=[.val false [.v (.int .i64)]],ntmps:=5 } (fun x=>Zqg x)
theorem Zqg.ok (k:Nat):Zd Yb 93 (Zqg.con k):=fA (cX cN) Tryz.func93
def Zao (a1:Str):Option (Bool):=some (((a1.length):Int) != 8)
def Zao.con (k:Nat):Con:=Sig.con { ps:=[.val false .str (ros .str)],rs:=[.val false [.v .bool]],ntmps:=6 } (fun x=>Zao x)
theorem Zao.ok (k:Nat):Zd Yb 95 (Zao.con k):=fA (cX cN) Tryz.func95
def Zfd.l0:Nat→List Str→Int→Int→Option (Unit ⊕ Int)
 | 0,_,_,_=>none
 | j+1,a1,a2,a3=>bif decide (a3<a2) then Ya (at? a1 a3) fun v4=>Ya (Zao v4) fun v5=>bif v5 then some (.inr a3) else Zfd.l0 j a1 a2 (Yc .i64 (a3+1)) else some (.inl ())
def Zfd (k:Nat) (a1:List Str):Option (Int):=Ya (Zfd.l0 k a1 ((a1.length):Int) 0) fun
  | .inl y2=>some (-1)
  | .inr y3=>some y3
def Zfd.con (k:Nat):Con:=Sig.con { ps:=[.val false (.sl .str) (ros (.sl .str)),.fn 95 []],rs:=[.val false [.v (.int .i64)]],ntmps:=19 } (fun x=>Zfd k x)
def Zfd.cok (k:Nat):=cX (cC (Zao.ok k) cN)
def Zfd.l0.s (k:Nat):Summ:=lp 19 { tmps:=[(0,.one (.bor .str)),(1,.fn 95 []),(7,.one (.v (.int .i64))),(8,.one (.v (.int .i64)))],slots:=[],nb:=0 } [(.exit 0,{ tmps:=[],slots:=[],nb:=0 }),(.ret,{ tmps:=[(4,.one (.v (.int .i64)))],slots:=[],nb:=0 })] (fun j x=>Zfd.l0 j x.1 x.2.1 x.2.2) k
def Zfd.l0.ok (k:Nat):=(lA (Zfd.cok k):Zn Yb _ (.loop (cO (cO (cR (cL (cR (cB Tryz.f184))))))) (Zfd.l0.s k))
theorem Zfd.ok (k:Nat):Zd Yb 184 (Zfd.con k):=fP (.two .auto (.two (.two .auto (.one (.sum (Zfd.l0.s k)))) .auto)) (Zfd.cok k) Tryz.func184 (sC (Zfd.l0.ok k) sN)
def Zrq (k:Nat) (a1:List Str):Option (Bool):=Ya (Zfd k a1) fun v2=>some (decide (0≤v2))
def Zrq.con (k:Nat):Con:=Sig.con { ps:=[.val false (.sl .str) (ros (.sl .str)),.fn 95 []],rs:=[.val false [.v .bool]],ntmps:=9 } (fun x=>Zrq k x)
theorem Zrq.ok (k:Nat):Zd Yb 94 (Zrq.con k):=fA (cX (cC (Zfd.ok k) cN)) Tryz.func94
def Zek (k:Nat) (a1:List Str):Option (Bool):=Ya (Zqg a1) fun v2=>Ya (Z8i v2) fun v3=>bif v3 then Ya (Zrq k a1) fun v4=>some (!v4) else some false
def Zek.con (k:Nat):Con:=Sig.con { ps:=[.val false (.sl .str) (ros (.sl .str))],rs:=[.val false [.v .bool]],ntmps:=11 } (fun x=>Zek k x)
theorem Zek.ok (k:Nat):Zd Yb 50 (Zek.con k):=fA (cX (cC (Z8i.ok k) (cC (Zqg.ok k) (cC (Zrq.ok k) cN)))) Tryz.func50
def Zch (a:List Str):Option (List Str):=Ya (Zfb 16 [] a) fun y=>some y
def Zch.sig:Sig:={ ps:=[.val false (.sl .str) (ros (.sl .str))],rs:=[.val false [.own 9 .str]],ntmps:=8 }
def Zch.con (k:Nat):Con:=Zch.sig.con (fun x=>Zch x)
theorem Zch.ok (k:Nat):Zd Yb 205 (Zch.con k):=
 Zbw (e:=9) (C:={ ti:=TAB,con:=Zck [] }) (s:=Zch.sig) (G:=fun x=>Zch x) (Zfr Z7q trivial) Tryz.func205 (by kernel_rfl) rfl (by kernel_rfl) (by kernel_rfl) (by kernel_rfl) rfl rfl rfl rfl rfl rfl (by kernel_rfl) (by kernel_rfl)
  (fun x=>⟨_,_,.inl rfl⟩) (fun x y h=>Eq.trans (b:=Zch x) (by kernel_rfl) h) (fun x y h hl=>by
   have e:x=([]:List Str):=hl .str x (.inl (by kernel_rfl));subst e;exact Eq.trans (b:=Zch []) (by kernel_rfl) h)
def Zfj (a:List Z2):Option (List Z2):=Ya (Zfb 24 [] a) fun y=>some y
def Zfj.sig:Sig:={ ps:=[.val false (.sl Zz) (ros (.sl Zz))],rs:=[.val false [.own 195 Zz]],ntmps:=8 }
def Zfj.con (k:Nat):Con:=Zfj.sig.con (fun x=>Zfj x)
theorem Zfj.ok (k:Nat):Zd Yb 224 (Zfj.con k):=
 Zbw (e:=195) (C:={ ti:=TAB,con:=Zck [] }) (s:=Zfj.sig) (G:=fun x=>Zfj x) (Zfr Z7q trivial) Tryz.func224 (by kernel_rfl) rfl (by kernel_rfl) (by kernel_rfl) (by kernel_rfl) rfl rfl rfl rfl rfl rfl (by kernel_rfl) (by kernel_rfl)
  (fun x=>⟨_,_,.inl rfl⟩) (fun x y h=>Eq.trans (b:=Zfj x) (by kernel_rfl) h) (fun x y h hl=>by
   have e:x=([]:List Z2):=hl Zz x (.inl (by kernel_rfl));subst e;exact Eq.trans (b:=Zfj []) (by kernel_rfl) h)
def Z6n (a1:G26):Option (List Str×List Z2):=Ya (Zch a1.1) fun v2=>Ya (Zfj a1.2) fun v3=>some (v2,v3)
def Z6n.con (k:Nat):Con:=Sig.con { ps:=[.val true T26 (ros T26)],rs:=[.val true [.own 9 .str,.own 195 Zz]],ntmps:=10 } (fun x=>Z6n x)
theorem Z6n.ok (k:Nat):Zd Yb 141 (Z6n.con k):=fA (cXr true false (cC (Zch.ok k) (cC (Zfj.ok k) cN))) Tryz.func141
def Zaf.l0:Nat→Int→Int→List Z2→List Str→Option ((List Str×List Z2))
 | 0,_,_,_,_=>none
 | j+1,a1,a2,a3,a4=>bif decide (a2<a1) then Ya (at? a3 a2) fun v5=>Ya (at? a3 a2) fun v6=>let e7:=at? a4 v6.1;Ya (e7) fun v8=>Ya (e7) fun v9=>Zaf.l0 j a1 (Yc .i64 (a2+1)) a3 (Yg a4 (Yf v6.1) v6.2) else some (a4,a3)
def Zaf (k:Nat) (a1:G26):Option (List Str×List Z2):=Ya (Zaf.l0 k ((a1.2.length):Int) 0 a1.2 a1.1) fun y2=>some (y2.1,[])
def Zaf.con (k:Nat):Con:=Sig.con { ps:=[.ref 26 T26 [.own 9,.own 195]],rs:=[],ntmps:=26 } (fun x=>Zaf k x)
def Zaf.cok (k:Nat):=cX cN
def Zaf.l0.s (k:Nat):Summ:=lp 26 { tmps:=[(0,.one (.ptr 0 0)),(7,.one (.own 3)),(8,.one (.v (.int .i64))),(9,.one (.v (.int .i64)))],slots:=[(0,.box 26 [.own 4,.own 3]),(3,.arr false 195 Zz),(4,.arr false 9 .str)],nb:=5 } [(.exit 0,{ tmps:=[],slots:=[(0,.box 26 [.own 5,.own 6]),(5,.arr false 9 .str),(6,.arr false 195 Zz)],nb:=7 })] (fun j x=>Zaf.l0 j x.1 x.2.1 x.2.2.1 x.2.2.2) k
def Zaf.l0.ok (k:Nat):=(lA (Zaf.cok k):Zn Yb _ (.loop (cO (cO (cR (cL (cB Tryz.f142)))))) (Zaf.l0.s k))
theorem Zaf.ok (k:Nat):Zd Yb 142 (Zaf.con k):=fP (.two (.two .auto (.one (.sum (Zaf.l0.s k)))) .auto) (Zaf.cok k) Tryz.func142 (sC (Zaf.l0.ok k) sN)
def Z7p (a1:Z2) (a2:Int):Option (Bool):=some (a1.1==a2)
def Z7p.con (k:Nat):Con:=Sig.con { ps:=[.val true Zz (ros Zz),.rptr (.int .i64)],rs:=[.val false [.v .bool]],ntmps:=8 } (fun x=>Z7p x.1 x.2)
theorem Z7p.ok (k:Nat):Zd Yb 266 (Z7p.con k):=fA (cX cN) Tryz.func266
def Zud.l0:Nat→List Z2→Int→Int→Int→Option (Int ⊕ (Int×Int))
 | 0,_,_,_,_=>none
 | j+1,a1,a2,a3,a4=>bif decide (a3<a2) then Ya (at? a1 a3) fun v5=>Ya (Z7p v5 a4) fun v6=>bif v6 then some (.inr (a3,a4)) else Zud.l0 j a1 a2 (Yc .i64 (a3+1)) a4 else some (.inl a4)
def Zud (k:Nat) (a1:List Z2) (a2:Int):Option (Int×Int):=Ya (Zud.l0 k a1 ((a1.length):Int) 0 a2) fun
  | .inl y3=>some ((-1),y3)
  | .inr y4=>some (y4.1,y4.2)
def Zud.con (k:Nat):Con:=Sig.con { ps:=[.val false (.sl Zz) (ros (.sl Zz)),.fn 266 [(2,(.int .i64),(Zpe (.int .i64)))]],rs:=[.val false [.v (.int .i64)]],ntmps:=19 } (fun x=>Zud k x.1 x.2)
def Zud.cok (k:Nat):=cX (cC (Z7p.ok k) cN)
def Zud.l0.s (k:Nat):Summ:=lp 19 { tmps:=[(0,.one (.bor Zz)),(1,.fn 266 [.ptr 0 0]),(7,.one (.v (.int .i64))),(8,.one (.v (.int .i64)))],slots:=[(0,.box 2 [.v (.int .i64)])],nb:=1 } [(.exit 0,{ tmps:=[],slots:=[(0,.box 2 [.v (.int .i64)])],nb:=1 }),(.ret,{ tmps:=[(4,.one (.v (.int .i64)))],slots:=[(0,.box 2 [.v (.int .i64)])],nb:=1 })] (fun j x=>Zud.l0 j x.1 x.2.1 x.2.2.1 x.2.2.2) k
def Zud.l0.ok (k:Nat):=(lA (Zud.cok k):Zn Yb _ (.loop (cO (cO (cR (cL (cR (cB Tryz.f265))))))) (Zud.l0.s k))
theorem Zud.ok (k:Nat):Zd Yb 265 (Zud.con k):=fP (.two .auto (.two (.two .auto (.one (.sum (Zud.l0.s k)))) .auto)) (Zud.cok k) Tryz.func265 (sC (Zud.l0.ok k) sN)
def Zsj (k:Nat) (a1:G26) (a2:Int):Option (Int):=Ya (Zud k a1.2 a2) fun v3=>some v3.1
def Zsj.con (k:Nat):Con:=Sig.con { ps:=[.val true T26 (ros T26),.val false (.int .i64) (ros (.int .i64))],rs:=[.val false [.v (.int .i64)]],ntmps:=9 } (fun x=>Zsj k x.1 x.2)
theorem Zsj.ok (k:Nat):Zd Yb 212 (Zsj.con k):=fA (cXr true false (cC (Zud.ok k) cN)) Tryz.func212
def Zyn (k:Nat) (a1:G26) (a2:Int) (a3:Str):Option (List Str×List Z2):=Ya (Zsj k a1 a2) fun v4=>bif decide (0≤v4) then let e5:=at? a1.2 v4;Ya (e5) fun v6=>Ya (e5) fun v7=>some (a1.1,Yg a1.2 (Yf v4) (v7.1,a3)) else Ya (Zfb 24 a1.2 [(a2,a3)]) fun v8=>some (a1.1,v8)
def Zyn.con (k:Nat):Con:=Sig.con { ps:=[.ref 26 T26 [.own 9,.own 195],.val false (.int .i64) (ros (.int .i64)),.val false .str (ros .str)],rs:=[],ntmps:=34 } (fun x=>Zyn k x.1 x.2.1 x.2.2)
theorem Zyn.ok (k:Nat):Zd Yb 143 (Zyn.con k):=fA (cX (cC (Zsj.ok k) cN)) Tryz.func143
def Z7c.l0 (k:Nat):Nat→List Zkg→Int→Int→List Str→List Z2→Option ((List Str×List Z2))
 | 0,_,_,_,_,_=>none
 | j+1,a1,a2,a3,a4,a5=>bif decide (a3<a2) then Ya (at? a1 a3) fun v6=>let e7:=Yc .i64 (a3+1);bif v6.1 then Ya (Zaf k (a4,a5)) fun v8=>Z7c.l0 k j a1 a2 e7 v8.1 v8.2 else Ya (Zyn k (a4,a5) v6.2.1 v6.2.2) fun v9=>Z7c.l0 k j a1 a2 e7 v9.1 v9.2 else some (a4,a5)
def Z7c (k:Nat) (a1:G26) (a2:List Zkg):Option (List Str×List Z2):=Ya (Z6n a1) fun v3=>Ya (Z7c.l0 k k a2 ((a2.length):Int) 0 v3.1 v3.2) fun y4=>some (y4.1,y4.2)
def Z7c.con (k:Nat):Con:=Sig.con { ps:=[.val true T26 (ros T26),.val false (.sl Zke) (ros (.sl Zke))],rs:=[.val true [.own 9 .str,.own 195 Zz]],ntmps:=26 } (fun x=>Z7c k x.1 x.2)
def Z7c.cok (k:Nat):=cXr true false (cC (Z6n.ok k) (cC (Zaf.ok k) (cC (Zyn.ok k) cN)))
def Z7c.l0.s (k:Nat):Summ:=lp 26 { tmps:=[(5,.one (.ptr 3 0)),(10,.one (.bor Zke)),(11,.one (.v (.int .i64))),(12,.one (.v (.int .i64)))],slots:=[(3,.box 26 [.own 4,.own 5]),(4,.arr false 9 .str),(5,.arr false 195 Zz)],nb:=6 } [(.exit 0,{ tmps:=[],slots:=[(3,.box 26 [.own 6,.own 7]),(6,.arr false 9 .str),(7,.arr false 195 Zz)],nb:=8 })] (fun j x=>Z7c.l0 k j x.1 x.2.1 x.2.2.1 x.2.2.2.1 x.2.2.2.2) k
def Z7c.l0.ok (k:Nat):=(lA (Z7c.cok k):Zn Yb _ (.loop (cO (cO (cR (cL (cR (cR (cB Tryz.f63)))))))) (Z7c.l0.s k))
theorem Z7c.ok (k:Nat):Zd Yb 63 (Z7c.con k):=fP (.two .auto (.two .auto (.two (.two .auto (.one (.sum (Z7c.l0.s k)))) .auto))) (Z7c.cok k) Tryz.func63 (sC (Z7c.l0.ok k) sN)
def Zlf (k:Nat) (a1:G26) (a2:Int):Option (Str):=Ya (Zsj k a1 a2) fun v3=>bif decide (0≤v3) then Ya (at? a1.2 v3) fun v4=>some v4.2 else Ya (at? a1.1 a2) fun v5=>some v5
def Zlf.con (k:Nat):Con:=Sig.con { ps:=[.val true T26 (ros T26),.val false (.int .i64) (ros (.int .i64))],rs:=[.val false [.v .str]],ntmps:=22 } (fun x=>Zlf k x.1 x.2)
theorem Zlf.ok (k:Nat):Zd Yb 119 (Zlf.con k):=fA (cXr true false (cC (Zsj.ok k) cN)) Tryz.func119
def Zxe.l0:Nat→Str→Int→Int→Int→Option ((Int×Int×Int))
 | 0,_,_,_,_=>none
 | j+1,a1,a2,a3,a4=>bif decide ((Yc .i64 (((a1.length):Int)-a4))≤a2) then some (0,0,4) else let e5:=Yc .i64 (a2+a4);Ya (at? a1 e5) fun v6=>bif (a4==9)&&(decide (1<(v6.toNat:Int))) then some (0,0,3) else let e7:=Yc .i64 (7*a4);Ya (Zkb e7) fun v8=>let e9:=intBits .or .u64 a3 (shl .u64 (Yc .u64 (intBits .and .u8 (v6.toNat:Int) 127)) e7);bif decide (127<(v6.toNat:Int)) then Zxe.l0 j a1 a2 e9 (Yc .i64 (a4+1)) else bif ((v6.toNat:Int)==0)&&(decide (0<a4)) then some (0,0,3) else Ya (Zkb 1) fun v10=>let e11:=Yc .i64 (e5+1);let e12:=Yc .i64 (shr .u64 e9 1);bif (intBits .and .u64 e9 1)==1 then some (intBits .xor .i64 (-1) e12,e11,0) else some (e12,e11,0)
def Zxe (k:Nat) (a1:Str) (a2:Int):Option (Int×Int×Int):=bif decide (a2<0) then some (0,0,1) else Ya (Zxe.l0 k a1 a2 0 0) fun y3=>some (y3.1,y3.2.1,y3.2.2)
def Zxe.con (k:Nat):Con:=Sig.con { ps:=[.val false .str (ros .str),.val false (.int .i64) (ros (.int .i64))],rs:=[.val false [.v (.int .i64)],.val false [.v (.int .i64)],.val false [.v (.int .i64)]],ntmps:=61 } (fun x=>Zxe k x.1 x.2)
def Zxe.cok (k:Nat):=cX cN
def Zxe.l0.s (k:Nat):Summ:=lp 61 { tmps:=[(0,.one (.v .str)),(1,.one (.v (.int .i64))),(7,.one (.v (.int .u64))),(8,.one (.v (.int .i64)))],slots:=[],nb:=0 } [(.ret,{ tmps:=[(4,.one (.v (.int .i64))),(5,.one (.v (.int .i64))),(6,.one (.v (.int .i64)))],slots:=[],nb:=0 })] (fun j x=>Zxe.l0 j x.1 x.2.1 x.2.2.1 x.2.2.2) k
def Zxe.l0.ok (k:Nat):=(lA (Zxe.cok k):Zn Yb _ (.loop (cO (cO (cR (cR (cR (cR (cB Tryz.f267)))))))) (Zxe.l0.s k))
theorem Zxe.ok (k:Nat):Zd Yb 267 (Zxe.con k):=fP (.two .auto (.two .auto (.two .auto (.two .auto (.one (.sum (Zxe.l0.s k))))))) (Zxe.cok k) Tryz.func267 (sC (Zxe.l0.ok k) sN)
def Z9b (k:Nat) (a1:Zlz):Option (Int×Str×Int×Bool):=Ya (Zxe k a1.1 a1.2.1) fun v2=>bif v2.2.2 != 0 then some (0,a1.1,a1.2.1,true) else some (v2.1,a1.1,v2.2.1,a1.2.2)
def Z9b.con (k:Nat):Con:=Sig.con { ps:=[.ref 234 Zhn (Zpe Zhn)],rs:=[.val false [.v (.int .i64)]],ntmps:=29 } (fun x=>Z9b k x)
theorem Z9b.ok (k:Nat):Zd Yb 215 (Z9b.con k):=fA (cX (cC (Zxe.ok k) cN)) Tryz.func215
def Z7n (k:Nat) (a1:Str) (a2:Int):Option (Str×Int×Int):=Ya (Zxe k a1 a2) fun v3=>bif v3.2.2 != 0 then some ([],0,v3.2.2) else Ya (Zcb v3.1 0 8000) fun v4=>bif !v4 then some ([],0,3) else bif decide ((Yc .i64 (((a1.length):Int)-v3.2.1))<v3.1) then some ([],0,4) else let e5:=Yc .i64 (v3.2.1+v3.1);Ya (Z3b a1 v3.2.1 e5) fun v6=>some (v6,e5,0)
def Z7n.con (k:Nat):Con:=Sig.con { ps:=[.val false .str (ros .str),.val false (.int .i64) (ros (.int .i64))],rs:=[.val false [.v .str],.val false [.v (.int .i64)],.val false [.v (.int .i64)]],ntmps:=41 } (fun x=>Z7n k x.1 x.2)
theorem Z7n.ok (k:Nat):Zd Yb 268 (Z7n.con k):=fA (cX (cC (Zcb.ok k) (cC (Zxe.ok k) cN))) Tryz.func268
def Zbg (k:Nat) (a1:Zlz):Option (Str×Str×Int×Bool):=Ya (Z7n k a1.1 a1.2.1) fun v2=>bif v2.2.2 != 0 then some ([],a1.1,a1.2.1,true) else some (v2.1,a1.1,v2.2.1,a1.2.2)
def Zbg.con (k:Nat):Con:=Sig.con { ps:=[.ref 234 Zhn (Zpe Zhn)],rs:=[.val false [.v .str]],ntmps:=29 } (fun x=>Zbg k x)
theorem Zbg.ok (k:Nat):Zd Yb 216 (Zbg.con k):=fA (cX (cC (Z7n.ok k) cN)) Tryz.func216
def Z7b.l0:Nat→Str→Int→Int→Int→Option (Int)
 | 0,_,_,_,_=>none
 | j+1,a1,a2,a3,a4=>bif decide (a4<8) then Ya (at? a1 a3) fun v5=>Ya (Zkb a4) fun v6=>Ya (Zkb 1) fun v7=>let e8:=Yc .i64 (a4+1);bif (intBits .and .u32 (intBits .xor .u32 a2 (shr .u32 (Yc .u32 (v5.toNat:Int)) a4)) 1)==1 then Z7b.l0 j a1 (intBits .xor .u32 (shr .u32 a2 1) 3988292384) a3 e8 else Z7b.l0 j a1 (shr .u32 a2 1) a3 e8 else some a2
def Z7b.l1 (k:Nat):Nat→Str→Int→Int→Int→Option (Int)
 | 0,_,_,_,_=>none
 | j+1,a1,a2,a3,a4=>bif decide (a4<a3) then Ya (Z7b.l0 k a1 a2 a4 0) fun y5=>Z7b.l1 k j a1 y5 a3 (Yc .i64 (a4+1)) else some a2
def Z7b (k:Nat) (a1:Int) (a2:Str):Option (Int):=Ya (Z7b.l1 k k a2 (intBits .xor .u32 (Yh .u32) a1) ((a2.length):Int) 0) fun y3=>some (intBits .xor .u32 (Yh .u32) y3)
def Z7b.con (k:Nat):Con:=Sig.con { ps:=[.val false (.int .u32) (ros (.int .u32)),.val false .str (ros .str)],rs:=[.val false [.v (.int .u32)]],ntmps:=38 } (fun x=>Z7b k x.1 x.2)
def Z7b.cok (k:Nat):=cX cN
def Z7b.l0.s (k:Nat):Summ:=lp 38 { tmps:=[(1,.one (.v .str)),(5,.one (.v (.int .u32))),(6,.one (.v (.int .i64))),(16,.one (.v (.int .i64)))],slots:=[],nb:=0 } [(.exit 2,{ tmps:=[(5,.one (.v (.int .u32)))],slots:=[],nb:=0 })] (fun j x=>Z7b.l0 j x.1 x.2.1 x.2.2.1 x.2.2.2) k
def Z7b.l0.ok (k:Nat):=(lA (Z7b.cok k):Zn Yb _ (.loop (cO (cO (cR (cR (cO (cL (cR (cR (cO (cO (cR (cL (cR (cR (cB Tryz.f292)))))))))))))))) (Z7b.l0.s k))
def Z7b.l1.s (k:Nat):Summ:=lp 38 { tmps:=[(1,.one (.v .str)),(5,.one (.v (.int .u32))),(12,.one (.v (.int .i64))),(13,.one (.v (.int .i64)))],slots:=[],nb:=0 } [(.exit 0,{ tmps:=[(5,.one (.v (.int .u32)))],slots:=[],nb:=0 })] (fun j x=>Z7b.l1 k j x.1 x.2.1 x.2.2.1 x.2.2.2) k
def Z7b.l1.ok (k:Nat):=(lP (.two .auto (.two .auto (.two (.one (.two .auto (.two .auto (.one (.sum (Z7b.l0.s k)))))) .auto))) (Z7b.cok k) (sC (Z7b.l0.ok k) sN):Zn Yb _ (.loop (cO (cO (cR (cL (cR (cR (cB Tryz.f292)))))))) (Z7b.l1.s k))
theorem Z7b.ok (k:Nat):Zd Yb 292 (Z7b.con k):=fP (.two .auto (.two .auto (.two (.two .auto (.one (.sum (Z7b.l1.s k)))) .auto))) (Z7b.cok k) Tryz.func292 (sC (Z7b.l1.ok k) sN)
def Zhi (k:Nat) (a1:Str):Option (Str):=Ya (Z7b k 0 a1) fun v2=>Ya (Zkb 8) fun v3=>Ya (Zkb 16) fun v4=>Ya (Zkb 24) fun v5=>Ya (Zae a1 (Zhb [(Yc .u8 v2),(Yc .u8 (shr .u32 v2 8)),(Yc .u8 (shr .u32 v2 16)),(Yc .u8 (shr .u32 v2 24))])) fun v6=>some v6
def Zhi.con (k:Nat):Con:=Sig.con { ps:=[.val false .str (ros .str)],rs:=[.val false [.v .str]],ntmps:=21 } (fun x=>Zhi k x)
theorem Zhi.ok (k:Nat):Zd Yb 254 (Zhi.con k):=fA (cX (cC (Z7b.ok k) cN)) Tryz.func254
def Zuj (k:Nat) (a1:Str):Option (Str×Int):=bif decide (((a1.length):Int)<4) then some ([],4) else Ya (Z3b a1 0 (Yc .i64 (((a1.length):Int)-4))) fun v2=>Ya (Zhi k v2) fun v3=>bif !(v3==a1) then some ([],5) else some (v2,0)
def Zuj.con (k:Nat):Con:=Sig.con { ps:=[.val false .str (ros .str)],rs:=[.val false [.v .str],.val false [.v (.int .i64)]],ntmps:=18 } (fun x=>Zuj k x)
theorem Zuj.ok (k:Nat):Zd Yb 225 (Zuj.con k):=fA (cX (cC (Zhi.ok k) cN)) Tryz.func225
def Zjl (k:Nat) (a1:Str):Option (Int×Str×Int):=Ya (Zuj k a1) fun v2=>bif v2.2 != 0 then some (0,[],v2.2) else Ya (Z9b k (v2.1,(0,false))) fun v3=>Ya (Zbg k v3.2) fun v4=>bif v4.2.2.2||(v4.2.2.1 != ((v2.1.length):Int)) then some (0,[],3) else Ya (Zcb v3.1 1 1000000) fun v5=>bif (!v5)||(decide (80<((v4.1.length):Int))) then some (0,[],3) else some (v3.1,v4.1,0)
def Zjl.con (k:Nat):Con:=Sig.con { ps:=[.val false .str (ros .str)],rs:=[.val true [.v (.int .i64),.v .str,.v (.int .i64)]],ntmps:=51 } (fun x=>Zjl k x)
theorem Zjl.ok (k:Nat):Zd Yb 214 (Zjl.con k):=fA (cX (cC (Zcb.ok k) (cC (Z9b.ok k) (cC (Zbg.ok k) (cC (Zuj.ok k) cN))))) Tryz.func214
def Zxc.l0 (k:Nat):Nat→List Str→List Z2→Int→Int→Int→Str→Int→Option ((Int×Int×Str×Int))
 | 0,_,_,_,_,_,_,_=>none
 | j+1,a1,a2,a3,a4,a5,a6,a7=>bif decide (a4<2) then Ya (Zlf k (a1,a2) a4) fun v8=>Ya (Zjl k v8) fun v9=>let e10:=Yc .i64 (a4+1);bif (v9.2.2==0)&&((decide (a3<0))||(decide (a5<v9.1))) then Zxc.l0 k j a1 a2 a4 e10 v9.1 v9.2.1 v9.2.2 else Zxc.l0 k j a1 a2 a3 e10 a5 a6 a7 else some (a3,a5,a6,a7)
def Zxc (k:Nat) (a1:G26):Option (Int×Str×Int×Int):=Ya (Zxc.l0 k k a1.1 a1.2 (-1) 0 0 [] 6) fun y2=>some (y2.2.1,y2.2.2.1,y2.2.2.2,y2.1)
def Zxc.con (k:Nat):Con:=Sig.con { ps:=[.val true T26 (ros T26)],rs:=[.val true [.v (.int .i64),.v .str,.v (.int .i64)],.val false [.v (.int .i64)]],ntmps:=35 } (fun x=>Zxc k x)
def Zxc.cok (k:Nat):=cXr true false (cC (Zlf.ok k) (cC (Zjl.ok k) cN))
def Zxc.l0.s (k:Nat):Summ:=lp 35 { tmps:=[(1,.eptr [.bor .str,.bor Zz]),(4,.one (.ptr 1 0)),(5,.one (.v (.int .i64))),(9,.one (.v (.int .i64)))],slots:=[(1,.box 156 [.v (.int .i64),.v .str,.v (.int .i64)])],nb:=2 } [(.exit 0,{ tmps:=[(5,.one (.v (.int .i64)))],slots:=[(1,.box 156 [.v (.int .i64),.v .str,.v (.int .i64)])],nb:=2 })] (fun j x=>Zxc.l0 k j x.1 x.2.1 x.2.2.1 x.2.2.2.1 x.2.2.2.2.1 x.2.2.2.2.2.1 x.2.2.2.2.2.2) k
def Zxc.l0.ok (k:Nat):=(lA (Zxc.cok k):Zn Yb _ (.loop (cO (cO (cR (cL (cR (cR (cB Tryz.f121)))))))) (Zxc.l0.s k))
theorem Zxc.ok (k:Nat):Zd Yb 121 (Zxc.con k):=fP (.two .auto (.two .auto (.two (.two .auto (.one (.sum (Zxc.l0.s k)))) .auto))) (Zxc.cok k) Tryz.func121 (sC (Zxc.l0.ok k) sN)
def Z8b.j0 (a1:Int) (a2:Int):Option (Int):=bif decide (a1<0) then some (intBits .xor .u64 (Yh .u64) a2) else some a2
def Z8b.l1:Nat→Int→List Int→Option ((Int×List Int))
 | 0,_,_=>none
 | j+1,a1,a2=>bif decide (127<a1) then Ya (Zfb 1 a2 [(intBits .or .u8 (Yc .u8 a1) 128)]) fun v3=>Ya (Zkb 7) fun v4=>Z8b.l1 j (shr .u64 a1 7) v3 else some (a1,a2)
def Z8b (k:Nat) (a1:Int):Option (Str):=Ya (Zkb 1) fun v2=>Ya (Z8b.j0 a1 (shl .u64 (Yc .u64 a1) 1)) fun y3=>Ya (Z8b.l1 k y3 []) fun y4=>Ya (Zfb 1 y4.2 [(Yc .u8 y4.1)]) fun v5=>some (Zhb v5)
def Z8b.con (k:Nat):Con:=Sig.con { ps:=[.val false (.int .i64) (ros (.int .i64))],rs:=[.val false [.v .str]],ntmps:=28 } (fun x=>Z8b k x)
def Z8b.cok (k:Nat):=cX cN
def Z8b.j0.s (k:Nat):Summ:=lq 28 { tmps:=[(0,.one (.v (.int .i64))),(3,.one (.v (.int .u64)))],slots:=[],nb:=0 } [(.nrm,{ tmps:=[(3,.one (.v (.int .u64)))],slots:=[],nb:=0 })] (fun x=>Z8b.j0 x.1 x.2)
def Z8b.j0.ok (k:Nat):=(jA (Z8b.cok k):Zn Yb _ (cL (cR (cR (cB Tryz.f255)))) (Z8b.j0.s k))
def Z8b.l1.s (k:Nat):Summ:=lp 28 { tmps:=[(3,.one (.v (.int .u64))),(4,.one (.own 0))],slots:=[(0,.arr false 5 (.int .u8))],nb:=1 } [(.exit 0,{ tmps:=[(3,.one (.v (.int .u64))),(4,.one (.own 1))],slots:=[(1,.arr false 5 (.int .u8))],nb:=2 })] (fun j x=>Z8b.l1 j x.1 x.2) k
def Z8b.l1.ok (k:Nat):=(lA (Z8b.cok k):Zn Yb _ (.loop (cO (cO (cL (cR (cR (cR (cR (cB Tryz.f255))))))))) (Z8b.l1.s k))
theorem Z8b.ok (k:Nat):Zd Yb 255 (Z8b.con k):=fP (.two .auto (.two .auto (.two (.sum (Z8b.j0.s k)) (.two .auto (.two (.one (.sum (Z8b.l1.s k))) .auto))))) (Z8b.cok k) Tryz.func255 (sC (Z8b.j0.ok k) (sC (Z8b.l1.ok k) sN))
def Zgi (k:Nat) (a1:Str):Option (Str):=Ya (Z8b k ((a1.length):Int)) fun v2=>Ya (Zae v2 a1) fun v3=>some v3
def Zgi.con (k:Nat):Con:=Sig.con { ps:=[.val false .str (ros .str)],rs:=[.val false [.v .str]],ntmps:=8 } (fun x=>Zgi k x)
theorem Zgi.ok (k:Nat):Zd Yb 187 (Zgi.con k):=fA (cX (cC (Z8b.ok k) cN)) Tryz.func187
end Go.Proofs.Qz
