/- What the law FnExactActsOf needs, part 7 of 14: the Lean functions of the Go functions that it reaches, with the proofs that the calls come to what they say, and plain facts about them. Conditions: those that each theorem states. Written by a session and by its programs (after the kit's printer). -/
import Derived.Lib.LaidTab
import Derived.Lib.AppendIntMem
import Derived.Shelf.Strings.Builder1
import Derived.Shelf.Strings.Builder2
import Derived.Shelf.Strings.OnBuilder
import Derived.Shelf.Strings.BuilderF
import Derived.Shelf.Strings.Prefix
import Derived.Shelf.Bits.Mul64
import Derived.Shelf.Strings.Repeat
import Derived.Ground.Names2Prog
import Derived.Shelf.Slices.Clone
import Derived.Shelf.Slices.Delete
import Derived.Shelf.Slices.Cells
import Derived.Shelf.Slices.Empties
import Derived.Ground.SlgnProg
import Derived.Shelf.SlicesE.Clone
import Derived.Ground.SlgfProg
import Derived.Shelf.SlicesE.IndexFunc
import Derived.Test.YtonaicpopoomlaaGreatDoorProg
import Derived.Test.YtonaicpopoomlaaGreatDoorXFnExactActsOf4
import Derived.Test.YtonaicpopoomlaaGreatDoorXFnExactActsOf5
open Option renaming bind → Ya, some → Yh
open Go.IntKind renaming wrap → Yb
open Bool renaming and_eq_true → Yc, and_true → Yi
open List renaming all_cons → Yd, map_cons → Ye, mem_singleton → Yg, all_append → Yj, append_assoc → Yk, cons → Yl, cons_append → Ym, replicate → Yn
open Int renaming tmod → Yf
open Nat renaming mul_one → Yo
namespace Go.Proofs.Qz
open Go Go.RowKit
set_option linter.unusedVariables false
def Zyz:(r:Ty)→r.T→Option Value
 | .int k,n=>some (.int k n)
 | .bool,b=>some (.bool b)
 | .str,s=>some (.string (ba s))
 | _,_=>none
section
variable {P:Program} {w:World}
theorem Zrkb {F:Nat→Prop}:∀{r:Ty} {x:r.T} {v:Value},Zyz r x=some v→Rep w F r x [v]∧r.sz=1
 | .int k,_,_,h=>by cases h;exact ⟨rfl,rfl⟩
 | .bool,_,_,h=>by cases h;exact ⟨rfl,rfl⟩
 | .str,_,_,h=>by cases h;exact ⟨rfl,rfl⟩
 | .sl _,_,_,h=>by cases h
 | .pair _ _,_,_,h=>by cases h
 | .unit,_,_,h=>by cases h
theorem Zfgb {n:Nat} {r:Ty} {l:List r.T} {cs:Array Value} {ty:TypeId} {fr:Nat×Nat} (hg:w.heap[n]? = some (.cells cs ty fr)) (h:l.map (Zyz r)=cs.toList.map some) (hr:r.sz=1):Gl1 w n r l:=by
 have hlen:l.length=cs.size:=by
  have:=congrArg List.length h
  simpa using this
 refine ⟨(Array.getElem?_eq_some_iff.1 hg).1,⟨_,_,rfl,Nat.le_refl _,.inr ⟨n,0,rfl,rfl,fun j x hj=>?_⟩⟩,cs,ty,fr,hg,by rw [hr,hlen,Yo]⟩
 have hx:=congrArg (fun z=>z[j]?) h
 simp only [List.getElem?_map,hj,Option.map_some] at hx
 cases hv:cs.toList[j]? with
 | none=>rw [hv] at hx;cases hx
 | some v=>
  rw [hv] at hx
  have hx:Zyz r x=some v:=Yh.inj hx
  refine ⟨[v],fun i u hu=>?_,(Zrkb hx).1⟩
  cases i with
  | zero=>
   cases hu
   rw [cell_of_row w n _ cs ty fr hg,hr,Nat.zero_add,Yo,Nat.add_zero]
   simpa using hv
  | succ i=>cases hu
theorem Zm9 {ps:List MemPlace}:∀{l:List (String×DataW Unit)} {ps:List MemPlace},DataW.LaidVars P w l ps→∀{name:String} {d:DataW Unit},(name,d)∈l→∃g t cs fuel p,P.globalNamed name=some g∧(P.globals[g]?).map (·.type)=some t∧w.var? P name=some cs∧DataW.trod (fun _=>()) P w 0 (fun _=>true) false fuel t cs.toList=some (d,p)
 | [],_,_,_,_,hm=>nomatch hm
 | (n,d)::l,_,⟨g,t,cs,fuel,p,q,h1,h2,h3,h4,h5,_⟩,name,d',hm=>by
  rcases List.mem_cons.1 hm with e | hm
  ·cases e
   exact ⟨g,t,cs,fuel,p,h1,h2,h3,h4⟩
  ·exact Zm9 (ps:=ps) h5 hm
theorem Zrnb {name:String} {g:Nat} {cs:Array Value} (hg:P.globalNamed name=some g) (h:w.var? P name=some cs):∃ty fr,w.heap[g]? = some (.cells cs ty fr):=by
 unfold World.var? at h
 rw [hg,Option.bind_some] at h
 split at h
 ·rename_i c ty fr hb
  cases h
  exact ⟨ty,fr,hb⟩
 ·cases h
theorem Zl9 {l:List (String×DataW Unit)} (h:laidMet P l w) {name:String} {k:IntKind} {zs:List Int} (hm:(name,Lib.tabData k zs)∈l) {g n:Nat} {t e:TypeId} (hg:P.globalNamed name=some g) (hty:(P.globals[g]?).map (·.type)=some t)
  (ht:P.underlying t=some (.array n e)) (he:P.underlying e=some (.int k)) (hce:P.cellsOf e=1) (hct:P.cellsOf t=n):Gl1 w g (.int k) zs:=by
 obtain ⟨ps,hv,_⟩:=h
 obtain ⟨g',t',cs,fuel,p,h1,h2,h3,h4⟩:=Zm9 (ps:=ps) hv hm
 obtain rfl:=Yh.inj (hg.symm.trans h1)
 obtain rfl:=Yh.inj (hty.symm.trans h2)
 obtain ⟨ty,fr,hb⟩:=Zrnb hg h3
 have hc:=Lib.cells_of_tab ht he hce hct h4
 exact Zfgb hb (by rw [hc];simp [Zyz]) rfl
end
end Go.Proofs.Qz
namespace Go.Proofs.Qz
open Go
set_option linter.unusedVariables false
theorem cC {P:Program} {n:Nat} {c:Con} {L:List (Nat×Con)} (h:Zf P n c) (t:Zpn P L):Zpn P ((n,c)::L):=⟨h,t⟩
theorem cN {P:Program}:Zpn P []:=trivial
theorem sC {P:Program} {C:Ctx} {c:Code} {s:Summ} {L:List (Summ×Code)} (h:Zj P C c s) (t:Zqk P C L):Zqk P C ((s,c)::L):=⟨h,t⟩
theorem sN {P:Program} {C:Ctx}:Zqk P C []:=trivial
theorem Zyp:∀c:Code,Z4d .auto c=[]
 | .seq a b=>by
  show Z4d .auto a++Z4d .auto b=[]
  rw [Zyp a,Zyp b]
  rfl
 | .cond _ a b=>by
  show Z4d .auto a++Z4d .auto b=[]
  rw [Zyp a,Zyp b]
  rfl
 | .block _ a=>Zyp a
 | .skip=>rfl
 | .region _ _ _=>rfl
 | .loop _=>rfl
 | .rangeFunc _ _ _ _=>rfl
 | .exit _=>rfl
 | .scope _=>rfl
 | .label _=>rfl
 | .goto _=>rfl
 | .ret=>rfl
 | .refuse _=>rfl
def lp (n:Nat) (ish:Shape) (outs:List (Ex×Shape)) (F:Nat→Z7 ish.tys→Option (Z4g outs)) (k:Nat):Summ:={ n:=n,ish:=ish,outs:=outs,f:=F k }
def lq (n:Nat) (ish:Shape) (outs:List (Ex×Shape)) (F:Z7 ish.tys→Option (Z4g outs)):Summ:={ n:=n,ish:=ish,outs:=outs,f:=F }
section
variable {P:Program} {C:Ctx} {c:Code} {L:List (Summ×Code)} {n:Nat} {ish:Shape} {outs:List (Ex×Shape)}
theorem lP (p:Plan) {F:Nat→Z7 ish.tys→Option (Z4g outs)} {k:Nat} (H:CtxOk P C) (hs:Zqk P C L) (hl:Z4d p c=L:=by kernel_rfl) (hok:(lp n ish outs F k).ok=true:=by kernel_rfl) (h0:∀x,F 0 x=none:=by intro x;rfl)
  (hev:∀j x,V C p c (mk ish n x) (fun e st'=>match e with
   | .nrm=>(rd ish st').bind (F j)
   | e=>Zfk e st' outs)=F (j+1) x:=by intro j x;kernel_rfl):Zj P C (.loop c) (lp n ish outs F k):=
 Zadb hok (sum_loop (s:=lp n ish outs F k) (F:=F) H hok (Zny hl hs) h0 (fun j x y h=>(hev j x).trans h) k rfl)
theorem lA {F:Nat→Z7 ish.tys→Option (Z4g outs)} {k:Nat} (H:CtxOk P C) (hok:(lp n ish outs F k).ok=true:=by kernel_rfl) (h0:∀x,F 0 x=none:=by intro x;rfl)
  (hev:∀j x,V C .auto c (mk ish n x) (fun e st'=>match e with
   | .nrm=>(rd ish st').bind (F j)
   | e=>Zfk e st' outs)=F (j+1) x:=by intro j x;kernel_rfl):Zj P C (.loop c) (lp n ish outs F k):=lP .auto H sN (Zyp c) hok h0 hev
theorem jP (p:Plan) {F:Z7 ish.tys→Option (Z4g outs)} (H:CtxOk P C) (hs:Zqk P C L) (hl:Z4d p c=L:=by kernel_rfl) (hok:(lq n ish outs F).ok=true:=by kernel_rfl)
  (hev:∀x,V C p c (mk ish n x) (fun e st'=>Zfk e st' outs)=F x:=by intro x;kernel_rfl):Zj P C c (lq n ish outs F):=
 Zadb hok (Z7mb (s:=lq n ish outs F) (p:=p) H hok (Zny hl hs) (fun x y h=>(hev x).trans h))
theorem jA {F:Z7 ish.tys→Option (Z4g outs)} (H:CtxOk P C) (hok:(lq n ish outs F).ok=true:=by kernel_rfl)
  (hev:∀x,V C .auto c (mk ish n x) (fun e st'=>Zfk e st' outs)=F x:=by intro x;kernel_rfl):Zj P C c (lq n ish outs F):=jP .auto H sN (Zyp c) hok hev
theorem fP (p:Plan) {f:FuncId} {fn:Func} {s:Sig} {F:Z7 s.ins→Option (Z7 s.outs)} (H:CtxOk P C) (hf:P.funcs[f]? = some fn) (hs:Zqk P C L) (hname:(fn.name == "runtime.NumGoroutine")=false:=by kernel_rfl) (hb:fn.body=some (cB fn):=by kernel_rfl)
  (hn:fn.ntmps=s.ntmps:=by kernel_rfl) (hps:Nat.ble s.ps.length s.ntmps=true:=by kernel_rfl) (hl:Z4d p (cB fn)=L:=by kernel_rfl) (hev:∀x,s.ev C p fn.results.toList (cB fn) x=F x:=by intro x;kernel_rfl):Zf P f (s.con F):=
 Zwmb H hf hname hb hn hps (Zny hl hs) (fun x y h=>(hev x).trans h)
theorem fA {f:FuncId} {fn:Func} {s:Sig} {F:Z7 s.ins→Option (Z7 s.outs)} (H:CtxOk P C) (hf:P.funcs[f]? = some fn) (hname:(fn.name == "runtime.NumGoroutine")=false:=by kernel_rfl) (hb:fn.body=some (cB fn):=by kernel_rfl)
  (hn:fn.ntmps=s.ntmps:=by kernel_rfl) (hps:Nat.ble s.ps.length s.ntmps=true:=by kernel_rfl) (hev:∀x,s.ev C .auto fn.results.toList (cB fn) x=F x:=by intro x;kernel_rfl):Zf P f (s.con F):=fP .auto H hf sN hname hb hn hps (Zyp _) hev
end
end Go.Proofs.Qz
namespace Go.Proofs.Qz
open Go Go.RowKit
set_option linter.unusedVariables false
def Zr5:CL→CL
 | .leaf (.bor r l)=>.leaf (.list r l)
 | x=>x
def Zzz:CArg→CArg
 | .val a xs=>.val a (xs.map Zr5)
 | x=>x
def roP:PL→PL
 | .v=>.ro
 | x=>x
def roK:PK→PK
 | .val a t ms=>.val a t (ms.map roP)
 | x=>x
def Sig.conR (s:Sig) (f:Z7 s.ins→Option (Z7 s.outs)):Con:={ ms:=(s.ps.map roK).map PK.pm,f:=fun asx=>s.run f (asx.map Zzz) }
section
variable {w:World} {F F' B:Nat→Prop}
theorem Z5d.weak (hF:∀b,F b→B b) {x:Leaf} {v:Value} (h:VLs w F B [.leaf x] [v] []):VLs w B B [Zr5 (.leaf x)] [v] []:=by
 have h:=h.1
 cases x with
 | bor r l=>exact ⟨h,rfl⟩
 | _=>exact ⟨Z5d.mono hF (fun _ q=>q) h,rfl⟩
theorem VLs.weak (hF:∀b,F b→B b):∀{xs:List CL} {vs:List Value} {L:List GI},VLs w F B xs vs L→VLs w B B (xs.map Zr5) vs L
 | [],[],_,h=>h
 | .leaf x::xs,v::vs,L,h=>by
  have h2:=VLs.weak hF h.2
  have h1:Z5d w F B x v:=h.1
  cases x with
  | bor r l=>exact ⟨h1,h2⟩
  | _=>exact ⟨Z5d.mono hF (fun _ q=>q) h1,h2⟩
 | .row _ _ _::xs,v::vs,.row _::L,h=>⟨h.1,h.2.1.mono hF,VLs.weak hF h.2.2⟩
 | .nil::xs,v::vs,.no::L,h=>⟨h.1,VLs.weak hF h.2⟩
theorem Zqg.weak (hF:∀b,F b→B b):∀{asx:List CArg} {vs:List Value} {L:List GI} {M:List Value},Zqg w F B asx vs L M→Zqg w B B (asx.map Zzz) vs L M
 | [],[],_,_,h=>h
 | a::asx,v::vs,L,M,⟨L1,L2,M1,M2,h1,h2,h3,h4⟩=>by
  refine ⟨L1,L2,M1,M2,h1,h2,?_,Zqg.weak hF h4⟩
  cases a with
  | val ag xs=>
   cases ag with
   | false=>exact ⟨h3.1,VLs.weak hF h3.2⟩
   | true=>
    obtain ⟨k1,cs,k2,k3⟩:=h3
    exact ⟨k1,cs,k2,VLs.weak hF k3⟩
  | _=>exact h3.mono hF (fun _ q=>q)
def Zp9:Leaf→Bool
 | .list _ _=>false
 | .bor _ _=>false
 | _=>true
def Z8r:RL→Bool
 | .leaf x=>Zp9 x
 | .own _ r _=>flat r
def Zym:RC→Bool
 | .val _ xs=>xs.all Z8r
 | .box _ xs=>xs.all Z8r
theorem Z0b.flat {z:Bool} {e:TypeId} {t:Ty} {v:Value} {l:List t.T} (ht:Go.Proofs.Qz.flat t=true) (h:Z0b w F z e t v l):Z0b w F' z e t v l:=by
 rcases h.cases with ⟨he,h | ⟨g,cap,cs,fr,h0,h1,h2,h3,h4,h5,h6⟩⟩ | ⟨he,rfl,hM | hM⟩
 ·exact Z7b.ok (.inl h) he
 ·exact Z7b.ok (.inr ⟨g,cap,cs,fr,h0,h1,h2,h3,h4,h5,fun j x hj=>Rep.flat ht (h6 j x hj)⟩) he
 ·exact Zpm.ok hM he
 ·exact Zhl.ok hM
theorem Z6d.flat:∀{xs:List RL} {vs:List Value} {O:List Conc},xs.all Z8r=true→Z6d w F xs vs O→Z6d w F' xs vs O
 | [],[],_,_,h=>h
 | .leaf x::xs,v::vs,O,hf,h=>by
  rw [Yd,Yc] at hf
  refine ⟨?_,Z6d.flat hf.2 h.2⟩
  have h1:Z5d w F (fun _=>False) x v:=h.1
  cases x with
  | list r l=>cases hf.1
  | bor r l=>cases hf.1
  | _=>exact h1
 | .own e r l::xs,v::vs,c::O,hf,h=>by
  rw [Yd,Yc] at hf
  exact ⟨h.1,Z0b.flat hf.1 h.2.1,Z6d.flat hf.2 h.2.2⟩
theorem Zgl.flat {p:RC} {v:Value} {O:List Conc} (hf:Zym p=true) (h:Zgl w F p v O):Zgl w F' p v O:=by
 cases p with
 | val a xs=>
  cases a with
  | true=>
   obtain ⟨cs,h1,h2⟩:=h
   exact ⟨cs,h1,Z6d.flat hf h2⟩
  | false=>exact Z6d.flat hf h
 | box t xs=>
  obtain ⟨g,cs,fr,O1,h1,h2,h3,h4,h5⟩:=h
  exact ⟨g,cs,fr,O1,h1,h2,h3,h4,Z6d.flat hf h5⟩
theorem Zej.flat:∀{ps:List RC} {vs:List Value} {O:List Conc},ps.all Zym=true→Zej w F ps vs O→Zej w F' ps vs O
 | [],[],_,_,h=>h
 | p::ps,v::vs,O,hf,⟨O1,O2,h1,h2,h3⟩=>by
  rw [Yd,Yc] at hf
  exact ⟨O1,O2,h1,Zgl.flat hf.1 h2,Zej.flat hf.2 h3⟩
theorem Zukb {rs:List RC} {v:Value} {O:List Conc} (hf:rs.all Zym=true) (h:Z3s w F rs v O):Z3s w F' rs v O:=by
 match rs,hf,h with
 | [p],hf,h=>
  rw [Yd,Yc] at hf
  exact Zgl.flat (p:=p) hf.1 h
 | [],hf,⟨vs,h1,h2⟩=>exact ⟨vs,h1,Zej.flat hf h2⟩
 | p::q::ps,hf,⟨vs,h1,h2⟩=>exact ⟨vs,h1,Zej.flat hf h2⟩
theorem Zqkb {L:List GI} {O:List Conc} (h:Zvh w F L [] O):Zvh w F' L [] O:=by
 match L,h with
 | [],h=>exact h
def Zz1:RK→Bool
 | .v t=>flat t
 | .own _ r=>flat r
def noB:PK→Bool
 | .val _ _ ms=>ms.all fun m=>match m with
  | .own _=>false
  | _=>true
 | .rptr _=>true
 | _=>false
def Sig.keptOk (s:Sig):Bool:=s.ps.all noB&&s.rs.all fun r=>r.ks.all Zz1
theorem Zz2:∀(t:Ty) (x:t.T),flat t=true→∀y∈Zx t x,Zp9 y=true
 | .int _,x,_,y,hy=>by rw [Yg.1 hy];rfl
 | .bool,x,_,y,hy=>by rw [Yg.1 hy];rfl
 | .str,x,_,y,hy=>by rw [Yg.1 hy];rfl
 | .unit,x,_,y,hy=>by cases hy
 | .sl _,x,h,y,hy=>by cases h
 | .pair a b,x,h,y,hy=>by
  have h:(flat a&&flat b)=true:=h
  rw [Yc] at h
  rcases List.mem_append.1 hy with hy | hy
  ·exact Zz2 a x.1 h.1 y hy
  ·exact Zz2 b x.2 h.2 y hy
def DV.t:DV→Ty
 | .mk t _=>t
theorem Zhab:∀(ts:List Ty) (y:Z7 ts),(Zre ts y).map DV.t=ts
 | [],_=>rfl
 | [t],y=>rfl
 | t::u::ts,y=>by
  show DV.t _::(Zre (u::ts) y.2).map DV.t=_
  rw [Zhab (u::ts) y.2]
  rfl
theorem Zax:∀(ks:List RK) (ds:List DV) (rest:List Ty),ds.map DV.t=ks.map RK.ty++rest→ks.all Zz1=true→(Z3 ks ds).1.all Z8r=true∧(Z3 ks ds).2.map DV.t=rest
 | [],ds,rest,h,_=>⟨rfl,h⟩
 | .v t::ks,[],rest,h,_=>by cases h
 | .own e r::ks,[],rest,h,_=>by cases h
 | .v t::ks,.mk t' x::ds,rest,h,hf=>by
  rw [Yd,Yc] at hf
  rw [Ye,Ye,Ym,Yl.injEq] at h
  obtain ⟨k1,k2⟩:=Zax ks ds rest h.2 hf.2
  have ht:t'=t:=h.1
  subst ht
  refine ⟨?_,k2⟩
  show ((Zx t' x).map RL.leaf++(Z3 ks ds).1).all Z8r=true
  rw [Yj,k1,Yi,List.all_map]
  exact List.all_eq_true.2 fun y hy=>Zz2 t' x hf.1 y hy
 | .own e r::ks,.mk t' x::ds,rest,h,hf=>by
  rw [Yd,Yc] at hf
  rw [Ye,Ye,Ym,Yl.injEq] at h
  obtain ⟨k1,k2⟩:=Zax ks ds rest h.2 hf.2
  have ht:t' = .sl r:=h.1
  subst ht
  refine ⟨?_,k2⟩
  show ([RL.own e r x]++(Z3 ks ds).1).all Z8r=true
  rw [Yj,k1,Yi]
  show (flat r&&true)=true
  rw [show flat r=true from hf.1]
  rfl
theorem Zl1:∀(rs:List SK) (ds:List DV) (rest:List Ty),ds.map DV.t=Z4q rs++rest→(rs.all fun r=>r.ks.all Zz1)=true→(Z7d rs ds).1.all Zym=true∧(Z7d rs ds).2.map DV.t=rest
 | [],ds,rest,h,_=>⟨rfl,h⟩
 | .val a ks::rs,ds,rest,h,hf=>by
  rw [Yd,Yc] at hf
  obtain ⟨k1,k2⟩:=Zax ks ds (Z4q rs++rest) (by rw [h];show (ks.map RK.ty++Z4q rs)++rest=_;rw [Yk]) hf.1
  obtain ⟨j1,j2⟩:=Zl1 rs (Z3 ks ds).2 rest k2 hf.2
  refine ⟨?_,j2⟩
  show (Zym (.val a (Z3 ks ds).1)&&_)=true
  rw [show Zym (.val a (Z3 ks ds).1)=true from k1]
  exact j1
 | .box a ks::rs,ds,rest,h,hf=>by
  rw [Yd,Yc] at hf
  obtain ⟨k1,k2⟩:=Zax ks ds (Z4q rs++rest) (by rw [h];show (ks.map RK.ty++Z4q rs)++rest=_;rw [Yk]) hf.1
  obtain ⟨j1,j2⟩:=Zl1 rs (Z3 ks ds).2 rest k2 hf.2
  refine ⟨?_,j2⟩
  show (Zym (.box a (Z3 ks ds).1)&&_)=true
  rw [show Zym (.box a (Z3 ks ds).1)=true from k1]
  exact j1
theorem Znbb:∀(ts:List Ty) (ms:List PL),(ms.all fun m=>match m with
  | .own _=>false
  | _=>true)=true→Z3i ts ms=[]
 | [],[],_=>rfl
 | [],_::_,_=>rfl
 | t::ts,[],_=>by cases t <;> rfl
 | t::ts,m::ms,h=>by
  rw [Yd,Yc] at h
  have ih:=Znbb ts ms h.2
  cases m with
  | own e=>cases h.1
  | v=>cases t <;> exact ih
  | ro=>cases t <;> exact ih
theorem Z57:∀(ps:List PK) (ds:List DV),ps.all noB=true→Ztg ps ds=[]
 | [],_,_=>rfl
 | p::ps,ds,h=>by
  rw [Yd,Yc] at h
  have e:Zeu p ds=([],ds):=by
   cases p with
   | val a t ms=>
    show Zij (Z3i (Z5 t) ms) ds=_
    rw [Znbb _ _ h.1]
    rfl
   | rptr t=>rfl
   | ref _ _ _=>cases h.1
   | fn _ _=>cases h.1
   | mv _ _=>cases h.1
  show (Zeu p ds).1++Ztg ps (Zeu p ds).2=[]
  rw [e]
  exact Z57 ps ds h.2
end
theorem Zi7 {P:Program} {n:FuncId} {s:Sig} {f:Z7 s.ins→Option (Z7 s.outs)} (h:Zf P n (s.con f)) (hk:s.keptOk=true:=by kernel_rfl):Zf P n (s.conR f):=by
 unfold Sig.keptOk at hk
 rw [Yc] at hk
 refine ⟨h.1,fun asx rr hrr w vs F L M hF hnd hgl hargs=>?_⟩
 have hrr:(s.run f (asx.map Zzz)).val=some rr:=hrr
 have hfl:rr.res.all Zym=true∧rr.refs=[]:=by
  unfold Sig.run at hrr
  split at hrr
  ·split at hrr
   ·rename_i x _
    obtain ⟨y,_,hy⟩:=Option.map_eq_some_iff.1 (show (f x).map s.enc=some rr from hrr)
    rw [← hy]
    exact ⟨(Zl1 s.rs (Zre s.outs y) (Zk0 s.ps) (Zhab _ _) hk.2).1,Z57 s.ps _ hk.1⟩
   ·cases hrr
  ·cases hrr
 refine (h.2 (asx.map Zzz) rr hrr w vs (Bor w (GI.blocks L++Zvb M)) L M (fun b hb=>hb) hnd hgl (Zqg.weak hF hargs)).mono fun e w' ⟨v,he,hK,O1,O2,h1,h2,h3,h4⟩=>?_
 refine ⟨v,he,hK,O1,O2,h1,h2,?_,Zukb hfl.1 h4⟩
 rw [hfl.2] at h3 ⊢
 exact Zqkb h3
end Go.Proofs.Qz
section
namespace Go.Proofs
open Go.Shelf
def Tryz.lays156_ren:Go.Shelf.Ren:=⟨fun | 156=>195 | 165=>223 | 166=>224 | 169=>225 | 240=>236 | 241=>237 | 276=>246 | 277=>247 | n=>n,fun | 31=>22 | 9=>9 | 3=>3 | 4=>4 | 0=>0 | 20=>20 | 72=>242 | 76=>246 | 70=>240 | 37=>184 | 75=>245 | 127=>259 | 164=>267 | 5=>5 | 80=>135 | n=>n,fun | n=>n⟩
theorem Tryz.lays156:Go.Proofs.Lays.n156 Tryz.prog Tryz.lays156_ren:={
 mixed:=by kernel_rfl
 f156:=Tryz.func195.trans (congrArg some (by kernel_rfl))
 f165:=Tryz.func223.trans (congrArg some (by kernel_rfl))
 f166:=Tryz.func224.trans (congrArg some (by kernel_rfl))
 f169:=Tryz.func225.trans (congrArg some (by kernel_rfl))
 f240:=Tryz.func236.trans (congrArg some (by kernel_rfl))
 f241:=Tryz.func237.trans (congrArg some (by kernel_rfl))
 f276:=Tryz.func246.trans (congrArg some (by kernel_rfl))
 f277:=Tryz.func247.trans (congrArg some (by kernel_rfl))
 t0:=Tryz.underlying0
 a0:=Tryz.isAgg0
 z0:=Tryz.sizeOf0
 v0:=Tryz.zeroValue0
 t3:=Tryz.underlying3
 a3:=Tryz.isAgg3
 z3:=Tryz.sizeOf3
 v3:=Tryz.zeroValue3
 t4:=Tryz.underlying4
 a4:=Tryz.isAgg4
 z4:=Tryz.sizeOf4
 v4:=Tryz.zeroValue4
 t9:=Tryz.underlying9
 a9:=Tryz.isAgg9
 z9:=Tryz.sizeOf9
 v9:=Tryz.zeroValue9
 t20:=Tryz.underlying20
 a20:=Tryz.isAgg20
 z20:=Tryz.sizeOf20
 v20:=Tryz.zeroValue20
 t31:=Tryz.underlying22
 a31:=Tryz.isAgg22
 z31:=Tryz.sizeOf22
 v31:=Tryz.zeroValue22
 t37:=Tryz.underlying184
 a37:=Tryz.isAgg184
 z37:=Tryz.sizeOf184
 v37:=Tryz.zeroValue184
 t70:=Tryz.underlying240
 a70:=Tryz.isAgg240
 z70:=Tryz.sizeOf240
 v70:=Tryz.zeroValue240
 t72:=Tryz.underlying242
 a72:=Tryz.isAgg242
 z72:=Tryz.sizeOf242
 v72:=Tryz.zeroValue242
 t75:=Tryz.underlying245
 a75:=Tryz.isAgg245
 z75:=Tryz.sizeOf245
 v75:=Tryz.zeroValue245
 t76:=Tryz.underlying246
 a76:=Tryz.isAgg246
 z76:=Tryz.sizeOf246
 v76:=Tryz.zeroValue246
 t127:=Tryz.underlying259
 a127:=Tryz.isAgg259
 z127:=Tryz.sizeOf259
 v127:=Tryz.zeroValue259
 t164:=Tryz.underlying267
 a164:=Tryz.isAgg267
 z164:=Tryz.sizeOf267
 v164:=Tryz.zeroValue267 }
theorem Tryz.Builder_Extra_156:Builder.Extra Tryz.prog Tryz.lays156_ren:={
 sizeBuilder:=by kernel_rfl
 liesBuilder:=by kernel_rfl
 t5:=Tryz.underlying5
 a5:=Tryz.isAgg5
 z5:=Tryz.sizeOf5
 v5:=Tryz.zeroValue5
 infoByte:=by kernel_rfl
 cellsByte:=by kernel_rfl
 sizeByte:=by kernel_rfl
 neB5:=by decide }
open Go.RowKit in
theorem Tryz.strings_Join_none (a:Option Addr) (c:Nat) (sep:ByteArray) (w:World):
  Calls Tryz.prog 195 #[.slice a 0 c,.string sep] w fun e w'=>e = .returned (.string ⟨#[]⟩)∧w'=w:=Any.strings_Join_none Tryz.lays156 Tryz.Builder_Extra_156 a c sep w
open Go.RowKit in
theorem Tryz.strings_Join (bk o c:Nat) (xs:List ByteArray) (sep:ByteArray) (w:World) (hcells:∀(j:Nat) x,xs[j]? = some x→w.cell? ⟨bk,o+j,none⟩=some (.string x)) (hbk:bk<w.heap.size) (hN:xs.length≤140737488355328) (hcap:xs.length≤c) (hlen:(Lib.join (xs.map (·.data.toList)) sep.data.toList).length≤140737488355328):
  Calls Tryz.prog 195 #[.slice (some ⟨bk,o,none⟩) xs.length c,.string sep] w fun e w'=>e = .returned (.string ⟨(Lib.join (xs.map (·.data.toList)) sep.data.toList).toArray⟩)∧Below w.heap.size w w':=Any.strings_Join Tryz.lays156 Tryz.Builder_Extra_156 bk o c xs sep w hcells hbk hN hcap hlen
def Tryz.lays105_ren:Go.Shelf.Ren:=⟨fun | 105=>220 | 212=>231 | 99=>232 | 165=>223 | 166=>224 | 170=>233 | 169=>225 | 263=>242 | 264=>243 | 206=>244 | 240=>236 | 241=>237 | 276=>246 | 277=>247 | n=>n,fun | 9=>9 | 3=>3 | 4=>4 | 20=>20 | 0=>0 | 46=>216 | 109=>252 | 5=>5 | 72=>242 | 76=>246 | 51=>233 | 146=>263 | 53=>215 | 148=>265 | 70=>240 | 37=>184 | 75=>245 | 127=>259 | 164=>267 | 80=>135 | n=>n,fun | n=>n⟩
theorem Tryz.lays105:Go.Proofs.Lays.n105 Tryz.prog Tryz.lays105_ren:={
 mixed:=by kernel_rfl
 f99:=Tryz.func232.trans (congrArg some (by kernel_rfl))
 f105:=Tryz.func220.trans (congrArg some (by kernel_rfl))
 f165:=Tryz.func223.trans (congrArg some (by kernel_rfl))
 f166:=Tryz.func224.trans (congrArg some (by kernel_rfl))
 f169:=Tryz.func225.trans (congrArg some (by kernel_rfl))
 f170:=Tryz.func233.trans (congrArg some (by kernel_rfl))
 f206:=Tryz.func244.trans (congrArg some (by kernel_rfl))
 f212:=Tryz.func231.trans (congrArg some (by kernel_rfl))
 f240:=Tryz.func236.trans (congrArg some (by kernel_rfl))
 f241:=Tryz.func237.trans (congrArg some (by kernel_rfl))
 f263:=Tryz.func242.trans (congrArg some (by kernel_rfl))
 f264:=Tryz.func243.trans (congrArg some (by kernel_rfl))
 f276:=Tryz.func246.trans (congrArg some (by kernel_rfl))
 f277:=Tryz.func247.trans (congrArg some (by kernel_rfl))
 t0:=Tryz.underlying0
 a0:=Tryz.isAgg0
 z0:=Tryz.sizeOf0
 v0:=Tryz.zeroValue0
 t3:=Tryz.underlying3
 a3:=Tryz.isAgg3
 z3:=Tryz.sizeOf3
 v3:=Tryz.zeroValue3
 t4:=Tryz.underlying4
 a4:=Tryz.isAgg4
 z4:=Tryz.sizeOf4
 v4:=Tryz.zeroValue4
 t5:=Tryz.underlying5
 a5:=Tryz.isAgg5
 z5:=Tryz.sizeOf5
 v5:=Tryz.zeroValue5
 t9:=Tryz.underlying9
 a9:=Tryz.isAgg9
 z9:=Tryz.sizeOf9
 v9:=Tryz.zeroValue9
 t20:=Tryz.underlying20
 a20:=Tryz.isAgg20
 z20:=Tryz.sizeOf20
 v20:=Tryz.zeroValue20
 t37:=Tryz.underlying184
 a37:=Tryz.isAgg184
 z37:=Tryz.sizeOf184
 v37:=Tryz.zeroValue184
 t46:=Tryz.underlying216
 a46:=Tryz.isAgg216
 z46:=Tryz.sizeOf216
 v46:=Tryz.zeroValue216
 t51:=Tryz.underlying233
 a51:=Tryz.isAgg233
 z51:=Tryz.sizeOf233
 v51:=Tryz.zeroValue233
 t53:=Tryz.underlying215
 a53:=Tryz.isAgg215
 z53:=Tryz.sizeOf215
 v53:=Tryz.zeroValue215
 t70:=Tryz.underlying240
 a70:=Tryz.isAgg240
 z70:=Tryz.sizeOf240
 v70:=Tryz.zeroValue240
 t72:=Tryz.underlying242
 a72:=Tryz.isAgg242
 z72:=Tryz.sizeOf242
 v72:=Tryz.zeroValue242
 t75:=Tryz.underlying245
 a75:=Tryz.isAgg245
 z75:=Tryz.sizeOf245
 v75:=Tryz.zeroValue245
 t76:=Tryz.underlying246
 a76:=Tryz.isAgg246
 z76:=Tryz.sizeOf246
 v76:=Tryz.zeroValue246
 t109:=Tryz.underlying252
 a109:=Tryz.isAgg252
 z109:=Tryz.sizeOf252
 v109:=Tryz.zeroValue252
 t127:=Tryz.underlying259
 a127:=Tryz.isAgg259
 z127:=Tryz.sizeOf259
 v127:=Tryz.zeroValue259
 t146:=Tryz.underlying263
 a146:=Tryz.isAgg263
 z146:=Tryz.sizeOf263
 v146:=Tryz.zeroValue263
 t148:=Tryz.underlying265
 a148:=Tryz.isAgg265
 z148:=Tryz.sizeOf265
 v148:=Tryz.zeroValue265
 t164:=Tryz.underlying267
 a164:=Tryz.isAgg267
 z164:=Tryz.sizeOf267
 v164:=Tryz.zeroValue267 }
theorem Tryz.Builder_Extra_105:Builder.Extra Tryz.prog Tryz.lays105_ren:={
 sizeBuilder:=by kernel_rfl
 liesBuilder:=by kernel_rfl
 t5:=Tryz.underlying5
 a5:=Tryz.isAgg5
 z5:=Tryz.sizeOf5
 v5:=Tryz.zeroValue5
 infoByte:=by kernel_rfl
 cellsByte:=by kernel_rfl
 sizeByte:=by kernel_rfl
 neB5:=by decide }
open Go.RowKit Go.Lib in
theorem Tryz.strings_Repeat (s:ByteArray) (c:Nat) (w:World) (hc:c≤9223372036854775807) (hlen:s.size*c≤140737488355328):
  Calls Tryz.prog 220 #[.string s,.int .i64 c] w fun e w'=>e = .returned (.string ⟨(Lib.repeatL s.data.toList c).toArray⟩)∧Below w.heap.size w w':=Any.strings_Repeat Tryz.lays105 Tryz.Builder_Extra_105 s c w hc hlen
def Tryz.laysNm216_ren:Go.Shelf.Ren:=⟨fun | 16=>196 | n=>n,fun | 24=>22 | 9=>9 | 4=>4 | n=>n,fun | n=>n⟩
theorem Tryz.laysNm216:Go.Proofs.Lays2.n16 Tryz.prog Tryz.laysNm216_ren:={
 mixed:=by kernel_rfl
 f16:=Tryz.func196.trans (congrArg some (by kernel_rfl))
 t4:=Tryz.underlying4
 a4:=Tryz.isAgg4
 z4:=Tryz.sizeOf4
 v4:=Tryz.zeroValue4
 t9:=Tryz.underlying9
 a9:=Tryz.isAgg9
 z9:=Tryz.sizeOf9
 v9:=Tryz.zeroValue9
 t24:=Tryz.underlying22
 a24:=Tryz.isAgg22
 z24:=Tryz.sizeOf22
 v24:=Tryz.zeroValue22
 i9:=by kernel_rfl }
open Go.RowKit Go.Lib in
theorem Tryz.slices_Clone_string (b off n c:Nat) (zs:List ByteArray) (w:World) (hz:n≤zs.length) (hbig:n*16≤140737488355328) (hc:∀j,j<zs.length→w.cell? ⟨b,off+j,none⟩=some (.string (zs.getD j ByteArray.empty))):
  Calls Tryz.prog 196 #[.slice (some ⟨b,off,none⟩) n c] w fun e w'=>∃v',e = .returned v'∧w'.ownsRow w.heap.size 9 1 v' n ((zs.take n).map (Value.string))∧v'≠.slice none 0 0∧Below w.heap.size w w':=Any.slices_Clone_string Tryz.laysNm216 b off n c zs w hz hbig hc
def Tryz.laysNm223_ren:Go.Shelf.Ren:=⟨fun | 23=>141 | n=>n,fun | 22=>171 | 3=>3 | 4=>4 | 0=>0 | n=>n,fun | n=>n⟩
theorem Tryz.laysNm223:Go.Proofs.Lays2.n23 Tryz.prog Tryz.laysNm223_ren:={
 mixed:=by kernel_rfl
 f23:=Tryz.func141.trans (congrArg some (by kernel_rfl))
 t0:=Tryz.underlying0
 a0:=Tryz.isAgg0
 z0:=Tryz.sizeOf0
 v0:=Tryz.zeroValue0
 t3:=Tryz.underlying3
 a3:=Tryz.isAgg3
 z3:=Tryz.sizeOf3
 v3:=Tryz.zeroValue3
 t4:=Tryz.underlying4
 a4:=Tryz.isAgg4
 z4:=Tryz.sizeOf4
 v4:=Tryz.zeroValue4
 t22:=Tryz.underlying171
 a22:=Tryz.isAgg171
 z22:=Tryz.sizeOf171
 v22:=Tryz.zeroValue171
 i3:=by kernel_rfl }
open Go.RowKit Go.Lib Go.Sort in
theorem Tryz.slices_Delete_int (blk off cap i j:Nat) (zs:List Int) (w:World) (hH:Holds (Value.int .i64) w blk off zs.toArray) (hcap:zs.length≤cap) (hm:cap≤9223372036854775807) (hij:i≤j) (hj:j≤zs.length):
  Calls Tryz.prog 141 #[.slice (some ⟨blk,off,none⟩) zs.length cap,.int .i64 i,.int .i64 j] w fun e w'=>e = .returned (.slice (some ⟨blk,off,none⟩) (zs.length-(j-i)) cap)∧∃q,w'=putRow (Value.int .i64) (Sort.ahead w q) blk off (zs.take i++zs.drop j++Yn (j-i) 0).toArray:=Any.slices_Delete_int Tryz.laysNm223 blk off cap i j zs w hH hcap hm hij hj
open Go.RowKit Go.Lib Go.Sort in
theorem Tryz.slices_Delete_int_cells (b off n c i j:Nat) (zs:List Int) (w:World) (hz:n≤zs.length) (hcap:n≤c) (hm:c≤9223372036854775807) (hij:i≤j) (hj:j≤n) (hc:∀j,j<zs.length→w.cell? ⟨b,off+j,none⟩=some (.int .i64 (zs.getD j 0))) (hf:∀j,j<n→w.frozen? ⟨b,off+j,none⟩=false):
  Calls Tryz.prog 141 #[.slice (some ⟨b,off,none⟩) n c,.int .i64 i,.int .i64 j] w fun e w'=>e = .returned (.slice (some ⟨b,off,none⟩) (n-(j-i)) c)∧∃q,w'=(w.drewN q).setCells b off (((zs.take n).take i++(zs.take n).drop j++Yn (j-i) 0).map (Value.int .i64)):=Any.slices_Delete_int_cells Tryz.laysNm223 b off n c i j zs w hz hcap hm hij hj hc hf
open Go.RowKit Go.Lib in
theorem Tryz.slices_Delete_int_empty (a:Option Addr) (c:Nat) (w:World):
  Calls Tryz.prog 141 #[.slice a 0 c,.int .i64 0,.int .i64 0] w fun e w'=>e = .returned (.slice a 0 c)∧w'=w:=Any.slices_Delete_int_empty Tryz.laysNm223 a c w
end Go.Proofs
end
namespace Go.Proofs.Qz
open Go Go.RowKit
set_option linter.unusedVariables false
set_option linter.defProp false
abbrev Z2:Ty:=(.pair (.int .i64) .str)
abbrev Zjb:=Int×Str
abbrev Zwh:Ty:=(.pair (.int .i64) (.int .i64))
abbrev Z2j:=Int×Int
abbrev T141:Ty:=(.pair (.sl .str) (.int .i64))
abbrev T92:Ty:=(.pair (.sl (.int .i64)) (.int .i64))
abbrev G92:=List Int×Int
abbrev T89:Ty:=(.pair .bool Z2)
abbrev G89:=Bool×Zjb
abbrev Z3j:Ty:=(.pair .str (.pair (.int .i64) .bool))
abbrev Zot:=Str×Int×Bool
abbrev T77:Ty:=(.pair (.int .i64) (.pair .str (.int .i64)))
abbrev T186:Ty:=(.pair .str Zwh)
abbrev Zy5:Ty:=(.pair (.int .i64) Zwh)
abbrev G189:=Int×Z2j
abbrev T25:Ty:=(.pair (.sl .str) (.sl Z2))
abbrev G25:=List Str×List Zjb
abbrev T29:Ty:=(.pair (.int .i64) (.pair (.int .i64) Z2))
abbrev G29:=Int×Int×Zjb
abbrev Z2b:Ty:=(.pair (.int .i64) Zy5)
abbrev Z7c:=Int×G189
abbrev T27:Ty:=(.pair (.int .i64) T25)
abbrev G27:=Int×G25
abbrev T218:Ty:=(.pair T29 (.int .i64))
abbrev T145:Ty:=(.pair (.sl Z2b) (.int .i64))
abbrev T37:Ty:=(.pair (.sl T89) (.pair .str T92))
abbrev G37:=List G89×Str×G92
abbrev T31:Ty:=(.pair (.int .i64) (.pair (.int .i64) (.pair (.int .i64) (.pair .str T29))))
abbrev G31:=Int×Int×Int×Str×G29
abbrev T59:Ty:=(.pair (.int .i64) (.pair (.int .i64) (.pair (.int .i64) (.pair (.int .i64) (.pair (.int .i64) (.pair .str (.pair (.sl (.int .i64)) (.sl (.int .i64)))))))))
abbrev G59:=Int×Int×Int×Int×Int×Str×List Int×List Int
abbrev T83:Ty:=(.pair T59 (.int .i64))
def TAB:Tab TI:=(.node (.node (.node (.node (.node (.node .nil (some { sz:=8,agg:=true,offs:=[(0,2),(1,2),(2,2),(3,9),(4,29)],elem:=0,kind:=4,ik:=.i64,bytes:=80,zero:=[.int .i64 0,.int .i64 0,.int .i64 0,.str [],.int .i64 0,.int .i64 0,.int .i64 0,.str []],ty:=T31,eqs:=true }) .nil) none (.node .nil (some { sz:=8,agg:=true,offs:=[(0,2),(1,2),(2,2),(3,9),(4,45)],elem:=0,kind:=4,ik:=.i64,bytes:=80,zero:=[.int .i64 0,.int .i64 0,.int .i64 0,.str [],.int .i64 0,.int .i64 0,.int .i64 0,.str []],ty:=T31,eqs:=true }) .nil)) none (.node (.node .nil (some { sz:=1,agg:=false,offs:=[],elem:=130,kind:=3,ik:=.i64,bytes:=24,zero:=[.nil],ty:=(.sl Z2),eqs:=false }) (.node .nil (some { sz:=1,agg:=false,offs:=[],elem:=107,kind:=3,ik:=.i64,bytes:=24,zero:=[.nil],ty:=(.sl Z2b),eqs:=false }) .nil)) (some { sz:=1,agg:=false,offs:=[],elem:=125,kind:=3,ik:=.i64,bytes:=24,zero:=[.nil],ty:=(.sl Z2),eqs:=false }) (.node (.node .nil none (.node .nil (some { sz:=1,agg:=false,offs:=[],elem:=0,kind:=1,ik:=.u64,bytes:=8,zero:=[.int .u64 0],ty:=(.int .u64),eqs:=false }) .nil)) none .nil))) (some { sz:=1,agg:=false,offs:=[],elem:=0,kind:=1,ik:=.i64,bytes:=8,zero:=[.int .i64 0],ty:=(.int .i64),eqs:=false }) (.node (.node (.node .nil (some { sz:=1,agg:=false,offs:=[],elem:=2,kind:=3,ik:=.i64,bytes:=24,zero:=[.nil],ty:=(.sl (.int .i64)),eqs:=false }) .nil) none (.node (.node .nil (some { sz:=9,agg:=true,offs:=[(0,59),(8,2)],elem:=0,kind:=4,ik:=.i64,bytes:=112,zero:=[.int .i64 0,.int .i64 0,.int .i64 0,.int .i64 0,.int .i64 0,.str [],.nil,.nil,.int .i64 0],ty:=T83,eqs:=false }) .nil) none .nil)) none (.node (.node (.node .nil none (.node .nil (some { sz:=3,agg:=true,offs:=[(0,9),(1,2),(2,4)],elem:=0,kind:=4,ik:=.i64,bytes:=32,zero:=[.str [],.int .i64 0,.kb false],ty:=Z3j,eqs:=true }) .nil)) (some { sz:=3,agg:=true,offs:=[(0,2),(1,41)],elem:=0,kind:=4,ik:=.i64,bytes:=56,zero:=[.int .i64 0,.nil,.nil],ty:=T27,eqs:=false }) (.node (.node .nil (some { sz:=1,agg:=false,offs:=[],elem:=3,kind:=3,ik:=.i64,bytes:=24,zero:=[.nil],ty:=(.sl (.int .i64)),eqs:=false }) .nil) (some { sz:=4,agg:=true,offs:=[(0,2),(1,2),(2,2),(3,2)],elem:=0,kind:=4,ik:=.i64,bytes:=32,zero:=[.int .i64 0,.int .i64 0,.int .i64 0,.int .i64 0],ty:=Z2b,eqs:=true }) (.node .nil (some { sz:=8,agg:=true,offs:=[(8,0)],elem:=233,kind:=7,ik:=.i64,bytes:=32,zero:=[.int .u32 0,.int .u32 0,.int .u32 0,.int .u32 0,.int .u32 0,.int .u32 0,.int .u32 0,.int .u32 0],ty:=.unit,eqs:=false }) .nil))) (some { sz:=3,agg:=true,offs:=[(0,2),(1,25)],elem:=0,kind:=4,ik:=.i64,bytes:=56,zero:=[.int .i64 0,.nil,.nil],ty:=T27,eqs:=false }) (.node .nil (some { sz:=8,agg:=true,offs:=[(0,2),(1,2),(2,2),(3,2),(4,2),(5,9),(6,35),(7,35)],elem:=0,kind:=4,ik:=.i64,bytes:=104,zero:=[.int .i64 0,.int .i64 0,.int .i64 0,.int .i64 0,.int .i64 0,.str [],.nil,.nil],ty:=T59,eqs:=false }) .nil)))) none (.node (.node (.node .nil none (.node (.node (.node .nil (some { sz:=2,agg:=true,offs:=[(0,103),(1,2)],elem:=0,kind:=4,ik:=.i64,bytes:=32,zero:=[.nil,.int .i64 0],ty:=T145,eqs:=false }) .nil) none .nil) none .nil)) (some { sz:=1,agg:=false,offs:=[],elem:=0,kind:=2,ik:=.i64,bytes:=16,zero:=[.str []],ty:=.str,eqs:=false }) (.node (.node .nil (some { sz:=2,agg:=true,offs:=[(0,22),(1,39)],elem:=0,kind:=4,ik:=.i64,bytes:=48,zero:=[.nil,.nil],ty:=T25,eqs:=false }) (.node .nil none (.node .nil (some { sz:=1,agg:=false,offs:=[],elem:=0,kind:=1,ik:=.u32,bytes:=4,zero:=[.int .u32 0],ty:=(.int .u32),eqs:=false }) .nil))) (some { sz:=2,agg:=true,offs:=[(0,22),(1,23)],elem:=0,kind:=4,ik:=.i64,bytes:=48,zero:=[.nil,.nil],ty:=T25,eqs:=false }) (.node (.node (.node .nil (some { sz:=1,agg:=false,offs:=[],elem:=156,kind:=3,ik:=.i64,bytes:=24,zero:=[.nil],ty:=(.sl Zwh),eqs:=false }) .nil) (some { sz:=3,agg:=true,offs:=[(0,4),(1,2),(2,9)],elem:=0,kind:=4,ik:=.i64,bytes:=32,zero:=[.kb false,.int .i64 0,.str []],ty:=T89,eqs:=true }) .nil) none .nil))) (some { sz:=1,agg:=false,offs:=[],elem:=0,kind:=1,ik:=.u8,bytes:=1,zero:=[.int .u8 0],ty:=(.int .u8),eqs:=false }) (.node (.node (.node (.node (.node .nil (some { sz:=3,agg:=true,offs:=[(0,9),(1,2),(2,4)],elem:=0,kind:=4,ik:=.i64,bytes:=32,zero:=[.str [],.int .i64 0,.kb false],ty:=Z3j,eqs:=true }) .nil) none .nil) (some { sz:=4,agg:=true,offs:=[(0,34),(1,9),(2,35),(3,2)],elem:=0,kind:=4,ik:=.i64,bytes:=72,zero:=[.nil,.str [],.nil,.int .i64 0],ty:=T37,eqs:=false }) .nil) none .nil) none (.node (.node (.node (.node .nil (some { sz:=2,agg:=true,offs:=[(0,22),(1,2)],elem:=0,kind:=4,ik:=.i64,bytes:=32,zero:=[.nil,.int .i64 0],ty:=T141,eqs:=false }) .nil) (some { sz:=3,agg:=true,offs:=[(0,2),(1,9),(2,2)],elem:=0,kind:=4,ik:=.i64,bytes:=32,zero:=[.int .i64 0,.str [],.int .i64 0],ty:=T77,eqs:=true }) .nil) (some { sz:=4,agg:=true,offs:=[(0,2),(1,2),(2,2),(3,9)],elem:=0,kind:=4,ik:=.i64,bytes:=40,zero:=[.int .i64 0,.int .i64 0,.int .i64 0,.str []],ty:=T29,eqs:=true }) .nil) (some { sz:=4,agg:=true,offs:=[(0,2),(1,2),(2,2),(3,9)],elem:=0,kind:=4,ik:=.i64,bytes:=40,zero:=[.int .i64 0,.int .i64 0,.int .i64 0,.str []],ty:=T29,eqs:=true }) (.node .nil none (.node (.node .nil (some { sz:=3,agg:=true,offs:=[(0,2),(1,2),(2,2)],elem:=0,kind:=4,ik:=.i64,bytes:=24,zero:=[.int .i64 0,.int .i64 0,.int .i64 0],ty:=Zy5,eqs:=true }) .nil) (some { sz:=2,agg:=true,offs:=[(0,2),(1,9)],elem:=0,kind:=4,ik:=.i64,bytes:=24,zero:=[.int .i64 0,.str []],ty:=Z2,eqs:=true }) .nil)))))) none (.node (.node (.node (.node (.node (.node (.node (.node .nil (some { sz:=64,agg:=true,offs:=[(64,0)],elem:=233,kind:=7,ik:=.i64,bytes:=256,zero:=[.int .u32 0,.int .u32 0,.int .u32 0,.int .u32 0,.int .u32 0,.int .u32 0,.int .u32 0,.int .u32 0,.int .u32 0,.int .u32 0,.int .u32 0,.int .u32 0,.int .u32 0,.int .u32 0,.int .u32 0,.int .u32 0,.int .u32 0,.int .u32 0,.int .u32 0,.int .u32 0,.int .u32 0,.int .u32 0,.int .u32 0,.int .u32 0,.int .u32 0,.int .u32 0,.int .u32 0,.int .u32 0,.int .u32 0,.int .u32 0,.int .u32 0,.int .u32 0,.int .u32 0,.int .u32 0,.int .u32 0,.int .u32 0,.int .u32 0,.int .u32 0,.int .u32 0,.int .u32 0,.int .u32 0,.int .u32 0,.int .u32 0,.int .u32 0,.int .u32 0,.int .u32 0,.int .u32 0,.int .u32 0,.int .u32 0,.int .u32 0,.int .u32 0,.int .u32 0,.int .u32 0,.int .u32 0,.int .u32 0,.int .u32 0,.int .u32 0,.int .u32 0,.int .u32 0,.int .u32 0,.int .u32 0,.int .u32 0,.int .u32 0,.int .u32 0],ty:=.unit,eqs:=false }) .nil) none .nil) none .nil) none .nil) none .nil) none (.node .nil none (.node (.node .nil none (.node .nil (some { sz:=1,agg:=false,offs:=[],elem:=0,kind:=1,ik:=.u64,bytes:=8,zero:=[.int .u64 0],ty:=(.int .u64),eqs:=false }) .nil)) none (.node (.node .nil (some { sz:=1,agg:=false,offs:=[],elem:=5,kind:=3,ik:=.i64,bytes:=24,zero:=[.nil],ty:=(.sl (.int .u8)),eqs:=false }) .nil) none .nil)))) (some { sz:=1,agg:=false,offs:=[],elem:=0,kind:=5,ik:=.i64,bytes:=1,zero:=[.kb false],ty:=.bool,eqs:=false }) (.node (.node (.node (.node (.node (.node .nil (some { sz:=1,agg:=false,offs:=[],elem:=233,kind:=3,ik:=.i64,bytes:=24,zero:=[.nil],ty:=(.sl (.int .u32)),eqs:=false }) .nil) none .nil) none .nil) none (.node .nil (some { sz:=1,agg:=false,offs:=[],elem:=45,kind:=3,ik:=.i64,bytes:=24,zero:=[.nil],ty:=(.sl T29),eqs:=false }) .nil)) none .nil) none (.node (.node .nil none (.node (.node .nil (some { sz:=1,agg:=false,offs:=[],elem:=1000172,kind:=6,ik:=.i64,bytes:=8,zero:=[.unk],ty:=(.sl (.int .i64)),eqs:=false }) .nil) none .nil)) none (.node (.node (.node .nil (some { sz:=2,agg:=true,offs:=[(0,2),(1,2)],elem:=0,kind:=4,ik:=.i64,bytes:=16,zero:=[.int .i64 0,.int .i64 0],ty:=Zwh,eqs:=true }) .nil) (some { sz:=2,agg:=true,offs:=[(0,35),(1,2)],elem:=0,kind:=4,ik:=.i64,bytes:=32,zero:=[.nil,.int .i64 0],ty:=T92,eqs:=false }) .nil) none .nil)))) (some { sz:=1,agg:=false,offs:=[],elem:=0,kind:=1,ik:=.i64,bytes:=8,zero:=[.int .i64 0],ty:=(.int .i64),eqs:=false }) (.node (.node (.node (.node (.node (.node .nil (some { sz:=2,agg:=true,offs:=[(0,2),(1,9)],elem:=0,kind:=4,ik:=.i64,bytes:=24,zero:=[.int .i64 0,.str []],ty:=Z2,eqs:=true }) .nil) none .nil) (some { sz:=1,agg:=false,offs:=[],elem:=89,kind:=3,ik:=.i64,bytes:=24,zero:=[.nil],ty:=(.sl T89),eqs:=false }) .nil) none .nil) none (.node .nil none (.node (.node .nil none (.node .nil (some { sz:=5,agg:=true,offs:=[(0,45),(4,2)],elem:=0,kind:=4,ik:=.i64,bytes:=48,zero:=[.int .i64 0,.int .i64 0,.int .i64 0,.str [],.int .i64 0],ty:=T218,eqs:=true }) .nil)) none (.node (.node .nil (some { sz:=3,agg:=true,offs:=[(0,9),(1,2),(2,2)],elem:=0,kind:=4,ik:=.i64,bytes:=32,zero:=[.str [],.int .i64 0,.int .i64 0],ty:=T186,eqs:=true }) .nil) none .nil)))) none (.node (.node .nil (some { sz:=1,agg:=false,offs:=[],elem:=9,kind:=3,ik:=.i64,bytes:=24,zero:=[.nil],ty:=(.sl .str),eqs:=false }) .nil) none (.node .nil none (.node (.node .nil none (.node .nil (some { sz:=1,agg:=false,offs:=[],elem:=4,kind:=3,ik:=.i64,bytes:=24,zero:=[.nil],ty:=(.sl .bool),eqs:=false }) .nil)) none .nil))))))
theorem Zut:Zhb Tryz.prog TAB∧Tryz.prog.follows .mixedOrders=true:=⟨Zgnb (by kernel_rfl),by kernel_rfl⟩
theorem cX {L:List (Nat×Con)} (h:Zpn Tryz.prog L):CtxOk Tryz.prog { ti:=TAB,con:=Zol L }:=Zau Zut h
theorem cXr (r t:Bool) {L:List (Nat×Con)} (h:Zpn Tryz.prog L):CtxOk Tryz.prog { ti:=TAB,con:=Zol L,rob:=r,tl:=t }:=Zau Zut h
end Go.Proofs.Qz
namespace Go.Proofs.Qz
open Go Go.RowKit
set_option linter.unusedVariables false
set_option linter.defProp false
def Z5e.l0:Nat→List Str→Int→Int→Option (Int ⊕ Int)
 | 0,_,_,_=>none
 | j+1,a1,a2,a3=>
  bif decide (a3<((a1.length):Int)) then
   Ya (at? a1 a3) fun v4=>
   let e5:=Yb .i64 (a2-((v4.length):Int))
   bif decide (e5<0) then
    some (.inr (-1))
   else
   Z5e.l0 j a1 e5 (Yb .i64 (a3+1))
  else
  some (.inl a2)
def Z5e (k:Nat) (a1:List Str) (a2:Int):Option (Int):=
 let e3:=Yb .i64 (a2-((a1.length):Int))
 bif decide (e3<0) then
  some (-1)
 else
 Ya (Z5e.l0 k a1 e3 0) fun
  | .inl y4=>
   some y4
  | .inr y5=>
   some y5
def Z5e.con (k:Nat):Con:=Sig.con { ps:=[.val false (.sl .str) (ros (.sl .str)),.val false (.int .i64) (ros (.int .i64))],rs:=[.val false [.v (.int .i64)]],ntmps:=28 } (fun x=>Z5e k x.1 x.2)
def Z5e.cok (k:Nat):=cX cN
def Z5e.l0.s (k:Nat):Summ:=lp 28 { tmps:=[(0,.one (.bor .str)),(1,.one (.v (.int .i64))),(5,.one (.v (.int .i64)))],slots:=[],nb:=0 } [(.exit 0,{ tmps:=[(1,.one (.v (.int .i64)))],slots:=[],nb:=0 }),(.ret,{ tmps:=[(4,.one (.v (.int .i64)))],slots:=[],nb:=0 })] (fun j x=>Z5e.l0 j x.1 x.2.1 x.2.2) k
def Z5e.l0.ok (k:Nat):=(lA (Z5e.cok k):Zj Tryz.prog _ (.loop (cO (cO (cR (cL (cR (cR (cR (cB Tryz.f34))))))))) (Z5e.l0.s k))
theorem Z5e.ok (k:Nat):Zf Tryz.prog 34 (Z5e.con k):=fP (.two .auto (.two .auto (.two .auto (.two (.two .auto (.one (.sum (Z5e.l0.s k)))) .auto)))) (Z5e.cok k) Tryz.func34 (sC (Z5e.l0.ok k) sN)
def Z3o (a1:Zjb) (a2:Int):Option (Int):=
 let e3:=Yb .i64 (a2-((a1.2.length):Int))
 bif decide (e3<0) then
  some (-1)
 else
 some e3
def Z3o.con (k:Nat):Con:=Sig.con { ps:=[.val true Z2 (ros Z2),.val false (.int .i64) (ros (.int .i64))],rs:=[.val false [.v (.int .i64)]],ntmps:=13 } (fun x=>Z3o x.1 x.2)
theorem Z3o.ok (k:Nat):Zf Tryz.prog 90 (Z3o.con k):=fA (cX cN) Tryz.func90
def Z4e.l0:Nat→List Zjb→Int→Int→Option (Int ⊕ Int)
 | 0,_,_,_=>none
 | j+1,a1,a2,a3=>
  bif decide (a3<((a1.length):Int)) then
   Ya (at? a1 a3) fun v4=>
   Ya (Z3o v4 a2) fun v5=>
   bif decide (v5<0) then
    some (.inr (-1))
   else
   Z4e.l0 j a1 v5 (Yb .i64 (a3+1))
  else
  some (.inl a2)
def Z4e (k:Nat) (a1:List Zjb) (a2:Int):Option (Int):=
 let e3:=Yb .i64 (a2-((a1.length):Int))
 bif decide (e3<0) then
  some (-1)
 else
 Ya (Z4e.l0 k a1 e3 0) fun
  | .inl y4=>
   some y4
  | .inr y5=>
   some y5
def Z4e.con (k:Nat):Con:=Sig.con { ps:=[.val false (.sl Z2) (ros (.sl Z2)),.val false (.int .i64) (ros (.int .i64))],rs:=[.val false [.v (.int .i64)]],ntmps:=27 } (fun x=>Z4e k x.1 x.2)
def Z4e.cok (k:Nat):=cX (cC (Z3o.ok k) cN)
def Z4e.l0.s (k:Nat):Summ:=lp 27 { tmps:=[(0,.one (.bor Z2)),(1,.one (.v (.int .i64))),(5,.one (.v (.int .i64)))],slots:=[],nb:=0 } [(.exit 0,{ tmps:=[(1,.one (.v (.int .i64)))],slots:=[],nb:=0 }),(.ret,{ tmps:=[(4,.one (.v (.int .i64)))],slots:=[],nb:=0 })] (fun j x=>Z4e.l0 j x.1 x.2.1 x.2.2) k
def Z4e.l0.ok (k:Nat):=(lA (Z4e.cok k):Zj Tryz.prog _ (.loop (cO (cO (cR (cL (cR (cR (cR (cB Tryz.f35))))))))) (Z4e.l0.s k))
theorem Z4e.ok (k:Nat):Zf Tryz.prog 35 (Z4e.con k):=fP (.two .auto (.two .auto (.two .auto (.two (.two .auto (.one (.sum (Z4e.l0.s k)))) .auto)))) (Z4e.cok k) Tryz.func35 (sC (Z4e.l0.ok k) sN)
def Z4o (k:Nat) (a1:G25) (a2:Int):Option (Int):=
 Ya (Z5e k a1.1 a2) fun v3=>
 bif decide (v3<0) then
  some (-1)
 else
 Ya (Z4e k a1.2 v3) fun v4=>
 bif decide (v4<0) then
  some (-1)
 else
 some v4
def Z4o.con (k:Nat):Con:=Sig.con { ps:=[.val true T25 (ros T25),.val false (.int .i64) (ros (.int .i64))],rs:=[.val false [.v (.int .i64)]],ntmps:=18 } (fun x=>Z4o k x.1 x.2)
theorem Z4o.ok (k:Nat):Zf Tryz.prog 15 (Z4o.con k):=fA (cXr true false (cC (Z5e.ok k) (cC (Z4e.ok k) cN))) Tryz.func15
def Z5o (k:Nat) (a1:G27) (a2:Int):Option (Int):=
 Ya (Z4o k a1.2 a2) fun v3=>
 bif decide (v3<0) then
  some (-1)
 else
 some v3
def Z5o.con (k:Nat):Con:=Sig.con { ps:=[.val true T27 (ros T27),.val false (.int .i64) (ros (.int .i64))],rs:=[.val false [.v (.int .i64)]],ntmps:=12 } (fun x=>Z5o k x.1 x.2)
theorem Z5o.ok (k:Nat):Zf Tryz.prog 4 (Z5o.con k):=fA (cXr true false (cC (Z4o.ok k) cN)) Tryz.func4
def Zyq (a1:G29) (a2:Int):Option (Int):=
 let e3:=Yb .i64 (a2-((a1.2.2.2.length):Int))
 bif decide (e3<0) then
  some (-1)
 else
 some e3
def Zyq.con (k:Nat):Con:=Sig.con { ps:=[.val true T29 (ros T29),.val false (.int .i64) (ros (.int .i64))],rs:=[.val false [.v (.int .i64)]],ntmps:=13 } (fun x=>Zyq x.1 x.2)
theorem Zyq.ok (k:Nat):Zf Tryz.prog 16 (Zyq.con k):=fA (cX cN) Tryz.func16
def Z2o (a1:G31) (a2:Int):Option (Int):=
 let e3:=Yb .i64 (a2-((a1.2.2.2.1.length):Int))
 bif decide (e3<0) then
  some (-1)
 else
 Ya (Zyq a1.2.2.2.2 e3) fun v4=>
 bif decide (v4<0) then
  some (-1)
 else
 some v4
def Z2o.con (k:Nat):Con:=Sig.con { ps:=[.val true T31 (ros T31),.val false (.int .i64) (ros (.int .i64))],rs:=[.val false [.v (.int .i64)]],ntmps:=19 } (fun x=>Z2o x.1 x.2)
theorem Z2o.ok (k:Nat):Zf Tryz.prog 5 (Z2o.con k):=fA (cX (cC (Zyq.ok k) cN)) Tryz.func5
def Zgm (a1:Int):Option (Str):=
 Ya (Zsb 8) fun v2=>
 Ya (Zsb 16) fun v3=>
 Ya (Zsb 24) fun v4=>
 some (Zlb [(Yb .u8 a1),(Yb .u8 (shr .i64 a1 8)),(Yb .u8 (shr .i64 a1 16)),(Yb .u8 (shr .i64 a1 24))])
def Zgm.con (k:Nat):Con:=Sig.con { ps:=[.val false (.int .i64) (ros (.int .i64))],rs:=[.val false [.v .str]],ntmps:=16 } (fun x=>Zgm x)
theorem Zgm.ok (k:Nat):Zf Tryz.prog 203 (Zgm.con k):=fA (cX cN) Tryz.func203
def Z6b.l0:Nat→Int→Int→Option (Int)
 | 0,_,_=>none
 | j+1,a1,a2=>
  bif decide (a2<8) then
   let e3:=Yb .i64 (a2+1)
   bif (intBits .and .u32 a1 1)==1 then
    Ya (Zsb 1) fun v4=>
    Z6b.l0 j (intBits .xor .u32 (shr .u32 a1 1) 3988292384) e3
   else
   Ya (Zsb 1) fun v5=>
   Z6b.l0 j (shr .u32 a1 1) e3
  else
  some a1
def Z6b.l1 (k:Nat):Nat→Str→Int→Int→Option (Int)
 | 0,_,_,_=>none
 | j+1,a1,a2,a3=>
  bif decide (a3<((a1.length):Int)) then
   Ya (at? a1 a3) fun v4=>
   Ya (Z6b.l0 k (intBits .xor .u32 a2 (Yb .u32 (v4.toNat:Int))) 0) fun y5=>
   Z6b.l1 k j a1 y5 (Yb .i64 (a3+1))
  else
  some a2
def Z6b (k:Nat) (a1:Int) (a2:Str):Option (Int):=
 Ya (Z6b.l1 k k a2 (intBits .xor .u32 (Yb .u32 a1) 4294967295) 0) fun y3=>
 some (Yb .i64 (intBits .xor .u32 y3 4294967295))
def Z6b.con (k:Nat):Con:=Sig.con { ps:=[.val false (.int .i64) (ros (.int .i64)),.val false .str (ros .str)],rs:=[.val false [.v (.int .i64)]],ntmps:=38 } (fun x=>Z6b k x.1 x.2)
def Z6b.cok (k:Nat):=cX cN
def Z6b.l0.s (k:Nat):Summ:=lp 38 { tmps:=[(5,.one (.v (.int .u32))),(7,.one (.v (.int .i64)))],slots:=[],nb:=0 } [(.exit 2,{ tmps:=[(5,.one (.v (.int .u32)))],slots:=[],nb:=0 })] (fun j x=>Z6b.l0 j x.1 x.2) k
def Z6b.l0.ok (k:Nat):=(lA (Z6b.cok k):Zj Tryz.prog _ (.loop (cO (cO (cR (cR (cO (cL (cR (cO (cO (cR (cL (cR (cR (cB Tryz.f204))))))))))))))) (Z6b.l0.s k))
def Z6b.l1.s (k:Nat):Summ:=lp 38 { tmps:=[(1,.one (.v .str)),(5,.one (.v (.int .u32))),(6,.one (.v (.int .i64)))],slots:=[],nb:=0 } [(.exit 0,{ tmps:=[(5,.one (.v (.int .u32)))],slots:=[],nb:=0 })] (fun j x=>Z6b.l1 k j x.1 x.2.1 x.2.2) k
def Z6b.l1.ok (k:Nat):=(lP (.two .auto (.two (.one (.two .auto (.two .auto (.one (.sum (Z6b.l0.s k)))))) .auto)) (Z6b.cok k) (sC (Z6b.l0.ok k) sN):Zj Tryz.prog _ (.loop (cO (cO (cR (cL (cR (cR (cB Tryz.f204)))))))) (Z6b.l1.s k))
theorem Z6b.ok (k:Nat):Zf Tryz.prog 204 (Z6b.con k):=fP (.two .auto (.two .auto (.two (.two .auto (.one (.sum (Z6b.l1.s k)))) .auto))) (Z6b.cok k) Tryz.func204 (sC (Z6b.l1.ok k) sN)
def Zkk (k:Nat) (a1:Str):Option (Str×Int×Int):=
 bif decide (8000<((a1.length):Int)) then
  some ([],0,2)
 else
 bif decide (((a1.length):Int)<4) then
  some ([],0,4)
 else
 let e2:=Yb .i64 (((a1.length):Int)-4)
 Ya (Z8b a1 0 e2) fun v3=>
 Ya (Z6b k 0 v3) fun v4=>
 Ya (Zgm v4) fun v5=>
 Ya (Z8b a1 e2 ((a1.length):Int)) fun v6=>
 bif !(v5==v6) then
  some ([],0,5)
 else
 some (v3,0,0)
def Zkk.con (k:Nat):Con:=Sig.con { ps:=[.val false .str (ros .str)],rs:=[.val true [.v .str,.v (.int .i64),.v (.int .i64)]],ntmps:=29 } (fun x=>Zkk k x)
theorem Zkk.ok (k:Nat):Zf Tryz.prog 160 (Zkk.con k):=fA (cX (cC (Zgm.ok k) (cC (Z6b.ok k) cN))) Tryz.func160
def Zfd.l0:Nat→Str→Int→Int→Int→Int→Int→Int→Option ((Int×Int×Int) ⊕ (Int×Int×Int))
 | 0,_,_,_,_,_,_,_=>none
 | j+1,a1,a2,a3,a4,a5,a6,a7=>
  bif decide (a4<10) then
   bif decide ((Yb .i64 (((a1.length):Int)-a4))≤a2) then
    some (.inr (0,0,4))
   else
   let e8:=Yb .i64 (a2+a4)
   Ya (at? a1 e8) fun v9=>
   bif (a4==9)&&(decide (1<(Yb .u64 (v9.toNat:Int)))) then
    some (.inr (0,0,3))
   else
   Ya (nz? 128) fun v10=>
   let e11:=Yb .u64 (Yb .i64 (7*a4))
   Ya (Zsb e11) fun v12=>
   let e13:=Yb .u64 (a3+(shl .u64 (Yf (Yb .u64 (v9.toNat:Int)) 128) e11))
   bif decide ((Yb .u64 (v9.toNat:Int))<128) then
    bif ((Yb .u64 (v9.toNat:Int))==0)&&(decide (0<a4)) then
     some (.inr (0,0,3))
    else
    Ya (nz? 2) fun v14=>
    Ya (nz? 2) fun v15=>
    let e16:=Yb .i64 (e8+1)
    let e17:=Yb .i64 (Yb .u64 (Int.tdiv e13 2))
    bif (Yf e13 2)==1 then
     some (.inr (Yb .i64 ((Yb .i64 (0-e17))-1),e16,0))
    else
    some (.inr (e17,e16,0))
   else
   Zfd.l0 j a1 a2 e13 (Yb .i64 (a4+1)) a5 a6 a7
  else
  some (.inl (a5,a6,a7))
def Zfd (k:Nat) (a1:Str) (a2:Int):Option (Int×Int×Int):=
 bif decide (8000<((a1.length):Int)) then
  some (0,0,2)
 else
 bif decide (a2<0) then
  some (0,0,1)
 else
 Ya (Zfd.l0 k a1 a2 0 0 0 0 0) fun
  | .inl y3=>
   some (0,0,3)
  | .inr y4=>
   some (y4.1,y4.2.1,y4.2.2)
def Zfd.con (k:Nat):Con:=Sig.con { ps:=[.val false .str (ros .str),.val false (.int .i64) (ros (.int .i64))],rs:=[.val true [.v (.int .i64),.v (.int .i64),.v (.int .i64)]],ntmps:=73 } (fun x=>Zfd k x.1 x.2)
def Zfd.cok (k:Nat):=cX cN
def Zfd.l0.s (k:Nat):Summ:=lp 73 { tmps:=[(0,.one (.v .str)),(1,.one (.v (.int .i64))),(4,.one (.ptr 0 0)),(5,.one (.v (.int .u64))),(6,.one (.v (.int .i64)))],slots:=[(0,.box 189 [.v (.int .i64),.v (.int .i64),.v (.int .i64)])],nb:=1 } [(.exit 0,{ tmps:=[],slots:=[(0,.box 189 [.v (.int .i64),.v (.int .i64),.v (.int .i64)])],nb:=1 }),(.ret,{ tmps:=[],slots:=[(0,.box 189 [.v (.int .i64),.v (.int .i64),.v (.int .i64)])],nb:=1 })] (fun j x=>Zfd.l0 j x.1 x.2.1 x.2.2.1 x.2.2.2.1 x.2.2.2.2.1 x.2.2.2.2.2.1 x.2.2.2.2.2.2) k
def Zfd.l0.ok (k:Nat):=(lA (Zfd.cok k):Zj Tryz.prog _ (.loop (cO (cO (cR (cL (cR (cR (cR (cR (cB Tryz.f161)))))))))) (Zfd.l0.s k))
theorem Zfd.ok (k:Nat):Zf Tryz.prog 161 (Zfd.con k):=fP (.two .auto (.two .auto (.two .auto (.two .auto (.two (.two .auto (.one (.sum (Zfd.l0.s k)))) .auto))))) (Zfd.cok k) Tryz.func161 (sC (Zfd.l0.ok k) sN)
def Z7k (k:Nat) (a1:Str) (a2:Int):Option (Str×Int×Int):=
 Ya (Zfd k a1 a2) fun v3=>
 bif v3.2.2 != 0 then
  some ([],0,v3.2.2)
 else
 bif (decide (v3.1<0))||(decide (8000<v3.1)) then
  some ([],0,3)
 else
 bif decide ((Yb .i64 (((a1.length):Int)-v3.1))<v3.2.1) then
  some ([],0,4)
 else
 let e4:=Yb .i64 (v3.2.1+v3.1)
 Ya (Z8b a1 v3.2.1 e4) fun v5=>
 some (v5,e4,0)
def Z7k.con (k:Nat):Con:=Sig.con { ps:=[.val false .str (ros .str),.val false (.int .i64) (ros (.int .i64))],rs:=[.val true [.v .str,.v (.int .i64),.v (.int .i64)]],ntmps:=48 } (fun x=>Z7k k x.1 x.2)
theorem Z7k.ok (k:Nat):Zf Tryz.prog 162 (Z7k.con k):=fA (cX (cC (Zfd.ok k) cN)) Tryz.func162
def Zib (a1:Int) (a2:Int) (a3:Int):Option (Bool):=
 some ((decide (a2≤a1))&&(decide (a1≤a3)))
def Zib.con (k:Nat):Con:=Sig.con { ps:=[.val false (.int .i64) (ros (.int .i64)),.val false (.int .i64) (ros (.int .i64)),.val false (.int .i64) (ros (.int .i64))],rs:=[.val false [.v .bool]],ntmps:=15 } (fun x=>Zib x.1 x.2.1 x.2.2)
theorem Zib.ok (k:Nat):Zf Tryz.prog 39 (Zib.con k):=fA (cX cN) Tryz.func39
def Zjk (k:Nat) (a1:Str):Option (Str):=
 bif decide (7996<((a1.length):Int)) then
  some ([])
 else
 Ya (Z6b k 0 a1) fun v2=>
 Ya (Zgm v2) fun v3=>
 Ya (Zmc a1 v3) fun v4=>
 some v4
def Zjk.con (k:Nat):Con:=Sig.con { ps:=[.val false .str (ros .str)],rs:=[.val false [.v .str]],ntmps:=11 } (fun x=>Zjk k x)
theorem Zjk.ok (k:Nat):Zf Tryz.prog 166 (Zjk.con k):=fA (cX (cC (Zgm.ok k) (cC (Z6b.ok k) cN))) Tryz.func166
def Zrp (a1:Int):Option (Int):=
 bif decide (a1<0) then
  some (Yb .u64 ((Yb .u64 (2*(Yb .u64 (Yb .i64 (0-(Yb .i64 (a1+1)))))))+1))
 else
 some (Yb .u64 (2*(Yb .u64 a1)))
def Zrp.con (k:Nat):Con:=Sig.con { ps:=[.val false (.int .i64) (ros (.int .i64))],rs:=[.val false [.v (.int .u64)]],ntmps:=14 } (fun x=>Zrp x)
theorem Zrp.ok (k:Nat):Zf Tryz.prog 206 (Zrp.con k):=fA (cX cN) Tryz.func206
def Z5b.l0:Nat→Int→List Int→Option ((Int×List Int))
 | 0,_,_=>none
 | j+1,a1,a2=>
  bif decide (128≤a1) then
   Ya (nz? 128) fun v3=>
   Ya (Zu 1 a2 [(Yb .u8 (Yb .u64 ((Yf a1 128)+128)))]) fun v4=>
   Ya (nz? 128) fun v5=>
   Z5b.l0 j (Yb .u64 (Int.tdiv a1 128)) v4
  else
  some (a1,a2)
def Z5b (k:Nat) (a1:Int):Option (Str):=
 Ya (Zrp a1) fun v2=>
 Ya (Z5b.l0 k v2 []) fun y3=>
 Ya (Zu 1 y3.2 [(Yb .u8 y3.1)]) fun v4=>
 some (Zlb v4)
def Z5b.con (k:Nat):Con:=Sig.con { ps:=[.val false (.int .i64) (ros (.int .i64))],rs:=[.val false [.v .str]],ntmps:=25 } (fun x=>Z5b k x)
def Z5b.cok (k:Nat):=cX (cC (Zrp.ok k) cN)
def Z5b.l0.s (k:Nat):Summ:=lp 25 { tmps:=[(3,.one (.v (.int .u64))),(4,.one (.own 1))],slots:=[(1,.arr false 5 (.int .u8))],nb:=2 } [(.exit 0,{ tmps:=[(3,.one (.v (.int .u64))),(4,.one (.own 2))],slots:=[(2,.arr false 5 (.int .u8))],nb:=3 })] (fun j x=>Z5b.l0 j x.1 x.2) k
def Z5b.l0.ok (k:Nat):=(lA (Z5b.cok k):Zj Tryz.prog _ (.loop (cO (cO (cL (cR (cR (cR (cB Tryz.f167)))))))) (Z5b.l0.s k))
theorem Z5b.ok (k:Nat):Zf Tryz.prog 167 (Z5b.con k):=fP (.two .auto (.two .auto (.two .auto (.two (.one (.sum (Z5b.l0.s k))) .auto)))) (Z5b.cok k) Tryz.func167 (sC (Z5b.l0.ok k) sN)
def Zji (k:Nat) (a1:Str):Option (Str):=
 bif decide (8000<((a1.length):Int)) then
  some ([])
 else
 Ya (Z5b k ((a1.length):Int)) fun v2=>
 Ya (Zmc v2 a1) fun v3=>
 some v3
def Zji.con (k:Nat):Con:=Sig.con { ps:=[.val false .str (ros .str)],rs:=[.val false [.v .str]],ntmps:=11 } (fun x=>Zji k x)
theorem Zji.ok (k:Nat):Zf Tryz.prog 173 (Zji.con k):=fA (cX (cC (Z5b.ok k) cN)) Tryz.func173
def Zwj (k:Nat) (a1:Int) (a2:Str):Option (Str):=
 Ya (Zib a1 1 1000000) fun v3=>
 bif (!v3)||(decide (80<((a2.length):Int))) then
  some ([])
 else
 Ya (Z5b k a1) fun v4=>
 Ya (Zji k a2) fun v5=>
 Ya (Zmc v4 v5) fun v6=>
 Ya (Zjk k v6) fun v7=>
 some v7
def Zwj.con (k:Nat):Con:=Sig.con { ps:=[.val false (.int .i64) (ros (.int .i64)),.val false .str (ros .str)],rs:=[.val false [.v .str]],ntmps:=19 } (fun x=>Zwj k x.1 x.2)
theorem Zwj.ok (k:Nat):Zf Tryz.prog 163 (Zwj.con k):=fA (cX (cC (Zib.ok k) (cC (Zjk.ok k) (cC (Z5b.ok k) (cC (Zji.ok k) cN))))) Tryz.func163
def Zgk (k:Nat) (a1:Str):Option (Int×Str×Int):=
 Ya (Zkk k a1) fun v2=>
 bif v2.2.2 != 0 then
  some (0,[],v2.2.2)
 else
 Ya (Zfd k v2.1 0) fun v3=>
 Ya (Z7k k v2.1 v3.2.1) fun v4=>
 bif (v3.2.2 != 0)||(v4.2.2 != 0) then
  some (0,[],3)
 else
 Ya (Zwj k v3.1 v4.1) fun v5=>
 bif !(v5==a1) then
  some (0,[],3)
 else
 some (v3.1,v4.1,0)
def Zgk.con (k:Nat):Con:=Sig.con { ps:=[.val false .str (ros .str)],rs:=[.val true [.v (.int .i64),.v .str,.v (.int .i64)]],ntmps:=45 } (fun x=>Zgk k x)
theorem Zgk.ok (k:Nat):Zf Tryz.prog 95 (Zgk.con k):=fA (cX (cC (Zkk.ok k) (cC (Zfd.ok k) (cC (Z7k.ok k) (cC (Zwj.ok k) cN))))) Tryz.func95
def Zpb.l0:Nat→Int→List Str→List Zjb→Int→Option (Unit ⊕ Str)
 | 0,_,_,_,_=>none
 | j+1,a1,a2,a3,a4=>
  bif decide (a4<((a3.length):Int)) then
   Ya (at? a3 a4) fun v5=>
   bif v5.1==a1 then
    Ya (at? a3 a4) fun v6=>
    some (.inr (v6.2))
   else
   Zpb.l0 j a1 a2 a3 (Yb .i64 (a4+1))
  else
  some (.inl ())
def Zpb (k:Nat) (a1:G25) (a2:Int):Option (Str):=
 Ya (Zpb.l0 k a2 a1.1 a1.2 0) fun
  | .inl y3=>
   Ya (at? a1.1 a2) fun v4=>
   some v4
  | .inr y5=>
   some y5
def Zpb.con (k:Nat):Con:=Sig.con { ps:=[.val true T25 (ros T25),.val false (.int .i64) (ros (.int .i64))],rs:=[.val false [.v .str]],ntmps:=32 } (fun x=>Zpb k x.1 x.2)
def Zpb.cok (k:Nat):=cXr true false cN
def Zpb.l0.s (k:Nat):Summ:=lp 32 { tmps:=[(1,.one (.v (.int .i64))),(2,.eptr [.bor .str,.bor Z2]),(5,.one (.v (.int .i64)))],slots:=[],nb:=0 } [(.exit 0,{ tmps:=[],slots:=[],nb:=0 }),(.ret,{ tmps:=[(4,.one (.v .str))],slots:=[],nb:=0 })] (fun j x=>Zpb.l0 j x.1 x.2.1 x.2.2.1 x.2.2.2) k
def Zpb.l0.ok (k:Nat):=(lA (Zpb.cok k):Zj Tryz.prog _ (.loop (cO (cO (cR (cL (cR (cB Tryz.f96))))))) (Zpb.l0.s k))
theorem Zpb.ok (k:Nat):Zf Tryz.prog 96 (Zpb.con k):=fP (.two .auto (.two (.two .auto (.one (.sum (Zpb.l0.s k)))) .auto)) (Zpb.cok k) Tryz.func96 (sC (Zpb.l0.ok k) sN)
def Zlk (k:Nat) (a1:G25):Option (Int×Str×Int×Int):=
 Ya (Zpb k a1 0) fun v2=>
 Ya (Zgk k v2) fun v3=>
 Ya (Zpb k a1 1) fun v4=>
 Ya (Zgk k v4) fun v5=>
 bif (v3.2.2==0)&&((v5.2.2 != 0)||(decide (v5.1≤v3.1))) then
  some (v3.1,v3.2.1,v3.2.2,0)
 else
 bif v5.2.2==0 then
  some (v5.1,v5.2.1,v5.2.2,1)
 else
 some (0,[],6,(-1))
def Zlk.con (k:Nat):Con:=Sig.con { ps:=[.val true T25 (ros T25)],rs:=[.val true [.v (.int .i64),.v .str,.v (.int .i64)],.val false [.v (.int .i64)]],ntmps:=35 } (fun x=>Zlk k x)
theorem Zlk.ok (k:Nat):Zf Tryz.prog 38 (Zlk.con k):=fA (cXr true false (cC (Zgk.ok k) (cC (Zpb.ok k) cN))) Tryz.func38
def Z6.l0:Nat→List Str→List Zjb→Int→Option (Unit ⊕ Bool)
 | 0,_,_,_=>none
 | j+1,a1,a2,a3=>
  bif decide (a3<((a1.length):Int)) then
   Ya (at? a1 a3) fun v4=>
   bif decide (96<((v4.length):Int)) then
    some (.inr false)
   else
   Z6.l0 j a1 a2 (Yb .i64 (a3+1))
  else
  some (.inl ())
def Z6.l1:Nat→List Str→List Zjb→Int→Int→Option (Unit ⊕ Bool)
 | 0,_,_,_,_=>none
 | j+1,a1,a2,a3,a4=>
  bif decide (a4<a3) then
   Ya (at? a2 a4) fun v5=>
   Ya (at? a2 a3) fun v6=>
   bif v5.1==v6.1 then
    some (.inr false)
   else
   Z6.l1 j a1 a2 a3 (Yb .i64 (a4+1))
  else
  some (.inl ())
def Z6.l2 (k:Nat):Nat→List Str→List Zjb→Int→Option (Unit ⊕ Bool)
 | 0,_,_,_=>none
 | j+1,a1,a2,a3=>
  bif decide (a3<((a2.length):Int)) then
   Ya (at? a2 a3) fun v4=>
   Ya (Zib v4.1 0 (Yb .i64 (((a1.length):Int)-1))) fun v5=>
   bif !v5 then
    some (.inr false)
   else
   Ya (at? a2 a3) fun v6=>
   bif decide (96<((v6.2.length):Int)) then
    some (.inr false)
   else
   Ya (Z6.l1 k a1 a2 a3 0) fun
    | .inl y7=>
     Z6.l2 k j a1 a2 (Yb .i64 (a3+1))
    | .inr y8=>
     some (.inr y8)
  else
  some (.inl ())
def Z6 (k:Nat) (a1:G25):Option (Bool):=
 let e2:=((a1.1.length):Int)
 bif ((decide (e2<1))||(decide (40<e2)))||(decide (e2<((a1.2.length):Int))) then
  some false
 else
 Ya (Z6.l0 k a1.1 a1.2 0) fun
  | .inl y3=>
   Ya (Z6.l2 k k a1.1 a1.2 0) fun
    | .inl y4=>
     some true
    | .inr y5=>
     some y5
  | .inr y6=>
   some y6
def Z6.con (k:Nat):Con:=Sig.con { ps:=[.val true T25 (ros T25)],rs:=[.val false [.v .bool]],ntmps:=86 } (fun x=>Z6 k x)
def Z6.cok (k:Nat):=cXr true false (cC (Zib.ok k) cN)
def Z6.l0.s (k:Nat):Summ:=lp 86 { tmps:=[(1,.eptr [.bor .str,.bor Z2]),(3,.one (.v (.int .i64)))],slots:=[],nb:=0 } [(.exit 0,{ tmps:=[],slots:=[],nb:=0 }),(.ret,{ tmps:=[(2,.one (.v .bool))],slots:=[],nb:=0 })] (fun j x=>Z6.l0 j x.1 x.2.1 x.2.2) k
def Z6.l0.ok (k:Nat):=(lA (Z6.cok k):Zj Tryz.prog _ (.loop (cO (cO (cR (cL (cR (cR (cB Tryz.f40)))))))) (Z6.l0.s k))
def Z6.l1.s (k:Nat):Summ:=lp 86 { tmps:=[(1,.eptr [.bor .str,.bor Z2]),(4,.one (.v (.int .i64))),(5,.one (.v (.int .i64)))],slots:=[],nb:=0 } [(.exit 4,{ tmps:=[],slots:=[],nb:=0 }),(.ret,{ tmps:=[(2,.one (.v .bool))],slots:=[],nb:=0 })] (fun j x=>Z6.l1 j x.1 x.2.1 x.2.2.1 x.2.2.2) k
def Z6.l1.ok (k:Nat):=(lA (Z6.cok k):Zj Tryz.prog _ (.loop (cO (cO (cR (cR (cO (cL (cR (cO (cO (cR (cL (cR (cR (cR (cB Tryz.f40)))))))))))))))) (Z6.l1.s k))
def Z6.l2.s (k:Nat):Summ:=lp 86 { tmps:=[(1,.eptr [.bor .str,.bor Z2]),(4,.one (.v (.int .i64)))],slots:=[],nb:=0 } [(.exit 2,{ tmps:=[],slots:=[],nb:=0 }),(.ret,{ tmps:=[(2,.one (.v .bool))],slots:=[],nb:=0 })] (fun j x=>Z6.l2 k j x.1 x.2.1 x.2.2) k
def Z6.l2.ok (k:Nat):=(lP (.two .auto (.two (.one (.two .auto (.two .auto (.one (.sum (Z6.l1.s k)))))) .auto)) (Z6.cok k) (sC (Z6.l1.ok k) sN):Zj Tryz.prog _ (.loop (cO (cO (cR (cL (cR (cR (cR (cB Tryz.f40))))))))) (Z6.l2.s k))
theorem Z6.ok (k:Nat):Zf Tryz.prog 40 (Z6.con k):=fP (.two .auto (.two .auto (.two (.two .auto (.one (.sum (Z6.l0.s k)))) (.two (.two .auto (.one (.sum (Z6.l2.s k)))) .auto)))) (Z6.cok k) Tryz.func40 (sC (Z6.l0.ok k) (sC (Z6.l2.ok k) sN))
def Zad.l0:Nat→Int→Int→List Int→Option ((List Int))
 | 0,_,_,_=>none
 | j+1,a1,a2,a3=>
  bif decide (a2<24) then
   Ya (Zsb a2) fun v4=>
   let e5:=Yb .i64 (a2+1)
   bif (intBits .and .i64 (shr .i64 a1 a2) 1)==1 then
    Ya (Zu 8 a3 [a2]) fun v6=>
    Zad.l0 j a1 e5 v6
   else
   Zad.l0 j a1 e5 a3
  else
  some a3
def Zad (k:Nat) (a1:Int):Option (List Int):=
 bif (decide (a1<0))||(decide (16777216≤a1)) then
  some ([])
 else
 Ya (Zad.l0 k a1 0 []) fun y2=>
 some y2
def Zad.con (k:Nat):Con:=Sig.con { ps:=[.val false (.int .i64) (ros (.int .i64))],rs:=[.val false [.own 2 (.int .i64)]],ntmps:=27 } (fun x=>Zad k x)
def Zad.cok (k:Nat):=cX cN
def Zad.l0.s (k:Nat):Summ:=lp 27 { tmps:=[(0,.one (.v (.int .i64))),(3,.one (.own 1)),(4,.one (.v (.int .i64)))],slots:=[(1,.arr false 2 (.int .i64))],nb:=2 } [(.exit 0,{ tmps:=[(3,.one (.own 2))],slots:=[(2,.arr false 2 (.int .i64))],nb:=3 })] (fun j x=>Zad.l0 j x.1 x.2.1 x.2.2) k
def Zad.l0.ok (k:Nat):=(lA (Zad.cok k):Zj Tryz.prog _ (.loop (cO (cO (cR (cL (cR (cR (cR (cB Tryz.f52))))))))) (Zad.l0.s k))
theorem Zad.ok (k:Nat):Zf Tryz.prog 52 (Zad.con k):=fP (.two .auto (.two .auto (.two .auto (.two (.two .auto (.one (.sum (Zad.l0.s k)))) .auto)))) (Zad.cok k) Tryz.func52 (sC (Zad.l0.ok k) sN)
def Zbc (k:Nat) (a1:Zot):Option (Int×Str×Int×Bool):=
 Ya (Zfd k a1.1 a1.2.1) fun v2=>
 bif a1.2.2||(v2.2.2 != 0) then
  some (0,a1.1,a1.2.1,true)
 else
 some (v2.1,a1.1,v2.2.1,a1.2.2)
def Zbc.con (k:Nat):Con:=Sig.con { ps:=[.ref 133 Z3j (Zwg Z3j)],rs:=[.val false [.v (.int .i64)]],ntmps:=32 } (fun x=>Zbc k x)
theorem Zbc.ok (k:Nat):Zf Tryz.prog 97 (Zbc.con k):=fA (cX (cC (Zfd.ok k) cN)) Tryz.func97
def Zfh (k:Nat) (a1:Zot):Option (Str×Str×Int×Bool):=
 Ya (Z7k k a1.1 a1.2.1) fun v2=>
 bif a1.2.2||(v2.2.2 != 0) then
  some ([],a1.1,a1.2.1,true)
 else
 some (v2.1,a1.1,v2.2.1,a1.2.2)
def Zfh.con (k:Nat):Con:=Sig.con { ps:=[.ref 133 Z3j (Zwg Z3j)],rs:=[.val false [.v .str]],ntmps:=32 } (fun x=>Zfh k x)
theorem Zfh.ok (k:Nat):Zf Tryz.prog 98 (Zfh.con k):=fA (cX (cC (Z7k.ok k) cN)) Tryz.func98
def Z0d.l0:Nat→List Int→Int→Option (Unit ⊕ Bool)
 | 0,_,_=>none
 | j+1,a1,a2=>
  bif decide (a2<((a1.length):Int)) then
   Ya (at? a1 a2) fun v3=>
   Ya (Zib v3 0 23) fun v4=>
   bif !v4 then
    some (.inr false)
   else
   let e5:=Yb .i64 (a2+1)
   bif decide (0<a2) then
    Ya (at? a1 (Yb .i64 (a2-1))) fun v6=>
    Ya (at? a1 a2) fun v7=>
    bif decide (v7≤v6) then
     some (.inr false)
    else
    Z0d.l0 j a1 e5
   else
   Z0d.l0 j a1 e5
  else
  some (.inl ())
def Z0d (k:Nat) (a1:List Int):Option (Bool):=
 bif decide (24<((a1.length):Int)) then
  some false
 else
 Ya (Z0d.l0 k a1 0) fun
  | .inl y2=>
   some true
  | .inr y3=>
   some y3
def Z0d.con (k:Nat):Con:=Sig.con { ps:=[.val false (.sl (.int .i64)) (ros (.sl (.int .i64)))],rs:=[.val false [.v .bool]],ntmps:=35 } (fun x=>Z0d k x)
def Z0d.cok (k:Nat):=cX (cC (Zib.ok k) cN)
def Z0d.l0.s (k:Nat):Summ:=lp 35 { tmps:=[(0,.one (.bor (.int .i64))),(3,.one (.v (.int .i64)))],slots:=[],nb:=0 } [(.exit 0,{ tmps:=[],slots:=[],nb:=0 }),(.ret,{ tmps:=[(2,.one (.v .bool))],slots:=[],nb:=0 })] (fun j x=>Z0d.l0 j x.1 x.2) k
def Z0d.l0.ok (k:Nat):=(lA (Z0d.cok k):Zj Tryz.prog _ (.loop (cO (cO (cR (cL (cR (cR (cB Tryz.f119)))))))) (Z0d.l0.s k))
theorem Z0d.ok (k:Nat):Zf Tryz.prog 119 (Z0d.con k):=fP (.two .auto (.two .auto (.two (.two .auto (.one (.sum (Z0d.l0.s k)))) .auto))) (Z0d.cok k) Tryz.func119 (sC (Z0d.l0.ok k) sN)
def Zod.l0:Nat→List Int→Int→Int→Option (Int)
 | 0,_,_,_=>none
 | j+1,a1,a2,a3=>
  bif decide (a3<((a1.length):Int)) then
   Ya (at? a1 a3) fun v4=>
   Ya (Zsb v4) fun v5=>
   Zod.l0 j a1 (Yb .i64 (a2+(shl .i64 1 v4))) (Yb .i64 (a3+1))
  else
  some a2
def Zod (k:Nat) (a1:List Int):Option (Int):=
 Ya (Z0d k a1) fun v2=>
 bif !v2 then
  some (-1)
 else
 Ya (Zod.l0 k a1 0 0) fun y3=>
 some y3
def Zod.con (k:Nat):Con:=Sig.con { ps:=[.val false (.sl (.int .i64)) (ros (.sl (.int .i64)))],rs:=[.val false [.v (.int .i64)]],ntmps:=22 } (fun x=>Zod k x)
def Zod.cok (k:Nat):=cX (cC (Z0d.ok k) cN)
def Zod.l0.s (k:Nat):Summ:=lp 22 { tmps:=[(0,.one (.bor (.int .i64))),(3,.one (.v (.int .i64))),(4,.one (.v (.int .i64)))],slots:=[],nb:=0 } [(.exit 0,{ tmps:=[(3,.one (.v (.int .i64)))],slots:=[],nb:=0 })] (fun j x=>Zod.l0 j x.1 x.2.1 x.2.2) k
def Zod.l0.ok (k:Nat):=(lA (Zod.cok k):Zj Tryz.prog _ (.loop (cO (cO (cR (cL (cR (cR (cR (cB Tryz.f53))))))))) (Zod.l0.s k))
theorem Zod.ok (k:Nat):Zf Tryz.prog 53 (Zod.con k):=fP (.two .auto (.two .auto (.two .auto (.two (.two .auto (.one (.sum (Zod.l0.s k)))) .auto)))) (Zod.cok k) Tryz.func53 (sC (Zod.l0.ok k) sN)
def Zbl (k:Nat) (a1:G59):Option (Str):=
 Ya (Z5b k a1.1) fun v2=>
 Ya (Z5b k a1.2.1) fun v3=>
 Ya (Zmc v2 v3) fun v4=>
 Ya (Z5b k a1.2.2.1) fun v5=>
 Ya (Zmc v4 v5) fun v6=>
 Ya (Z5b k a1.2.2.2.1) fun v7=>
 Ya (Zmc v6 v7) fun v8=>
 Ya (Z5b k a1.2.2.2.2.1) fun v9=>
 Ya (Zmc v8 v9) fun v10=>
 Ya (Zod k a1.2.2.2.2.2.2.1) fun v11=>
 Ya (Z5b k v11) fun v12=>
 Ya (Zmc v10 v12) fun v13=>
 Ya (Zod k a1.2.2.2.2.2.2.2) fun v14=>
 Ya (Z5b k v14) fun v15=>
 Ya (Zmc v13 v15) fun v16=>
 Ya (Zji k a1.2.2.2.2.2.1) fun v17=>
 Ya (Zmc v16 v17) fun v18=>
 some v18
def Zbl.con (k:Nat):Con:=Sig.con { ps:=[.val true T59 (ros T59)],rs:=[.val false [.v .str]],ntmps:=36 } (fun x=>Zbl k x)
theorem Zbl.ok (k:Nat):Zf Tryz.prog 109 (Zbl.con k):=fA (cXr true false (cC (Zod.ok k) (cC (Z5b.ok k) (cC (Zji.ok k) cN)))) Tryz.func109
def Z6c.l0:Nat→List Int→Int→Int→Option (Unit ⊕ Bool)
 | 0,_,_,_=>none
 | j+1,a1,a2,a3=>
  bif decide (a3<((a1.length):Int)) then
   Ya (at? a1 a3) fun v4=>
   bif v4==a2 then
    some (.inr true)
   else
   Z6c.l0 j a1 a2 (Yb .i64 (a3+1))
  else
  some (.inl ())
def Z6c (k:Nat) (a1:List Int) (a2:Int):Option (Bool):=
 Ya (Z6c.l0 k a1 a2 0) fun
  | .inl y3=>
   some false
  | .inr y4=>
   some y4
def Z6c.con (k:Nat):Con:=Sig.con { ps:=[.val false (.sl (.int .i64)) (ros (.sl (.int .i64))),.val false (.int .i64) (ros (.int .i64))],rs:=[.val false [.v .bool]],ntmps:=18 } (fun x=>Z6c k x.1 x.2)
def Z6c.cok (k:Nat):=cX cN
def Z6c.l0.s (k:Nat):Summ:=lp 18 { tmps:=[(0,.one (.bor (.int .i64))),(1,.one (.v (.int .i64))),(5,.one (.v (.int .i64)))],slots:=[],nb:=0 } [(.exit 0,{ tmps:=[],slots:=[],nb:=0 }),(.ret,{ tmps:=[(4,.one (.v .bool))],slots:=[],nb:=0 })] (fun j x=>Z6c.l0 j x.1 x.2.1 x.2.2) k
def Z6c.l0.ok (k:Nat):=(lA (Z6c.cok k):Zj Tryz.prog _ (.loop (cO (cO (cR (cL (cR (cB Tryz.f177))))))) (Z6c.l0.s k))
theorem Z6c.ok (k:Nat):Zf Tryz.prog 177 (Z6c.con k):=fP (.two .auto (.two (.two .auto (.one (.sum (Z6c.l0.s k)))) .auto)) (Z6c.cok k) Tryz.func177 (sC (Z6c.l0.ok k) sN)
def Zaf.l0 (k:Nat):Nat→Int→Int→Int→Int→Int→Str→List Int→List Int→Int→Option (Unit ⊕ Bool)
 | 0,_,_,_,_,_,_,_,_,_=>none
 | j+1,a1,a2,a3,a4,a5,a6,a7,a8,a9=>
  bif decide (a9<((a8.length):Int)) then
   Ya (at? a8 a9) fun v10=>
   Ya (Z6c k a7 v10) fun v11=>
   bif v11 then
    some (.inr false)
   else
   Zaf.l0 k j a1 a2 a3 a4 a5 a6 a7 a8 (Yb .i64 (a9+1))
  else
  some (.inl ())
def Zaf (k:Nat) (a1:G59):Option (Bool):=
 Ya (Zib a1.1 1 5) fun v2=>
 bif !v2 then
  some false
 else
 Ya (Z0d k a1.2.2.2.2.2.2.1) fun v3=>
 bif !v3 then
  some false
 else
 Ya (Z0d k a1.2.2.2.2.2.2.2) fun v4=>
 bif !v4 then
  some false
 else
 Ya (Zaf.l0 k k a1.1 a1.2.1 a1.2.2.1 a1.2.2.2.1 a1.2.2.2.2.1 a1.2.2.2.2.2.1 a1.2.2.2.2.2.2.1 a1.2.2.2.2.2.2.2 0) fun
  | .inl y5=>
   let e6:=a1.2.1==0
   let e7:=a1.2.2.2.2.1==0
   let e8:=((a1.2.2.2.2.2.2.2.length):Int)
   bif a1.1==1 then
    some (((((e6&&(a1.2.2.1==0))&&(a1.2.2.2.1==0))&&e7)&&(a1.2.2.2.2.2.1==[]))&&(e8==0))
   else
   Ya (Zib a1.2.2.1 1 20) fun v9=>
   bif !v9 then
    some false
   else
   Ya (Zib a1.2.2.2.1 0 4) fun v10=>
   bif ((!v10)||(e8 != (Yb .i64 (a1.2.2.1+a1.2.2.2.1))))||(((a1.2.2.2.2.2.1.length):Int) != 32) then
    some false
   else
   Ya (Zib a1.2.1 0 2) fun v11=>
   bif v11 then
    Ya (Zib a1.2.2.2.2.1 0 40) fun v12=>
    some ((v12&&(e6||(a1.1==4)))&&(e7||(a1.1==5)))
   else
   some false
  | .inr y13=>
   some y13
def Zaf.con (k:Nat):Con:=Sig.con { ps:=[.val true T59 (ros T59)],rs:=[.val false [.v .bool]],ntmps:=122 } (fun x=>Zaf k x)
def Zaf.cok (k:Nat):=cXr true false (cC (Zib.ok k) (cC (Z0d.ok k) (cC (Z6c.ok k) cN)))
def Zaf.l0.s (k:Nat):Summ:=lp 122 { tmps:=[(1,.eptr [.v (.int .i64),.v (.int .i64),.v (.int .i64),.v (.int .i64),.v (.int .i64),.v .str,.bor (.int .i64),.bor (.int .i64)]),(3,.one (.v (.int .i64)))],slots:=[],nb:=0 } [(.exit 0,{ tmps:=[],slots:=[],nb:=0 }),(.ret,{ tmps:=[(2,.one (.v .bool))],slots:=[],nb:=0 })] (fun j x=>Zaf.l0 k j x.1 x.2.1 x.2.2.1 x.2.2.2.1 x.2.2.2.2.1 x.2.2.2.2.2.1 x.2.2.2.2.2.2.1 x.2.2.2.2.2.2.2.1 x.2.2.2.2.2.2.2.2) k
def Zaf.l0.ok (k:Nat):=(lA (Zaf.cok k):Zj Tryz.prog _ (.loop (cO (cO (cR (cL (cR (cR (cB Tryz.f164)))))))) (Zaf.l0.s k))
theorem Zaf.ok (k:Nat):Zf Tryz.prog 164 (Zaf.con k):=fP (.two .auto (.two .auto (.two (.two .auto (.one (.sum (Zaf.l0.s k)))) .auto))) (Zaf.cok k) Tryz.func164 (sC (Zaf.l0.ok k) sN)
def Zpp (k:Nat) (a1:G59):Option (Str):=
 Ya (Zaf k a1) fun v2=>
 bif !v2 then
  some ([])
 else
 Ya (Zbl k a1) fun v3=>
 some v3
def Zpp.con (k:Nat):Con:=Sig.con { ps:=[.val true T59 (ros T59)],rs:=[.val false [.v .str]],ntmps:=8 } (fun x=>Zpp k x)
theorem Zpp.ok (k:Nat):Zf Tryz.prog 99 (Zpp.con k):=fA (cXr true false (cC (Zbl.ok k) (cC (Zaf.ok k) cN))) Tryz.func99
def Zkn (k:Nat) (a1:Str):Option (Int×Int×Int×Int×Int×Str×List Int×List Int×Int):=
 bif decide (8000<((a1.length):Int)) then
  some (0,0,0,0,0,[],[],[],2)
 else
 Ya (Zbc k (a1,(0,false))) fun v2=>
 Ya (Zbc k v2.2) fun v3=>
 Ya (Zbc k v3.2) fun v4=>
 Ya (Zbc k v4.2) fun v5=>
 Ya (Zbc k v5.2) fun v6=>
 Ya (Zbc k v6.2) fun v7=>
 Ya (Zad k v7.1) fun v8=>
 Ya (Zbc k v7.2) fun v9=>
 Ya (Zad k v9.1) fun v10=>
 Ya (Zfh k v9.2) fun v11=>
 bif v11.2.2.2 then
  some (0,0,0,0,0,[],[],[],3)
 else
 Ya (Zpp k (v2.1,(v3.1,(v4.1,(v5.1,(v6.1,(v11.1,(v8,v10)))))))) fun v12=>
 bif !(v12==a1) then
  some (0,0,0,0,0,[],[],[],3)
 else
 some (v2.1,v3.1,v4.1,v5.1,v6.1,v11.1,v8,v10,0)
def Zkn.con (k:Nat):Con:=Sig.con { ps:=[.val false .str (ros .str)],rs:=[.val true [.v (.int .i64),.v (.int .i64),.v (.int .i64),.v (.int .i64),.v (.int .i64),.v .str,.own 2 (.int .i64),.own 2 (.int .i64),.v (.int .i64)]],ntmps:=51 } (fun x=>Zkn k x)
theorem Zkn.ok (k:Nat):Zf Tryz.prog 41 (Zkn.con k):=fA (cX (cC (Zad.ok k) (cC (Zbc.ok k) (cC (Zfh.ok k) (cC (Zpp.ok k) cN))))) Tryz.func41
def Zki (k:Nat) (a1:G27):Option (Int×Int×Int×Int×Int×Str×List Int×List Int×Bool):=
 Ya (Zib a1.1 1 8) fun v2=>
 bif !v2 then
  some (0,0,0,0,0,[],[],[],false)
 else
 Ya (Z6 k a1.2) fun v3=>
 bif (!v3)||(((a1.2.1.length):Int) != (Yb .i64 ((Yb .i64 (3+a1.1))+24))) then
  some (0,0,0,0,0,[],[],[],false)
 else
 Ya (Zlk k a1.2) fun v4=>
 bif v4.2.2.1 != 0 then
  some (0,0,0,0,0,[],[],[],false)
 else
 Ya (Zkn k v4.2.1) fun v5=>
 some (v5.1,v5.2.1,v5.2.2.1,v5.2.2.2.1,v5.2.2.2.2.1,v5.2.2.2.2.2.1,v5.2.2.2.2.2.2.1,v5.2.2.2.2.2.2.2.1,v5.2.2.2.2.2.2.2.2==0)
def Zki.con (k:Nat):Con:=Sig.con { ps:=[.val true T27 (ros T27)],rs:=[.val true [.v (.int .i64),.v (.int .i64),.v (.int .i64),.v (.int .i64),.v (.int .i64),.v .str,.own 2 (.int .i64),.own 2 (.int .i64)],.val false [.v .bool]],ntmps:=47 } (fun x=>Zki k x)
theorem Zki.ok (k:Nat):Zf Tryz.prog 19 (Zki.con k):=fA (cXr true false (cC (Zlk.ok k) (cC (Zib.ok k) (cC (Z6.ok k) (cC (Zkn.ok k) cN))))) Tryz.func19
def Zpc.l0:Nat→List Str→Int→Option (Unit ⊕ Bool)
 | 0,_,_=>none
 | j+1,a1,a2=>
  bif decide (a2<((a1.length):Int)) then
   Ya (at? a1 a2) fun v3=>
   bif ((v3.length):Int) != 8 then
    some (.inr false)
   else
   Zpc.l0 j a1 (Yb .i64 (a2+1))
  else
  some (.inl ())
def Zpc (k:Nat) (a1:List Str):Option (Bool):=
 bif (decide (((a1.length):Int)<1))||(decide (8<((a1.length):Int))) then
  some false
 else
 Ya (Zpc.l0 k a1 0) fun
  | .inl y2=>
   some true
  | .inr y3=>
   some y3
def Zpc.con (k:Nat):Con:=Sig.con { ps:=[.val false (.sl .str) (ros (.sl .str))],rs:=[.val false [.v .bool]],ntmps:=24 } (fun x=>Zpc k x)
def Zpc.cok (k:Nat):=cX cN
def Zpc.l0.s (k:Nat):Summ:=lp 24 { tmps:=[(0,.one (.bor .str)),(3,.one (.v (.int .i64)))],slots:=[],nb:=0 } [(.exit 0,{ tmps:=[],slots:=[],nb:=0 }),(.ret,{ tmps:=[(2,.one (.v .bool))],slots:=[],nb:=0 })] (fun j x=>Zpc.l0 j x.1 x.2) k
def Zpc.l0.ok (k:Nat):=(lA (Zpc.cok k):Zj Tryz.prog _ (.loop (cO (cO (cR (cL (cR (cR (cB Tryz.f91)))))))) (Zpc.l0.s k))
theorem Zpc.ok (k:Nat):Zf Tryz.prog 91 (Zpc.con k):=fP (.two .auto (.two .auto (.two (.two .auto (.one (.sum (Zpc.l0.s k)))) .auto))) (Zpc.cok k) Tryz.func91 (sC (Zpc.l0.ok k) sN)
def Z2d.l0 (k:Nat):Nat→Int→List Str→List Zjb→Int→List Str→Option ((List Str))
 | 0,_,_,_,_,_=>none
 | j+1,a1,a2,a3,a4,a5=>
  bif decide (a4<a1) then
   Ya (Zpb k (a2,a3) (Yb .i64 (3+a4))) fun v6=>
   Ya (Zu 16 a5 [v6]) fun v7=>
   Z2d.l0 k j a1 a2 a3 (Yb .i64 (a4+1)) v7
  else
  some a5
def Z2d (k:Nat) (a1:G27):Option (List Str):=
 Ya (Z2d.l0 k k a1.1 a1.2.1 a1.2.2 0 []) fun y2=>
 some y2
def Z2d.con (k:Nat):Con:=Sig.con { ps:=[.val true T27 (ros T27)],rs:=[.val false [.own 9 .str]],ntmps:=21 } (fun x=>Z2d k x)
def Z2d.cok (k:Nat):=cXr true false (cC (Zpb.ok k) cN)
def Z2d.l0.s (k:Nat):Summ:=lp 21 { tmps:=[(1,.eptr [.v (.int .i64),.bor .str,.bor Z2]),(3,.one (.own 1)),(4,.one (.v (.int .i64)))],slots:=[(1,.arr false 9 .str)],nb:=2 } [(.exit 0,{ tmps:=[(3,.one (.own 2))],slots:=[(2,.arr false 9 .str)],nb:=3 })] (fun j x=>Z2d.l0 k j x.1 x.2.1 x.2.2.1 x.2.2.2.1 x.2.2.2.2) k
def Z2d.l0.ok (k:Nat):=(lA (Z2d.cok k):Zj Tryz.prog _ (.loop (cO (cO (cR (cL (cR (cR (cB Tryz.f92)))))))) (Z2d.l0.s k))
theorem Z2d.ok (k:Nat):Zf Tryz.prog 92 (Z2d.con k):=fP (.two .auto (.two .auto (.two (.two .auto (.one (.sum (Z2d.l0.s k)))) .auto))) (Z2d.cok k) Tryz.func92 (sC (Z2d.l0.ok k) sN)
def Zng (a1:G27) (a2:Int):Option (Int):=
 some (Yb .i64 ((Yb .i64 (3+a1.1))+a2))
def Zng.con (k:Nat):Con:=Sig.con { ps:=[.val true T27 (ros T27),.val false (.int .i64) (ros (.int .i64))],rs:=[.val false [.v (.int .i64)]],ntmps:=10 } (fun x=>Zng x.1 x.2)
theorem Zng.ok (k:Nat):Zf Tryz.prog 100 (Zng.con k):=fA (cXr true false cN) Tryz.func100
def Zrh (a1:G29) (a2:Int):Option (Bool):=
 Ya (Zib a2 1 8) fun v3=>
 bif !v3 then
  some false
 else
 let e4:=Yb .i64 (a2-1)
 Ya (Zib a1.2.1 0 e4) fun v5=>
 Ya (Zib a1.2.2.1 0 e4) fun v6=>
 let e7:=a1.2.2.2==[]
 let e8:=v5&&(a1.2.2.1==0)
 bif a1.1==1 then
  some (e8&&e7)
 else
 let e9:=((a1.2.2.2.length):Int)==8
 bif a1.1==2 then
  some (e8&&e9)
 else
 bif a1.1==3 then
  some ((v5&&v6)&&e7)
 else
 bif a1.1==4 then
  some ((v5&&v6)&&e9)
 else
 bif a1.1==5 then
  bif a1.2.1==0 then
   Ya (Zib a1.2.2.1 0 1000000) fun v10=>
   some (v10&&e7)
  else
  some false
 else
 some false
def Zrh.con (k:Nat):Con:=Sig.con { ps:=[.val true T29 (ros T29),.val false (.int .i64) (ros (.int .i64))],rs:=[.val false [.v .bool]],ntmps:=87 } (fun x=>Zrh x.1 x.2)
theorem Zrh.ok (k:Nat):Zf Tryz.prog 94 (Zrh.con k):=fA (cX (cC (Zib.ok k) cN)) Tryz.func94
def Zal (k:Nat) (a1:G29):Option (Str):=
 Ya (Z5b k a1.1) fun v2=>
 Ya (Z5b k a1.2.1) fun v3=>
 Ya (Zmc v2 v3) fun v4=>
 Ya (Z5b k a1.2.2.1) fun v5=>
 Ya (Zmc v4 v5) fun v6=>
 Ya (Zji k a1.2.2.2) fun v7=>
 Ya (Zmc v6 v7) fun v8=>
 some v8
def Zal.con (k:Nat):Con:=Sig.con { ps:=[.val true T29 (ros T29)],rs:=[.val false [.v .str]],ntmps:=18 } (fun x=>Zal k x)
theorem Zal.ok (k:Nat):Zf Tryz.prog 168 (Zal.con k):=fA (cX (cC (Z5b.ok k) (cC (Zji.ok k) cN))) Tryz.func168
def Zhk (k:Nat) (a1:Int) (a2:G29):Option (Str):=
 Ya (Zib a1 0 1000000) fun v3=>
 bif !v3 then
  some ([])
 else
 Ya (Zrh a2 8) fun v4=>
 bif !v4 then
  some ([])
 else
 Ya (Z5b k a1) fun v5=>
 Ya (Zal k a2) fun v6=>
 Ya (Zmc v5 v6) fun v7=>
 Ya (Zjk k v7) fun v8=>
 some v8
def Zhk.con (k:Nat):Con:=Sig.con { ps:=[.val false (.int .i64) (ros (.int .i64)),.val true T29 (ros T29)],rs:=[.val false [.v .str]],ntmps:=19 } (fun x=>Zhk k x.1 x.2)
theorem Zhk.ok (k:Nat):Zf Tryz.prog 103 (Zhk.con k):=fA (cX (cC (Zib.ok k) (cC (Zrh.ok k) (cC (Zjk.ok k) (cC (Z5b.ok k) (cC (Zal.ok k) cN)))))) Tryz.func103
def Zqp (k:Nat) (a1:G29):Option (Str):=
 Ya (Zrh a1 8) fun v2=>
 bif !v2 then
  some ([])
 else
 Ya (Zal k a1) fun v3=>
 some v3
def Zqp.con (k:Nat):Con:=Sig.con { ps:=[.val true T29 (ros T29)],rs:=[.val false [.v .str]],ntmps:=8 } (fun x=>Zqp k x)
theorem Zqp.ok (k:Nat):Zf Tryz.prog 238 (Zqp.con k):=fA (cX (cC (Zrh.ok k) (cC (Zal.ok k) cN))) Tryz.func238
def Z9k (k:Nat) (a1:Str):Option (Int×Int×Int×Str×Int):=
 bif decide (8000<((a1.length):Int)) then
  some (0,0,0,[],2)
 else
 Ya (Zbc k (a1,(0,false))) fun v2=>
 Ya (Zbc k v2.2) fun v3=>
 Ya (Zbc k v3.2) fun v4=>
 Ya (Zfh k v4.2) fun v5=>
 bif v5.2.2.2 then
  some (0,0,0,[],3)
 else
 Ya (Zqp k (v2.1,(v3.1,(v4.1,v5.1)))) fun v6=>
 bif !(v6==a1) then
  some (0,0,0,[],3)
 else
 some (v2.1,v3.1,v4.1,v5.1,0)
def Z9k.con (k:Nat):Con:=Sig.con { ps:=[.val false .str (ros .str)],rs:=[.val true [.v (.int .i64),.v (.int .i64),.v (.int .i64),.v .str,.v (.int .i64)]],ntmps:=37 } (fun x=>Z9k k x)
theorem Z9k.ok (k:Nat):Zf Tryz.prog 227 (Z9k.con k):=fA (cX (cC (Zbc.ok k) (cC (Zfh.ok k) (cC (Zqp.ok k) cN)))) Tryz.func227
def Zik (k:Nat) (a1:Str) (a2:Int):Option (Int×Int×Int×Str×Int):=
 Ya (Zkk k a1) fun v3=>
 bif v3.2.2 != 0 then
  some (0,0,0,[],v3.2.2)
 else
 Ya (Zbc k (v3.1,(0,false))) fun v4=>
 Ya (Z8b v3.1 v4.2.2.1 ((v3.1.length):Int)) fun v5=>
 Ya (Z9k k v5) fun v6=>
 bif v4.2.2.2||(v6.2.2.2.2 != 0) then
  some (0,0,0,[],3)
 else
 Ya (Zhk k v4.1 (v6.1,(v6.2.1,(v6.2.2.1,v6.2.2.2.1)))) fun v7=>
 bif !(v7==a1) then
  some (0,0,0,[],3)
 else
 bif v4.1 != a2 then
  some (0,0,0,[],6)
 else
 some (v6.1,v6.2.1,v6.2.2.1,v6.2.2.2.1,v6.2.2.2.2)
def Zik.con (k:Nat):Con:=Sig.con { ps:=[.val false .str (ros .str),.val false (.int .i64) (ros (.int .i64))],rs:=[.val true [.v (.int .i64),.v (.int .i64),.v (.int .i64),.v .str,.v (.int .i64)]],ntmps:=54 } (fun x=>Zik k x.1 x.2)
theorem Zik.ok (k:Nat):Zf Tryz.prog 205 (Zik.con k):=fA (cX (cC (Zbc.ok k) (cC (Zhk.ok k) (cC (Zkk.ok k) (cC (Z9k.ok k) cN))))) Tryz.func205
def Zrf.l0 (k:Nat):Nat→List Str→Int→List G29→Option ((List G29))
 | 0,_,_,_=>none
 | j+1,a1,a2,a3=>
  bif decide (a2<((a1.length):Int)) then
   Ya (at? a1 a2) fun v4=>
   Ya (Zik k v4 a2) fun v5=>
   bif v5.2.2.2.2 != 0 then
    some a3
   else
   Ya (Zu 40 a3 [(v5.1,(v5.2.1,(v5.2.2.1,v5.2.2.2.1)))]) fun v6=>
   Zrf.l0 k j a1 (Yb .i64 (a2+1)) v6
  else
  some a3
def Zrf (k:Nat) (a1:List Str):Option (List G29):=
 Ya (Zrf.l0 k k a1 0 []) fun y2=>
 some y2
def Zrf.con (k:Nat):Con:=Sig.con { ps:=[.val false (.sl .str) (ros (.sl .str))],rs:=[.val false [.own 45 T29]],ntmps:=28 } (fun x=>Zrf k x)
def Zrf.cok (k:Nat):=cX (cC (Zik.ok k) cN)
def Zrf.l0.s (k:Nat):Summ:=lp 28 { tmps:=[(0,.one (.bor .str)),(3,.one (.own 1)),(4,.one (.v (.int .i64)))],slots:=[(1,.arr false 45 T29)],nb:=2 } [(.exit 0,{ tmps:=[(3,.one (.own 2))],slots:=[(2,.arr false 45 T29)],nb:=3 })] (fun j x=>Zrf.l0 k j x.1 x.2.1 x.2.2) k
def Zrf.l0.ok (k:Nat):=(lA (Zrf.cok k):Zj Tryz.prog _ (.loop (cO (cO (cR (cL (cR (cR (cB Tryz.f165)))))))) (Zrf.l0.s k))
theorem Zrf.ok (k:Nat):Zf Tryz.prog 165 (Zrf.con k):=fP (.two .auto (.two .auto (.two (.two .auto (.one (.sum (Zrf.l0.s k)))) .auto))) (Zrf.cok k) Tryz.func165 (sC (Zrf.l0.ok k) sN)
def Zgc.l0 (k:Nat):Nat→Int→List Str→List Zjb→Int→Int→Int→Int→Int→Str→List Int→List Int→Int→List Str→Option ((List Str))
 | 0,_,_,_,_,_,_,_,_,_,_,_,_,_=>none
 | j+1,a1,a2,a3,a4,a5,a6,a7,a8,a9,a10,a11,a12,a13=>
  bif decide (a12<((a11.length):Int)) then
   Ya (at? a11 a12) fun v14=>
   Ya (Zng (a1,(a2,a3)) v14) fun v15=>
   Ya (Zpb k (a2,a3) v15) fun v16=>
   Ya (Zu 16 a13 [v16]) fun v17=>
   Zgc.l0 k j a1 a2 a3 a4 a5 a6 a7 a8 a9 a10 a11 (Yb .i64 (a12+1)) v17
  else
  some a13
def Zgc (k:Nat) (a1:G27) (a2:G59):Option (List G29):=
 Ya (Zgc.l0 k k a1.1 a1.2.1 a1.2.2 a2.1 a2.2.1 a2.2.2.1 a2.2.2.2.1 a2.2.2.2.2.1 a2.2.2.2.2.2.1 a2.2.2.2.2.2.2.1 a2.2.2.2.2.2.2.2 a2.2.2.2.1 []) fun y3=>
 Ya (Zrf k y3) fun v4=>
 some v4
def Zgc.con (k:Nat):Con:=Sig.con { ps:=[.val true T27 (ros T27),.val true T59 (ros T59)],rs:=[.val false [.own 45 T29]],ntmps:=32 } (fun x=>Zgc k x.1 x.2)
def Zgc.cok (k:Nat):=cXr true false (cC (Zpb.ok k) (cC (Zng.ok k) (cC (Zrf.ok k) cN)))
def Zgc.l0.s (k:Nat):Summ:=lp 32 { tmps:=[(2,.eptr [.v (.int .i64),.bor .str,.bor Z2]),(3,.eptr [.v (.int .i64),.v (.int .i64),.v (.int .i64),.v (.int .i64),.v (.int .i64),.v .str,.bor (.int .i64),.bor (.int .i64)]),(5,.one (.own 1)),(6,.one (.v (.int .i64)))],slots:=[(1,.arr false 9 .str)],nb:=2 } [(.exit 0,{ tmps:=[(5,.one (.own 2))],slots:=[(2,.arr false 9 .str)],nb:=3 })] (fun j x=>Zgc.l0 k j x.1 x.2.1 x.2.2.1 x.2.2.2.1 x.2.2.2.2.1 x.2.2.2.2.2.1 x.2.2.2.2.2.2.1 x.2.2.2.2.2.2.2.1 x.2.2.2.2.2.2.2.2.1 x.2.2.2.2.2.2.2.2.2.1 x.2.2.2.2.2.2.2.2.2.2.1 x.2.2.2.2.2.2.2.2.2.2.2.1 x.2.2.2.2.2.2.2.2.2.2.2.2) k
def Zgc.l0.ok (k:Nat):=(lA (Zgc.cok k):Zj Tryz.prog _ (.loop (cO (cO (cR (cL (cR (cR (cB Tryz.f101)))))))) (Zgc.l0.s k))
theorem Zgc.ok (k:Nat):Zf Tryz.prog 101 (Zgc.con k):=fP (.two .auto (.two .auto (.two (.two .auto (.one (.sum (Zgc.l0.s k)))) .auto))) (Zgc.cok k) Tryz.func101 (sC (Zgc.l0.ok k) sN)
def Zfe.l0:Nat→List Z7c→Int→Int→Option (Int)
 | 0,_,_,_=>none
 | j+1,a1,a2,a3=>
  bif (decide (a3<((a1.length):Int)))&&(decide (((a1.length):Int)≤40)) then
   Ya (at? a1 a3) fun v4=>
   let e5:=Yb .i64 (a3+1)
   bif v4.1==1 then
    Zfe.l0 j a1 (Yb .i64 (a2+1)) e5
   else
   Zfe.l0 j a1 a2 e5
  else
  some a2
def Zfe (k:Nat) (a1:List Z7c):Option (Int):=
 Ya (Zfe.l0 k a1 0 0) fun y2=>
 some y2
def Zfe.con (k:Nat):Con:=Sig.con { ps:=[.val false (.sl Z2b) (ros (.sl Z2b))],rs:=[.val false [.v (.int .i64)]],ntmps:=25 } (fun x=>Zfe k x)
def Zfe.cok (k:Nat):=cX cN
def Zfe.l0.s (k:Nat):Summ:=lp 25 { tmps:=[(0,.one (.bor Z2b)),(3,.one (.v (.int .i64))),(4,.one (.v (.int .i64)))],slots:=[],nb:=0 } [(.exit 0,{ tmps:=[(3,.one (.v (.int .i64)))],slots:=[],nb:=0 })] (fun j x=>Zfe.l0 j x.1 x.2.1 x.2.2) k
def Zfe.l0.ok (k:Nat):=(lA (Zfe.cok k):Zj Tryz.prog _ (.loop (cO (cO (cR (cL (cR (cR (cB Tryz.f106)))))))) (Zfe.l0.s k))
theorem Zfe.ok (k:Nat):Zf Tryz.prog 106 (Zfe.con k):=fP (.two .auto (.two .auto (.two (.two .auto (.one (.sum (Zfe.l0.s k)))) .auto))) (Zfe.cok k) Tryz.func106 (sC (Zfe.l0.ok k) sN)
def Zp.l0:Nat→List G29→Int→Int→Option (Unit ⊕ Int)
 | 0,_,_,_=>none
 | j+1,a1,a2,a3=>
  bif decide (a3<((a1.length):Int)) then
   Ya (at? a1 a3) fun v4=>
   Ya (Zrh v4 a2) fun v5=>
   bif !v5 then
    some (.inr 1)
   else
   Zp.l0 j a1 a2 (Yb .i64 (a3+1))
  else
  some (.inl ())
def Zp.l1:Nat→List G29→Int→Int→Option (Unit ⊕ Int)
 | 0,_,_,_=>none
 | j+1,a1,a2,a3=>
  bif decide (a3<a2) then
   Ya (at? a1 a2) fun v4=>
   let e5:=Yb .i64 (a3+1)
   bif v4.1 != 5 then
    Ya (at? a1 a3) fun v6=>
    bif v6.1 != 5 then
     Ya (at? a1 a2) fun v7=>
     Ya (at? a1 a3) fun v8=>
     bif v7.2.1==v8.2.1 then
      some (.inr 12)
     else
     Zp.l1 j a1 a2 e5
    else
    Zp.l1 j a1 a2 e5
   else
   Zp.l1 j a1 a2 e5
  else
  some (.inl ())
def Zp.l2 (k:Nat):Nat→List G29→Int→Option (Unit ⊕ Int)
 | 0,_,_=>none
 | j+1,a1,a2=>
  bif decide (a2<((a1.length):Int)) then
   Ya (Zp.l1 k a1 a2 0) fun
    | .inl y3=>
     Zp.l2 k j a1 (Yb .i64 (a2+1))
    | .inr y4=>
     some (.inr y4)
  else
  some (.inl ())
def Zp.l3:Nat→List G29→Int→Int→Option (Unit ⊕ Int)
 | 0,_,_,_=>none
 | j+1,a1,a2,a3=>
  bif decide (a3<((a1.length):Int)) then
   Ya (at? a1 a3) fun v4=>
   let e5:=Yb .i64 (a3+1)
   bif v4.1 != 5 then
    Zp.l3 j a1 a2 e5
   else
   Ya (at? a1 a3) fun v6=>
   bif decide (v6.2.2.1≤a2) then
    some (.inr 8)
   else
   Ya (at? a1 a3) fun v7=>
   Zp.l3 j a1 v7.2.2.1 e5
  else
  some (.inl ())
def Zp (k:Nat) (a1:List G29) (a2:Int):Option (Int):=
 bif decide (20<((a1.length):Int)) then
  some 1
 else
 Ya (Zib a2 1 8) fun v3=>
 bif !v3 then
  some 1
 else
 Ya (Zp.l0 k a1 a2 0) fun
  | .inl y4=>
   Ya (Zp.l2 k k a1 0) fun
    | .inl y5=>
     Ya (Zp.l3 k a1 (-1) 0) fun
      | .inl y6=>
       some 0
      | .inr y7=>
       some y7
    | .inr y8=>
     some y8
  | .inr y9=>
   some y9
def Zp.con (k:Nat):Con:=Sig.con { ps:=[.val false (.sl T29) (ros (.sl T29)),.val false (.int .i64) (ros (.int .i64))],rs:=[.val false [.v (.int .i64)]],ntmps:=93 } (fun x=>Zp k x.1 x.2)
def Zp.cok (k:Nat):=cX (cC (Zib.ok k) (cC (Zrh.ok k) cN))
def Zp.l0.s (k:Nat):Summ:=lp 93 { tmps:=[(0,.one (.bor T29)),(1,.one (.v (.int .i64))),(5,.one (.v (.int .i64)))],slots:=[],nb:=0 } [(.exit 0,{ tmps:=[],slots:=[],nb:=0 }),(.ret,{ tmps:=[(4,.one (.v (.int .i64)))],slots:=[],nb:=0 })] (fun j x=>Zp.l0 j x.1 x.2.1 x.2.2) k
def Zp.l0.ok (k:Nat):=(lA (Zp.cok k):Zj Tryz.prog _ (.loop (cO (cO (cR (cL (cR (cR (cB Tryz.f102)))))))) (Zp.l0.s k))
def Zp.l1.s (k:Nat):Summ:=lp 93 { tmps:=[(0,.one (.bor T29)),(6,.one (.v (.int .i64))),(7,.one (.v (.int .i64)))],slots:=[],nb:=0 } [(.exit 4,{ tmps:=[],slots:=[],nb:=0 }),(.ret,{ tmps:=[(4,.one (.v (.int .i64)))],slots:=[],nb:=0 })] (fun j x=>Zp.l1 j x.1 x.2.1 x.2.2) k
def Zp.l1.ok (k:Nat):=(lA (Zp.cok k):Zj Tryz.prog _ (.loop (cO (cO (cR (cO (cL (cR (cO (cO (cR (cL (cR (cR (cR (cB Tryz.f102))))))))))))))) (Zp.l1.s k))
def Zp.l2.s (k:Nat):Summ:=lp 93 { tmps:=[(0,.one (.bor T29)),(6,.one (.v (.int .i64)))],slots:=[],nb:=0 } [(.exit 2,{ tmps:=[],slots:=[],nb:=0 }),(.ret,{ tmps:=[(4,.one (.v (.int .i64)))],slots:=[],nb:=0 })] (fun j x=>Zp.l2 k j x.1 x.2) k
def Zp.l2.ok (k:Nat):=(lP (.two .auto (.two (.one (.two .auto (.one (.sum (Zp.l1.s k))))) .auto)) (Zp.cok k) (sC (Zp.l1.ok k) sN):Zj Tryz.prog _ (.loop (cO (cO (cR (cL (cR (cR (cR (cB Tryz.f102))))))))) (Zp.l2.s k))
def Zp.l3.s (k:Nat):Summ:=lp 93 { tmps:=[(0,.one (.bor T29)),(8,.one (.v (.int .i64))),(9,.one (.v (.int .i64)))],slots:=[],nb:=0 } [(.exit 6,{ tmps:=[],slots:=[],nb:=0 }),(.ret,{ tmps:=[(4,.one (.v (.int .i64)))],slots:=[],nb:=0 })] (fun j x=>Zp.l3 j x.1 x.2.1 x.2.2) k
def Zp.l3.ok (k:Nat):=(lA (Zp.cok k):Zj Tryz.prog _ (.loop (cO (cO (cR (cL (cR (cR (cR (cR (cR (cB Tryz.f102))))))))))) (Zp.l3.s k))
theorem Zp.ok (k:Nat):Zf Tryz.prog 102 (Zp.con k):=fP (.two .auto (.two .auto (.two (.two .auto (.one (.sum (Zp.l0.s k)))) (.two (.two .auto (.one (.sum (Zp.l2.s k)))) (.two .auto (.two (.two .auto (.one (.sum (Zp.l3.s k)))) .auto)))))) (Zp.cok k) Tryz.func102 (sC (Zp.l0.ok k) (sC (Zp.l2.ok k) (sC (Zp.l3.ok k) sN)))
end Go.Proofs.Qz
