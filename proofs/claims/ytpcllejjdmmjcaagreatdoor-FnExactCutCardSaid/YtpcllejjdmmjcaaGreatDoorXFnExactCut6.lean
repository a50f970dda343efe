/- What the law FnExactCut needs, part 7 of 15: the Lean functions of the Go functions that it reaches, with the proofs that the calls come to what they say, and plain facts about them. Conditions: those that each theorem states. Written by a session and by its programs (after the kit's printer). -/
import Derived.Lib.LaidTab
import Derived.Lib.AppendIntMem
import Derived.Shelf.Strings.Builder1
import Derived.Shelf.Strings.Builder2
import Derived.Shelf.Strings.OnBuilder
import Derived.Shelf.Strings.BuilderF
import Derived.Shelf.Strings.Prefix
import Derived.Shelf.Bits.Mul64
import Derived.Shelf.Strings.Repeat
import Derived.Ground.Names2Prog
import Derived.Shelf.Slices.Delete
import Derived.Shelf.Slices.Cells
import Derived.Shelf.Slices.Empties
import Derived.Ground.SlgfProg
import Derived.Shelf.SlicesE.IndexFunc
import Derived.Test.YtpcllejjdmmjcaaGreatDoorProg
import Derived.Test.YtpcllejjdmmjcaaGreatDoorXFnExactCut4
import Derived.Test.YtpcllejjdmmjcaaGreatDoorXFnExactCut5
open Option renaming bind → Ya, some → Yj
open Go.Proofs.Tryz renaming prog → Yb, f262 → Yk, func262 → Yl, isAgg0 → Ym, isAgg3 → Yn, isAgg4 → Yo, isAgg5 → Yp, sizeOf0 → Yq, sizeOf3 → Yr, sizeOf4 → Ys, sizeOf5 → Yt, underlying0 → Yu, underlying3 → Yv, underlying4 → Yw, underlying5 → Yx, zeroValue0 → Yy, zeroValue3 → Yz, zeroValue4 → Y0, zeroValue5 → Y1, func184 → Yaa, func297 → Yba, func298 → Yca, func299 → Yda, func313 → Yea, func314 → Yfa, func322 → Yga, func323 → Yha, func94 → Yia, isAgg20 → Yja, isAgg22 → Yka, isAgg307 → Yla, isAgg309 → Yma, isAgg312 → Yna, isAgg313 → Yoa, isAgg327 → Ypa, isAgg334 → Yqa, isAgg9 → Yra, sizeOf20 → Ysa, sizeOf22 → Yta, sizeOf307 → Yua, sizeOf309 → Yva, sizeOf312 → Ywa, sizeOf313 → Yxa, sizeOf327 → Yya, sizeOf334 → Yza, sizeOf9 → Y0a, underlying20 → Y1a, underlying22 → Y2a, underlying307 → Y3a, underlying309 → Y4a, underlying312 → Y5a, underlying313 → Y6a, underlying327 → Y7a, underlying334 → Y8a, underlying9 → Y9a, zeroValue20 → Yab, zeroValue22 → Ybb, zeroValue307 → Ycb, zeroValue309 → Ydb, zeroValue312 → Yeb, zeroValue313 → Yfb, zeroValue327 → Ygb, zeroValue334 → Yhb, zeroValue9 → Yib
open Go.IntKind renaming wrap → Yc, max → Y3
open Bool renaming and_eq_true → Yd, and_true → Y2
open List renaming all_cons → Ye, map_cons → Yf, mem_singleton → Yh, replicate → Yi, all_append → Y4, append_assoc → Y5, cons → Y6, cons_append → Y7, length → Y8
open Int renaming toNat → Yg
open Nat renaming mul_one → Y9
namespace Go.Proofs.Qz
open Go Go.RowKit
set_option linter.unusedVariables false
def Zk1:(r:Ty)→r.T→Option Value
 | .int k,n=>some (.int k n)
 | .bool,b=>some (.bool b)
 | .str,s=>some (.string (ba s))
 | _,_=>none
section
variable {P:Program} {w:World}
theorem Z4mb {F:Nat→Prop}:∀{r:Ty} {x:r.T} {v:Value},Zk1 r x=some v→Rep w F r x [v]∧r.sz=1
 | .int k,_,_,h=>by cases h;exact ⟨rfl,rfl⟩
 | .bool,_,_,h=>by cases h;exact ⟨rfl,rfl⟩
 | .str,_,_,h=>by cases h;exact ⟨rfl,rfl⟩
 | .sl _,_,_,h=>by cases h
 | .pair _ _,_,_,h=>by cases h
 | .unit,_,_,h=>by cases h
theorem Zfib {n:Nat} {r:Ty} {l:List r.T} {cs:Array Value} {ty:TypeId} {fr:Nat×Nat} (hg:w.heap[n]? = some (.cells cs ty fr)) (h:l.map (Zk1 r)=cs.toList.map some) (hr:r.sz=1):Gl1 w n r l:=by
 have hlen:l.length=cs.size:=by
  have:=congrArg Y8 h;simpa using this
 refine ⟨(Array.getElem?_eq_some_iff.1 hg).1,⟨_,_,rfl,Nat.le_refl _,.inr ⟨n,0,rfl,rfl,fun j x hj=>?_⟩⟩,cs,ty,fr,hg,by rw [hr,hlen,Y9]⟩
 have hx:=congrArg (fun z=>z[j]?) h
 simp only [List.getElem?_map,hj,Option.map_some] at hx
 cases hv:cs.toList[j]? with
 | none=>rw [hv] at hx;cases hx
 | some v=>
  rw [hv] at hx;have hx:Zk1 r x=some v:=Yj.inj hx;refine ⟨[v],fun i u hu=>?_,(Z4mb hx).1⟩;cases i with
  | zero=>
   cases hu;rw [cell_of_row w n _ cs ty fr hg,hr,Nat.zero_add,Y9,Nat.add_zero];simpa using hv
  | succ i=>cases hu
theorem Zgbb {ps:List MemPlace}:∀{l:List (String×DataW Unit)} {ps:List MemPlace},DataW.LaidVars P w l ps→∀{name:String} {d:DataW Unit},(name,d)∈l→∃g t cs fuel p,P.globalNamed name=some g∧(P.globals[g]?).map (·.type)=some t∧w.var? P name=some cs∧DataW.trod (fun _=>()) P w 0 (fun _=>true) false fuel t cs.toList=some (d,p)
 | [],_,_,_,_,hm=>nomatch hm
 | (n,d)::l,_,⟨g,t,cs,fuel,p,q,h1,h2,h3,h4,h5,_⟩,name,d',hm=>by
  rcases List.mem_cons.1 hm with e | hm
  ·cases e
   exact ⟨g,t,cs,fuel,p,h1,h2,h3,h4⟩
  ·exact Zgbb (ps:=ps) h5 hm
theorem Zfqb {name:String} {g:Nat} {cs:Array Value} (hg:P.globalNamed name=some g) (h:w.var? P name=some cs):∃ty fr,w.heap[g]? = some (.cells cs ty fr):=by
 unfold World.var? at h
 rw [hg,Option.bind_some] at h
 split at h
 ·rename_i c ty fr hb
  cases h;exact ⟨ty,fr,hb⟩
 ·cases h
theorem Zfbb {l:List (String×DataW Unit)} (h:laidMet P l w) {name:String} {k:IntKind} {zs:List Int} (hm:(name,Lib.tabData k zs)∈l) {g n:Nat} {t e:TypeId} (hg:P.globalNamed name=some g) (hty:(P.globals[g]?).map (·.type)=some t)
  (ht:P.underlying t=some (.array n e)) (he:P.underlying e=some (.int k)) (hce:P.cellsOf e=1) (hct:P.cellsOf t=n):Gl1 w g (.int k) zs:=by
 obtain ⟨ps,hv,_⟩:=h
 obtain ⟨g',t',cs,fuel,p,h1,h2,h3,h4⟩:=Zgbb (ps:=ps) hv hm
 obtain rfl:=Yj.inj (hg.symm.trans h1)
 obtain rfl:=Yj.inj (hty.symm.trans h2)
 obtain ⟨ty,fr,hb⟩:=Zfqb hg h3
 have hc:=Lib.cells_of_tab ht he hce hct h4
 exact Zfib hb (by rw [hc];simp [Zk1]) rfl
end
end Go.Proofs.Qz
namespace Go.Proofs.Qz
open Go
set_option linter.unusedVariables false
theorem cC {P:Program} {n:Nat} {c:Con} {L:List (Nat×Con)} (h:Zf P n c) (t:Zho P L):Zho P ((n,c)::L):=⟨h,t⟩
theorem cN {P:Program}:Zho P []:=trivial
theorem sC {P:Program} {C:Ctx} {c:Code} {s:Summ} {L:List (Summ×Code)} (h:Zj P C c s) (t:Zgl P C L):Zgl P C ((s,c)::L):=⟨h,t⟩
theorem sN {P:Program} {C:Ctx}:Zgl P C []:=trivial
theorem Z0q:∀c:Code,Zae .auto c=[]
 | .seq a b=>by
  show Zae .auto a++Zae .auto b=[];rw [Z0q a,Z0q b];rfl
 | .cond _ a b=>by
  show Zae .auto a++Zae .auto b=[];rw [Z0q a,Z0q b];rfl
 | .block _ a=>Z0q a
 | .skip=>rfl
 | .region _ _ _=>rfl
 | .loop _=>rfl
 | .rangeFunc _ _ _ _=>rfl
 | .exit _=>rfl
 | .scope _=>rfl
 | .label _=>rfl
 | .goto _=>rfl
 | .ret=>rfl
 | .refuse _=>rfl
def lp (n:Nat) (ish:Shape) (outs:List (Ex×Shape)) (F:Nat→Zab ish.tys→Option (Zjh outs)) (k:Nat):Summ:={ n:=n,ish:=ish,outs:=outs,f:=F k }
def lq (n:Nat) (ish:Shape) (outs:List (Ex×Shape)) (F:Zab ish.tys→Option (Zjh outs)):Summ:={ n:=n,ish:=ish,outs:=outs,f:=F }
section
variable {P:Program} {C:Ctx} {c:Code} {L:List (Summ×Code)} {n:Nat} {ish:Shape} {outs:List (Ex×Shape)}
theorem lP (p:Plan) {F:Nat→Zab ish.tys→Option (Zjh outs)} {k:Nat} (H:CtxOk P C) (hs:Zgl P C L) (hl:Zae p c=L:=by kernel_rfl) (hok:(lp n ish outs F k).ok=true:=by kernel_rfl) (h0:∀x,F 0 x=none:=by intro x;rfl)
  (hev:∀j x,V C p c (mk ish n x) (fun e st'=>match e with
   | .nrm=>(rd ish st').bind (F j)
   | e=>Z2k e st' outs)=F (j+1) x:=by intro j x;kernel_rfl):Zj P C (.loop c) (lp n ish outs F k):=
 Z8eb hok (sum_loop (s:=lp n ish outs F k) (F:=F) H hok (Z4z hl hs) h0 (fun j x y h=>(hev j x).trans h) k rfl)
theorem lA {F:Nat→Zab ish.tys→Option (Zjh outs)} {k:Nat} (H:CtxOk P C) (hok:(lp n ish outs F k).ok=true:=by kernel_rfl) (h0:∀x,F 0 x=none:=by intro x;rfl)
  (hev:∀j x,V C .auto c (mk ish n x) (fun e st'=>match e with
   | .nrm=>(rd ish st').bind (F j)
   | e=>Z2k e st' outs)=F (j+1) x:=by intro j x;kernel_rfl):Zj P C (.loop c) (lp n ish outs F k):=lP .auto H sN (Z0q c) hok h0 hev
theorem jP (p:Plan) {F:Zab ish.tys→Option (Zjh outs)} (H:CtxOk P C) (hs:Zgl P C L) (hl:Zae p c=L:=by kernel_rfl) (hok:(lq n ish outs F).ok=true:=by kernel_rfl)
  (hev:∀x,V C p c (mk ish n x) (fun e st'=>Z2k e st' outs)=F x:=by intro x;kernel_rfl):Zj P C c (lq n ish outs F):=
 Z8eb hok (Zspb (s:=lq n ish outs F) (p:=p) H hok (Z4z hl hs) (fun x y h=>(hev x).trans h))
theorem jA {F:Zab ish.tys→Option (Zjh outs)} (H:CtxOk P C) (hok:(lq n ish outs F).ok=true:=by kernel_rfl)
  (hev:∀x,V C .auto c (mk ish n x) (fun e st'=>Z2k e st' outs)=F x:=by intro x;kernel_rfl):Zj P C c (lq n ish outs F):=jP .auto H sN (Z0q c) hok hev
theorem fP (p:Plan) {f:FuncId} {fn:Func} {s:Sig} {F:Zab s.ins→Option (Zab s.outs)} (H:CtxOk P C) (hf:P.funcs[f]? = some fn) (hs:Zgl P C L) (hname:(fn.name == "runtime.NumGoroutine")=false:=by kernel_rfl) (hb:fn.body=some (cB fn):=by kernel_rfl)
  (hn:fn.ntmps=s.ntmps:=by kernel_rfl) (hps:Nat.ble s.ps.length s.ntmps=true:=by kernel_rfl) (hl:Zae p (cB fn)=L:=by kernel_rfl) (hev:∀x,s.ev C p fn.results.toList (cB fn) x=F x:=by intro x;kernel_rfl):Zf P f (s.con F):=
 Zhpb H hf hname hb hn hps (Z4z hl hs) (fun x y h=>(hev x).trans h)
theorem fA {f:FuncId} {fn:Func} {s:Sig} {F:Zab s.ins→Option (Zab s.outs)} (H:CtxOk P C) (hf:P.funcs[f]? = some fn) (hname:(fn.name == "runtime.NumGoroutine")=false:=by kernel_rfl) (hb:fn.body=some (cB fn):=by kernel_rfl)
  (hn:fn.ntmps=s.ntmps:=by kernel_rfl) (hps:Nat.ble s.ps.length s.ntmps=true:=by kernel_rfl) (hev:∀x,s.ev C .auto fn.results.toList (cB fn) x=F x:=by intro x;kernel_rfl):Zf P f (s.con F):=fP .auto H hf sN hname hb hn hps (Z0q _) hev
end
end Go.Proofs.Qz
namespace Go.Proofs.Qz
open Go Go.RowKit
set_option linter.unusedVariables false
def Zh7:CL→CL
 | .leaf (.bor r l)=>.leaf (.list r l)
 | x=>x
def Zl1:CArg→CArg
 | .val a xs=>.val a (xs.map Zh7)
 | x=>x
def roP:PL→PL
 | .v=>.ro
 | x=>x
def roK:PK→PK
 | .val a t ms=>.val a t (ms.map roP)
 | x=>x
def Sig.conR (s:Sig) (f:Zab s.ins→Option (Zab s.outs)):Con:={ ms:=(s.ps.map roK).map PK.pm,f:=fun asx=>s.run f (asx.map Zl1) }
section
variable {w:World} {F F' B:Nat→Prop}
theorem Zbe.weak (hF:∀b,F b→B b) {x:Leaf} {v:Value} (h:VLs w F B [.leaf x] [v] []):VLs w B B [Zh7 (.leaf x)] [v] []:=by
 have h:=h.1
 cases x with
 | bor r l=>exact ⟨h,rfl⟩
 | _=>exact ⟨Zbe.mono hF (fun _ q=>q) h,rfl⟩
theorem VLs.weak (hF:∀b,F b→B b):∀{xs:List CL} {vs:List Value} {L:List GI},VLs w F B xs vs L→VLs w B B (xs.map Zh7) vs L
 | [],[],_,h=>h
 | .leaf x::xs,v::vs,L,h=>by
  have h2:=VLs.weak hF h.2;have h1:Zbe w F B x v:=h.1;cases x with
  | bor r l=>exact ⟨h1,h2⟩
  | _=>exact ⟨Zbe.mono hF (fun _ q=>q) h1,h2⟩
 | .row _ _ _::xs,v::vs,.row _::L,h=>⟨h.1,h.2.1.mono hF,VLs.weak hF h.2.2⟩
 | .nil::xs,v::vs,.no::L,h=>⟨h.1,VLs.weak hF h.2⟩
theorem Z8g.weak (hF:∀b,F b→B b):∀{asx:List CArg} {vs:List Value} {L:List GI} {M:List Value},Z8g w F B asx vs L M→Z8g w B B (asx.map Zl1) vs L M
 | [],[],_,_,h=>h
 | a::asx,v::vs,L,M,⟨L1,L2,M1,M2,h1,h2,h3,h4⟩=>by
  refine ⟨L1,L2,M1,M2,h1,h2,?_,Z8g.weak hF h4⟩;cases a with
  | val ag xs=>
   cases ag with
   | false=>exact ⟨h3.1,VLs.weak hF h3.2⟩
   | true=>
    obtain ⟨k1,cs,k2,k3⟩:=h3;exact ⟨k1,cs,k2,VLs.weak hF k3⟩
  | _=>exact h3.mono hF (fun _ q=>q)
def Zlbb:Leaf→Bool
 | .list _ _=>false
 | .bor _ _=>false
 | _=>true
def Zjt:RL→Bool
 | .leaf x=>Zlbb x
 | .own _ r _=>flat r
def Zqn:RC→Bool
 | .val _ xs=>xs.all Zjt
 | .box _ xs=>xs.all Zjt
theorem Z4b.flat {z:Bool} {e:TypeId} {t:Ty} {v:Value} {l:List t.T} (ht:Go.Proofs.Qz.flat t=true) (h:Z4b w F z e t v l):Z4b w F' z e t v l:=by
 rcases h.cases with ⟨he,h | ⟨g,cap,cs,fr,h0,h1,h2,h3,h4,h5,h6⟩⟩ | ⟨he,rfl,hM | hM⟩
 ·exact Zac.ok (.inl h) he
 ·exact Zac.ok (.inr ⟨g,cap,cs,fr,h0,h1,h2,h3,h4,h5,fun j x hj=>Rep.flat ht (h6 j x hj)⟩) he
 ·exact Zhn.ok hM he
 ·exact Zam.ok hM
theorem Zce.flat:∀{xs:List RL} {vs:List Value} {O:List Conc},xs.all Zjt=true→Zce w F xs vs O→Zce w F' xs vs O
 | [],[],_,_,h=>h
 | .leaf x::xs,v::vs,O,hf,h=>by
  rw [Ye,Yd] at hf;refine ⟨?_,Zce.flat hf.2 h.2⟩;have h1:Zbe w F (fun _=>False) x v:=h.1;cases x with
  | list r l=>cases hf.1
  | bor r l=>cases hf.1
  | _=>exact h1
 | .own e r l::xs,v::vs,c::O,hf,h=>by
  rw [Ye,Yd] at hf;exact ⟨h.1,Z4b.flat hf.1 h.2.1,Zce.flat hf.2 h.2.2⟩
theorem Z9l.flat {p:RC} {v:Value} {O:List Conc} (hf:Zqn p=true) (h:Z9l w F p v O):Z9l w F' p v O:=by
 cases p with
 | val a xs=>
  cases a with
  | true=>
   obtain ⟨cs,h1,h2⟩:=h;exact ⟨cs,h1,Zce.flat hf h2⟩
  | false=>exact Zce.flat hf h
 | box t xs=>
  obtain ⟨g,cs,fr,O1,h1,h2,h3,h4,h5⟩:=h;exact ⟨g,cs,fr,O1,h1,h2,h3,h4,Zce.flat hf h5⟩
theorem Zwj.flat:∀{ps:List RC} {vs:List Value} {O:List Conc},ps.all Zqn=true→Zwj w F ps vs O→Zwj w F' ps vs O
 | [],[],_,_,h=>h
 | p::ps,v::vs,O,hf,⟨O1,O2,h1,h2,h3⟩=>by
  rw [Ye,Yd] at hf;exact ⟨O1,O2,h1,Z9l.flat hf.1 h2,Zwj.flat hf.2 h3⟩
theorem Z7mb {rs:List RC} {v:Value} {O:List Conc} (hf:rs.all Zqn=true) (h:Zeu w F rs v O):Zeu w F' rs v O:=by
 match rs,hf,h with
 | [p],hf,h=>
  rw [Ye,Yd] at hf;exact Z9l.flat (p:=p) hf.1 h
 | [],hf,⟨vs,h1,h2⟩=>exact ⟨vs,h1,Zwj.flat hf h2⟩
 | p::q::ps,hf,⟨vs,h1,h2⟩=>exact ⟨vs,h1,Zwj.flat hf h2⟩
theorem Z3mb {L:List GI} {O:List Conc} (h:Zdi w F L [] O):Zdi w F' L [] O:=by
 match L,h with
 | [],h=>exact h
def Zp3:RK→Bool
 | .v t=>flat t
 | .own _ r=>flat r
def noB:PK→Bool
 | .val _ _ ms=>ms.all fun m=>match m with
  | .own _=>false
  | _=>true
 | .rptr _=>true
 | _=>false
def Sig.keptOk (s:Sig):Bool:=s.ps.all noB&&s.rs.all fun r=>r.ks.all Zp3
theorem Zn4:∀(t:Ty) (x:t.T),flat t=true→∀y∈Z0 t x,Zlbb y=true
 | .int _,x,_,y,hy=>by rw [Yh.1 hy];rfl
 | .bool,x,_,y,hy=>by rw [Yh.1 hy];rfl
 | .str,x,_,y,hy=>by rw [Yh.1 hy];rfl
 | .unit,x,_,y,hy=>by cases hy
 | .sl _,x,h,y,hy=>by cases h
 | .pair a b,x,h,y,hy=>by
  have h:(flat a&&flat b)=true:=h;rw [Yd] at h;rcases List.mem_append.1 hy with hy | hy
  ·exact Zn4 a x.1 h.1 y hy
  ·exact Zn4 b x.2 h.2 y hy
def DV.t:DV→Ty
 | .mk t _=>t
theorem Zfcb:∀(ts:List Ty) (y:Zab ts),(Zve ts y).map DV.t=ts
 | [],_=>rfl
 | [t],y=>rfl
 | t::u::ts,y=>by
  show DV.t _::(Zve (u::ts) y.2).map DV.t=_;rw [Zfcb (u::ts) y.2];rfl
theorem Zsy:∀(ks:List RK) (ds:List DV) (rest:List Ty),ds.map DV.t=ks.map RK.ty++rest→ks.all Zp3=true→(Z7 ks ds).1.all Zjt=true∧(Z7 ks ds).2.map DV.t=rest
 | [],ds,rest,h,_=>⟨rfl,h⟩
 | .v t::ks,[],rest,h,_=>by cases h
 | .own e r::ks,[],rest,h,_=>by cases h
 | .v t::ks,.mk t' x::ds,rest,h,hf=>by
  rw [Ye,Yd] at hf;rw [Yf,Yf,Y7,Y6.injEq] at h;obtain ⟨k1,k2⟩:=Zsy ks ds rest h.2 hf.2;have ht:t'=t:=h.1;subst ht;refine ⟨?_,k2⟩;show ((Z0 t' x).map RL.leaf++(Z7 ks ds).1).all Zjt=true;rw [Y4,k1,Y2,List.all_map];exact List.all_eq_true.2 fun y hy=>Zn4 t' x hf.1 y hy
 | .own e r::ks,.mk t' x::ds,rest,h,hf=>by
  rw [Ye,Yd] at hf;rw [Yf,Yf,Y7,Y6.injEq] at h;obtain ⟨k1,k2⟩:=Zsy ks ds rest h.2 hf.2;have ht:t' = .sl r:=h.1;subst ht;refine ⟨?_,k2⟩;show ([RL.own e r x]++(Z7 ks ds).1).all Zjt=true;rw [Y4,k1,Y2];show (flat r&&true)=true;rw [show flat r=true from hf.1];rfl
theorem Zb3:∀(rs:List SK) (ds:List DV) (rest:List Ty),ds.map DV.t=Zds rs++rest→(rs.all fun r=>r.ks.all Zp3)=true→(Zde rs ds).1.all Zqn=true∧(Zde rs ds).2.map DV.t=rest
 | [],ds,rest,h,_=>⟨rfl,h⟩
 | .val a ks::rs,ds,rest,h,hf=>by
  rw [Ye,Yd] at hf;obtain ⟨k1,k2⟩:=Zsy ks ds (Zds rs++rest) (by rw [h];show (ks.map RK.ty++Zds rs)++rest=_;rw [Y5]) hf.1;obtain ⟨j1,j2⟩:=Zb3 rs (Z7 ks ds).2 rest k2 hf.2;refine ⟨?_,j2⟩;show (Zqn (.val a (Z7 ks ds).1)&&_)=true;rw [show Zqn (.val a (Z7 ks ds).1)=true from k1];exact j1
 | .box a ks::rs,ds,rest,h,hf=>by
  rw [Ye,Yd] at hf;obtain ⟨k1,k2⟩:=Zsy ks ds (Zds rs++rest) (by rw [h];show (ks.map RK.ty++Zds rs)++rest=_;rw [Y5]) hf.1;obtain ⟨j1,j2⟩:=Zb3 rs (Z7 ks ds).2 rest k2 hf.2;refine ⟨?_,j2⟩;show (Zqn (.box a (Z7 ks ds).1)&&_)=true;rw [show Zqn (.box a (Z7 ks ds).1)=true from k1];exact j1
theorem Zldb:∀(ts:List Ty) (ms:List PL),(ms.all fun m=>match m with
  | .own _=>false
  | _=>true)=true→Zlj ts ms=[]
 | [],[],_=>rfl
 | [],_::_,_=>rfl
 | t::ts,[],_=>by cases t <;> rfl
 | t::ts,m::ms,h=>by
  rw [Ye,Yd] at h;have ih:=Zldb ts ms h.2;cases m with
  | own e=>cases h.1
  | v=>cases t <;> exact ih
  | ro=>cases t <;> exact ih
theorem Zv9:∀(ps:List PK) (ds:List DV),ps.all noB=true→Zbh ps ds=[]
 | [],_,_=>rfl
 | p::ps,ds,h=>by
  rw [Ye,Yd] at h
  have e:Zmv p ds=([],ds):=by
   cases p with
   | val a t ms=>
    show Z2j (Zlj (Z9 t) ms) ds=_;rw [Zldb _ _ h.1];rfl
   | rptr t=>rfl
   | ref _ _ _=>cases h.1
   | fn _ _=>cases h.1
   | mv _ _=>cases h.1
  show (Zmv p ds).1++Zbh ps (Zmv p ds).2=[];rw [e];exact Zv9 ps ds h.2
end
theorem Z48 {P:Program} {n:FuncId} {s:Sig} {f:Zab s.ins→Option (Zab s.outs)} (h:Zf P n (s.con f)) (hk:s.keptOk=true:=by kernel_rfl):Zf P n (s.conR f):=by
 unfold Sig.keptOk at hk
 rw [Yd] at hk
 refine ⟨h.1,fun asx rr hrr w vs F L M hF hnd hgl hargs=>?_⟩
 have hrr:(s.run f (asx.map Zl1)).val=some rr:=hrr
 have hfl:rr.res.all Zqn=true∧rr.refs=[]:=by
  unfold Sig.run at hrr;split at hrr
  ·split at hrr
   ·rename_i x _
    obtain ⟨y,_,hy⟩:=Option.map_eq_some_iff.1 (show (f x).map s.enc=some rr from hrr);rw [← hy];exact ⟨(Zb3 s.rs (Zve s.outs y) (Z91 s.ps) (Zfcb _ _) hk.2).1,Zv9 s.ps _ hk.1⟩
   ·cases hrr
  ·cases hrr
 refine (h.2 (asx.map Zl1) rr hrr w vs (Bor w (GI.blocks L++Zzb M)) L M (fun b hb=>hb) hnd hgl (Z8g.weak hF hargs)).mono fun e w' ⟨v,he,hK,O1,O2,h1,h2,h3,h4⟩=>?_
 refine ⟨v,he,hK,O1,O2,h1,h2,?_,Z7mb hfl.1 h4⟩
 rw [hfl.2] at h3 ⊢
 exact Z3mb h3
end Go.Proofs.Qz
section
namespace Go.Proofs
open Go.Shelf
def Tryz.lays156_ren:Go.Shelf.Ren:=⟨fun | 156=>271 | 165=>297 | 166=>298 | 169=>299 | 240=>313 | 241=>314 | 276=>322 | 277=>323 | n=>n,fun | 31=>23 | 9=>9 | 3=>3 | 4=>4 | 0=>0 | 20=>20 | 72=>309 | 76=>313 | 70=>307 | 37=>22 | 75=>312 | 127=>327 | 164=>334 | 5=>5 | 80=>204 | n=>n,fun | n=>n⟩
theorem Tryz.lays156:Go.Proofs.Lays.n156 Yb Tryz.lays156_ren:={
 mixed:=by kernel_rfl
 f156:=Tryz.func271.trans (congrArg some (by kernel_rfl))
 f165:=Yba.trans (congrArg some (by kernel_rfl))
 f166:=Yca.trans (congrArg some (by kernel_rfl))
 f169:=Yda.trans (congrArg some (by kernel_rfl))
 f240:=Yea.trans (congrArg some (by kernel_rfl))
 f241:=Yfa.trans (congrArg some (by kernel_rfl))
 f276:=Yga.trans (congrArg some (by kernel_rfl))
 f277:=Yha.trans (congrArg some (by kernel_rfl))
 t0:=Yu
 a0:=Ym
 z0:=Yq
 v0:=Yy
 t3:=Yv
 a3:=Yn
 z3:=Yr
 v3:=Yz
 t4:=Yw
 a4:=Yo
 z4:=Ys
 v4:=Y0
 t9:=Y9a
 a9:=Yra
 z9:=Y0a
 v9:=Yib
 t20:=Y1a
 a20:=Yja
 z20:=Ysa
 v20:=Yab
 t31:=Tryz.underlying23
 a31:=Tryz.isAgg23
 z31:=Tryz.sizeOf23
 v31:=Tryz.zeroValue23
 t37:=Y2a
 a37:=Yka
 z37:=Yta
 v37:=Ybb
 t70:=Y3a
 a70:=Yla
 z70:=Yua
 v70:=Ycb
 t72:=Y4a
 a72:=Yma
 z72:=Yva
 v72:=Ydb
 t75:=Y5a
 a75:=Yna
 z75:=Ywa
 v75:=Yeb
 t76:=Y6a
 a76:=Yoa
 z76:=Yxa
 v76:=Yfb
 t127:=Y7a
 a127:=Ypa
 z127:=Yya
 v127:=Ygb
 t164:=Y8a
 a164:=Yqa
 z164:=Yza
 v164:=Yhb }
theorem Tryz.Builder_Extra_156:Builder.Extra Yb Tryz.lays156_ren:={
 sizeBuilder:=by kernel_rfl
 liesBuilder:=by kernel_rfl
 t5:=Yx
 a5:=Yp
 z5:=Yt
 v5:=Y1
 infoByte:=by kernel_rfl
 cellsByte:=by kernel_rfl
 sizeByte:=by kernel_rfl
 neB5:=by decide }
open Go.RowKit in
theorem Tryz.strings_Join_none (a:Option Addr) (c:Nat) (sep:ByteArray) (w:World):
  Calls Yb 271 #[.slice a 0 c,.string sep] w fun e w'=>e = .returned (.string ⟨#[]⟩)∧w'=w:=Any.strings_Join_none Tryz.lays156 Tryz.Builder_Extra_156 a c sep w
open Go.RowKit in
theorem Tryz.strings_Join (bk o c:Nat) (xs:List ByteArray) (sep:ByteArray) (w:World) (hcells:∀(j:Nat) x,xs[j]? = some x→w.cell? ⟨bk,o+j,none⟩=some (.string x)) (hbk:bk<w.heap.size) (hN:xs.length≤140737488355328) (hcap:xs.length≤c) (hlen:(Lib.join (xs.map (·.data.toList)) sep.data.toList).length≤140737488355328):
  Calls Yb 271 #[.slice (some ⟨bk,o,none⟩) xs.length c,.string sep] w fun e w'=>e = .returned (.string ⟨(Lib.join (xs.map (·.data.toList)) sep.data.toList).toArray⟩)∧Below w.heap.size w w':=Any.strings_Join Tryz.lays156 Tryz.Builder_Extra_156 bk o c xs sep w hcells hbk hN hcap hlen
def Tryz.lays105_ren:Go.Shelf.Ren:=⟨fun | 105=>294 | 212=>308 | 99=>309 | 165=>297 | 166=>298 | 170=>310 | 169=>299 | 263=>318 | 264=>319 | 206=>320 | 240=>313 | 241=>314 | 276=>322 | 277=>323 | n=>n,fun | 9=>9 | 3=>3 | 4=>4 | 20=>20 | 0=>0 | 46=>265 | 109=>320 | 5=>5 | 72=>309 | 76=>313 | 51=>297 | 146=>330 | 53=>215 | 148=>332 | 70=>307 | 37=>22 | 75=>312 | 127=>327 | 164=>334 | 80=>204 | n=>n,fun | n=>n⟩
theorem Tryz.lays105:Go.Proofs.Lays.n105 Yb Tryz.lays105_ren:={
 mixed:=by kernel_rfl
 f99:=Tryz.func309.trans (congrArg some (by kernel_rfl))
 f105:=Tryz.func294.trans (congrArg some (by kernel_rfl))
 f165:=Yba.trans (congrArg some (by kernel_rfl))
 f166:=Yca.trans (congrArg some (by kernel_rfl))
 f169:=Yda.trans (congrArg some (by kernel_rfl))
 f170:=Tryz.func310.trans (congrArg some (by kernel_rfl))
 f206:=Tryz.func320.trans (congrArg some (by kernel_rfl))
 f212:=Tryz.func308.trans (congrArg some (by kernel_rfl))
 f240:=Yea.trans (congrArg some (by kernel_rfl))
 f241:=Yfa.trans (congrArg some (by kernel_rfl))
 f263:=Tryz.func318.trans (congrArg some (by kernel_rfl))
 f264:=Tryz.func319.trans (congrArg some (by kernel_rfl))
 f276:=Yga.trans (congrArg some (by kernel_rfl))
 f277:=Yha.trans (congrArg some (by kernel_rfl))
 t0:=Yu
 a0:=Ym
 z0:=Yq
 v0:=Yy
 t3:=Yv
 a3:=Yn
 z3:=Yr
 v3:=Yz
 t4:=Yw
 a4:=Yo
 z4:=Ys
 v4:=Y0
 t5:=Yx
 a5:=Yp
 z5:=Yt
 v5:=Y1
 t9:=Y9a
 a9:=Yra
 z9:=Y0a
 v9:=Yib
 t20:=Y1a
 a20:=Yja
 z20:=Ysa
 v20:=Yab
 t37:=Y2a
 a37:=Yka
 z37:=Yta
 v37:=Ybb
 t46:=Tryz.underlying265
 a46:=Tryz.isAgg265
 z46:=Tryz.sizeOf265
 v46:=Tryz.zeroValue265
 t51:=Tryz.underlying297
 a51:=Tryz.isAgg297
 z51:=Tryz.sizeOf297
 v51:=Tryz.zeroValue297
 t53:=Tryz.underlying215
 a53:=Tryz.isAgg215
 z53:=Tryz.sizeOf215
 v53:=Tryz.zeroValue215
 t70:=Y3a
 a70:=Yla
 z70:=Yua
 v70:=Ycb
 t72:=Y4a
 a72:=Yma
 z72:=Yva
 v72:=Ydb
 t75:=Y5a
 a75:=Yna
 z75:=Ywa
 v75:=Yeb
 t76:=Y6a
 a76:=Yoa
 z76:=Yxa
 v76:=Yfb
 t109:=Tryz.underlying320
 a109:=Tryz.isAgg320
 z109:=Tryz.sizeOf320
 v109:=Tryz.zeroValue320
 t127:=Y7a
 a127:=Ypa
 z127:=Yya
 v127:=Ygb
 t146:=Tryz.underlying330
 a146:=Tryz.isAgg330
 z146:=Tryz.sizeOf330
 v146:=Tryz.zeroValue330
 t148:=Tryz.underlying332
 a148:=Tryz.isAgg332
 z148:=Tryz.sizeOf332
 v148:=Tryz.zeroValue332
 t164:=Y8a
 a164:=Yqa
 z164:=Yza
 v164:=Yhb }
theorem Tryz.Builder_Extra_105:Builder.Extra Yb Tryz.lays105_ren:={
 sizeBuilder:=by kernel_rfl
 liesBuilder:=by kernel_rfl
 t5:=Yx
 a5:=Yp
 z5:=Yt
 v5:=Y1
 infoByte:=by kernel_rfl
 cellsByte:=by kernel_rfl
 sizeByte:=by kernel_rfl
 neB5:=by decide }
open Go.RowKit Go.Lib in
theorem Tryz.strings_Repeat (s:ByteArray) (c:Nat) (w:World) (hc:c≤9223372036854775807) (hlen:s.size*c≤140737488355328):
  Calls Yb 294 #[.string s,.int .i64 c] w fun e w'=>e = .returned (.string ⟨(Lib.repeatL s.data.toList c).toArray⟩)∧Below w.heap.size w w':=Any.strings_Repeat Tryz.lays105 Tryz.Builder_Extra_105 s c w hc hlen
def Tryz.laysNm223_ren:Go.Shelf.Ren:=⟨fun | 23=>204 | n=>n,fun | 22=>221 | 3=>3 | 4=>4 | 0=>0 | n=>n,fun | n=>n⟩
theorem Tryz.laysNm223:Go.Proofs.Lays2.n23 Yb Tryz.laysNm223_ren:={
 mixed:=by kernel_rfl
 f23:=Tryz.func204.trans (congrArg some (by kernel_rfl))
 t0:=Yu
 a0:=Ym
 z0:=Yq
 v0:=Yy
 t3:=Yv
 a3:=Yn
 z3:=Yr
 v3:=Yz
 t4:=Yw
 a4:=Yo
 z4:=Ys
 v4:=Y0
 t22:=Tryz.underlying221
 a22:=Tryz.isAgg221
 z22:=Tryz.sizeOf221
 v22:=Tryz.zeroValue221
 i3:=by kernel_rfl }
open Go.RowKit Go.Lib Go.Sort in
theorem Tryz.slices_Delete_int (blk off cap i j:Nat) (zs:List Int) (w:World) (hH:Holds (Value.int .i64) w blk off zs.toArray) (hcap:zs.length≤cap) (hm:cap≤9223372036854775807) (hij:i≤j) (hj:j≤zs.length):
  Calls Yb 204 #[.slice (some ⟨blk,off,none⟩) zs.length cap,.int .i64 i,.int .i64 j] w fun e w'=>e = .returned (.slice (some ⟨blk,off,none⟩) (zs.length-(j-i)) cap)∧∃q,w'=putRow (Value.int .i64) (Sort.ahead w q) blk off (zs.take i++zs.drop j++Yi (j-i) 0).toArray:=Any.slices_Delete_int Tryz.laysNm223 blk off cap i j zs w hH hcap hm hij hj
open Go.RowKit Go.Lib Go.Sort in
theorem Tryz.slices_Delete_int_cells (b off n c i j:Nat) (zs:List Int) (w:World) (hz:n≤zs.length) (hcap:n≤c) (hm:c≤9223372036854775807) (hij:i≤j) (hj:j≤n) (hc:∀j,j<zs.length→w.cell? ⟨b,off+j,none⟩=some (.int .i64 (zs.getD j 0))) (hf:∀j,j<n→w.frozen? ⟨b,off+j,none⟩=false):
  Calls Yb 204 #[.slice (some ⟨b,off,none⟩) n c,.int .i64 i,.int .i64 j] w fun e w'=>e = .returned (.slice (some ⟨b,off,none⟩) (n-(j-i)) c)∧∃q,w'=(w.drewN q).setCells b off (((zs.take n).take i++(zs.take n).drop j++Yi (j-i) 0).map (Value.int .i64)):=Any.slices_Delete_int_cells Tryz.laysNm223 b off n c i j zs w hz hcap hm hij hj hc hf
open Go.RowKit Go.Lib in
theorem Tryz.slices_Delete_int_empty (a:Option Addr) (c:Nat) (w:World):
  Calls Yb 204 #[.slice a 0 c,.int .i64 0,.int .i64 0] w fun e w'=>e = .returned (.slice a 0 c)∧w'=w:=Any.slices_Delete_int_empty Tryz.laysNm223 a c w
end Go.Proofs
end
namespace Go.Proofs.Qz
open Go Go.RowKit
set_option linter.unusedVariables false
set_option linter.defProp false
abbrev Zp:Ty:=(.pair (.int .i64) .str)
abbrev Zq:=Int×Str
abbrev Zei:Ty:=(.pair (.int .i64) (.int .i64))
abbrev Zok:=Int×Int
abbrev T42:Ty:=(.pair (.sl .str) (.int .i64))
abbrev Zx1:Ty:=(.pair (.sl (.int .i64)) (.int .i64))
abbrev Z6b:Ty:=(.pair .bool Zp)
abbrev Zlc:=Bool×Zq
abbrev Zpk:Ty:=(.pair .str (.pair (.int .i64) .bool))
abbrev Zyu:=Str×Int×Bool
abbrev T156:Ty:=(.pair (.int .i64) (.pair .str (.int .i64)))
abbrev T269:Ty:=(.pair .str Zei)
abbrev Zo7:Ty:=(.pair (.int .i64) Zei)
abbrev G272:=Int×Zok
abbrev T26:Ty:=(.pair (.sl .str) (.sl Zp))
abbrev G26:=List Str×List Zq
abbrev T52:Ty:=(.pair (.int .i64) (.pair (.int .i64) Zp))
abbrev G52:=Int×Int×Zq
abbrev Z5b:Ty:=(.pair (.int .i64) Zo7)
abbrev Zcd:=Int×G272
abbrev T28:Ty:=(.pair (.int .i64) T26)
abbrev G28:=Int×G26
abbrev T262:Ty:=(.pair (.sl (.int .u8)) (.pair (.int .i64) (.pair (.int .u64) (.int .i64))))
abbrev T318:Ty:=(.pair T52 (.int .i64))
abbrev T109:Ty:=(.pair T26 (.pair .str (.int .i64)))
abbrev T38:Ty:=(.pair T28 (.int .i64))
abbrev G38:=G28×Int
abbrev T100:Ty:=(.pair (.sl Z5b) (.int .i64))
abbrev T33:Ty:=(.pair (.int .i64) (.pair .str (.sl T52)))
abbrev T121:Ty:=(.pair (.sl Z6b) (.pair .str Zx1))
abbrev T35:Ty:=(.pair T33 (.int .i64))
abbrev T70:Ty:=(.pair T28 (.pair .str Zx1))
abbrev T54:Ty:=(.pair (.int .i64) (.pair (.int .i64) (.pair (.int .i64) (.pair .str T52))))
abbrev G54:=Int×Int×Int×Str×G52
abbrev T46:Ty:=(.pair (.int .i64) (.pair (.int .i64) (.pair (.int .i64) (.pair (.int .i64) (.pair (.int .i64) (.pair .str (.pair (.sl (.int .i64)) (.sl (.int .i64)))))))))
abbrev G46:=Int×Int×Int×Int×Int×Str×List Int×List Int
abbrev T48:Ty:=(.pair T46 (.int .i64))
abbrev T86:Ty:=(.pair T54 (.pair (.int .i64) (.pair (.sl (.int .i64)) (.sl (.int .i64)))))
def TAB:Tab TI:=(.node (.node (.node (.node (.node (.node (.node .nil (some { sz:=3,agg:=true,offs:=[(0,2),(1,61)],elem:=0,kind:=4,ik:=.i64,bytes:=56,zero:=[.int .i64 0,.nil,.nil],ty:=T28,eqs:=false }) .nil) (some { sz:=1,agg:=false,offs:=[],elem:=52,kind:=3,ik:=.i64,bytes:=24,zero:=[.nil],ty:=(.sl T52),eqs:=false }) .nil) none (.node .nil none (.node .nil (some { sz:=1,agg:=false,offs:=[],elem:=151,kind:=3,ik:=.i64,bytes:=24,zero:=[.nil],ty:=(.sl Z6b),eqs:=false }) .nil))) none (.node .nil (some { sz:=1,agg:=false,offs:=[],elem:=9,kind:=3,ik:=.i64,bytes:=24,zero:=[.nil],ty:=(.sl .str),eqs:=false }) (.node (.node (.node .nil (some { sz:=3,agg:=true,offs:=[(0,4),(1,2),(2,9)],elem:=0,kind:=4,ik:=.i64,bytes:=32,zero:=[.kb false,.int .i64 0,.str []],ty:=Z6b,eqs:=true }) .nil) none (.node .nil (some { sz:=1,agg:=false,offs:=[],elem:=0,kind:=1,ik:=.u64,bytes:=8,zero:=[.int .u64 0],ty:=(.int .u64),eqs:=false }) .nil)) none .nil))) (some { sz:=1,agg:=false,offs:=[],elem:=0,kind:=1,ik:=.i64,bytes:=8,zero:=[.int .i64 0],ty:=(.int .i64),eqs:=false }) (.node (.node (.node (.node .nil none (.node .nil (some { sz:=2,agg:=true,offs:=[(0,2),(1,9)],elem:=0,kind:=4,ik:=.i64,bytes:=24,zero:=[.int .i64 0,.str []],ty:=Zp,eqs:=true }) .nil)) (some { sz:=4,agg:=true,offs:=[(0,33),(3,2)],elem:=0,kind:=4,ik:=.i64,bytes:=56,zero:=[.int .i64 0,.str [],.nil,.int .i64 0],ty:=T35,eqs:=false }) .nil) none (.node .nil none (.node .nil none (.node .nil (some { sz:=2,agg:=true,offs:=[(0,2),(1,2)],elem:=0,kind:=4,ik:=.i64,bytes:=16,zero:=[.int .i64 0,.int .i64 0],ty:=Zei,eqs:=true }) .nil)))) none (.node (.node (.node (.node .nil (some { sz:=4,agg:=true,offs:=[(0,2),(1,2),(2,2),(3,2)],elem:=0,kind:=4,ik:=.i64,bytes:=32,zero:=[.int .i64 0,.int .i64 0,.int .i64 0,.int .i64 0],ty:=Z5b,eqs:=true }) .nil) none .nil) none .nil) none (.node .nil (some { sz:=1,agg:=false,offs:=[],elem:=248,kind:=3,ik:=.i64,bytes:=24,zero:=[.nil],ty:=(.sl Zp),eqs:=false }) .nil)))) none (.node (.node (.node (.node .nil (some { sz:=3,agg:=true,offs:=[(0,2),(1,9),(2,31)],elem:=0,kind:=4,ik:=.i64,bytes:=48,zero:=[.int .i64 0,.str [],.nil],ty:=T33,eqs:=false }) (.node (.node (.node .nil (some { sz:=3,agg:=true,offs:=[(0,9),(1,2),(2,4)],elem:=0,kind:=4,ik:=.i64,bytes:=32,zero:=[.str [],.int .i64 0,.kb false],ty:=Zpk,eqs:=true }) .nil) none .nil) none .nil)) none .nil) (some { sz:=1,agg:=false,offs:=[],elem:=0,kind:=2,ik:=.i64,bytes:=16,zero:=[.str []],ty:=.str,eqs:=false }) (.node (.node (.node (.node (.node .nil (some { sz:=1,agg:=false,offs:=[],elem:=0,kind:=1,ik:=.u64,bytes:=8,zero:=[.int .u64 0],ty:=(.int .u64),eqs:=false }) .nil) none .nil) none .nil) none (.node (.node (.node .nil (some { sz:=1,agg:=false,offs:=[],elem:=0,kind:=1,ik:=.u32,bytes:=4,zero:=[.int .u32 0],ty:=(.int .u32),eqs:=false }) .nil) none .nil) none .nil)) none (.node .nil none (.node .nil (some { sz:=4,agg:=true,offs:=[(0,111),(1,9),(2,44),(3,2)],elem:=0,kind:=4,ik:=.i64,bytes:=72,zero:=[.nil,.str [],.nil,.int .i64 0],ty:=T121,eqs:=false }) .nil)))) (some { sz:=1,agg:=false,offs:=[],elem:=0,kind:=1,ik:=.u8,bytes:=1,zero:=[.int .u8 0],ty:=(.int .u8),eqs:=false }) (.node .nil none (.node (.node (.node (.node (.node .nil (some { sz:=3,agg:=true,offs:=[(0,9),(1,2),(2,2)],elem:=0,kind:=4,ik:=.i64,bytes:=32,zero:=[.str [],.int .i64 0,.int .i64 0],ty:=T269,eqs:=true }) .nil) none .nil) none (.node .nil (some { sz:=1,agg:=false,offs:=[],elem:=4,kind:=3,ik:=.i64,bytes:=24,zero:=[.nil],ty:=(.sl .bool),eqs:=false }) .nil)) none (.node .nil (some { sz:=4,agg:=true,offs:=[(0,26),(2,9),(3,2)],elem:=0,kind:=4,ik:=.i64,bytes:=72,zero:=[.nil,.nil,.str [],.int .i64 0],ty:=T109,eqs:=false }) .nil)) none (.node (.node .nil none (.node .nil (some { sz:=1,agg:=false,offs:=[],elem:=3,kind:=3,ik:=.i64,bytes:=24,zero:=[.nil],ty:=(.sl (.int .i64)),eqs:=false }) .nil)) (some { sz:=2,agg:=true,offs:=[(0,23),(1,59)],elem:=0,kind:=4,ik:=.i64,bytes:=48,zero:=[.nil,.nil],ty:=T26,eqs:=false }) .nil))))) none (.node (.node (.node (.node (.node (.node .nil (some { sz:=4,agg:=true,offs:=[(0,2),(1,2),(2,2),(3,9)],elem:=0,kind:=4,ik:=.i64,bytes:=40,zero:=[.int .i64 0,.int .i64 0,.int .i64 0,.str []],ty:=T52,eqs:=true }) .nil) none .nil) none (.node (.node (.node (.node .nil (some { sz:=3,agg:=true,offs:=[(0,2),(1,2),(2,2)],elem:=0,kind:=4,ik:=.i64,bytes:=24,zero:=[.int .i64 0,.int .i64 0,.int .i64 0],ty:=Zo7,eqs:=true }) .nil) none .nil) none .nil) (some { sz:=9,agg:=true,offs:=[(0,46),(8,2)],elem:=0,kind:=4,ik:=.i64,bytes:=112,zero:=[.int .i64 0,.int .i64 0,.int .i64 0,.int .i64 0,.int .i64 0,.str [],.nil,.nil,.int .i64 0],ty:=T48,eqs:=false }) (.node .nil none (.node .nil (some { sz:=1,agg:=false,offs:=[],elem:=243,kind:=3,ik:=.i64,bytes:=24,zero:=[.nil],ty:=(.sl Zei),eqs:=false }) .nil)))) none (.node (.node .nil none (.node (.node (.node .nil (some { sz:=1,agg:=false,offs:=[],elem:=297,kind:=3,ik:=.i64,bytes:=24,zero:=[.nil],ty:=(.sl (.int .u32)),eqs:=false }) .nil) none .nil) none .nil)) (some { sz:=1,agg:=false,offs:=[],elem:=195,kind:=3,ik:=.i64,bytes:=24,zero:=[.nil],ty:=(.sl Zp),eqs:=false }) (.node .nil none (.node .nil none (.node .nil (some { sz:=2,agg:=true,offs:=[(0,2),(1,9)],elem:=0,kind:=4,ik:=.i64,bytes:=24,zero:=[.int .i64 0,.str []],ty:=Zp,eqs:=true }) .nil))))) (some { sz:=1,agg:=false,offs:=[],elem:=0,kind:=5,ik:=.i64,bytes:=1,zero:=[.kb false],ty:=.bool,eqs:=false }) (.node (.node (.node (.node .nil none (.node (.node .nil (some { sz:=64,agg:=true,offs:=[(64,0)],elem:=297,kind:=7,ik:=.i64,bytes:=256,zero:=[.int .u32 0,.int .u32 0,.int .u32 0,.int .u32 0,.int .u32 0,.int .u32 0,.int .u32 0,.int .u32 0,.int .u32 0,.int .u32 0,.int .u32 0,.int .u32 0,.int .u32 0,.int .u32 0,.int .u32 0,.int .u32 0,.int .u32 0,.int .u32 0,.int .u32 0,.int .u32 0,.int .u32 0,.int .u32 0,.int .u32 0,.int .u32 0,.int .u32 0,.int .u32 0,.int .u32 0,.int .u32 0,.int .u32 0,.int .u32 0,.int .u32 0,.int .u32 0,.int .u32 0,.int .u32 0,.int .u32 0,.int .u32 0,.int .u32 0,.int .u32 0,.int .u32 0,.int .u32 0,.int .u32 0,.int .u32 0,.int .u32 0,.int .u32 0,.int .u32 0,.int .u32 0,.int .u32 0,.int .u32 0,.int .u32 0,.int .u32 0,.int .u32 0,.int .u32 0,.int .u32 0,.int .u32 0,.int .u32 0,.int .u32 0,.int .u32 0,.int .u32 0,.int .u32 0,.int .u32 0,.int .u32 0,.int .u32 0,.int .u32 0,.int .u32 0],ty:=.unit,eqs:=false }) .nil) none .nil)) none (.node .nil (some { sz:=2,agg:=true,offs:=[(0,98),(1,2)],elem:=0,kind:=4,ik:=.i64,bytes:=32,zero:=[.nil,.int .i64 0],ty:=T100,eqs:=false }) .nil)) none (.node .nil (some { sz:=4,agg:=true,offs:=[(0,2),(1,2),(2,2),(3,9)],elem:=0,kind:=4,ik:=.i64,bytes:=40,zero:=[.int .i64 0,.int .i64 0,.int .i64 0,.str []],ty:=T52,eqs:=true }) .nil)) none (.node (.node .nil (some { sz:=1,agg:=false,offs:=[],elem:=2,kind:=3,ik:=.i64,bytes:=24,zero:=[.nil],ty:=(.sl (.int .i64)),eqs:=false }) .nil) (some { sz:=3,agg:=true,offs:=[(0,2),(1,26)],elem:=0,kind:=4,ik:=.i64,bytes:=56,zero:=[.int .i64 0,.nil,.nil],ty:=T28,eqs:=false }) (.node (.node (.node .nil (some { sz:=3,agg:=true,offs:=[(0,2),(1,9),(2,2)],elem:=0,kind:=4,ik:=.i64,bytes:=32,zero:=[.int .i64 0,.str [],.int .i64 0],ty:=T156,eqs:=true }) .nil) none .nil) none .nil)))) (some { sz:=1,agg:=false,offs:=[],elem:=0,kind:=1,ik:=.i64,bytes:=8,zero:=[.int .i64 0],ty:=(.int .i64),eqs:=false }) (.node (.node (.node (.node (.node .nil (some { sz:=8,agg:=true,offs:=[(0,2),(1,2),(2,2),(3,9),(4,64)],elem:=0,kind:=4,ik:=.i64,bytes:=80,zero:=[.int .i64 0,.int .i64 0,.int .i64 0,.str [],.int .i64 0,.int .i64 0,.int .i64 0,.str []],ty:=T54,eqs:=true }) .nil) none (.node .nil (some { sz:=1,agg:=false,offs:=[],elem:=139,kind:=3,ik:=.i64,bytes:=24,zero:=[.nil],ty:=(.sl Z5b),eqs:=false }) .nil)) none .nil) none (.node (.node .nil (some { sz:=2,agg:=true,offs:=[(0,23),(1,2)],elem:=0,kind:=4,ik:=.i64,bytes:=32,zero:=[.nil,.int .i64 0],ty:=T42,eqs:=false }) (.node .nil none (.node .nil (some { sz:=3,agg:=true,offs:=[(0,9),(1,2),(2,4)],elem:=0,kind:=4,ik:=.i64,bytes:=32,zero:=[.str [],.int .i64 0,.kb false],ty:=Zpk,eqs:=true }) .nil))) (some { sz:=2,agg:=true,offs:=[(0,23),(1,24)],elem:=0,kind:=4,ik:=.i64,bytes:=48,zero:=[.nil,.nil],ty:=T26,eqs:=false }) (.node (.node .nil (some { sz:=11,agg:=true,offs:=[(0,54),(8,2),(9,44),(10,44)],elem:=0,kind:=4,ik:=.i64,bytes:=136,zero:=[.int .i64 0,.int .i64 0,.int .i64 0,.str [],.int .i64 0,.int .i64 0,.int .i64 0,.str [],.int .i64 0,.nil,.nil],ty:=T86,eqs:=false }) .nil) none .nil))) none (.node (.node (.node (.node (.node (.node .nil (some { sz:=4,agg:=true,offs:=[(0,22),(1,3),(2,215),(3,2)],elem:=0,kind:=4,ik:=.i64,bytes:=48,zero:=[.nil,.int .i64 0,.int .u64 0,.int .i64 0],ty:=T262,eqs:=false }) .nil) none .nil) (some { sz:=6,agg:=true,offs:=[(0,28),(3,9),(4,44),(5,2)],elem:=0,kind:=4,ik:=.i64,bytes:=104,zero:=[.int .i64 0,.nil,.nil,.str [],.nil,.int .i64 0],ty:=T70,eqs:=false }) .nil) (some { sz:=4,agg:=true,offs:=[(0,28),(3,2)],elem:=0,kind:=4,ik:=.i64,bytes:=64,zero:=[.int .i64 0,.nil,.nil,.int .i64 0],ty:=T38,eqs:=false }) .nil) (some { sz:=1,agg:=false,offs:=[],elem:=5,kind:=3,ik:=.i64,bytes:=24,zero:=[.nil],ty:=(.sl (.int .u8)),eqs:=false }) (.node (.node .nil (some { sz:=11,agg:=true,offs:=[(0,66),(8,2),(9,44),(10,44)],elem:=0,kind:=4,ik:=.i64,bytes:=136,zero:=[.int .i64 0,.int .i64 0,.int .i64 0,.str [],.int .i64 0,.int .i64 0,.int .i64 0,.str [],.int .i64 0,.nil,.nil],ty:=T86,eqs:=false }) .nil) (some { sz:=8,agg:=true,offs:=[(0,2),(1,2),(2,2),(3,9),(4,52)],elem:=0,kind:=4,ik:=.i64,bytes:=80,zero:=[.int .i64 0,.int .i64 0,.int .i64 0,.str [],.int .i64 0,.int .i64 0,.int .i64 0,.str []],ty:=T54,eqs:=true }) .nil)) none (.node (.node .nil (some { sz:=8,agg:=true,offs:=[(0,2),(1,2),(2,2),(3,2),(4,2),(5,9),(6,44),(7,44)],elem:=0,kind:=4,ik:=.i64,bytes:=104,zero:=[.int .i64 0,.int .i64 0,.int .i64 0,.int .i64 0,.int .i64 0,.str [],.nil,.nil],ty:=T46,eqs:=false }) (.node (.node (.node .nil (some { sz:=8,agg:=true,offs:=[(8,0)],elem:=297,kind:=7,ik:=.i64,bytes:=32,zero:=[.int .u32 0,.int .u32 0,.int .u32 0,.int .u32 0,.int .u32 0,.int .u32 0,.int .u32 0,.int .u32 0],ty:=.unit,eqs:=false }) .nil) none .nil) none .nil)) none (.node (.node .nil none (.node .nil (some { sz:=1,agg:=false,offs:=[],elem:=1000222,kind:=6,ik:=.i64,bytes:=8,zero:=[.unk],ty:=(.sl (.int .i64)),eqs:=false }) .nil)) none (.node (.node (.node .nil (some { sz:=5,agg:=true,offs:=[(0,52),(4,2)],elem:=0,kind:=4,ik:=.i64,bytes:=48,zero:=[.int .i64 0,.int .i64 0,.int .i64 0,.str [],.int .i64 0],ty:=T318,eqs:=true }) .nil) none .nil) none (.node .nil (some { sz:=2,agg:=true,offs:=[(0,44),(1,2)],elem:=0,kind:=4,ik:=.i64,bytes:=32,zero:=[.nil,.int .i64 0],ty:=Zx1,eqs:=false }) .nil))))))))
theorem Z1s:Zkb Yb TAB∧Yb.follows .mixedOrders=true:=⟨Z2pb (by kernel_rfl),by kernel_rfl⟩
theorem cX {L:List (Nat×Con)} (h:Zho Yb L):CtxOk Yb { ti:=TAB,con:=Zll L }:=Z8s Z1s h
theorem cXr (r t:Bool) {L:List (Nat×Con)} (h:Zho Yb L):CtxOk Yb { ti:=TAB,con:=Zll L,rob:=r,tl:=t }:=Z8s Z1s h
def Zhb (a1:Int) (a2:Int) (a3:Int):Option (Bool):=some ((decide (a2≤a1))&&(decide (a1≤a3)))
def Zhb.con (k:Nat):Con:=Sig.con { ps:=[.val false (.int .i64) (ros (.int .i64)),.val false (.int .i64) (ros (.int .i64)),.val false (.int .i64) (ros (.int .i64))],rs:=[.val false [.v .bool]],ntmps:=15 } (fun x=>Zhb x.1 x.2.1 x.2.2)
theorem Zhb.ok (k:Nat):Zf Yb 123 (Zhb.con k):=fA (cX cN) Tryz.func123
def Z7j (a1:Int):Option (Bool):=Ya (Zhb a1 1 8) fun v2=>some v2
def Z7j.con (k:Nat):Con:=Sig.con { ps:=[.val false (.int .i64) (ros (.int .i64))],rs:=[.val false [.v .bool]],ntmps:=5 } (fun x=>Z7j x)
theorem Z7j.ok (k:Nat):Zf Yb 92 (Z7j.con k):=fA (cX (cC (Zhb.ok k) cN)) Tryz.func92
def Zmi (a1:List Str):Option (Int):=some ((a1.length):Int)
def Zmi.con (k:Nat):Con:=Sig.con { ps:=[.val false (.sl .str) (ros (.sl .str))],rs:=[.val false [.v (.int .i64)]],ntmps:=5 } (fun x=>Zmi x)
theorem Zmi.ok (k:Nat):Zf Yb 93 (Zmi.con k):=fA (cX cN) Tryz.func93
def Zhp (a1:Str):Option (Bool):=some (((a1.length):Int) != 8)
def Zhp.con (k:Nat):Con:=Sig.con { ps:=[.val false .str (ros .str)],rs:=[.val false [.v .bool]],ntmps:=6 } (fun x=>Zhp x)
theorem Zhp.ok (k:Nat):Zf Yb 95 (Zhp.con k):=fA (cX cN) Tryz.func95
def Zkd.l0:Nat→List Str→Int→Int→Option (Unit ⊕ Int)
 | 0,_,_,_=>none
 | j+1,a1,a2,a3=>bif decide (a3<a2) then Ya (at? a1 a3) fun v4=>Ya (Zhp v4) fun v5=>bif v5 then some (.inr a3) else Zkd.l0 j a1 a2 (Yc .i64 (a3+1)) else some (.inl ())
def Zkd (k:Nat) (a1:List Str):Option (Int):=Ya (Zkd.l0 k a1 ((a1.length):Int) 0) fun
  | .inl y2=>some (-1)
  | .inr y3=>some y3
def Zkd.con (k:Nat):Con:=Sig.con { ps:=[.val false (.sl .str) (ros (.sl .str)),.fn 95 []],rs:=[.val false [.v (.int .i64)]],ntmps:=19 } (fun x=>Zkd k x)
def Zkd.cok (k:Nat):=cX (cC (Zhp.ok k) cN)
def Zkd.l0.s (k:Nat):Summ:=lp 19 { tmps:=[(0,.one (.bor .str)),(1,.fn 95 []),(7,.one (.v (.int .i64))),(8,.one (.v (.int .i64)))],slots:=[],nb:=0 } [(.exit 0,{ tmps:=[],slots:=[],nb:=0 }),(.ret,{ tmps:=[(4,.one (.v (.int .i64)))],slots:=[],nb:=0 })] (fun j x=>Zkd.l0 j x.1 x.2.1 x.2.2) k
def Zkd.l0.ok (k:Nat):=(lA (Zkd.cok k):Zj Yb _ (.loop (cO (cO (cR (cL (cR (cB Tryz.f184))))))) (Zkd.l0.s k))
theorem Zkd.ok (k:Nat):Zf Yb 184 (Zkd.con k):=fP (.two .auto (.two (.two .auto (.one (.sum (Zkd.l0.s k)))) .auto)) (Zkd.cok k) Yaa (sC (Zkd.l0.ok k) sN)
def Zjs (k:Nat) (a1:List Str):Option (Bool):=Ya (Zkd k a1) fun v2=>some (decide (0≤v2))
def Zjs.con (k:Nat):Con:=Sig.con { ps:=[.val false (.sl .str) (ros (.sl .str)),.fn 95 []],rs:=[.val false [.v .bool]],ntmps:=9 } (fun x=>Zjs k x)
theorem Zjs.ok (k:Nat):Zf Yb 94 (Zjs.con k):=fA (cX (cC (Zkd.ok k) cN)) Yia
def Zgp (k:Nat) (a1:List Str):Option (Bool):=Ya (Zmi a1) fun v2=>Ya (Z7j v2) fun v3=>bif v3 then Ya (Zjs k a1) fun v4=>some (!v4) else some false
def Zgp.con (k:Nat):Con:=Sig.con { ps:=[.val false (.sl .str) (ros (.sl .str))],rs:=[.val false [.v .bool]],ntmps:=11 } (fun x=>Zgp k x)
theorem Zgp.ok (k:Nat):Zf Yb 50 (Zgp.con k):=fA (cX (cC (Z7j.ok k) (cC (Zmi.ok k) (cC (Zjs.ok k) cN)))) Tryz.func50
def Zzr (a1:Zq) (a2:Int):Option (Bool):=some (a1.1==a2)
def Zzr.con (k:Nat):Con:=Sig.con { ps:=[.val true Zp (ros Zp),.rptr (.int .i64)],rs:=[.val false [.v .bool]],ntmps:=8 } (fun x=>Zzr x.1 x.2)
theorem Zzr.ok (k:Nat):Zf Yb 266 (Zzr.con k):=fA (cX cN) Tryz.func266
def Zzd.l0:Nat→List Zq→Int→Int→Int→Option (Int ⊕ (Int×Int))
 | 0,_,_,_,_=>none
 | j+1,a1,a2,a3,a4=>bif decide (a3<a2) then Ya (at? a1 a3) fun v5=>Ya (Zzr v5 a4) fun v6=>bif v6 then some (.inr (a3,a4)) else Zzd.l0 j a1 a2 (Yc .i64 (a3+1)) a4 else some (.inl a4)
def Zzd (k:Nat) (a1:List Zq) (a2:Int):Option (Int×Int):=Ya (Zzd.l0 k a1 ((a1.length):Int) 0 a2) fun
  | .inl y3=>some ((-1),y3)
  | .inr y4=>some (y4.1,y4.2)
def Zzd.con (k:Nat):Con:=Sig.con { ps:=[.val false (.sl Zp) (ros (.sl Zp)),.fn 266 [(2,(.int .i64),(Zzg (.int .i64)))]],rs:=[.val false [.v (.int .i64)]],ntmps:=19 } (fun x=>Zzd k x.1 x.2)
def Zzd.cok (k:Nat):=cX (cC (Zzr.ok k) cN)
def Zzd.l0.s (k:Nat):Summ:=lp 19 { tmps:=[(0,.one (.bor Zp)),(1,.fn 266 [.ptr 0 0]),(7,.one (.v (.int .i64))),(8,.one (.v (.int .i64)))],slots:=[(0,.box 2 [.v (.int .i64)])],nb:=1 } [(.exit 0,{ tmps:=[],slots:=[(0,.box 2 [.v (.int .i64)])],nb:=1 }),(.ret,{ tmps:=[(4,.one (.v (.int .i64)))],slots:=[(0,.box 2 [.v (.int .i64)])],nb:=1 })] (fun j x=>Zzd.l0 j x.1 x.2.1 x.2.2.1 x.2.2.2) k
def Zzd.l0.ok (k:Nat):=(lA (Zzd.cok k):Zj Yb _ (.loop (cO (cO (cR (cL (cR (cB Tryz.f265))))))) (Zzd.l0.s k))
theorem Zzd.ok (k:Nat):Zf Yb 265 (Zzd.con k):=fP (.two .auto (.two (.two .auto (.one (.sum (Zzd.l0.s k)))) .auto)) (Zzd.cok k) Tryz.func265 (sC (Zzd.l0.ok k) sN)
def Ztk (k:Nat) (a1:G26) (a2:Int):Option (Int):=Ya (Zzd k a1.2 a2) fun v3=>some v3.1
def Ztk.con (k:Nat):Con:=Sig.con { ps:=[.val true T26 (ros T26),.val false (.int .i64) (ros (.int .i64))],rs:=[.val false [.v (.int .i64)]],ntmps:=9 } (fun x=>Ztk k x.1 x.2)
theorem Ztk.ok (k:Nat):Zf Yb 212 (Ztk.con k):=fA (cXr true false (cC (Zzd.ok k) cN)) Tryz.func212
def Zag (k:Nat) (a1:G26) (a2:Int):Option (Str):=Ya (Ztk k a1 a2) fun v3=>bif decide (0≤v3) then Ya (at? a1.2 v3) fun v4=>some v4.2 else Ya (at? a1.1 a2) fun v5=>some v5
def Zag.con (k:Nat):Con:=Sig.con { ps:=[.val true T26 (ros T26),.val false (.int .i64) (ros (.int .i64))],rs:=[.val false [.v .str]],ntmps:=22 } (fun x=>Zag k x.1 x.2)
theorem Zag.ok (k:Nat):Zf Yb 119 (Zag.con k):=fA (cXr true false (cC (Ztk.ok k) cN)) Tryz.func119
def Zvd.l0 (k:Nat):Nat→Int→List Str→List Zq→Int→Int→List Str→Option ((List Str))
 | 0,_,_,_,_,_,_=>none
 | j+1,a1,a2,a3,a4,a5,a6=>bif decide (a5<a4) then Ya (Zag k (a2,a3) (Yc .i64 (3+a5))) fun v7=>Ya (Zs 16 a6 [v7]) fun v8=>Zvd.l0 k j a1 a2 a3 a4 (Yc .i64 (a5+1)) v8 else some a6
def Zvd (k:Nat) (a1:G28):Option (List Str):=Ya (Zvd.l0 k k a1.1 a1.2.1 a1.2.2 a1.1 0 []) fun y2=>some y2
def Zvd.con (k:Nat):Con:=Sig.con { ps:=[.val true T28 (ros T28)],rs:=[.val false [.own 9 .str]],ntmps:=20 } (fun x=>Zvd k x)
def Zvd.cok (k:Nat):=cXr true false (cC (Zag.ok k) cN)
def Zvd.l0.s (k:Nat):Summ:=lp 20 { tmps:=[(1,.eptr [.v (.int .i64),.bor .str,.bor Zp]),(3,.one (.own 0)),(6,.one (.v (.int .i64))),(7,.one (.v (.int .i64)))],slots:=[(0,.arr false 9 .str)],nb:=1 } [(.exit 0,{ tmps:=[(3,.one (.own 1))],slots:=[(1,.arr false 9 .str)],nb:=2 })] (fun j x=>Zvd.l0 k j x.1 x.2.1 x.2.2.1 x.2.2.2.1 x.2.2.2.2.1 x.2.2.2.2.2) k
def Zvd.l0.ok (k:Nat):=(lA (Zvd.cok k):Zj Yb _ (.loop (cO (cO (cR (cL (cR (cR (cB Tryz.f58)))))))) (Zvd.l0.s k))
theorem Zvd.ok (k:Nat):Zf Yb 58 (Zvd.con k):=fP (.two .auto (.two .auto (.two (.two .auto (.one (.sum (Zvd.l0.s k)))) .auto))) (Zvd.cok k) Tryz.func58 (sC (Zvd.l0.ok k) sN)
def Zfp (a1:Str):Option (Bool):=some (decide (96<((a1.length):Int)))
def Zfp.con (k:Nat):Con:=Sig.con { ps:=[.val false .str (ros .str)],rs:=[.val false [.v .bool]],ntmps:=6 } (fun x=>Zfp x)
theorem Zfp.ok (k:Nat):Zf Yb 213 (Zfp.con k):=fA (cX cN) Tryz.func213
def Z5d.l0:Nat→List Str→Int→Int→Option (Unit ⊕ Int)
 | 0,_,_,_=>none
 | j+1,a1,a2,a3=>bif decide (a3<a2) then Ya (at? a1 a3) fun v4=>Ya (Zfp v4) fun v5=>bif v5 then some (.inr a3) else Z5d.l0 j a1 a2 (Yc .i64 (a3+1)) else some (.inl ())
def Z5d (k:Nat) (a1:List Str):Option (Int):=Ya (Z5d.l0 k a1 ((a1.length):Int) 0) fun
  | .inl y2=>some (-1)
  | .inr y3=>some y3
def Z5d.con (k:Nat):Con:=Sig.con { ps:=[.val false (.sl .str) (ros (.sl .str)),.fn 213 []],rs:=[.val false [.v (.int .i64)]],ntmps:=19 } (fun x=>Z5d k x)
def Z5d.cok (k:Nat):=cX (cC (Zfp.ok k) cN)
def Z5d.l0.s (k:Nat):Summ:=lp 19 { tmps:=[(0,.one (.bor .str)),(1,.fn 213 []),(7,.one (.v (.int .i64))),(8,.one (.v (.int .i64)))],slots:=[],nb:=0 } [(.exit 0,{ tmps:=[],slots:=[],nb:=0 }),(.ret,{ tmps:=[(4,.one (.v (.int .i64)))],slots:=[],nb:=0 })] (fun j x=>Z5d.l0 j x.1 x.2.1 x.2.2) k
def Z5d.l0.ok (k:Nat):=(lA (Z5d.cok k):Zj Yb _ (.loop (cO (cO (cR (cL (cR (cB Tryz.f184))))))) (Z5d.l0.s k))
theorem Z5d.ok (k:Nat):Zf Yb 184 (Z5d.con k):=fP (.two .auto (.two (.two .auto (.one (.sum (Z5d.l0.s k)))) .auto)) (Z5d.cok k) Yaa (sC (Z5d.l0.ok k) sN)
def Zkq (k:Nat) (a1:List Str):Option (Bool):=Ya (Z5d k a1) fun v2=>some (decide (0≤v2))
def Zkq.con (k:Nat):Con:=Sig.con { ps:=[.val false (.sl .str) (ros (.sl .str)),.fn 213 []],rs:=[.val false [.v .bool]],ntmps:=9 } (fun x=>Zkq k x)
theorem Zkq.ok (k:Nat):Zf Yb 94 (Zkq.con k):=fA (cX (cC (Z5d.ok k) cN)) Yia
def Zqm (a1:G26) (a2:Int):Option (Bool):=Ya (Zmi a1.1) fun v3=>Ya (Zhb a2 0 (Yc .i64 (v3-1))) fun v4=>some v4
def Zqm.con (k:Nat):Con:=Sig.con { ps:=[.val true T26 (ros T26),.val false (.int .i64) (ros (.int .i64))],rs:=[.val false [.v .bool]],ntmps:=11 } (fun x=>Zqm x.1 x.2)
theorem Zqm.ok (k:Nat):Zf Yb 147 (Zqm.con k):=fA (cXr true false (cC (Zmi.ok k) (cC (Zhb.ok k) cN))) Tryz.func147
def Zte.l0 (k:Nat):Nat→List Str→List Zq→List Zq→Int→Int→Option (Unit ⊕ Bool)
 | 0,_,_,_,_,_=>none
 | j+1,a1,a2,a3,a4,a5=>bif decide (a5<a4) then Ya (at? a3 a5) fun v6=>Ya (Zqm (a1,a2) v6.1) fun v7=>bif (!v7)||(decide (96<((v6.2.length):Int))) then some (.inr false) else Ya (Ztk k (a1,a2) v6.1) fun v8=>bif decide (v8<a5) then some (.inr false) else Zte.l0 k j a1 a2 a3 a4 (Yc .i64 (a5+1)) else some (.inl ())
def Zte (k:Nat) (a1:G26):Option (Bool):=Ya (Zmi a1.1) fun v2=>Ya (Zhb v2 1 40) fun v3=>let e4:=((a1.2.length):Int);bif (!v3)||(decide (((a1.1.length):Int)<e4)) then some false else Ya (Zkq k a1.1) fun v5=>bif v5 then some false else Ya (Zte.l0 k k a1.1 a1.2 a1.2 e4 0) fun
  | .inl y6=>some true
  | .inr y7=>some y7
def Zte.con (k:Nat):Con:=Sig.con { ps:=[.val true T26 (ros T26)],rs:=[.val false [.v .bool]],ntmps:=52 } (fun x=>Zte k x)
def Zte.cok (k:Nat):=cXr true false (cC (Zmi.ok k) (cC (Zkq.ok k) (cC (Zhb.ok k) (cC (Zqm.ok k) (cC (Ztk.ok k) cN)))))
def Zte.l0.s (k:Nat):Summ:=lp 52 { tmps:=[(1,.eptr [.bor .str,.bor Zp]),(25,.one (.bor Zp)),(26,.one (.v (.int .i64))),(27,.one (.v (.int .i64)))],slots:=[],nb:=0 } [(.exit 0,{ tmps:=[],slots:=[],nb:=0 }),(.ret,{ tmps:=[(2,.one (.v .bool))],slots:=[],nb:=0 })] (fun j x=>Zte.l0 k j x.1 x.2.1 x.2.2.1 x.2.2.2.1 x.2.2.2.2) k
def Zte.l0.ok (k:Nat):=(lA (Zte.cok k):Zj Yb _ (.loop (cO (cO (cR (cL (cR (cR (cB Tryz.f120)))))))) (Zte.l0.s k))
theorem Zte.ok (k:Nat):Zf Yb 120 (Zte.con k):=fP (.two .auto (.two .auto (.two (.two .auto (.one (.sum (Zte.l0.s k)))) .auto))) (Zte.cok k) Tryz.func120 (sC (Zte.l0.ok k) sN)
def Z6e.l0:Nat→Str→Int→Int→Int→Option ((Int×Int×Int))
 | 0,_,_,_,_=>none
 | j+1,a1,a2,a3,a4=>bif decide ((Yc .i64 (((a1.length):Int)-a4))≤a2) then some (0,0,4) else let e5:=Yc .i64 (a2+a4);Ya (at? a1 e5) fun v6=>bif (a4==9)&&(decide (1<(v6.toNat:Int))) then some (0,0,3) else let e7:=Yc .i64 (7*a4);Ya (Zwb e7) fun v8=>let e9:=intBits .or .u64 a3 (shl .u64 (Yc .u64 (intBits .and .u8 (v6.toNat:Int) 127)) e7);bif decide (127<(v6.toNat:Int)) then Z6e.l0 j a1 a2 e9 (Yc .i64 (a4+1)) else bif ((v6.toNat:Int)==0)&&(decide (0<a4)) then some (0,0,3) else Ya (Zwb 1) fun v10=>let e11:=Yc .i64 (e5+1);let e12:=Yc .i64 (shr .u64 e9 1);bif (intBits .and .u64 e9 1)==1 then some (intBits .xor .i64 (-1) e12,e11,0) else some (e12,e11,0)
def Z6e (k:Nat) (a1:Str) (a2:Int):Option (Int×Int×Int):=bif decide (a2<0) then some (0,0,1) else Ya (Z6e.l0 k a1 a2 0 0) fun y3=>some (y3.1,y3.2.1,y3.2.2)
def Z6e.con (k:Nat):Con:=Sig.con { ps:=[.val false .str (ros .str),.val false (.int .i64) (ros (.int .i64))],rs:=[.val false [.v (.int .i64)],.val false [.v (.int .i64)],.val false [.v (.int .i64)]],ntmps:=61 } (fun x=>Z6e k x.1 x.2)
def Z6e.cok (k:Nat):=cX cN
def Z6e.l0.s (k:Nat):Summ:=lp 61 { tmps:=[(0,.one (.v .str)),(1,.one (.v (.int .i64))),(7,.one (.v (.int .u64))),(8,.one (.v (.int .i64)))],slots:=[],nb:=0 } [(.ret,{ tmps:=[(4,.one (.v (.int .i64))),(5,.one (.v (.int .i64))),(6,.one (.v (.int .i64)))],slots:=[],nb:=0 })] (fun j x=>Z6e.l0 j x.1 x.2.1 x.2.2.1 x.2.2.2) k
def Z6e.l0.ok (k:Nat):=(lA (Z6e.cok k):Zj Yb _ (.loop (cO (cO (cR (cR (cR (cR (cB Tryz.f267)))))))) (Z6e.l0.s k))
theorem Z6e.ok (k:Nat):Zf Yb 267 (Z6e.con k):=fP (.two .auto (.two .auto (.two .auto (.two .auto (.one (.sum (Z6e.l0.s k))))))) (Z6e.cok k) Tryz.func267 (sC (Z6e.l0.ok k) sN)
def Zgc (k:Nat) (a1:Zyu):Option (Int×Str×Int×Bool):=Ya (Z6e k a1.1 a1.2.1) fun v2=>bif v2.2.2 != 0 then some (0,a1.1,a1.2.1,true) else some (v2.1,a1.1,v2.2.1,a1.2.2)
def Zgc.con (k:Nat):Con:=Sig.con { ps:=[.ref 234 Zpk (Zzg Zpk)],rs:=[.val false [.v (.int .i64)]],ntmps:=29 } (fun x=>Zgc k x)
theorem Zgc.ok (k:Nat):Zf Yb 215 (Zgc.con k):=fA (cX (cC (Z6e.ok k) cN)) Tryz.func215
def Zcp (k:Nat) (a1:Str) (a2:Int):Option (Str×Int×Int):=Ya (Z6e k a1 a2) fun v3=>bif v3.2.2 != 0 then some ([],0,v3.2.2) else Ya (Zhb v3.1 0 8000) fun v4=>bif !v4 then some ([],0,3) else bif decide ((Yc .i64 (((a1.length):Int)-v3.2.1))<v3.1) then some ([],0,4) else let e5:=Yc .i64 (v3.2.1+v3.1);Ya (Zob a1 v3.2.1 e5) fun v6=>some (v6,e5,0)
def Zcp.con (k:Nat):Con:=Sig.con { ps:=[.val false .str (ros .str),.val false (.int .i64) (ros (.int .i64))],rs:=[.val false [.v .str],.val false [.v (.int .i64)],.val false [.v (.int .i64)]],ntmps:=41 } (fun x=>Zcp k x.1 x.2)
theorem Zcp.ok (k:Nat):Zf Yb 268 (Zcp.con k):=fA (cX (cC (Zhb.ok k) (cC (Z6e.ok k) cN))) Tryz.func268
def Zyg (k:Nat) (a1:Zyu):Option (Str×Str×Int×Bool):=Ya (Zcp k a1.1 a1.2.1) fun v2=>bif v2.2.2 != 0 then some ([],a1.1,a1.2.1,true) else some (v2.1,a1.1,v2.2.1,a1.2.2)
def Zyg.con (k:Nat):Con:=Sig.con { ps:=[.ref 234 Zpk (Zzg Zpk)],rs:=[.val false [.v .str]],ntmps:=29 } (fun x=>Zyg k x)
theorem Zyg.ok (k:Nat):Zf Yb 216 (Zyg.con k):=fA (cX (cC (Zcp.ok k) cN)) Tryz.func216
def Zec.l0:Nat→Str→Int→Int→Int→Option (Int)
 | 0,_,_,_,_=>none
 | j+1,a1,a2,a3,a4=>bif decide (a4<8) then Ya (at? a1 a3) fun v5=>Ya (Zwb a4) fun v6=>Ya (Zwb 1) fun v7=>let e8:=Yc .i64 (a4+1);bif (intBits .and .u32 (intBits .xor .u32 a2 (shr .u32 (Yc .u32 (v5.toNat:Int)) a4)) 1)==1 then Zec.l0 j a1 (intBits .xor .u32 (shr .u32 a2 1) 3988292384) a3 e8 else Zec.l0 j a1 (shr .u32 a2 1) a3 e8 else some a2
def Zec.l1 (k:Nat):Nat→Str→Int→Int→Int→Option (Int)
 | 0,_,_,_,_=>none
 | j+1,a1,a2,a3,a4=>bif decide (a4<a3) then Ya (Zec.l0 k a1 a2 a4 0) fun y5=>Zec.l1 k j a1 y5 a3 (Yc .i64 (a4+1)) else some a2
def Zec (k:Nat) (a1:Int) (a2:Str):Option (Int):=Ya (Zec.l1 k k a2 (intBits .xor .u32 (Y3 .u32) a1) ((a2.length):Int) 0) fun y3=>some (intBits .xor .u32 (Y3 .u32) y3)
def Zec.con (k:Nat):Con:=Sig.con { ps:=[.val false (.int .u32) (ros (.int .u32)),.val false .str (ros .str)],rs:=[.val false [.v (.int .u32)]],ntmps:=38 } (fun x=>Zec k x.1 x.2)
def Zec.cok (k:Nat):=cX cN
def Zec.l0.s (k:Nat):Summ:=lp 38 { tmps:=[(1,.one (.v .str)),(5,.one (.v (.int .u32))),(6,.one (.v (.int .i64))),(16,.one (.v (.int .i64)))],slots:=[],nb:=0 } [(.exit 2,{ tmps:=[(5,.one (.v (.int .u32)))],slots:=[],nb:=0 })] (fun j x=>Zec.l0 j x.1 x.2.1 x.2.2.1 x.2.2.2) k
def Zec.l0.ok (k:Nat):=(lA (Zec.cok k):Zj Yb _ (.loop (cO (cO (cR (cR (cO (cL (cR (cR (cO (cO (cR (cL (cR (cR (cB Tryz.f292)))))))))))))))) (Zec.l0.s k))
def Zec.l1.s (k:Nat):Summ:=lp 38 { tmps:=[(1,.one (.v .str)),(5,.one (.v (.int .u32))),(12,.one (.v (.int .i64))),(13,.one (.v (.int .i64)))],slots:=[],nb:=0 } [(.exit 0,{ tmps:=[(5,.one (.v (.int .u32)))],slots:=[],nb:=0 })] (fun j x=>Zec.l1 k j x.1 x.2.1 x.2.2.1 x.2.2.2) k
def Zec.l1.ok (k:Nat):=(lP (.two .auto (.two .auto (.two (.one (.two .auto (.two .auto (.one (.sum (Zec.l0.s k)))))) .auto))) (Zec.cok k) (sC (Zec.l0.ok k) sN):Zj Yb _ (.loop (cO (cO (cR (cL (cR (cR (cB Tryz.f292)))))))) (Zec.l1.s k))
theorem Zec.ok (k:Nat):Zf Yb 292 (Zec.con k):=fP (.two .auto (.two .auto (.two (.two .auto (.one (.sum (Zec.l1.s k)))) .auto))) (Zec.cok k) Tryz.func292 (sC (Zec.l1.ok k) sN)
def Zdj (k:Nat) (a1:Str):Option (Str):=Ya (Zec k 0 a1) fun v2=>Ya (Zwb 8) fun v3=>Ya (Zwb 16) fun v4=>Ya (Zwb 24) fun v5=>Ya (Zqc a1 (Znb [(Yc .u8 v2),(Yc .u8 (shr .u32 v2 8)),(Yc .u8 (shr .u32 v2 16)),(Yc .u8 (shr .u32 v2 24))])) fun v6=>some v6
def Zdj.con (k:Nat):Con:=Sig.con { ps:=[.val false .str (ros .str)],rs:=[.val false [.v .str]],ntmps:=21 } (fun x=>Zdj k x)
theorem Zdj.ok (k:Nat):Zf Yb 254 (Zdj.con k):=fA (cX (cC (Zec.ok k) cN)) Tryz.func254
def Zvk (k:Nat) (a1:Str):Option (Str×Int):=bif decide (((a1.length):Int)<4) then some ([],4) else Ya (Zob a1 0 (Yc .i64 (((a1.length):Int)-4))) fun v2=>Ya (Zdj k v2) fun v3=>bif !(v3==a1) then some ([],5) else some (v2,0)
def Zvk.con (k:Nat):Con:=Sig.con { ps:=[.val false .str (ros .str)],rs:=[.val false [.v .str],.val false [.v (.int .i64)]],ntmps:=18 } (fun x=>Zvk k x)
theorem Zvk.ok (k:Nat):Zf Yb 225 (Zvk.con k):=fA (cX (cC (Zdj.ok k) cN)) Tryz.func225
def Zsm (k:Nat) (a1:Str):Option (Int×Str×Int):=Ya (Zvk k a1) fun v2=>bif v2.2 != 0 then some (0,[],v2.2) else Ya (Zgc k (v2.1,(0,false))) fun v3=>Ya (Zyg k v3.2) fun v4=>bif v4.2.2.2||(v4.2.2.1 != ((v2.1.length):Int)) then some (0,[],3) else Ya (Zhb v3.1 1 1000000) fun v5=>bif (!v5)||(decide (80<((v4.1.length):Int))) then some (0,[],3) else some (v3.1,v4.1,0)
def Zsm.con (k:Nat):Con:=Sig.con { ps:=[.val false .str (ros .str)],rs:=[.val true [.v (.int .i64),.v .str,.v (.int .i64)]],ntmps:=51 } (fun x=>Zsm k x)
theorem Zsm.ok (k:Nat):Zf Yb 214 (Zsm.con k):=fA (cX (cC (Zhb.ok k) (cC (Zgc.ok k) (cC (Zyg.ok k) (cC (Zvk.ok k) cN))))) Tryz.func214
def Z1c.l0 (k:Nat):Nat→List Str→List Zq→Int→Int→Int→Str→Int→Option ((Int×Int×Str×Int))
 | 0,_,_,_,_,_,_,_=>none
 | j+1,a1,a2,a3,a4,a5,a6,a7=>bif decide (a4<2) then Ya (Zag k (a1,a2) a4) fun v8=>Ya (Zsm k v8) fun v9=>let e10:=Yc .i64 (a4+1);bif (v9.2.2==0)&&((decide (a3<0))||(decide (a5<v9.1))) then Z1c.l0 k j a1 a2 a4 e10 v9.1 v9.2.1 v9.2.2 else Z1c.l0 k j a1 a2 a3 e10 a5 a6 a7 else some (a3,a5,a6,a7)
def Z1c (k:Nat) (a1:G26):Option (Int×Str×Int×Int):=Ya (Z1c.l0 k k a1.1 a1.2 (-1) 0 0 [] 6) fun y2=>some (y2.2.1,y2.2.2.1,y2.2.2.2,y2.1)
def Z1c.con (k:Nat):Con:=Sig.con { ps:=[.val true T26 (ros T26)],rs:=[.val true [.v (.int .i64),.v .str,.v (.int .i64)],.val false [.v (.int .i64)]],ntmps:=35 } (fun x=>Z1c k x)
def Z1c.cok (k:Nat):=cXr true false (cC (Zag.ok k) (cC (Zsm.ok k) cN))
def Z1c.l0.s (k:Nat):Summ:=lp 35 { tmps:=[(1,.eptr [.bor .str,.bor Zp]),(4,.one (.ptr 1 0)),(5,.one (.v (.int .i64))),(9,.one (.v (.int .i64)))],slots:=[(1,.box 156 [.v (.int .i64),.v .str,.v (.int .i64)])],nb:=2 } [(.exit 0,{ tmps:=[(5,.one (.v (.int .i64)))],slots:=[(1,.box 156 [.v (.int .i64),.v .str,.v (.int .i64)])],nb:=2 })] (fun j x=>Z1c.l0 k j x.1 x.2.1 x.2.2.1 x.2.2.2.1 x.2.2.2.2.1 x.2.2.2.2.2.1 x.2.2.2.2.2.2) k
def Z1c.l0.ok (k:Nat):=(lA (Z1c.cok k):Zj Yb _ (.loop (cO (cO (cR (cL (cR (cR (cB Tryz.f121)))))))) (Z1c.l0.s k))
theorem Z1c.ok (k:Nat):Zf Yb 121 (Z1c.con k):=fP (.two .auto (.two .auto (.two (.two .auto (.one (.sum (Z1c.l0.s k)))) .auto))) (Z1c.cok k) Tryz.func121 (sC (Z1c.l0.ok k) sN)
def Zid.l0:Nat→Int→Int→List Int→Option ((List Int))
 | 0,_,_,_=>none
 | j+1,a1,a2,a3=>bif decide (a2<24) then Ya (Zwb a2) fun v4=>let e5:=Yc .i64 (a2+1);bif (intBits .and .i64 (shr .i64 a1 a2) 1)==1 then Ya (Zs 8 a3 [a2]) fun v6=>Zid.l0 j a1 e5 v6 else Zid.l0 j a1 e5 a3 else some a3
def Zid (k:Nat) (a1:Int):Option (List Int):=Ya (Zid.l0 k a1 0 []) fun y2=>some y2
def Zid.con (k:Nat):Con:=Sig.con { ps:=[.val false (.int .i64) (ros (.int .i64))],rs:=[.val false [.own 2 (.int .i64)]],ntmps:=19 } (fun x=>Zid k x)
def Zid.cok (k:Nat):=cX cN
def Zid.l0.s (k:Nat):Summ:=lp 19 { tmps:=[(0,.one (.v (.int .i64))),(3,.one (.own 0)),(5,.one (.v (.int .i64)))],slots:=[(0,.arr false 2 (.int .i64))],nb:=1 } [(.exit 0,{ tmps:=[(3,.one (.own 1))],slots:=[(1,.arr false 2 (.int .i64))],nb:=2 })] (fun j x=>Zid.l0 j x.1 x.2.1 x.2.2) k
def Zid.l0.ok (k:Nat):=(lA (Zid.cok k):Zj Yb _ (.loop (cO (cO (cR (cL (cR (cR (cB Tryz.f139)))))))) (Zid.l0.s k))
theorem Zid.ok (k:Nat):Zf Yb 139 (Zid.con k):=fP (.two .auto (.two .auto (.two (.two .auto (.one (.sum (Zid.l0.s k)))) .auto))) (Zid.cok k) Tryz.func139 (sC (Zid.l0.ok k) sN)
def Zue.l0:Nat→List Int→List Int→Int→Int→Option (Unit ⊕ Bool)
 | 0,_,_,_,_=>none
 | j+1,a1,a2,a3,a4=>bif decide (a4<a3) then Ya (at? a2 a4) fun v5=>Ya (Zhb v5 0 23) fun v6=>bif !v6 then some (.inr false) else let e7:=Yc .i64 (a4+1);bif decide (0<a4) then Ya (at? a1 (Yc .i64 (a4-1))) fun v8=>bif decide (v5≤v8) then some (.inr false) else Zue.l0 j a1 a2 a3 e7 else Zue.l0 j a1 a2 a3 e7 else some (.inl ())
def Zue (k:Nat) (a1:List Int):Option (Bool):=Ya (Zue.l0 k a1 a1 ((a1.length):Int) 0) fun
  | .inl y2=>some true
  | .inr y3=>some y3
def Zue.con (k:Nat):Con:=Sig.con { ps:=[.val false (.sl (.int .i64)) (ros (.sl (.int .i64)))],rs:=[.val false [.v .bool]],ntmps:=29 } (fun x=>Zue k x)
def Zue.cok (k:Nat):=cX (cC (Zhb.ok k) cN)
def Zue.l0.s (k:Nat):Summ:=lp 29 { tmps:=[(0,.one (.bor (.int .i64))),(5,.one (.bor (.int .i64))),(6,.one (.v (.int .i64))),(7,.one (.v (.int .i64)))],slots:=[],nb:=0 } [(.exit 0,{ tmps:=[],slots:=[],nb:=0 }),(.ret,{ tmps:=[(2,.one (.v .bool))],slots:=[],nb:=0 })] (fun j x=>Zue.l0 j x.1 x.2.1 x.2.2.1 x.2.2.2) k
def Zue.l0.ok (k:Nat):=(lA (Zue.cok k):Zj Yb _ (.loop (cO (cO (cR (cL (cR (cB Tryz.f65))))))) (Zue.l0.s k))
theorem Zue.ok (k:Nat):Zf Yb 65 (Zue.con k):=fP (.two .auto (.two (.two .auto (.one (.sum (Zue.l0.s k)))) .auto)) (Zue.cok k) Tryz.func65 (sC (Zue.l0.ok k) sN)
def Z8j (a1:List Int):Option (Int):=some ((a1.length):Int)
def Z8j.con (k:Nat):Con:=Sig.con { ps:=[.val false (.sl (.int .i64)) (ros (.sl (.int .i64)))],rs:=[.val false [.v (.int .i64)]],ntmps:=5 } (fun x=>Z8j x)
theorem Z8j.ok (k:Nat):Zf Yb 137 (Z8j.con k):=fA (cX cN) Tryz.func137
def Zmc.l0:Nat→Int→List Int→Int→Int→Option (Int)
 | 0,_,_,_,_=>none
 | j+1,a1,a2,a3,a4=>bif decide (a4<a3) then Ya (at? a2 a4) fun v5=>Ya (Zwb v5) fun v6=>Zmc.l0 j (intBits .or .i64 a1 (shl .i64 1 v5)) a2 a3 (Yc .i64 (a4+1)) else some a1
def Zmc (k:Nat) (a1:List Int):Option (Int):=Ya (Zmc.l0 k 0 a1 ((a1.length):Int) 0) fun y2=>some y2
def Zmc.con (k:Nat):Con:=Sig.con { ps:=[.val false (.sl (.int .i64)) (ros (.sl (.int .i64)))],rs:=[.val false [.v (.int .i64)]],ntmps:=18 } (fun x=>Zmc k x)
def Zmc.cok (k:Nat):=cX cN
def Zmc.l0.s (k:Nat):Summ:=lp 18 { tmps:=[(3,.one (.v (.int .i64))),(6,.one (.bor (.int .i64))),(7,.one (.v (.int .i64))),(8,.one (.v (.int .i64)))],slots:=[],nb:=0 } [(.exit 0,{ tmps:=[(3,.one (.v (.int .i64)))],slots:=[],nb:=0 })] (fun j x=>Zmc.l0 j x.1 x.2.1 x.2.2.1 x.2.2.2) k
def Zmc.l0.ok (k:Nat):=(lA (Zmc.cok k):Zj Yb _ (.loop (cO (cO (cR (cL (cR (cR (cB Tryz.f140)))))))) (Zmc.l0.s k))
theorem Zmc.ok (k:Nat):Zf Yb 140 (Zmc.con k):=fP (.two .auto (.two .auto (.two (.two .auto (.one (.sum (Zmc.l0.s k)))) .auto))) (Zmc.cok k) Tryz.func140 (sC (Zmc.l0.ok k) sN)
def Zip (k:Nat) (a1:G46):Option (Bool):=Ya (Zhb a1.1 1 5) fun v2=>bif !v2 then some false else Ya (Zue k a1.2.2.2.2.2.2.1) fun v3=>bif !v3 then some false else Ya (Zue k a1.2.2.2.2.2.2.2) fun v4=>bif !v4 then some false else Ya (Zmc k a1.2.2.2.2.2.2.1) fun v5=>Ya (Zmc k a1.2.2.2.2.2.2.2) fun v6=>bif (intBits .and .i64 v5 v6) != 0 then some false else let e7:=a1.2.1==0;let e8:=a1.2.2.2.2.1==0;bif a1.1==1 then some (((((e7&&(a1.2.2.1==0))&&(a1.2.2.2.1==0))&&e8)&&(a1.2.2.2.2.2.1==[]))&&(((a1.2.2.2.2.2.2.2.length):Int)==0)) else Ya (Zhb a1.2.2.1 1 20) fun v9=>bif v9 then Ya (Zhb a1.2.2.2.1 0 4) fun v10=>bif v10 then Ya (Z8j a1.2.2.2.2.2.2.2) fun v11=>bif v11==(Yc .i64 (a1.2.2.1+a1.2.2.2.1)) then bif ((a1.2.2.2.2.2.1.length):Int)==32 then Ya (Zhb a1.2.1 0 2) fun v12=>bif v12 then let e13:=a1.1==5;bif e7 then Ya (Zhb a1.2.2.2.2.1 0 40) fun v14=>bif v14 then bif e8 then some true else some e13 else some false else bif a1.1==4 then Ya (Zhb a1.2.2.2.2.1 0 40) fun v15=>bif v15 then bif e8 then some true else some e13 else some false else some false else some false else some false else some false else some false else some false
def Zip.con (k:Nat):Con:=Sig.con { ps:=[.val true T46 (ros T46)],rs:=[.val false [.v .bool]],ntmps:=116 } (fun x=>Zip k x)
theorem Zip.ok (k:Nat):Zf Yb 217 (Zip.con k):=fA (cXr true false (cC (Zue.ok k) (cC (Zhb.ok k) (cC (Z8j.ok k) (cC (Zmc.ok k) cN))))) Tryz.func217
def Zqp (k:Nat) (a1:Str):Option (Int×Int×Int×Int×Int×Str×List Int×List Int×Bool):=Ya (Zgc k (a1,(0,false))) fun v2=>Ya (Zgc k v2.2) fun v3=>Ya (Zgc k v3.2) fun v4=>Ya (Zgc k v4.2) fun v5=>Ya (Zgc k v5.2) fun v6=>Ya (Zgc k v6.2) fun v7=>Ya (Zgc k v7.2) fun v8=>Ya (Zyg k v8.2) fun v9=>bif v9.2.2.2||(v9.2.2.1 != ((a1.length):Int)) then some (0,0,0,0,0,[],[],[],false) else Ya (Zhb v7.1 0 16777215) fun v10=>bif !v10 then some (0,0,0,0,0,[],[],[],false) else Ya (Zhb v8.1 0 16777215) fun v11=>bif !v11 then some (0,0,0,0,0,[],[],[],false) else Ya (Zid k v7.1) fun v12=>Ya (Zid k v8.1) fun v13=>Ya (Zip k (v2.1,(v3.1,(v4.1,(v5.1,(v6.1,(v9.1,(v12,v13)))))))) fun v14=>bif !v14 then some (0,0,0,0,0,[],[],[],false) else some (v2.1,v3.1,v4.1,v5.1,v6.1,v9.1,v12,v13,true)
def Zqp.con (k:Nat):Con:=Sig.con { ps:=[.val false .str (ros .str)],rs:=[.val true [.v (.int .i64),.v (.int .i64),.v (.int .i64),.v (.int .i64),.v (.int .i64),.v .str,.own 2 (.int .i64),.own 2 (.int .i64)],.val false [.v .bool]],ntmps:=64 } (fun x=>Zqp k x)
theorem Zqp.ok (k:Nat):Zf Yb 122 (Zqp.con k):=fA (cX (cC (Zhb.ok k) (cC (Zid.ok k) (cC (Zgc.ok k) (cC (Zyg.ok k) (cC (Zip.ok k) cN)))))) Tryz.func122
def Zqh (k:Nat) (a1:G28):Option (Int×Int×Int×Int×Int×Str×List Int×List Int×Bool):=Ya (Z7j a1.1) fun v2=>bif !v2 then some (0,0,0,0,0,[],[],[],false) else Ya (Zte k a1.2) fun v3=>bif !v3 then some (0,0,0,0,0,[],[],[],false) else Ya (Zmi a1.2.1) fun v4=>bif v4 != (Yc .i64 ((Yc .i64 (3+a1.1))+24)) then some (0,0,0,0,0,[],[],[],false) else Ya (Z1c k a1.2) fun v5=>bif decide (v5.2.2.2<0) then some (0,0,0,0,0,[],[],[],false) else Ya (Zqp k v5.2.1) fun v6=>some (v6.1,v6.2.1,v6.2.2.1,v6.2.2.2.1,v6.2.2.2.2.1,v6.2.2.2.2.2.1,v6.2.2.2.2.2.2.1,v6.2.2.2.2.2.2.2.1,v6.2.2.2.2.2.2.2.2)
def Zqh.con (k:Nat):Con:=Sig.con { ps:=[.val true T28 (ros T28)],rs:=[.val true [.v (.int .i64),.v (.int .i64),.v (.int .i64),.v (.int .i64),.v (.int .i64),.v .str,.own 2 (.int .i64),.own 2 (.int .i64)],.val false [.v .bool]],ntmps:=42 } (fun x=>Zqh k x)
theorem Zqh.ok (k:Nat):Zf Yb 59 (Zqh.con k):=fA (cXr true false (cC (Z7j.ok k) (cC (Zmi.ok k) (cC (Zte.ok k) (cC (Z1c.ok k) (cC (Zqp.ok k) cN)))))) Tryz.func59
def Zph (a1:G28) (a2:Int):Option (Int):=some (Yc .i64 ((Yc .i64 (3+a1.1))+a2))
def Zph.con (k:Nat):Con:=Sig.con { ps:=[.val true T28 (ros T28),.val false (.int .i64) (ros (.int .i64))],rs:=[.val false [.v (.int .i64)]],ntmps:=10 } (fun x=>Zph x.1 x.2)
theorem Zph.ok (k:Nat):Zf Yb 145 (Zph.con k):=fA (cXr true false cN) Tryz.func145
def Zbj (k:Nat) (a1:G28) (a2:Int):Option (Str):=Ya (Zph a1 a2) fun v3=>Ya (Zag k a1.2 v3) fun v4=>some v4
def Zbj.con (k:Nat):Con:=Sig.con { ps:=[.val true T28 (ros T28),.val false (.int .i64) (ros (.int .i64))],rs:=[.val false [.v .str]],ntmps:=11 } (fun x=>Zbj k x.1 x.2)
theorem Zbj.ok (k:Nat):Zf Yb 144 (Zbj.con k):=fA (cXr true false (cC (Zag.ok k) (cC (Zph.ok k) cN))) Tryz.func144
def Zli (a1:Int):Option (Bool):=Ya (Zhb a1 0 1000000) fun v2=>some v2
def Zli.con (k:Nat):Con:=Sig.con { ps:=[.val false (.int .i64) (ros (.int .i64))],rs:=[.val false [.v .bool]],ntmps:=5 } (fun x=>Zli x)
theorem Zli.ok (k:Nat):Zf Yb 125 (Zli.con k):=fA (cX (cC (Zhb.ok k) cN)) Tryz.func125
def Zoc.j0 (a1:Int) (a2:Bool) (a3:Int) (a4:Int) (a5:Int) (a6:Str):Option ((Bool×Int×Int×Int×Str)):=bif (a3==3)||(a3==4) then Ya (Zhb a5 0 (Yc .i64 (a1-1))) fun v7=>some (v7,a3,a4,a5,a6) else some (a2,a3,a4,a5,a6)
def Zoc.j1 (a1:Bool) (a2:Int) (a3:Int) (a4:Int) (a5:Str):Option ((Bool×Int×Int×Int×Str)):=bif (a2==2)||(a2==4) then some (((a5.length):Int)==8,a2,a3,a4,a5) else some (a1,a2,a3,a4,a5)
def Zoc (a1:G52) (a2:Int):Option (Bool):=Ya (Zhb a1.2.1 0 (Yc .i64 (a2-1))) fun v3=>Ya (Zoc.j0 a2 (a1.2.2.1==0) a1.1 a1.2.1 a1.2.2.1 a1.2.2.2) fun y4=>Ya (Zoc.j1 (a1.2.2.2==[]) y4.2.1 y4.2.2.1 y4.2.2.2.1 y4.2.2.2.2) fun y5=>bif y5.2.1==5 then Ya (Zli y5.2.2.2.1) fun v6=>Ya (Zhb y5.2.1 1 5) fun v7=>some (((v7&&(y5.2.2.1==0))&&v6)&&y5.1) else Ya (Zhb y5.2.1 1 5) fun v8=>some (((v8&&v3)&&y4.1)&&y5.1)
def Zoc.con (k:Nat):Con:=Sig.con { ps:=[.val true T52 (ros T52),.val false (.int .i64) (ros (.int .i64))],rs:=[.val false [.v .bool]],ntmps:=65 } (fun x=>Zoc x.1 x.2)
def Zoc.cok (k:Nat):=cX (cC (Zhb.ok k) (cC (Zli.ok k) cN))
def Zoc.j0.s (k:Nat):Summ:=lq 65 { tmps:=[(1,.one (.v (.int .i64))),(2,.one (.ptr 0 0)),(6,.one (.v .bool))],slots:=[(0,.box 52 [.v (.int .i64),.v (.int .i64),.v (.int .i64),.v .str])],nb:=1 } [(.nrm,{ tmps:=[(6,.one (.v .bool))],slots:=[(0,.box 52 [.v (.int .i64),.v (.int .i64),.v (.int .i64),.v .str])],nb:=1 })] (fun x=>Zoc.j0 x.1 x.2.1 x.2.2.1 x.2.2.2.1 x.2.2.2.2.1 x.2.2.2.2.2)
def Zoc.j0.ok (k:Nat):=(jA (Zoc.cok k):Zj Yb _ (cL (cR (cR (cB Tryz.f124)))) (Zoc.j0.s k))
def Zoc.j1.s (k:Nat):Summ:=lq 65 { tmps:=[(2,.one (.ptr 0 0)),(7,.one (.v .bool))],slots:=[(0,.box 52 [.v (.int .i64),.v (.int .i64),.v (.int .i64),.v .str])],nb:=1 } [(.nrm,{ tmps:=[(7,.one (.v .bool))],slots:=[(0,.box 52 [.v (.int .i64),.v (.int .i64),.v (.int .i64),.v .str])],nb:=1 })] (fun x=>Zoc.j1 x.1 x.2.1 x.2.2.1 x.2.2.2.1 x.2.2.2.2)
def Zoc.j1.ok (k:Nat):=(jA (Zoc.cok k):Zj Yb _ (cL (cR (cR (cR (cB Tryz.f124))))) (Zoc.j1.s k))
theorem Zoc.ok (k:Nat):Zf Yb 124 (Zoc.con k):=fP (.two .auto (.two .auto (.two (.sum (Zoc.j0.s k)) (.two (.sum (Zoc.j1.s k)) .auto)))) (Zoc.cok k) Tryz.func124 (sC (Zoc.j0.ok k) (sC (Zoc.j1.ok k) sN))
def Zop (k:Nat) (a1:Zyu):Option (Int×Int×Int×Str×Str×Int×Bool):=Ya (Zgc k a1) fun v2=>Ya (Zgc k v2.2) fun v3=>Ya (Zgc k v3.2) fun v4=>Ya (Zyg k v4.2) fun v5=>some (v2.1,v3.1,v4.1,v5.1,v5.2.1,v5.2.2.1,v5.2.2.2)
def Zop.con (k:Nat):Con:=Sig.con { ps:=[.ref 234 Zpk (Zzg Zpk)],rs:=[.val true [.v (.int .i64),.v (.int .i64),.v (.int .i64),.v .str]],ntmps:=12 } (fun x=>Zop k x)
theorem Zop.ok (k:Nat):Zf Yb 293 (Zop.con k):=fA (cX (cC (Zgc.ok k) (cC (Zyg.ok k) cN))) Tryz.func293
def Ztm (k:Nat) (a1:Str) (a2:Int):Option (Int×Int×Int×Str×Int):=Ya (Zvk k a1) fun v3=>bif v3.2 != 0 then some (0,0,0,[],v3.2) else Ya (Zgc k (v3.1,(0,false))) fun v4=>Ya (Zop k v4.2) fun v5=>bif v5.2.2.2.2.2.2||(v5.2.2.2.2.2.1 != ((v3.1.length):Int)) then some (0,0,0,[],3) else Ya (Zli v4.1) fun v6=>bif !v6 then some (0,0,0,[],3) else Ya (Zoc (v5.1,(v5.2.1,(v5.2.2.1,v5.2.2.2.1))) 8) fun v7=>bif !v7 then some (0,0,0,[],3) else bif v4.1 != a2 then some (0,0,0,[],6) else some (v5.1,v5.2.1,v5.2.2.1,v5.2.2.2.1,0)
def Ztm.con (k:Nat):Con:=Sig.con { ps:=[.val false .str (ros .str),.val false (.int .i64) (ros (.int .i64))],rs:=[.val true [.v (.int .i64),.v (.int .i64),.v (.int .i64),.v .str],.val false [.v (.int .i64)]],ntmps:=58 } (fun x=>Ztm k x.1 x.2)
theorem Ztm.ok (k:Nat):Zf Yb 261 (Ztm.con k):=fA (cX (cC (Zoc.ok k) (cC (Zli.ok k) (cC (Zgc.ok k) (cC (Zvk.ok k) (cC (Zop.ok k) cN)))))) Tryz.func261
def Zqf.l0 (k:Nat):Nat→List Str→Int→Int→List G52→Option ((List G52))
 | 0,_,_,_,_=>none
 | j+1,a1,a2,a3,a4=>bif decide (a3<a2) then Ya (at? a1 a3) fun v5=>Ya (Ztm k v5 a3) fun v6=>bif v6.2.2.2.2 != 0 then some a4 else Ya (Zs 40 a4 [(v6.1,(v6.2.1,(v6.2.2.1,v6.2.2.2.1)))]) fun v7=>Zqf.l0 k j a1 a2 (Yc .i64 (a3+1)) v7 else some a4
def Zqf (k:Nat) (a1:List Str):Option (List G52):=Ya (Zqf.l0 k k a1 ((a1.length):Int) 0 []) fun y2=>some y2
def Zqf.con (k:Nat):Con:=Sig.con { ps:=[.val false (.sl .str) (ros (.sl .str))],rs:=[.val false [.own 52 T52]],ntmps:=29 } (fun x=>Zqf k x)
def Zqf.cok (k:Nat):=cX (cC (Ztm.ok k) cN)
def Zqf.l0.s (k:Nat):Summ:=lp 29 { tmps:=[(3,.one (.own 0)),(8,.one (.bor .str)),(9,.one (.v (.int .i64))),(10,.one (.v (.int .i64)))],slots:=[(0,.arr false 52 T52)],nb:=1 } [(.exit 0,{ tmps:=[(3,.one (.own 1))],slots:=[(1,.arr false 52 T52)],nb:=2 })] (fun j x=>Zqf.l0 k j x.1 x.2.1 x.2.2.1 x.2.2.2) k
def Zqf.l0.ok (k:Nat):=(lA (Zqf.cok k):Zj Yb _ (.loop (cO (cO (cR (cL (cR (cR (cB Tryz.f195)))))))) (Zqf.l0.s k))
theorem Zqf.ok (k:Nat):Zf Yb 195 (Zqf.con k):=fP (.two .auto (.two .auto (.two (.two .auto (.one (.sum (Zqf.l0.s k)))) .auto))) (Zqf.cok k) Tryz.func195 (sC (Zqf.l0.ok k) sN)
def Z8c.l0 (k:Nat):Nat→Int→List Str→List Zq→List Int→Int→Int→List Str→Option ((List Str))
 | 0,_,_,_,_,_,_,_=>none
 | j+1,a1,a2,a3,a4,a5,a6,a7=>bif decide (a6<a5) then Ya (at? a4 a6) fun v8=>Ya (Zbj k (a1,(a2,a3)) v8) fun v9=>Ya (Zs 16 a7 [v9]) fun v10=>Z8c.l0 k j a1 a2 a3 a4 a5 (Yc .i64 (a6+1)) v10 else some a7
def Z8c (k:Nat) (a1:G28) (a2:G46):Option (List G52):=Ya (Zob a2.2.2.2.2.2.2.2 a2.2.2.2.1 ((a2.2.2.2.2.2.2.2.length):Int)) fun v3=>Ya (Z8c.l0 k k a1.1 a1.2.1 a1.2.2 v3 ((v3.length):Int) 0 []) fun y4=>Ya (Zqf k y4) fun v5=>some v5
def Z8c.con (k:Nat):Con:=Sig.con { ps:=[.val true T28 (ros T28),.val true T46 (ros T46)],rs:=[.val false [.own 52 T52]],ntmps:=27 } (fun x=>Z8c k x.1 x.2)
def Z8c.cok (k:Nat):=cXr true false (cC (Zbj.ok k) (cC (Zqf.ok k) cN))
def Z8c.l0.s (k:Nat):Summ:=lp 27 { tmps:=[(2,.eptr [.v (.int .i64),.bor .str,.bor Zp]),(5,.one (.own 0)),(12,.one (.bor (.int .i64))),(13,.one (.v (.int .i64))),(14,.one (.v (.int .i64)))],slots:=[(0,.arr false 9 .str)],nb:=1 } [(.exit 0,{ tmps:=[(5,.one (.own 1))],slots:=[(1,.arr false 9 .str)],nb:=2 })] (fun j x=>Z8c.l0 k j x.1 x.2.1 x.2.2.1 x.2.2.2.1 x.2.2.2.2.1 x.2.2.2.2.2.1 x.2.2.2.2.2.2) k
def Z8c.l0.ok (k:Nat):=(lA (Z8c.cok k):Zj Yb _ (.loop (cO (cO (cR (cL (cR (cR (cB Tryz.f108)))))))) (Z8c.l0.s k))
theorem Z8c.ok (k:Nat):Zf Yb 108 (Z8c.con k):=fP (.two .auto (.two .auto (.two (.two .auto (.one (.sum (Z8c.l0.s k)))) .auto))) (Z8c.cok k) Tryz.func108 (sC (Z8c.l0.ok k) sN)
def Zsp (a1:G52) (a2:Int):Option (Bool):=Ya (Zoc a1 a2) fun v3=>some (!v3)
def Zsp.con (k:Nat):Con:=Sig.con { ps:=[.val true T52 (ros T52),.rptr (.int .i64)],rs:=[.val false [.v .bool]],ntmps:=8 } (fun x=>Zsp x.1 x.2)
theorem Zsp.ok (k:Nat):Zf Yb 197 (Zsp.con k):=fA (cX (cC (Zoc.ok k) cN)) Tryz.func197
def Z1d.l0:Nat→List G52→Int→Int→Int→Option (Int ⊕ (Int×Int))
 | 0,_,_,_,_=>none
 | j+1,a1,a2,a3,a4=>bif decide (a3<a2) then Ya (at? a1 a3) fun v5=>Ya (Zsp v5 a4) fun v6=>bif v6 then some (.inr (a3,a4)) else Z1d.l0 j a1 a2 (Yc .i64 (a3+1)) a4 else some (.inl a4)
def Z1d (k:Nat) (a1:List G52) (a2:Int):Option (Int×Int):=Ya (Z1d.l0 k a1 ((a1.length):Int) 0 a2) fun
  | .inl y3=>some ((-1),y3)
  | .inr y4=>some (y4.1,y4.2)
def Z1d.con (k:Nat):Con:=Sig.con { ps:=[.val false (.sl T52) (ros (.sl T52)),.fn 197 [(2,(.int .i64),(Zzg (.int .i64)))]],rs:=[.val false [.v (.int .i64)]],ntmps:=19 } (fun x=>Z1d k x.1 x.2)
def Z1d.cok (k:Nat):=cX (cC (Zsp.ok k) cN)
def Z1d.l0.s (k:Nat):Summ:=lp 19 { tmps:=[(0,.one (.bor T52)),(1,.fn 197 [.ptr 0 0]),(7,.one (.v (.int .i64))),(8,.one (.v (.int .i64)))],slots:=[(0,.box 2 [.v (.int .i64)])],nb:=1 } [(.exit 0,{ tmps:=[],slots:=[(0,.box 2 [.v (.int .i64)])],nb:=1 }),(.ret,{ tmps:=[(4,.one (.v (.int .i64)))],slots:=[(0,.box 2 [.v (.int .i64)])],nb:=1 })] (fun j x=>Z1d.l0 j x.1 x.2.1 x.2.2.1 x.2.2.2) k
def Z1d.l0.ok (k:Nat):=(lA (Z1d.cok k):Zj Yb _ (.loop (cO (cO (cR (cL (cR (cB Yk))))))) (Z1d.l0.s k))
theorem Z1d.ok (k:Nat):Zf Yb 262 (Z1d.con k):=fP (.two .auto (.two (.two .auto (.one (.sum (Z1d.l0.s k)))) .auto)) (Z1d.cok k) Yl (sC (Z1d.l0.ok k) sN)
def Ziq (k:Nat) (a1:List G52) (a2:Int):Option (Bool×Int):=Ya (Z1d k a1 a2) fun v3=>some (decide (0≤v3.1),v3.2)
def Ziq.con (k:Nat):Con:=Sig.con { ps:=[.val false (.sl T52) (ros (.sl T52)),.fn 197 [(2,(.int .i64),(Zzg (.int .i64)))]],rs:=[.val false [.v .bool]],ntmps:=9 } (fun x=>Ziq k x.1 x.2)
theorem Ziq.ok (k:Nat):Zf Yb 196 (Ziq.con k):=fA (cX (cC (Z1d.ok k) cN)) Tryz.func196
def Z1r (a1:G52) (a2:Int):Option (Bool):=some ((a1.1 != 5)&&(a1.2.1==a2))
def Z1r.con (k:Nat):Con:=Sig.con { ps:=[.val true T52 (ros T52),.rptr (.int .i64)],rs:=[.val false [.v .bool]],ntmps:=13 } (fun x=>Z1r x.1 x.2)
theorem Z1r.ok (k:Nat):Zf Yb 263 (Z1r.con k):=fA (cX cN) Tryz.func263
def Z2d.l0:Nat→List G52→Int→Int→Int→Option (Int ⊕ (Int×Int))
 | 0,_,_,_,_=>none
 | j+1,a1,a2,a3,a4=>bif decide (a3<a2) then Ya (at? a1 a3) fun v5=>Ya (Z1r v5 a4) fun v6=>bif v6 then some (.inr (a3,a4)) else Z2d.l0 j a1 a2 (Yc .i64 (a3+1)) a4 else some (.inl a4)
def Z2d (k:Nat) (a1:List G52) (a2:Int):Option (Int×Int):=Ya (Z2d.l0 k a1 ((a1.length):Int) 0 a2) fun
  | .inl y3=>some ((-1),y3)
  | .inr y4=>some (y4.1,y4.2)
def Z2d.con (k:Nat):Con:=Sig.con { ps:=[.val false (.sl T52) (ros (.sl T52)),.fn 263 [(2,(.int .i64),(Zzg (.int .i64)))]],rs:=[.val false [.v (.int .i64)]],ntmps:=19 } (fun x=>Z2d k x.1 x.2)
def Z2d.cok (k:Nat):=cX (cC (Z1r.ok k) cN)
def Z2d.l0.s (k:Nat):Summ:=lp 19 { tmps:=[(0,.one (.bor T52)),(1,.fn 263 [.ptr 0 0]),(7,.one (.v (.int .i64))),(8,.one (.v (.int .i64)))],slots:=[(0,.box 2 [.v (.int .i64)])],nb:=1 } [(.exit 0,{ tmps:=[],slots:=[(0,.box 2 [.v (.int .i64)])],nb:=1 }),(.ret,{ tmps:=[(4,.one (.v (.int .i64)))],slots:=[(0,.box 2 [.v (.int .i64)])],nb:=1 })] (fun j x=>Z2d.l0 j x.1 x.2.1 x.2.2.1 x.2.2.2) k
def Z2d.l0.ok (k:Nat):=(lA (Z2d.cok k):Zj Yb _ (.loop (cO (cO (cR (cL (cR (cB Yk))))))) (Z2d.l0.s k))
theorem Z2d.ok (k:Nat):Zf Yb 262 (Z2d.con k):=fP (.two .auto (.two (.two .auto (.one (.sum (Z2d.l0.s k)))) .auto)) (Z2d.cok k) Yl (sC (Z2d.l0.ok k) sN)
def Ztp (k:Nat) (a1:List G52) (a2:Int):Option (Int):=Ya (Z2d k a1 a2) fun v3=>some v3.1
def Ztp.con (k:Nat):Con:=Sig.con { ps:=[.val false (.sl T52) (ros (.sl T52)),.val false (.int .i64) (ros (.int .i64))],rs:=[.val false [.v (.int .i64)]],ntmps:=8 } (fun x=>Ztp k x.1 x.2)
theorem Ztp.ok (k:Nat):Zf Yb 198 (Ztp.con k):=fA (cX (cC (Z2d.ok k) cN)) Tryz.func198
def Zed.l0 (k:Nat):Nat→List G52→Int→Bool→List G52→Int→Int→Option (Bool ⊕ Int)
 | 0,_,_,_,_,_,_=>none
 | j+1,a1,a2,a3,a4,a5,a6=>bif decide (a6<a5) then Ya (at? a4 a6) fun v7=>let e8:=Yc .i64 (a6+1);bif v7.1 != 5 then Ya (Ztp k a1 v7.2.1) fun v9=>bif decide (v9<a6) then some (.inr 12) else Zed.l0 k j a1 a2 a3 a4 a5 e8 else Zed.l0 k j a1 v7.2.2.1 (a3&&(decide (a2<v7.2.2.1))) a4 a5 e8 else some (.inl a3)
def Zed (k:Nat) (a1:List G52) (a2:Int):Option (Int):=Ya (Z7j a2) fun v3=>bif (!v3)||(decide (20<((a1.length):Int))) then some 1 else Ya (Ziq k a1 a2) fun v4=>bif v4.1 then some 1 else Ya (Zed.l0 k k a1 (-1) true a1 ((a1.length):Int) 0) fun
  | .inl y5=>bif !y5 then some 8 else some 0
  | .inr y6=>some y6
def Zed.con (k:Nat):Con:=Sig.con { ps:=[.val false (.sl T52) (ros (.sl T52)),.val false (.int .i64) (ros (.int .i64))],rs:=[.val false [.v (.int .i64)]],ntmps:=50 } (fun x=>Zed k x.1 x.2)
def Zed.cok (k:Nat):=cX (cC (Z7j.ok k) (cC (Ziq.ok k) (cC (Ztp.ok k) cN)))
def Zed.l0.s (k:Nat):Summ:=lp 50 { tmps:=[(0,.one (.bor T52)),(5,.one (.v (.int .i64))),(6,.one (.v .bool)),(22,.one (.bor T52)),(23,.one (.v (.int .i64))),(24,.one (.v (.int .i64)))],slots:=[],nb:=1 } [(.exit 0,{ tmps:=[(6,.one (.v .bool))],slots:=[],nb:=1 }),(.ret,{ tmps:=[(4,.one (.v (.int .i64)))],slots:=[],nb:=1 })] (fun j x=>Zed.l0 k j x.1 x.2.1 x.2.2.1 x.2.2.2.1 x.2.2.2.2.1 x.2.2.2.2.2) k
def Zed.l0.ok (k:Nat):=(lA (Zed.cok k):Zj Yb _ (.loop (cO (cO (cR (cL (cR (cR (cR (cR (cB Tryz.f109)))))))))) (Zed.l0.s k))
theorem Zed.ok (k:Nat):Zf Yb 109 (Zed.con k):=fP (.two .auto (.two .auto (.two .auto (.two .auto (.two (.two .auto (.one (.sum (Zed.l0.s k)))) .auto))))) (Zed.cok k) Tryz.func109 (sC (Zed.l0.ok k) sN)
def Zol (a1:G52):Option (Bool):=some (a1.1==5)
def Zol.con (k:Nat):Con:=Sig.con { ps:=[.val true T52 (ros T52)],rs:=[.val false [.v .bool]],ntmps:=6 } (fun x=>Zol x)
theorem Zol.ok (k:Nat):Zf Yb 210 (Zol.con k):=fA (cX cN) Tryz.func210
def Z3d.l0:Nat→List G52→Int→Int→Option (Unit ⊕ Int)
 | 0,_,_,_=>none
 | j+1,a1,a2,a3=>bif decide (a3<a2) then Ya (at? a1 a3) fun v4=>Ya (Zol v4) fun v5=>bif v5 then some (.inr a3) else Z3d.l0 j a1 a2 (Yc .i64 (a3+1)) else some (.inl ())
def Z3d (k:Nat) (a1:List G52):Option (Int):=Ya (Z3d.l0 k a1 ((a1.length):Int) 0) fun
  | .inl y2=>some (-1)
  | .inr y3=>some y3
def Z3d.con (k:Nat):Con:=Sig.con { ps:=[.val false (.sl T52) (ros (.sl T52)),.fn 210 []],rs:=[.val false [.v (.int .i64)]],ntmps:=19 } (fun x=>Z3d k x)
def Z3d.cok (k:Nat):=cX (cC (Zol.ok k) cN)
def Z3d.l0.s (k:Nat):Summ:=lp 19 { tmps:=[(0,.one (.bor T52)),(1,.fn 210 []),(7,.one (.v (.int .i64))),(8,.one (.v (.int .i64)))],slots:=[],nb:=0 } [(.exit 0,{ tmps:=[],slots:=[],nb:=0 }),(.ret,{ tmps:=[(4,.one (.v (.int .i64)))],slots:=[],nb:=0 })] (fun j x=>Z3d.l0 j x.1 x.2.1 x.2.2) k
def Z3d.l0.ok (k:Nat):=(lA (Z3d.cok k):Zj Yb _ (.loop (cO (cO (cR (cL (cR (cB Yk))))))) (Z3d.l0.s k))
theorem Z3d.ok (k:Nat):Zf Yb 262 (Z3d.con k):=fP (.two .auto (.two (.two .auto (.one (.sum (Z3d.l0.s k)))) .auto)) (Z3d.cok k) Yl (sC (Z3d.l0.ok k) sN)
def Zdg.l0:Nat→Int→Int→List G52→Option ((Int×List G52))
 | 0,_,_,_=>none
 | j+1,a1,a2,a3=>bif decide (a2<((a3.length):Int)) then Ya (at? a3 a2) fun v4=>Ya (at? a3 a2) fun v5=>Ya (Zol v5) fun v6=>let e7:=Yc .i64 (a2+1);bif !v6 then Ya (at? a3 a1) fun v8=>Ya (at? a3 a1) fun v9=>Zdg.l0 j (Yc .i64 (a1+1)) e7 (List.set a3 (Yg a1) v5) else Zdg.l0 j a1 e7 a3 else some (a1,a3)
def Zdg (k:Nat) (a1:List G52):Option (List G52):=Ya (Z3d k a1) fun v2=>bif v2==(-1) then some a1 else Ya (Zdg.l0 k v2 (Yc .i64 (v2+1)) a1) fun y3=>Ya (Zex y3.1 (y3.2.length)) fun v4=>Ya (Zob (List.take (Yg y3.1) y3.2++Yi (Y8 y3.2-Yg y3.1) (0,(0,(0,[])))) 0 y3.1) fun v5=>some v5
def Zdg.con (k:Nat):Con:=Sig.con { ps:=[.mv 52 T52,.fn 210 []],rs:=[.val false [.v (.sl T52)]],ntmps:=42 } (fun x=>Zdg k x)
def Zdg.cok (k:Nat):=cXr false true (cC (Zol.ok k) (cC (Z3d.ok k) cN))
def Zdg.l0.s (k:Nat):Summ:=lp 42 { tmps:=[(0,.one (.own 1)),(1,.fn 210 []),(5,.one (.v (.int .i64))),(6,.one (.v (.int .i64)))],slots:=[(1,.arr false 52 T52)],nb:=2 } [(.exit 0,{ tmps:=[(0,.one (.own 2)),(5,.one (.v (.int .i64)))],slots:=[(2,.arr false 52 T52)],nb:=3 })] (fun j x=>Zdg.l0 j x.1 x.2.1 x.2.2) k
def Zdg.l0.ok (k:Nat):=(lA (Zdg.cok k):Zj Yb _ (.loop (cO (cO (cR (cL (cR (cR (cR (cB Tryz.f208))))))))) (Zdg.l0.s k))
theorem Zdg.ok (k:Nat):Zf Yb 208 (Zdg.con k):=fP (.two .auto (.two .auto (.two .auto (.two (.two .auto (.one (.sum (Zdg.l0.s k)))) .auto)))) (Zdg.cok k) Tryz.func208 (sC (Zdg.l0.ok k) sN)
end Go.Proofs.Qz
