/- What the law FnFold needs, part 7 of 15: the Lean functions of the Go functions that it reaches, with the proofs that the calls come to what they say, and plain facts about them. Conditions: those that each theorem states. Written by a session and by its programs (after the kit's printer). -/
import Derived.Lib.LaidTab
import Derived.Lib.AppendIntMem
import Derived.Shelf.Strings.Builder1
import Derived.Shelf.Strings.Builder2
import Derived.Shelf.Strings.OnBuilder
import Derived.Shelf.Strings.BuilderF
import Derived.Shelf.Strings.Prefix
import Derived.Shelf.Bits.Mul64
import Derived.Shelf.Strings.Repeat
import Derived.Ground.Names2Prog
import Derived.Shelf.Slices.Clone
import Derived.Shelf.Slices.Delete
import Derived.Shelf.Slices.Cells
import Derived.Shelf.Slices.Empties
import Derived.Ground.SlgnProg
import Derived.Shelf.SlicesE.Clone
import Derived.Ground.SlgfProg
import Derived.Shelf.SlicesE.IndexFunc
import Derived.Test.YtmohoeinamddcaaGreatDoorProg
import Derived.Test.YtmohoeinamddcaaGreatDoorXFnFold4
import Derived.Test.YtmohoeinamddcaaGreatDoorXFnFold5
open Option renaming bind → Ya, some → Yq
open Go.Proofs.Tryz renaming prog → Yb, f114 → Yj, f164 → Yk, isAgg4 → Yl, sizeOf4 → Ym, underlying4 → Yn, zeroValue4 → Yo, isAgg0 → Yr, isAgg3 → Ys, isAgg5 → Yt, isAgg9 → Yu, sizeOf0 → Yv, sizeOf3 → Yw, sizeOf5 → Yx, sizeOf9 → Yy, underlying0 → Yz, underlying3 → Y0, underlying5 → Y1, underlying9 → Y2, zeroValue0 → Y3, zeroValue3 → Y4, zeroValue5 → Y5, zeroValue9 → Y6, func143 → Yca, func191 → Yda, func192 → Yea, func193 → Yfa, func199 → Yga, func200 → Yha, func205 → Yia, func206 → Yja, isAgg20 → Yka, isAgg22 → Yla, isAgg228 → Yma, isAgg23 → Yna, isAgg230 → Yoa, isAgg233 → Ypa, isAgg234 → Yqa, isAgg243 → Yra, isAgg248 → Ysa, sizeOf20 → Yta, sizeOf22 → Yua, sizeOf228 → Yva, sizeOf23 → Ywa, sizeOf230 → Yxa, sizeOf233 → Yya, sizeOf234 → Yza, sizeOf243 → Y0a, sizeOf248 → Y1a, underlying20 → Y2a, underlying22 → Y3a, underlying228 → Y4a, underlying23 → Y5a, underlying230 → Y6a, underlying233 → Y7a, underlying234 → Y8a, underlying243 → Y9a, underlying248 → Yab, zeroValue20 → Ybb, zeroValue22 → Ycb, zeroValue228 → Ydb, zeroValue23 → Yeb, zeroValue230 → Yfb, zeroValue233 → Ygb, zeroValue234 → Yhb, zeroValue243 → Yib, zeroValue248 → Yjb
open Go.IntKind renaming wrap → Yc, max → Yh
open Bool renaming and_eq_true → Yd, and_true → Y7
open List renaming all_cons → Ye, set → Yg, map_cons → Yi, mem_singleton → Yp, all_append → Y8, append_assoc → Y9, cons_append → Yaa, replicate → Yba
open Int renaming toNat → Yf
namespace Go.Proofs.Qz
open Go Go.RowKit
set_option linter.unusedVariables false
def Z5z:(r:Ty)→r.T→Option Value
 | .int k,n=>some (.int k n)
 | .bool,b=>some (.bool b)
 | .str,s=>some (.string (ba s))
 | _,_=>none
section
variable {P:Program} {w:World}
theorem Zxmb {F:Nat→Prop}:∀{r:Ty} {x:r.T} {v:Value},Z5z r x=some v→Rep w F r x [v]∧r.sz=1
 | .int k,_,_,h=>by cases h;exact ⟨rfl,rfl⟩
 | .bool,_,_,h=>by cases h;exact ⟨rfl,rfl⟩
 | .str,_,_,h=>by cases h;exact ⟨rfl,rfl⟩
 | .sl _,_,_,h=>by cases h
 | .pair _ _,_,_,h=>by cases h
 | .unit,_,_,h=>by cases h
theorem Zwhb {n:Nat} {r:Ty} {l:List r.T} {cs:Array Value} {ty:TypeId} {fr:Nat×Nat} (hg:w.heap[n]? = some (.cells cs ty fr)) (h:l.map (Z5z r)=cs.toList.map some) (hr:r.sz=1):Gl1 w n r l:=by
 have hlen:l.length=cs.size:=by
  have:=congrArg List.length h;simpa using this
 refine ⟨(Array.getElem?_eq_some_iff.1 hg).1,⟨_,_,rfl,Nat.le_refl _,.inr ⟨n,0,rfl,rfl,fun j x hj=>?_⟩⟩,cs,ty,fr,hg,by rw [hr,hlen,Nat.mul_one]⟩
 have hx:=congrArg (fun z=>z[j]?) h
 simp only [List.getElem?_map,hj,Option.map_some] at hx
 cases hv:cs.toList[j]? with
 | none=>rw [hv] at hx;cases hx
 | some v=>
  rw [hv] at hx;have hx:Z5z r x=some v:=Yq.inj hx;refine ⟨[v],fun i u hu=>?_,(Zxmb hx).1⟩;cases i with
  | zero=>
   cases hu;rw [cell_of_row w n _ cs ty fr hg,hr,Nat.zero_add,Nat.mul_one,Nat.add_zero];simpa using hv
  | succ i=>cases hu
theorem Zfab {ps:List MemPlace}:∀{l:List (String×DataW Unit)} {ps:List MemPlace},DataW.LaidVars P w l ps→∀{name:String} {d:DataW Unit},(name,d)∈l→∃g t cs fuel p,P.globalNamed name=some g∧(P.globals[g]?).map (·.type)=some t∧w.var? P name=some cs∧DataW.trod (fun _=>()) P w 0 (fun _=>true) false fuel t cs.toList=some (d,p)
 | [],_,_,_,_,hm=>nomatch hm
 | (n,d)::l,_,⟨g,t,cs,fuel,p,q,h1,h2,h3,h4,h5,_⟩,name,d',hm=>by
  rcases List.mem_cons.1 hm with e | hm
  ·cases e
   exact ⟨g,t,cs,fuel,p,h1,h2,h3,h4⟩
  ·exact Zfab (ps:=ps) h5 hm
theorem Zrpb {name:String} {g:Nat} {cs:Array Value} (hg:P.globalNamed name=some g) (h:w.var? P name=some cs):∃ty fr,w.heap[g]? = some (.cells cs ty fr):=by
 unfold World.var? at h
 rw [hg,Option.bind_some] at h
 split at h
 ·rename_i c ty fr hb
  cases h;exact ⟨ty,fr,hb⟩
 ·cases h
theorem Zeab {l:List (String×DataW Unit)} (h:laidMet P l w) {name:String} {k:IntKind} {zs:List Int} (hm:(name,Lib.tabData k zs)∈l) {g n:Nat} {t e:TypeId} (hg:P.globalNamed name=some g) (hty:(P.globals[g]?).map (·.type)=some t)
  (ht:P.underlying t=some (.array n e)) (he:P.underlying e=some (.int k)) (hce:P.cellsOf e=1) (hct:P.cellsOf t=n):Gl1 w g (.int k) zs:=by
 obtain ⟨ps,hv,_⟩:=h
 obtain ⟨g',t',cs,fuel,p,h1,h2,h3,h4⟩:=Zfab (ps:=ps) hv hm
 obtain rfl:=Yq.inj (hg.symm.trans h1)
 obtain rfl:=Yq.inj (hty.symm.trans h2)
 obtain ⟨ty,fr,hb⟩:=Zrpb hg h3
 have hc:=Lib.cells_of_tab ht he hce hct h4
 exact Zwhb hb (by rw [hc];simp [Z5z]) rfl
end
end Go.Proofs.Qz
namespace Go.Proofs.Qz
open Go
set_option linter.unusedVariables false
theorem cC {P:Program} {n:Nat} {c:Con} {L:List (Nat×Con)} (h:Ze P n c) (t:Zzn P L):Zzn P ((n,c)::L):=⟨h,t⟩
theorem cN {P:Program}:Zzn P []:=trivial
theorem sC {P:Program} {C:Ctx} {c:Code} {s:Summ} {L:List (Summ×Code)} (h:Zo P C c s) (t:Zrk P C L):Zrk P C ((s,c)::L):=⟨h,t⟩
theorem sN {P:Program} {C:Ctx}:Zrk P C []:=trivial
theorem Z8p:∀c:Code,Zce .auto c=[]
 | .seq a b=>by
  show Zce .auto a++Zce .auto b=[];rw [Z8p a,Z8p b];rfl
 | .cond _ a b=>by
  show Zce .auto a++Zce .auto b=[];rw [Z8p a,Z8p b];rfl
 | .block _ a=>Z8p a
 | .skip=>rfl
 | .region _ _ _=>rfl
 | .loop _=>rfl
 | .rangeFunc _ _ _ _=>rfl
 | .exit _=>rfl
 | .scope _=>rfl
 | .label _=>rfl
 | .goto _=>rfl
 | .ret=>rfl
 | .refuse _=>rfl
def lp (n:Nat) (ish:Shape) (outs:List (Ex×Shape)) (F:Nat→Zdb ish.tys→Option (Z9g outs)) (k:Nat):Summ:={ n:=n,ish:=ish,outs:=outs,f:=F k }
def lq (n:Nat) (ish:Shape) (outs:List (Ex×Shape)) (F:Zdb ish.tys→Option (Z9g outs)):Summ:={ n:=n,ish:=ish,outs:=outs,f:=F }
section
variable {P:Program} {C:Ctx} {c:Code} {L:List (Summ×Code)} {n:Nat} {ish:Shape} {outs:List (Ex×Shape)}
theorem lP (p:Plan) {F:Nat→Zdb ish.tys→Option (Z9g outs)} {k:Nat} (H:CtxOk P C) (hs:Zrk P C L) (hl:Zce p c=L:=by kernel_rfl) (hok:(lp n ish outs F k).ok=true:=by kernel_rfl) (h0:∀x,F 0 x=none:=by intro x;rfl)
  (hev:∀j x,V C p c (mk ish n x) (fun e st'=>match e with
   | .nrm=>(rd ish st').bind (F j)
   | e=>Zjk e st' outs)=F (j+1) x:=by intro j x;kernel_rfl):Zo P C (.loop c) (lp n ish outs F k):=
 Z0db hok (sum_loop (s:=lp n ish outs F k) (F:=F) H hok (Z4y hl hs) h0 (fun j x y h=>(hev j x).trans h) k rfl)
theorem lA {F:Nat→Zdb ish.tys→Option (Z9g outs)} {k:Nat} (H:CtxOk P C) (hok:(lp n ish outs F k).ok=true:=by kernel_rfl) (h0:∀x,F 0 x=none:=by intro x;rfl)
  (hev:∀j x,V C .auto c (mk ish n x) (fun e st'=>match e with
   | .nrm=>(rd ish st').bind (F j)
   | e=>Zjk e st' outs)=F (j+1) x:=by intro j x;kernel_rfl):Zo P C (.loop c) (lp n ish outs F k):=lP .auto H sN (Z8p c) hok h0 hev
theorem jP (p:Plan) {F:Zdb ish.tys→Option (Z9g outs)} (H:CtxOk P C) (hs:Zrk P C L) (hl:Zce p c=L:=by kernel_rfl) (hok:(lq n ish outs F).ok=true:=by kernel_rfl)
  (hev:∀x,V C p c (mk ish n x) (fun e st'=>Zjk e st' outs)=F x:=by intro x;kernel_rfl):Zo P C c (lq n ish outs F):=
 Z0db hok (Zcpb (s:=lq n ish outs F) (p:=p) H hok (Z4y hl hs) (fun x y h=>(hev x).trans h))
theorem jA {F:Zdb ish.tys→Option (Z9g outs)} (H:CtxOk P C) (hok:(lq n ish outs F).ok=true:=by kernel_rfl)
  (hev:∀x,V C .auto c (mk ish n x) (fun e st'=>Zjk e st' outs)=F x:=by intro x;kernel_rfl):Zo P C c (lq n ish outs F):=jP .auto H sN (Z8p c) hok hev
theorem fP (p:Plan) {f:FuncId} {fn:Func} {s:Sig} {F:Zdb s.ins→Option (Zdb s.outs)} (H:CtxOk P C) (hf:P.funcs[f]? = some fn) (hs:Zrk P C L) (hname:(fn.name == "runtime.NumGoroutine")=false:=by kernel_rfl) (hb:fn.body=some (cB fn):=by kernel_rfl)
  (hn:fn.ntmps=s.ntmps:=by kernel_rfl) (hps:Nat.ble s.ps.length s.ntmps=true:=by kernel_rfl) (hl:Zce p (cB fn)=L:=by kernel_rfl) (hev:∀x,s.ev C p fn.results.toList (cB fn) x=F x:=by intro x;kernel_rfl):Ze P f (s.con F):=
 Zsob H hf hname hb hn hps (Z4y hl hs) (fun x y h=>(hev x).trans h)
theorem fA {f:FuncId} {fn:Func} {s:Sig} {F:Zdb s.ins→Option (Zdb s.outs)} (H:CtxOk P C) (hf:P.funcs[f]? = some fn) (hname:(fn.name == "runtime.NumGoroutine")=false:=by kernel_rfl) (hb:fn.body=some (cB fn):=by kernel_rfl)
  (hn:fn.ntmps=s.ntmps:=by kernel_rfl) (hps:Nat.ble s.ps.length s.ntmps=true:=by kernel_rfl) (hev:∀x,s.ev C .auto fn.results.toList (cB fn) x=F x:=by intro x;kernel_rfl):Ze P f (s.con F):=fP .auto H hf sN hname hb hn hps (Z8p _) hev
end
end Go.Proofs.Qz
namespace Go.Proofs.Qz
open Go Go.RowKit
set_option linter.unusedVariables false
def Zz5:CL→CL
 | .leaf (.bor r l)=>.leaf (.list r l)
 | x=>x
def Z6z:CArg→CArg
 | .val a xs=>.val a (xs.map Zz5)
 | x=>x
def roP:PL→PL
 | .v=>.ro
 | x=>x
def roK:PK→PK
 | .val a t ms=>.val a t (ms.map roP)
 | x=>x
def Sig.conR (s:Sig) (f:Zdb s.ins→Option (Zdb s.outs)):Con:={ ms:=(s.ps.map roK).map PK.pm,f:=fun asx=>s.run f (asx.map Z6z) }
section
variable {w:World} {F F' B:Nat→Prop}
theorem Zee.weak (hF:∀b,F b→B b) {x:Leaf} {v:Value} (h:VLs w F B [.leaf x] [v] []):VLs w B B [Zz5 (.leaf x)] [v] []:=by
 have h:=h.1
 cases x with
 | bor r l=>exact ⟨h,rfl⟩
 | _=>exact ⟨Zee.mono hF (fun _ q=>q) h,rfl⟩
theorem VLs.weak (hF:∀b,F b→B b):∀{xs:List CL} {vs:List Value} {L:List GI},VLs w F B xs vs L→VLs w B B (xs.map Zz5) vs L
 | [],[],_,h=>h
 | .leaf x::xs,v::vs,L,h=>by
  have h2:=VLs.weak hF h.2;have h1:Zee w F B x v:=h.1;cases x with
  | bor r l=>exact ⟨h1,h2⟩
  | _=>exact ⟨Zee.mono hF (fun _ q=>q) h1,h2⟩
 | .row _ _ _::xs,v::vs,.row _::L,h=>⟨h.1,h.2.1.mono hF,VLs.weak hF h.2.2⟩
 | .nil::xs,v::vs,.no::L,h=>⟨h.1,VLs.weak hF h.2⟩
theorem Zxg.weak (hF:∀b,F b→B b):∀{asx:List CArg} {vs:List Value} {L:List GI} {M:List Value},Zxg w F B asx vs L M→Zxg w B B (asx.map Z6z) vs L M
 | [],[],_,_,h=>h
 | a::asx,v::vs,L,M,⟨L1,L2,M1,M2,h1,h2,h3,h4⟩=>by
  refine ⟨L1,L2,M1,M2,h1,h2,?_,Zxg.weak hF h4⟩;cases a with
  | val ag xs=>
   cases ag with
   | false=>exact ⟨h3.1,VLs.weak hF h3.2⟩
   | true=>
    obtain ⟨k1,cs,k2,k3⟩:=h3;exact ⟨k1,cs,k2,VLs.weak hF k3⟩
  | _=>exact h3.mono hF (fun _ q=>q)
def Zmab:Leaf→Bool
 | .list _ _=>false
 | .bor _ _=>false
 | _=>true
def Zis:RL→Bool
 | .leaf x=>Zmab x
 | .own _ r _=>flat r
def Z7m:RC→Bool
 | .val _ xs=>xs.all Zis
 | .box _ xs=>xs.all Zis
theorem Z5b.flat {z:Bool} {e:TypeId} {t:Ty} {v:Value} {l:List t.T} (ht:Go.Proofs.Qz.flat t=true) (h:Z5b w F z e t v l):Z5b w F' z e t v l:=by
 rcases h.cases with ⟨he,h | ⟨g,cap,cs,fr,h0,h1,h2,h3,h4,h5,h6⟩⟩ | ⟨he,rfl,hM | hM⟩
 ·exact Z8b.ok (.inl h) he
 ·exact Z8b.ok (.inr ⟨g,cap,cs,fr,h0,h1,h2,h3,h4,h5,fun j x hj=>Rep.flat ht (h6 j x hj)⟩) he
 ·exact Zzm.ok hM he
 ·exact Zml.ok hM
theorem Zfe.flat:∀{xs:List RL} {vs:List Value} {O:List Conc},xs.all Zis=true→Zfe w F xs vs O→Zfe w F' xs vs O
 | [],[],_,_,h=>h
 | .leaf x::xs,v::vs,O,hf,h=>by
  rw [Ye,Yd] at hf;refine ⟨?_,Zfe.flat hf.2 h.2⟩;have h1:Zee w F (fun _=>False) x v:=h.1;cases x with
  | list r l=>cases hf.1
  | bor r l=>cases hf.1
  | _=>exact h1
 | .own e r l::xs,v::vs,c::O,hf,h=>by
  rw [Ye,Yd] at hf;exact ⟨h.1,Z5b.flat hf.1 h.2.1,Zfe.flat hf.2 h.2.2⟩
theorem Zll.flat {p:RC} {v:Value} {O:List Conc} (hf:Z7m p=true) (h:Zll w F p v O):Zll w F' p v O:=by
 cases p with
 | val a xs=>
  cases a with
  | true=>
   obtain ⟨cs,h1,h2⟩:=h;exact ⟨cs,h1,Zfe.flat hf h2⟩
  | false=>exact Zfe.flat hf h
 | box t xs=>
  obtain ⟨g,cs,fr,O1,h1,h2,h3,h4,h5⟩:=h;exact ⟨g,cs,fr,O1,h1,h2,h3,h4,Zfe.flat hf h5⟩
theorem Zij.flat:∀{ps:List RC} {vs:List Value} {O:List Conc},ps.all Z7m=true→Zij w F ps vs O→Zij w F' ps vs O
 | [],[],_,_,h=>h
 | p::ps,v::vs,O,hf,⟨O1,O2,h1,h2,h3⟩=>by
  rw [Ye,Yd] at hf;exact ⟨O1,O2,h1,Zll.flat hf.1 h2,Zij.flat hf.2 h3⟩
theorem Z0mb {rs:List RC} {v:Value} {O:List Conc} (hf:rs.all Z7m=true) (h:Zgt w F rs v O):Zgt w F' rs v O:=by
 match rs,hf,h with
 | [p],hf,h=>
  rw [Ye,Yd] at hf;exact Zll.flat (p:=p) hf.1 h
 | [],hf,⟨vs,h1,h2⟩=>exact ⟨vs,h1,Zij.flat hf h2⟩
 | p::q::ps,hf,⟨vs,h1,h2⟩=>exact ⟨vs,h1,Zij.flat hf h2⟩
theorem Zwmb {L:List GI} {O:List Conc} (h:Zyh w F L [] O):Zyh w F' L [] O:=by
 match L,h with
 | [],h=>exact h
def Z71:RK→Bool
 | .v t=>flat t
 | .own _ r=>flat r
def noB:PK→Bool
 | .val _ _ ms=>ms.all fun m=>match m with
  | .own _=>false
  | _=>true
 | .rptr _=>true
 | _=>false
def Sig.keptOk (s:Sig):Bool:=s.ps.all noB&&s.rs.all fun r=>r.ks.all Z71
theorem Z22:∀(t:Ty) (x:t.T),flat t=true→∀y∈Z3 t x,Zmab y=true
 | .int _,x,_,y,hy=>by rw [Yp.1 hy];rfl
 | .bool,x,_,y,hy=>by rw [Yp.1 hy];rfl
 | .str,x,_,y,hy=>by rw [Yp.1 hy];rfl
 | .unit,x,_,y,hy=>by cases hy
 | .sl _,x,h,y,hy=>by cases h
 | .pair a b,x,h,y,hy=>by
  have h:(flat a&&flat b)=true:=h;rw [Yd] at h;rcases List.mem_append.1 hy with hy | hy
  ·exact Z22 a x.1 h.1 y hy
  ·exact Z22 b x.2 h.2 y hy
def DV.t:DV→Ty
 | .mk t _=>t
theorem Zgbb:∀(ts:List Ty) (y:Zdb ts),(Z1e ts y).map DV.t=ts
 | [],_=>rfl
 | [t],y=>rfl
 | t::u::ts,y=>by
  show DV.t _::(Z1e (u::ts) y.2).map DV.t=_;rw [Zgbb (u::ts) y.2];rfl
theorem Zqx:∀(ks:List RK) (ds:List DV) (rest:List Ty),ds.map DV.t=ks.map RK.ty++rest→ks.all Z71=true→(Z9 ks ds).1.all Zis=true∧(Z9 ks ds).2.map DV.t=rest
 | [],ds,rest,h,_=>⟨rfl,h⟩
 | .v t::ks,[],rest,h,_=>by cases h
 | .own e r::ks,[],rest,h,_=>by cases h
 | .v t::ks,.mk t' x::ds,rest,h,hf=>by
  rw [Ye,Yd] at hf;rw [Yi,Yi,Yaa,List.cons.injEq] at h;obtain ⟨k1,k2⟩:=Zqx ks ds rest h.2 hf.2;have ht:t'=t:=h.1;subst ht;refine ⟨?_,k2⟩;show ((Z3 t' x).map RL.leaf++(Z9 ks ds).1).all Zis=true;rw [Y8,k1,Y7,List.all_map];exact List.all_eq_true.2 fun y hy=>Z22 t' x hf.1 y hy
 | .own e r::ks,.mk t' x::ds,rest,h,hf=>by
  rw [Ye,Yd] at hf;rw [Yi,Yi,Yaa,List.cons.injEq] at h;obtain ⟨k1,k2⟩:=Zqx ks ds rest h.2 hf.2;have ht:t' = .sl r:=h.1;subst ht;refine ⟨?_,k2⟩;show ([RL.own e r x]++(Z9 ks ds).1).all Zis=true;rw [Y8,k1,Y7];show (flat r&&true)=true;rw [show flat r=true from hf.1];rfl
theorem Zt1:∀(rs:List SK) (ds:List DV) (rest:List Ty),ds.map DV.t=Zfr rs++rest→(rs.all fun r=>r.ks.all Z71)=true→(Zie rs ds).1.all Z7m=true∧(Zie rs ds).2.map DV.t=rest
 | [],ds,rest,h,_=>⟨rfl,h⟩
 | .val a ks::rs,ds,rest,h,hf=>by
  rw [Ye,Yd] at hf;obtain ⟨k1,k2⟩:=Zqx ks ds (Zfr rs++rest) (by rw [h];show (ks.map RK.ty++Zfr rs)++rest=_;rw [Y9]) hf.1;obtain ⟨j1,j2⟩:=Zt1 rs (Z9 ks ds).2 rest k2 hf.2;refine ⟨?_,j2⟩;show (Z7m (.val a (Z9 ks ds).1)&&_)=true;rw [show Z7m (.val a (Z9 ks ds).1)=true from k1];exact j1
 | .box a ks::rs,ds,rest,h,hf=>by
  rw [Ye,Yd] at hf;obtain ⟨k1,k2⟩:=Zqx ks ds (Zfr rs++rest) (by rw [h];show (ks.map RK.ty++Zfr rs)++rest=_;rw [Y9]) hf.1;obtain ⟨j1,j2⟩:=Zt1 rs (Z9 ks ds).2 rest k2 hf.2;refine ⟨?_,j2⟩;show (Z7m (.box a (Z9 ks ds).1)&&_)=true;rw [show Z7m (.box a (Z9 ks ds).1)=true from k1];exact j1
theorem Zlcb:∀(ts:List Ty) (ms:List PL),(ms.all fun m=>match m with
  | .own _=>false
  | _=>true)=true→Z9i ts ms=[]
 | [],[],_=>rfl
 | [],_::_,_=>rfl
 | t::ts,[],_=>by cases t <;> rfl
 | t::ts,m::ms,h=>by
  rw [Ye,Yd] at h;have ih:=Zlcb ts ms h.2;cases m with
  | own e=>cases h.1
  | v=>cases t <;> exact ih
  | ro=>cases t <;> exact ih
theorem Zl8:∀(ps:List PK) (ds:List DV),ps.all noB=true→Z1g ps ds=[]
 | [],_,_=>rfl
 | p::ps,ds,h=>by
  rw [Ye,Yd] at h
  have e:Zmu p ds=([],ds):=by
   cases p with
   | val a t ms=>
    show Zlj (Z9i (Zbb t) ms) ds=_;rw [Zlcb _ _ h.1];rfl
   | rptr t=>rfl
   | ref _ _ _=>cases h.1
   | fn _ _=>cases h.1
   | mv _ _=>cases h.1
  show (Zmu p ds).1++Z1g ps (Zmu p ds).2=[];rw [e];exact Zl8 ps ds h.2
end
theorem Zf1 {P:Program} {n:FuncId} {s:Sig} {f:Zdb s.ins→Option (Zdb s.outs)} (h:Ze P n (s.con f)) (hk:s.keptOk=true:=by kernel_rfl):Ze P n (s.conR f):=by
 unfold Sig.keptOk at hk
 rw [Yd] at hk
 refine ⟨h.1,fun asx rr hrr w vs F L M hF hnd hgl hargs=>?_⟩
 have hrr:(s.run f (asx.map Z6z)).val=some rr:=hrr
 have hfl:rr.res.all Z7m=true∧rr.refs=[]:=by
  unfold Sig.run at hrr;split at hrr
  ·split at hrr
   ·rename_i x _
    obtain ⟨y,_,hy⟩:=Option.map_eq_some_iff.1 (show (f x).map s.enc=some rr from hrr);rw [← hy];exact ⟨(Zt1 s.rs (Z1e s.outs y) (Zq0 s.ps) (Zgbb _ _) hk.2).1,Zl8 s.ps _ hk.1⟩
   ·cases hrr
  ·cases hrr
 refine (h.2 (asx.map Z6z) rr hrr w vs (Bor w (GI.blocks L++Zxb M)) L M (fun b hb=>hb) hnd hgl (Zxg.weak hF hargs)).mono fun e w' ⟨v,he,hK,O1,O2,h1,h2,h3,h4⟩=>?_
 refine ⟨v,he,hK,O1,O2,h1,h2,?_,Z0mb hfl.1 h4⟩
 rw [hfl.2] at h3 ⊢
 exact Zwmb h3
end Go.Proofs.Qz
section
namespace Go.Proofs
open Go.Shelf
def Tryz.lays156_ren:Go.Shelf.Ren:=⟨fun | 156=>177 | 165=>191 | 166=>192 | 169=>193 | 240=>199 | 241=>200 | 276=>205 | 277=>206 | n=>n,fun | 31=>23 | 9=>9 | 3=>3 | 4=>4 | 0=>0 | 20=>20 | 72=>230 | 76=>234 | 70=>228 | 37=>22 | 75=>233 | 127=>243 | 164=>248 | 5=>5 | 80=>143 | n=>n,fun | n=>n⟩
theorem Tryz.lays156:Go.Proofs.Lays.n156 Yb Tryz.lays156_ren:={
 mixed:=by kernel_rfl
 f156:=Tryz.func177.trans (congrArg some (by kernel_rfl))
 f165:=Yda.trans (congrArg some (by kernel_rfl))
 f166:=Yea.trans (congrArg some (by kernel_rfl))
 f169:=Yfa.trans (congrArg some (by kernel_rfl))
 f240:=Yga.trans (congrArg some (by kernel_rfl))
 f241:=Yha.trans (congrArg some (by kernel_rfl))
 f276:=Yia.trans (congrArg some (by kernel_rfl))
 f277:=Yja.trans (congrArg some (by kernel_rfl))
 t0:=Yz
 a0:=Yr
 z0:=Yv
 v0:=Y3
 t3:=Y0
 a3:=Ys
 z3:=Yw
 v3:=Y4
 t4:=Yn
 a4:=Yl
 z4:=Ym
 v4:=Yo
 t9:=Y2
 a9:=Yu
 z9:=Yy
 v9:=Y6
 t20:=Y2a
 a20:=Yka
 z20:=Yta
 v20:=Ybb
 t31:=Y5a
 a31:=Yna
 z31:=Ywa
 v31:=Yeb
 t37:=Y3a
 a37:=Yla
 z37:=Yua
 v37:=Ycb
 t70:=Y4a
 a70:=Yma
 z70:=Yva
 v70:=Ydb
 t72:=Y6a
 a72:=Yoa
 z72:=Yxa
 v72:=Yfb
 t75:=Y7a
 a75:=Ypa
 z75:=Yya
 v75:=Ygb
 t76:=Y8a
 a76:=Yqa
 z76:=Yza
 v76:=Yhb
 t127:=Y9a
 a127:=Yra
 z127:=Y0a
 v127:=Yib
 t164:=Yab
 a164:=Ysa
 z164:=Y1a
 v164:=Yjb }
theorem Tryz.Builder_Extra_156:Builder.Extra Yb Tryz.lays156_ren:={
 sizeBuilder:=by kernel_rfl
 liesBuilder:=by kernel_rfl
 t5:=Y1
 a5:=Yt
 z5:=Yx
 v5:=Y5
 infoByte:=by kernel_rfl
 cellsByte:=by kernel_rfl
 sizeByte:=by kernel_rfl
 neB5:=by decide }
open Go.RowKit in
theorem Tryz.strings_Join_none (a:Option Addr) (c:Nat) (sep:ByteArray) (w:World):
  Calls Yb 177 #[.slice a 0 c,.string sep] w fun e w'=>e = .returned (.string ⟨#[]⟩)∧w'=w:=Any.strings_Join_none Tryz.lays156 Tryz.Builder_Extra_156 a c sep w
open Go.RowKit in
theorem Tryz.strings_Join (bk o c:Nat) (xs:List ByteArray) (sep:ByteArray) (w:World) (hcells:∀(j:Nat) x,xs[j]? = some x→w.cell? ⟨bk,o+j,none⟩=some (.string x)) (hbk:bk<w.heap.size) (hN:xs.length≤140737488355328) (hcap:xs.length≤c) (hlen:(Lib.join (xs.map (·.data.toList)) sep.data.toList).length≤140737488355328):
  Calls Yb 177 #[.slice (some ⟨bk,o,none⟩) xs.length c,.string sep] w fun e w'=>e = .returned (.string ⟨(Lib.join (xs.map (·.data.toList)) sep.data.toList).toArray⟩)∧Below w.heap.size w w':=Any.strings_Join Tryz.lays156 Tryz.Builder_Extra_156 bk o c xs sep w hcells hbk hN hcap hlen
def Tryz.lays105_ren:Go.Shelf.Ren:=⟨fun | 105=>188 | 212=>194 | 99=>195 | 165=>191 | 166=>192 | 170=>196 | 169=>193 | 263=>201 | 264=>202 | 206=>203 | 240=>199 | 241=>200 | 276=>205 | 277=>206 | n=>n,fun | 9=>9 | 3=>3 | 4=>4 | 20=>20 | 0=>0 | 46=>195 | 109=>236 | 5=>5 | 72=>230 | 76=>234 | 51=>218 | 146=>244 | 53=>154 | 148=>246 | 70=>228 | 37=>22 | 75=>233 | 127=>243 | 164=>248 | 80=>143 | n=>n,fun | n=>n⟩
theorem Tryz.lays105:Go.Proofs.Lays.n105 Yb Tryz.lays105_ren:={
 mixed:=by kernel_rfl
 f99:=Tryz.func195.trans (congrArg some (by kernel_rfl))
 f105:=Tryz.func188.trans (congrArg some (by kernel_rfl))
 f165:=Yda.trans (congrArg some (by kernel_rfl))
 f166:=Yea.trans (congrArg some (by kernel_rfl))
 f169:=Yfa.trans (congrArg some (by kernel_rfl))
 f170:=Tryz.func196.trans (congrArg some (by kernel_rfl))
 f206:=Tryz.func203.trans (congrArg some (by kernel_rfl))
 f212:=Tryz.func194.trans (congrArg some (by kernel_rfl))
 f240:=Yga.trans (congrArg some (by kernel_rfl))
 f241:=Yha.trans (congrArg some (by kernel_rfl))
 f263:=Tryz.func201.trans (congrArg some (by kernel_rfl))
 f264:=Tryz.func202.trans (congrArg some (by kernel_rfl))
 f276:=Yia.trans (congrArg some (by kernel_rfl))
 f277:=Yja.trans (congrArg some (by kernel_rfl))
 t0:=Yz
 a0:=Yr
 z0:=Yv
 v0:=Y3
 t3:=Y0
 a3:=Ys
 z3:=Yw
 v3:=Y4
 t4:=Yn
 a4:=Yl
 z4:=Ym
 v4:=Yo
 t5:=Y1
 a5:=Yt
 z5:=Yx
 v5:=Y5
 t9:=Y2
 a9:=Yu
 z9:=Yy
 v9:=Y6
 t20:=Y2a
 a20:=Yka
 z20:=Yta
 v20:=Ybb
 t37:=Y3a
 a37:=Yla
 z37:=Yua
 v37:=Ycb
 t46:=Tryz.underlying195
 a46:=Tryz.isAgg195
 z46:=Tryz.sizeOf195
 v46:=Tryz.zeroValue195
 t51:=Tryz.underlying218
 a51:=Tryz.isAgg218
 z51:=Tryz.sizeOf218
 v51:=Tryz.zeroValue218
 t53:=Tryz.underlying154
 a53:=Tryz.isAgg154
 z53:=Tryz.sizeOf154
 v53:=Tryz.zeroValue154
 t70:=Y4a
 a70:=Yma
 z70:=Yva
 v70:=Ydb
 t72:=Y6a
 a72:=Yoa
 z72:=Yxa
 v72:=Yfb
 t75:=Y7a
 a75:=Ypa
 z75:=Yya
 v75:=Ygb
 t76:=Y8a
 a76:=Yqa
 z76:=Yza
 v76:=Yhb
 t109:=Tryz.underlying236
 a109:=Tryz.isAgg236
 z109:=Tryz.sizeOf236
 v109:=Tryz.zeroValue236
 t127:=Y9a
 a127:=Yra
 z127:=Y0a
 v127:=Yib
 t146:=Tryz.underlying244
 a146:=Tryz.isAgg244
 z146:=Tryz.sizeOf244
 v146:=Tryz.zeroValue244
 t148:=Tryz.underlying246
 a148:=Tryz.isAgg246
 z148:=Tryz.sizeOf246
 v148:=Tryz.zeroValue246
 t164:=Yab
 a164:=Ysa
 z164:=Y1a
 v164:=Yjb }
theorem Tryz.Builder_Extra_105:Builder.Extra Yb Tryz.lays105_ren:={
 sizeBuilder:=by kernel_rfl
 liesBuilder:=by kernel_rfl
 t5:=Y1
 a5:=Yt
 z5:=Yx
 v5:=Y5
 infoByte:=by kernel_rfl
 cellsByte:=by kernel_rfl
 sizeByte:=by kernel_rfl
 neB5:=by decide }
open Go.RowKit Go.Lib in
theorem Tryz.strings_Repeat (s:ByteArray) (c:Nat) (w:World) (hc:c≤9223372036854775807) (hlen:s.size*c≤140737488355328):
  Calls Yb 188 #[.string s,.int .i64 c] w fun e w'=>e = .returned (.string ⟨(Lib.repeatL s.data.toList c).toArray⟩)∧Below w.heap.size w w':=Any.strings_Repeat Tryz.lays105 Tryz.Builder_Extra_105 s c w hc hlen
def Tryz.laysNm216_ren:Go.Shelf.Ren:=⟨fun | 16=>143 | n=>n,fun | 24=>23 | 9=>9 | 4=>4 | n=>n,fun | n=>n⟩
theorem Tryz.laysNm216:Go.Proofs.Lays2.n16 Yb Tryz.laysNm216_ren:={
 mixed:=by kernel_rfl
 f16:=Yca.trans (congrArg some (by kernel_rfl))
 t4:=Yn
 a4:=Yl
 z4:=Ym
 v4:=Yo
 t9:=Y2
 a9:=Yu
 z9:=Yy
 v9:=Y6
 t24:=Y5a
 a24:=Yna
 z24:=Ywa
 v24:=Yeb
 i9:=by kernel_rfl }
open Go.RowKit Go.Lib in
theorem Tryz.slices_Clone_string (b off n c:Nat) (zs:List ByteArray) (w:World) (hz:n≤zs.length) (hbig:n*16≤140737488355328) (hc:∀j,j<zs.length→w.cell? ⟨b,off+j,none⟩=some (.string (zs.getD j ByteArray.empty))):
  Calls Yb 143 #[.slice (some ⟨b,off,none⟩) n c] w fun e w'=>∃v',e = .returned v'∧w'.ownsRow w.heap.size 9 1 v' n ((zs.take n).map (Value.string))∧v'≠.slice none 0 0∧Below w.heap.size w w':=Any.slices_Clone_string Tryz.laysNm216 b off n c zs w hz hbig hc
def Tryz.laysNm223_ren:Go.Shelf.Ren:=⟨fun | 23=>136 | n=>n,fun | 22=>160 | 3=>3 | 4=>4 | 0=>0 | n=>n,fun | n=>n⟩
theorem Tryz.laysNm223:Go.Proofs.Lays2.n23 Yb Tryz.laysNm223_ren:={
 mixed:=by kernel_rfl
 f23:=Tryz.func136.trans (congrArg some (by kernel_rfl))
 t0:=Yz
 a0:=Yr
 z0:=Yv
 v0:=Y3
 t3:=Y0
 a3:=Ys
 z3:=Yw
 v3:=Y4
 t4:=Yn
 a4:=Yl
 z4:=Ym
 v4:=Yo
 t22:=Tryz.underlying160
 a22:=Tryz.isAgg160
 z22:=Tryz.sizeOf160
 v22:=Tryz.zeroValue160
 i3:=by kernel_rfl }
open Go.RowKit Go.Lib Go.Sort in
theorem Tryz.slices_Delete_int (blk off cap i j:Nat) (zs:List Int) (w:World) (hH:Holds (Value.int .i64) w blk off zs.toArray) (hcap:zs.length≤cap) (hm:cap≤9223372036854775807) (hij:i≤j) (hj:j≤zs.length):
  Calls Yb 136 #[.slice (some ⟨blk,off,none⟩) zs.length cap,.int .i64 i,.int .i64 j] w fun e w'=>e = .returned (.slice (some ⟨blk,off,none⟩) (zs.length-(j-i)) cap)∧∃q,w'=putRow (Value.int .i64) (Sort.ahead w q) blk off (zs.take i++zs.drop j++Yba (j-i) 0).toArray:=Any.slices_Delete_int Tryz.laysNm223 blk off cap i j zs w hH hcap hm hij hj
open Go.RowKit Go.Lib Go.Sort in
theorem Tryz.slices_Delete_int_cells (b off n c i j:Nat) (zs:List Int) (w:World) (hz:n≤zs.length) (hcap:n≤c) (hm:c≤9223372036854775807) (hij:i≤j) (hj:j≤n) (hc:∀j,j<zs.length→w.cell? ⟨b,off+j,none⟩=some (.int .i64 (zs.getD j 0))) (hf:∀j,j<n→w.frozen? ⟨b,off+j,none⟩=false):
  Calls Yb 136 #[.slice (some ⟨b,off,none⟩) n c,.int .i64 i,.int .i64 j] w fun e w'=>e = .returned (.slice (some ⟨b,off,none⟩) (n-(j-i)) c)∧∃q,w'=(w.drewN q).setCells b off (((zs.take n).take i++(zs.take n).drop j++Yba (j-i) 0).map (Value.int .i64)):=Any.slices_Delete_int_cells Tryz.laysNm223 b off n c i j zs w hz hcap hm hij hj hc hf
open Go.RowKit Go.Lib in
theorem Tryz.slices_Delete_int_empty (a:Option Addr) (c:Nat) (w:World):
  Calls Yb 136 #[.slice a 0 c,.int .i64 0,.int .i64 0] w fun e w'=>e = .returned (.slice a 0 c)∧w'=w:=Any.slices_Delete_int_empty Tryz.laysNm223 a c w
end Go.Proofs
end
namespace Go.Proofs.Qz
open Go Go.RowKit
set_option linter.unusedVariables false
set_option linter.defProp false
abbrev Zx:Ty:=(.pair (.int .i64) .str)
abbrev Zz:=Int×Str
abbrev Z3n:Ty:=(.pair (.int .i64) (.int .i64))
abbrev Zwt:=Int×Int
abbrev T55:Ty:=(.pair (.sl .str) (.int .i64))
abbrev Zte:Ty:=(.pair .bool Zx)
abbrev Zyg:=Bool×Zz
abbrev Zgq:Ty:=(.pair .str (.pair (.int .i64) .bool))
abbrev Za0:=Str×Int×Bool
abbrev T113:Ty:=(.pair (.int .i64) (.pair .str (.int .i64)))
abbrev T199:Ty:=(.pair .str Z3n)
abbrev Z55:Ty:=(.pair (.int .i64) Z3n)
abbrev G202:=Int×Zwt
abbrev T26:Ty:=(.pair (.sl .str) (.sl Zx))
abbrev G26:=List Str×List Zz
abbrev T45:Ty:=(.pair (.int .i64) (.pair (.int .i64) Zx))
abbrev G45:=Int×Int×Zz
abbrev T96:Ty:=(.pair (.int .i64) Z55)
abbrev G96:=Int×G202
abbrev T28:Ty:=(.pair (.int .i64) T26)
abbrev G28:=Int×G26
abbrev Z8h:Ty:=(.pair (.sl (.int .u8)) (.pair (.int .i64) (.pair (.int .u64) (.int .i64))))
abbrev Zfq:=List Int×Int×Int×Int
abbrev T77:Ty:=(.pair T26 (.pair .str (.int .i64)))
abbrev T38:Ty:=(.pair T28 (.int .i64))
abbrev T68:Ty:=(.pair (.sl T96) (.int .i64))
abbrev T33:Ty:=(.pair (.int .i64) (.pair .str (.sl T45)))
abbrev T85:Ty:=(.pair (.sl Zte) (.pair .str (.pair (.sl (.int .i64)) (.int .i64))))
abbrev T35:Ty:=(.pair T33 (.int .i64))
abbrev T42:Ty:=(.pair T28 (.pair .str (.pair (.sl (.int .i64)) (.int .i64))))
abbrev T47:Ty:=(.pair (.int .i64) (.pair (.int .i64) (.pair (.int .i64) (.pair .str T45))))
abbrev G47:=Int×Int×Int×Str×G45
abbrev T58:Ty:=(.pair (.int .i64) (.pair (.int .i64) (.pair (.int .i64) (.pair (.int .i64) (.pair (.int .i64) (.pair .str (.pair (.sl (.int .i64)) (.sl (.int .i64)))))))))
abbrev G58:=Int×Int×Int×Int×Int×Str×List Int×List Int
abbrev T60:Ty:=(.pair T58 (.int .i64))
def TAB:Tab TI:=(.node (.node (.node (.node (.node (.node .nil (some { sz:=1,agg:=false,offs:=[],elem:=45,kind:=3,ik:=.i64,bytes:=24,zero:=[.nil],ty:=(.sl T45),eqs:=false }) (.node .nil none (.node .nil (some { sz:=8,agg:=true,offs:=[(8,0)],elem:=218,kind:=7,ik:=.i64,bytes:=32,zero:=[.int .u32 0,.int .u32 0,.int .u32 0,.int .u32 0,.int .u32 0,.int .u32 0,.int .u32 0,.int .u32 0],ty:=.unit,eqs:=false }) .nil))) none (.node (.node .nil (some { sz:=1,agg:=false,offs:=[],elem:=108,kind:=3,ik:=.i64,bytes:=24,zero:=[.nil],ty:=(.sl Zte),eqs:=false }) .nil) (some { sz:=8,agg:=true,offs:=[(0,2),(1,2),(2,2),(3,9),(4,45)],elem:=0,kind:=4,ik:=.i64,bytes:=80,zero:=[.int .i64 0,.int .i64 0,.int .i64 0,.str [],.int .i64 0,.int .i64 0,.int .i64 0,.str []],ty:=T47,eqs:=true }) .nil)) none (.node (.node (.node .nil none (.node .nil (some { sz:=3,agg:=true,offs:=[(0,9),(1,2),(2,2)],elem:=0,kind:=4,ik:=.i64,bytes:=32,zero:=[.str [],.int .i64 0,.int .i64 0],ty:=T199,eqs:=true }) .nil)) none .nil) (some { sz:=1,agg:=false,offs:=[],elem:=9,kind:=3,ik:=.i64,bytes:=24,zero:=[.nil],ty:=(.sl .str),eqs:=false }) (.node .nil (some { sz:=2,agg:=true,offs:=[(0,23),(1,2)],elem:=0,kind:=4,ik:=.i64,bytes:=32,zero:=[.nil,.int .i64 0],ty:=T55,eqs:=false }) .nil))) (some { sz:=1,agg:=false,offs:=[],elem:=0,kind:=1,ik:=.i64,bytes:=8,zero:=[.int .i64 0],ty:=(.int .i64),eqs:=false }) (.node (.node (.node (.node .nil none (.node .nil (some { sz:=1,agg:=false,offs:=[],elem:=0,kind:=1,ik:=.u64,bytes:=8,zero:=[.int .u64 0],ty:=(.int .u64),eqs:=false }) .nil)) (some { sz:=4,agg:=true,offs:=[(0,33),(3,2)],elem:=0,kind:=4,ik:=.i64,bytes:=56,zero:=[.int .i64 0,.str [],.nil,.int .i64 0],ty:=T35,eqs:=false }) .nil) none .nil) none .nil)) none (.node (.node (.node (.node .nil (some { sz:=3,agg:=true,offs:=[(0,2),(1,9),(2,31)],elem:=0,kind:=4,ik:=.i64,bytes:=48,zero:=[.int .i64 0,.str [],.nil],ty:=T33,eqs:=false }) (.node (.node .nil (some { sz:=1,agg:=false,offs:=[],elem:=1000161,kind:=6,ik:=.i64,bytes:=8,zero:=[.unk],ty:=(.sl (.int .i64)),eqs:=false }) .nil) none .nil)) none (.node .nil none (.node .nil (some { sz:=3,agg:=true,offs:=[(0,2),(1,9),(2,2)],elem:=0,kind:=4,ik:=.i64,bytes:=32,zero:=[.int .i64 0,.str [],.int .i64 0],ty:=T113,eqs:=true }) .nil))) (some { sz:=1,agg:=false,offs:=[],elem:=0,kind:=2,ik:=.i64,bytes:=16,zero:=[.str []],ty:=.str,eqs:=false }) (.node (.node .nil none (.node (.node .nil (some { sz:=1,agg:=false,offs:=[],elem:=172,kind:=3,ik:=.i64,bytes:=24,zero:=[.nil],ty:=(.sl Z3n),eqs:=false }) .nil) none .nil)) none (.node (.node .nil none (.node .nil (some { sz:=1,agg:=false,offs:=[],elem:=218,kind:=3,ik:=.i64,bytes:=24,zero:=[.nil],ty:=(.sl (.int .u32)),eqs:=false }) .nil)) none .nil))) (some { sz:=1,agg:=false,offs:=[],elem:=0,kind:=1,ik:=.u8,bytes:=1,zero:=[.int .u8 0],ty:=(.int .u8),eqs:=false }) (.node (.node .nil none (.node (.node .nil (some { sz:=4,agg:=true,offs:=[(0,79),(1,9),(2,40),(3,2)],elem:=0,kind:=4,ik:=.i64,bytes:=72,zero:=[.nil,.str [],.nil,.int .i64 0],ty:=T85,eqs:=false }) .nil) none (.node (.node .nil (some { sz:=3,agg:=true,offs:=[(0,9),(1,2),(2,4)],elem:=0,kind:=4,ik:=.i64,bytes:=32,zero:=[.str [],.int .i64 0,.kb false],ty:=Zgq,eqs:=true }) .nil) none .nil))) none (.node (.node (.node .nil (some { sz:=4,agg:=true,offs:=[(0,26),(2,9),(3,2)],elem:=0,kind:=4,ik:=.i64,bytes:=72,zero:=[.nil,.nil,.str [],.int .i64 0],ty:=T77,eqs:=false }) .nil) (some { sz:=4,agg:=true,offs:=[(0,2),(1,2),(2,2),(3,9)],elem:=0,kind:=4,ik:=.i64,bytes:=40,zero:=[.int .i64 0,.int .i64 0,.int .i64 0,.str []],ty:=T45,eqs:=true }) .nil) none .nil)))) none (.node (.node (.node (.node (.node (.node .nil none (.node .nil (some { sz:=4,agg:=true,offs:=[(0,22),(1,3),(2,154),(3,2)],elem:=0,kind:=4,ik:=.i64,bytes:=48,zero:=[.nil,.int .i64 0,.int .u64 0,.int .i64 0],ty:=Z8h,eqs:=false }) .nil)) none (.node (.node .nil (some { sz:=1,agg:=false,offs:=[],elem:=3,kind:=3,ik:=.i64,bytes:=24,zero:=[.nil],ty:=(.sl (.int .i64)),eqs:=false }) .nil) (some { sz:=4,agg:=true,offs:=[(0,2),(1,2),(2,2),(3,2)],elem:=0,kind:=4,ik:=.i64,bytes:=32,zero:=[.int .i64 0,.int .i64 0,.int .i64 0,.int .i64 0],ty:=T96,eqs:=true }) .nil)) none (.node (.node (.node .nil (some { sz:=1,agg:=false,offs:=[],elem:=4,kind:=3,ik:=.i64,bytes:=24,zero:=[.nil],ty:=(.sl .bool),eqs:=false }) .nil) none .nil) (some { sz:=1,agg:=false,offs:=[],elem:=96,kind:=3,ik:=.i64,bytes:=24,zero:=[.nil],ty:=(.sl T96),eqs:=false }) (.node (.node .nil (some { sz:=2,agg:=true,offs:=[(0,2),(1,9)],elem:=0,kind:=4,ik:=.i64,bytes:=24,zero:=[.int .i64 0,.str []],ty:=Zx,eqs:=true }) .nil) none (.node .nil (some { sz:=64,agg:=true,offs:=[(64,0)],elem:=218,kind:=7,ik:=.i64,bytes:=256,zero:=[.int .u32 0,.int .u32 0,.int .u32 0,.int .u32 0,.int .u32 0,.int .u32 0,.int .u32 0,.int .u32 0,.int .u32 0,.int .u32 0,.int .u32 0,.int .u32 0,.int .u32 0,.int .u32 0,.int .u32 0,.int .u32 0,.int .u32 0,.int .u32 0,.int .u32 0,.int .u32 0,.int .u32 0,.int .u32 0,.int .u32 0,.int .u32 0,.int .u32 0,.int .u32 0,.int .u32 0,.int .u32 0,.int .u32 0,.int .u32 0,.int .u32 0,.int .u32 0,.int .u32 0,.int .u32 0,.int .u32 0,.int .u32 0,.int .u32 0,.int .u32 0,.int .u32 0,.int .u32 0,.int .u32 0,.int .u32 0,.int .u32 0,.int .u32 0,.int .u32 0,.int .u32 0,.int .u32 0,.int .u32 0,.int .u32 0,.int .u32 0,.int .u32 0,.int .u32 0,.int .u32 0,.int .u32 0,.int .u32 0,.int .u32 0,.int .u32 0,.int .u32 0,.int .u32 0,.int .u32 0,.int .u32 0,.int .u32 0,.int .u32 0,.int .u32 0],ty:=.unit,eqs:=false }) .nil)))) none (.node (.node .nil (some { sz:=1,agg:=false,offs:=[],elem:=2,kind:=3,ik:=.i64,bytes:=24,zero:=[.nil],ty:=(.sl (.int .i64)),eqs:=false }) .nil) (some { sz:=1,agg:=false,offs:=[],elem:=176,kind:=3,ik:=.i64,bytes:=24,zero:=[.nil],ty:=(.sl Zx),eqs:=false }) .nil)) (some { sz:=1,agg:=false,offs:=[],elem:=0,kind:=5,ik:=.i64,bytes:=1,zero:=[.kb false],ty:=.bool,eqs:=false }) (.node (.node (.node (.node .nil (some { sz:=2,agg:=true,offs:=[(0,48),(1,2)],elem:=0,kind:=4,ik:=.i64,bytes:=32,zero:=[.nil,.int .i64 0],ty:=T68,eqs:=false }) .nil) none .nil) none .nil) none (.node (.node .nil none (.node (.node .nil (some { sz:=2,agg:=true,offs:=[(0,2),(1,2)],elem:=0,kind:=4,ik:=.i64,bytes:=16,zero:=[.int .i64 0,.int .i64 0],ty:=Z3n,eqs:=true }) .nil) (some { sz:=3,agg:=true,offs:=[(0,4),(1,2),(2,9)],elem:=0,kind:=4,ik:=.i64,bytes:=32,zero:=[.kb false,.int .i64 0,.str []],ty:=Zte,eqs:=true }) .nil)) (some { sz:=3,agg:=true,offs:=[(0,2),(1,26)],elem:=0,kind:=4,ik:=.i64,bytes:=56,zero:=[.int .i64 0,.nil,.nil],ty:=T28,eqs:=false }) (.node .nil (some { sz:=9,agg:=true,offs:=[(0,58),(8,2)],elem:=0,kind:=4,ik:=.i64,bytes:=112,zero:=[.int .i64 0,.int .i64 0,.int .i64 0,.int .i64 0,.int .i64 0,.str [],.nil,.nil,.int .i64 0],ty:=T60,eqs:=false }) .nil)))) (some { sz:=1,agg:=false,offs:=[],elem:=0,kind:=1,ik:=.i64,bytes:=8,zero:=[.int .i64 0],ty:=(.int .i64),eqs:=false }) (.node (.node .nil none (.node (.node (.node .nil none (.node .nil (some { sz:=3,agg:=true,offs:=[(0,2),(1,2),(2,2)],elem:=0,kind:=4,ik:=.i64,bytes:=24,zero:=[.int .i64 0,.int .i64 0,.int .i64 0],ty:=Z55,eqs:=true }) .nil)) (some { sz:=6,agg:=true,offs:=[(0,28),(3,9),(4,40),(5,2)],elem:=0,kind:=4,ik:=.i64,bytes:=104,zero:=[.int .i64 0,.nil,.nil,.str [],.nil,.int .i64 0],ty:=T42,eqs:=false }) .nil) (some { sz:=2,agg:=true,offs:=[(0,23),(1,24)],elem:=0,kind:=4,ik:=.i64,bytes:=48,zero:=[.nil,.nil],ty:=T26,eqs:=false }) (.node (.node (.node .nil (some { sz:=1,agg:=false,offs:=[],elem:=0,kind:=1,ik:=.u64,bytes:=8,zero:=[.int .u64 0],ty:=(.int .u64),eqs:=false }) .nil) none (.node .nil (some { sz:=1,agg:=false,offs:=[],elem:=0,kind:=1,ik:=.u32,bytes:=4,zero:=[.int .u32 0],ty:=(.int .u32),eqs:=false }) .nil)) (some { sz:=8,agg:=true,offs:=[(0,2),(1,2),(2,2),(3,2),(4,2),(5,9),(6,40),(7,40)],elem:=0,kind:=4,ik:=.i64,bytes:=104,zero:=[.int .i64 0,.int .i64 0,.int .i64 0,.int .i64 0,.int .i64 0,.str [],.nil,.nil],ty:=T58,eqs:=false }) .nil))) none (.node (.node (.node .nil (some { sz:=4,agg:=true,offs:=[(0,28),(3,2)],elem:=0,kind:=4,ik:=.i64,bytes:=64,zero:=[.int .i64 0,.nil,.nil,.int .i64 0],ty:=T38,eqs:=false }) .nil) (some { sz:=1,agg:=false,offs:=[],elem:=5,kind:=3,ik:=.i64,bytes:=24,zero:=[.nil],ty:=(.sl (.int .u8)),eqs:=false }) .nil) none .nil))))
theorem Zyr:Zlb Yb TAB∧Yb.follows .mixedOrders=true:=⟨Zipb (by kernel_rfl),by kernel_rfl⟩
theorem cX {L:List (Nat×Con)} (h:Zzn Yb L):CtxOk Yb { ti:=TAB,con:=Zwk L }:=Z5r Zyr h
theorem cXr (r t:Bool) {L:List (Nat×Con)} (h:Zzn Yb L):CtxOk Yb { ti:=TAB,con:=Zwk L,rob:=r,tl:=t }:=Z5r Zyr h
def Ztn (a1:Int):Option (Int×Str×List G45×Int):=some (0,[],[],a1)
def Ztn.con (k:Nat):Con:=Sig.con { ps:=[.val false (.int .i64) (ros (.int .i64))],rs:=[.val true [.v (.int .i64),.v .str,.own 45 T45,.v (.int .i64)]],ntmps:=5 } (fun x=>Ztn x)
theorem Ztn.ok (k:Nat):Ze Yb 21 (Ztn.con k):=fA (cX cN) Tryz.func21
def Zcc.l0:Nat→List Str→Int→Option (Unit ⊕ Bool)
 | 0,_,_=>none
 | j+1,a1,a2=>bif decide (a2<((a1.length):Int)) then Ya (at? a1 a2) fun v3=>bif ((v3.length):Int) != 8 then some (.inr false) else Zcc.l0 j a1 (Yc .i64 (a2+1)) else some (.inl ())
def Zcc (k:Nat) (a1:List Str):Option (Bool):=bif (decide (((a1.length):Int)<1))||(decide (8<((a1.length):Int))) then some false else Ya (Zcc.l0 k a1 0) fun
  | .inl y2=>some true
  | .inr y3=>some y3
def Zcc.con (k:Nat):Con:=Sig.con { ps:=[.val false (.sl .str) (ros (.sl .str))],rs:=[.val false [.v .bool]],ntmps:=24 } (fun x=>Zcc k x)
def Zcc.cok (k:Nat):=cX cN
def Zcc.l0.s (k:Nat):Summ:=lp 24 { tmps:=[(0,.one (.bor .str)),(3,.one (.v (.int .i64)))],slots:=[],nb:=0 } [(.exit 0,{ tmps:=[],slots:=[],nb:=0 }),(.ret,{ tmps:=[(2,.one (.v .bool))],slots:=[],nb:=0 })] (fun j x=>Zcc.l0 j x.1 x.2) k
def Zcc.l0.ok (k:Nat):=(lA (Zcc.cok k):Zo Yb _ (.loop (cO (cO (cR (cL (cR (cR (cB Tryz.f22)))))))) (Zcc.l0.s k))
theorem Zcc.ok (k:Nat):Ze Yb 22 (Zcc.con k):=fP (.two .auto (.two .auto (.two (.two .auto (.one (.sum (Zcc.l0.s k)))) .auto))) (Zcc.cok k) Tryz.func22 (sC (Zcc.l0.ok k) sN)
def Znr:Option (Str):=Ya (Zrg 1 8 8 0) fun v1=>some (Znb v1)
def Znr.con (k:Nat):Con:=Sig.con { ps:=[],rs:=[.val false [.v .str]],ntmps:=3 } (fun x=>Znr )
theorem Znr.ok (k:Nat):Ze Yb 111 (Znr.con k):=fA (cX cN) Tryz.func111
def Zae.l0:Nat→Str→Str→Int→Int→Option (Int)
 | 0,_,_,_,_=>none
 | j+1,a1,a2,a3,a4=>bif decide (a4<8) then Ya (at? a1 a4) fun v5=>Ya (at? a2 a4) fun v6=>let e7:=Yc .i64 (a4+1);bif (v5.toNat:Int) != (v6.toNat:Int) then Zae.l0 j a1 a2 (Yc .i64 (a3+1)) e7 else Zae.l0 j a1 a2 a3 e7 else some a3
def Zae (k:Nat) (a1:Str) (a2:Str):Option (Int):=Ya (Zae.l0 k a1 a2 0 0) fun y3=>some y3
def Zae.con (k:Nat):Con:=Sig.con { ps:=[.val false .str (ros .str),.val false .str (ros .str)],rs:=[.val false [.v (.int .i64)]],ntmps:=21 } (fun x=>Zae k x.1 x.2)
def Zae.cok (k:Nat):=cX cN
def Zae.l0.s (k:Nat):Summ:=lp 21 { tmps:=[(0,.one (.v .str)),(1,.one (.v .str)),(5,.one (.v (.int .i64))),(6,.one (.v (.int .i64)))],slots:=[],nb:=0 } [(.exit 0,{ tmps:=[(5,.one (.v (.int .i64)))],slots:=[],nb:=0 })] (fun j x=>Zae.l0 j x.1 x.2.1 x.2.2.1 x.2.2.2) k
def Zae.l0.ok (k:Nat):=(lA (Zae.cok k):Zo Yb _ (.loop (cO (cO (cR (cL (cR (cR (cB Tryz.f112)))))))) (Zae.l0.s k))
theorem Zae.ok (k:Nat):Ze Yb 112 (Zae.con k):=fP (.two .auto (.two .auto (.two (.two .auto (.one (.sum (Zae.l0.s k)))) .auto))) (Zae.cok k) Tryz.func112 (sC (Zae.l0.ok k) sN)
def Z3e.l0:Nat→Str→Str→Int→List Int→Option ((List Int))
 | 0,_,_,_,_=>none
 | j+1,a1,a2,a3,a4=>bif decide (a3<8) then Ya (at? a1 a3) fun v5=>Ya (at? a2 a3) fun v6=>Ya (at? a4 a3) fun v7=>Ya (at? a4 a3) fun v8=>Z3e.l0 j a1 a2 (Yc .i64 (a3+1)) (Yg a4 (Yf a3) (intBits .xor .u8 (v5.toNat:Int) (v6.toNat:Int))) else some a4
def Z3e (k:Nat) (a1:Str) (a2:Str):Option (Str):=bif (((a1.length):Int) != 8)||(((a2.length):Int) != 8) then some ([]) else Ya (Zrg 1 8 8 0) fun v3=>Ya (Z3e.l0 k a1 a2 0 v3) fun y4=>some (Znb y4)
def Z3e.con (k:Nat):Con:=Sig.con { ps:=[.val false .str (ros .str),.val false .str (ros .str)],rs:=[.val false [.v .str]],ntmps:=32 } (fun x=>Z3e k x.1 x.2)
def Z3e.cok (k:Nat):=cX cN
def Z3e.l0.s (k:Nat):Summ:=lp 32 { tmps:=[(0,.one (.v .str)),(1,.one (.v .str)),(5,.one (.own 1)),(6,.one (.v (.int .i64)))],slots:=[(1,.arr false 5 (.int .u8))],nb:=2 } [(.exit 0,{ tmps:=[(5,.one (.own 2))],slots:=[(2,.arr false 5 (.int .u8))],nb:=3 })] (fun j x=>Z3e.l0 j x.1 x.2.1 x.2.2.1 x.2.2.2) k
def Z3e.l0.ok (k:Nat):=(lA (Z3e.cok k):Zo Yb _ (.loop (cO (cO (cR (cL (cR (cR (cR (cB Tryz.f113))))))))) (Z3e.l0.s k))
theorem Z3e.ok (k:Nat):Ze Yb 113 (Z3e.con k):=fP (.two .auto (.two .auto (.two .auto (.two (.two .auto (.one (.sum (Z3e.l0.s k)))) .auto)))) (Z3e.cok k) Tryz.func113 (sC (Z3e.l0.ok k) sN)
def Zmc.l0:Nat→List Str→Int→Str→Int→Int→Int→Int→Str→Option ((Int×Int×Int×Str) ⊕ (Int×Int×Int×Str))
 | 0,_,_,_,_,_,_,_,_=>none
 | j+1,a1,a2,a3,a4,a5,a6,a7,a8=>bif decide (a4<((a1.length):Int)) then Ya (at? a1 a4) fun v9=>bif v9==a3 then some (.inr (3,a2,a4,[])) else Zmc.l0 j a1 a2 a3 (Yc .i64 (a4+1)) a5 a6 a7 a8 else some (.inl (a5,a6,a7,a8))
def Zmc.l1 (k:Nat):Nat→List Str→Int→Str→Int→Int→Int→Int→Str→Option ((Int×Int×Int×Str) ⊕ (Int×Int×Int×Str))
 | 0,_,_,_,_,_,_,_,_=>none
 | j+1,a1,a2,a3,a4,a5,a6,a7,a8=>bif decide (a4<((a1.length):Int)) then Ya (at? a1 a4) fun v9=>Ya (Zae k v9 a3) fun v10=>bif decide (v10≤2) then Ya (at? a1 a4) fun v11=>Ya (Z3e k v11 a3) fun v12=>some (.inr (4,a2,a4,v12)) else Zmc.l1 k j a1 a2 a3 (Yc .i64 (a4+1)) a5 a6 a7 a8 else some (.inl (a5,a6,a7,a8))
def Zmc (k:Nat) (a1:List Str) (a2:Int) (a3:Str):Option (Int×Int×Int×Str):=Ya (Znr ) fun v4=>bif a3==v4 then some (1,a2,0,[]) else Ya (Zmc.l0 k a1 a2 a3 0 0 0 0 []) fun
  | .inl y5=>Ya (Zmc.l1 k k a1 a2 a3 0 y5.1 y5.2.1 y5.2.2.1 y5.2.2.2) fun
    | .inl y6=>some (2,a2,0,a3)
    | .inr y7=>some (y7.1,y7.2.1,y7.2.2.1,y7.2.2.2)
  | .inr y8=>some (y8.1,y8.2.1,y8.2.2.1,y8.2.2.2)
def Zmc.con (k:Nat):Con:=Sig.con { ps:=[.val false (.sl .str) (ros (.sl .str)),.val false (.int .i64) (ros (.int .i64)),.val false .str (ros .str)],rs:=[.val true [.v (.int .i64),.v (.int .i64),.v (.int .i64),.v .str]],ntmps:=54 } (fun x=>Zmc k x.1 x.2.1 x.2.2)
def Zmc.cok (k:Nat):=cX (cC (Znr.ok k) (cC (Zae.ok k) (cC (Z3e.ok k) cN)))
def Zmc.l0.s (k:Nat):Summ:=lp 54 { tmps:=[(0,.one (.bor .str)),(1,.one (.v (.int .i64))),(2,.one (.v .str)),(6,.one (.ptr 0 0)),(7,.one (.v (.int .i64)))],slots:=[(0,.box 45 [.v (.int .i64),.v (.int .i64),.v (.int .i64),.v .str])],nb:=1 } [(.exit 0,{ tmps:=[],slots:=[(0,.box 45 [.v (.int .i64),.v (.int .i64),.v (.int .i64),.v .str])],nb:=1 }),(.ret,{ tmps:=[],slots:=[(0,.box 45 [.v (.int .i64),.v (.int .i64),.v (.int .i64),.v .str])],nb:=1 })] (fun j x=>Zmc.l0 j x.1 x.2.1 x.2.2.1 x.2.2.2.1 x.2.2.2.2.1 x.2.2.2.2.2.1 x.2.2.2.2.2.2.1 x.2.2.2.2.2.2.2) k
def Zmc.l0.ok (k:Nat):=(lA (Zmc.cok k):Zo Yb _ (.loop (cO (cO (cR (cL (cR (cR (cB Tryz.f46)))))))) (Zmc.l0.s k))
def Zmc.l1.s (k:Nat):Summ:=lp 54 { tmps:=[(0,.one (.bor .str)),(1,.one (.v (.int .i64))),(2,.one (.v .str)),(6,.one (.ptr 0 0)),(8,.one (.v (.int .i64)))],slots:=[(0,.box 45 [.v (.int .i64),.v (.int .i64),.v (.int .i64),.v .str])],nb:=1 } [(.exit 2,{ tmps:=[],slots:=[(0,.box 45 [.v (.int .i64),.v (.int .i64),.v (.int .i64),.v .str])],nb:=1 }),(.ret,{ tmps:=[],slots:=[(0,.box 45 [.v (.int .i64),.v (.int .i64),.v (.int .i64),.v .str])],nb:=1 })] (fun j x=>Zmc.l1 k j x.1 x.2.1 x.2.2.1 x.2.2.2.1 x.2.2.2.2.1 x.2.2.2.2.2.1 x.2.2.2.2.2.2.1 x.2.2.2.2.2.2.2) k
def Zmc.l1.ok (k:Nat):=(lA (Zmc.cok k):Zo Yb _ (.loop (cO (cO (cR (cL (cR (cR (cR (cB Tryz.f46))))))))) (Zmc.l1.s k))
theorem Zmc.ok (k:Nat):Ze Yb 46 (Zmc.con k):=fP (.two .auto (.two .auto (.two (.two .auto (.one (.sum (Zmc.l0.s k)))) (.two (.two .auto (.one (.sum (Zmc.l1.s k)))) .auto)))) (Zmc.cok k) Tryz.func46 (sC (Zmc.l0.ok k) (sC (Zmc.l1.ok k) sN))
def Z8d.l0 (k:Nat):Nat→List Str→List Str→Int→List G45→Option ((List G45))
 | 0,_,_,_,_=>none
 | j+1,a1,a2,a3,a4=>bif decide (a3<((a1.length):Int)) then Ya (at? a1 a3) fun v5=>Ya (at? a2 a3) fun v6=>let e7:=Yc .i64 (a3+1);bif !(v5==v6) then Ya (at? a2 a3) fun v8=>Ya (Zmc k a1 a3 v8) fun v9=>Ya (Zmb 40 a4 [v9]) fun v10=>Z8d.l0 k j a1 a2 e7 v10 else Z8d.l0 k j a1 a2 e7 a4 else some a4
def Z8d (k:Nat) (a1:List Str) (a2:List Str):Option (List G45):=Ya (Zcc k a1) fun v3=>bif !v3 then some ([]) else Ya (Zcc k a2) fun v4=>bif (!v4)||(((a1.length):Int) != ((a2.length):Int)) then some ([]) else Ya (Z8d.l0 k k a1 a2 0 []) fun y5=>some y5
def Z8d.con (k:Nat):Con:=Sig.con { ps:=[.val false (.sl .str) (ros (.sl .str)),.val false (.sl .str) (ros (.sl .str))],rs:=[.val false [.own 45 T45]],ntmps:=50 } (fun x=>Z8d k x.1 x.2)
def Z8d.cok (k:Nat):=cX (cC (Zcc.ok k) (cC (Zmc.ok k) cN))
def Z8d.l0.s (k:Nat):Summ:=lp 50 { tmps:=[(0,.one (.bor .str)),(1,.one (.bor .str)),(5,.one (.own 1)),(6,.one (.v (.int .i64)))],slots:=[(1,.arr false 45 T45)],nb:=2 } [(.exit 0,{ tmps:=[(5,.one (.own 2))],slots:=[(2,.arr false 45 T45)],nb:=3 })] (fun j x=>Z8d.l0 k j x.1 x.2.1 x.2.2.1 x.2.2.2) k
def Z8d.l0.ok (k:Nat):=(lA (Z8d.cok k):Zo Yb _ (.loop (cO (cO (cR (cL (cR (cR (cR (cB Tryz.f23))))))))) (Z8d.l0.s k))
theorem Z8d.ok (k:Nat):Ze Yb 23 (Z8d.con k):=fP (.two .auto (.two .auto (.two .auto (.two (.two .auto (.one (.sum (Z8d.l0.s k)))) .auto)))) (Z8d.cok k) Tryz.func23 (sC (Z8d.l0.ok k) sN)
def Zmr:Option (List Int):=some ([1779033703,3144134277,1013904242,2773480762,1359893119,2600822924,528734635,1541459225])
def Zmr.con (k:Nat):Con:=Sig.con { ps:=[],rs:=[.val false [.own 2 (.int .i64)]],ntmps:=2 } (fun x=>Zmr )
theorem Zmr.ok (k:Nat):Ze Yb 163 (Zmr.con k):=fA (cX cN) Tryz.func163
def Z8g (a1:Int) (a2:Int):Option (Int):=Ya (Zrb a2) fun v3=>let e4:=Yc .u64 (32-a2);Ya (Zrb e4) fun v5=>some (intBits .or .u32 (shr .u32 a1 a2) (shl .u32 a1 e4))
def Z8g.con (k:Nat):Con:=Sig.con { ps:=[.val false (.int .u32) (ros (.int .u32)),.val false (.int .u64) (ros (.int .u64))],rs:=[.val false [.v (.int .u32)]],ntmps:=13 } (fun x=>Z8g x.1 x.2)
theorem Z8g.ok (k:Nat):Ze Yb 184 (Z8g.con k):=fA (cX cN) Tryz.func184
def Z3p:Option (List Int):=some ([1116352408,1899447441,3049323471,3921009573,961987163,1508970993,2453635748,2870763221,3624381080,310598401,607225278,1426881987,1925078388,2162078206,2614888103,3248222580,3835390401,4022224774,264347078,604807628,770255983,1249150122,1555081692,1996064986,2554220882,2821834349,2952996808,3210313671,3336571891,3584528711,113926993,338241895,666307205,773529912,1294757372,1396182291,1695183700,1986661051,2177026350,2456956037,2730485921,2820302411,3259730800,3345764771,3516065817,3600352804,4094571909,275423344,430227734,506948616,659060556,883997877,958139571,1322822218,1537002063,1747873779,1955562222,2024104815,2227730452,2361852424,2428436474,2756734187,3204031479,3329325298])
def Z3p.con (k:Nat):Con:=Sig.con { ps:=[],rs:=[.val false [.own 218 (.int .u32)]],ntmps:=2 } (fun x=>Z3p )
theorem Z3p.ok (k:Nat):Ze Yb 185 (Z3p.con k):=fA (cX cN) Tryz.func185
def Zr.l0:Nat→Str→Int→List Int→Option ((List Int))
 | 0,_,_,_=>none
 | j+1,a1,a2,a3=>bif decide (a2<16) then let e4:=Yc .i64 (4*a2);Ya (at? a1 e4) fun v5=>Ya (Zrb 24) fun v6=>Ya (at? a1 (Yc .i64 (e4+1))) fun v7=>Ya (Zrb 16) fun v8=>Ya (at? a1 (Yc .i64 (e4+2))) fun v9=>Ya (Zrb 8) fun v10=>Ya (at? a1 (Yc .i64 (e4+3))) fun v11=>Ya (at? a3 a2) fun v12=>Ya (at? a3 a2) fun v13=>Zr.l0 j a1 (Yc .i64 (a2+1)) (Yg a3 (Yf a2) (intBits .or .u32 (intBits .or .u32 (intBits .or .u32 (shl .u32 (Yc .u32 (v5.toNat:Int)) 24) (shl .u32 (Yc .u32 (v7.toNat:Int)) 16)) (shl .u32 (Yc .u32 (v9.toNat:Int)) 8)) (Yc .u32 (v11.toNat:Int)))) else some a3
def Zr.l1:Nat→Int→List Int→Option ((List Int))
 | 0,_,_=>none
 | j+1,a1,a2=>bif decide (a1<64) then let e3:=at? a2 (Yc .i64 (a1-15));Ya (e3) fun v4=>Ya (e3) fun v5=>let e6:=at? a2 (Yc .i64 (a1-2));Ya (e6) fun v7=>Ya (e6) fun v8=>let e9:=at? a2 (Yc .i64 (a1-16));Ya (e9) fun v10=>Ya (e9) fun v11=>Ya (Z8g v5 7) fun v12=>Ya (Z8g v5 18) fun v13=>Ya (Zrb 3) fun v14=>let e15:=at? a2 (Yc .i64 (a1-7));Ya (e15) fun v16=>Ya (e15) fun v17=>Ya (Z8g v8 17) fun v18=>Ya (Z8g v8 19) fun v19=>Ya (Zrb 10) fun v20=>Ya (at? a2 a1) fun v21=>Ya (at? a2 a1) fun v22=>Zr.l1 j (Yc .i64 (a1+1)) (Yg a2 (Yf a1) (Yc .u32 ((Yc .u32 ((Yc .u32 (v11+(intBits .xor .u32 (intBits .xor .u32 v12 v13) (shr .u32 v5 3))))+v17))+(intBits .xor .u32 (intBits .xor .u32 v18 v19) (shr .u32 v8 10))))) else some a2
def Zr.l2:Nat→Int→Int→Int→Int→Int→Int→Int→Int→Int→List Int→List Int→Option ((Int×Int×Int×Int×Int×Int×Int×Int))
 | 0,_,_,_,_,_,_,_,_,_,_,_=>none
 | j+1,a1,a2,a3,a4,a5,a6,a7,a8,a9,a10,a11=>bif decide (a9<64) then Ya (Z8g a5 6) fun v12=>Ya (Z8g a5 11) fun v13=>Ya (Z8g a5 25) fun v14=>Ya (at? a11 a9) fun v15=>Ya (at? a11 a9) fun v16=>Ya (at? a10 a9) fun v17=>Ya (at? a10 a9) fun v18=>Ya (Z8g a1 2) fun v19=>Ya (Z8g a1 13) fun v20=>Ya (Z8g a1 22) fun v21=>let e22:=Yc .u32 ((Yc .u32 ((Yc .u32 ((Yc .u32 (a8+(intBits .xor .u32 (intBits .xor .u32 v12 v13) v14)))+(intBits .xor .u32 (intBits .and .u32 a5 a6) (intBits .and .u32 (intBits .xor .u32 (Yh .u32) a5) a7))))+v16))+v18);Zr.l2 j (Yc .u32 (e22+(Yc .u32 ((intBits .xor .u32 (intBits .xor .u32 v19 v20) v21)+(intBits .xor .u32 (intBits .xor .u32 (intBits .and .u32 a1 a2) (intBits .and .u32 a1 a3)) (intBits .and .u32 a2 a3)))))) a1 a2 a3 (Yc .u32 (a4+e22)) a5 a6 a7 (Yc .i64 (a9+1)) a10 a11 else some (a1,a2,a3,a4,a5,a6,a7,a8)
def Zr.l3:Nat→List Int→Int→List Int→List Int→Option ((List Int))
 | 0,_,_,_,_=>none
 | j+1,a1,a2,a3,a4=>bif decide (a2<8) then Ya (at? a1 a2) fun v5=>Ya (at? a3 a2) fun v6=>Ya (at? a3 a2) fun v7=>Ya (Zmb 8 a4 [(Yc .i64 (Yc .u32 ((Yc .u32 v5)+v7)))]) fun v8=>Zr.l3 j a1 (Yc .i64 (a2+1)) a3 v8 else some a4
def Zr (k:Nat) (a1:List Int) (a2:Str):Option (List Int):=Ya (Zrg 4 64 64 0) fun v3=>Ya (Zr.l0 k a2 0 v3) fun y4=>Ya (Zr.l1 k 16 y4) fun y5=>Ya (at? a1 0) fun v6=>Ya (at? a1 1) fun v7=>Ya (at? a1 2) fun v8=>Ya (at? a1 3) fun v9=>Ya (at? a1 4) fun v10=>Ya (at? a1 5) fun v11=>Ya (at? a1 6) fun v12=>Ya (at? a1 7) fun v13=>Ya (Z3p ) fun v14=>Ya (Zr.l2 k (Yc .u32 v6) (Yc .u32 v7) (Yc .u32 v8) (Yc .u32 v9) (Yc .u32 v10) (Yc .u32 v11) (Yc .u32 v12) (Yc .u32 v13) 0 y5 v14) fun y15=>Ya (Zr.l3 k a1 0 [y15.1,y15.2.1,y15.2.2.1,y15.2.2.2.1,y15.2.2.2.2.1,y15.2.2.2.2.2.1,y15.2.2.2.2.2.2.1,y15.2.2.2.2.2.2.2] []) fun y16=>some y16
def Zr.con (k:Nat):Con:=Sig.con { ps:=[.val false (.sl (.int .i64)) (ros (.sl (.int .i64))),.val false .str (ros .str)],rs:=[.val false [.own 2 (.int .i64)]],ntmps:=235 } (fun x=>Zr k x.1 x.2)
def Zr.cok (k:Nat):=cX (cC (Z8g.ok k) (cC (Z3p.ok k) cN))
def Zr.l0.s (k:Nat):Summ:=lp 235 { tmps:=[(1,.one (.v .str)),(5,.one (.own 1)),(6,.one (.v (.int .i64)))],slots:=[(1,.arr false 218 (.int .u32))],nb:=2 } [(.exit 0,{ tmps:=[(5,.one (.own 2))],slots:=[(2,.arr false 218 (.int .u32))],nb:=3 })] (fun j x=>Zr.l0 j x.1 x.2.1 x.2.2) k
def Zr.l0.ok (k:Nat):=(lA (Zr.cok k):Zo Yb _ (.loop (cO (cO (cR (cL (cR (cR (cB Yk)))))))) (Zr.l0.s k))
def Zr.l1.s (k:Nat):Summ:=lp 235 { tmps:=[(5,.one (.own 3)),(7,.one (.v (.int .i64)))],slots:=[(3,.arr false 218 (.int .u32))],nb:=4 } [(.exit 2,{ tmps:=[(5,.one (.own 4))],slots:=[(4,.arr false 218 (.int .u32))],nb:=5 })] (fun j x=>Zr.l1 j x.1 x.2) k
def Zr.l1.ok (k:Nat):=(lA (Zr.cok k):Zo Yb _ (.loop (cO (cO (cR (cL (cR (cR (cR (cB Yk))))))))) (Zr.l1.s k))
def Zr.l2.s (k:Nat):Summ:=lp 235 { tmps:=[(5,.one (.own 6)),(10,.one (.v (.int .u32))),(11,.one (.v (.int .u32))),(12,.one (.v (.int .u32))),(13,.one (.v (.int .u32))),(14,.one (.v (.int .u32))),(15,.one (.v (.int .u32))),(16,.one (.v (.int .u32))),(17,.one (.v (.int .u32))),(18,.one (.own 7)),(19,.one (.v (.int .i64)))],slots:=[(6,.arr false 218 (.int .u32)),(7,.arr false 218 (.int .u32))],nb:=8 } [(.exit 4,{ tmps:=[(10,.one (.v (.int .u32))),(11,.one (.v (.int .u32))),(12,.one (.v (.int .u32))),(13,.one (.v (.int .u32))),(14,.one (.v (.int .u32))),(15,.one (.v (.int .u32))),(16,.one (.v (.int .u32))),(17,.one (.v (.int .u32)))],slots:=[],nb:=8 })] (fun j x=>Zr.l2 j x.1 x.2.1 x.2.2.1 x.2.2.2.1 x.2.2.2.2.1 x.2.2.2.2.2.1 x.2.2.2.2.2.2.1 x.2.2.2.2.2.2.2.1 x.2.2.2.2.2.2.2.2.1 x.2.2.2.2.2.2.2.2.2.1 x.2.2.2.2.2.2.2.2.2.2) k
def Zr.l2.ok (k:Nat):=(lA (Zr.cok k):Zo Yb _ (.loop (cO (cO (cR (cL (cR (cR (cR (cR (cR (cR (cR (cB Yk))))))))))))) (Zr.l2.s k))
def Zr.l3.s (k:Nat):Summ:=lp 235 { tmps:=[(0,.one (.bor (.int .i64))),(22,.one (.own 10)),(23,.one (.own 11)),(24,.one (.v (.int .i64)))],slots:=[(10,.arr false 218 (.int .u32)),(11,.arr false 2 (.int .i64))],nb:=12 } [(.exit 6,{ tmps:=[(23,.one (.own 12))],slots:=[(12,.arr false 2 (.int .i64))],nb:=13 })] (fun j x=>Zr.l3 j x.1 x.2.1 x.2.2.1 x.2.2.2) k
def Zr.l3.ok (k:Nat):=(lA (Zr.cok k):Zo Yb _ (.loop (cO (cO (cR (cL (cR (cR (cR (cR (cR (cR (cR (cR (cR (cR (cB Yk)))))))))))))))) (Zr.l3.s k))
theorem Zr.ok (k:Nat):Ze Yb 164 (Zr.con k):=fP (.two .auto (.two .auto (.two (.two .auto (.one (.sum (Zr.l0.s k)))) (.two (.two .auto (.one (.sum (Zr.l1.s k)))) (.two .auto (.two .auto (.two .auto (.two (.two .auto (.one (.sum (Zr.l2.s k)))) (.two .auto (.two .auto (.two (.two .auto (.one (.sum (Zr.l3.s k)))) .auto))))))))))) (Zr.cok k) Tryz.func164 (sC (Zr.l0.ok k) (sC (Zr.l1.ok k) (sC (Zr.l2.ok k) (sC (Zr.l3.ok k) sN))))
def Zs.l0:Nat→List Int→Option ((List Int))
 | 0,_=>none
 | j+1,a1=>Ya (nz? 64) fun v2=>bif (Int.tmod ((a1.length):Int) 64) != 56 then Ya (Zmb 1 a1 [0]) fun v3=>Zs.l0 j v3 else some a1
def Zs.l1:Nat→Int→Int→List Int→Option ((List Int))
 | 0,_,_,_=>none
 | j+1,a1,a2,a3=>bif decide (0≤a2) then Ya (Zrb (Yc .u64 a2)) fun v4=>Ya (Zmb 1 a3 [(Yc .u8 (shr .u64 a1 (Yc .u64 a2)))]) fun v5=>Zs.l1 j a1 (Yc .i64 (a2-8)) v5 else some a3
def Zs.l2 (k:Nat):Nat→List Int→Int→List Int→Option ((List Int))
 | 0,_,_,_=>none
 | j+1,a1,a2,a3=>bif decide (a2<((a1.length):Int)) then let e4:=Yc .i64 (a2+64);Ya (Z9b a1 a2 e4) fun v5=>Ya (Zr k a3 (Znb v5)) fun v6=>Zs.l2 k j a1 e4 v6 else some a3
def Zs.l3:Nat→Int→List Int→List Int→Option ((List Int))
 | 0,_,_,_=>none
 | j+1,a1,a2,a3=>bif decide (a1<8) then Ya (at? a2 a1) fun v4=>Ya (at? a2 a1) fun v5=>Ya (Zrb 24) fun v6=>Ya (Zrb 16) fun v7=>Ya (Zrb 8) fun v8=>Ya (Zmb 1 a3 [(Yc .u8 (shr .i64 v5 24)),(Yc .u8 (shr .i64 v5 16)),(Yc .u8 (shr .i64 v5 8)),(Yc .u8 v5)]) fun v9=>Zs.l3 j (Yc .i64 (a1+1)) a2 v9 else some a3
def Zs (k:Nat) (a1:Str):Option (Str):=Ya (Zvv (a1.length) 1) fun v2=>Ya (Zmb 1 (Zfb a1) [128]) fun v3=>Ya (Zs.l0 k v3) fun y4=>Ya (Zs.l1 k (Yc .u64 (Yc .i64 (8*((a1.length):Int)))) 56 y4) fun y5=>Ya (Zmr ) fun v6=>Ya (Zs.l2 k k y5 0 v6) fun y7=>Ya (Zs.l3 k 0 y7 []) fun y8=>some (Znb y8)
def Zs.con (k:Nat):Con:=Sig.con { ps:=[.val false .str (ros .str)],rs:=[.val false [.v .str]],ntmps:=78 } (fun x=>Zs k x)
def Zs.cok (k:Nat):=cX (cC (Zmr.ok k) (cC (Zr.ok k) cN))
def Zs.l0.s (k:Nat):Summ:=lp 78 { tmps:=[(3,.one (.own 3))],slots:=[(3,.arr true 5 (.int .u8))],nb:=4 } [(.exit 0,{ tmps:=[(3,.one (.own 4))],slots:=[(4,.arr true 5 (.int .u8))],nb:=5 })] (fun j x=>Zs.l0 j x) k
def Zs.l0.ok (k:Nat):=(lA (Zs.cok k):Zo Yb _ (.loop (cO (cO (cL (cR (cR (cB Yj))))))) (Zs.l0.s k))
def Zs.l1.s (k:Nat):Summ:=lp 78 { tmps:=[(3,.one (.own 5)),(4,.one (.v (.int .u64))),(5,.one (.v (.int .i64)))],slots:=[(5,.arr true 5 (.int .u8))],nb:=6 } [(.exit 2,{ tmps:=[(3,.one (.own 6))],slots:=[(6,.arr true 5 (.int .u8))],nb:=7 })] (fun j x=>Zs.l1 j x.1 x.2.1 x.2.2) k
def Zs.l1.ok (k:Nat):=(lA (Zs.cok k):Zo Yb _ (.loop (cO (cO (cR (cL (cR (cR (cR (cR (cB Yj)))))))))) (Zs.l1.s k))
def Zs.l2.s (k:Nat):Summ:=lp 78 { tmps:=[(3,.one (.v (.sl (.int .u8)))),(6,.one (.own 8)),(7,.one (.v (.int .i64)))],slots:=[(8,.arr false 2 (.int .i64))],nb:=9 } [(.exit 4,{ tmps:=[(6,.one (.own 9))],slots:=[(9,.arr false 2 (.int .i64))],nb:=10 })] (fun j x=>Zs.l2 k j x.1 x.2.1 x.2.2) k
def Zs.l2.ok (k:Nat):=(lA (Zs.cok k):Zo Yb _ (.loop (cO (cO (cR (cL (cR (cR (cR (cR (cR (cR (cB Yj)))))))))))) (Zs.l2.s k))
def Zs.l3.s (k:Nat):Summ:=lp 78 { tmps:=[(6,.one (.own 11)),(8,.one (.own 12)),(9,.one (.v (.int .i64)))],slots:=[(11,.arr false 2 (.int .i64)),(12,.arr false 5 (.int .u8))],nb:=13 } [(.exit 6,{ tmps:=[(8,.one (.own 13))],slots:=[(13,.arr false 5 (.int .u8))],nb:=14 })] (fun j x=>Zs.l3 j x.1 x.2.1 x.2.2) k
def Zs.l3.ok (k:Nat):=(lA (Zs.cok k):Zo Yb _ (.loop (cO (cO (cR (cL (cR (cR (cR (cR (cR (cR (cR (cR (cB Yj)))))))))))))) (Zs.l3.s k))
theorem Zs.ok (k:Nat):Ze Yb 114 (Zs.con k):=fP (.two .auto (.two .auto (.two (.one (.sum (Zs.l0.s k))) (.two .auto (.two (.two .auto (.one (.sum (Zs.l1.s k)))) (.two .auto (.two (.two .auto (.one (.sum (Zs.l2.s k)))) (.two .auto (.two (.two .auto (.one (.sum (Zs.l3.s k)))) .auto))))))))) (Zs.cok k) Tryz.func114 (sC (Zs.l0.ok k) (sC (Zs.l1.ok k) (sC (Zs.l2.ok k) (sC (Zs.l3.ok k) sN))))
def Zpn (k:Nat) (a1:Str):Option (Str):=bif decide (8000<((a1.length):Int)) then some ([]) else Ya (Zs k a1) fun v2=>some v2
def Zpn.con (k:Nat):Con:=Sig.con { ps:=[.val false .str (ros .str)],rs:=[.val false [.v .str]],ntmps:=8 } (fun x=>Zpn k x)
theorem Zpn.ok (k:Nat):Ze Yb 47 (Zpn.con k):=fA (cX (cC (Zs.ok k) cN)) Tryz.func47
def Z5e.l0:Nat→List Str→Str→Int→Option (Str)
 | 0,_,_,_=>none
 | j+1,a1,a2,a3=>bif decide (a3<((a1.length):Int)) then Ya (at? a1 a3) fun v4=>Ya (Zge a2 v4) fun v5=>Z5e.l0 j a1 v5 (Yc .i64 (a3+1)) else some a2
def Z5e (k:Nat) (a1:List Str):Option (Str):=Ya (Z5e.l0 k a1 [] 0) fun y2=>some y2
def Z5e.con (k:Nat):Con:=Sig.con { ps:=[.val false (.sl .str) (ros (.sl .str))],rs:=[.val false [.v .str]],ntmps:=18 } (fun x=>Z5e k x)
def Z5e.cok (k:Nat):=cX cN
def Z5e.l0.s (k:Nat):Summ:=lp 18 { tmps:=[(0,.one (.bor .str)),(3,.one (.v .str)),(4,.one (.v (.int .i64)))],slots:=[],nb:=0 } [(.exit 0,{ tmps:=[(3,.one (.v .str))],slots:=[],nb:=0 })] (fun j x=>Z5e.l0 j x.1 x.2.1 x.2.2) k
def Z5e.l0.ok (k:Nat):=(lA (Z5e.cok k):Zo Yb _ (.loop (cO (cO (cR (cL (cR (cR (cB Tryz.f48)))))))) (Z5e.l0.s k))
theorem Z5e.ok (k:Nat):Ze Yb 48 (Z5e.con k):=fP (.two .auto (.two .auto (.two (.two .auto (.one (.sum (Z5e.l0.s k)))) .auto))) (Z5e.cok k) Tryz.func48 (sC (Z5e.l0.ok k) sN)
def Zyp (k:Nat) (a1:List Str):Option (Str):=Ya (Zcc k a1) fun v2=>bif !v2 then some ([]) else Ya (Z5e k a1) fun v3=>Ya (Zpn k v3) fun v4=>some v4
def Zyp.con (k:Nat):Con:=Sig.con { ps:=[.val false (.sl .str) (ros (.sl .str))],rs:=[.val false [.v .str]],ntmps:=9 } (fun x=>Zyp k x)
theorem Zyp.ok (k:Nat):Ze Yb 24 (Zyp.con k):=fA (cX (cC (Zcc.ok k) (cC (Zpn.ok k) (cC (Z5e.ok k) cN)))) Tryz.func24
def Zlk (k:Nat) (a1:List Str) (a2:List Str):Option (Int×Str×List G45×Int):=bif (decide (400<((a1.length):Int)))||(decide (400<((a2.length):Int))) then Ya (Ztn 2) fun v3=>some (v3.1,v3.2.1,v3.2.2.1,v3.2.2.2) else Ya (Zcc k a1) fun v4=>bif !v4 then Ya (Ztn 1) fun v5=>some (v5.1,v5.2.1,v5.2.2.1,v5.2.2.2) else Ya (Zcc k a2) fun v6=>bif (!v6)||(((a1.length):Int) != ((a2.length):Int)) then Ya (Ztn 1) fun v7=>some (v7.1,v7.2.1,v7.2.2.1,v7.2.2.2) else Ya (Z8d k a1 a2) fun v8=>Ya (Zmb 40 v8 ([(5,(0,(1,[])))])) fun v9=>Ya (Zyp k a2) fun v10=>some (((a1.length):Int),v10,v9,0)
def Zlk.con (k:Nat):Con:=Sig.con { ps:=[.val false (.sl .str) (ros (.sl .str)),.val false (.sl .str) (ros (.sl .str))],rs:=[.val true [.v (.int .i64),.v .str,.own 45 T45,.v (.int .i64)]],ntmps:=44 } (fun x=>Zlk k x.1 x.2)
theorem Zlk.ok (k:Nat):Ze Yb 5 (Zlk.con k):=fA (cX (cC (Ztn.ok k) (cC (Zcc.ok k) (cC (Z8d.ok k) (cC (Zyp.ok k) cN))))) Tryz.func5
def Zjb (a1:Int) (a2:Int) (a3:Int):Option (Bool):=some ((decide (a2≤a1))&&(decide (a1≤a3)))
def Zjb.con (k:Nat):Con:=Sig.con { ps:=[.val false (.int .i64) (ros (.int .i64)),.val false (.int .i64) (ros (.int .i64)),.val false (.int .i64) (ros (.int .i64))],rs:=[.val false [.v .bool]],ntmps:=15 } (fun x=>Zjb x.1 x.2.1 x.2.2)
theorem Zjb.ok (k:Nat):Ze Yb 70 (Zjb.con k):=fA (cX cN) Tryz.func70
def Zrj (a1:Int):Option (Bool):=Ya (Zjb a1 1 8) fun v2=>some v2
def Zrj.con (k:Nat):Con:=Sig.con { ps:=[.val false (.int .i64) (ros (.int .i64))],rs:=[.val false [.v .bool]],ntmps:=5 } (fun x=>Zrj x)
theorem Zrj.ok (k:Nat):Ze Yb 49 (Zrj.con k):=fA (cX (cC (Zjb.ok k) cN)) Tryz.func49
def Z5g (a1:List Str):Option (Int):=some ((a1.length):Int)
def Z5g.con (k:Nat):Con:=Sig.con { ps:=[.val false (.sl .str) (ros (.sl .str))],rs:=[.val false [.v (.int .i64)]],ntmps:=5 } (fun x=>Z5g x)
theorem Z5g.ok (k:Nat):Ze Yb 50 (Z5g.con k):=fA (cX cN) Tryz.func50
def Z2o (a1:Str):Option (Bool):=some (((a1.length):Int) != 8)
def Z2o.con (k:Nat):Con:=Sig.con { ps:=[.val false .str (ros .str)],rs:=[.val false [.v .bool]],ntmps:=6 } (fun x=>Z2o x)
theorem Z2o.ok (k:Nat):Ze Yb 52 (Z2o.con k):=fA (cX cN) Tryz.func52
def Zjd.l0:Nat→List Str→Int→Int→Option (Unit ⊕ Int)
 | 0,_,_,_=>none
 | j+1,a1,a2,a3=>bif decide (a3<a2) then Ya (at? a1 a3) fun v4=>Ya (Z2o v4) fun v5=>bif v5 then some (.inr a3) else Zjd.l0 j a1 a2 (Yc .i64 (a3+1)) else some (.inl ())
def Zjd (k:Nat) (a1:List Str):Option (Int):=Ya (Zjd.l0 k a1 ((a1.length):Int) 0) fun
  | .inl y2=>some (-1)
  | .inr y3=>some y3
def Zjd.con (k:Nat):Con:=Sig.con { ps:=[.val false (.sl .str) (ros (.sl .str)),.fn 52 []],rs:=[.val false [.v (.int .i64)]],ntmps:=19 } (fun x=>Zjd k x)
def Zjd.cok (k:Nat):=cX (cC (Z2o.ok k) cN)
def Zjd.l0.s (k:Nat):Summ:=lp 19 { tmps:=[(0,.one (.bor .str)),(1,.fn 52 []),(7,.one (.v (.int .i64))),(8,.one (.v (.int .i64)))],slots:=[],nb:=0 } [(.exit 0,{ tmps:=[],slots:=[],nb:=0 }),(.ret,{ tmps:=[(4,.one (.v (.int .i64)))],slots:=[],nb:=0 })] (fun j x=>Zjd.l0 j x.1 x.2.1 x.2.2) k
def Zjd.l0.ok (k:Nat):=(lA (Zjd.cok k):Zo Yb _ (.loop (cO (cO (cR (cL (cR (cB Tryz.f115))))))) (Zjd.l0.s k))
theorem Zjd.ok (k:Nat):Ze Yb 115 (Zjd.con k):=fP (.two .auto (.two (.two .auto (.one (.sum (Zjd.l0.s k)))) .auto)) (Zjd.cok k) Tryz.func115 (sC (Zjd.l0.ok k) sN)
def Zlr (k:Nat) (a1:List Str):Option (Bool):=Ya (Zjd k a1) fun v2=>some (decide (0≤v2))
def Zlr.con (k:Nat):Con:=Sig.con { ps:=[.val false (.sl .str) (ros (.sl .str)),.fn 52 []],rs:=[.val false [.v .bool]],ntmps:=9 } (fun x=>Zlr k x)
theorem Zlr.ok (k:Nat):Ze Yb 51 (Zlr.con k):=fA (cX (cC (Zjd.ok k) cN)) Tryz.func51
def Zzk (k:Nat) (a1:List Str):Option (Bool):=Ya (Z5g a1) fun v2=>Ya (Zrj v2) fun v3=>bif v3 then Ya (Zlr k a1) fun v4=>some (!v4) else some false
def Zzk.con (k:Nat):Con:=Sig.con { ps:=[.val false (.sl .str) (ros (.sl .str))],rs:=[.val false [.v .bool]],ntmps:=11 } (fun x=>Zzk k x)
theorem Zzk.ok (k:Nat):Ze Yb 25 (Zzk.con k):=fA (cX (cC (Zrj.ok k) (cC (Z5g.ok k) (cC (Zlr.ok k) cN)))) Tryz.func25
def slices_Clone_string (a:List Str):Option (List Str):=Ya (Zmb 16 [] a) fun y=>some y
def slices_Clone_string.sig:Sig:={ ps:=[.val false (.sl .str) (ros (.sl .str))],rs:=[.val false [.own 9 .str]],ntmps:=8 }
def slices_Clone_string.con (k:Nat):Con:=slices_Clone_string.sig.con (fun x=>slices_Clone_string x)
theorem slices_Clone_string.ok (k:Nat):Ze Yb 143 (slices_Clone_string.con k):=
 Zbx (e:=9) (C:={ ti:=TAB,con:=Zwk [] }) (s:=slices_Clone_string.sig) (G:=fun x=>slices_Clone_string x) (Z5r Zyr trivial) Yca (by kernel_rfl) rfl (by kernel_rfl) (by kernel_rfl) (by kernel_rfl) rfl rfl rfl rfl rfl rfl (by kernel_rfl) (by kernel_rfl)
  (fun x=>⟨_,_,.inl rfl⟩) (fun x y h=>Eq.trans (b:=slices_Clone_string x) (by kernel_rfl) h) (fun x y h hl=>by
   have e:x=([]:List Str):=hl .str x (.inl (by kernel_rfl));subst e;exact Eq.trans (b:=slices_Clone_string []) (by kernel_rfl) h)
def Zyj (a:List Zz):Option (List Zz):=Ya (Zmb 24 [] a) fun y=>some y
def Zyj.sig:Sig:={ ps:=[.val false (.sl Zx) (ros (.sl Zx))],rs:=[.val false [.own 176 Zx]],ntmps:=8 }
def Zyj.con (k:Nat):Con:=Zyj.sig.con (fun x=>Zyj x)
theorem Zyj.ok (k:Nat):Ze Yb 144 (Zyj.con k):=
 Zbx (e:=176) (C:={ ti:=TAB,con:=Zwk [] }) (s:=Zyj.sig) (G:=fun x=>Zyj x) (Z5r Zyr trivial) Tryz.func144 (by kernel_rfl) rfl (by kernel_rfl) (by kernel_rfl) (by kernel_rfl) rfl rfl rfl rfl rfl rfl (by kernel_rfl) (by kernel_rfl)
  (fun x=>⟨_,_,.inl rfl⟩) (fun x y h=>Eq.trans (b:=Zyj x) (by kernel_rfl) h) (fun x y h hl=>by
   have e:x=([]:List Zz):=hl Zx x (.inl (by kernel_rfl));subst e;exact Eq.trans (b:=Zyj []) (by kernel_rfl) h)
def Zyo (a1:G26):Option (List Str×List Zz):=Ya (slices_Clone_string a1.1) fun v2=>Ya (Zyj a1.2) fun v3=>some (v2,v3)
def Zyo.con (k:Nat):Con:=Sig.con { ps:=[.val true T26 (ros T26)],rs:=[.val true [.own 9 .str,.own 176 Zx]],ntmps:=10 } (fun x=>Zyo x)
theorem Zyo.ok (k:Nat):Ze Yb 86 (Zyo.con k):=fA (cXr true false (cC (slices_Clone_string.ok k) (cC (Zyj.ok k) cN))) Tryz.func86
def Znf.l0:Nat→Int→Int→List Zz→List Str→Option ((List Str×List Zz))
 | 0,_,_,_,_=>none
 | j+1,a1,a2,a3,a4=>bif decide (a2<a1) then Ya (at? a3 a2) fun v5=>Ya (at? a3 a2) fun v6=>let e7:=at? a4 v6.1;Ya (e7) fun v8=>Ya (e7) fun v9=>Znf.l0 j a1 (Yc .i64 (a2+1)) a3 (Yg a4 (Yf v6.1) v6.2) else some (a4,a3)
def Znf (k:Nat) (a1:G26):Option (List Str×List Zz):=Ya (Znf.l0 k ((a1.2.length):Int) 0 a1.2 a1.1) fun y2=>some (y2.1,[])
def Znf.con (k:Nat):Con:=Sig.con { ps:=[.ref 26 T26 [.own 9,.own 176]],rs:=[],ntmps:=26 } (fun x=>Znf k x)
def Znf.cok (k:Nat):=cX cN
def Znf.l0.s (k:Nat):Summ:=lp 26 { tmps:=[(0,.one (.ptr 0 0)),(7,.one (.own 3)),(8,.one (.v (.int .i64))),(9,.one (.v (.int .i64)))],slots:=[(0,.box 26 [.own 4,.own 3]),(3,.arr false 176 Zx),(4,.arr false 9 .str)],nb:=5 } [(.exit 0,{ tmps:=[],slots:=[(0,.box 26 [.own 5,.own 6]),(5,.arr false 9 .str),(6,.arr false 176 Zx)],nb:=7 })] (fun j x=>Znf.l0 j x.1 x.2.1 x.2.2.1 x.2.2.2) k
def Znf.l0.ok (k:Nat):=(lA (Znf.cok k):Zo Yb _ (.loop (cO (cO (cR (cL (cB Tryz.f87)))))) (Znf.l0.s k))
theorem Znf.ok (k:Nat):Ze Yb 87 (Znf.con k):=fP (.two (.two .auto (.one (.sum (Znf.l0.s k)))) .auto) (Znf.cok k) Tryz.func87 (sC (Znf.l0.ok k) sN)
def Z3q (a1:Zz) (a2:Int):Option (Bool):=some (a1.1==a2)
def Z3q.con (k:Nat):Con:=Sig.con { ps:=[.val true Zx (ros Zx),.rptr (.int .i64)],rs:=[.val false [.v .bool]],ntmps:=8 } (fun x=>Z3q x.1 x.2)
theorem Z3q.ok (k:Nat):Ze Yb 179 (Z3q.con k):=fA (cX cN) Tryz.func179
def Zzd.l0:Nat→List Zz→Int→Int→Int→Option (Int ⊕ (Int×Int))
 | 0,_,_,_,_=>none
 | j+1,a1,a2,a3,a4=>bif decide (a3<a2) then Ya (at? a1 a3) fun v5=>Ya (Z3q v5 a4) fun v6=>bif v6 then some (.inr (a3,a4)) else Zzd.l0 j a1 a2 (Yc .i64 (a3+1)) a4 else some (.inl a4)
def Zzd (k:Nat) (a1:List Zz) (a2:Int):Option (Int×Int):=Ya (Zzd.l0 k a1 ((a1.length):Int) 0 a2) fun
  | .inl y3=>some ((-1),y3)
  | .inr y4=>some (y4.1,y4.2)
def Zzd.con (k:Nat):Con:=Sig.con { ps:=[.val false (.sl Zx) (ros (.sl Zx)),.fn 179 [(2,(.int .i64),(Zze (.int .i64)))]],rs:=[.val false [.v (.int .i64)]],ntmps:=19 } (fun x=>Zzd k x.1 x.2)
def Zzd.cok (k:Nat):=cX (cC (Z3q.ok k) cN)
def Zzd.l0.s (k:Nat):Summ:=lp 19 { tmps:=[(0,.one (.bor Zx)),(1,.fn 179 [.ptr 0 0]),(7,.one (.v (.int .i64))),(8,.one (.v (.int .i64)))],slots:=[(0,.box 2 [.v (.int .i64)])],nb:=1 } [(.exit 0,{ tmps:=[],slots:=[(0,.box 2 [.v (.int .i64)])],nb:=1 }),(.ret,{ tmps:=[(4,.one (.v (.int .i64)))],slots:=[(0,.box 2 [.v (.int .i64)])],nb:=1 })] (fun j x=>Zzd.l0 j x.1 x.2.1 x.2.2.1 x.2.2.2) k
def Zzd.l0.ok (k:Nat):=(lA (Zzd.cok k):Zo Yb _ (.loop (cO (cO (cR (cL (cR (cB Tryz.f178))))))) (Zzd.l0.s k))
theorem Zzd.ok (k:Nat):Ze Yb 178 (Zzd.con k):=fP (.two .auto (.two (.two .auto (.one (.sum (Zzd.l0.s k)))) .auto)) (Zzd.cok k) Tryz.func178 (sC (Zzd.l0.ok k) sN)
def Z9j (k:Nat) (a1:G26) (a2:Int):Option (Int):=Ya (Zzd k a1.2 a2) fun v3=>some v3.1
def Z9j.con (k:Nat):Con:=Sig.con { ps:=[.val true T26 (ros T26),.val false (.int .i64) (ros (.int .i64))],rs:=[.val false [.v (.int .i64)]],ntmps:=9 } (fun x=>Z9j k x.1 x.2)
theorem Z9j.ok (k:Nat):Ze Yb 145 (Z9j.con k):=fA (cXr true false (cC (Zzd.ok k) cN)) Tryz.func145
def Zpo (k:Nat) (a1:G26) (a2:Int) (a3:Str):Option (List Str×List Zz):=Ya (Z9j k a1 a2) fun v4=>bif decide (0≤v4) then let e5:=at? a1.2 v4;Ya (e5) fun v6=>Ya (e5) fun v7=>some (a1.1,Yg a1.2 (Yf v4) (v7.1,a3)) else Ya (Zmb 24 a1.2 [(a2,a3)]) fun v8=>some (a1.1,v8)
def Zpo.con (k:Nat):Con:=Sig.con { ps:=[.ref 26 T26 [.own 9,.own 176],.val false (.int .i64) (ros (.int .i64)),.val false .str (ros .str)],rs:=[],ntmps:=34 } (fun x=>Zpo k x.1 x.2.1 x.2.2)
theorem Zpo.ok (k:Nat):Ze Yb 88 (Zpo.con k):=fA (cX (cC (Z9j.ok k) cN)) Tryz.func88
def Zad.l0 (k:Nat):Nat→List Zyg→Int→Int→List Str→List Zz→Option ((List Str×List Zz))
 | 0,_,_,_,_,_=>none
 | j+1,a1,a2,a3,a4,a5=>bif decide (a3<a2) then Ya (at? a1 a3) fun v6=>let e7:=Yc .i64 (a3+1);bif v6.1 then Ya (Znf k (a4,a5)) fun v8=>Zad.l0 k j a1 a2 e7 v8.1 v8.2 else Ya (Zpo k (a4,a5) v6.2.1 v6.2.2) fun v9=>Zad.l0 k j a1 a2 e7 v9.1 v9.2 else some (a4,a5)
def Zad (k:Nat) (a1:G26) (a2:List Zyg):Option (List Str×List Zz):=Ya (Zyo a1) fun v3=>Ya (Zad.l0 k k a2 ((a2.length):Int) 0 v3.1 v3.2) fun y4=>some (y4.1,y4.2)
def Zad.con (k:Nat):Con:=Sig.con { ps:=[.val true T26 (ros T26),.val false (.sl Zte) (ros (.sl Zte))],rs:=[.val true [.own 9 .str,.own 176 Zx]],ntmps:=26 } (fun x=>Zad k x.1 x.2)
def Zad.cok (k:Nat):=cXr true false (cC (Zyo.ok k) (cC (Znf.ok k) (cC (Zpo.ok k) cN)))
def Zad.l0.s (k:Nat):Summ:=lp 26 { tmps:=[(5,.one (.ptr 3 0)),(10,.one (.bor Zte)),(11,.one (.v (.int .i64))),(12,.one (.v (.int .i64)))],slots:=[(3,.box 26 [.own 4,.own 5]),(4,.arr false 9 .str),(5,.arr false 176 Zx)],nb:=6 } [(.exit 0,{ tmps:=[],slots:=[(3,.box 26 [.own 6,.own 7]),(6,.arr false 9 .str),(7,.arr false 176 Zx)],nb:=8 })] (fun j x=>Zad.l0 k j x.1 x.2.1 x.2.2.1 x.2.2.2.1 x.2.2.2.2) k
def Zad.l0.ok (k:Nat):=(lA (Zad.cok k):Zo Yb _ (.loop (cO (cO (cR (cL (cR (cR (cB Tryz.f34)))))))) (Zad.l0.s k))
theorem Zad.ok (k:Nat):Ze Yb 34 (Zad.con k):=fP (.two .auto (.two .auto (.two (.two .auto (.one (.sum (Zad.l0.s k)))) .auto))) (Zad.cok k) Tryz.func34 (sC (Zad.l0.ok k) sN)
def Z0f (k:Nat) (a1:G26) (a2:Int):Option (Str):=Ya (Z9j k a1 a2) fun v3=>bif decide (0≤v3) then Ya (at? a1.2 v3) fun v4=>some v4.2 else Ya (at? a1.1 a2) fun v5=>some v5
def Z0f.con (k:Nat):Con:=Sig.con { ps:=[.val true T26 (ros T26),.val false (.int .i64) (ros (.int .i64))],rs:=[.val false [.v .str]],ntmps:=22 } (fun x=>Z0f k x.1 x.2)
theorem Z0f.ok (k:Nat):Ze Yb 96 (Z0f.con k):=fA (cXr true false (cC (Z9j.ok k) cN)) Tryz.func96
def Z9e.l0:Nat→Str→Int→Int→Int→Option ((Int×Int×Int))
 | 0,_,_,_,_=>none
 | j+1,a1,a2,a3,a4=>bif decide ((Yc .i64 (((a1.length):Int)-a4))≤a2) then some (0,0,4) else let e5:=Yc .i64 (a2+a4);Ya (at? a1 e5) fun v6=>bif (a4==9)&&(decide (1<(v6.toNat:Int))) then some (0,0,3) else let e7:=Yc .i64 (7*a4);Ya (Zrb e7) fun v8=>let e9:=intBits .or .u64 a3 (shl .u64 (Yc .u64 (intBits .and .u8 (v6.toNat:Int) 127)) e7);bif decide (127<(v6.toNat:Int)) then Z9e.l0 j a1 a2 e9 (Yc .i64 (a4+1)) else bif ((v6.toNat:Int)==0)&&(decide (0<a4)) then some (0,0,3) else Ya (Zrb 1) fun v10=>let e11:=Yc .i64 (e5+1);let e12:=Yc .i64 (shr .u64 e9 1);bif (intBits .and .u64 e9 1)==1 then some (intBits .xor .i64 (-1) e12,e11,0) else some (e12,e11,0)
def Z9e (k:Nat) (a1:Str) (a2:Int):Option (Int×Int×Int):=bif decide (a2<0) then some (0,0,1) else Ya (Z9e.l0 k a1 a2 0 0) fun y3=>some (y3.1,y3.2.1,y3.2.2)
def Z9e.con (k:Nat):Con:=Sig.con { ps:=[.val false .str (ros .str),.val false (.int .i64) (ros (.int .i64))],rs:=[.val false [.v (.int .i64)],.val false [.v (.int .i64)],.val false [.v (.int .i64)]],ntmps:=61 } (fun x=>Z9e k x.1 x.2)
def Z9e.cok (k:Nat):=cX cN
def Z9e.l0.s (k:Nat):Summ:=lp 61 { tmps:=[(0,.one (.v .str)),(1,.one (.v (.int .i64))),(7,.one (.v (.int .u64))),(8,.one (.v (.int .i64)))],slots:=[],nb:=0 } [(.ret,{ tmps:=[(4,.one (.v (.int .i64))),(5,.one (.v (.int .i64))),(6,.one (.v (.int .i64)))],slots:=[],nb:=0 })] (fun j x=>Z9e.l0 j x.1 x.2.1 x.2.2.1 x.2.2.2) k
def Z9e.l0.ok (k:Nat):=(lA (Z9e.cok k):Zo Yb _ (.loop (cO (cO (cR (cR (cR (cR (cB Tryz.f180)))))))) (Z9e.l0.s k))
theorem Z9e.ok (k:Nat):Ze Yb 180 (Z9e.con k):=fP (.two .auto (.two .auto (.two .auto (.two .auto (.one (.sum (Z9e.l0.s k))))))) (Z9e.cok k) Tryz.func180 (sC (Z9e.l0.ok k) sN)
def Zfc (k:Nat) (a1:Za0):Option (Int×Str×Int×Bool):=Ya (Z9e k a1.1 a1.2.1) fun v2=>bif v2.2.2 != 0 then some (0,a1.1,a1.2.1,true) else some (v2.1,a1.1,v2.2.1,a1.2.2)
def Zfc.con (k:Nat):Con:=Sig.con { ps:=[.ref 181 Zgq (Zze Zgq)],rs:=[.val false [.v (.int .i64)]],ntmps:=29 } (fun x=>Zfc k x)
theorem Zfc.ok (k:Nat):Ze Yb 147 (Zfc.con k):=fA (cX (cC (Z9e.ok k) cN)) Tryz.func147
def Zzo (k:Nat) (a1:Str) (a2:Int):Option (Str×Int×Int):=Ya (Z9e k a1 a2) fun v3=>bif v3.2.2 != 0 then some ([],0,v3.2.2) else Ya (Zjb v3.1 0 8000) fun v4=>bif !v4 then some ([],0,3) else bif decide ((Yc .i64 (((a1.length):Int)-v3.2.1))<v3.1) then some ([],0,4) else let e5:=Yc .i64 (v3.2.1+v3.1);Ya (Z9b a1 v3.2.1 e5) fun v6=>some (v6,e5,0)
def Zzo.con (k:Nat):Con:=Sig.con { ps:=[.val false .str (ros .str),.val false (.int .i64) (ros (.int .i64))],rs:=[.val false [.v .str],.val false [.v (.int .i64)],.val false [.v (.int .i64)]],ntmps:=41 } (fun x=>Zzo k x.1 x.2)
theorem Zzo.ok (k:Nat):Ze Yb 181 (Zzo.con k):=fA (cX (cC (Zjb.ok k) (cC (Z9e.ok k) cN))) Tryz.func181
def Zpg (k:Nat) (a1:Za0):Option (Str×Str×Int×Bool):=Ya (Zzo k a1.1 a1.2.1) fun v2=>bif v2.2.2 != 0 then some ([],a1.1,a1.2.1,true) else some (v2.1,a1.1,v2.2.1,a1.2.2)
def Zpg.con (k:Nat):Con:=Sig.con { ps:=[.ref 181 Zgq (Zze Zgq)],rs:=[.val false [.v .str]],ntmps:=29 } (fun x=>Zpg k x)
theorem Zpg.ok (k:Nat):Ze Yb 148 (Zpg.con k):=fA (cX (cC (Zzo.ok k) cN)) Tryz.func148
def Zdc.l0:Nat→Str→Int→Int→Int→Option (Int)
 | 0,_,_,_,_=>none
 | j+1,a1,a2,a3,a4=>bif decide (a4<8) then Ya (at? a1 a3) fun v5=>Ya (Zrb a4) fun v6=>Ya (Zrb 1) fun v7=>let e8:=Yc .i64 (a4+1);bif (intBits .and .u32 (intBits .xor .u32 a2 (shr .u32 (Yc .u32 (v5.toNat:Int)) a4)) 1)==1 then Zdc.l0 j a1 (intBits .xor .u32 (shr .u32 a2 1) 3988292384) a3 e8 else Zdc.l0 j a1 (shr .u32 a2 1) a3 e8 else some a2
def Zdc.l1 (k:Nat):Nat→Str→Int→Int→Int→Option (Int)
 | 0,_,_,_,_=>none
 | j+1,a1,a2,a3,a4=>bif decide (a4<a3) then Ya (Zdc.l0 k a1 a2 a4 0) fun y5=>Zdc.l1 k j a1 y5 a3 (Yc .i64 (a4+1)) else some a2
def Zdc (k:Nat) (a1:Int) (a2:Str):Option (Int):=Ya (Zdc.l1 k k a2 (intBits .xor .u32 (Yh .u32) a1) ((a2.length):Int) 0) fun y3=>some (intBits .xor .u32 (Yh .u32) y3)
def Zdc.con (k:Nat):Con:=Sig.con { ps:=[.val false (.int .u32) (ros (.int .u32)),.val false .str (ros .str)],rs:=[.val false [.v (.int .u32)]],ntmps:=38 } (fun x=>Zdc k x.1 x.2)
def Zdc.cok (k:Nat):=cX cN
def Zdc.l0.s (k:Nat):Summ:=lp 38 { tmps:=[(1,.one (.v .str)),(5,.one (.v (.int .u32))),(6,.one (.v (.int .i64))),(16,.one (.v (.int .i64)))],slots:=[],nb:=0 } [(.exit 2,{ tmps:=[(5,.one (.v (.int .u32)))],slots:=[],nb:=0 })] (fun j x=>Zdc.l0 j x.1 x.2.1 x.2.2.1 x.2.2.2) k
def Zdc.l0.ok (k:Nat):=(lA (Zdc.cok k):Zo Yb _ (.loop (cO (cO (cR (cR (cO (cL (cR (cR (cO (cO (cR (cL (cR (cR (cB Tryz.f186)))))))))))))))) (Zdc.l0.s k))
def Zdc.l1.s (k:Nat):Summ:=lp 38 { tmps:=[(1,.one (.v .str)),(5,.one (.v (.int .u32))),(12,.one (.v (.int .i64))),(13,.one (.v (.int .i64)))],slots:=[],nb:=0 } [(.exit 0,{ tmps:=[(5,.one (.v (.int .u32)))],slots:=[],nb:=0 })] (fun j x=>Zdc.l1 k j x.1 x.2.1 x.2.2.1 x.2.2.2) k
def Zdc.l1.ok (k:Nat):=(lP (.two .auto (.two .auto (.two (.one (.two .auto (.two .auto (.one (.sum (Zdc.l0.s k)))))) .auto))) (Zdc.cok k) (sC (Zdc.l0.ok k) sN):Zo Yb _ (.loop (cO (cO (cR (cL (cR (cR (cB Tryz.f186)))))))) (Zdc.l1.s k))
theorem Zdc.ok (k:Nat):Ze Yb 186 (Zdc.con k):=fP (.two .auto (.two .auto (.two (.two .auto (.one (.sum (Zdc.l1.s k)))) .auto))) (Zdc.cok k) Tryz.func186 (sC (Zdc.l1.ok k) sN)
def Z1i (k:Nat) (a1:Str):Option (Str):=Ya (Zdc k 0 a1) fun v2=>Ya (Zrb 8) fun v3=>Ya (Zrb 16) fun v4=>Ya (Zrb 24) fun v5=>Ya (Zge a1 (Znb [(Yc .u8 v2),(Yc .u8 (shr .u32 v2 8)),(Yc .u8 (shr .u32 v2 16)),(Yc .u8 (shr .u32 v2 24))])) fun v6=>some v6
def Z1i.con (k:Nat):Con:=Sig.con { ps:=[.val false .str (ros .str)],rs:=[.val false [.v .str]],ntmps:=21 } (fun x=>Z1i k x)
theorem Z1i.ok (k:Nat):Ze Yb 165 (Z1i.con k):=fA (cX (cC (Zdc.ok k) cN)) Tryz.func165
def Zck (k:Nat) (a1:Str):Option (Str×Int):=bif decide (((a1.length):Int)<4) then some ([],4) else Ya (Z9b a1 0 (Yc .i64 (((a1.length):Int)-4))) fun v2=>Ya (Z1i k v2) fun v3=>bif !(v3==a1) then some ([],5) else some (v2,0)
def Zck.con (k:Nat):Con:=Sig.con { ps:=[.val false .str (ros .str)],rs:=[.val false [.v .str],.val false [.v (.int .i64)]],ntmps:=18 } (fun x=>Zck k x)
theorem Zck.ok (k:Nat):Ze Yb 151 (Zck.con k):=fA (cX (cC (Z1i.ok k) cN)) Tryz.func151
def Z7l (k:Nat) (a1:Str):Option (Int×Str×Int):=Ya (Zck k a1) fun v2=>bif v2.2 != 0 then some (0,[],v2.2) else Ya (Zfc k (v2.1,(0,false))) fun v3=>Ya (Zpg k v3.2) fun v4=>bif v4.2.2.2||(v4.2.2.1 != ((v2.1.length):Int)) then some (0,[],3) else Ya (Zjb v3.1 1 1000000) fun v5=>bif (!v5)||(decide (80<((v4.1.length):Int))) then some (0,[],3) else some (v3.1,v4.1,0)
def Z7l.con (k:Nat):Con:=Sig.con { ps:=[.val false .str (ros .str)],rs:=[.val true [.v (.int .i64),.v .str,.v (.int .i64)]],ntmps:=51 } (fun x=>Z7l k x)
theorem Z7l.ok (k:Nat):Ze Yb 137 (Z7l.con k):=fA (cX (cC (Zjb.ok k) (cC (Zfc.ok k) (cC (Zpg.ok k) (cC (Zck.ok k) cN))))) Tryz.func137
def Z0c.l0 (k:Nat):Nat→List Str→List Zz→Int→Int→Int→Str→Int→Option ((Int×Int×Str×Int))
 | 0,_,_,_,_,_,_,_=>none
 | j+1,a1,a2,a3,a4,a5,a6,a7=>bif decide (a4<2) then Ya (Z0f k (a1,a2) a4) fun v8=>Ya (Z7l k v8) fun v9=>let e10:=Yc .i64 (a4+1);bif (v9.2.2==0)&&((decide (a3<0))||(decide (a5<v9.1))) then Z0c.l0 k j a1 a2 a4 e10 v9.1 v9.2.1 v9.2.2 else Z0c.l0 k j a1 a2 a3 e10 a5 a6 a7 else some (a3,a5,a6,a7)
def Z0c (k:Nat) (a1:G26):Option (Int×Str×Int×Int):=Ya (Z0c.l0 k k a1.1 a1.2 (-1) 0 0 [] 6) fun y2=>some (y2.2.1,y2.2.2.1,y2.2.2.2,y2.1)
def Z0c.con (k:Nat):Con:=Sig.con { ps:=[.val true T26 (ros T26)],rs:=[.val true [.v (.int .i64),.v .str,.v (.int .i64)],.val false [.v (.int .i64)]],ntmps:=35 } (fun x=>Z0c k x)
def Z0c.cok (k:Nat):=cXr true false (cC (Z0f.ok k) (cC (Z7l.ok k) cN))
def Z0c.l0.s (k:Nat):Summ:=lp 35 { tmps:=[(1,.eptr [.bor .str,.bor Zx]),(4,.one (.ptr 1 0)),(5,.one (.v (.int .i64))),(9,.one (.v (.int .i64)))],slots:=[(1,.box 113 [.v (.int .i64),.v .str,.v (.int .i64)])],nb:=2 } [(.exit 0,{ tmps:=[(5,.one (.v (.int .i64)))],slots:=[(1,.box 113 [.v (.int .i64),.v .str,.v (.int .i64)])],nb:=2 })] (fun j x=>Z0c.l0 k j x.1 x.2.1 x.2.2.1 x.2.2.2.1 x.2.2.2.2.1 x.2.2.2.2.2.1 x.2.2.2.2.2.2) k
def Z0c.l0.ok (k:Nat):=(lA (Z0c.cok k):Zo Yb _ (.loop (cO (cO (cR (cL (cR (cR (cB Tryz.f73)))))))) (Z0c.l0.s k))
theorem Z0c.ok (k:Nat):Ze Yb 73 (Z0c.con k):=fP (.two .auto (.two .auto (.two (.two .auto (.one (.sum (Z0c.l0.s k)))) .auto))) (Z0c.cok k) Tryz.func73 (sC (Z0c.l0.ok k) sN)
def Zec.j0 (a1:Int) (a2:Int):Option (Int):=bif decide (a1<0) then some (intBits .xor .u64 (Yh .u64) a2) else some a2
def Zec.l1:Nat→Int→List Int→Option ((Int×List Int))
 | 0,_,_=>none
 | j+1,a1,a2=>bif decide (127<a1) then Ya (Zmb 1 a2 [(intBits .or .u8 (Yc .u8 a1) 128)]) fun v3=>Ya (Zrb 7) fun v4=>Zec.l1 j (shr .u64 a1 7) v3 else some (a1,a2)
def Zec (k:Nat) (a1:Int):Option (Str):=Ya (Zrb 1) fun v2=>Ya (Zec.j0 a1 (shl .u64 (Yc .u64 a1) 1)) fun y3=>Ya (Zec.l1 k y3 []) fun y4=>Ya (Zmb 1 y4.2 [(Yc .u8 y4.1)]) fun v5=>some (Znb v5)
def Zec.con (k:Nat):Con:=Sig.con { ps:=[.val false (.int .i64) (ros (.int .i64))],rs:=[.val false [.v .str]],ntmps:=28 } (fun x=>Zec k x)
def Zec.cok (k:Nat):=cX cN
def Zec.j0.s (k:Nat):Summ:=lq 28 { tmps:=[(0,.one (.v (.int .i64))),(3,.one (.v (.int .u64)))],slots:=[],nb:=0 } [(.nrm,{ tmps:=[(3,.one (.v (.int .u64)))],slots:=[],nb:=0 })] (fun x=>Zec.j0 x.1 x.2)
def Zec.j0.ok (k:Nat):=(jA (Zec.cok k):Zo Yb _ (cL (cR (cR (cB Tryz.f166)))) (Zec.j0.s k))
def Zec.l1.s (k:Nat):Summ:=lp 28 { tmps:=[(3,.one (.v (.int .u64))),(4,.one (.own 0))],slots:=[(0,.arr false 5 (.int .u8))],nb:=1 } [(.exit 0,{ tmps:=[(3,.one (.v (.int .u64))),(4,.one (.own 1))],slots:=[(1,.arr false 5 (.int .u8))],nb:=2 })] (fun j x=>Zec.l1 j x.1 x.2) k
def Zec.l1.ok (k:Nat):=(lA (Zec.cok k):Zo Yb _ (.loop (cO (cO (cL (cR (cR (cR (cR (cB Tryz.f166))))))))) (Zec.l1.s k))
theorem Zec.ok (k:Nat):Ze Yb 166 (Zec.con k):=fP (.two .auto (.two .auto (.two (.sum (Zec.j0.s k)) (.two .auto (.two (.one (.sum (Zec.l1.s k))) .auto))))) (Zec.cok k) Tryz.func166 (sC (Zec.j0.ok k) (sC (Zec.l1.ok k) sN))
def Z0i (k:Nat) (a1:Str):Option (Str):=Ya (Zec k ((a1.length):Int)) fun v2=>Ya (Zge v2 a1) fun v3=>some v3
def Z0i.con (k:Nat):Con:=Sig.con { ps:=[.val false .str (ros .str)],rs:=[.val false [.v .str]],ntmps:=8 } (fun x=>Z0i k x)
theorem Z0i.ok (k:Nat):Ze Yb 118 (Z0i.con k):=fA (cX (cC (Zec.ok k) cN)) Tryz.func118
end Go.Proofs.Qz
