/- What the law FnMachine needs, part 1 of 16: the Lean functions of the Go functions that it reaches, with the proofs that the calls come to what they say, and plain facts about them. Conditions: those that each theorem states. Written by a session and by its programs (after the kit's printer). -/
import Derived.WalkKit
import Derived.ProofKit
import Derived.Below
import Derived.KernelRfl
open Nat renaming beq → Ya, blt → Yb, ble → Yc, lt_of_lt_of_le → Yd, eq_of_beq_eq_true → Yf, le_refl → Yg, le_trans → Yl, ne_of_beq_eq_false → Ym
open List renaming mem_cons_of_mem → Ye, mem_singleton → Yh, mem_cons → Yi, mem_cons_self → Yj, replicate → Yk
open BitVec renaming ofInt → Yn
open Bool renaming and_eq_true → Yo
namespace Go.Proofs.Qz
open Go
set_option linter.unusedVariables false
theorem Xa{p:Prop}[Decidable p](h:p):decide p=true:=decide_eq_true h
theorem Xb{p:Prop}[Decidable p](h:¬p):decide p=false:=decide_eq_false h
theorem Xc{c:Prop}{h:Decidable c}(q:c){α:Sort _}{t e:α}:ite c t e=t:=if_pos q
theorem Xd{c:Prop}{h:Decidable c}(q:¬c){α:Sort _}{t e:α}:ite c t e=e:=if_neg q
theorem Xe{α:Sort _}{a b:α}:cond true a b=a:=rfl
theorem Xf{α:Sort _}{a b:α}:cond false a b=b:=rfl
inductive Ty where
 | int (k:IntKind)
 | bool
 | str
 | sl (r:Ty)
 | pair (a b:Ty)
 | unit
abbrev Str:=List UInt8
@[reducible] def Ty.T:Ty→Type
 | .int _=>Int
 | .bool=>Bool
 | .str=>Str
 | .sl r=>List r.T
 | .pair a b=>a.T×b.T
 | .unit=>Unit
def Ty.sz:Ty→Nat
 | .pair a b=>a.sz+b.sz
 | .unit=>0
 | _=>1
def Ty.same:(a b:Ty)→Option (PLift (a=b))
 | .int k,.int k'=>if h:k=k' then some ⟨congrArg Ty.int h⟩ else none
 | .bool,.bool=>some ⟨rfl⟩
 | .str,.str=>some ⟨rfl⟩
 | .unit,.unit=>some ⟨rfl⟩
 | .sl r,.sl r'=>match Ty.same r r' with
  | some h=>some ⟨congrArg Ty.sl h.down⟩
  | none=>none
 | .pair a b,.pair a' b'=>match Ty.same a a',Ty.same b b' with
  | some h,some h'=>some ⟨by rw [h.down,h'.down]⟩
  | _,_=>none
 | _,_=>none
inductive Leaf where
 | int (k:IntKind) (n:Int)
 | bool (b:Bool)
 | kb (b:Bool)
 | str (s:Str)
 | nil
 | list (r:Ty) (l:List r.T)
 | bor (r:Ty) (l:List r.T)
 | rp (t:Ty) (x:t.T)
 | own (n:Nat)
 | ptr (b off:Nat)
 | unk
inductive Ent where
 | free
 | box (t:TypeId) (xs:List Leaf)
 | arr (z:Bool) (e:TypeId) (r:Ty) (l:List r.T)
 | frz (r:Ty) (l:List r.T)
inductive AV where
 | unk
 | undef
 | one (x:Leaf)
 | agg (xs:List Leaf)
 | tup (xs:List (Bool×List Leaf))
 | eptr (xs:List Leaf)
 | aptr (n:Nat) (i:Int) (sz off:Nat)
 | tl (n:Nat) (i:Int) (sz:Nat)
 | full (r:Ty) (l:List r.T)
 | dptr (n:Nat) (j:Int)
 | fn (f:FuncId) (caps:List Leaf)
 | gd (t:Nat) (w:Bool) (x:AV)
def Z2:(t:Ty)→t.T→List Leaf
 | .int k,n=>[.int k n]
 | .bool,b=>[.bool b]
 | .str,s=>[.str s]
 | .sl r,l=>[.list r l]
 | .pair a b,x=>Z2 a x.1++Z2 b x.2
 | .unit,_=>[]
def GL:Nat→Option (Σ r:Ty,List r.T):=fun _=>none
def flat:Ty→Bool
 | .sl _=>false
 | .pair a b=>flat a&&flat b
 | _=>true
def Z3i:Leaf→Leaf
 | .list r l=>.bor r l
 | x=>x
def Ztx (k:IntKind):List Leaf→Option (Int×List Leaf)
 | .int k' n::xs=>if k=k' then some (n,xs) else none
 | _=>none
def Zsx:List Leaf→Option (Bool×List Leaf)
 | .bool b::xs=>some (b,xs)
 | .kb b::xs=>some (b,xs)
 | _=>none
def Zvx:List Leaf→Option (Str×List Leaf)
 | .str s::xs=>some (s,xs)
 | _=>none
def Zux (r:Ty):List Leaf→Option (List r.T×List Leaf)
 | .list r' l::xs=>match Ty.same r' r with
  | some h=>some (h.down▸l,xs)
  | none=>none
 | .nil::xs=>some ([],xs)
 | _=>none
def unl:(t:Ty)→List Leaf→Option (t.T×List Leaf)
 | .int k,xs=>Ztx k xs
 | .bool,xs=>Zsx xs
 | .str,xs=>Zvx xs
 | .sl r,xs=>Zux r xs
 | .pair a b,xs=>match unl a xs with
  | some (x,ys)=>match unl b ys with
   | some (y,zs)=>some ((x,y),zs)
   | none=>none
  | none=>none
 | .unit,xs=>some ((),xs)
def Z9h (t:Ty) (xs:List Leaf):Option t.T:=
 match unl t xs with
 | some (x,[])=>some x
 | _=>none
def Zz {α:Type} (d:α):List α→Nat→α
 | [],_=>d
 | x::_,0=>x
 | _::xs,i+1=>Zz d xs i
def Z7c {α:Type} (d:α):List α→Nat→α→List α
 | [],0,y=>[y]
 | [],i+1,y=>d::Z7c d [] i y
 | _::xs,0,y=>y::xs
 | x::xs,i+1,y=>x::Z7c d xs i y
structure St where
 n:Nat
 tmps:List AV
 gs:List (Nat×Nat×Bool×AV)
 heap:List Ent
 nb:Nat
 lim:Nat
 res:List (Nat×Nat)
def Z3v:List (Nat×Nat×Bool×AV)→Nat→Option AV
 | [],_=>none
 | (j,t,w,x)::r,i=>bif Ya j i then some (.gd t w x) else Z3v r i
def Zbo:List (Nat×Nat×Bool×AV)→Nat→List (Nat×Nat×Bool×AV)
 | [],_=>[]
 | (j,t,w,x)::r,i=>bif Ya j i||Ya t i then Zbo r i else (j,t,w,x)::Zbo r i
def Z6v:List (Nat×Nat×Bool×AV)→Nat→List (Nat×Nat×Bool×AV)
 | [],_=>[]
 | (j,t,w,x)::r,i=>bif Ya j i then Z6v r i else (j,t,w,x)::Z6v r i
def St.tmp (st:St) (i:Nat):AV:=match Z3v st.gs i with
 | some v=>v
 | none=>Zz .unk st.tmps i
def St.ent (st:St) (i:Nat):Ent:=Zz .free st.heap i
def St.setT (st:St) (i:Nat) (v:AV):St:={ st with tmps:=Z7c .unk st.tmps i v,gs:=Zbo st.gs i }
def St.setG (st:St) (i t:Nat) (w:Bool) (v:AV):St:={ st with tmps:=Z7c .unk st.tmps i .unk,gs:=bif Ya i t then Zbo st.gs i else (i,t,w,v)::Zbo st.gs i }
def St.refT (st:St) (i:Nat) (v:AV):St:={ st with tmps:=Z7c .unk st.tmps i v,gs:=Z6v st.gs i }
def St.setB (st:St) (i:Nat) (e:Ent):St:={ st with heap:=Z7c .free st.heap i e }
def St.newB (st:St) (e:Ent):St:={ st with heap:=Z7c .free st.heap st.nb e,nb:=st.nb+1 }
inductive M (α:Type):Type 1 where
 | ret (a:α)
 | get (i:Nat) (k:AV→M α)
 | getb (i:Nat) (k:Ent→M α)
 | setb (i:Nat) (e:Ent) (k:M α)
 | new (e:Ent) (k:Nat→M α)
 | opt (β:Type) (o:Option β) (k:β→M α)
 | fail
def M.bind {α β:Type}:M α→(α→M β)→M β
 | .ret a,f=>f a
 | .get i k,f=>.get i fun v=>(k v).bind f
 | .getb i k,f=>.getb i fun v=>(k v).bind f
 | .setb i e k,f=>.setb i e (k.bind f)
 | .new e k,f=>.new e fun n=>(k n).bind f
 | .opt β o k,f=>.opt β o fun b=>(k b).bind f
 | .fail,_=>.fail
def M.run {α R:Type}:M α→St→(α→St→Option R)→Option R
 | .ret a,st,K=>K a st
 | .get i k,st,K=>(k (st.tmp i)).run st K
 | .getb i k,st,K=>(k (st.ent i)).run st K
 | .setb i e k,st,K=>k.run (st.setB i e) K
 | .new e k,st,K=>bif Yb st.nb st.lim then (k st.nb).run (st.newB e) K else none
 | .opt _ o k,st,K=>o.bind fun b=>(k b).run st K
 | .fail,_,_=>none
def M.still {α:Type}:M α→St→Option α
 | .ret a,_=>some a
 | .get i k,st=>(k (st.tmp i)).still st
 | .getb i k,st=>(k (st.ent i)).still st
 | _,_=>none
def M.mapL {α β:Type} (f:α→M β):List α→M (List β)
 | []=>.ret []
 | x::xs=>(f x).bind fun y=>(M.mapL f xs).bind fun ys=>.ret (y::ys)
structure TI where
 sz:Nat
 agg:Bool
 offs:List (Nat×TypeId)
 elem:TypeId
 kind:Nat
 ik:IntKind
 bytes:Nat
 zero:List Leaf
 ty:Ty
 eqs:Bool
inductive CL where
 | leaf (x:Leaf)
 | row (e:TypeId) (r:Ty) (l:List r.T)
 | nil
inductive CArg where
 | val (agg:Bool) (xs:List CL)
 | rptr (xs:List Leaf)
 | ref (t:TypeId) (xs:List CL)
 | fn (f:FuncId) (caps:List (TypeId×List CL))
 | mv (e:TypeId) (r:Ty) (l:List r.T)
 | vm (agg:Bool) (xs:List CL)
inductive LM where
 | v
 | ro
 | rw
inductive PM where
 | val (ms:List LM)
 | rptr
 | ref (ms:List LM)
 | fn (f:FuncId) (caps:List (List LM))
 | mv
 | vm (ms:List LM)
inductive RL where
 | leaf (x:Leaf)
 | own (e:TypeId) (r:Ty) (l:List r.T)
inductive RC where
 | val (agg:Bool) (xs:List RL)
 | box (t:TypeId) (xs:List RL)
inductive RF where
 | box (t:TypeId) (xs:List RL)
 | row (e:TypeId) (r:Ty) (l:List r.T)
structure RR where
 res:List RC
 refs:List RF
inductive CR:Type 1 where
 | fail
 | ret (r:RR)
 | opt (β:Type) (o:Option β) (f:β→RR)
def CR.toM:CR→M RR
 | .fail=>.fail
 | .ret r=>.ret r
 | .opt β o f=>.opt β o fun b=>.ret (f b)
def CR.val:CR→Option RR
 | .fail=>none
 | .ret r=>some r
 | .opt _ o f=>o.map f
inductive Tab (α:Type) where
 | nil
 | node (l:Tab α) (v:Option α) (r:Tab α)
def Tab.get {α:Type}:Tab α→Nat→Option α
 | .nil,_=>none
 | .node l v r,n=>bif Ya n 0 then v else bif Ya (n%2) 1 then l.get (n/2) else r.get (n/2-1)
structure Con where
 ms:List PM
 f:List CArg→CR
structure Ctx where
 ti:Tab TI
 con:FuncId→List Con
 rob:Bool:=false
 tl:Bool:=false
def Zu5:Value→AV
 | .int k n=>.one (.int k n)
 | .bool b=>.one (.kb b)
 | .string s=>.one (.str s.data.toList)
 | .slice none 0 0=>.one .nil
 | .func (.func f) ⟨[]⟩ ⟨[]⟩=>.fn f []
 | _=>.unk
def Zz7 (x:AV) (t:Nat) (w:Bool):AV→M AV
 | .gd t2 w2 _=>bif Ya t t2&&(w==w2) then .ret x else .fail
 | _=>.fail
def Zy7 (g:Option (Nat×Bool)) (x:AV) (t:Nat) (w:Bool):AV→M AV
 | .one (.kb b)=>bif b==w then .ret x else .fail
 | _=>match g with
  | none=>.fail
  | some (t',w')=>bif Ya t t'&&(w==w') then .ret x else .get t' (Zz7 x t w)
def unw (g:Option (Nat×Bool)):AV→M AV
 | .gd t w x=>.get t (Zy7 g x t w)
 | v=>.ret v
def opd (g:Option (Nat×Bool)):Operand→M AV
 | .tmp t=>.get t fun v=>unw g v
 | .const v=>.ret (Zu5 v)
 | .func f=>.ret (.fn f [])
 | .global _=>.fail
def Z0 (e:TypeId):Bool:=Yc 1000000 e
def Ztq:Leaf→M Leaf
 | .own n=>.getb n fun e=>match e with
  | .arr _ e r l=>bif Z0 e then .fail else .setb n (.frz r l) (.ret (.list r l))
  | .frz r l=>.ret (.list r l)
  | _=>.fail
 | .unk=>.fail
 | .ptr _ _=>.fail
 | .bor _ _=>.fail
 | .rp _ _=>.fail
 | x=>.ret x
def Z1r:Leaf→M (Σ r:Ty,List r.T)
 | .list r l=>.ret ⟨r,l⟩
 | .bor r l=>bif flat r then .ret ⟨r,l⟩ else .fail
 | .own n=>.getb n fun e=>match e with
  | .arr _ e r l=>bif Z0 e then .fail else .ret ⟨r,l⟩
  | .frz r l=>.ret ⟨r,l⟩
  | _=>.fail
 | _=>.fail
def cellsOf:AV→Option (List Leaf)
 | .one x=>some [x]
 | .agg xs=>some xs
 | _=>none
def mk1 (agg:Bool) (xs:List Leaf):AV:=
 bif agg then .agg xs else match xs with
  | [x]=>.one x
  | _=>.unk
def at? {α:Type} (l:List α) (i:Int):Option α:=if 0≤i then l[i.toNat]? else none
def Z2b {α:Type} (l:List α) (i j:Int):Option (List α):=if 0≤i∧i≤j∧j≤l.length then some ((l.take j.toNat).drop i.toNat) else none
def Z2c (a b:Str):Option Str:=if a.length+b.length≤9223372036854775807 then some (a++b) else none
def nz? (b:Int):Option Unit:=if b=0 then none else some ()
def Z7w (n bytes:Nat):Option Unit:=if n*bytes≤140737488355328 then some () else none
def Zw {α:Type} (bytes:Nat) (a b:List α):Option (List α):=if (a.length+b.length)*bytes≤140737488355328 then some (a++b) else none
def set? {α:Type} (l:List α) (i:Int) (x:α):Option (List α):=if 0≤i∧i<l.length then some (l.set i.toNat x) else none
def Z9g {α:Type} (bytes:Nat) (n c:Int) (x:α):Option (List α):=if 0≤n∧n≤c∧c.toNat*bytes≤140737488355328 then some (Yk n.toNat x) else none
def intBits (op:BinOp) (k:IntKind) (x y:Int):Int:=
 let a:=Yn k.bits x
 let b:=Yn k.bits y
 match op with
 | .and=>k.wrap ((a &&& b).toNat)
 | .or=>k.wrap ((a ||| b).toNat)
 | .xor=>k.wrap ((a ^^^ b).toNat)
 | _=>k.wrap ((a &&& ~~~b).toNat)
def shl (k:IntKind) (x n:Int):Int:=k.wrap (x*2^(min n.toNat k.bits))
def shr (k:IntKind) (x n:Int):Int:=x.fdiv (2^(min n.toNat k.bits))
def Zbc (n:Int):Option Unit:=if n<0 then none else some ()
def Zfb:Ty→List Ty
 | .pair a b=>Zfb a++Zfb b
 | .unit=>[]
 | t=>[t]
def Z7m:Ty→Leaf→Leaf→Option Bool
 | .int _,.int k a,.int k' b=>if k=k' then some (a==b) else none
 | .bool,.bool a,.bool b=>some (a==b)
 | .bool,.kb a,.bool b=>some (a==b)
 | .bool,.bool a,.kb b=>some (a==b)
 | .str,.str a,.str b=>some (a==b)
 | _,_,_=>none
def Zsi:List Ty→List Leaf→List Leaf→Option Bool
 | [t],[x],[y]=>Z7m t x y
 | t::ts,x::xs,y::ys=>match Z7m t x y,Zsi ts xs ys with
  | some a,some b=>some (a&&b)
  | _,_=>none
 | _,_,_=>none
def Zeg (b:Bool):M AV:=.ret (.one (.bool b))
def Zgf (k:IntKind) (n:Int):M AV:=.ret (.one (.int k n))
def Zo2 (op:BinOp) (k:IntKind) (a b:Int):M AV:=
 match op with
 | .add=>Zgf k (k.wrap (a+b))
 | .sub=>Zgf k (k.wrap (a-b))
 | .mul=>Zgf k (k.wrap (a*b))
 | .quo=>.opt Unit (nz? b) fun _=>Zgf k (k.wrap (a.tdiv b))
 | .rem=>.opt Unit (nz? b) fun _=>Zgf k (a.tmod b)
 | .eql=>Zeg (a==b)
 | .neq=>Zeg (a != b)
 | .lss=>Zeg (decide (a<b))
 | .leq=>Zeg (decide (a≤b))
 | .gtr=>Zeg (decide (b<a))
 | .geq=>Zeg (decide (b≤a))
 | .shl=>.opt Unit (Zbc b) fun _=>Zgf k (shl k a b)
 | .shr=>.opt Unit (Zbc b) fun _=>Zgf k (shr k a b)
 | op=>Zgf k (intBits op k a b)
def Zmq:Str→Str→Bool:=Op.bytesLess
def Z68 (op:BinOp) (a b:Str):M AV:=
 match op with
 | .add=>.opt Str (Z2c a b) fun c=>.ret (.one (.str c))
 | .eql=>Zeg (a==b)
 | .neq=>Zeg (!(a==b))
 | .lss=>Zeg (Zmq a b)
 | .leq=>Zeg (Zmq a b||(a==b))
 | .gtr=>Zeg (!(Zmq a b||(a==b)))
 | .geq=>Zeg (!(Zmq a b))
 | _=>.fail
def Zfy (C:Ctx) (t:TypeId) (op:BinOp) (x y:Bool):M AV:=match C.ti.get t with
 | some i=>bif Ya i.kind 5 then match op with
  | .eql=>Zeg (x==y)
  | .neq=>Zeg (!(x==y))
  | _=>.fail
  else .fail
 | none=>.fail
def binOp (C:Ctx) (t:TypeId) (op:BinOp):AV→AV→M AV
 | .one (.int k a),.one (.int k' b)=>match op with
  | .shl | .shr=>Zo2 op k a b
  | _=>if k=k' then Zo2 op k a b else .fail
 | .one (.str a),.one (.str b)=>Z68 op a b
 | .one (.bool x),.one (.bool y)=>Zfy C t op x y
 | .one (.bool x),.one (.kb y)=>Zfy C t op x y
 | .agg xs,.agg ys=>match C.ti.get t with
  | some i=>bif i.eqs then match op,Zsi (Zfb i.ty) xs ys with
   | .eql,some b=>Zeg b
   | .neq,some b=>Zeg (!b)
   | _,_=>.fail
   else .fail
  | none=>.fail
 | _,_=>.fail
def unOp (op:UnOp):AV→M AV
 | .one (.int k a)=>match op with
  | .neg=>Zgf k (k.wrap (0-a))
  | .xor=>Zgf k (intBits .xor k (if k.signed then -1 else k.max) a)
  | _=>.fail
 | .one (.bool b)=>match op with
  | .not=>Zeg (!b)
  | _=>.fail
 | .one (.kb b)=>match op with
  | .not=>.ret (.one (.kb (!b)))
  | _=>.fail
 | _=>.fail
def Zgb (s:Str):List Int:=s.map fun b=>(b.toNat:Int)
def Ztb (l:List Int):Str:=l.map fun n=>UInt8.ofNat n.toNat
section
variable (C:Ctx)
def Zfe {α:Type} (t:TypeId) (f:TI→M α):M α:=match C.ti.get t with
 | some i=>f i
 | none=>.fail
def Z49 (y:Leaf):M AV:=match y with
 | .nil=>.ret (.one (.str []))
 | y=>(Z1r y).bind fun c=>match c with
  | ⟨.int .u8,l⟩=>.ret (.one (.str (Ztb l)))
  | _=>.fail
def Zbw (t:TypeId) (f:M AV):M AV:=Zfe C t fun e=>bif Ya e.kind 1 then match e.ik with
 | .u8=>f
 | _=>.fail
 else .fail
def Z39 (s d:TI) (x:AV):M AV:=match x with
 | .one (.int _ n)=>bif Ya d.kind 1 then Zgf d.ik (d.ik.wrap n) else .fail
 | .one (.str t)=>bif Ya d.kind 2 then .ret (.one (.str t)) else bif Ya s.kind 2&&Ya d.kind 3 then
   Zbw C d.elem (.opt Unit (Z7w t.length 1) fun _=>.new (.arr true d.elem (.int .u8) (Zgb t)) fun n=>.ret (.one (.own n))) else .fail
 | .one y=>bif Ya s.kind 3&&Ya d.kind 2 then Zbw C s.elem (Z49 y) else .fail
 | _=>.fail
def convert (src dst:TypeId) (x:AV):M AV:=Zfe C src fun s=>Zfe C dst fun d=>Z39 C s d x
def Z2i:AV→M Int
 | .one (.int _ n)=>.ret n
 | _=>.fail
def Zvi (t:TypeId) (f:TI→TI→M AV):M AV:=Zfe C t fun i=>bif Ya i.kind 3 then Zfe C i.elem fun e=>f i e else .fail
def indexAddr (t:TypeId) (x i:AV):M AV:=
 (Z2i i).bind fun j=>Zvi C t fun _ ei=>match x with
 | .one (.list r l)=>bif Ya r.sz ei.sz then .opt r.T (at? l j) fun v=>.ret (.eptr (Z2 r v)) else .fail
 | .one (.bor r l)=>bif Ya r.sz ei.sz then .opt r.T (at? l j) fun v=>.ret (.eptr ((Z2 r v).map Z3i)) else .fail
 | .one (.own n)=>.getb n fun e=>match e with
  | .arr _ e r l=>bif !(Z0 e)&&Ya r.sz ei.sz then .opt r.T (at? l j) fun _=>.ret (.aptr n j r.sz 0) else .fail
  | .frz r l=>bif Ya r.sz ei.sz then .opt r.T (at? l j) fun v=>.ret (.eptr (Z2 r v)) else .fail
  | _=>.fail
 | _=>.fail
def index (t:TypeId) (x i:AV):M AV:=
 (Z2i i).bind fun j=>Zfe C t fun ti=>bif Ya ti.kind 2 then match x with
 | .one (.str s)=>.opt UInt8 (at? s j) fun b=>Zgf .u8 (b.toNat:Int)
 | _=>.fail
 else .fail
def Z5y (t:TypeId) (f:Nat) (k:Nat→TypeId→M AV):M AV:=
 Zfe C t fun i=>bif Ya i.kind 4 then match i.offs[f]? with
 | some (o,ft)=>k o ft
 | none=>.fail
 else .fail
def fieldAddr (t:TypeId) (x:AV) (f:Nat):M AV:=
 Z5y C t f fun o _=>match x with
 | .one (.ptr b off)=>.getb b fun e=>match e with
  | .box _ _=>.ret (.one (.ptr b (off+o)))
  | _=>.fail
 | .eptr xs=>.ret (.eptr (xs.drop o))
 | .aptr n i z off=>.getb n fun e=>match e with
  | .arr _ _ _ _=>.ret (.aptr n i z (off+o))
  | _=>.fail
 | _=>.fail
def part (t:TypeId) (xs:List Leaf):M AV:=
 Zfe C t fun i=>bif i.agg then (bif Yc i.sz xs.length then .ret (.agg (xs.take i.sz)) else .fail) else match xs with
  | x::_=>.ret (.one x)
  | []=>.fail
def field (t:TypeId) (x:AV) (f:Nat):M AV:=
 Z5y C t f fun o ft=>match x with
 | .agg xs=>part C ft (xs.drop o)
 | _=>.fail
def load (t:TypeId) (p:AV):M AV:=match p with
 | .one (.ptr b off)=>.getb b fun e=>match e with
  | .box _ xs=>part C t (xs.drop off)
  | _=>.fail
 | .eptr xs=>part C t xs
 | .aptr n i z off=>.getb n fun e=>match e with
  | .arr _ _ r l=>bif Ya z r.sz then .opt r.T (at? l i) fun v=>part C t ((Z2 r v).drop off) else .fail
  | _=>.fail
 | _=>.fail
def Zrq (xs:List Leaf) (off:Nat) (ys:List Leaf):Option (List Leaf):=bif Yc (off+ys.length) xs.length then some (xs.take off++ys++xs.drop (off+ys.length)) else none
def Zo1 (b off:Nat) (ys:List Leaf):Ent→M AV
 | .box bt xs=>match Zrq xs off ys with
  | some zs=>.setb b (.box bt zs) (.ret .undef)
  | none=>.fail
 | _=>.fail
def Zn1 (n:Nat) (i:Int) (z off:Nat) (ys:List Leaf):Ent→M AV
 | .arr fz et r l=>bif Ya z r.sz then .opt r.T (at? l i) fun v=>match Zrq (Z2 r v) off ys with
  | some zs=>match Z9h r zs with
   | some y=>.setb n (.arr fz et r (l.set i.toNat y)) (.ret .undef)
   | none=>.fail
  | none=>.fail
  else .fail
 | _=>.fail
def store (t:TypeId) (p v:AV):M AV:=
 Zfe C t fun ti=>match cellsOf v with
 | none=>.fail
 | some ys=>bif Ya ys.length ti.sz then match p with
  | .one (.ptr b off)=>.getb b (Zo1 b off ys)
  | .aptr n i z off=>(M.mapL Ztq ys).bind fun ys=>.getb n (Zn1 n i z off ys)
  | _=>.fail
  else .fail
def Zbt (ti:TI) (xs:List Leaf):List (Nat×List Leaf)→Option (List Leaf)
 | []=>some xs
 | (f,ys)::rest=>match ti.offs[f]? with
  | some (o,ft)=>match C.ti.get ft with
   | some fi=>bif Ya ys.length fi.sz then match Zrq xs o ys with
    | some zs=>Zbt ti zs rest
    | none=>none
    else none
   | none=>none
  | none=>none
def Zro (g:Option (Nat×Bool)) (ps:List (Nat×Operand)):M (List (Nat×List Leaf)):=
 M.mapL (fun p=>(opd g p.2).bind fun v=>match cellsOf v with
  | some xs=>.ret (p.1,xs)
  | none=>.fail) ps
def Zou (r:Ty):List (Nat×List Leaf)→Nat→Option (List r.T)
 | [],_=>some []
 | (f,ys)::ps,i=>bif Ya f i then match Z9h r ys,Zou r ps (i+1) with
  | some x,some l=>some (x::l)
  | _,_=>none
  else none
def Zh0 (qs:List (Nat×List Leaf)):M (List (Nat×List Leaf)):=M.mapL (fun p=>(M.mapL Ztq p.2).bind fun ys=>.ret (p.1,ys)) qs
def Zcn (o:Option AV) (d:Int):M Int:=match o with
 | none=>.ret d
 | some v=>Z2i v
def Zix (lo hi:Option AV):Leaf→M AV
 | .list r l=>(Zcn lo 0).bind fun i=>(Zcn hi l.length).bind fun j=>.opt (List r.T) (Z2b l i j) fun t=>.ret (.one (.list r t))
 | .bor r l=>(Zcn lo 0).bind fun i=>(Zcn hi l.length).bind fun j=>.opt (List r.T) (Z2b l i j) fun t=>.ret (.one (.bor r t))
 | .nil=>(Zcn lo 0).bind fun i=>(Zcn hi 0).bind fun j=>bif decide (i=0)&&decide (j=0) then .ret (.one .nil) else .fail
 | _=>.fail
def Ze7 (t:TypeId) (x:AV) (lo hi:Option AV):M AV:=Zfe C t fun ti=>match ti.kind,x with
 | 2,.one (.str s)=>(Zcn lo 0).bind fun i=>(Zcn hi s.length).bind fun j=>.opt Str (Z2b s i j) fun t=>.ret (.one (.str t))
 | 3,.one x=>Zfe C ti.elem fun ei=>match x with
  | .bor r l=>bif Ya r.sz ei.sz then Zix lo hi (.bor r l) else .fail
  | x=>(Ztq x).bind fun y=>match y with
   | .list r l=>bif Ya r.sz ei.sz then Zix lo hi (.list r l) else .fail
   | y=>Zix lo hi y
 | _,_=>.fail
def Zc2 (ti ei:TI) (ys:List ei.ty.T):M AV:=.opt (List ei.ty.T) (Zw ei.bytes [] ys) fun l=>.new (.arr false ti.elem ei.ty l) fun n=>.ret (.one (.own n))
def Zgv (ti ei:TI) (ys:List ei.ty.T) (m:Nat):Ent→M AV
 | .arr false et r l=>match Ty.same r ei.ty with
  | none=>.fail
  | some h'=>bif Ya et ti.elem then
    .opt (List ei.ty.T) (Zw ei.bytes (h'.down▸l) ys) fun l=>.setb m .free (.new (.arr false ti.elem ei.ty l) fun n=>.ret (.one (.own n)))
   else .fail
 | _=>.fail
def Zhv (ti ei:TI) (s:AV) (c:Σ r:Ty,List r.T):M AV:=
 match Ty.same c.1 ei.ty with
 | none=>.fail
 | some h=>match s with
  | .one .nil=>Zc2 ti ei (h.down▸c.2)
  | .one (.own m)=>.getb m (Zgv ti ei (h.down▸c.2) m)
  | _=>.fail
def Zb2 (ti ei:TI) (ys:List ei.ty.T) (m:Nat):Ent→M AV
 | .arr true et r l=>match Ty.same r ei.ty with
  | none=>.fail
  | some h'=>bif Ya et ti.elem then
    .opt (List ei.ty.T) (Zw ei.bytes (h'.down▸l) ys) fun l=>.setb m .free (.new (.arr true ti.elem ei.ty l) fun n=>.ret (.one (.own n)))
   else .fail
 | e=>Zgv ti ei ys m e
def Z0m (ti ei:TI) (s:AV) (c:Σ r:Ty,List r.T):M AV:=
 match Ty.same c.1 ei.ty with
 | none=>.fail
 | some h=>match s with
  | .one .nil=>Zc2 ti ei (h.down▸c.2)
  | .one (.own m)=>.getb m (Zb2 ti ei (h.down▸c.2) m)
  | _=>.fail
def append (t:TypeId) (s x:AV):M AV:=
 Zvi C t fun ti ei=>bif Ya ei.ty.sz ei.sz&&Yb 0 ei.sz then match x with
  | .one .nil=>Z0m ti ei s ⟨ei.ty,[]⟩
  | .one y=>(Z1r y).bind fun c=>Z0m ti ei s c
  | _=>.fail
 else .fail
def Zm4 (a b:Int):Int:=if b > a then b else a
def Zn4 (a b:Int):Int:=if b<a then b else a
def Zyz (mx:Bool):AV→AV→M AV
 | .one (.int k a),.one (.int k' b)=>if k=k' then Zgf k (bif mx then Zm4 a b else Zn4 a b) else .fail
 | _,_=>.fail
def Zay (c:Call):Bool:=match c.argTypes.toList with
 | [a,b]=>Ya a b
 | _=>false
def Z6f (k:Int) (l:List Int):Bool:=l.any fun x=>k==x
def Z6d (k:Int) (l:List Int):List Int:=bif Z6f k l then l else l++[k]
def Z6t (t:TypeId) (f:M AV):M AV:=Zfe C t fun i=>bif Ya i.kind 6 then f else .fail
def Z54 (k:Int):Ent→M AV
 | .arr _ e (.int .i64) l=>bif Z0 e then Zeg (Z6f k l) else .fail
 | _=>.fail
def Z64 (t:TypeId) (x i:AV):M AV:=Z6t C t (match x,i with
 | .one (.own n),.one (.int .i64 k)=>.getb n (Z54 k)
 | _,_=>.fail)
def Z07 (n:Nat) (k:Int):Ent→M AV
 | .arr z e (.int .i64) l=>bif Z0 e then .setb n (.arr z e (.int .i64) (Z6d k l)) (.ret .undef) else .fail
 | _=>.fail
def Z17 (t:TypeId) (m i x:AV):M AV:=Z6t C t (match m,i,x with
 | .one (.own n),.one (.int .i64 k),.one (.kb true)=>.getb n (Z07 n k)
 | _,_,_=>.fail)
def Za5:Ent→M AV
 | .arr _ e (.int .i64) l=>bif Z0 e then Zgf .i64 (l.length:Int) else .fail
 | _=>.fail
def lenOf (t:TypeId) (x:AV):M AV:=Zfe C t fun ti=>match ti.kind,x with
 | 6,.one (.own n)=>.getb n Za5
 | 2,.one (.str s)=>Zgf .i64 (s.length:Int)
 | 3,.one .nil=>Zgf .i64 0
 | 3,.one (.bor _ l)=>Zgf .i64 (l.length:Int)
 | 3,.one y=>(Z1r y).bind fun c=>Zgf .i64 (c.2.length:Int)
 | _,_=>.fail
def Zby (c:Call):Bool:=match c.argTypes.toList with
 | [_,u]=>match C.ti.get u with
  | some i=>Ya i.kind 2
  | none=>false
 | _=>false
def Zkp (ei:TI):Bool:=match ei.zero with
 | [.int .u8 n]=>decide (n=0) && !ei.agg&&Ya ei.sz 1&&Ya ei.bytes 1
 | _=>false
def Z9x (t:TypeId) (s x:AV):M AV:=
 Zvi C t fun ti ei=>bif Ya ei.ty.sz ei.sz&&Zkp ei then match x with
  | .one (.str y)=>Z0m ti ei s ⟨.int .u8,Zgb y⟩
  | _=>.fail
 else .fail
inductive RS where
 | box (n:Nat)
 | row (n:Nat)
 | no
structure AI where
 sl:List RS
 ro:List Nat
 mv:List Nat
def AI.none:AI:=⟨[],[],[]⟩
def AI.app (a b:AI):AI:=⟨a.sl++b.sl,a.ro++b.ro,a.mv++b.mv⟩
def Zn0 (x:Leaf):M (CL×AI):=match x with
 | .own n=>.getb n fun e=>match e with
  | .arr _ e r l=>bif Z0 e then .fail else .ret (.leaf (.bor r l),⟨[],[n],[]⟩)
  | .frz r l=>.ret (.leaf (.list r l),AI.none)
  | _=>.fail
 | .unk=>.fail
 | .ptr _ _=>.fail
 | .rp _ _=>.fail
 | x=>.ret (.leaf x,AI.none)
def Zv1 (x:Leaf):M (CL×AI):=(Ztq x).bind fun y=>.ret (.leaf y,AI.none)
def Zgw:LM→Leaf→M (CL×AI)
 | .v,x=>Zv1 x
 | .ro,x=>Zn0 x
 | .rw,.own n=>.getb n fun e=>match e with
  | .arr false t r l=>.ret (.row t r l,⟨[.row n],[],[]⟩)
  | _=>.fail
 | .rw,.nil=>.ret (.nil,⟨[.no],[],[]⟩)
 | .rw,_=>.fail
def Zgs:LM→Leaf→M (CL×AI)
 | .v,x=>Zv1 x
 | .rw,.own n=>.getb n fun e=>match e with
  | .arr false t r l=>.setb n .free (.ret (.row t r l,⟨[],[],[n]⟩))
  | _=>.fail
 | .rw,.nil=>.ret (.nil,AI.none)
 | _,_=>.fail
def Z6l (f:LM→Leaf→M (CL×AI)):List LM→List Leaf→M (List CL×AI)
 | [],[]=>.ret ([],AI.none)
 | m::ms,x::xs=>(f m x).bind fun a=>(Z6l f ms xs).bind fun b=>.ret (a.1::b.1,a.2.app b.2)
 | _,_=>.fail
def Z6w (x:Leaf):M (Leaf×List Nat):=(Zn0 x).bind fun a=>match a.1 with
 | .leaf (.list r l)=>.ret (.bor r l,a.2.ro)
 | .leaf y=>.ret (y,a.2.ro)
 | _=>.fail
def roT:TypeId:=4000000
def Zls (ms:List LM) (b:Nat):Ent→M ((TypeId×List CL)×AI)
 | .box t xs=>bif Ya t roT then .fail else (Z6l Zgs ms xs).bind fun a=>.ret ((t,a.1),AI.app ⟨[.box b],[],[]⟩ a.2)
 | _=>.fail
def isRo:LM→Bool
 | .ro=>true
 | _=>false
def Zso:List LM→Bool
 | []=>false
 | m::ms=>isRo m&&ms.all isRo
def Z8w (xs:List Leaf):M ((TypeId×List CL)×AI):=(M.mapL Z6w xs).bind fun ys=>.ret ((roT,ys.map fun y=>.leaf y.1),⟨[],ys.flatMap (·.2),[]⟩)
def Zny (b:Nat):Ent→M ((TypeId×List CL)×AI)
 | .box _ xs=>(Z8w xs).bind fun a=>.ret (a.1,a.2.app ⟨[],[b],[]⟩)
 | _=>.fail
def Z02 (ms:List LM) (x:Leaf):M ((TypeId×List CL)×AI):=match x with
 | .ptr b 0=>.getb b fun e=>bif Zso ms then Zny b e else Zls ms b e
 | .rp t x=>bif Zso ms then Z8w ((Z2 t x).map Z3i) else .fail
 | _=>.fail
def Zoy:List (List LM)→List Leaf→M (List (TypeId×List CL)×AI)
 | [],[]=>.ret ([],AI.none)
 | ms::mss,x::xs=>(Z02 ms x).bind fun a=>(Zoy mss xs).bind fun c=>.ret (a.1::c.1,a.2.app c.2)
 | _,_=>.fail
def Zpu (xs:List Leaf):M (CArg×AI):=(M.mapL Z6w xs).bind fun ys=>.ret (.rptr (ys.map (·.1)),⟨[],ys.flatMap (·.2),[]⟩)
def Ze2:PM→AV→M (CArg×AI)
 | .val ms,.one x=>(Z6l Zgw ms [x]).bind fun a=>.ret (.val false a.1,a.2)
 | .val ms,.agg xs=>(Z6l Zgw ms xs).bind fun a=>.ret (.val true a.1,a.2)
 | .rptr,.one (.ptr b off)=>.getb b fun e=>match e with
  | .box _ xs=>(Zpu (xs.drop off)).bind fun a=>.ret (a.1,a.2.app ⟨[],[b],[]⟩)
  | _=>.fail
 | .rptr,.eptr xs=>Zpu xs
 | .rptr,.one (.rp t x)=>Zpu ((Z2 t x).map Z3i)
 | .ref ms,.one (.ptr b 0)=>.getb b fun e=>(Zls ms b e).bind fun a=>.ret (.ref a.1.1 a.1.2,a.2)
 | .fn _ mss,.fn f xs=>(Zoy mss xs).bind fun a=>.ret (.fn f a.1,a.2)
 | .mv,.one (.own n)=>.getb n fun e=>match e with
  | .arr false t r l=>.setb n .free (.ret (.mv t r l,⟨[],[],[n]⟩))
  | _=>.fail
 | .vm ms,.one x=>(Z6l Zgs ms [x]).bind fun a=>.ret (.vm false a.1,a.2)
 | .vm ms,.agg xs=>(Z6l Zgs ms xs).bind fun a=>.ret (.vm true a.1,a.2)
 | _,_=>.fail
def Zcy:List PM→List AV→M (List CArg×AI)
 | [],[]=>.ret ([],AI.none)
 | m::ms,v::vs=>(Ze2 m v).bind fun a=>(Zcy ms vs).bind fun b=>.ret (a.1::b.1,a.2.app b.2)
 | _,_=>.fail
def fitL:LM→Leaf→Bool
 | .rw,.own _=>true
 | .rw,.nil=>true
 | .rw,_=>false
 | .v,.bor _ _=>false
 | _,.unk=>false
 | _,.ptr _ _=>false
 | _,.rp _ _=>false
 | _,_=>true
def Zqt:List LM→List Leaf→Bool
 | [],[]=>true
 | m::ms,x::xs=>fitL m x&&Zqt ms xs
 | _,_=>false
def Z5r (ms:List LM):Ent→M Bool
 | .box _ xs=>.ret (Zqt ms xs)
 | _=>.ret false
def Z03 (ms:List LM) (x:Leaf):M Bool:=match x with
 | .ptr b 0=>.getb b fun e=>bif Zso ms then Z5r (ms.map fun _=>.ro) e else Z5r ms e
 | .rp _ _=>.ret (Zso ms)
 | _=>.ret false
def Z9y:List (List LM)→List Leaf→M Bool
 | [],[]=>.ret true
 | ms::mss,x::xs=>(Z03 ms x).bind fun a=>(Z9y mss xs).bind fun c=>.ret (a&&c)
 | _,_=>.ret false
def Zy3:PM→AV→M Bool
 | .val _,.one (.ptr _ _)=>.ret false
 | .val _,.one (.rp _ _)=>.ret false
 | .val ms,.one x=>.ret (Zqt ms [x])
 | .val ms,.agg xs=>.ret (Zqt ms xs)
 | .rptr,.one (.ptr _ _)=>.ret true
 | .rptr,.one (.rp _ _)=>.ret true
 | .rptr,.eptr _=>.ret true
 | .ref ms,.one (.ptr b 0)=>.getb b (Z5r ms)
 | .fn f mss,.fn f' xs=>bif Ya f f' then Z9y mss xs else .ret false
 | .mv,.one (.own _)=>.ret true
 | .vm _,.one (.ptr _ _)=>.ret false
 | .vm _,.one (.rp _ _)=>.ret false
 | .vm ms,.one x=>.ret (Zqt ms [x])
 | .vm ms,.agg xs=>.ret (Zqt ms xs)
 | _,_=>.ret false
def Z8y:List PM→List AV→M Bool
 | [],[]=>.ret true
 | m::ms,v::vs=>(Zy3 m v).bind fun a=>(Z8y ms vs).bind fun b=>.ret (a&&b)
 | _,_=>.ret false
def Z8t:RL→M Leaf
 | .leaf x=>.ret x
 | .own e r l=>.new (.arr false e r l) fun n=>.ret (.own n)
def Z9l:List Nat→Bool
 | []=>true
 | n::ns=>!(ns.any (Ya n))&&Z9l ns
def Zit (xs ys:List Nat):Bool:=xs.all fun x=>!(ys.any (Ya x))
def RS.ids:List RS→List Nat
 | []=>[]
 | .box n::rs=>n::RS.ids rs
 | .row n::rs=>n::RS.ids rs
 | .no::rs=>RS.ids rs
def Ziw:List RS→M Unit
 | []=>.ret ()
 | .row n::rs=>.getb n fun e=>match e with
  | .arr _ _ _ _=>Ziw rs
  | _=>.fail
 | _::rs=>Ziw rs
def AI.ok (a:AI):Bool:=Z9l (RS.ids a.sl++a.mv)&&Zit (RS.ids a.sl++a.mv) a.ro
def Zdm:List RS→List RF→M Unit
 | [],[]=>.ret ()
 | .box b::bs,.box t xs::rs=>(M.mapL Z8t xs).bind fun ys=>.setb b (.box t ys) (Zdm bs rs)
 | .row n::bs,.row e r l::rs=>.setb n (.arr false e r l) (Zdm bs rs)
 | .no::bs,.row _ _ _::rs=>Zdm bs rs
 | _,_=>.fail
def Zmeb:List (Bool×List Leaf)→AV
 | [(a,xs)]=>mk1 a xs
 | cs=>.tup cs
def Z4w:RC→M (Bool×List Leaf)
 | .val a xs=>(M.mapL Z8t xs).bind fun ys=>.ret (a,ys)
 | .box t xs=>(M.mapL Z8t xs).bind fun ys=>.new (.box t ys) fun n=>.ret (false,[.ptr n 0])
def Z5w (rs:List RC):M AV:=(M.mapL Z4w rs).bind fun cs=>.ret (Zmeb cs)
def Zy2 (c:Con) (vs:List AV):M AV:=(Zcy c.ms vs).bind fun a=>(Ziw a.2.sl).bind fun _=>bif a.2.ok then (c.f a.1).toM.bind fun rr=>(Zdm a.2.sl rr.refs).bind fun _=>Z5w rr.res else .fail
def Zmy:List Con→List AV→M AV
 | [],_=>.fail
 | c::cs,vs=>(Z8y c.ms vs).bind fun b=>bif b then Zy2 c vs else Zmy cs vs
def Zk9 (f:FuncId) (vs:List AV):M AV:=Zmy (C.con f) vs
def Zz2 (g:Option (Nat×Bool)) (asx:List Operand):AV→M AV
 | .fn k caps=>(M.mapL (opd g) asx).bind fun vs=>Zk9 C k (vs++caps.map .one)
 | _=>.fail
def Z55 (tc:Nat) (cb:Bool):AV→M AV
 | .gd t true (.one (.bool x))=>bif Ya t tc then Zeg (cb&&x) else .fail
 | .one (.bool x)=>Zeg (cb&&x)
 | _=>.fail
def Z65 (tc:Nat) (cb:Bool):AV→M AV
 | .gd t false (.one (.bool x))=>bif Ya t tc then Zeg (cb||x) else .fail
 | .one (.bool x)=>Zeg (cb||x)
 | _=>.fail
def Zc0 (g:Option (Nat×Bool)) (tc:Nat) (a b:Operand):AV→M AV
 | .one (.kb true)=>opd g a
 | .one (.kb false)=>opd g b
 | .one (.bool cb)=>match a,b with
  | .tmp ta,.const (.bool false)=>.get ta (Z55 tc cb)
  | .const (.bool true),.tmp tb=>.get tb (Z65 tc cb)
  | _,_=>.fail
 | _=>.fail
def pick (g:Option (Nat×Bool)) (c a b:Operand):M AV:=
 match c with
 | .tmp tc=>.get tc fun v0=>(unw g v0).bind (Zc0 g tc a b)
 | _=>.fail
def Zj6:Leaf→Bool
 | .own _=>false
 | .ptr _ _=>false
 | .rp _ _=>false
 | .unk=>false
 | _=>true
def Zq4:Leaf→Bool
 | .bor _ _=>true
 | _=>false
def Zr2 (rob:Bool) (e:TypeId) (v:AV):M AV:=match cellsOf v with
 | some xs=>bif rob&&(xs.any Zq4&&xs.all Zj6) then .ret (.eptr xs) else .new (.box e xs) fun n=>.ret (.one (.ptr n 0))
 | none=>.fail
def Zky (ti:TI) (qs:List (Nat×List Leaf)):M AV:=bif Ya ti.kind 4 then match Zbt C ti ti.zero qs with
 | some xs=>.ret (.agg xs)
 | none=>.fail
 else .fail
def Zv2 (ti ei:TI) (n:Nat) (qs:List (Nat×List Leaf)):M AV:=
 bif Ya qs.length n&&Yc (n*ei.sz) 16777216&&Ya ei.ty.sz ei.sz&&Yb 0 ei.sz then match Zou ei.ty qs 0 with
 | some l=>.new (.arr false ti.elem ei.ty l) fun m=>.ret (.one (.own m))
 | none=>.fail
 else .fail
def Z84 (ti ei:TI) (v u:AV):M AV:=(Z2i v).bind fun n=>(Z2i u).bind fun c=>bif Ya ei.ty.sz ei.sz&&Yb 0 ei.sz then match Z9h ei.ty ei.zero with
 | some z=>.opt (List ei.ty.T) (Z9g ei.bytes n c z) fun xs=>.new (.arr false ti.elem ei.ty xs) fun m=>.ret (.one (.own m))
 | none=>.fail
 else .fail
def Zvv {α:Type} (l:List α) (i j m:Int):Option (List α):=if 0≤i∧i≤j∧j=m∧m≤l.length then some ((l.take j.toNat).drop i.toNat) else none
def Zc7 (t:TypeId) (x lo hi mx:AV):M AV:=Zvi C t fun _ ei=>(Z2i lo).bind fun i=>(Z2i hi).bind fun j=>(Z2i mx).bind fun m=>match x with
 | .one (.bor r l)=>bif flat r&&Ya r.sz ei.sz then .opt (List r.T) (Zvv l i j m) fun t=>.ret (.full r t) else .fail
 | .one (.list r l)=>bif flat r&&Ya r.sz ei.sz then .opt (List r.T) (Zvv l i j m) fun t=>.ret (.full r t) else .fail
 | _=>.fail
def Zo8 (ti ei:TI) (l m:List ei.ty.T):M AV:=match m with
 | []=>.fail
 | y::ys=>.opt (List ei.ty.T) (Zw ei.bytes l (y::ys)) fun k=>.new (.arr false ti.elem ei.ty k) fun n=>.ret (.one (.own n))
def Zp8 (ti ei:TI) (r:Ty) (l:List r.T) (c:Σ r:Ty,List r.T):M AV:=match Ty.same r ei.ty,Ty.same c.1 ei.ty with
 | some h,some k=>Zo8 ti ei (h.down▸l) (k.down▸c.2)
 | _,_=>.fail
def Z6x (ti ei:TI) (r:Ty) (l:List r.T):AV→M AV
 | .one y=>(Z1r y).bind fun c=>Zp8 ti ei r l c
 | _=>.fail
def Z8x (t:TypeId) (s x:AV):M AV:=match s with
 | .full r l=>Zvi C t fun ti ei=>bif Ya ei.ty.sz ei.sz&&(Yb 0 ei.sz&&flat ei.ty) then Z6x ti ei r l x else .fail
 | s=>append C t s x
def Z53 (t:TypeId) (n:Nat):M AV:=Zfe C t fun ti=>bif Ya ti.kind 7 then Zfe C ti.elem fun _=>match GL n,ti.offs with
  | some p,[(len,_)]=>bif Yb 0 len&&Ya len p.2.length then .ret (.one (.bor p.1 p.2)) else .fail
  | _,_=>.fail
 else .fail
def Zjn (e:TypeId):Bool:=Yc 2000000 e
def Zdi:IntKind→Bool
 | .i64=>false
 | _=>true
def Zes (k:IntKind):List Leaf→Option (List Int)
 | []=>some []
 | .int k' n::xs=>bif decide (k'=k) then match Zes k xs with
  | some l=>some (n::l)
  | none=>none
  else none
 | _::_=>none
def Z2y (k:IntKind) (l:List Int):Nat→Nat→List Leaf
 | _,0=>[]
 | q,m+1=>.int k (l.getD q 0)::Z2y k l (q+1) m
def Zev (k:IntKind):List Leaf→Nat→Bool
 | [],0=>true
 | .int k' n::xs,m+1=>decide (k'=k)&&decide (n=0)&&Zev k xs m
 | _,_=>false
def Zgx (k:IntKind):List (Nat×List Leaf)→Nat→Option (List Int)
 | [],_=>some []
 | (f,[.int k' n])::ps,i=>bif Ya f i&&decide (k'=k) then match Zgx k ps (i+1) with
  | some l=>some (n::l)
  | none=>none
  else none
 | _::_,_=>none
def isA (t:TypeId):Bool:=match C.ti.get t with
 | some ti=>Ya ti.kind 7
 | none=>false
def Z9n (t:TypeId) (f:Nat→IntKind→M AV):M AV:=Zfe C t fun ti=>bif Ya ti.kind 7 then Zfe C ti.elem fun ei=>match ti.offs with
  | [(len,_)]=>bif Ya ei.kind 1&&(Ya ei.sz 1&&(Zdi ei.ik&&Ya ti.sz len)) then f len ei.ik else .fail
  | _=>.fail
 else .fail
def Zz1 (k:IntKind) (len:Nat):List (Ty.int k).T:=Yk len (0:Int)
def Za2 (t:TypeId):M AV:=bif isA C t then Z9n C t fun len k=>Zfe C t fun ti=>bif Zev k ti.zero len then .new (.arr false (2000000+len) (.int k) (Zz1 k len)) fun n=>.ret (.one (.own n)) else .fail else Zfe C t fun i=>.new (.box t i.zero) fun n=>.ret (.one (.ptr n 0))
def Z91 (len:Nat) (n:Nat) (j:Int):Ent→M AV
 | .arr false e (.int k) l=>bif Ya e (2000000+len)&&Zdi k then .opt Int (at? l j) fun _=>.ret (.dptr n j) else .fail
 | _=>.fail
def Zg8 (len:Nat) (j:Int):AV→M AV
 | .one (.own n)=>.getb n (Z91 len n j)
 | _=>.fail
def Znz (t:TypeId) (x jv:AV):M AV:=bif isA C t then (Z2i jv).bind fun j=>Z9n C t fun len _=>Zg8 len j x else indexAddr C t x jv
def Z24 (j:Int):Ent→M AV
 | .arr false e (.int k) l=>bif Zjn e&&Zdi k then .opt Int (at? l j) fun v=>Zgf k v else .fail
 | _=>.fail
def Z34 (len:Nat):Ent→M AV
 | .arr false e (.int k) l=>bif Ya e (2000000+len)&&Zdi k then .ret (.agg (Z2y k l 0 len)) else .fail
 | _=>.fail
def Z14 (t:TypeId):AV→M AV
 | .dptr n j=>Zfe C t fun ti=>bif Ya ti.kind 1 then .getb n (Z24 j) else .fail
 | .one (.own n)=>Z9n C t fun len _=>.getb n (Z34 len)
 | p=>load C t p
def Zl7 (n:Nat) (k':IntKind) (j x:Int):Ent→M AV
 | .arr false e (.int k) l=>bif (Zjn e&&Zdi k)&&decide (k'=k) then .opt (List Int) (set? l j x) fun l'=>.setb n (.arr false e (.int k) l') (.ret .undef) else .fail
 | _=>.fail
def Zp1 (n len:Nat) (k':IntKind) (m:List Int):Ent→M AV
 | .arr false e (.int k) _=>bif (Ya e (2000000+len)&&Zdi k)&&decide (k'=k) then .setb n (.arr false e (.int k) m) (.ret .undef) else .fail
 | _=>.fail
def Z4rb (n len:Nat) (k:IntKind):Option (List Int)→M AV
 | some m=>bif Ya m.length len then .getb n (Zp1 n len k m) else .fail
 | none=>.fail
def Zm7 (t:TypeId):AV→AV→M AV
 | .dptr n j,.one (.int k x)=>Zfe C t fun ti=>bif Ya ti.sz 1 then .getb n (Zl7 n k j x) else .fail
 | .one (.own n),.agg xs=>Z9n C t fun len k=>Z4rb n len k (Zes k xs)
 | p,v=>store C t p v
def Zkbb (len:Nat) (k:IntKind):Option (Σ r:Ty,List r.T)→M AV
 | some ⟨.int k',l⟩=>bif decide (k'=k)&&(Ya l.length len&&Yb 0 len) then .ret (.agg (Z2y k l 0 len)) else .fail
 | _=>.fail
def Z43 (t:TypeId) (n:Nat):M AV:=Z9n C t fun len k=>Zkbb len k (GL n)
def Zomb (len:Nat) (k:IntKind) (j:Int):Option (List Int)→M AV
 | some l=>bif Ya l.length len then .opt Int (at? l j) fun v=>Zgf k v else .fail
 | none=>.fail
def Zo4 (t:TypeId):AV→AV→M AV
 | .agg xs,jv=>(Z2i jv).bind fun j=>Z9n C t fun len k=>Zomb len k j (Zes k xs)
 | x,jv=>index C t x jv
def Zjib (len:Nat) (k:IntKind):Option (List Int)→M AV
 | some l=>bif Ya l.length len then .ret (.agg (l.map fun n=>.int k n)) else .fail
 | none=>.fail
def Zu2 (t:TypeId) (qs:List (Nat×List Leaf)):M AV:=Z9n C t fun len k=>Zjib len k (Zgx k qs 0)
def Zq5 (n:Nat):Ent→M AV
 | .arr false e (.int k) _=>bif Zjn e&&Zdi k then .ret (.one (.own n)) else .fail
 | _=>.fail
def Zmr (i:Int) (n:Nat):Option Unit:=if 0≤i∧i≤n then some () else none
def Zq7 (n:Nat) (i:Int) (ei:TI):Ent→M AV
 | .arr false e r l=>bif !(Z0 e)&&Ya r.sz ei.sz then .opt Unit (Zmr i l.length) fun _=>.ret (.tl n i r.sz) else .fail
 | _=>.fail
def Z73 (n:Nat) (j:Int) (ei:TI):Ent→M AV
 | .arr z e r l=>bif !(Z0 e)&&Ya r.sz ei.sz then .opt (List r.T) (Z2b l 0 j) fun m=>.setb n .free (.new (.arr z e r m) fun q=>.ret (.one (.own q))) else .fail
 | _=>.fail
def Zf7 (t:TypeId) (x:AV) (lo hi:Option AV):M AV:=match C.tl,x,lo,hi with
 | true,.one (.own n),some v,none=>Zvi C t fun _ ei=>(Z2i v).bind fun i=>.getb n (Zq7 n i ei)
 | true,.one (.own n),none,some v=>Zvi C t fun _ ei=>(Z2i v).bind fun j=>.getb n (Z73 n j ei)
 | _,x,lo,hi=>Ze7 C t x lo hi
def Z52 (n:Nat) (i:Int) (z:Nat) (ei:TI):Ent→M AV
 | .arr false e r l=>bif !(Z0 e)&&(Ya r.sz z&&Ya ei.sz z) then match Z9h r ei.zero with
  | some o=>.setb n (.arr false e r (l.take i.toNat++Yk (l.length-i.toNat) o)) (.ret (.tup []))
  | none=>.fail
  else .fail
 | _=>.fail
def Z62 (t:TypeId) (x:AV):M AV:=Zvi C t fun _ ei=>match x with
 | .tl n i z=>.getb n (Z52 n i z ei)
 | _=>.fail
def Z6m {α:Type} (l:List α) (i:Nat) (m:List α):List α:=l.take i++m.take (l.length-i)++l.drop (i+m.length)
def Zry (n:Nat) (i:Int) (z:Nat) (ei:TI) (c:Σ r:Ty,List r.T):Ent→M AV
 | .arr false e r l=>bif !(Z0 e)&&(Ya r.sz z&&Ya ei.sz z) then match Ty.same c.1 r with
  | some h=>.setb n (.arr false e r (Z6m l i.toNat (h.down▸c.2))) (.ret .unk)
  | none=>.fail
  else .fail
 | _=>.fail
def Zd3 (t:TypeId) (x y:AV):M AV:=Zvi C t fun _ ei=>match x,y with
 | .tl n i z,.one (.list r l)=>.getb n (Zry n i z ei ⟨r,l⟩)
 | .tl n i z,.one (.bor r l)=>bif flat r then .getb n (Zry n i z ei ⟨r,l⟩) else .fail
 | _,_=>.fail
def Zcu (g:Option (Nat×Bool)):Option Operand→M (Option AV)
 | none=>.ret none
 | some x=>(opd g x).bind fun v=>.ret (some v)
def rp1:Leaf→Option (Σ t:Ty,t.T)
 | .int k n=>some ⟨.int k,n⟩
 | .bool b=>some ⟨.bool,b⟩
 | .str s=>some ⟨.str,s⟩
 | .bor r l=>some ⟨.sl r,l⟩
 | .list r l=>some ⟨.sl r,l⟩
 | _=>none
def Zr0:List Leaf→Option (Σ t:Ty,t.T)
 | []=>none
 | [x]=>rp1 x
 | x::xs=>match rp1 x,Zr0 xs with
  | some a,some b=>some ⟨.pair a.1 b.1,(a.2,b.2)⟩
  | _,_=>none
def Zqv:AV→M Leaf
 | .one x=>.ret x
 | .eptr xs=>match Zr0 xs with
  | some a=>.ret (.rp a.1 a.2)
  | none=>.fail
 | _=>.fail
def Zu3 (i:Nat):AV→M AV
 | .tup cs=>match cs[i]? with
  | some (a,xs)=>.ret (mk1 a xs)
  | none=>.fail
 | _=>.fail
def Zr5:AV→M AV
 | .one (.ptr b off)=>.getb b fun e=>match e with
  | .box _ _=>.ret (.one (.ptr b off))
  | _=>.fail
 | .eptr xs=>.ret (.eptr xs)
 | .one (.own n)=>.getb n (Zq5 n)
 | _=>.fail
def Zmj (c:Call) (f:TypeId→M AV):M AV:=match c.argTypes[0]? with
 | some t=>f t
 | none=>.fail
def Zq3 (g:Option (Nat×Bool)) (c:Call):M AV:=
 match c.callee,c.args.toList with
 | .builtin .len,[x]=>(opd g x).bind fun v=>Zmj c fun t=>lenOf C t v
 | .builtin .append,[s,x]=>bif Zay c then (opd g s).bind fun sv=>(opd g x).bind fun xv=>Zmj c fun t=>Z8x C t sv xv else bif Zby C c then (opd g s).bind fun sv=>(opd g x).bind fun xv=>Zmj c fun t=>Z9x C t sv xv else .fail
 | .value f,asx=>(opd g f).bind fun fv=>Zz2 C g asx fv
 | .builtin .max,[x,y]=>(opd g x).bind fun a=>(opd g y).bind fun b=>Zyz true a b
 | .builtin .min,[x,y]=>(opd g x).bind fun a=>(opd g y).bind fun b=>Zyz false a b
 | .builtin .clear,[x]=>(opd g x).bind fun v=>Zmj c fun t=>Z62 C t v
 | .builtin .copy,[x,y]=>(opd g x).bind fun v=>(opd g y).bind fun u=>Zmj c fun t=>Zd3 C t v u
 | _,_=>.fail
def Ze5 (s:TypeId) (n:Nat):Ent→M AV
 | .arr false e (.int .u8) (y::l)=>bif Z0 e then .fail else Zfe C s fun si=>bif Ya si.kind 3&&Ya si.elem e then Zbw C e (.setb n (.arr true e (.int .u8) (y::l)) (.ret (.one (.own n)))) else .fail
 | _=>.fail
def Zc3 (s d:TypeId) (x:AV):M AV:=bif Ya s d then match x with
  | .one (.own n)=>.getb n (Ze5 C s n)
  | x=>convert C s d x
 else convert C s d x
def Z33 (t:TypeId) (n:Nat) (jv:AV):M AV:=(Z2i jv).bind fun j=>Zfe C t fun ti=>bif Ya ti.kind 7 then Zfe C ti.elem fun ei=>match GL n,ti.offs with
  | some p,[(len,_)]=>bif Ya p.1.sz ei.sz&&Ya len p.2.length then .opt p.1.T (at? p.2 j) fun v=>.ret (.eptr ((Z2 p.1 v).map Z3i)) else .fail
  | _,_=>.fail
 else .fail
def Zpp (g:Option (Nat×Bool)) (o:Oper):M AV:=
 match o.op with
 | .move x | .assign x=>opd g x
 | .pick c a b=>pick g c a b
 | .alloc e=>Za2 C e
 | .box e x=>(opd g x).bind fun v=>Zr2 C.rob e v
 | .build t ps=>bif isA C t then (Zro g ps.toList).bind fun qs=>Zu2 C t qs else Zfe C t fun ti=>(Zro g ps.toList).bind fun qs=>Zky C ti qs
 | .buildSlice t n ps=>Zvi C t fun ti ei=>(Zro g ps.toList).bind fun qs=>(Zh0 qs).bind fun qs=>Zv2 ti ei n qs
 | .load t (.global n)=>Z43 C t n
 | .load t a=>(opd g a).bind fun p=>Z14 C t p
 | .store t a x=>(opd g a).bind fun p=>(opd g x).bind fun v=>Zm7 C t p v
 | .nilCheck x=>(opd g x).bind fun v=>Zr5 v
 | .binOp op t x y _=>(opd g x).bind fun a=>(opd g y).bind fun b=>binOp C t op a b
 | .unOp op _ x=>(opd g x).bind fun a=>unOp op a
 | .convert s d x=>(opd g x).bind fun a=>Zc3 C s d a
 | .makeFunc (.func f) ⟨[]⟩ caps=>(M.mapL (opd g) caps.toList).bind fun vs=>(M.mapL Zqv vs).bind fun xs=>.ret (.fn f xs)
 | .makeSlice t l c=>Zvi C t fun ti ei=>(opd g l).bind fun v=>(opd g c).bind fun u=>Z84 ti ei v u
 | .slice t (.global n) none none none=>Z53 C t n
 | .slice t x (some lo) (some hi) (some mx)=>(opd g x).bind fun v=>(opd g lo).bind fun l=>(opd g hi).bind fun u=>(opd g mx).bind fun m=>Zc7 C t v l u m
 | .slice t x lo hi none=>(opd g x).bind fun v=>(Zcu g lo).bind fun l=>(Zcu g hi).bind fun u=>Zf7 C t v l u
 | .makeMap t none=>Z6t C t (.new (.arr false (1000000+t) (.int .i64) []) fun n=>.ret (.one (.own n)))
 | .lookup t x i false=>(opd g x).bind fun v=>(opd g i).bind fun j=>Z64 C t v j
 | .mapUpdate t m k x=>(opd g m).bind fun v=>(opd g k).bind fun j=>(opd g x).bind fun y=>Z17 C t v j y
 | .fieldAddr t x f=>(opd g x).bind fun v=>fieldAddr C t v f
 | .field t x f=>(opd g x).bind fun v=>field C t v f
 | .indexAddr t (.global n) i=>(opd g i).bind fun j=>Z33 C t n j
 | .indexAddr t x i=>(opd g x).bind fun v=>(opd g i).bind fun j=>Znz C t v j
 | .index t x i=>(opd g x).bind fun v=>(opd g i).bind fun j=>Zo4 C t v j
 | .extract x i=>(opd g x).bind fun v=>Zu3 i v
 | .call c=>Zq3 C g c
 | _=>.fail
def St.put (st:St) (d:Option Tmp) (v:AV):St:=match d with
 | none=>st
 | some i=>st.setT i v
def St.putG (st:St) (d:Option Tmp) (t:Nat) (w:Bool) (v:AV):St:=match d with
 | none=>st
 | some i=>st.setG i t w v
def Zfs {R:Type}:Nat→Nat→St→(St→Option R)→Option R
 | 0,_,_,_=>none
 | k+1,t,st,K=>match st.tmp t with
  | .one (.kb _)=>K st
  | .undef=>K st
  | .one (.bool b)=>bif b then K (st.refT t (.one (.kb true))) else K (st.refT t (.one (.kb false)))
  | .gd t1 w1 x=>Zfs k t1 st fun st'=>match st'.tmp t1 with
   | .one (.kb b)=>bif b==w1 then Zfs k t (st'.refT t x) K else K (st'.refT t .undef)
   | .undef=>K (st'.refT t .undef)
   | _=>none
  | _=>none
def Zmt (st:St) (o:Oper):Bool:=match o.dst with
 | none=>true
 | some d=>Yb d st.n
def Z9w {R:Type} (o:Oper) (exec:AV→St→Option R) (skip:St→Option R) (t:Nat) (w:Bool) (st:St):Option R:=match st.tmp t with
 | .one (.kb b)=>bif b==w then (Zpp C none o).run st exec else skip (st.put o.dst .undef)
 | .undef=>skip (st.put o.dst .undef)
 | _=>none
def Zo6 {R:Type} (o:Oper) (exec:AV→St→Option R) (skip:St→Option R) (t:Nat) (w:Bool) (st:St):Option R:=match st.tmp t with
 | .one (.kb _)=>Z9w C o exec skip t w st
 | .undef=>Z9w C o exec skip t w st
 | _=>match (Zpp C (some (t,w)) o).still st with
  | some v=>skip (st.putG o.dst t w v)
  | none=>Zfs 4 t st (Z9w C o exec skip t w)
def Zuj {R:Type} (ops:Array Oper):List Oper→St→(St→Option R)→Option R
 | [],st,K=>K { st with gs:=[] }
 | o::rest,st,K=>
  bif Zmt st o then
  match o.guard with
  | none=>(Zpp C none o).run st fun v st'=>Zuj ops rest (st'.put o.dst v) K
  | some (j,w)=>match (ops[j]?).bind (·.dst) with
   | none=>none
   | some t=>Zo6 C o (fun v st'=>Zuj ops rest (st'.put o.dst v) K) (fun st'=>Zuj ops rest st' K) t w st
  else none
end
structure FP where
 rt:List Nat
 rb:List Nat
 wb:List Nat
def M.runF {α R:Type}:M α→St→FP→(α→St→FP→Option R)→Option R
 | .ret a,st,f,K=>K a st f
 | .get i k,st,f,K=>(k (st.tmp i)).runF st { f with rt:=i::f.rt } K
 | .getb i k,st,f,K=>(k (st.ent i)).runF st { f with rb:=i::f.rb } K
 | .setb i e k,st,f,K=>k.runF (st.setB i e) { f with wb:=i::f.wb } K
 | .new e k,st,f,K=>bif Yb st.nb st.lim then (k st.nb).runF (st.newB e) { f with wb:=st.nb::f.wb } K else none
 | .opt _ o k,st,f,K=>o.bind fun b=>(k b).runF st f K
 | .fail,_,_,_=>none
structure Rec where
 dst:List Nat
 fp:FP
 anc:Nat
def Z4r (xs ys:List Nat):Bool:=xs.all fun x=>!(ys.any (Ya x))
def Zrr (j k:Rec):Bool:=Z4r j.dst k.fp.rt&&Z4r j.dst k.dst&&Z4r k.dst j.fp.rt&&Z4r j.fp.wb k.fp.rb&&Z4r j.fp.wb k.fp.wb&&Z4r j.fp.rb k.fp.wb
def okR:List Rec→Rec→Bool
 | [],_=>true
 | j::rs,k=>(Nat.testBit k.anc rs.length||Zrr j k)&&okR rs k
def Zfp (rs:List Rec):List Edge→Option Nat
 | []=>some 0
 | e::es=>bif Region.binds .any e then match rs.reverse[e.on]?,Zfp rs es with
  | some r,some m=>some (r.anc ||| (1 <<< e.on) ||| m)
  | _,_=>none
  else Zfp rs es
def Zccb (ops:List Oper) (k:Nat):Bool:=ops.any fun o=>match o.guard with
 | none=>false
 | some (j,_)=>Ya j k
section
variable (C:Ctx)
def Zi7 {R:Type} (g:Bool) (v:AV) (K:AV→Option R):Option R:=match g,v with
 | true,.one (.bool b)=>bif b then K (.one (.kb true)) else K (.one (.kb false))
 | _,v=>K v
def Z0y {R:Type} (g:Bool) (o:Oper) (rs:List Rec) (m:Nat) (f:FP) (st:St) (K:St→List Rec→Option R):Option R:=(Zpp C none o).runF st f fun v st' f'=>Zi7 g v fun v=>bif okR rs ⟨o.dst.toList,f',m⟩ then K (st'.put o.dst v) (⟨o.dst.toList,f',m⟩::rs) else none
def Z1y {R:Type} (o:Oper) (rs:List Rec) (m:Nat) (f:FP) (st:St) (K:St→List Rec→Option R):Option R:=bif okR rs ⟨o.dst.toList,f,m⟩ then K (st.put o.dst .undef) (⟨o.dst.toList,f,m⟩::rs) else none
def Zzy {R:Type} (ops:Array Oper) (o:Oper) (rs:List Rec) (m:Nat) (st:St) (K:St→List Rec→Option R):Option R:=
 match o.guard with
 | none=>Z0y C (Zccb ops.toList rs.length) o rs m ⟨[],[],[]⟩ st K
 | some (j,w)=>match (ops[j]?).bind (·.dst) with
  | none=>none
  | some t=>match st.tmp t with
   | .one (.kb b)=>bif b==w then Z0y C (Zccb ops.toList rs.length) o rs m ⟨[t],[],[]⟩ st K else Z1y o rs m ⟨[t],[],[]⟩ st K
   | .undef=>Z1y o rs m ⟨[t],[],[]⟩ st K
   | _=>none
def Zyq {R:Type} (ops:Array Oper):List Oper→List Rec→St→(St→Option R)→Option R
 | [],_,st,K=>bif Yc st.nb 1000000 then K st else none
 | o::rest,rs,st,K=>
  bif Zmt st o then match Zfp rs o.after.toList with
  | some m=>Zzy C ops o rs m st fun st' rs'=>Zyq ops rest rs' st' K
  | none=>none
  else none
def Ztw (st:St):Bool:=Ya st.lim 1000000&&st.res.isEmpty
def Zyy {R:Type} (ops:Array Oper) (st:St) (K:St→Option R):Option R:=bif Ztw st then Zyq C ops ops.toList [] { st with gs:=[] } K else none
end
inductive LK where
 | v (t:Ty)
 | bor (r:Ty)
 | rp (t:Ty)
 | own (n:Nat)
 | ptr (b off:Nat)
 | pin (n:Nat)
 | no
inductive TK where
 | one (x:LK)
 | agg (xs:List LK)
 | eptr (xs:List LK)
 | fn (f:FuncId) (caps:List LK)
inductive BK where
 | box (t:TypeId) (xs:List LK)
 | arr (z:Bool) (e:TypeId) (r:Ty)
 | pin (e:TypeId) (r:Ty)
structure Shape where
 tmps:List (Nat×TK)
 slots:List (Nat×BK)
 nb:Nat
@[reducible] def Zpb:List Ty→Type
 | []=>Unit
 | [t]=>t.T
 | t::ts=>t.T×Zpb ts
def LK.tys:LK→List Ty
 | .v t=>[t]
 | .bor r=>[.sl r]
 | .rp t=>[t]
 | _=>[]
def Zqx:List LK→List Ty
 | []=>[]
 | x::xs=>x.tys++Zqx xs
def TK.tys:TK→List Ty
 | .one x=>x.tys
 | .agg xs=>Zqx xs
 | .eptr xs=>Zqx xs
 | .fn _ xs=>Zqx xs
def BK.tys:BK→List Ty
 | .box _ xs=>Zqx xs
 | .arr _ _ r=>[.sl r]
 | .pin _ r=>[.sl r]
def tysT:List (Nat×TK)→List Ty
 | []=>[]
 | x::xs=>x.2.tys++tysT xs
def tysB:List (Nat×BK)→List Ty
 | []=>[]
 | x::xs=>x.2.tys++tysB xs
def Shape.tys (s:Shape):List Ty:=tysT s.tmps++tysB s.slots
inductive DV where
 | mk (t:Ty) (x:t.T)
def DV.asx (t:Ty):DV→Option t.T
 | .mk t' x=>match Ty.same t' t with
  | some h=>some (h.down▸x)
  | none=>none
def Z2n:(ts:List Ty)→List DV→Option (Zpb ts)
 | [],[]=>some ()
 | [t],[d]=>d.asx t
 | t::t'::ts,d::ds=>match d.asx t,Z2n (t'::ts) ds with
  | some x,some y=>some (x,y)
  | _,_=>none
 | _,_=>none
def Z1h:(ts:List Ty)→Zpb ts→List DV
 | [],_=>[]
 | [t],x=>[.mk t x]
 | t::t'::ts,x=>.mk t x.1::Z1h (t'::ts) x.2
def Zpi {r' r:Ty} (l:List r'.T):Option (List r.T):=match Ty.same r' r with
 | some h=>some (h.down▸l)
 | none=>none
def Z35 (st:St) (r:Ty) (n:Nat):Option (List r.T×List Nat):=match st.ent n with
 | .arr _ e _ l=>bif Z0 e then none else match Zpi l with
  | some l=>some (l,[n])
  | none=>none
 | .frz _ l=>match Zpi l with
  | some l=>some (l,[])
  | none=>none
 | _=>none
def Zvw (st:St) (r:Ty):Leaf→Option (List r.T×List Nat)
 | .own n=>Z35 st r n
 | x=>match Z9h (.sl r) [x] with
  | some l=>some (l,[])
  | none=>none
def Zhu (st:St):(t:Ty)→Leaf→Option (t.T×List Nat)
 | .sl r,x=>Zvw st r x
 | t,x=>match Z9h t [x] with
  | some y=>some (y,[])
  | none=>none
def Z2w (b off:Nat):Leaf→Option (List DV×List (Nat×Nat))
 | .ptr b' off'=>bif Ya b b'&&Ya off off' then some ([],[]) else none
 | _=>none
def Z0w (n:Nat):Leaf→Option (List DV×List (Nat×Nat))
 | .own m=>bif Yb m 1000000 then some ([],[(n,m)]) else none
 | .nil=>some ([],[(n,3000000+n)])
 | _=>none
def Z1w (n:Nat):Leaf→Option (List DV×List (Nat×Nat))
 | .own m=>bif Ya n m then some ([],[]) else none
 | _=>none
def Zyu (r:Ty):Option (List r.T)→Option (List DV×List (Nat×Nat))
 | some l=>some ([.mk (.sl r) l],[])
 | none=>none
def Zju (st:St) (r:Ty):Leaf→Option (List DV×List (Nat×Nat))
 | .bor _ l=>Zyu r (Zpi l)
 | .list _ l=>Zyu r (Zpi l)
 | .nil=>Zyu r (some [])
 | .own n=>match st.ent n with
  | .frz _ l=>Zyu r (Zpi l)
  | _=>none
 | _=>none
def Z3w (t:Ty):Leaf→Option (List DV×List (Nat×Nat))
 | .rp t' x=>match Ty.same t' t with
  | some h=>some ([.mk t (h.down▸x)],[])
  | none=>none
 | _=>none
def Zl0 (st:St):LK→Leaf→Option (List DV×List (Nat×Nat))
 | .no,_=>some ([],[])
 | .ptr b off,x=>Z2w b off x
 | .pin n,x=>Z1w n x
 | .own n,x=>Z0w n x
 | .bor r,x=>Zju st r x
 | .rp t,x=>Z3w t x
 | .v t,x=>match Zhu st t x with
  | some (y,ns)=>some ([.mk t y],ns.map fun o=>(1000000+o,o))
  | none=>none
def Zpk (st:St):List LK→List Leaf→Option (List DV×List (Nat×Nat))
 | [],[]=>some ([],[])
 | k::ks,x::xs=>match Zl0 st k x,Zpk st ks xs with
  | some (a,m),some (b,m')=>some (a++b,m++m')
  | _,_=>none
 | _,_=>none
def rdT (st:St):TK→AV→Option (List DV×List (Nat×Nat))
 | .one k,.one x=>Zl0 st k x
 | .agg ks,.agg xs=>Zpk st ks xs
 | .eptr ks,.eptr xs=>Zpk st ks xs
 | .fn f ks,.fn f' xs=>bif Ya f f' then Zpk st ks xs else none
 | _,_=>none
def Zlu (st:St):List (Nat×TK)→Option (List DV×List (Nat×Nat))
 | []=>some ([],[])
 | (i,k)::ks=>match rdT st k (st.tmp i),Zlu st ks with
  | some (a,m),some (b,m')=>some (a++b,m++m')
  | _,_=>none
def Zvq (st:St) (z:Bool) (e:TypeId) (r:Ty) (o:Nat):Option (List DV):=match st.ent o with
 | .arr z' e' _ l=>match Zpi (r:=r) l with
  | some l=>bif Ya e e'&&(z==z') then some [.mk (.sl r) l] else none
  | none=>none
 | _=>none
def rdB (st:St) (m:List (Nat×Nat)) (n:Nat):BK→Option (List DV)
 | .box t ks=>match st.ent n with
  | .box t' xs=>match Zpk st ks xs with
   | some (a,_)=>bif Ya t t' then some a else none
   | none=>none
  | _=>none
 | .arr z e r=>match m.lookup n with
  | none=>bif Z0 e then none else some [.mk (.sl r) []]
  | some o=>bif Yc 3000000 o then (bif Z0 e then none else some [.mk (.sl r) []]) else Zvq st z e r o
 | .pin e r=>Zvq st false e r n
def Zwq (st:St):List (Nat×BK)→Option (List (Nat×Nat))
 | []=>some []
 | (n,.box t ks)::rest=>match st.ent n with
  | .box _ xs=>match Zpk st ks xs,Zwq st rest with
   | some (_,m),some m'=>some (m++m')
   | _,_=>none
  | _=>none
 | (_,.arr _ _ _)::rest=>Zwq st rest
 | (_,.pin _ _)::rest=>Zwq st rest
def Zku (st:St) (m:List (Nat×Nat)):List (Nat×BK)→Option (List DV)
 | []=>some []
 | (n,k)::ks=>match rdB st m n k,Zku st m ks with
  | some a,some b=>some (a++b)
  | _,_=>none
def Zvb:List (Nat×BK)→List Nat
 | []=>[]
 | (n,.box _ _)::ss=>n::Zvb ss
 | (n,.pin _ _)::ss=>n::Zvb ss
 | (_,.arr _ _ _)::ss=>Zvb ss
def Zdv:List (Nat×Nat)→Bool
 | []=>true
 | (n,o)::rest=>(rest.all fun p=>Ya p.1 n==Ya p.2 o)&&Zdv rest
def Zuq (sh:Shape) (st:St):Option (List DV×List (Nat×Nat)):=
 match Zlu st sh.tmps,Zwq st sh.slots with
 | some (a,m),some m'=>match Zku st (m++m') sh.slots with
  | some b=>bif Zdv (m++m')&&Zit (Zvb sh.slots) ((m++m').map (·.2)) then some (a++b,m++m') else none
  | none=>none
 | _,_=>none
def rd (sh:Shape) (st:St):Option (Zpb sh.tys):=match Zuq sh st with
 | some (ds,_)=>Z2n sh.tys ds
 | none=>none
def Zcm (sh:Shape) (st:St):List Nat:=match Zuq sh st with
 | some (_,m)=>(m.filter fun p=>Yc 1000000 p.1).map (·.2)
 | none=>[]
def Z9r (st:St) (o:Nat):St:=match st.ent o with
 | .arr _ e r l=>bif Z0 e then st else st.setB o (.frz r l)
 | _=>st
def Zgk:St→List Nat→St
 | st,[]=>st
 | st,o::os=>Zgk (Z9r st o) os
def Zrw:List Leaf→Leaf
 | [y]=>y
 | _=>.unk
def Zpo:LK→List DV→Leaf×List DV
 | .v _,.mk t x::ds=>(Zrw (Z2 t x),ds)
 | .v _,[]=>(.unk,[])
 | .bor _,.mk t x::ds=>(Z3i (Zrw (Z2 t x)),ds)
 | .bor _,[]=>(.unk,[])
 | .rp _,.mk t x::ds=>(.rp t x,ds)
 | .rp _,[]=>(.unk,[])
 | .own n,ds=>(.own n,ds)
 | .ptr b off,ds=>(.ptr b off,ds)
 | .pin n,ds=>(.own n,ds)
 | .no,ds=>(.unk,ds)
def Zsj:List LK→List DV→List Leaf×List DV
 | [],ds=>([],ds)
 | k::ks,ds=>((Zpo k ds).1::(Zsj ks (Zpo k ds).2).1,(Zsj ks (Zpo k ds).2).2)
def mkT:TK→List DV→AV×List DV
 | .one k,ds=>(.one (Zpo k ds).1,(Zpo k ds).2)
 | .agg ks,ds=>(.agg (Zsj ks ds).1,(Zsj ks ds).2)
 | .eptr ks,ds=>(.eptr (Zsj ks ds).1,(Zsj ks ds).2)
 | .fn f ks,ds=>(.fn f (Zsj ks ds).1,(Zsj ks ds).2)
def Zzh:List (Nat×TK)→List DV→List AV→List AV×List DV
 | [],ds,ts=>(ts,ds)
 | (i,k)::ks,ds,ts=>Zzh ks (mkT k ds).2 (Z7c .unk ts i (mkT k ds).1)
def Znn (z:Bool) (e:TypeId) (r:Ty):DV→Ent
 | .mk (.sl r') l=>match Zpi (r:=r) l with
  | some l=>.arr z e r l
  | none=>.free
 | _=>.free
def mkB:BK→List DV→Ent×List DV
 | .box t ks,ds=>(.box t (Zsj ks ds).1,(Zsj ks ds).2)
 | .arr z e r,d::ds=>(Znn z e r d,ds)
 | .arr _ _ _,[]=>(.free,[])
 | .pin e r,d::ds=>(Znn false e r d,ds)
 | .pin _ _,[]=>(.free,[])
def Zel:List (Nat×BK)→List DV→List Ent→List Ent
 | [],_,hs=>hs
 | (i,k)::ks,ds,hs=>Zel ks (mkB k ds).2 (Z7c .free hs i (mkB k ds).1)
def lay (sh:Shape) (ts:List AV) (hs:List Ent) (n:Nat) (x:Zpb sh.tys):St:=let r:=Zzh sh.tmps (Z1h sh.tys x) ts;{ n:=n,tmps:=r.1,gs:=[],heap:=Zel sh.slots r.2 hs,nb:=sh.nb,lim:=1000000,res:=[] }
def mk (sh:Shape) (n:Nat) (x:Zpb sh.tys):St:=lay sh [] [] n x
inductive Ex where
 | nrm
 | exit (id:Nat)
 | ret
def Ex.beq:Ex→Ex→Bool
 | .nrm,.nrm=>true
 | .ret,.ret=>true
 | .exit a,.exit b=>Ya a b
 | _,_=>false
@[reducible] def Zuh:List (Ex×Shape)→Type
 | []=>Empty
 | [o]=>Zpb o.2.tys
 | o::os=>Zpb o.2.tys ⊕ Zuh os
structure Summ where
 n:Nat
 ish:Shape
 outs:List (Ex×Shape)
 f:Zpb ish.tys→Option (Zuh outs)
def LK.nb:LK→Bool
 | .bor _=>false
 | .rp _=>false
 | _=>true
def TK.nb:TK→Bool
 | .one k=>k.nb
 | .agg ks=>ks.all LK.nb
 | .eptr _=>false
 | .fn _ ks=>ks.all LK.nb
def BK.nb:BK→Bool
 | .box _ ks=>ks.all LK.nb
 | .arr _ _ _=>true
 | .pin _ _=>true
def Z05 (ish osh:Shape):Bool:=
 (osh.tmps.all fun p=>p.2.nb)&&(osh.slots.all fun p=>p.2.nb) &&
 (osh.slots.all fun p=>(match p.2 with
  | .box _ _=>(Zvb ish.slots).any (Ya p.1)
  | .pin _ _=>(Zvb ish.slots).any (Ya p.1)
  | .arr _ _ _=>false)||Yc ish.nb p.1)&&(osh.slots.all fun p=>Yb p.1 osh.nb)&&Yc ish.nb osh.nb&&Z9l (osh.slots.map (·.1))
def Zjh:List (Nat×BK)→List Nat
 | []=>[]
 | (n,.arr _ _ _)::ss=>n::Zjh ss
 | _::ss=>Zjh ss
def Zrj (sh:Shape):LK→Bool
 | .ptr b _=>(Zvb sh.slots).any (Ya b)
 | .pin b=>(Zvb sh.slots).any (Ya b)
 | .own n=>(Zjh sh.slots).any (Ya n)
 | _=>true
def TK.lks:TK→List LK
 | .one k=>[k]
 | .agg ks=>ks
 | .eptr ks=>ks
 | .fn _ ks=>ks
def BK.lks:BK→List LK
 | .box _ ks=>ks
 | .arr _ _ _=>[]
 | .pin _ _=>[]
def Zrn (sh:Shape):Bool:=Z9l (sh.slots.map (·.1))&&Z9l (sh.tmps.map (·.1))&&(sh.slots.all fun p=>Yb p.1 sh.nb&&Yb p.1 1000000) && (sh.tmps.all fun p=>p.2.lks.all (Zrj sh))&&sh.slots.all fun p=>p.2.lks.all (Zrj sh)
def Summ.ok (s:Summ):Bool:=Zrn s.ish&&s.outs.all fun o=>Z05 s.ish o.2&&Zrn o.2
inductive Plan where
 | auto
 | sum (s:Summ)
 | two (p q:Plan)
 | one (p:Plan)
def Plan.l:Plan→Plan
 | .two p _=>p
 | _=>.auto
def Plan.r:Plan→Plan
 | .two _ q=>q
 | _=>.auto
def Plan.o:Plan→Plan
 | .one p=>p
 | _=>.auto
def Zjd:Code→List Nat
 | .region _ ops _=>ops.toList.filterMap (·.dst)
 | .seq a b=>Zjd a++Zjd b
 | .cond _ a b=>Zjd a++Zjd b
 | .block _ a=>Zjd a
 | .loop a=>Zjd a
 | .scope a=>Zjd a
 | _=>[]
def Zkt (ds:List Nat) (ts:List AV):List AV:=ds.foldl (fun ts i=>Z7c .unk ts i .unk) ts
def Zyv (ss:List Nat) (hs:List Ent):List Ent:=ss.foldl (fun hs i=>Z7c .free hs i .free) hs
def Zwx (sh:Shape) (st:St):List Nat:=match Zuq sh st with
 | some (_,m)=>Zvb sh.slots++m.map (·.2)
 | none=>[]
def Znv (ds us:List Nat) (osh:Shape) (st:St) (y:Zpb osh.tys):St:=lay osh (Zkt ds st.tmps) (Zyv us st.heap) st.n y
def Zdu {R:Type} (ds us:List Nat) (st:St) (K:Ex→St→Option R):(os:List (Ex×Shape))→Zuh os→Option R
 | [],y=>nomatch y
 | [o],y=>K o.1 (Znv ds us o.2 st y)
 | o::o'::os,y=>match y with
  | .inl y=>K o.1 (Znv ds us o.2 st y)
  | .inr y=>Zdu ds us st K (o'::os) y
def Zhl (e:Ex) (st:St):(os:List (Ex×Shape))→Option (Zuh os)
 | []=>none
 | [o]=>bif o.1.beq e then rd o.2 st else none
 | o::o'::os=>bif o.1.beq e then (match rd o.2 st with
  | some y=>some (.inl y)
  | none=>none) else match Zhl e st (o'::os) with
  | some y=>some (.inr y)
  | none=>none
section
variable (C:Ctx)
def V {R:Type} (p:Plan) (c:Code) (st:St) (K:Ex→St→Option R):Option R:=
 match p with
 | .sum s=>
  let st1:=Zgk st (Zcm s.ish st)
  bif Ztw st&&Ya st.n s.n&&(Yc st.nb s.ish.nb&&(Zcm s.ish st1).isEmpty) then match rd s.ish st1 with
   | some x=>(s.f x).bind fun y=>Zdu (Zjd c) (Zwx s.ish st1) st1 K s.outs y
   | none=>none
  else none
 | p=>match c with
  | .skip=>K .nrm st
  | .region _ ops false=>Zuj C ops ops.toList st fun st'=>K .nrm st'
  | .region _ ops true=>Zyy C ops st fun st'=>K .nrm st'
  | .seq a b=>V p.l a st fun e st'=>match e with
   | .nrm=>V p.r b st' K
   | e=>K e st'
  | .cond x a b=>match x with
   | .tmp t=>Zfs 1 t st fun st'=>match st'.tmp t with
    | .one (.kb true)=>V p.l a st' K
    | .one (.kb false)=>V p.r b st' K
    | _=>none
   | .const (.bool true)=>V p.l a st K
   | .const (.bool false)=>V p.r b st K
   | _=>none
  | .block id a=>V p.o a st fun e st'=>match e with
   | .exit j=>bif Ya j id then K .nrm st' else K (.exit j) st'
   | e=>K e st'
  | .exit id=>K (.exit id) st
  | .ret=>K .ret st
  | _=>none
end
inductive PL where
 | v
 | ro
 | own (e:TypeId)
def PL.lm:PL→LM
 | .v=>.v
 | .ro=>.ro
 | .own _=>.rw
inductive PK where
 | val (agg:Bool) (t:Ty) (ms:List PL)
 | rptr (t:Ty)
 | ref (tid:TypeId) (t:Ty) (ms:List PL)
 | fn (f:FuncId) (caps:List (TypeId×Ty×List PL))
 | mv (e:TypeId) (r:Ty)
 | vm (agg:Bool) (t:Ty) (ms:List PL)
inductive RK where
 | v (t:Ty)
 | own (e:TypeId) (r:Ty)
inductive SK where
 | val (agg:Bool) (ks:List RK)
 | box (tid:TypeId) (ks:List RK)
structure Sig where
 ps:List PK
 rs:List SK
 ntmps:Nat
def PK.pm:PK→PM
 | .val _ _ ms=>.val (ms.map PL.lm)
 | .rptr _=>.rptr
 | .ref _ _ ms=>.ref (ms.map PL.lm)
 | .fn f cs=>.fn f (cs.map fun c=>c.2.2.map PL.lm)
 | .mv _ _=>.mv
 | .vm _ _ ms=>.vm (ms.map PL.lm)
def Sig.ms (s:Sig):List PM:=s.ps.map PK.pm
def PK.tys:PK→List Ty
 | .val _ t _=>[t]
 | .rptr t=>[t]
 | .ref _ t _=>[t]
 | .fn _ cs=>cs.map fun c=>c.2.1
 | .mv _ r=>[.sl r]
 | .vm _ t _=>[t]
def Z8bb:List PK→List Ty
 | []=>[]
 | p::ps=>p.tys++Z8bb ps
def RK.ty:RK→Ty
 | .v t=>t
 | .own _ r=>.sl r
def SK.ks:SK→List RK
 | .val _ ks=>ks
 | .box _ ks=>ks
def Z2g:List Ty→List PL→List RK
 | .sl r::ts,.own e::ms=>.own e r::Z2g ts ms
 | t::ts,_::ms=>.v t::Z2g ts ms
 | _,_=>[]
def Zil:List Ty→List PL→List (TypeId×Ty)
 | .sl r::ts,.own e::ms=>(e,r)::Zil ts ms
 | _::ts,_::ms=>Zil ts ms
 | _,_=>[]
def Z12:List (TypeId×Ty×List PL)→List RK
 | []=>[]
 | c::cs=>bif Ya c.1 roT then Z12 cs else Z2g (Zfb c.2.1) c.2.2++Z12 cs
def PK.back:PK→List Ty
 | .val _ t ms=>(Zil (Zfb t) ms).map fun p=>.sl p.2
 | .rptr _=>[]
 | .ref _ t ms=>(Z2g (Zfb t) ms).map RK.ty
 | .fn _ cs=>(Z12 cs).map RK.ty
 | .mv _ _=>[]
 | .vm _ _ _=>[]
def Zk2:List PK→List Ty
 | []=>[]
 | p::ps=>p.back++Zk2 ps
def Zms:List SK→List Ty
 | []=>[]
 | p::ps=>p.ks.map RK.ty++Zms ps
def Sig.ins (s:Sig):List Ty:=Z8bb s.ps
def Sig.outs (s:Sig):List Ty:=Zms s.rs++Zk2 s.ps
def Z0mb:PL→Leaf→Nat→Leaf×List Ent
 | .ro,x,_=>(Z3i x,[])
 | .own e,.list r l,nb=>(.own nb,[.arr false e r l])
 | _,x,_=>(x,[])
def Z3e:List PL→List Leaf→Nat→List Leaf×List Ent
 | m::ms,x::xs,nb=>let a:=Z0mb m x nb;let b:=Z3e ms xs (nb+a.2.length);(a.1::b.1,a.2++b.2)
 | _,_,_=>([],[])
def Zak (tid:TypeId) (ms:List PL) (xs:List Leaf) (nb:Nat):List Ent:=let a:=Z3e ms xs (nb+1);.box tid a.1::a.2
def Zug:List (TypeId×Ty×List PL)→List DV→Nat→List Leaf×List Ent
 | (tid,_,ms)::cs,.mk t' x::ds,nb=>bif Ya tid roT then let b:=Zug cs ds nb;(.rp t' x::b.1,b.2) else let a:=Zak tid ms (Z2 t' x) nb;let b:=Zug cs ds (nb+a.length);(.ptr nb 0::b.1,a++b.2)
 | _,_,_=>([],[])
def Zlg:List PK→List DV→Nat→List AV×List Ent
 | .val ag _ ms::ps,.mk t' x::ds,nb=>let a:=Z3e ms (Z2 t' x) nb;let r:=Zlg ps ds (nb+a.2.length);(mk1 ag a.1::r.1,a.2++r.2)
 | .rptr _::ps,.mk t' x::ds,nb=>let r:=Zlg ps ds nb;(.eptr ((Z2 t' x).map Z3i)::r.1,r.2)
 | .ref tid _ ms::ps,.mk t' x::ds,nb=>let a:=Zak tid ms (Z2 t' x) nb;let r:=Zlg ps ds (nb+a.length);(.one (.ptr nb 0)::r.1,a++r.2)
 | .fn f cs::ps,ds,nb=>let a:=Zug cs ds nb;let r:=Zlg ps (ds.drop cs.length) (nb+a.2.length);(.fn f a.1::r.1,a.2++r.2)
 | .mv e _::ps,.mk (.sl r') l::ds,nb=>let r:=Zlg ps ds (nb+1);(.one (.own nb)::r.1,.arr false e r' l::r.2)
 | .vm ag _ ms::ps,.mk t' x::ds,nb=>let a:=Z3e ms (Z2 t' x) nb;let r:=Zlg ps ds (nb+a.2.length);(mk1 ag a.1::r.1,a.2++r.2)
 | _,_,_=>([],[])
def Sig.start (s:Sig) (x:Zpb s.ins):St:=let r:=Zlg s.ps (Z1h s.ins x) 0;{ n:=s.ntmps,tmps:=r.1,gs:=[],heap:=r.2,nb:=r.2.length,lim:=1000000,res:=[] }
structure DR where
 ds:List DV
 owns:List Nat
 pures:List Nat
def Zuy (st:St) (e:TypeId) (r:Ty):Leaf→Option DR
 | .own n=>match st.ent n with
  | .arr false e' _ l=>match Zpi (r:=r) l with
   | some l=>bif Ya e e' then some ⟨[.mk (.sl r) l],[n],[]⟩ else none
   | none=>none
  | _=>none
 | .nil=>bif Z0 e then none else some ⟨[.mk (.sl r) []],[],[]⟩
 | _=>none
def Zi3 (st:St) (t:Ty) (x:Leaf):Option DR:=match Zhu st t x with
 | some (y,ns)=>some ⟨[.mk t y],[],ns⟩
 | none=>none
def decK (st:St):RK→Leaf→Option DR
 | .own e r,x=>Zuy st e r x
 | .v t,x=>Zi3 st t x
def DR.app (a b:DR):DR:=⟨a.ds++b.ds,a.owns++b.owns,a.pures++b.pures⟩
def Zao (st:St):List RK→List Leaf→Option DR
 | [],[]=>some ⟨[],[],[]⟩
 | k::ks,x::xs=>match decK st k x,Zao st ks xs with
  | some a,some b=>some (a.app b)
  | _,_=>none
 | _,_=>none
def Zs9 (ti:Tab TI) (agg:Bool) (ty:TypeId) (xs:List Leaf):Option (List Leaf):=match ti.get ty with
 | some i=>bif (i.agg==agg)&&Ya (bif agg then i.sz else 1) xs.length then some xs else none
 | none=>none
def Z92 (agg:Bool):AV→Option (List Leaf)
 | .one x=>bif agg then none else some [x]
 | .agg xs=>bif agg then some xs else none
 | _=>none
def Z82 (ti:Tab TI) (st:St) (agg:Bool) (ty:TypeId):AV→Option (List Leaf)
 | .one (.ptr b 0)=>match st.ent b with
  | .box _ xs=>Zs9 ti agg ty xs
  | _=>none
 | _=>none
def Zrv (ti:Tab TI) (st:St) (agg:Bool):ResultVar→Option (List Leaf)
 | .tmp t=>Z92 agg (st.tmp t)
 | .cell p ty=>Z82 ti st agg ty (st.tmp p)
def Zs2 (st:St) (tid:TypeId) (x:List Leaf):Option (List Leaf×Nat):=match x with
 | [.ptr b 0]=>match st.ent b with
  | .box t xs=>bif Ya t tid then some (xs,b) else none
  | _=>none
 | _=>none
def Zcab (ti:Tab TI) (st:St) (v:ResultVar):SK→Option (DR×List Nat)
 | .val a ks=>match Zrv ti st a v with
  | some xs=>match Zao st ks xs with
   | some d=>some (d,[])
   | none=>none
  | none=>none
 | .box tid ks=>match Zrv ti st false v with
  | some xs=>match Zs2 st tid xs with
   | some (ys,b)=>match Zao st ks ys with
    | some d=>some (d,[b])
    | none=>none
   | none=>none
  | none=>none
def DR.nil:DR:=⟨[],[],[]⟩
def Zvy (ti:Tab TI) (st:St):List SK→List ResultVar→Option (DR×List Nat)
 | [],[]=>some (DR.nil,[])
 | k::rs,v::vs=>match Zcab ti st v k,Zvy ti st rs vs with
  | some a,some b=>some (a.1.app b.1,a.2++b.2)
  | _,_=>none
 | _,_=>none
def Zey (st:St):List (TypeId×Ty)→Nat→Option (List DV)
 | [],_=>some []
 | (e,r)::ks,n=>match Zuy st e r (.own n),Zey st ks (n+1) with
  | some a,some b=>some (a.ds++b)
  | _,_=>none
def Zdy (st:St) (tid:TypeId) (ks:List RK) (n:Nat):Option DR:=match st.ent n with
 | .box t xs=>bif Ya t tid then Zao st ks xs else none
 | _=>none
def Z5e (ts:List Ty) (ms:List PL):Nat:=(Zil ts ms).length
def Zkv (st:St):List (TypeId×Ty×List PL)→Nat→Option DR
 | [],_=>some DR.nil
 | (tid,t,ms)::cs,n=>bif Ya tid roT then Zkv st cs n else match Zdy st tid (Z2g (Zfb t) ms) n,Zkv st cs (n+1+Z5e (Zfb t) ms) with
  | some a,some b=>some (a.app b)
  | _,_=>none
def Z2m:List (TypeId×Ty×List PL)→Nat
 | []=>0
 | (tid,t,ms)::cs=>bif Ya tid roT then Z2m cs else 1+Z5e (Zfb t) ms+Z2m cs
def Z0l (st:St):List PK→Nat→Option (DR×List Nat)
 | [],_=>some (DR.nil,[])
 | .val _ t ms::ps,n=>match Zey st (Zil (Zfb t) ms) n,Z0l st ps (n+Z5e (Zfb t) ms) with
  | some a,some b=>some (⟨a++b.1.ds,b.1.owns,b.1.pures⟩,(List.range (Z5e (Zfb t) ms)).map (n + ·)++b.2)
  | _,_=>none
 | .rptr _::ps,n=>Z0l st ps n
 | .ref tid t ms::ps,n=>match Zdy st tid (Z2g (Zfb t) ms) n,Z0l st ps (n+1+Z5e (Zfb t) ms) with
  | some a,some b=>some (a.app b.1,b.2)
  | _,_=>none
 | .fn _ cs::ps,n=>match Zkv st cs n,Z0l st ps (n+Z2m cs) with
  | some a,some b=>some (a.app b.1,b.2)
  | _,_=>none
 | .mv _ _::ps,n=>Z0l st ps (n+1)
 | .vm _ t ms::ps,n=>Z0l st ps (n+Z5e (Zfb t) ms)
def Zbj:List PK→Nat→List Nat
 | [],_=>[]
 | .val _ t ms::ps,n=>Zbj ps (n+Z5e (Zfb t) ms)
 | .rptr _::ps,n=>Zbj ps n
 | .ref _ t ms::ps,n=>n::Zbj ps (n+1+Z5e (Zfb t) ms)
 | .fn _ cs::ps,n=>capRefs cs n++Zbj ps (n+Z2m cs)
 | .mv _ _::ps,n=>Zbj ps (n+1)
 | .vm _ t ms::ps,n=>Zbj ps (n+Z5e (Zfb t) ms)
where
 capRefs:List (TypeId×Ty×List PL)→Nat→List Nat
 | [],_=>[]
 | (tid,t,ms)::cs,n=>bif Ya tid roT then capRefs cs n else n::capRefs cs (n+1+Z5e (Zfb t) ms)
def Sig.read (ti:Tab TI) (s:Sig) (vs:List ResultVar) (st:St):Option (Zpb s.outs):=match Zvy ti st s.rs vs,Z0l st s.ps 0 with
 | some a,some b=>
  bif Z9l (a.1.owns++b.1.owns++b.2)&&Zit (a.1.owns++b.1.owns++b.2) (a.1.pures++b.1.pures)&&Z9l (a.2++Zbj s.ps 0) then Z2n s.outs (a.1.ds++b.1.ds) else none
 | _,_=>none
def Sig.done (ti:Tab TI) (s:Sig) (vs:List ResultVar) (e:Ex) (st:St):Option (Zpb s.outs):=
 match e with
 | .exit _=>none
 | _=>s.read ti vs st
def Sig.ev (C:Ctx) (s:Sig) (p:Plan) (vs:List ResultVar) (c:Code) (x:Zpb s.ins):Option (Zpb s.outs):=V C p c (s.start x) (s.done C.ti vs)
def Zbjb:PL→CL→Option Leaf
 | .v,.leaf (.bor _ _)=>none
 | .v,.leaf x=>some x
 | .ro,.leaf (.bor r l)=>some (.list r l)
 | .ro,.leaf x=>some x
 | .own e,.row e' r l=>bif Ya e e' then some (.list r l) else none
 | .own e,.nil=>bif Z0 e then none else some .nil
 | _,_=>none
def Z4i:List PL→List CL→Option (List Leaf)
 | [],[]=>some []
 | m::ms,x::xs=>match Zbjb m x,Z4i ms xs with
  | some a,some b=>some (a::b)
  | _,_=>none
 | _,_=>none
def unB:Leaf→Leaf
 | .bor r l=>.list r l
 | x=>x
def dv (t:Ty) (xs:Option (List Leaf)):Option DV:=match xs with
 | some xs=>match Z9h t xs with
  | some x=>some (.mk t x)
  | none=>none
 | none=>none
def Zgt:List (TypeId×Ty×List PL)→List (TypeId×List CL)→Option (List DV)
 | [],[]=>some []
 | (tid,t,ms)::cs,(tid',xs)::asx=>bif Ya tid tid' then match dv t (Z4i ms xs),Zgt cs asx with
  | some x,some ds=>some (x::ds)
  | _,_=>none
  else none
 | _,_=>none
def unlF (t:Ty) (xs:List Leaf):Option DV:=match unl t xs with
 | some (x,_)=>some (.mk t x)
 | none=>none
def Zh3:PK→CArg→Option (List DV)
 | .val a t ms,.val a' xs=>bif a==a' then match dv t (Z4i ms xs) with
  | some x=>some [x]
  | none=>none
  else none
 | .rptr t,.rptr xs=>match unlF t (xs.map unB) with
  | some x=>some [x]
  | none=>none
 | .ref tid t ms,.ref tid' xs=>bif Ya tid tid' then match dv t (Z4i ms xs) with
  | some x=>some [x]
  | none=>none
  else none
 | .fn f cs,.fn f' asx=>bif Ya f f' then Zgt cs asx else none
 | .mv e r,.mv e' r' l=>bif Ya e e' then match dv (.sl r) (some [.list r' l]) with
  | some x=>some [x]
  | none=>none
  else none
 | .vm a t ms,.vm a' xs=>bif a==a' then match dv t (Z4i ms xs) with
  | some x=>some [x]
  | none=>none
  else none
 | _,_=>none
def Zft:List PK→List CArg→Option (List DV)
 | [],[]=>some []
 | p::ps,a::asx=>match Zh3 p a,Zft ps asx with
  | some x,some ds=>some (x++ds)
  | _,_=>none
 | _,_=>none
def Zeb:List RK→List DV→List RL×List DV
 | [],ds=>([],ds)
 | .v _::ks,.mk t x::ds=>((Z2 t x).map .leaf++(Zeb ks ds).1,(Zeb ks ds).2)
 | .own e _::ks,.mk t x::ds=>((match t,x with
  | .sl r,l=>[.own e r l]
  | _,_=>[])++(Zeb ks ds).1,(Zeb ks ds).2)
 | _::_,[]=>([],[])
def Z5f:List SK→List DV→List RC×List DV
 | [],ds=>([],ds)
 | .val a ks::rs,ds=>(.val a (Zeb ks ds).1::(Z5f rs (Zeb ks ds).2).1,(Z5f rs (Zeb ks ds).2).2)
 | .box t ks::rs,ds=>(.box t (Zeb ks ds).1::(Z5f rs (Zeb ks ds).2).1,(Z5f rs (Zeb ks ds).2).2)
def Z5k:List (TypeId×Ty)→List DV→List RF×List DV
 | [],ds=>([],ds)
 | k::ks,.mk t x::ds=>((match t,x with
  | .sl r,l=>[.row k.1 r l]
  | _,_=>[])++(Z5k ks ds).1,(Z5k ks ds).2)
 | _::_,[]=>([],[])
def Zwh:List (TypeId×Ty×List PL)→List DV→List RF×List DV
 | [],ds=>([],ds)
 | (tid,t,ms)::cs,ds=>bif Ya tid roT then Zwh cs ds else (.box tid (Zeb (Z2g (Zfb t) ms) ds).1::(Zwh cs (Zeb (Z2g (Zfb t) ms) ds).2).1,(Zwh cs (Zeb (Z2g (Zfb t) ms) ds).2).2)
def Zzv:PK→List DV→List RF×List DV
 | .val _ t ms,ds=>Z5k (Zil (Zfb t) ms) ds
 | .rptr _,ds=>([],ds)
 | .ref tid t ms,ds=>([.box tid (Zeb (Z2g (Zfb t) ms) ds).1],(Zeb (Z2g (Zfb t) ms) ds).2)
 | .fn _ cs,ds=>Zwh cs ds
 | .mv _ _,ds=>([],ds)
 | .vm _ _ _,ds=>([],ds)
def Zri:List PK→List DV→List RF
 | [],_=>[]
 | p::ps,ds=>(Zzv p ds).1++Zri ps (Zzv p ds).2
def Sig.enc (s:Sig) (y:Zpb s.outs):RR:=let r:=Z5f s.rs (Z1h s.outs y);{ res:=r.1,refs:=Zri s.ps r.2 }
def Sig.run (s:Sig) (f:Zpb s.ins→Option (Zpb s.outs)) (asx:List CArg):CR:=
 match Zft s.ps asx with
 | some ds=>match Z2n s.ins ds with
  | some x=>.opt _ (f x) s.enc
  | none=>.fail
 | none=>.fail
def Sig.con (s:Sig) (f:Zpb s.ins→Option (Zpb s.outs)):Con:={ ms:=s.ms,f:=s.run f }
end Go.Proofs.Qz
namespace Go.Proofs.Qz
open Go Go.RowKit
set_option linter.unusedVariables false
theorem Zst {α:Type} (d:α) (j:Nat):Zz d [] j=d:=by cases j <;> rfl
theorem Zlh {α:Type} (d:α):∀(l:List α) (i j:Nat) (y:α),Zz d (Z7c d l i y) j=if i=j then y else Zz d l j
 | [],0,j,y=>by cases j <;> simp [Z7c,Zz]
 | [],i+1,j,y=>by
  cases j with
  | zero=>simp [Z7c,Zz]
  | succ j=>simp [Z7c,Zz,Zlh d [] i j y]
 | x::xs,0,j,y=>by cases j <;> simp [Z7c,Zz]
 | x::xs,i+1,j,y=>by
  cases j with
  | zero=>simp [Z7c,Zz]
  | succ j=>simp [Z7c,Zz,Zlh d xs i j y]
def ba (s:Str):ByteArray:=⟨⟨s⟩⟩
def Zig (w:World) (g o:Nat) (cs:List Value):Prop:=∀(i:Nat) (v:Value),cs[i]? = some v→w.cell? ⟨g,o+i,none⟩=some v
def Rep (w:World) (F:Nat→Prop):(t:Ty)→t.T→List Value→Prop
 | .int k,n,cs=>cs=[.int k n]
 | .bool,b,cs=>cs=[.bool b]
 | .str,s,cs=>cs=[.string (ba s)]
 | .sl r,l,cs=>∃A c,cs=[.slice A l.length c]∧l.length≤c∧(l=[]∨∃g o,A=some ⟨g,o,none⟩∧F g∧∀(j:Nat) (x:r.T),l[j]? = some x→∃c,Zig w g (o+j*r.sz) c∧Rep w F r x c)
 | .pair a b,x,cs=>∃c1 c2,cs=c1++c2∧Rep w F a x.1 c1∧Rep w F b x.2 c2
 | .unit,_,cs=>cs=[]
theorem Rep.len {w:World} {F:Nat→Prop}:∀{t:Ty} {x:t.T} {cs:List Value},Rep w F t x cs→cs.length=t.sz
 | .int _,_,_,h=>by cases h;rfl
 | .bool,_,_,h=>by cases h;rfl
 | .str,_,_,h=>by cases h;rfl
 | .sl _,_,_,h=>by obtain ⟨A,c,rfl,_⟩:=h;rfl
 | .pair a b,_,_,h=>by
  obtain ⟨c1,c2,rfl,h1,h2⟩:=h;rw [List.length_append,Rep.len h1,Rep.len h2];rfl
 | .unit,_,_,h=>by cases h;rfl
theorem Rep.one {w:World} {F:Nat→Prop}:∀{t:Ty} {x:t.T} {cs:List Value},Rep w F t x cs→∀u∈cs,u.oneCell'=true
 | .int _,_,_,h,u,hu=>by cases h;rw [Yh.1 hu];rfl
 | .bool,_,_,h,u,hu=>by cases h;rw [Yh.1 hu];rfl
 | .str,_,_,h,u,hu=>by cases h;rw [Yh.1 hu];rfl
 | .sl _,_,_,h,u,hu=>by obtain ⟨A,c,rfl,_⟩:=h;rw [Yh.1 hu];rfl
 | .pair a b,_,_,h,u,hu=>by
  obtain ⟨c1,c2,rfl,h1,h2⟩:=h;rcases List.mem_append.1 hu with hu | hu
  ·exact Rep.one h1 u hu
  ·exact Rep.one h2 u hu
 | .unit,_,_,h,u,hu=>by cases h;cases hu
theorem Zig.move {w w':World} {g o:Nat} {cs:List Value} (h:Zig w g o cs) (hb:w'.heap[g]? = w.heap[g]?):Zig w' g o cs:=fun i v hv=>(World.cell?_of_block (w:=w) (a:=⟨g,o+i,none⟩) hb).trans (h i v hv)
theorem Rep.move {w w':World} {F F':Nat→Prop} (hb:∀b,F b→w'.heap[b]? = w.heap[b]?∧F' b):∀{t:Ty} {x:t.T} {cs:List Value},Rep w F t x cs→Rep w' F' t x cs
 | .int _,_,_,h=>h
 | .bool,_,_,h=>h
 | .str,_,_,h=>h
 | .sl r,_,_,h=>by
  obtain ⟨A,c,rfl,hl,h⟩:=h;refine ⟨A,c,rfl,hl,h.imp id ?_⟩;rintro ⟨g,o,rfl,hg,hx⟩;refine ⟨g,o,rfl,(hb g hg).2,fun j x hj=>?_⟩;obtain ⟨c,h1,h2⟩:=hx j x hj;exact ⟨c,h1.move (hb g hg).1,Rep.move hb h2⟩
 | .pair a b,_,_,h=>by
  obtain ⟨c1,c2,rfl,h1,h2⟩:=h;exact ⟨c1,c2,rfl,Rep.move hb h1,Rep.move hb h2⟩
 | .unit,_,_,h=>h
inductive Conc where
 | blk (g:Nat)
 | row (v:Value)
 | frz (v:Value)
 | dead
abbrev Rho:=Nat→Option Conc
def Zzf:Value→Option Nat
 | .slice (some a) _ _=>some a.block
 | .map (some g)=>some g
 | .pointer (some a)=>some a.block
 | _=>none
theorem Zoob (A:Option Addr) (n c:Nat):Zzf (.slice A n c)=(Value.slice A n c).ownBlock:=by cases A <;> rfl
def Zhh:List MapEntry→List Int→Prop
 | [],[]=>True
 | x::xs,k::ks=>x.key = .int .i64 k∧x.val = .bool true∧Zhh xs ks
 | _,_=>False
def owns:Option Conc→Nat→Prop
 | some (.blk g),b=>b=g
 | some (.row v),b=>Zzf v=some b
 | _,_=>False
def Fix (X:Nat→Prop) (ρ:Rho) (w:World) (b:Nat):Prop:=b<w.heap.size∧¬X b∧∀i,¬owns (ρ i) b
def Brw (ρ:Rho) (w:World) (b:Nat):Prop:=b<w.heap.size∧∀i,¬owns (ρ i) b
def Z31 (v:Value):Prop:=(∃A m c,v = .slice A m c)∨(∃g,v = .map g)∨∃g,v = .pointer (some ⟨g,0,none⟩)
def Zlb (X:Nat→Prop) (ρ:Rho) (w:World):Leaf→Value→Prop
 | .int k n,v=>v = .int k n
 | .bool b,v=>v = .bool b
 | .kb b,v=>v = .bool b
 | .str s,v=>v = .string (ba s)
 | .nil,v=>v = .slice none 0 0
 | .list r l,v=>Rep w (Fix X ρ w) (.sl r) l [v]
 | .bor r l,v=>Rep w (Brw ρ w) (.sl r) l [v]
 | .rp t x,v=>∃g o cs,v = .pointer (some ⟨g,o,none⟩)∧Brw ρ w g∧Zig w g o cs∧Rep w (Brw ρ w) t x cs
 | .own n,v=>Z31 v∧(match ρ n with
  | some (.row u)=>v=u
  | some (.frz u)=>v=u
  | some .dead=>True
  | _=>False)
 | .ptr b off,v=>(∃A,v = .pointer A)∧(match ρ b with
  | some (.blk g)=>v = .pointer (some ⟨g,off,none⟩)
  | some .dead=>True
  | _=>False)
 | .unk,v=>v.oneCell'=true
def Zq (X:Nat→Prop) (ρ:Rho) (w:World):List Leaf→List Value→Prop
 | [],[]=>True
 | x::xs,v::vs=>Zlb X ρ w x v∧Zq X ρ w xs vs
 | _,_=>False
def Ztm (X:Nat→Prop) (ρ:Rho) (w:World) (p:Bool×List Leaf) (v:Value):Prop:=if p.1 then ∃cs,v = .agg cs∧Zq X ρ w p.2 cs.toList else Zq X ρ w p.2 [v]
def Zwl (X:Nat→Prop) (ρ:Rho) (w:World):List (Bool×List Leaf)→List Value→Prop
 | [],[]=>True
 | x::xs,v::vs=>Ztm X ρ w x v∧Zwl X ρ w xs vs
 | _,_=>False
def Zsm (c:Option Conc) (i:Int) (z off:Nat) (v:Value):Prop:=match c with
 | some (.row u)=>∃g m c,u = .slice (some ⟨g,0,none⟩) m c∧0≤i∧v = .pointer (some ⟨g,i.toNat*z+off,none⟩)
 | some _=>True
 | none=>False
def Z7n (c:Option Conc) (i:Int) (z:Nat) (v:Value):Prop:=match c with
 | some (.row u)=>0≤i∧((u = .slice none 0 0∧i=0∧v = .slice none 0 0)∨∃g m c,u = .slice (some ⟨g,0,none⟩) m c∧i.toNat≤m∧m≤c∧v = .slice (some ⟨g,if c=i.toNat then 0 else i.toNat*z,none⟩) (m-i.toNat) (c-i.toNat))
 | some _=>True
 | none=>False
def Zcp (c:Option Conc) (j:Int) (v:Value):Prop:=match c with
 | some (.row u)=>∃g,u = .pointer (some ⟨g,0,none⟩)∧0≤j∧v = .pointer (some ⟨g,j.toNat,none⟩)
 | some _=>True
 | none=>False
def Z4 (X:Nat→Prop) (ρ:Rho) (w:World):AV→Value→Prop
 | .unk,_=>True
 | .undef,v=>v=undef
 | .one x,v=>Zlb X ρ w x v
 | .agg xs,v=>∃cs,v = .agg cs∧Zq X ρ w xs cs.toList
 | .tup xs,v=>∃vs,v = .tuple vs∧Zwl X ρ w xs vs.toList
 | .eptr xs,v=>∃g o cs,v = .pointer (some ⟨g,o,none⟩)∧Brw ρ w g∧Zig w g o cs∧Zq X ρ w xs cs
 | .aptr n i z off,v=>Zsm (ρ n) i z off v
 | .tl n i z,v=>Z7n (ρ n) i z v
 | .dptr n j,v=>Zcp (ρ n) j v
 | .full r l,v=>(∃A,v = .slice A l.length l.length)∧Rep w (Brw ρ w) (.sl r) l [v]
 | .fn f xs,v=>∃cs,v = .func (.func f) #[] cs∧Zq X ρ w xs cs.toList
 | .gd _ _ _,_=>False
def Zxl (X:Nat→Prop) (ρ:Rho) (w:World) (tm:Nat→Value) (t:Nat) (b:Bool) (x:AV) (v:Value):Prop:=(tm t = .bool b∧Z4 X ρ w x v)∨(tm t≠.bool b∧v=undef)
def Z8n (fr:Nat×Nat) (n:Nat):Prop:=fr=(0,0)∨n≤fr.1
def Zfc (w:World) (F:Nat→Prop) (z:Bool) (e:TypeId) (r:Ty) (v:Value) (l:List r.T):Prop:=(v = .slice none 0 0∧l=[]) ∨ ∃g cap cs fr,v = .slice (some ⟨g,0,none⟩) l.length cap∧w.heap[g]? = some (.cells cs e fr)∧Z8n fr cs.size∧(z=false→fr=(0,0)∧cap≤maxLen)∧l.length≤cap∧cs.size=cap*r.sz ∧ ∀(j:Nat) (x:r.T),l[j]? = some x→Rep w F r x ((cs.toList.drop (j*r.sz)).take r.sz)
def Z6n (w:World) (r:Ty) (v:Value) (l:List r.T):Prop:=∃g es clk,∃h:r = .int .i64,v = .map (some g)∧w.heap[g]? = some (.map es clk)∧Zhh es.toList (h▸l:List (Ty.int .i64).T)
def Zwm (w:World) (e:TypeId) (r:Ty) (v:Value) (l:List r.T):Prop:=∃g cs ty k,∃h:r = .int k,Zdi k=true∧Zjn e=true∧v = .pointer (some ⟨g,0,none⟩)∧w.heap[g]? = some (.cells cs ty (0,0))∧l.length=e-2000000∧cs.toList=(h▸l:List (Ty.int k).T).map fun n=>Value.int k n
def Zac (w:World) (F:Nat→Prop) (z:Bool) (e:TypeId) (r:Ty) (v:Value) (l:List r.T):Prop:=match Z0 e with
 | false=>Zfc w F z e r v l
 | true=>z=false∧(Z6n w r v l∨Zwm w e r v l)
theorem Zac.slice {w:World} {F:Nat→Prop} {z:Bool} {e:TypeId} {r:Ty} {v:Value} {l:List r.T} (h:Zac w F z e r v l) (he:Z0 e=false):Zfc w F z e r v l:=by
 unfold Zac at h
 rw [he] at h
 exact h
theorem Zfc.ok {w:World} {F:Nat→Prop} {z:Bool} {e:TypeId} {r:Ty} {v:Value} {l:List r.T} (h:Zfc w F z e r v l) (he:Z0 e=false):Zac w F z e r v l:=by
 unfold Zac
 rw [he]
 exact h
theorem Zac.cases {w:World} {F:Nat→Prop} {z:Bool} {e:TypeId} {r:Ty} {v:Value} {l:List r.T} (h:Zac w F z e r v l):(Z0 e=false∧Zfc w F z e r v l)∨(Z0 e=true∧z=false∧(Z6n w r v l∨Zwm w e r v l)):=by
 unfold Zac at h
 cases he:Z0 e with
 | false=>rw [he] at h;exact .inl ⟨rfl,h⟩
 | true=>rw [he] at h;exact .inr ⟨rfl,h⟩
theorem Z6n.ok {w:World} {F:Nat→Prop} {e:TypeId} {r:Ty} {v:Value} {l:List r.T} (h:Z6n w r v l) (he:Z0 e=true):Zac w F false e r v l:=by
 unfold Zac
 rw [he]
 exact ⟨rfl,.inl h⟩
theorem Zbcb {e:TypeId} (h:Zjn e=true):Z0 e=true:=Nat.ble_eq.mpr (Yl (by decide) (Nat.le_of_ble_eq_true h))
theorem Zwm.ok {w:World} {F:Nat→Prop} {e:TypeId} {r:Ty} {v:Value} {l:List r.T} (h:Zwm w e r v l):Zac w F false e r v l:=by
 have he:Z0 e=true:=by
  obtain ⟨_,_,_,_,_,_,h1,_⟩:=h;exact Zbcb h1
 unfold Zac
 rw [he]
 exact ⟨rfl,.inr h⟩
theorem Zac.form {w:World} {F:Nat→Prop} {z:Bool} {e:TypeId} {r:Ty} {v:Value} {l:List r.T} (h:Zac w F z e r v l):Z31 v:=by
 rcases h.cases with ⟨_,h⟩ | ⟨_,_,⟨g,_,_,_,rfl,_⟩ | ⟨g,_,_,_,_,_,_,rfl,_⟩⟩
 ·rcases h with ⟨rfl,_⟩ | ⟨_,_,_,_,rfl,_⟩ <;> exact .inl ⟨_,_,_,rfl⟩
 ·exact .inr (.inl ⟨_,rfl⟩)
 ·exact .inr (.inr ⟨_,rfl⟩)
def Zid (X:Nat→Prop) (ρ:Rho) (w:World):Ent→Option Conc→Prop
 | .free,_=>True
 | .box t xs,c=>∃g cs fr,c=some (.blk g)∧w.heap[g]? = some (.cells cs t fr)∧Z8n fr cs.size∧Zq X ρ w xs cs.toList
 | .arr z e r l,c=>∃v,c=some (.row v)∧Zac w (Fix X ρ w) z e r v l
 | .frz r l,c=>∃v,c=some (.frz v)∧Rep w (Fix X ρ w) (.sl r) l [v]
def Z1 (a:Act) (i:Nat):Value:=a.tmps.getD i undef
def St.fr (st:St) (i:Nat):Prop:=(st.nb≤i∧i<st.lim)∨∃p∈st.res,p.1≤i∧i<p.2
def Zzk (ρ:Rho) (st:St):Prop:=(∀i,st.fr i→ρ i=none)∧∀p∈st.res,p.2≤st.nb∨st.lim≤p.1
def Gl1 (w:World) (n:Nat) (r:Ty) (l:List r.T):Prop:=n<w.heap.size∧Rep w (fun b=>b=n) (.sl r) l [.slice (some ⟨n,0,none⟩) l.length l.length]∧∃cs ty fr,w.heap[n]? = some (.cells cs ty fr)∧cs.size=l.length*r.sz
def GlI (w:World) (n:Nat):Ty→Prop
 | .int k=>∃m,w.cell? ⟨n,0,none⟩=some (.int k m)
 | .unit=>∃v,w.cell? ⟨n,0,none⟩=some v∧(v = .nilIface∨∃t p,v = .iface t p)
 | _=>False
def GlK (w:World) (n:Nat) (r:Ty):List r.T→Prop
 | []=>n<w.heap.size∧GlI w n r
 | x::l=>Gl1 w n r (x::l)
def GlW (w:World):Prop:=∀n r l,GL n=some ⟨r,l⟩→GlK w n r l
theorem GlK.row {w:World} {n:Nat} {r:Ty} {l:List r.T} (h:GlK w n r l) {i:Nat} {x:r.T} (hx:l[i]? = some x):Gl1 w n r l:=by
 cases l with
 | nil=>cases hx
 | cons y l=>exact h
theorem GlK.lt {w:World} {n:Nat} {r:Ty} {l:List r.T} (h:GlK w n r l):n<w.heap.size:=by
 cases l with
 | nil=>exact h.1
 | cons y l=>exact (show Gl1 w n r (y::l) from h).1
def Glo (ρ:Rho) (w:World):Prop:=GlW w∧∀n,GL n≠none→∀i,¬owns (ρ i) n
def Glx (G:List Nat) (w:World):Prop:=GlW w∧∀n,GL n≠none→n∉G
structure Rel (X:Nat→Prop) (ρ:Rho) (st:St) (a:Act) (w:World):Prop where
 defers:a.defers=[]
 size:a.tmps.size=st.n
 sep:∀i j b,owns (ρ i) b→owns (ρ j) b→i=j
 lt:∀i b,owns (ρ i) b→b<w.heap.size∧¬X b
 ents:∀i,Zid X ρ w (st.ent i) (ρ i)
 tmps:∀i,Z4 X ρ w (Zz .unk st.tmps i) (Z1 a i)
 gs:∀i t b x,(i,t,b,x)∈st.gs→Zxl X ρ w (Z1 a) t b x (Z1 a i)
 fresh:Zzk ρ st
 xlt:∀b,X b→b<w.heap.size
 gl:Glo ρ w
structure Ext (ρ:Rho) (w:World) (ρ':Rho) (w':World):Prop where
 os:w'.os=w.os
 tape:w'.tape=w.tape
 output:w'.output=w.output
 size:w.heap.size≤w'.heap.size
 keep:∀b,b<w.heap.size→(∀i,¬owns (ρ i) b)→w'.heap[b]? = w.heap[b]?
 own:∀i b,owns (ρ' i) b→(∃j,owns (ρ j) b)∨w.heap.size≤b
 conc:∀i c,ρ i=some c→ρ' i=some c∨ρ' i=some .dead∨∃v,c = .row v∧ρ' i=some (.frz v)
theorem GlI.move {w w':World} {n:Nat} (hn:w'.heap[n]? = w.heap[n]?):∀{r:Ty},GlI w n r→GlI w' n r:=by
 have hc:w'.cell? ⟨n,0,none⟩=w.cell? ⟨n,0,none⟩:=by
  simp only [World.cell?,hn]
 intro r h
 cases r with
 | int k=>
  obtain ⟨m,hm⟩:=h;exact ⟨m,hc.trans hm⟩
 | unit=>
  obtain ⟨v,hv,q⟩:=h;exact ⟨v,hc.trans hv,q⟩
 | _=>exact h.elim
theorem GlW.move {w w':World} (h:GlW w) (hs:w.heap.size≤w'.heap.size) (hb:∀n,GL n≠none→w'.heap[n]? = w.heap[n]?):GlW w':=fun n r l e=>by
 have hn:=hb n (by rw [e];exact fun q=>nomatch q)
 have hk:=h n r l e
 cases l with
 | nil=>exact ⟨Yd hk.1 hs,GlI.move hn hk.2⟩
 | cons y l=>
  obtain ⟨h1,h2,cs,ty,fr,h3,h4⟩:=(show Gl1 w n r (y::l) from hk);exact (show Gl1 w' n r (y::l) from ⟨Yd h1 hs,Rep.move (fun b hq=>by subst hq;exact ⟨hn,rfl⟩) h2,cs,ty,fr,hn.trans h3,h4⟩)
theorem GlW.lt {w:World} (h:GlW w) {n:Nat} (hn:GL n≠none):n<w.heap.size:=by
 cases e:GL n with
 | none=>exact absurd e hn
 | some p=>exact (h n p.1 p.2 e).lt
theorem Glo.ext {ρ ρ':Rho} {w w':World} (h:Glo ρ w) (x:Ext ρ w ρ' w'):Glo ρ' w':=
 ⟨h.1.move x.size fun n hn=>x.keep n (h.1.lt hn) (h.2 n hn),fun n hn i hi=>by
  rcases x.own i n hi with ⟨j,hj⟩ | hj
  ·exact h.2 n hn j hj
  ·exact absurd (h.1.lt hn) (Nat.not_lt.2 hj)⟩
theorem Ext.refl (ρ:Rho) (w:World):Ext ρ w ρ w:=⟨rfl,rfl,rfl,Yg _,fun _ _ _=>rfl,fun i _ h=>.inl ⟨i,h⟩,fun _ _ h=>.inl h⟩
theorem Ext.trans {ρ ρ1 ρ2:Rho} {w w1 w2:World} (h:Ext ρ w ρ1 w1) (k:Ext ρ1 w1 ρ2 w2):Ext ρ w ρ2 w2:=by
 refine ⟨k.os.trans h.os,k.tape.trans h.tape,k.output.trans h.output,Yl h.size k.size,?_,?_,?_⟩
 ·intro b hb hn
  refine (k.keep b (Yd hb h.size) (fun i hi=>?_)).trans (h.keep b hb hn);rcases h.own i b hi with ⟨j,hj⟩ | hj
  ·exact hn j hj
  ·omega
 ·intro i b hi
  rcases k.own i b hi with ⟨j,hj⟩ | hj
  ·exact h.own j b hj
  ·exact .inr (Yl h.size hj)
 ·intro i c hc
  rcases h.conc i c hc with h1 | h1 | ⟨v,rfl,h1⟩
  ·exact k.conc i c h1
  ·rcases k.conc i _ h1 with h2 | h2 | ⟨v,h2,_⟩
   ·exact .inr (.inl h2)
   ·exact .inr (.inl h2)
   ·cases h2
  ·rcases k.conc i _ h1 with h2 | h2 | ⟨v,h2,_⟩
   ·exact .inr (.inr ⟨_,rfl,h2⟩)
   ·exact .inr (.inl h2)
   ·cases h2
theorem Ext.fix {X:Nat→Prop} {ρ ρ':Rho} {w w':World} (h:Ext ρ w ρ' w') (b:Nat) (hb:Fix X ρ w b):w'.heap[b]? = w.heap[b]?∧Fix X ρ' w' b:=by
 obtain ⟨h1,h2,h3⟩:=hb
 refine ⟨h.keep b h1 h3,Yd h1 h.size,h2,fun i hi=>?_⟩
 rcases h.own i b hi with ⟨j,hj⟩ | hj
 ·exact h3 j hj
 ·omega
theorem Fix.brw {X:Nat→Prop} {ρ:Rho} {w:World} {b:Nat} (h:Fix X ρ w b):Brw ρ w b:=⟨h.1,h.2.2⟩
theorem Ext.brw {ρ ρ':Rho} {w w':World} (h:Ext ρ w ρ' w') (b:Nat) (hb:Brw ρ w b):w'.heap[b]? = w.heap[b]?∧Brw ρ' w' b:=by
 obtain ⟨h1,h3⟩:=hb
 refine ⟨h.keep b h1 h3,Yd h1 h.size,fun i hi=>?_⟩
 rcases h.own i b hi with ⟨j,hj⟩ | hj
 ·exact h3 j hj
 ·omega
section
variable {X:Nat→Prop} {ρ ρ':Rho} {w w':World}
theorem Rep.ext {t:Ty} {x:t.T} {cs:List Value} (h:Rep w (Fix X ρ w) t x cs) (e:Ext ρ w ρ' w'):Rep w' (Fix X ρ' w') t x cs:=Rep.move (fun b hb=>e.fix b hb) h
theorem Zlb.ext {x:Leaf} {v:Value} (h:Zlb X ρ w x v) (e:Ext ρ w ρ' w'):Zlb X ρ' w' x v:=by
 cases x with
 | list r l=>exact Rep.ext (X:=X) (ρ:=ρ) h e
 | bor r l=>exact Rep.move (fun b hb=>e.brw b hb) h
 | rp t y=>
  obtain ⟨g,o,cs,h1,h2,h3,h4⟩:=h;exact ⟨g,o,cs,h1,(e.brw g h2).2,h3.move (e.brw g h2).1,Rep.move (fun b hb=>e.brw b hb) h4⟩
 | own n=>
  refine ⟨h.1,?_⟩;have h:=h.2;cases hn:ρ n with
  | none=>rw [hn] at h;exact h.elim
  | some c=>
   rw [hn] at h;rcases e.conc n c hn with h1 | h1 | ⟨u,rfl,h1⟩
   ·rw [h1];cases c <;> exact h
   ·rw [h1];trivial
   ·rw [h1];exact h
 | ptr b off=>
  refine ⟨h.1,?_⟩;have h:=h.2;cases hn:ρ b with
  | none=>rw [hn] at h;exact h.elim
  | some c=>
   rw [hn] at h;rcases e.conc b c hn with h1 | h1 | ⟨u,rfl,h1⟩
   ·rw [h1];cases c <;> exact h
   ·rw [h1];trivial
   ·exact h.elim
 | _=>exact h
theorem Zq.ext:∀{xs:List Leaf} {vs:List Value},Zq X ρ w xs vs→Ext ρ w ρ' w'→Zq X ρ' w' xs vs
 | [],[],_,_=>trivial
 | _::_,_::_,h,e=>⟨h.1.ext e,Zq.ext h.2 e⟩
 | [],_::_,h,_=>h.elim
 | _::_,[],h,_=>h.elim
theorem Zwl.ext:∀{xs:List (Bool×List Leaf)} {vs:List Value},Zwl X ρ w xs vs→Ext ρ w ρ' w'→Zwl X ρ' w' xs vs
 | [],[],_,_=>trivial
 | x::_,_::_,h,e=>by
  refine ⟨?_,Zwl.ext h.2 e⟩;have h1:=h.1;unfold Ztm at h1 ⊢;split
  ·rename_i hx
   rw [Xc hx] at h1;obtain ⟨cs,rfl,h1⟩:=h1;exact ⟨cs,rfl,h1.ext e⟩
  ·rename_i hx
   rw [Xd hx] at h1;exact h1.ext e
 | [],_::_,h,_=>h.elim
 | _::_,[],h,_=>h.elim
theorem Z4.ext:∀{x:AV} {v:Value},Z4 X ρ w x v→Ext ρ w ρ' w'→Z4 X ρ' w' x v
 | .unk,_,_,_=>trivial
 | .undef,_,h,_=>h
 | .one _,_,h,e=>Zlb.ext h e
 | .agg _,_,h,e=>by obtain ⟨cs,rfl,h⟩:=h;exact ⟨cs,rfl,h.ext e⟩
 | .tup _,_,h,e=>by obtain ⟨cs,rfl,h⟩:=h;exact ⟨cs,rfl,h.ext e⟩
 | .eptr _,_,h,e=>by
  obtain ⟨g,o,cs,rfl,hg,hc,h⟩:=h;exact ⟨g,o,cs,rfl,(e.brw g hg).2,hc.move (e.brw g hg).1,h.ext e⟩
 | .aptr n i z off,v,h,e=>by
  have h:Zsm (ρ n) i z off v:=h;show Zsm (ρ' n) i z off v;cases hn:ρ n with
  | none=>rw [hn] at h;exact h.elim
  | some c=>
   rw [hn] at h;rcases e.conc n c hn with h1 | h1 | ⟨u,rfl,h1⟩
   ·rw [h1];exact h
   ·rw [h1];trivial
   ·rw [h1];trivial
 | .tl n i z,v,h,e=>by
  have h:Z7n (ρ n) i z v:=h;show Z7n (ρ' n) i z v;cases hn:ρ n with
  | none=>rw [hn] at h;exact h.elim
  | some c=>
   rw [hn] at h;rcases e.conc n c hn with h1 | h1 | ⟨u,rfl,h1⟩
   ·rw [h1];exact h
   ·rw [h1];trivial
   ·rw [h1];trivial
 | .dptr n j,v,h,e=>by
  have h:Zcp (ρ n) j v:=h;show Zcp (ρ' n) j v;cases hn:ρ n with
  | none=>rw [hn] at h;exact h.elim
  | some c=>
   rw [hn] at h;rcases e.conc n c hn with h1 | h1 | ⟨u,rfl,h1⟩
   ·rw [h1];exact h
   ·rw [h1];trivial
   ·rw [h1];trivial
 | .full _ _,_,h,e=>⟨h.1,Rep.move (fun b hb=>e.brw b hb) h.2⟩
 | .fn _ _,_,h,e=>by obtain ⟨cs,rfl,h⟩:=h;exact ⟨cs,rfl,h.ext e⟩
 | .gd _ _ _,_,h,_=>h.elim
theorem Zac.ext {z:Bool} {e:TypeId} {r:Ty} {v:Value} {l:List r.T} (h:Zac w (Fix X ρ w) z e r v l) (x:Ext ρ w ρ' w') (hb:∀b,Zzf v=some b→w'.heap[b]? = w.heap[b]?):Zac w' (Fix X ρ' w') z e r v l:=by
 rcases h.cases with ⟨he,h⟩ | ⟨he,rfl,⟨g,es,clk,hr,rfl,hg,hk⟩ | ⟨g,cs,ty,k,hr,h1,h2,rfl,hg,h3,h4⟩⟩
 ·rcases h with h | ⟨g,cap,cs,fr,rfl,hg,hrest⟩
  ·exact Zfc.ok (.inl h) he
  ·refine Zfc.ok (.inr ⟨g,cap,cs,fr,rfl,(hb g rfl).trans hg,?_⟩) he
   obtain ⟨h1,h2,h3,h5,h6⟩:=hrest;exact ⟨h1,h2,h3,h5,fun j y hj=>(h6 j y hj).ext x⟩
 ·exact Z6n.ok ⟨g,es,clk,hr,rfl,(hb g rfl).trans hg,hk⟩ he
 ·exact Zwm.ok ⟨g,cs,ty,k,hr,h1,h2,rfl,(hb g rfl).trans hg,h3,h4⟩
theorem Zid.ext {e:Ent} {i:Nat} (h:Zid X ρ w e (ρ i)) (x:Ext ρ w ρ' w') (hc:ρ' i=ρ i) (hb:∀b,owns (ρ i) b→w'.heap[b]? = w.heap[b]?):Zid X ρ' w' e (ρ' i):=by
 rw [hc]
 cases e with
 | free=>trivial
 | box t xs=>
  obtain ⟨g,cs,fr,h0,h1,h2,h3⟩:=h;exact ⟨g,cs,fr,h0,(hb g (by rw [h0];rfl)).trans h1,h2,h3.ext x⟩
 | arr z e r l=>
  obtain ⟨v,h0,h1⟩:=h;exact ⟨v,h0,h1.ext x (fun b hb'=>hb b (by rw [h0];exact hb'))⟩
 | frz r l=>
  obtain ⟨v,h0,h1⟩:=h;exact ⟨v,h0,h1.ext x⟩
end
theorem Z3ab:∀{gs:List (Nat×Nat×Bool×AV)} {i:Nat} {v:AV},Z3v gs i=some v→∃t b x,v = .gd t b x∧(i,t,b,x)∈gs
 | [],_,_,h=>by cases h
 | (j,t,b,x)::r,i,v,h=>by
  unfold Z3v at h;cases hji:Ya j i with
  | true=>
   rw [hji] at h;obtain rfl:=Yf hji;cases h;exact ⟨t,b,x,rfl,Yj⟩
  | false=>
   rw [hji] at h;obtain ⟨t',b',x',h1,h2⟩:=Z3ab h;exact ⟨t',b',x',h1,Ye _ h2⟩
theorem Z0z:∀{gs:List (Nat×Nat×Bool×AV)} {d i t:Nat} {b:Bool} {x:AV},(i,t,b,x)∈Zbo gs d→(i,t,b,x)∈gs∧i≠d∧t≠d
 | [],_,_,_,_,_,h=>by cases h
 | (j,t',b',x')::r,d,i,t,b,x,h=>by
  unfold Zbo at h;cases hj:(Ya j d||Ya t' d) with
  | true=>
   rw [hj] at h;obtain ⟨h1,h2⟩:=Z0z h;exact ⟨Ye _ h1,h2⟩
  | false=>
   rw [hj] at h;rcases Yi.1 h with h | h
   ·cases h
    simp only [Bool.or_eq_false_iff] at hj;exact ⟨Yj,Ym hj.1,Ym hj.2⟩
   ·obtain ⟨h1,h2⟩:=Z0z h
    exact ⟨Ye _ h1,h2⟩
theorem Zf5:∀{gs:List (Nat×Nat×Bool×AV)} {d i t:Nat} {b:Bool} {x:AV},(i,t,b,x)∈Z6v gs d→(i,t,b,x)∈gs
 | [],_,_,_,_,_,h=>by cases h
 | (j,t',b',x')::r,d,i,t,b,x,h=>by
  unfold Z6v at h;cases hj:Ya j d with
  | true=>rw [hj] at h;exact Ye _ (Zf5 h)
  | false=>
   rw [hj] at h;rcases Yi.1 h with h | h
   ·cases h;exact Yj
   ·exact Ye _ (Zf5 h)
def Zci (a:Act) (d:Nat) (v:Value):Act:={ a with tmps:=a.tmps.setIfInBounds d v }
theorem Zul (a:Act) (d:Nat) (v:Value) (hd:d<a.tmps.size) (i:Nat):Z1 (Zci a d v) i=if i=d then v else Z1 a i:=by
 unfold Z1 Zci
 by_cases h:i=d
 ·subst h
  simp [Array.getD,hd]
 ·rw [Xd h]
  simp only [Array.getD_eq_getD_getElem?,Array.getElem?_setIfInBounds];rw [Xd (fun e=>h e.symm)]
section
variable {X:Nat→Prop} {ρ ρ':Rho} {st:St} {a:Act} {w w':World}
theorem Rel.tmp (h:Rel X ρ st a w) (i:Nat):Z4 X ρ w (st.tmp i) (Z1 a i)∨∃t b x,st.tmp i = .gd t b x∧Zxl X ρ w (Z1 a) t b x (Z1 a i):=by
 unfold St.tmp
 cases hf:Z3v st.gs i with
 | none=>exact .inl (h.tmps i)
 | some v=>
  obtain ⟨t,b,x,rfl,hm⟩:=Z3ab hf;exact .inr ⟨t,b,x,rfl,h.gs i t b x hm⟩
theorem Rel.setT (h:Rel X ρ st a w) {d:Nat} {v:Value} {av:AV} (hd:d<st.n) (hv:Z4 X ρ w av v):Rel X ρ (st.setT d av) (Zci a d v) w:=by
 have hs:d<a.tmps.size:=by rw [h.size];exact hd
 refine ⟨h.defers,by simpa [Zci,St.setT] using h.size,h.sep,h.lt,h.ents,?_,?_,h.fresh,h.xlt,h.gl⟩
 ·intro i
  rw [Zul a d v hs];show Z4 X ρ w (Zz .unk (Z7c .unk st.tmps d av) i) _;rw [Zlh]
  by_cases hi:d=i
  ·rw [Xc hi,Xc hi.symm];exact hv
  ·rw [Xd hi,Xd (fun e=>hi e.symm)];exact h.tmps i
 ·intro i t b x hm
  obtain ⟨hm,h1,h2⟩:=Z0z hm;have:=h.gs i t b x hm;unfold Zxl at this ⊢;rw [Zul a d v hs,Zul a d v hs,Xd h1,Xd h2];exact this
theorem Rel.setG (h:Rel X ρ st a w) {d t:Nat} {b:Bool} {v:Value} {av:AV} (hd:d<st.n) (hv:Zxl X ρ w (Z1 a) t b av v):Rel X ρ (st.setG d t b av) (Zci a d v) w:=by
 have hs:d<a.tmps.size:=by rw [h.size];exact hd
 refine ⟨h.defers,by simpa [Zci,St.setG] using h.size,h.sep,h.lt,h.ents,?_,?_,h.fresh,h.xlt,h.gl⟩
 ·intro i
  rw [Zul a d v hs];show Z4 X ρ w (Zz .unk (Z7c .unk st.tmps d .unk) i) _;rw [Zlh]
  by_cases hi:d=i
  ·rw [Xc hi];trivial
  ·rw [Xd hi,Xd (fun e=>hi e.symm)];exact h.tmps i
 ·have old:∀i t b x,(i,t,b,x)∈Zbo st.gs d→Zxl X ρ w (Z1 (Zci a d v)) t b x (Z1 (Zci a d v) i):=by
   intro i t b x hm;obtain ⟨hm,h1,h2⟩:=Z0z hm;have:=h.gs i t b x hm;unfold Zxl at this ⊢;rw [Zul a d v hs,Zul a d v hs,Xd h1,Xd h2];exact this
  intro i t' b' x hm;unfold St.setG at hm;dsimp only at hm;cases hdt:Ya d t with
  | true=>rw [hdt] at hm;exact old i t' b' x hm
  | false=>
   rw [hdt] at hm;rcases Yi.1 hm with hm | hm
   ·cases hm
    unfold Zxl at hv ⊢;rw [Zul a d v hs,Zul a d v hs,Xc rfl,Xd (fun e=>(Ym hdt) e.symm)];exact hv
   ·exact old i t' b' x hm
theorem Rel.refT (h:Rel X ρ st a w) {d:Nat} {av:AV} (hv:Z4 X ρ w av (Z1 a d)):Rel X ρ (st.refT d av) a w:=by
 refine ⟨h.defers,h.size,h.sep,h.lt,h.ents,?_,fun i t b x hm=>h.gs i t b x (Zf5 hm),h.fresh,h.xlt,h.gl⟩
 intro i
 show Z4 X ρ w (Zz .unk (Z7c .unk st.tmps d av) i) _
 rw [Zlh]
 by_cases hi:d=i
 ·subst hi;rw [Xc rfl];exact hv
 ·rw [Xd hi];exact h.tmps i
theorem Rel.clear (h:Rel X ρ st a w):Rel X ρ { st with gs:=[] } a w:=⟨h.defers,h.size,h.sep,h.lt,h.ents,h.tmps,(fun _ _ _ _ hm=>nomatch hm),h.fresh,h.xlt,h.gl⟩
theorem Rel.put (h:Rel X ρ st a w) {d:Option Tmp} {v:Value} {av:AV} (hd:∀i,d=some i→i<st.n) (hv:Z4 X ρ w av v):Rel X ρ (st.put d av) (a.put d v) w:=by
 cases d with
 | none=>exact h
 | some i=>exact h.setT (hd i rfl) hv
theorem Rel.putG (h:Rel X ρ st a w) {d:Option Tmp} {t:Nat} {b:Bool} {v:Value} {av:AV} (hd:∀i,d=some i→i<st.n) (hv:Zxl X ρ w (Z1 a) t b av v):Rel X ρ (st.putG d t b av) (a.put d v) w:=by
 cases d with
 | none=>exact h
 | some i=>exact h.setG (hd i rfl) hv
def upd (ρ:Rho) (i:Nat) (c:Option Conc):Rho:=fun j=>if j=i then c else ρ j
theorem Zzi (ρ:Rho) (i:Nat) (c:Option Conc):upd ρ i c i=c:=by simp [upd]
theorem Z4g (ρ:Rho) {i j:Nat} (c:Option Conc) (h:j≠i):upd ρ i c j=ρ j:=by simp [upd,h]
theorem Zkg (st:St) (i:Nat) (e:Ent) (j:Nat):(st.setB i e).ent j=if i=j then e else st.ent j:=Zlh _ _ _ _ _
theorem Zck (st:St) (e:Ent) (j:Nat):(st.newB e).ent j=if st.nb=j then e else st.ent j:=Zlh _ _ _ _ _
theorem Rel.step (h:Rel X ρ st a w) (i:Nat) (e:Ent) (c:Option Conc) (x:Ext ρ w (upd ρ i c) w')
  (hX:∀b,owns c b→b<w'.heap.size∧¬X b) (hown:∀j b,owns c b→owns (ρ j) b→j=i)
  (hkeep:∀j b,j≠i→owns (ρ j) b→w'.heap[b]? = w.heap[b]?) (he:Zid X (upd ρ i c) w' e c)
  {st':St} (hn:st'.n=st.n) (ht:st'.tmps=st.tmps) (hg:st'.gs=st.gs) (hent:∀j,st'.ent j=if i=j then e else st.ent j)
  (hfresh:Zzk (upd ρ i c) st'):Rel X (upd ρ i c) st' a w':=by
 refine ⟨h.defers,by rw [hn];exact h.size,?_,?_,?_,?_,?_,hfresh,fun b hb=>Yd (h.xlt b hb) x.size,h.gl.ext x⟩
 ·intro j k b hj hk
  by_cases hji:j=i
  ·subst hji
   rw [Zzi] at hj
   by_cases hki:k=j
   ·exact hki.symm
   ·rw [Z4g ρ c hki] at hk;exact (hown k b hj hk).symm
  ·rw [Z4g ρ c hji] at hj
   by_cases hki:k=i
   ·subst hki;rw [Zzi] at hk;exact hown j b hk hj
   ·rw [Z4g ρ c hki] at hk;exact h.sep j k b hj hk
 ·intro j b hj
  by_cases hji:j=i
  ·subst hji;rw [Zzi] at hj;exact hX b hj
  ·rw [Z4g ρ c hji] at hj
   exact ⟨Yd (h.lt j b hj).1 x.size,(h.lt j b hj).2⟩
 ·intro j
  rw [hent j]
  by_cases hji:j=i
  ·subst hji;rw [Xc rfl,Zzi];exact he
  ·rw [Xd (fun e=>hji e.symm)]
   exact Zid.ext (h.ents j) x (Z4g ρ c hji) (fun b hb=>hkeep j b hji hb)
 ·intro j
  rw [ht];exact (h.tmps j).ext x
 ·intro j t b y hm
  rw [hg] at hm;exact (h.gs j t b y hm).imp (fun h=>⟨h.1,h.2.ext x⟩) id
theorem Ext.slot (x:Ext ρ w ρ w') {n:Nat} {c:Conc} (hn:ρ n=none) (hc:∀b,owns (some c) b→w.heap.size≤b):Ext ρ w (upd ρ n (some c)) w':=by
 refine ⟨x.os,x.tape,x.output,x.size,x.keep,?_,?_⟩
 ·intro i b hi
  by_cases hii:i=n
  ·subst hii;rw [Zzi] at hi;exact .inr (hc b hi)
  ·rw [Z4g ρ _ hii] at hi;exact .inl ⟨i,hi⟩
 ·intro i c' hi
  by_cases hii:i=n
  ·subst hii;rw [hn] at hi;cases hi
  ·rw [Z4g ρ _ hii];exact .inl hi
theorem Zzk.upd {st':St} (h:Zzk ρ st) {n:Nat} {c:Option Conc} (hn:ρ n≠none) (h1:st'.nb=st.nb) (h2:st'.lim=st.lim) (h3:st'.res=st.res):Zzk (upd ρ n c) st':=by
 refine ⟨fun j hj=>?_,by rw [h1,h2,h3];exact h.2⟩
 have hj':st.fr j:=by unfold St.fr at hj ⊢;rw [h1,h2,h3] at hj;exact hj
 by_cases hjn:j=n
 ·subst hjn;exact (hn (h.1 j hj')).elim
 ·rw [Z4g ρ _ hjn];exact h.1 j hj'
theorem Zzk.newB (h:Zzk ρ st) (hlt:st.nb<st.lim) (e:Ent) (c:Option Conc):Zzk (Go.Proofs.Qz.upd ρ st.nb c) (st.newB e):=by
 refine ⟨fun j hj=>?_,fun p hp=>(h.2 p hp).imp (fun k=>Nat.le_succ_of_le k) id⟩
 have hne:j≠st.nb:=by
  rcases hj with hj | ⟨p,hp,hj⟩
  ·exact fun e=>by subst e;exact Nat.lt_irrefl _ hj.1
  ·rintro rfl
   rcases h.2 p hp with k | k <;> omega
 rw [Z4g ρ _ hne]
 refine h.1 j ?_
 rcases hj with hj | hj
 ·exact .inl ⟨Nat.le_of_succ_le hj.1,hj.2⟩
 ·exact .inr hj
theorem Zvj {α R:Type} {e:Ent} {k:Nat→M α} {st:St} {K:α→St→Option R} {r:R} (h:(M.new e k).run st K=some r):st.nb<st.lim∧(k st.nb).run (st.newB e) K=some r:=by
 replace h:(bif Yb st.nb st.lim then (k st.nb).run (st.newB e) K else none)=some r:=h
 cases hb:Yb st.nb st.lim with
 | false=>rw [hb] at h;cases h
 | true=>rw [hb] at h;exact ⟨(Nat.blt_eq).mp hb,h⟩
theorem Rel.new (h:Rel X ρ st a w) (hlt:st.nb<st.lim) (e:Ent) (c:Conc) (x:Ext ρ w ρ w') (hc:∀b,owns (some c) b→w.heap.size≤b∧b<w'.heap.size∧¬X b)
  (hkeep:∀j b,owns (ρ j) b→w'.heap[b]? = w.heap[b]?) (he:Zid X (upd ρ st.nb (some c)) w' e (some c)):
  Rel X (upd ρ st.nb (some c)) (st.newB e) a w'∧Ext ρ w (upd ρ st.nb (some c)) w':=by
 have hnb:ρ st.nb=none:=h.fresh.1 _ (.inl ⟨Yg _,hlt⟩)
 have x':Ext ρ w (upd ρ st.nb (some c)) w':=by
  refine ⟨x.os,x.tape,x.output,x.size,x.keep,?_,?_⟩
  ·intro i b hi
   by_cases hii:i=st.nb
   ·subst hii;rw [Zzi] at hi;exact .inr (hc b hi).1
   ·rw [Z4g ρ _ hii] at hi;exact .inl ⟨i,hi⟩
  ·intro i c' hi
   by_cases hii:i=st.nb
   ·subst hii;rw [hnb] at hi;cases hi
   ·rw [Z4g ρ _ hii];exact .inl hi
 refine ⟨h.step st.nb e (some c) x' (fun b hb=>(hc b hb).2) ?_ (fun j b _ hj=>hkeep j b hj) he rfl rfl rfl (fun j=>Zck st e j) (h.fresh.newB hlt e _),x'⟩
 intro j b hb hj
 have:=(h.lt j b hj).1
 have:=(hc b hb).1
 omega
theorem Rel.freeze (h:Rel X ρ st a w) {n:Nat} {z:Bool} {e:TypeId} {r:Ty} {l:List r.T} (he:st.ent n = .arr z e r l) (hm:Z0 e=false):
  ∃v,ρ n=some (.row v)∧Rel X (upd ρ n (some (.frz v))) (st.setB n (.frz r l)) a w∧Ext ρ w (upd ρ n (some (.frz v))) w∧Rep w (Fix X (upd ρ n (some (.frz v))) w) (.sl r) l [v]:=by
 have h0:=h.ents n
 rw [he] at h0
 obtain ⟨v,hv,hr⟩:=h0
 have x:Ext ρ w (upd ρ n (some (.frz v))) w:=by
  refine ⟨rfl,rfl,rfl,Yg _,fun _ _ _=>rfl,?_,?_⟩
  ·intro i b hi
   by_cases hin:i=n
   ·subst hin;rw [Zzi] at hi;exact hi.elim
   ·rw [Z4g ρ _ hin] at hi;exact .inl ⟨i,hi⟩
  ·intro i c hi
   by_cases hin:i=n
   ·subst hin
    rw [hv] at hi;cases hi;exact .inr (.inr ⟨v,rfl,Zzi _ _ _⟩)
   ·rw [Z4g ρ _ hin];exact .inl hi
 have hrep:Rep w (Fix X (upd ρ n (some (.frz v))) w) (.sl r) l [v]:=by
  rcases hr.slice hm with ⟨rfl,rfl⟩ | ⟨g,cap,cs,fr,rfl,hg,hu,_,hl,hsz,hx⟩
  ·exact ⟨none,0,rfl,Yg _,.inl rfl⟩
  ·refine ⟨_,cap,rfl,hl,.inr ⟨g,0,rfl,?_,?_⟩⟩
   ·have hown:owns (ρ n) g:=by rw [hv];rfl
    refine ⟨(h.lt n g hown).1,(h.lt n g hown).2,fun i hi=>?_⟩
    by_cases hin:i=n
    ·subst hin;rw [Zzi] at hi;exact hi
    ·rw [Z4g ρ _ hin] at hi;exact hin (h.sep i n g hi hown)
   ·intro j y hj
    refine ⟨_,?_,(hx j y hj).ext x⟩;intro i u hu';rw [cell_of_row w g (0+j*r.sz+i) cs e fr hg];rw [List.getElem?_take] at hu';split at hu'
    ·rw [List.getElem?_drop] at hu'
     rw [Nat.zero_add];simpa using hu'
    ·cases hu'
 refine ⟨v,hv,h.step n (.frz r l) (some (.frz v)) x (fun b hb=>hb.elim) (fun j b hb=>hb.elim) (fun _ _ _ _=>rfl) ⟨v,rfl,hrep⟩ rfl rfl rfl (fun j=>Zkg st n _ j) (h.fresh.upd (by rw [hv];exact nofun) rfl rfl rfl),x,hrep⟩
theorem Rel.drop (h:Rel X ρ st a w) (n:Nat) {c:Conc} (hc:ρ n=some c):Rel X (upd ρ n (some .dead)) (st.setB n .free) a w∧Ext ρ w (upd ρ n (some .dead)) w:=by
 have x:Ext ρ w (upd ρ n (some .dead)) w:=by
  refine ⟨rfl,rfl,rfl,Yg _,fun _ _ _=>rfl,?_,?_⟩
  ·intro i b hi
   by_cases hin:i=n
   ·subst hin;rw [Zzi] at hi;exact hi.elim
   ·rw [Z4g ρ _ hin] at hi;exact .inl ⟨i,hi⟩
  ·intro i c hi
   by_cases hin:i=n
   ·subst hin;exact .inr (.inl (Zzi _ _ _))
   ·rw [Z4g ρ _ hin];exact .inl hi
 refine ⟨h.step n .free (some .dead) x (fun b hb=>hb.elim) (fun j b hb=>hb.elim) (fun _ _ _ _=>rfl) trivial rfl rfl rfl (fun j=>Zkg st n _ j) (h.fresh.upd (by rw [hc];exact nofun) rfl rfl rfl),x⟩
end
theorem M.run_bind {α β R:Type}:∀(p:M α) (f:α→M β) (st:St) (K:β→St→Option R),(p.bind f).run st K=p.run st fun x st'=>(f x).run st' K
 | .ret _,_,_,_=>rfl
 | .get i k,f,st,K=>M.run_bind (k (st.tmp i)) f st K
 | .getb i k,f,st,K=>M.run_bind (k (st.ent i)) f st K
 | .setb i e k,f,st,K=>M.run_bind k f (st.setB i e) K
 | .new e k,f,st,K=>by
  show (bif Yb st.nb st.lim then ((k st.nb).bind f).run (st.newB e) K else none)=bif Yb st.nb st.lim then (k st.nb).run (st.newB e) (fun x st'=>(f x).run st' K) else none
  rw [M.run_bind (k st.nb) f (st.newB e) K]
 | .opt _ o k,f,st,K=>by
  show (o.bind fun b=>((k b).bind f).run st K)=o.bind fun b=>(k b).run st fun x st'=>(f x).run st' K
  congr 1;funext b;exact M.run_bind (k b) f st K
 | .fail,_,_,_=>rfl
theorem M.run_still {α R:Type}:∀(p:M α) (st:St) (v:α),p.still st=some v→∀K:α→St→Option R,p.run st K=K v st
 | .ret _,_,_,h,_=>by cases h;rfl
 | .get i k,st,v,h,K=>M.run_still (k (st.tmp i)) st v h K
 | .getb i k,st,v,h,K=>M.run_still (k (st.ent i)) st v h K
 | .setb _ _ _,_,_,h,_=>nomatch h
 | .new _ _,_,_,h,_=>nomatch h
 | .opt _ _ _,_,_,h,_=>nomatch h
 | .fail,_,_,h,_=>nomatch h
def Zyc (a:Act) (g:Option (Nat×Bool)):Prop:=∀t b,g=some (t,b)→Z1 a t = .bool b
section
variable {X:Nat→Prop} {ρ:Rho} {st:St} {a:Act} {w:World} {g:Option (Nat×Bool)} {R:Type} {r:R}
theorem Zvgb {K:AV→St→Option R} (h:Rel X ρ st a w) (hg:Zyc a g) {v0:AV} {v:Value}
  (hv:Z4 X ρ w v0 v∨∃t b x,v0 = .gd t b x∧Zxl X ρ w (Z1 a) t b x v) (hr:(unw g v0).run st K=some r):∃av,K av st=some r∧Z4 X ρ w av v:=by
 rcases hv with hv | ⟨t,b,x,rfl,hv⟩
 ·cases v0 <;> first | exact ⟨_,hr,hv⟩ | exact hv.elim
 ·have holds:Z1 a t = .bool b→Z4 X ρ w x v:=fun ht=>by
   rcases hv with hv | hv
   ·exact hv.2
   ·exact absurd ht hv.1
  replace hr:(Zy7 g x t b (st.tmp t)).run st K=some r:=hr;unfold Zy7 at hr;split at hr
  ·rename_i b' hb'
   have h1:=h.tmp t;rw [hb'] at h1
   have h1:Z1 a t = .bool b':=by
    rcases h1 with h1 | ⟨_,_,_,h1,_⟩
    ·exact h1
    ·cases h1
   cases hbb:(b'==b) with
   | false=>rw [hbb] at hr;cases hr
   | true=>
    rw [hbb] at hr;have:b'=b:=by simpa using hbb
    subst this;exact ⟨x,hr,holds h1⟩
  ·split at hr
   ·cases hr
   ·rename_i t' w'
    have hg':=hg t' w' rfl;cases hc:(Ya t t'&&(b==w')) with
    | true=>
     rw [hc] at hr;obtain ⟨hc1,hc2⟩:=(Yo _ _).mp hc;obtain rfl:=Yf hc1;obtain rfl:=eq_of_beq hc2;exact ⟨x,hr,holds hg'⟩
    | false=>
     rw [hc] at hr;replace hr:(Zz7 x t b (st.tmp t')).run st K=some r:=hr;unfold Zz7 at hr;split at hr
     ·rename_i t2 w2 x2 h2
      have h1:=h.tmp t';rw [h2] at h1;rcases h1 with h1 | ⟨t3,b3,x3,h3,h1⟩
      ·exact h1.elim
      ·cases h3
       cases hc2:(Ya t t2&&(b==w2)) with
       | false=>rw [hc2] at hr;cases hr
       | true=>
        rw [hc2] at hr;obtain ⟨hc3,hc4⟩:=(Yo _ _).mp hc2;obtain rfl:=Yf hc3;obtain rfl:=eq_of_beq hc4;refine ⟨x,hr,holds ?_⟩;rcases h1 with h1 | h1
        ·exact h1.1
        ·rw [hg'] at h1;cases h1.2
     ·cases hr
theorem Ziob (v:Value):Z4 X ρ w (Zu5 v) v:=by
 unfold Zu5
 split <;> first | rfl | trivial | exact ⟨#[],rfl,trivial⟩
theorem Zyb {K:AV→St→Option R} (h:Rel X ρ st a w) (hg:Zyc a g) {x:Operand} (hr:(opd g x).run st K=some r):∃av,K av st=some r∧Z4 X ρ w av (a.eval x):=by
 cases x with
 | tmp t=>exact Zvgb h hg (h.tmp t) hr
 | const v=>exact ⟨_,hr,Ziob v⟩
 | func f=>exact ⟨_,hr,⟨#[],rfl,trivial⟩⟩
 | global _=>cases hr
def Zni (X:Nat→Prop) (ρ:Rho) (w:World):List AV→List Value→Prop
 | [],[]=>True
 | x::xs,v::vs=>Z4 X ρ w x v∧Zni X ρ w xs vs
 | _,_=>False
theorem Zni.ext {ρ':Rho} {w':World}:∀{xs:List AV} {vs:List Value},Zni X ρ w xs vs→Ext ρ w ρ' w'→Zni X ρ' w' xs vs
 | [],[],_,_=>trivial
 | _::_,_::_,h,e=>⟨h.1.ext e,Zni.ext h.2 e⟩
 | [],_::_,h,_=>h.elim
 | _::_,[],h,_=>h.elim
theorem Zw5 (h:Rel X ρ st a w) (hg:Zyc a g):∀{xs:List Operand} {K:List AV→St→Option R},(M.mapL (opd g) xs).run st K=some r→∃avs,K avs st=some r∧Zni X ρ w avs (xs.map a.eval)
 | [],K,hr=>⟨[],hr,trivial⟩
 | x::xs,K,hr=>by
  unfold M.mapL at hr;rw [M.run_bind] at hr;obtain ⟨av,hr,h1⟩:=Zyb h hg hr;rw [M.run_bind] at hr;obtain ⟨avs,hr,h2⟩:=Zw5 h hg hr;exact ⟨av::avs,hr,h1,h2⟩
end
def Zdb {R:Type} (P:Program) (o:Oper) (a:Act) (w:World) (X:Nat→Prop) (ρ:Rho) (st:St) (K:AV→St→Option R) (r:R):Prop:=∀next Q,(∀av v ρ' st' w',K av st'=some r→Z4 X ρ' w' av v→Rel X ρ' st' a w'→Ext ρ w ρ' w'→st'.n=st.n→next (a.put o.dst v) w')→o.wp P a w next Q
section
variable {P:Program} {o:Oper} {X:Nat→Prop} {ρ ρ':Rho} {st st':St} {a:Act} {w w':World} {g:Option (Nat×Bool)} {R:Type} {r:R} {K:AV→St→Option R}
theorem Zmh {v:Value} {av:AV} (hrun:(execOp a.eval o).run P w = .ok (.value v) w') (hk:K av st'=some r) (hv:Z4 X ρ' w' av v) (h:Rel X ρ' st' a w') (x:Ext ρ w ρ' w') (hn:st'.n=st.n):Zdb P o a w X ρ st K r:=by
 intro next Q hq
 unfold Oper.wp
 rw [hrun]
 exact hq av v ρ' st' w' hk hv h x hn
theorem Zib {v:Value} {av:AV} (hrun:(execOp a.eval o).run P w = .ok (.value v) w) (hk:K av st=some r) (hv:Z4 X ρ w av v) (h:Rel X ρ st a w):Zdb P o a w X ρ st K r:=Zmh hrun hk hv h (Ext.refl _ _) rfl
theorem Zqbb (h:Rel X ρ st a w) (hg:Zyc a g) {x:Operand} (ho:o.op = .move x∨o.op = .assign x) (hr:(opd g x).run st K=some r):Zdb P o a w X ρ st K r:=by
 obtain ⟨av,hk,hv⟩:=Zyb h hg hr
 refine Zib ?_ hk hv h
 rcases ho with ho | ho <;> (unfold execOp;rw [ho];rfl)
theorem Zalb (h:Rel X ρ st a w) (hg:Zyc a g) {c x y:Operand} (ho:o.op = .pick c x y) (hr:(pick g c x y).run st K=some r):Zdb P o a w X ρ st K r:=by
 have hrun:∀cb,a.eval c = .bool cb→(execOp a.eval o).run P w = .ok (.value (if cb then a.eval x else a.eval y)) w:=by
  intro cb hcb;unfold execOp;rw [ho];simp [hcb,asBool]
 unfold pick at hr
 split at hr
 ·rename_i tc
  replace hr:((unw g (st.tmp tc)).bind (Zc0 g tc x y)).run st K=some r:=hr;rw [M.run_bind] at hr;obtain ⟨v,hr2,hv⟩:=Zvgb h hg (h.tmp tc) hr;clear hr
  rename (Zc0 g tc x y v).run st K=some r=>hr
  unfold Zc0 at hr;split at hr
  ·obtain ⟨av,hk,hv'⟩:=Zyb h hg hr
   exact Zib (hrun true hv) hk hv' h
  ·obtain ⟨av,hk,hv'⟩:=Zyb h hg hr
   exact Zib (hrun false hv) hk hv' h
  ·rename_i cb
   have hcb:Z1 a tc = .bool cb:=hv;split at hr
   ·rename_i ta
    replace hr:(Z55 tc cb (st.tmp ta)).run st K=some r:=hr;have ht:=h.tmp ta;unfold Z55 at hr;split at hr
    ·rename_i t x heq
     rw [heq] at ht;cases htc:Ya t tc with
     | false=>rw [htc] at hr;cases hr
     | true=>
      rw [htc] at hr;obtain rfl:=Yf htc;refine Zib (hrun cb hcb) hr ?_ h;show (if cb then Z1 a ta else Value.bool false) = .bool (cb&&x);cases cb with
      | false=>rfl
      | true=>
       rcases ht with ht | ⟨t',b',x',h1,ht⟩
       ·exact ht.elim
       ·cases h1
        rcases ht with ht | ht
        ·exact ht.2
        ·exact absurd hcb ht.1
    ·rename_i x heq
     rw [heq] at ht;refine Zib (hrun cb hcb) hr ?_ h;show (if cb then Z1 a ta else Value.bool false) = .bool (cb&&x)
     have ht:Z1 a ta = .bool x:=by
      rcases ht with ht | ⟨_,_,_,h1,_⟩
      ·exact ht
      ·cases h1
     rw [ht];cases cb <;> rfl
    ·cases hr
   ·rename_i tb
    replace hr:(Z65 tc cb (st.tmp tb)).run st K=some r:=hr;have ht:=h.tmp tb;unfold Z65 at hr;split at hr
    ·rename_i t x heq
     rw [heq] at ht;cases htc:Ya t tc with
     | false=>rw [htc] at hr;cases hr
     | true=>
      rw [htc] at hr;obtain rfl:=Yf htc;refine Zib (hrun cb hcb) hr ?_ h;show (if cb then Value.bool true else Z1 a tb) = .bool (cb||x);cases cb with
      | true=>rfl
      | false=>
       rcases ht with ht | ⟨t',b',x',h1,ht⟩
       ·exact ht.elim
       ·cases h1
        rcases ht with ht | ht
        ·exact ht.2
        ·exact absurd hcb ht.1
    ·rename_i x heq
     rw [heq] at ht;refine Zib (hrun cb hcb) hr ?_ h;show (if cb then Value.bool true else Z1 a tb) = .bool (cb||x)
     have ht:Z1 a tb = .bool x:=by
      rcases ht with ht | ⟨_,_,_,h1,_⟩
      ·exact ht
      ·cases h1
     rw [ht];cases cb <;> rfl
    ·cases hr
   ·cases hr
  ·cases hr
 ·cases hr
theorem Zgp (s:Str):(ba s).toList=s:=by simp [ba,ByteArray.toList_eq]
end
end Go.Proofs.Qz
