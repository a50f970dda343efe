/- What the law FnMachine needs, part 2 of 16: the Lean functions of the Go functions that it reaches, with the proofs that the calls come to what they say, and plain facts about them. Conditions: those that each theorem states. Written by a session and by its programs (after the kit's printer). -/
import Derived.Maps.AppendAt
import Derived.Laws.IdiomCopy
import Derived.Laws.Tables
import Derived.Test.YtmohoeinamddcaaGreatXFnMachine0
open Nat renaming beq → Ya, eq_of_beq_eq_true → Yb, le_refl → Yd, mul_le_mul_right → Ye, zero_add → Yf, add_mul → Yg, one_mul → Yh, add_zero → Yo, le_of_ble_eq_true → Yp, ble → Yv, le_trans → Yw, lt_of_lt_of_le → Yx, add_assoc → Y7, le_of_eq → Y8, lt_irrefl → Y9, lt_or_ge → Yaa
open Array renaming length_toList → Yc, getElem?_eq_some_iff → Yj, ext' → Yq, range → Yr, getElem?_toList → Yy, toList_setIfInBounds → Yz
open List renaming getElem?_drop → Yi, ext_getElem? → Yl, getElem?_take → Ym, toList_toArray → Yn, append_assoc → Ys, drop → Yt, size_toArray → Yu, getElem?_append_left → Y0, getElem?_append_right → Y1, getElem?_eq_some_iff → Y2, length_set → Y3, length_take → Y4, mem_cons → Y5, mem_singleton → Y6
open Bool renaming and_eq_true → Yk
namespace Go.Proofs.Qz
open Go Go.RowKit
set_option linter.unusedVariables false
structure TiFor (P:Program) (t:TypeId) (i:TI):Prop where
 info:∃q,P.info? t=some q∧q.size=i.sz∧q.bytes=i.bytes∧∃z,q.zero=some z∧z.cells.size=i.sz∧∀X ρ w,Zq X ρ w i.zero z.cells.toList
 und:∃d,P.underlying t=some d∧i.agg=(match d with | .struct _ | .array _ _=>true | _=>false)∧(i.kind=1→d = .int i.ik)∧(i.kind=2→d = .string)∧(i.kind=3→d = .slice i.elem)∧(i.kind=5→d = .bool) ∧
  (i.kind=4→∃fs,d = .struct fs∧∀(f o:Nat) (ft:TypeId),i.offs[f]? = some (o,ft)→∃fl,fs[f]? = some fl∧fl.offset=o∧fl.type=ft∧∃q,P.info? ft=some q∧q.size≠0)
 places:i.kind=4→∃fs places,P.underlying t=some (.struct fs)∧fs.toList.mapM (fun f=>(P.info? f.type).map fun i=>(f.offset,i.size))=some places ∧
  ∀(f o:Nat) (ft:TypeId),i.offs[f]? = some (o,ft)→∃q,P.info? ft=some q∧places[f]? = some (o,q.size)
 pos:0<i.sz→0<i.bytes
 low:i.kind=3→Z0 i.elem=false
 arr:i.kind=7→∃len y,i.offs=[(len,y)]∧P.underlying t=some (.array len i.elem)
 map:i.kind=6→∃k e q,P.underlying t=some (.map k e)∧P.underlying k=some (.int .i64)∧P.info? e=some q∧q.zero=some (.bool false)
 one:i.agg=false→∀q z,P.info? t=some q→q.zero=some z→z.cells = #[z]
 eqs:i.eqs=true→P.eqGuardType P.depth t=false∧∀X ρ w (cs ds:Array Value) (xs ys:List Leaf) (b:Bool),Zq X ρ w xs cs.toList→Zq X ρ w ys ds.toList→Zsi (Zfb i.ty) xs ys=some b→(Op.equal t (.agg cs) (.agg ds)).run P w = .ok b w
def Zob (P:Program) (ti:Tab TI):Prop:=∀t i,ti.get t=some i→TiFor P t i
section
variable {P:Program} {o:Oper} {X:Nat→Prop} {ρ ρ':Rho} {st st':St} {a:Act} {w w':World} {g:Option (Nat×Bool)} {R:Type} {r:R} {K:AV→St→Option R} {C:Ctx}
theorem Zp2 {op:BinOp} {k k':IntKind} {x y:Int} {t:TypeId} {K:AV→St→Option R} (hk:(op = .shl∨op = .shr)∨k=k') (hr:(Zo2 op k x y).run st K=some r):
  ∃av v,K av st=some r∧(∀X ρ w,Z4 X ρ w av v)∧∀w,(Go.binOp op t (.int k x) (.int k' y)).run P w = .ok v w:=by
 have hkk:op≠.shl→op≠.shr→k=k':=fun h1 h2=>hk.resolve_left (fun h=>h.elim h1 h2)
 cases op
 case add=>obtain rfl:=hkk (by simp) (by simp);exact ⟨_,_,hr,fun _ _ _=>rfl,fun w=>by simp [Go.binOp,Op.intArith]⟩
 case sub=>obtain rfl:=hkk (by simp) (by simp);exact ⟨_,_,hr,fun _ _ _=>rfl,fun w=>by simp [Go.binOp,Op.intArith]⟩
 case mul=>obtain rfl:=hkk (by simp) (by simp);exact ⟨_,_,hr,fun _ _ _=>rfl,fun w=>by simp [Go.binOp,Op.intArith]⟩
 case quo=>
  obtain rfl:=hkk (by simp) (by simp);have hr:((nz? y).bind fun _=>(Zgf k (k.wrap (x.tdiv y))).run st K)=some r:=hr
  by_cases hy:y=0
  ·simp [nz?,hy] at hr
  ·rw [nz?,Xd hy] at hr
   exact ⟨_,_,hr,fun _ _ _=>rfl,fun w=>by simp [Go.binOp,Op.intDiv,hy]⟩
 case rem=>
  obtain rfl:=hkk (by simp) (by simp);have hr:((nz? y).bind fun _=>(Zgf k (x.tmod y)).run st K)=some r:=hr
  by_cases hy:y=0
  ·simp [nz?,hy] at hr
  ·rw [nz?,Xd hy] at hr
   exact ⟨_,_,hr,fun _ _ _=>rfl,fun w=>by simp [Go.binOp,Op.intDiv,hy]⟩
 case and=>obtain rfl:=hkk (by simp) (by simp);exact ⟨_,_,hr,fun _ _ _=>rfl,fun w=>by simp [Go.binOp,Op.intBits,intBits]⟩
 case or=>obtain rfl:=hkk (by simp) (by simp);exact ⟨_,_,hr,fun _ _ _=>rfl,fun w=>by simp [Go.binOp,Op.intBits,intBits]⟩
 case xor=>obtain rfl:=hkk (by simp) (by simp);exact ⟨_,_,hr,fun _ _ _=>rfl,fun w=>by simp [Go.binOp,Op.intBits,intBits]⟩
 case andNot=>obtain rfl:=hkk (by simp) (by simp);exact ⟨_,_,hr,fun _ _ _=>rfl,fun w=>by simp [Go.binOp,Op.intBits,intBits]⟩
 case shl=>
  have hr:((Zbc y).bind fun _=>(Zgf k (shl k x y)).run st K)=some r:=hr
  by_cases hy:y<0
  ·simp [Zbc,hy] at hr
  ·rw [Zbc,Xd hy] at hr
   exact ⟨_,_,hr,fun _ _ _=>rfl,fun w=>by simp [Go.binOp,Op.shift,hy,shl]⟩
 case shr=>
  have hr:((Zbc y).bind fun _=>(Zgf k (shr k x y)).run st K)=some r:=hr
  by_cases hy:y<0
  ·simp [Zbc,hy] at hr
  ·rw [Zbc,Xd hy] at hr
   exact ⟨_,_,hr,fun _ _ _=>rfl,fun w=>by simp [Go.binOp,Op.shift,hy,shr]⟩
 case eql=>obtain rfl:=hkk (by simp) (by simp);exact ⟨_,_,hr,fun _ _ _=>rfl,fun w=>by simp [Go.binOp,Op.intCmp]⟩
 case neq=>obtain rfl:=hkk (by simp) (by simp);exact ⟨_,_,hr,fun _ _ _=>rfl,fun w=>by simp [Go.binOp,Op.intCmp]⟩
 case lss=>obtain rfl:=hkk (by simp) (by simp);exact ⟨_,_,hr,fun _ _ _=>rfl,fun w=>by simp [Go.binOp,Op.intCmp]⟩
 case leq=>obtain rfl:=hkk (by simp) (by simp);exact ⟨_,_,hr,fun _ _ _=>rfl,fun w=>by simp [Go.binOp,Op.intCmp]⟩
 case gtr=>obtain rfl:=hkk (by simp) (by simp);exact ⟨_,_,hr,fun _ _ _=>rfl,fun w=>by simp [Go.binOp,Op.intCmp]⟩
 case geq=>obtain rfl:=hkk (by simp) (by simp);exact ⟨_,_,hr,fun _ _ _=>rfl,fun w=>by simp [Go.binOp,Op.intCmp]⟩
theorem Z3hb (a b:Str):ba a++ba b=ba (a++b):=by
 apply ByteArray.ext
 simp [ba]
theorem Z7hb {op:BinOp} {x y:Str} {t:TypeId} {K:AV→St→Option R} (hr:(Z68 op x y).run st K=some r):
  ∃av v,K av st=some r∧(∀X ρ w,Z4 X ρ w av v)∧∀w,(Go.binOp op t (.string (ba x)) (.string (ba y))).run P w = .ok v w:=by
 cases op
 case add=>
  have hr:((Z2c x y).bind fun c=>(M.ret (AV.one (.str c))).run st K)=some r:=hr;unfold Z2c at hr;split at hr
  ·rename_i hl
   refine ⟨_,_,hr,fun _ _ _=>rfl,fun w=>?_⟩
   have hs:¬(IntKind.i64.max<(((ba x).size+(ba y).size:Nat):Int)):=by
    show ¬((9223372036854775807:Int)<((x.length+y.length:Nat):Int));omega
   simp only [Go.binOp,Op.stringOp];rw [Xd hs,Z3hb];rfl
  ·cases hr
 case eql=>exact ⟨_,_,hr,fun _ _ _=>rfl,fun w=>by simp [Go.binOp,Op.stringOp,Zgp]⟩
 case neq=>exact ⟨_,_,hr,fun _ _ _=>rfl,fun w=>by simp [Go.binOp,Op.stringOp,Zgp]⟩
 case lss=>exact ⟨_,_,hr,fun _ _ _=>rfl,fun w=>by simp [Go.binOp,Op.stringOp,Zgp,Zmq]⟩
 case leq=>exact ⟨_,_,hr,fun _ _ _=>rfl,fun w=>by simp [Go.binOp,Op.stringOp,Zgp,Zmq]⟩
 case gtr=>exact ⟨_,_,hr,fun _ _ _=>rfl,fun w=>by simp [Go.binOp,Op.stringOp,Zgp,Zmq]⟩
 case geq=>exact ⟨_,_,hr,fun _ _ _=>rfl,fun w=>by simp [Go.binOp,Op.stringOp,Zgp,Zmq]⟩
 all_goals cases hr
theorem Zq6 (op:BinOp) (t:TypeId) (x y:Operand) (u v:Value) (h:(∃k n,u = .int k n)∨(∃s,u = .string s)∨(∃b,u = .bool b)) (w:World):(Go.eqGuard op t x y u v).run P w = .ok () w:=by
 rcases h with ⟨k,n,rfl⟩ | ⟨s,rfl⟩ | ⟨b,rfl⟩ <;> (unfold Go.eqGuard;cases op <;> rfl)
theorem Znbb (T:Zob P C.ti) (h:Rel X ρ st a w) {op:BinOp} {t:TypeId} {x y:Operand} {p q:Bool} (hx:a.eval x = .bool p) (hy:a.eval y = .bool q)
  (hrun:∀v,(Go.eqGuard op t x y (a.eval x) (a.eval y)).run P w = .ok () w→(Go.binOp op t (a.eval x) (a.eval y)).run P w = .ok v w→(execOp a.eval o).run P w = .ok (.value v) w)
  (hr:(Zfy C t op p q).run st K=some r):Zdb P o a w X ρ st K r:=by
 have gd:=Zq6 (P:=P) op t x y (a.eval x) (a.eval y) (.inr (.inr ⟨_,hx⟩)) w
 unfold Zfy at hr
 split at hr
 ·rename_i i hi
  cases hk:Ya i.kind 5 with
  | false=>rw [hk] at hr;cases hr
  | true=>
   rw [hk] at hr;obtain ⟨d,hd,_,_,_,_,h5,_⟩:=(T t i hi).und;have hd5:=h5 (Yb hk);subst hd5
   cases op <;> first
    | cases hr
    | (refine Zib (hrun _ gd ?_) hr rfl h;rw [hx,hy];simp [Go.binOp,run_equal_bool w t p q hd];done)
 ·cases hr
theorem Zkkb (T:Zob P C.ti) (h:Rel X ρ st a w) (hg:Zyc a g) {op:BinOp} {t u:TypeId} {x y:Operand} (ho:o.op = .binOp op t x y u)
  (hr:((opd g x).bind fun a=>(opd g y).bind fun b=>binOp C t op a b).run st K=some r):Zdb P o a w X ρ st K r:=by
 rw [M.run_bind] at hr
 obtain ⟨av,hr1,hv⟩:=Zyb h hg hr
 clear hr
 rw [M.run_bind] at hr1
 obtain ⟨bv,hr,hw⟩:=Zyb h hg hr1
 clear hr1
 have hrun:∀v,(Go.eqGuard op t x y (a.eval x) (a.eval y)).run P w = .ok () w→(Go.binOp op t (a.eval x) (a.eval y)).run P w = .ok v w→(execOp a.eval o).run P w = .ok (.value v) w:=by
  intro v h1 h2;unfold execOp;rw [ho];simp [h1,h2]
 unfold binOp at hr
 split at hr
 ·rename_i k m k' n
  have hx:a.eval x = .int k m:=hv;have hy:a.eval y = .int k' n:=hw;have gd:=Zq6 (P:=P) op t x y (a.eval x) (a.eval y) (.inl ⟨_,_,hx⟩) w;split at hr
  ·obtain ⟨av,v,h1,h2,h3⟩:=Zp2 (P:=P) (k':=k') (t:=t) (.inl (.inl rfl)) hr
   exact Zib (hrun v gd (by rw [hx,hy];exact h3 w)) h1 (h2 _ _ _) h
  ·obtain ⟨av,v,h1,h2,h3⟩:=Zp2 (P:=P) (k':=k') (t:=t) (.inl (.inr rfl)) hr
   exact Zib (hrun v gd (by rw [hx,hy];exact h3 w)) h1 (h2 _ _ _) h
  ·split at hr
   ·rename_i hkk
    obtain ⟨av,v,h1,h2,h3⟩:=Zp2 (P:=P) (k':=k') (t:=t) (.inr hkk) hr;exact Zib (hrun v gd (by rw [hx,hy];exact h3 w)) h1 (h2 _ _ _) h
   ·cases hr
 ·rename_i s s'
  have hx:a.eval x = .string (ba s):=hv;have hy:a.eval y = .string (ba s'):=hw;obtain ⟨av,v,h1,h2,h3⟩:=Z7hb (P:=P) (t:=t) hr;exact Zib (hrun v (Zq6 op t x y _ _ (.inr (.inl ⟨_,hx⟩)) w) (by rw [hx,hy];exact h3 w)) h1 (h2 _ _ _) h
 ·exact Znbb T h hv hw hrun hr
 ·exact Znbb T h hv hw hrun hr
 ·rename_i xs ys
  obtain ⟨cs,hx,hxs⟩:=hv;obtain ⟨ds,hy,hys⟩:=hw;split at hr
  ·rename_i i hi
   have Ti:=T t i hi;cases he:i.eqs with
   | false=>rw [he] at hr;cases hr
   | true=>
    rw [he] at hr;obtain ⟨h1,h2⟩:=Ti.eqs he
    replace hr:(match op,Zsi (Zfb i.ty) xs ys with
     | .eql,some b=>Zeg b
     | .neq,some b=>Zeg (!b)
     | _,_=>M.fail).run st K=some r:=hr
    have gd:(Go.eqGuard op t x y (a.eval x) (a.eval y)).run P w = .ok () w:=by
     rw [hx,hy];unfold Go.eqGuard;cases op <;> simp [h1]
    split at hr
    ·rename_i b hb
     refine Zib (hrun _ gd ?_) hr rfl h;rw [hx,hy];simp [Go.binOp,h2 X ρ w cs ds xs ys b hxs hys hb]
    ·rename_i b hb
     refine Zib (hrun _ gd ?_) hr rfl h;rw [hx,hy];simp [Go.binOp,h2 X ρ w cs ds xs ys b hxs hys hb]
    ·cases hr
  ·cases hr
 ·cases hr
theorem Zelb (h:Rel X ρ st a w) (hg:Zyc a g) {op:UnOp} {t:TypeId} {x:Operand} (ho:o.op = .unOp op t x)
  (hr:((opd g x).bind fun a=>unOp op a).run st K=some r):Zdb P o a w X ρ st K r:=by
 rw [M.run_bind] at hr
 obtain ⟨av,hr1,hv⟩:=Zyb h hg hr
 clear hr
 have hrun:∀v,(Op.unary op (a.eval x)).run P w = .ok v w→(execOp a.eval o).run P w = .ok (.value v) w:=by
  intro v h1;unfold execOp;rw [ho];simp [h1]
 unfold unOp at hr1
 split at hr1
 ·rename_i k n
  have hx:a.eval x = .int k n:=hv
  cases op <;> first
   | cases hr1
   | (refine Zib (hrun _ ?_) hr1 rfl h;rw [hx];simp [Op.unary,Op.intArith,Op.intBits,intBits];done)
 ·rename_i b
  have hx:a.eval x = .bool b:=hv
  cases op <;> first
   | cases hr1
   | (refine Zib (hrun _ ?_) hr1 rfl h;rw [hx];simp [Op.unary];done)
 ·rename_i b
  have hx:a.eval x = .bool b:=hv
  cases op <;> first
   | cases hr1
   | (refine Zib (hrun _ ?_) hr1 rfl h;rw [hx];simp [Op.unary];done)
 ·cases hr1
end
section
variable {P:Program} {o:Oper} {X:Nat→Prop} {ρ ρ':Rho} {st st':St} {a:Act} {w w':World} {g:Option (Nat×Bool)} {R:Type} {r:R} {K:AV→St→Option R} {C:Ctx}
theorem Z04:∀(t:Ty) (x:t.T),(Z2 t x).length=t.sz
 | .int _,_=>rfl
 | .bool,_=>rfl
 | .str,_=>rfl
 | .sl _,_=>rfl
 | .pair a b,x=>by simp [Z2,Ty.sz,Z04 a x.1,Z04 b x.2]
 | .unit,_=>rfl
theorem Zq.append:∀{xs ys:List Leaf} {cs ds:List Value},Zq X ρ w xs cs→Zq X ρ w ys ds→Zq X ρ w (xs++ys) (cs++ds)
 | [],_,[],_,_,k=>k
 | _::_,_,_::_,_,h,k=>⟨h.1,Zq.append h.2 k⟩
 | [],_,_::_,_,h,_=>h.elim
 | _::_,_,[],_,h,_=>h.elim
theorem Zq.len:∀{xs:List Leaf} {cs:List Value},Zq X ρ w xs cs→xs.length=cs.length
 | [],[],_=>rfl
 | _::_,_::_,h=>congrArg (· + 1) (Zq.len h.2)
 | [],_::_,h=>h.elim
 | _::_,[],h=>h.elim
theorem Zq.drop:∀(n:Nat) {xs:List Leaf} {cs:List Value},Zq X ρ w xs cs→Zq X ρ w (xs.drop n) (cs.drop n)
 | 0,_,_,h=>h
 | n+1,[],[],_=>trivial
 | n+1,_::_,_::_,h=>Zq.drop n h.2
 | _,[],_::_,h=>h.elim
 | _,_::_,[],h=>h.elim
theorem Zq.take:∀(n:Nat) {xs:List Leaf} {cs:List Value},Zq X ρ w xs cs→Zq X ρ w (xs.take n) (cs.take n)
 | 0,_,_,_=>trivial
 | n+1,[],[],_=>trivial
 | n+1,_::_,_::_,h=>⟨h.1,Zq.take n h.2⟩
 | _,[],_::_,h=>h.elim
 | _,_::_,[],h=>h.elim
theorem Zq.split:∀{xs ys:List Leaf} {cs:List Value},Zq X ρ w (xs++ys) cs→∃c1 c2,cs=c1++c2∧Zq X ρ w xs c1∧Zq X ρ w ys c2
 | [],_,cs,h=>⟨[],cs,rfl,trivial,h⟩
 | _::_,_,c::cs,h=>by
  obtain ⟨c1,c2,rfl,h1,h2⟩:=Zq.split h.2;exact ⟨c::c1,c2,rfl,⟨h.1,h1⟩,h2⟩
 | _::_,_,[],h=>h.elim
theorem Zlb.one {x:Leaf} {v:Value} (h:Zlb X ρ w x v):v.oneCell'=true:=by
 cases x with
 | int k n=>rw [show v = .int k n from h];rfl
 | bool b=>rw [show v = .bool b from h];rfl
 | kb b=>rw [show v = .bool b from h];rfl
 | str s=>rw [show v = .string (ba s) from h];rfl
 | nil=>rw [show v = .slice none 0 0 from h];rfl
 | list r l=>exact Rep.one (t:=.sl r) h v (Y6.2 rfl)
 | bor r l=>exact Rep.one (t:=.sl r) h v (Y6.2 rfl)
 | rp t y=>obtain ⟨g,o,cs,rfl,_⟩:=h;rfl
 | own n=>
  rcases h.1 with ⟨A,m,c,rfl⟩ | ⟨g,rfl⟩ | ⟨g,rfl⟩ <;> rfl
 | ptr b off=>obtain ⟨⟨A,rfl⟩,_⟩:=h;rfl
 | unk=>exact h
theorem Zq.one:∀{xs:List Leaf} {cs:List Value},Zq X ρ w xs cs→∀u∈cs,u.oneCell'=true
 | [],[],_,u,hu=>by cases hu
 | _::_,_::_,h,u,hu=>by
  rcases Y5.1 hu with rfl | hu
  ·exact h.1.one
  ·exact Zq.one h.2 u hu
 | [],_::_,h,_,_=>h.elim
 | _::_,[],h,_,_=>h.elim
theorem Z42 {v:Value} (h:v.oneCell'=true):v.cells = #[v]:=by cases v <;> first | rfl | cases h
theorem Z5t:∀{t:Ty} {x:t.T} {cs:List Value},Rep w (Fix X ρ w) t x cs→Zq X ρ w (Z2 t x) cs
 | .int _,_,_,h=>by cases h;exact ⟨rfl,trivial⟩
 | .bool,_,_,h=>by cases h;exact ⟨rfl,trivial⟩
 | .str,_,_,h=>by cases h;exact ⟨rfl,trivial⟩
 | .sl r,l,_,h=>by
  obtain ⟨A,c,rfl,h⟩:=h;exact ⟨⟨A,c,rfl,h⟩,trivial⟩
 | .pair a b,x,_,h=>by
  obtain ⟨c1,c2,rfl,h1,h2⟩:=h;exact Zq.append (Z5t h1) (Z5t h2)
 | .unit,_,_,h=>by cases h;trivial
theorem Z3t:∀{t:Ty} {x:t.T} {cs:List Value},Rep w (Brw ρ w) t x cs→Zq X ρ w ((Z2 t x).map Z3i) cs
 | .int _,_,_,h=>by cases h;exact ⟨rfl,trivial⟩
 | .bool,_,_,h=>by cases h;exact ⟨rfl,trivial⟩
 | .str,_,_,h=>by cases h;exact ⟨rfl,trivial⟩
 | .sl r,l,_,h=>by
  obtain ⟨A,c,rfl,h⟩:=h;exact ⟨⟨A,c,rfl,h⟩,trivial⟩
 | .pair a b,x,_,h=>by
  obtain ⟨c1,c2,rfl,h1,h2⟩:=h;show Zq X ρ w ((Z2 a x.1++Z2 b x.2).map Z3i) (c1++c2);rw [List.map_append];exact Zq.append (Z3t h1) (Z3t h2)
 | .unit,_,_,h=>by cases h;trivial
theorem Rep.flat {F F':Nat→Prop}:∀{t:Ty} {x:t.T} {cs:List Value},flat t=true→Rep w F t x cs→Rep w F' t x cs
 | .int _,_,_,_,h=>h
 | .bool,_,_,_,h=>h
 | .str,_,_,_,h=>h
 | .sl _,_,_,k,_=>by cases k
 | .pair a b,_,_,k,h=>by
  obtain ⟨k1,k2⟩:=(Yk _ _).mp k;obtain ⟨c1,c2,rfl,h1,h2⟩:=h;exact ⟨c1,c2,rfl,Rep.flat k1 h1,Rep.flat k2 h2⟩
 | .unit,_,_,_,h=>h
theorem Zpy {r' r:Ty} (h:r'=r) {F:Nat→Prop} {l:List r'.T} {cs:List Value} (k:Rep w F (.sl r') l cs):Rep w F (.sl r) (h▸l:List r.T) cs:=by subst h;exact k
theorem Zv7:∀{t:Ty} {xs ys:List Leaf} {x:t.T} {cs:List Value},unl t xs=some (x,ys)→Zq X ρ w xs cs→∃c1 c2,cs=c1++c2∧Rep w (Fix X ρ w) t x c1∧Zq X ρ w ys c2
 | .int k,xs,ys,x,cs,h,k1=>by
  replace h:Ztx k xs=some (x,ys):=h;unfold Ztx at h;split at h
  ·split at h
   ·rename_i hk
    subst hk;cases h;cases cs with
    | nil=>exact k1.elim
    | cons c cs=>exact ⟨[c],cs,rfl,congrArg (fun v=>[v]) k1.1,k1.2⟩
   ·cases h
  ·cases h
 | .bool,xs,ys,x,cs,h,k1=>by
  replace h:Zsx xs=some (x,ys):=h;unfold Zsx at h;split at h
  ·cases h
   cases cs with
   | nil=>exact k1.elim
   | cons c cs=>exact ⟨[c],cs,rfl,congrArg (fun v=>[v]) k1.1,k1.2⟩
  ·cases h
   cases cs with
   | nil=>exact k1.elim
   | cons c cs=>exact ⟨[c],cs,rfl,congrArg (fun v=>[v]) k1.1,k1.2⟩
  ·cases h
 | .str,xs,ys,x,cs,h,k1=>by
  replace h:Zvx xs=some (x,ys):=h;unfold Zvx at h;split at h
  ·cases h
   cases cs with
   | nil=>exact k1.elim
   | cons c cs=>exact ⟨[c],cs,rfl,congrArg (fun v=>[v]) k1.1,k1.2⟩
  ·cases h
 | .sl r,xs,ys,x,cs,h,k1=>by
  replace h:Zux r xs=some (x,ys):=h;unfold Zux at h;split at h
  ·split at h
   ·rename_i r' l xs hs _
    cases h;cases cs with
    | nil=>exact k1.elim
    | cons c cs=>exact ⟨[c],cs,rfl,Zpy hs.down k1.1,k1.2⟩
   ·cases h
  ·cases h
   cases cs with
   | nil=>exact k1.elim
   | cons c cs=>exact ⟨[c],cs,rfl,⟨none,0,congrArg (fun v=>[v]) k1.1,Yd _,.inl rfl⟩,k1.2⟩
  ·cases h
 | .pair a b,xs,ys,x,cs,h,k1=>by
  unfold unl at h;split at h
  ·rename_i x1 ys1 h1
   split at h
   ·rename_i y1 zs1 h2
    cases h;obtain ⟨c1,c2,rfl,h3,h4⟩:=Zv7 h1 k1;obtain ⟨c3,c4,rfl,h5,h6⟩:=Zv7 h2 h4;exact ⟨c1++c3,c4,(Ys _ _ _).symm,⟨c1,c3,rfl,h3,h5⟩,h6⟩
   ·cases h
  ·cases h
 | .unit,xs,ys,x,cs,h,k1=>by
  cases h;exact ⟨[],cs,rfl,rfl,k1⟩
theorem Zrx {t:Ty} {xs:List Leaf} {x:t.T} {cs:List Value} (h:Z9h t xs=some x) (k:Zq X ρ w xs cs):Rep w (Fix X ρ w) t x cs:=by
 unfold Z9h at h
 split at h
 ·rename_i y hy
  cases h;obtain ⟨c1,c2,rfl,h1,h2⟩:=Zv7 hy k;cases c2 with
  | nil=>rw [List.append_nil];exact h1
  | cons _ _=>exact h2.elim
 ·cases h
def Zs4:Leaf→Prop
 | .bor _ _=>False
 | .rp _ _=>False
 | .own _=>False
 | .ptr _ _=>False
 | .unk=>False
 | _=>True
structure Frz (ρ:Rho) (st:St) (ρ':Rho) (st':St):Prop where
 conc:∀i,ρ' i=ρ i∨∃v,ρ i=some (.row v)∧ρ' i=some (.frz v)
 nb:st'.nb=st.nb
 box:∀i t xs,st.ent i = .box t xs→st'.ent i = .box t xs
 gone:∀i,st.ent i = .free→st'.ent i = .free∧ρ' i=ρ i
theorem Frz.refl (ρ:Rho) (st:St):Frz ρ st ρ st:=⟨fun _=>.inl rfl,rfl,fun _ _ _ h=>h,fun _ h=>⟨h,rfl⟩⟩
theorem Frz.trans {ρ ρ1 ρ2:Rho} {st st1 st2:St} (h:Frz ρ st ρ1 st1) (k:Frz ρ1 st1 ρ2 st2):Frz ρ st ρ2 st2:=by
 refine ⟨fun i=>?_,k.nb.trans h.nb,fun i t xs hi=>k.box i t xs (h.box i t xs hi),fun i hi=>?_⟩
 ·rcases h.conc i with h1 | ⟨v,h1,h2⟩
  ·rcases k.conc i with k1 | ⟨v,k1,k2⟩
   ·exact .inl (k1.trans h1)
   ·exact .inr ⟨v,h1.symm.trans k1,k2⟩
  ·rcases k.conc i with k1 | ⟨u,k1,k2⟩
   ·exact .inr ⟨v,h1,k1.trans h2⟩
   ·rw [h2] at k1;cases k1
 ·obtain ⟨h1,h2⟩:=h.gone i hi
  obtain ⟨k1,k2⟩:=k.gone i h1;exact ⟨k1,k2.trans h2⟩
theorem Za6 {K:Leaf→St→Option R} (h:Rel X ρ st a w) {x:Leaf} {v:Value} (hx:Zlb X ρ w x v) (hr:(Ztq x).run st K=some r):
  ∃y ρ' st',K y st'=some r∧Rel X ρ' st' a w∧Ext ρ w ρ' w∧st'.n=st.n∧Zlb X ρ' w y v∧Zs4 y∧Frz ρ st ρ' st':=by
 unfold Ztq at hr
 split at hr
 ·rename_i n
  replace hr:(match st.ent n with
   | .arr _ e r l=>bif Z0 e then .fail else M.setb n (.frz r l) (.ret (.list r l))
   | .frz r l=>.ret (.list r l)
   | _=>.fail:M Leaf).run st K=some r:=hr
  split at hr
  ·rename_i z e t l he
   have hm:Z0 e=false:=by
    cases hm:Z0 e with
    | false=>rfl
    | true=>rw [hm] at hr;cases hr
   rw [hm] at hr;obtain ⟨u,hu,h1,h2,h3⟩:=h.freeze he hm;refine ⟨_,_,_,hr,h1,h2,rfl,?_,trivial,?_,rfl,?_,?_⟩
   ·have hx:=hx.2
    rw [hu] at hx;rw [show v=u from hx];exact h3
   ·intro i
    by_cases hin:i=n
    ·subst hin;exact .inr ⟨u,hu,Zzi _ _ _⟩
    ·exact .inl (Z4g ρ _ hin)
   ·intro i bt xs hi
    rw [Zkg];rw [Xd (fun e=>by subst e;rw [he] at hi;cases hi)];exact hi
   ·intro i hi
    have hin:i≠n:=fun e=>by subst e;rw [he] at hi;cases hi
    rw [Zkg,Xd (fun e=>hin e.symm)];exact ⟨hi,Z4g ρ _ hin⟩
  ·rename_i t l he
   have h0:=h.ents n;rw [he] at h0;obtain ⟨u,hu,h0⟩:=h0;refine ⟨_,ρ,st,hr,h,Ext.refl _ _,rfl,?_,trivial,Frz.refl _ _⟩;have hx:=hx.2;rw [hu] at hx;rw [show v=u from hx];exact h0
  ·cases hr
 ·cases hr
 ·cases hr
 ·cases hr
 ·cases hr
 ·rename_i h1 h2 h3 h4 h5
  refine ⟨_,ρ,st,hr,h,Ext.refl _ _,rfl,hx,?_,Frz.refl _ _⟩;cases x <;> first | trivial | exact (h1 _ rfl).elim | exact (h2 rfl).elim | exact (h3 _ _ rfl).elim | exact (h4 _ _ rfl).elim | exact (h5 _ _ rfl).elim
theorem Zb6:∀{xs:List Leaf} {cs:List Value} {ρ:Rho} {st:St} {K:List Leaf→St→Option R},Rel X ρ st a w→Zq X ρ w xs cs→(M.mapL Ztq xs).run st K=some r →
  ∃ys ρ' st',K ys st'=some r∧Rel X ρ' st' a w∧Ext ρ w ρ' w∧st'.n=st.n∧Zq X ρ' w ys cs∧(∀y∈ys,Zs4 y)∧Frz ρ st ρ' st'
 | [],[],ρ,st,K,h,_,hr=>⟨[],ρ,st,hr,h,Ext.refl _ _,rfl,trivial,(fun _ hy=>nomatch hy),Frz.refl _ _⟩
 | x::xs,c::cs,ρ,st,K,h,hx,hr=>by
  unfold M.mapL at hr;rw [M.run_bind] at hr;obtain ⟨y,ρ1,st1,hr1,h1,e1,n1,l1,d1,f1⟩:=Za6 h hx.1 hr;rw [M.run_bind] at hr1;obtain ⟨ys,ρ2,st2,hr2,h2,e2,n2,l2,d2,f2⟩:=Zb6 h1 (hx.2.ext e1) hr1;refine ⟨y::ys,ρ2,st2,hr2,h2,e1.trans e2,n2.trans n1,⟨l1.ext e2,l2⟩,?_,f1.trans f2⟩;intro z hz;rcases Y5.1 hz with rfl | hz
  ·exact d1
  ·exact d2 z hz
 | [],_::_,_,_,_,_,h,_=>h.elim
 | _::_,[],_,_,_,_,h,_=>h.elim
def Zai (w:World) (F:Nat→Prop) (v:Value) (t:Ty) (l:List t.T):Prop:=∃A c,v = .slice A l.length c∧(l=[]∨∃g o,A=some ⟨g,o,none⟩∧g<w.heap.size∧∀(j:Nat) (x:t.T),l[j]? = some x→∃c,Zig w g (o+j*t.sz) c∧Rep w F t x c)
theorem Zteb {z:Bool} {e:TypeId} {t:Ty} {v:Value} {l:List t.T} {F:Nat→Prop} (h:Zac w F z e t v l) (hm:Z0 e=false):Zai w F v t l:=by
 rcases h.slice hm with ⟨rfl,rfl⟩ | ⟨g,cap,cs,fr,rfl,hg,hu,_,hl,hsz,hx⟩
 ·exact ⟨none,0,rfl,.inl rfl⟩
 ·refine ⟨_,cap,rfl,.inr ⟨g,0,rfl,(Yj.1 hg).1,?_⟩⟩
  intro j y hj;refine ⟨_,?_,hx j y hj⟩;intro i u hu';rw [cell_of_row w g (0+j*t.sz+i) cs e fr hg];rw [Ym] at hu';split at hu'
  ·rw [Yi] at hu'
   rw [Yf];simpa using hu'
  ·cases hu'
theorem Zf6 {t:Ty} {v:Value} {l:List t.T} (h:Rep w (Fix X ρ w) (.sl t) l [v]):Zai w (Fix X ρ w) v t l:=by
 obtain ⟨A,c,hv,_,h⟩:=h
 cases hv
 exact ⟨A,c,rfl,h.imp id fun ⟨g,o,h1,h2,h3⟩=>⟨g,o,h1,h2.1,h3⟩⟩
theorem Zt2 {t:Ty} {v:Value} {l:List t.T} (h:Rep w (Brw ρ w) (.sl t) l [v]):Zai w (Brw ρ w) v t l:=by
 obtain ⟨A,c,hv,_,h⟩:=h
 cases hv
 exact ⟨A,c,rfl,h.imp id fun ⟨g,o,h1,h2,h3⟩=>⟨g,o,h1,h2.1,h3⟩⟩
theorem Zai.flat {F F':Nat→Prop} {t:Ty} {v:Value} {l:List t.T} (k:flat t=true) (h:Zai w F v t l):Zai w F' v t l:=by
 obtain ⟨A,c,hv,h⟩:=h
 refine ⟨A,c,hv,h.imp id fun ⟨g,o,h1,h2,h3⟩=>⟨g,o,h1,h2,fun j x hj=>?_⟩⟩
 obtain ⟨c,h4,h5⟩:=h3 j x hj
 exact ⟨c,h4,h5.flat k⟩
theorem Zqy {K:(Σ t:Ty,List t.T)→St→Option R} (h:Rel X ρ st a w) {x:Leaf} {v:Value} (hx:Zlb X ρ w x v) (hr:(Z1r x).run st K=some r):
  ∃c,K c st=some r∧Zai w (Fix X ρ w) v c.1 c.2:=by
 unfold Z1r at hr
 split at hr
 ·exact ⟨_,hr,Zf6 hx⟩
 ·rename_i t l
  cases hk:flat t with
  | false=>rw [hk] at hr;cases hr
  | true=>rw [hk] at hr;exact ⟨_,hr,(Zt2 hx).flat hk⟩
 ·rename_i n
  replace hr:(match st.ent n with
   | .arr _ e r l=>bif Z0 e then .fail else M.ret ⟨r,l⟩
   | .frz r l=>.ret ⟨r,l⟩
   | _=>.fail:M (Σ t:Ty,List t.T)).run st K=some r:=hr
  have h0:=h.ents n;have hx:=hx.2;split at hr
  ·rename_i z e t l he
   rw [he] at h0;obtain ⟨u,hu,h0⟩:=h0;rw [hu] at hx;rw [show v=u from hx];cases hm:Z0 e with
   | true=>rw [hm] at hr;cases hr
   | false=>
    rw [hm] at hr;exact ⟨_,hr,Zteb h0 hm⟩
  ·rename_i t l he
   rw [he] at h0;obtain ⟨u,hu,h0⟩:=h0;rw [hu] at hx;rw [show v=u from hx];exact ⟨_,hr,Zf6 h0⟩
  ·cases hr
 ·cases hr
end
section
variable {P:Program} {o:Oper} {X:Nat→Prop} {ρ ρ':Rho} {st st':St} {a:Act} {w w':World} {g:Option (Nat×Bool)} {R:Type} {r:R} {K:AV→St→Option R} {C:Ctx}
theorem Z2f {α:Type} {t:TypeId} {f:TI→M α} {K:α→St→Option R} (hr:(Zfe C t f).run st K=some r):∃i,C.ti.get t=some i∧(f i).run st K=some r:=by
 unfold Zfe at hr
 split at hr
 ·exact ⟨_,by assumption,hr⟩
 ·cases hr
theorem Zfm {t:TypeId} {f:TI→TI→M AV} (hr:(Zvi C t f).run st K=some r):∃i e,C.ti.get t=some i∧C.ti.get i.elem=some e∧i.kind=3∧(f i e).run st K=some r:=by
 unfold Zvi at hr
 obtain ⟨i,hi,hr⟩:=Z2f hr
 cases hk:Ya i.kind 3 with
 | false=>rw [hk] at hr;cases hr
 | true=>
  rw [hk] at hr;obtain ⟨e,he,hr⟩:=Z2f hr;exact ⟨i,e,hi,he,Yb hk,hr⟩
theorem Zyf {α β:Type} {q:Option β} {f:β→M α} {K:α→St→Option R} (hr:(M.opt β q f).run st K=some r):∃b,q=some b∧(f b).run st K=some r:=by
 cases q with
 | none=>cases hr
 | some b=>exact ⟨b,rfl,hr⟩
theorem Z9j {x:AV} {v:Value} {K:Int→St→Option R} (hx:Z4 X ρ w x v) (hr:(Z2i x).run st K=some r):∃k n,v = .int k n∧K n st=some r:=by
 unfold Z2i at hr
 split at hr
 ·exact ⟨_,_,hx,hr⟩
 ·cases hr
theorem Zru {c:Call} {b:Builtin} (ho:o.op = .call c) (hc:c.callee = .builtin b):∃consts,(execOp a.eval o).run P w=(Go.builtin b c.argTypes o.type consts (c.args.map a.eval)).run P w:=by
 refine ⟨c.args.map fun | .const _=>true | _=>false,?_⟩
 unfold execOp
 rw [ho]
 simp only [resolve,hc,Sem.run_bind,Sem.run_pure,Result.andThen_ok,invoke]
 rfl
theorem Ziv {c:Call} {f:TypeId→M AV} (hr:(Zmj c f).run st K=some r):∃t,c.argTypes[0]? = some t∧(f t).run st K=some r:=by
 unfold Zmj at hr
 split at hr
 ·exact ⟨_,by assumption,hr⟩
 ·cases hr
theorem Z1m {α:Type} {l:List α} {i:Int} {x:α} (h:at? l i=some x):0≤i∧i.toNat<l.length∧l[i.toNat]? = some x:=by
 unfold at? at h
 split at h
 ·rename_i h0
  exact ⟨h0,(Y2.1 h).1,h⟩
 ·cases h
theorem Zngb {α:Type} {xs:Array α} {x:α} (h:xs.toList=[x]):xs = #[x]:=Yq h
theorem Zzs {α:Type} {xs:Array α} {x y:α} (h:xs.toList=[x,y]):xs = #[x,y]:=Yq h
theorem Zd5 (h:Rel X ρ st a w) {n:Nat} {z:Bool} {e:TypeId} {l:List Int} {v:Value} (he:st.ent n = .arr z e (.int .i64) l) (hm:Z0 e=true) (hv:Zlb X ρ w (.own n) v):
  ∃g es clk,v = .map (some g)∧ρ n=some (.row (.map (some g)))∧w.heap[g]? = some (.map es clk)∧Zhh es.toList l∧z=false:=by
 have h0:=h.ents n
 rw [he] at h0
 obtain ⟨u,hu,h0⟩:=h0
 have h2:=hv.2
 rw [hu] at h2
 have h2:v=u:=h2
 subst h2
 rcases h0.cases with ⟨hm',_⟩ | ⟨_,rfl,⟨g,es,clk,hr,rfl,hg,hk⟩ | ⟨_,_,_,k,hr,h1,_⟩⟩
 ·rw [hm] at hm';cases hm'
 ·exact ⟨g,es,clk,rfl,hu,hg,hk,rfl⟩
 ·cases hr
  cases h1
theorem Znt (h:Rel X ρ st a w) {n:Nat} {e:TypeId} {k:IntKind} {l:List (Ty.int k).T} (he:st.ent n = .arr false e (.int k) l) (ha:Zjn e=true) (hk:Zdi k=true):
  ∃g cs ty,ρ n=some (.row (.pointer (some ⟨g,0,none⟩)))∧w.heap[g]? = some (.cells cs ty (0,0))∧l.length=e-2000000∧cs.toList=l.map fun n=>Value.int k n:=by
 have h0:=h.ents n
 rw [he] at h0
 obtain ⟨u,hu,h0⟩:=h0
 rcases h0.cases with ⟨hm',_⟩ | ⟨_,_,⟨g,es,clk,hr,_⟩ | ⟨g,cs,ty,k',hr,h1,h2,rfl,hg,h3,h4⟩⟩
 ·rw [Zbcb ha] at hm';cases hm'
 ·cases hr
  cases hk
 ·cases hr
  exact ⟨g,cs,ty,hu,hg,h3,h4⟩
theorem Za0 {n:Nat} {u v:Value} (hu:ρ n=some (.row u)) (hv:Zlb X ρ w (.own n) v):v=u:=by
 have h2:=hv.2
 rw [hu] at h2
 exact h2
theorem Zhh.len:∀{es:List MapEntry} {l:List Int},Zhh es l→es.length=l.length
 | [],[],_=>rfl
 | _::_,_::_,h=>congrArg (· + 1) (Zhh.len h.2.2)
 | [],_::_,h=>h.elim
 | _::_,[],h=>h.elim
theorem Zx3 (k:Int):∀{es:List MapEntry} {l:List Int} (i:Nat),Zhh es l →
  (Z6f k l=true∧∃j,j<es.length∧l[j]? = some k∧Instr.findNow (.int .i64) (.int .i64 k) es i=some (some (i+j,.bool true)))∨(Z6f k l=false∧Instr.findNow (.int .i64) (.int .i64 k) es i=some none)
 | [],[],i,_=>.inr ⟨rfl,rfl⟩
 | x::es,q::l,i,h=>by
  obtain ⟨h1,h2,h3⟩:=h;cases hq:k==q with
  | true=>
   obtain rfl:k=q:=by simpa using hq
   exact .inl ⟨by simp [Z6f],0,by simp,rfl,by simp [Instr.findNow,Instr.sameNow,h1,h2]⟩
  | false=>
   have hs:Instr.findNow (.int .i64) (.int .i64 k) (x::es) i=Instr.findNow (.int .i64) (.int .i64 k) es (i+1):=by
    simp only [Instr.findNow,Instr.sameNow,h1,Xc,hq]
   rcases Zx3 k (i+1) h3 with ⟨k1,j,k2,k3,k4⟩ | ⟨k1,k2⟩
   ·refine .inl ⟨?_,j+1,by simpa using k2,k3,?_⟩
    ·have:Z6f k (q::l)=((k==q)||Z6f k l):=rfl
     rw [this,k1,Bool.or_true]
    ·rw [hs,k4,show i+1+j=i+(j+1) by omega]
   ·refine .inr ⟨?_,by rw [hs,k2]⟩
    have:Z6f k (q::l)=((k==q)||Z6f k l):=rfl;rw [this,k1,hq];rfl
 | [],_::_,_,h=>h.elim
 | _::_,[],_,h=>h.elim
theorem Zspb {e:TypeId} {q:TypeInfo} (h:P.info? e=some q) (hz:q.zero=some (.bool false)):(zeroValue e).run P w = .ok (.bool false) w:=by
 simp [zeroValue,typeInfo,h,hz]
theorem Zmpb {b:Bool} {key:TypeId} (hk:P.underlying key=some (.int .i64)) (k:Int) (n:Nat):(Instr.checkKey b (n+1) key (.int .i64 k)).run P w = .ok () w:=by
 simp [Instr.checkKey,run_underlying hk]
theorem Zu0 {b:Bool} {key:TypeId} (hk:P.underlying key=some (.int .i64)) (k:Int):(Instr.checkKey b 10000 key (.int .i64 k)).run P w = .ok () w:=Zmpb hk k 9999
theorem Zv0 {key:TypeId} (hk:P.underlying key=some (.int .i64)) {k:Int} {es:List MapEntry} {q:Option (Nat×Value)} (hf:Instr.findNow (.int .i64) (.int .i64 k) es 0=some q):(Instr.findKey key (.int .i64 k) es).run P w = .ok q w:=by
 simp [Instr.findKey,run_underlying hk,hf]
theorem Zb5 (T:Zob P C.ti) {t:TypeId} {f:M AV} (hr:(Z6t C t f).run st K=some r):f.run st K=some r∧∃k e q,P.underlying t=some (.map k e)∧P.underlying k=some (.int .i64)∧P.info? e=some q∧q.zero=some (.bool false):=by
 unfold Z6t at hr
 obtain ⟨i,hi,hr⟩:=Z2f hr
 cases hk:Ya i.kind 6 with
 | false=>rw [hk] at hr;cases hr
 | true=>
  rw [hk] at hr;exact ⟨hr,(T _ _ hi).map (Yb hk)⟩
theorem Z4kb (T:Zob P C.ti) (h:Rel X ρ st a w) (hg:Zyc a g) {t:TypeId} {x i:Operand} (ho:o.op = .lookup t x i false)
  (hr:((opd g x).bind fun v=>(opd g i).bind fun j=>Z64 C t v j).run st K=some r):Zdb P o a w X ρ st K r:=by
 rw [M.run_bind] at hr
 obtain ⟨v,hr1,hv⟩:=Zyb h hg hr
 clear hr
 rw [M.run_bind] at hr1
 obtain ⟨jv,hr,hj⟩:=Zyb h hg hr1
 clear hr1
 unfold Z64 at hr
 obtain ⟨hr2,kt,et,q,hu,hk,hq,hz⟩:=Zb5 T hr
 clear hr
 have hr:=hr2
 clear hr2
 split at hr
 ·rename_i n k
  replace hr:(Z54 k (st.ent n)).run st K=some r:=hr;unfold Z54 at hr;split at hr
  ·rename_i z e l he
   cases hm:Z0 e with
   | false=>rw [hm] at hr;cases hr
   | true=>
    rw [hm] at hr;obtain ⟨gb,es,clk,hx,_,hgb,hks,_⟩:=Zd5 h he hm hv;have hj:a.eval i = .int .i64 k:=hj
    have hb:∀b,(Instr.lookup t (a.eval x) (a.eval i) false).run P w = .ok (.bool b) w→(execOp a.eval o).run P w = .ok (.value (.bool b)) w:=by
     intro b hl;unfold execOp;rw [ho];simp [hl]
    refine Zib (hb (Z6f k l) ?_) hr rfl h;rw [hx,hj];rcases Zx3 k 0 hks with ⟨k1,j,k2,_,k4⟩ | ⟨k1,k2⟩
    ·rw [k1]
     simp [Instr.lookup,run_underlying hu,MapKept.run_getObj_map hgb,Zu0 hk,Zv0 hk k4,Result.andThen]
    ·rw [k1]
     simp [Instr.lookup,run_underlying hu,MapKept.run_getObj_map hgb,Zu0 hk,Zv0 hk k2,Zspb hq hz,Result.andThen]
  ·cases hr
 ·cases hr
theorem Z2kb (T:Zob P C.ti) (h:Rel X ρ st a w) (hg:Zyc a g) {c:Call} {x:Operand} (ho:o.op = .call c) (hc:c.callee = .builtin .len) (ha:c.args.toList=[x])
  (hr:((opd g x).bind fun v=>Zmj c fun t=>lenOf C t v).run st K=some r):Zdb P o a w X ρ st K r:=by
 rw [M.run_bind] at hr
 obtain ⟨v,hr1,hv⟩:=Zyb h hg hr
 clear hr
 obtain ⟨t,hn,hr⟩:=Ziv hr1
 clear hr1
 unfold lenOf at hr
 obtain ⟨ti,hti,hr1⟩:=Z2f hr
 clear hr
 obtain ⟨d,hd,_,_,hd2,hd3,_⟩:=(T _ _ hti).und
 obtain ⟨consts,hb⟩:=Zru (P:=P) (w:=w) (a:=a) ho hc
 have hrun:∀n:Int,(Builtin.len_ c.argTypes o.type #[a.eval x]).run P w = .ok (goInt n) w→(execOp a.eval o).run P w = .ok (.value (.int .i64 n)) w:=by
  intro n h1;rw [hb,Zngb ha];simp [Go.builtin,h1,goInt]
 split at hr1
 ·rename_i n hk
  obtain ⟨_,_,_,hu,_⟩:=(T _ _ hti).map hk;replace hr1:(Za5 (st.ent n)).run st K=some r:=hr1;unfold Za5 at hr1;split at hr1
  ·rename_i z e l he
   cases hm:Z0 e with
   | false=>rw [hm] at hr1;cases hr1
   | true=>
    rw [hm] at hr1;obtain ⟨gb,es,clk,hx,_,hgb,hks,_⟩:=Zd5 h he hm hv;refine Zib (hrun l.length ?_) hr1 rfl h;rw [hx];simp [Builtin.len_,hn,run_underlying hu,MapKept.run_getObj_map hgb,goInt,Result.andThen,← hks.len]
  ·cases hr1
 ·rename_i s hk
  have hx:a.eval x = .string (ba s):=hv;have:=hd2 hk;subst this;refine Zib (hrun s.length ?_) hr1 rfl h;rw [hx];simp [Builtin.len_,hn,run_underlying hd,goInt];rfl
 ·rename_i hk
  have hx:a.eval x = .slice none 0 0:=hv;have:=hd3 hk;subst this;refine Zib (hrun 0 ?_) hr1 rfl h;rw [hx];simp [Builtin.len_,hn,run_underlying hd,goInt]
 ·rename_i t l hk
  have:=hd3 hk;subst this;obtain ⟨A,cap,hx,_⟩:=Zt2 hv;refine Zib (hrun l.length ?_) hr1 rfl h;rw [hx];simp [Builtin.len_,hn,run_underlying hd,goInt]
 ·rename_i y hk1 hk2 hk
  have:=hd3 hk;subst this;rw [M.run_bind] at hr1;obtain ⟨cc,hr,A,cap,hx,_⟩:=Zqy h hv hr1;refine Zib (hrun cc.2.length ?_) hr rfl h;rw [hx];simp [Builtin.len_,hn,run_underlying hd,goInt]
 ·cases hr1
theorem Zpbb {mx:Bool} (h:Rel X ρ st a w) (hg:Zyc a g) {c:Call} {x y:Operand} (ho:o.op = .call c) (hc:c.callee = .builtin (bif mx then .max else .min)) (ha:c.args.toList=[x,y])
  (hr:((opd g x).bind fun a=>(opd g y).bind fun b=>Zyz mx a b).run st K=some r):Zdb P o a w X ρ st K r:=by
 rw [M.run_bind] at hr
 obtain ⟨v,hr1,hv⟩:=Zyb h hg hr
 clear hr
 rw [M.run_bind] at hr1
 obtain ⟨u,hr,hu⟩:=Zyb h hg hr1
 clear hr1
 obtain ⟨consts,hb⟩:=Zru (P:=P) (w:=w) (a:=a) ho hc
 unfold Zyz at hr
 split at hr
 ·rename_i k n k' m
  have hx:a.eval x = .int k n:=hv;have hy:a.eval y = .int k' m:=hu;split at hr
  ·rename_i hk
   subst hk;cases mx with
   | true=>
    refine Zib (v:=.int k (Zm4 n m)) ?_ hr rfl h;rw [hb,Zzs ha];simp [Go.builtin,Builtin.max_,Builtin.max2,hx,hy,Zm4]
   | false=>
    refine Zib (v:=.int k (Zn4 n m)) ?_ hr rfl h;rw [hb,Zzs ha];simp [Go.builtin,Builtin.min_,Builtin.min2,hx,hy,Zn4]
  ·cases hr
 ·cases hr
theorem Zpmb (T:Zob P C.ti) (h:Rel X ρ st a w) {t:TypeId} {x i:Operand} (ho:o.op = .index t x i) {v jv:AV} (hv:Z4 X ρ w v (a.eval x)) (hj:Z4 X ρ w jv (a.eval i))
  (hr:(index C t v jv).run st K=some r):Zdb P o a w X ρ st K r:=by
 unfold index at hr
 rw [M.run_bind] at hr
 obtain ⟨k,j,hj,hr1⟩:=Z9j hj hr
 clear hr
 obtain ⟨ti,hti,hr⟩:=Z2f hr1
 clear hr1
 obtain ⟨d,hd,_,_,hd2,_⟩:=(T _ _ hti).und
 cases hk:Ya ti.kind 2 with
 | false=>rw [hk] at hr;cases hr
 | true=>
  rw [hk] at hr;have:=hd2 (Yb hk);subst this
  replace hr:(match v with
   | .one (.str s)=>M.opt UInt8 (at? s j) fun b=>Zgf .u8 (b.toNat:Int)
   | _=>.fail).run st K=some r:=hr
  split at hr
  ·rename_i s
   obtain ⟨b,hb,hr1⟩:=Zyf hr;obtain ⟨h0,h1,h2⟩:=Z1m hb;refine Zib (v:=.int .u8 (b.toNat:Int)) ?_ hr1 rfl h;have hx:a.eval x = .string (ba s):=hv;unfold execOp;rw [ho]
   have hs:(ba s)[j.toNat]? = some b:=by
    have h3:j.toNat<(ba s).size:=h1;rw [getElem?_pos (ba s) j.toNat h3];have h4:=(Y2.1 h2).2;rw [← h4];rfl
   simp [hx,hj,Instr.index,asIntOf,run_underlying hd,h0,hs]
  ·cases hr
theorem Z2z {p:Bool} {xs:List Leaf} {u:Value} (hp:Ztm X ρ w (p,xs) u):Z4 X ρ w (mk1 p xs) u:=by
 cases p with
 | true=>exact hp
 | false=>
  have hp:Zq X ρ w xs [u]:=hp;rcases xs with _ | ⟨x,_ | ⟨y,ys⟩⟩
  ·trivial
  ·exact hp.1
  ·trivial
theorem Ztkb (h:Rel X ρ st a w) (hg:Zyc a g) {x:Operand} {i:Nat} (ho:o.op = .extract x i)
  (hr:((opd g x).bind fun v=>Zu3 i v).run st K=some r):Zdb P o a w X ρ st K r:=by
 rw [M.run_bind] at hr
 obtain ⟨v,hr1,hv⟩:=Zyb h hg hr
 clear hr
 unfold Zu3 at hr1
 split at hr1
 ·rename_i cs
  obtain ⟨vs,hx,hc⟩:=hv;split at hr1
  ·rename_i p xs hi
   obtain ⟨u,hu,hp⟩:∃u,vs[i]? = some u∧Ztm X ρ w (p,xs) u:=by
    rw [← Yy];generalize vs.toList=us at hc;clear hx hr1 ho
    induction cs generalizing us i with
    | nil=>cases hi
    | cons c cs ih=>
     cases us with
     | nil=>exact hc.elim
     | cons u us=>
      cases i with
      | zero=>cases hi;exact ⟨u,rfl,hc.1⟩
      | succ i=>exact ih hi us hc.2
   refine Zib (v:=u) ?_ hr1 ?_ h
   ·unfold execOp
    rw [ho];simp [hx,Instr.extract,hu]
   ·exact Z2z hp
  ·cases hr1
 ·cases hr1
theorem Z9kb (h:Rel X ρ st a w) (hg:Zyc a g) {x:Operand} (ho:o.op = .nilCheck x)
  (hr:((opd g x).bind fun v=>Zr5 v).run st K=some r):Zdb P o a w X ρ st K r:=by
 rw [M.run_bind] at hr
 obtain ⟨v,hr1,hv⟩:=Zyb h hg hr
 clear hr
 unfold Zr5 at hr1
 split at hr1
 ·rename_i b off
  replace hr:(match st.ent b with
   | .box _ _=>M.ret (AV.one (.ptr b off))
   | _=>.fail).run st K=some r:=hr1
  split at hr
  ·rename_i bt xs he
   have h0:=h.ents b;rw [he] at h0;obtain ⟨gb,cs,fr,hb,_⟩:=h0;have h2:=hv.2;rw [hb] at h2;refine Zib (v:=a.eval x) ?_ hr hv h;have h2:a.eval x = .pointer (some ⟨gb,off,none⟩):=h2;unfold execOp;rw [ho];simp [h2]
  ·cases hr
 ·rename_i xs
  have hv0:=hv;obtain ⟨gb,off,cs,h2,_⟩:=hv;refine Zib (v:=a.eval x) ?_ hr1 hv0 h;unfold execOp;rw [ho];simp [h2]
 ·rename_i n
  replace hr:(Zq5 n (st.ent n)).run st K=some r:=hr1;unfold Zq5 at hr;split at hr
  ·rename_i e k l he
   cases hc:(Zjn e&&Zdi k) with
   | false=>rw [hc] at hr;cases hr
   | true=>
    rw [hc] at hr;obtain ⟨h1,h2⟩:=(Yk _ _).mp hc;obtain ⟨g,cs,ty,hn,_⟩:=Znt h he h1 h2;have hx:=Za0 (X:=X) (w:=w) hn hv;refine Zib (v:=a.eval x) ?_ hr hv h;unfold execOp;rw [ho];simp [hx]
  ·cases hr
 ·cases hr1
theorem Zrdb (T:Zob P C.ti) {t:TypeId} {xs:List Leaf} {cs:List Value} {K:AV→St→Option R} (hx:Zq X ρ w xs cs) (hr:(part C t xs).run st K=some r):
  ∃i av v,C.ti.get t=some i∧K av st=some r∧Z4 X ρ w av v∧(i.agg=true→i.sz≤cs.length∧v = .agg (cs.take i.sz).toArray)∧(i.agg=false→cs[0]? = some v):=by
 unfold part at hr
 obtain ⟨i,hi,hr1⟩:=Z2f hr
 clear hr
 cases hag:i.agg with
 | true=>
  rw [hag] at hr1;cases hle:Yv i.sz xs.length with
  | false=>rw [hle] at hr1;cases hr1
  | true=>
   rw [hle] at hr1;have hle:=Yp hle;rw [hx.len] at hle;exact ⟨i,_,_,hi,hr1,⟨(cs.take i.sz).toArray,rfl,by simpa using hx.take i.sz⟩,fun _=>⟨hle,rfl⟩,fun h=>by rw [hag] at h;cases h⟩
 | false=>
  rw [hag] at hr1
  replace hr1:(match xs with
   | x::_=>M.ret (AV.one x)
   | []=>.fail).run st K=some r:=hr1
  cases xs with
  | nil=>cases hr1
  | cons x xs=>
   cases cs with
   | nil=>exact hx.elim
   | cons c cs=>exact ⟨i,_,c,hi,hr1,hx.1,(fun h=>by rw [hag] at h;cases h),fun _=>rfl⟩
theorem Z2ab {t:TypeId} {f:Nat} {k:Nat→TypeId→M AV} (hr:(Z5y C t f k).run st K=some r):∃i o ft,C.ti.get t=some i∧i.kind=4∧i.offs[f]? = some (o,ft)∧(k o ft).run st K=some r:=by
 unfold Z5y at hr
 obtain ⟨i,hi,hr1⟩:=Z2f hr
 clear hr
 cases hk:Ya i.kind 4 with
 | false=>rw [hk] at hr1;cases hr1
 | true=>
  rw [hk] at hr1
  replace hr1:(match i.offs[f]? with
   | some (o,ft)=>k o ft
   | none=>.fail).run st K=some r:=hr1
  split at hr1
  ·exact ⟨i,_,_,hi,Yb hk,by assumption,hr1⟩
  ·cases hr1
theorem Zos {t:TypeId} {i:TI} (Ti:TiFor P t i):(isAgg t).run P w = .ok i.agg w:=by
 obtain ⟨d,hd,hag,_⟩:=Ti.und
 rw [hag]
 unfold isAgg
 simp only [Sem.run_bind,run_underlying hd,Result.andThen_ok]
 cases d <;> rfl
theorem Zxg {t:TypeId} {i:TI} (Ti:TiFor P t i):(sizeOf t).run P w = .ok i.sz w:=by
 obtain ⟨q,hq,hs,_⟩:=Ti.info
 simp [sizeOf,typeInfo,hq,hs]
theorem Zukb (T:Zob P C.ti) (h:Rel X ρ st a w) (hg:Zyc a g) {t:TypeId} {x:Operand} {f:Nat} (ho:o.op = .field t x f)
  (hr:((opd g x).bind fun v=>field C t v f).run st K=some r):Zdb P o a w X ρ st K r:=by
 rw [M.run_bind] at hr
 obtain ⟨v,hr1,hv⟩:=Zyb h hg hr
 clear hr
 unfold field at hr1
 obtain ⟨i,off,ft,hi,hk,hf,hr⟩:=Z2ab hr1
 clear hr1
 split at hr
 ·rename_i xs
  obtain ⟨cs,hx,hxs⟩:=hv;obtain ⟨fi,av,u,hfi,hk2,hav,h1,h2⟩:=Zrdb T (hxs.drop off) hr;obtain ⟨d,hd,_,_,_,_,_,h4⟩:=(T _ _ hi).und;obtain ⟨fs,rfl,hfs⟩:=h4 hk;obtain ⟨fl,hfl,hfo,hft,_⟩:=hfs f off ft hf;refine Zib (v:=u) ?_ hk2 hav h;unfold execOp;rw [ho]
  have hp:(Go.part ft cs off).run P w = .ok u w:=by
   unfold Go.part;simp only [Sem.run_bind,Zos (T _ _ hfi),Result.andThen_ok];cases hag:fi.agg with
   | true=>
    simp only [if_true,Sem.run_bind,Zxg (T _ _ hfi),Result.andThen_ok,Sem.run_pure];rw [(h1 hag).2];congr 2;apply Yq;rw [Array.toList_extract];simp [List.extract]
   | false=>
    have h2:=h2 hag;rw [Yi] at h2;have:cs[off]? = some u:=by rw [← Yy];simpa using h2
    simp [this]
  simp only [hx,Sem.run_bind];simp [Instr.field,run_underlying hd,hfl,hft,hfo,asAgg,hp]
 ·cases hr
end
section
variable {P:Program} {o:Oper} {X:Nat→Prop} {ρ ρ':Rho} {st st':St} {a:Act} {w w':World} {g:Option (Nat×Bool)} {R:Type} {r:R} {K:AV→St→Option R} {C:Ctx}
theorem Ztg (b o j:Nat):(⟨b,o,none⟩:Addr).add j=⟨b,o+j,none⟩:=by unfold Addr.add;split <;> simp_all
theorem Zig.drop {b o:Nat} {cs:List Value} (h:Zig w b o cs) (k:Nat):Zig w b (o+k) (cs.drop k):=by
 intro i v hv
 rw [Yi] at hv
 have:=h (k+i) v hv
 rwa [← Y7] at this
theorem Zt9 {b:Nat} {cs:Array Value} {t:TypeId} {fr:Nat×Nat} (hg:w.heap[b]? = some (.cells cs t fr)):Zig w b 0 cs.toList:=by
 intro i v hv
 rw [cell_of_row w b (0+i) cs t fr hg,Yf]
 simpa using hv
theorem Zac.noMap {z:Bool} {e:TypeId} {t:Ty} {A:Option Addr} {m c:Nat} {l:List t.T} {F:Nat→Prop} (h:Zac w F z e t (.slice A m c) l):Z0 e=false:=by
 rcases h.cases with ⟨he,_⟩ | ⟨_,_,⟨g,_,_,_,hv,_⟩ | ⟨g,_,_,_,_,_,_,hv,_⟩⟩
 ·exact he
 ·cases hv
 ·cases hv
theorem Z44 (T:Zob P C.ti) {t:TypeId} {b q:Nat} {xs:List Leaf} {cs:List Value} (hc:Zig w b q cs) (hx:Zq X ρ w xs cs) (hr:(part C t xs).run st K=some r):
  ∃av v,K av st=some r∧Z4 X ρ w av v∧(loadVar t ⟨b,q,none⟩).run P w = .ok v w:=by
 obtain ⟨i,av,v,hi,hk,hv,h1,h2⟩:=Zrdb T hx hr
 refine ⟨av,v,hk,hv,?_⟩
 unfold loadVar
 simp only [Sem.run_bind,Zos (T _ _ hi),Result.andThen_ok]
 cases hag:i.agg with
 | true=>
  obtain ⟨hle,rfl⟩:=h1 hag
  have hl:(loadCells ⟨b,q,none⟩ (cs.take i.sz).length).run P w = .ok (cs.take i.sz).toArray w:=
   run_loadCells_list (P:=P) w ⟨b,q,none⟩ (cs.take i.sz) (fun j v hv=>by
    rw [Ztg];rw [Ym] at hv;split at hv
    ·exact hc j v hv
    ·cases hv)
  rw [Y4,Nat.min_eq_left hle] at hl;simp [Zxg (T _ _ hi),hl]
 | false=>
  have h2:=h2 hag;have:=hc 0 v h2;rw [Yo] at this;simp [this]
theorem Zsu {t:TypeId} {x:Operand} (ho:o.op = .load t x) {A:Addr} {v:Value} (hx:a.eval x = .pointer (some A)) (hl:(loadVar t A).run P w = .ok v w):(execOp a.eval o).run P w = .ok (.value v) w:=by
 unfold execOp
 rw [ho]
 simp [Instr.loadAt,Instr.sureAddr,hx,hl]
theorem Z7mb (T:Zob P C.ti) (h:Rel X ρ st a w) {t:TypeId} {x:Operand} (ho:o.op = .load t x) {p:AV} (hp:Z4 X ρ w p (a.eval x))
  (hr1:(load C t p).run st K=some r):Zdb P o a w X ρ st K r:=by
 unfold load at hr1
 split at hr1
 ·rename_i b off
  replace hr:(match st.ent b with
   | .box _ xs=>part C t (xs.drop off)
   | _=>.fail).run st K=some r:=hr1
  split at hr
  ·rename_i bt xs he
   have h0:=h.ents b;rw [he] at h0;obtain ⟨gb,cs,fr,hb,hh,_,hxs⟩:=h0;have h2:=hp.2;rw [hb] at h2;have h3:=(Zt9 hh).drop off;rw [Yf] at h3;obtain ⟨av,v,hk,hv,hl⟩:=Z44 T h3 (hxs.drop off) hr;exact Zib (Zsu ho h2 hl) hk hv h
  ·cases hr
 ·rename_i xs
  obtain ⟨gb,q,cs,hx,_,hc,hxs⟩:=hp;obtain ⟨av,v,hk,hv,hl⟩:=Z44 T hc hxs hr1;exact Zib (Zsu ho hx hl) hk hv h
 ·rename_i n i z off
  replace hr:(match st.ent n with
   | .arr _ _ r l=>bif Ya z r.sz then M.opt r.T (at? l i) fun v=>part C t ((Z2 r v).drop off) else .fail
   | _=>.fail).run st K=some r:=hr1
  split at hr
  ·rename_i fz et rt l he
   cases hz:Ya z rt.sz with
   | false=>rw [hz] at hr;cases hr
   | true=>
    rw [hz] at hr;have hz:=Yb hz;obtain ⟨y,hy,hr2⟩:=Zyf hr;obtain ⟨hi0,hi1,hi2⟩:=Z1m hy;have h0:=h.ents n;rw [he] at h0;obtain ⟨u,hu,h0⟩:=h0;have hp:Zsm (ρ n) i z off (a.eval x):=hp;rw [hu] at hp;obtain ⟨gb,m,cap,hu3,_,hx⟩:=hp
    have hm:Z0 et=false:=by
     rw [hu3] at h0;exact h0.noMap
    obtain ⟨A,c,hu2,hrow⟩:=Zteb h0 hm;rcases hrow with rfl | ⟨g',o',hA,_,hrow⟩
    ·cases hi2
    ·rw [hu3] at hu2
     cases hu2;cases hA;obtain ⟨cs,hc,hrep⟩:=hrow _ _ hi2;rw [Yf] at hc;subst hz;obtain ⟨av,v,hk,hv,hl⟩:=Z44 T (hc.drop off) ((Z5t hrep).drop off) hr2;exact Zib (Zsu ho hx hl) hk hv h
  ·cases hr
 ·cases hr1
theorem Zvkb (T:Zob P C.ti) (h:Rel X ρ st a w) (hg:Zyc a g) {t:TypeId} {x:Operand} {f:Nat} (ho:o.op = .fieldAddr t x f)
  (hr:((opd g x).bind fun v=>fieldAddr C t v f).run st K=some r):Zdb P o a w X ρ st K r:=by
 rw [M.run_bind] at hr
 obtain ⟨p,hr1,hp⟩:=Zyb h hg hr
 clear hr
 unfold fieldAddr at hr1
 obtain ⟨i,off,ft,hi,hk,hf,hr⟩:=Z2ab hr1
 clear hr1
 obtain ⟨d,hd,_,_,_,_,_,h4⟩:=(T _ _ hi).und
 obtain ⟨fs,rfl,hfs⟩:=h4 hk
 obtain ⟨fl,hfl,hfo,hft,q,hq,hq0⟩:=hfs f off ft hf
 have hrun:∀b k,a.eval x = .pointer (some ⟨b,k,none⟩)→(execOp a.eval o).run P w = .ok (.value (.pointer (some ⟨b,k+off,none⟩))) w:=by
  intro b k hx;unfold execOp;rw [ho];simp [Instr.fieldAt,run_underlying hd,hfl,hx,Instr.sureAddr,fieldPlace,hft,sizeOf,typeInfo,hq,hq0,hfo,Ztg]
 split at hr
 ·rename_i b k
  replace hr:(match st.ent b with
   | .box _ _=>M.ret (AV.one (.ptr b (k+off)))
   | _=>.fail).run st K=some r:=hr
  split at hr
  ·rename_i bt xs he
   have h0:=h.ents b;rw [he] at h0;obtain ⟨gb,cs,fr,hb,_⟩:=h0;have h2:=hp.2;rw [hb] at h2;exact Zib (hrun gb k h2) hr ⟨⟨_,rfl⟩,by rw [hb]⟩ h
  ·cases hr
 ·rename_i xs
  obtain ⟨gb,k,cs,hx,hfix,hc,hxs⟩:=hp;exact Zib (hrun gb k hx) hr ⟨gb,k+off,cs.drop off,rfl,hfix,hc.drop off,hxs.drop off⟩ h
 ·rename_i n j z k
  replace hr:(match st.ent n with
   | .arr _ _ _ _=>M.ret (AV.aptr n j z (k+off))
   | _=>.fail).run st K=some r:=hr
  split at hr
  ·rename_i fz et rt l he
   have h0:=h.ents n;rw [he] at h0;obtain ⟨u,hu,h0⟩:=h0;have hp:Zsm (ρ n) j z k (a.eval x):=hp;rw [hu] at hp;obtain ⟨gb,m,cap,hu3,hj,hx⟩:=hp;refine Zib (hrun gb _ hx) hr ?_ h;show Zsm (ρ n) j z (k+off) _;rw [hu];exact ⟨gb,m,cap,hu3,hj,by rw [Y7]⟩
  ·cases hr
 ·cases hr
theorem Zwkb (T:Zob P C.ti) (h:Rel X ρ st a w) (hg:Zyc a g) {t:TypeId} {n:Nat} {i:Operand} (ho:o.op = .indexAddr t (.global n) i)
  (hr:((opd g i).bind fun j=>Z33 C t n j).run st K=some r):Zdb P o a w X ρ st K r:=by
 rw [M.run_bind] at hr
 obtain ⟨jv,hr1,hj⟩:=Zyb h hg hr
 clear hr
 unfold Z33 at hr1
 rw [M.run_bind] at hr1
 obtain ⟨k,j,hj,hr⟩:=Z9j hj hr1
 clear hr1
 obtain ⟨ti,hti,hr1⟩:=Z2f hr
 clear hr
 cases hk:Ya ti.kind 7 with
 | false=>rw [hk] at hr1;cases hr1
 | true=>
  rw [hk] at hr1;have hk:=Yb hk;rw [Xe] at hr1;obtain ⟨ei,hei,hr⟩:=Z2f hr1;clear hr1;obtain ⟨len,y,hoff,hd⟩:=(T _ _ hti).arr hk;rw [hoff] at hr;cases hgl:GL n with
  | none=>rw [hgl] at hr;cases hr
  | some p=>
   obtain ⟨rt,l⟩:=p;rw [hgl] at hr;dsimp only at hr;cases hz:(Ya rt.sz ei.sz&&Ya len l.length) with
   | false=>rw [hz] at hr;cases hr
   | true=>
    rw [hz] at hr;obtain ⟨hz1,hz2⟩:=(Yk _ _).mp hz;have hz1:=Yb hz1;have hz2:=Yb hz2;obtain ⟨u,hu,hk2⟩:=Zyf hr;obtain ⟨hi0,hi1,hi2⟩:=Z1m hu;obtain ⟨g1,⟨A,c,hA,_,hrow⟩,_⟩:=(h.gl.1 n rt l hgl).row hi2;have hbrw:Brw ρ w n:=⟨g1,fun i=>h.gl.2 n (by rw [hgl];exact fun q=>nomatch q) i⟩;cases hA;rcases hrow with rfl | ⟨gb,q,hq,hfix,hrow⟩
    ·cases hi2
    ·cases hq
     obtain ⟨cs,hc,hrep⟩:=hrow _ _ hi2;have hev:a.eval (.global n) = .pointer (some ⟨n,0,none⟩):=rfl
     have hrun:(execOp a.eval o).run P w = .ok (.value (.pointer (some ⟨n,0+j.toNat*ei.sz,none⟩))) w:=by
      unfold execOp;rw [ho];have h2:j<(len:Int):=by omega
      simp [Instr.indexAt,Instr.sureAddr,run_underlying hd,hev,hj,asIntOf,hi0,h2,Zxg (T _ _ hei),Ztg]
     refine Zib hrun hk2 ⟨n,_,cs,rfl,hbrw,?_,Z3t (Rep.move (fun b hb=>by subst hb;exact ⟨rfl,hbrw⟩) hrep)⟩ h;rw [← hz1];exact hc
theorem Z0kb (T:Zob P C.ti) (h:Rel X ρ st a w) (hg:Zyc a g) {t:TypeId} {x i:Operand} (ho:o.op = .indexAddr t x i)
  (hr:((opd g x).bind fun v=>(opd g i).bind fun j=>indexAddr C t v j).run st K=some r):Zdb P o a w X ρ st K r:=by
 rw [M.run_bind] at hr
 obtain ⟨v,hr1,hv⟩:=Zyb h hg hr
 clear hr
 rw [M.run_bind] at hr1
 obtain ⟨jv,hr,hj⟩:=Zyb h hg hr1
 clear hr1
 unfold indexAddr at hr
 rw [M.run_bind] at hr
 obtain ⟨k,j,hj,hr1⟩:=Z9j hj hr
 clear hr
 obtain ⟨ti,ei,hti,hei,hk,hr⟩:=Zfm hr1
 clear hr1
 obtain ⟨d,hd,_,_,_,hd3,_⟩:=(T _ _ hti).und
 have:=hd3 hk
 subst this
 have hrun:∀b q m c,a.eval x = .slice (some ⟨b,q,none⟩) m c→0≤j→j.toNat<m→(execOp a.eval o).run P w = .ok (.value (.pointer (some ⟨b,q+j.toNat*ei.sz,none⟩))) w:=by
  intro b q m c hx h0 h1;unfold execOp;rw [ho];have h2:j<m:=by omega
  simp [Instr.indexAt,run_underlying hd,hx,hj,asIntOf,h0,h2,Zxg (T _ _ hei),Ztg]
 have pure:∀(rt:Ty) (l:List rt.T) (u:rt.T),Ya rt.sz ei.sz=true→at? l j=some u→Rep w (Fix X ρ w) (.sl rt) l [a.eval x]→K (.eptr (Z2 rt u)) st=some r→Zdb P o a w X ρ st K r:=by
  intro rt l u hz hu hrep hk;have hz:=Yb hz;obtain ⟨hi0,hi1,hi2⟩:=Z1m hu;obtain ⟨A,c,hx,hlc,hrow⟩:=hrep;cases hx2:a.eval x <;> rw [hx2] at hx <;> cases hx;rcases hrow with rfl | ⟨gb,q,rfl,hfix,hrow⟩
  ·cases hi2
  ·obtain ⟨cs,hc,hrep⟩:=hrow _ _ hi2
   refine Zib (hrun gb q _ _ hx2 hi0 hi1) hk ⟨gb,_,cs,rfl,hfix.brw,?_,Z5t hrep⟩ h;rw [← hz];exact hc
 have pureB:∀(rt:Ty) (l:List rt.T) (u:rt.T),Ya rt.sz ei.sz=true→at? l j=some u→Rep w (Brw ρ w) (.sl rt) l [a.eval x]→K (.eptr ((Z2 rt u).map Z3i)) st=some r→Zdb P o a w X ρ st K r:=by
  intro rt l u hz hu hrep hk;have hz:=Yb hz;obtain ⟨hi0,hi1,hi2⟩:=Z1m hu;obtain ⟨A,c,hx,hlc,hrow⟩:=hrep;cases hx2:a.eval x <;> rw [hx2] at hx <;> cases hx;rcases hrow with rfl | ⟨gb,q,rfl,hfix,hrow⟩
  ·cases hi2
  ·obtain ⟨cs,hc,hrep⟩:=hrow _ _ hi2
   refine Zib (hrun gb q _ _ hx2 hi0 hi1) hk ⟨gb,_,cs,rfl,hfix,?_,Z3t hrep⟩ h;rw [← hz];exact hc
 split at hr
 ·rename_i rt l
  cases hz:Ya rt.sz ei.sz with
  | false=>rw [hz] at hr;cases hr
  | true=>
   rw [hz] at hr;obtain ⟨u,hu,hr2⟩:=Zyf hr;exact pure rt l u hz hu hv hr2
 ·rename_i rt l
  cases hz:Ya rt.sz ei.sz with
  | false=>rw [hz] at hr;cases hr
  | true=>
   rw [hz] at hr;obtain ⟨u,hu,hr2⟩:=Zyf hr;exact pureB rt l u hz hu hv hr2
 ·rename_i n
  replace hr:(match st.ent n with
   | .arr _ e r l=>bif !(Z0 e)&&Ya r.sz ei.sz then M.opt r.T (at? l j) fun _=>.ret (AV.aptr n j r.sz 0) else .fail
   | .frz r l=>bif Ya r.sz ei.sz then .opt r.T (at? l j) fun v=>.ret (AV.eptr (Z2 r v)) else .fail
   | _=>.fail).run st K=some r:=hr
  have h0:=h.ents n;have hv2:=hv.2;split at hr
  ·rename_i fz et rt l he
   cases hm:Z0 et with
   | true=>rw [hm] at hr;cases hr
   | false=>
   cases hz:Ya rt.sz ei.sz with
   | false=>rw [hm,hz] at hr;cases hr
   | true=>
    rw [hm,hz] at hr;have hz:=Yb hz;obtain ⟨u,hu,hr2⟩:=Zyf hr;obtain ⟨hi0,hi1,hi2⟩:=Z1m hu;rw [he] at h0;obtain ⟨y,hy,h0⟩:=h0;rw [hy] at hv2;have hv2:a.eval x=y:=hv2;rcases h0.slice hm with ⟨_,rfl⟩ | ⟨gb,cap,cs,fr,rfl,_⟩
    ·cases hi2
    ·refine Zib (hrun gb 0 _ _ hv2 hi0 hi1) hr2 ?_ h
     show Zsm (ρ n) j rt.sz 0 _;rw [hy];exact ⟨gb,_,cap,rfl,hi0,by rw [Yf,hz];rfl⟩
  ·rename_i rt l he
   cases hz:Ya rt.sz ei.sz with
   | false=>rw [hz] at hr;cases hr
   | true=>
    rw [hz] at hr;obtain ⟨u,hu,hr2⟩:=Zyf hr;rw [he] at h0;obtain ⟨y,hy,h0⟩:=h0;rw [hy] at hv2;have hv2:a.eval x=y:=hv2;rw [← hv2] at h0;exact pure rt l u hz hu h0 hr2
  ·cases hr
 ·cases hr
theorem Zfo (w:World) (o:Obj) {b:Nat} (h:b<w.heap.size):(w.alloc o).heap[b]? = w.heap[b]? :=Below.heap_alloc w o b h
theorem Zqp (ρ:Rho) (w:World) (o:Obj):Ext ρ w ρ (w.alloc o):=
 ⟨rfl,rfl,rfl,by simp,fun b hb _=>Zfo w o hb,fun i b h=>.inl ⟨i,h⟩,fun _ _ h=>.inl h⟩
theorem Z1ab (ρ:Rho) (w:World):Ext ρ w ρ w.drew:=⟨rfl,rfl,rfl,Yd _,fun b hb _=>rfl,fun i b h=>.inl ⟨i,h⟩,fun _ _ h=>.inl h⟩
theorem Rel.world (h:Rel X ρ st a w) (e:Ext ρ w ρ w') (hkeep:∀j b,owns (ρ j) b→w'.heap[b]? = w.heap[b]?):Rel X ρ st a w':=⟨h.defers,h.size,h.sep,fun i b hb=>⟨Yx (h.lt i b hb).1 e.size,(h.lt i b hb).2⟩,fun i=>Zid.ext (h.ents i) e rfl (fun b hb=>hkeep i b hb),fun i=>(h.tmps i).ext e,fun i t b x hm=>(h.gs i t b x hm).imp (fun k=>⟨k.1,k.2.ext e⟩) id,h.fresh,fun b hb=>Yx (h.xlt b hb) e.size,h.gl.ext e⟩
theorem Rel.box (h:Rel X ρ st a w) (hlt:st.nb<st.lim) {t:TypeId} {xs:List Leaf} {cs:Array Value} (hx:Zq X ρ w xs cs.toList):
  ∃ρ',Rel X ρ' (st.newB (.box t xs)) a (w.alloc (.cells cs t))∧Ext ρ w ρ' (w.alloc (.cells cs t))∧ρ' st.nb=some (.blk w.heap.size):=by
 have e:=Zqp ρ w (.cells cs t)
 have hnew:¬X w.heap.size:=fun hx=>Y9 _ (h.xlt _ hx)
 have e2:=e.slot (n:=st.nb) (c:=.blk w.heap.size) (h.fresh.1 _ (.inl ⟨Yd _,hlt⟩)) (fun b hb=>Y8 hb.symm)
 have key:=h.new hlt (.box t xs) (.blk w.heap.size) e (fun b hb=>by
  have hb:b=w.heap.size:=hb;subst hb;exact ⟨Yd _,by simp,hnew⟩) (fun j b hb=>Zfo w _ (h.lt j b hb).1) ⟨w.heap.size,cs,(0,0),rfl,heap_alloc_new w _,.inl rfl,hx.ext e2⟩
 exact ⟨_,key.1,key.2,Zzi _ _ _⟩
theorem Rel.row (h:Rel X ρ st a w) (hlt:st.nb<st.lim) (e:Ext ρ w ρ w') (hkeep:∀j b,owns (ρ j) b→w'.heap[b]? = w.heap[b]?) {z:Bool} {et:TypeId} {t:Ty} {l:List t.T} {v:Value}
  (hb:∀b,Zzf v=some b→w.heap.size≤b) (hrow:Zac w' (Fix X (upd ρ st.nb (some (.row v))) w') z et t v l):
  ∃ρ',Rel X ρ' (st.newB (.arr z et t l)) a w'∧Ext ρ w ρ' w'∧ρ' st.nb=some (.row v):=by
 have key:=h.new hlt (.arr z et t l) (.row v) e (fun b hbb=>by
  have h1:=hb b hbb;refine ⟨h1,?_,fun hx=>absurd (h.xlt b hx) (by omega)⟩;rcases hrow.cases with ⟨_,hrow⟩ | ⟨_,_,⟨g,_,_,_,rfl,hg,_⟩ | ⟨g,_,_,_,_,_,_,rfl,hg,_⟩⟩
  ·rcases hrow with ⟨rfl,_⟩ | ⟨g,cap,cs,fr,rfl,hg,_⟩
   ·cases hbb
   ·cases hbb
    exact (Yj.1 hg).1
  ·cases hbb
   exact (Yj.1 hg).1
  ·cases hbb
   exact (Yj.1 hg).1) hkeep ⟨v,rfl,hrow⟩
 exact ⟨_,key.1,key.2,Zzi _ _ _⟩
theorem Zlkb (h:Rel X ρ st a w) (hg:Zyc a g) {t:TypeId} {x:Operand} (ho:o.op = .box t x) {rob:Bool}
  (hr:((opd g x).bind fun v=>Zr2 rob t v).run st K=some r):Zdb P o a w X ρ st K r:=by
 rw [M.run_bind] at hr
 obtain ⟨p,hr1,hp⟩:=Zyb h hg hr
 clear hr
 have key:∀xs,Zq X ρ w xs (a.eval x).cells.toList→(bif rob&&(xs.any Zq4&&xs.all Zj6) then M.ret (.eptr xs) else .new (.box t xs) fun n=>.ret (AV.one (.ptr n 0))).run st K=some r→Zdb P o a w X ρ st K r:=by
  intro xs hx hk;cases hro:rob&&(xs.any Zq4&&xs.all Zj6) with
  | true=>
   rw [hro] at hk;have e:=Zqp ρ w (.cells (a.eval x).cells t);refine Zmh (v:=.pointer (some ⟨w.heap.size,0,none⟩)) ?_ hk ⟨w.heap.size,0,(a.eval x).cells.toList,rfl,⟨by simp,fun i hi=>Y9 _ (h.lt i _ hi).1⟩,?_,hx.ext e⟩ (h.world e fun j b hb=>Zfo w _ (h.lt j b hb).1) e rfl
   ·unfold execOp
    rw [ho];simp [Instr.box,newVar,newRow]
   ·intro i u hu
    rw [Yf,cell_of_row _ _ _ _ _ _ (heap_alloc_new w _)];simpa using hu
  | false=>
  rw [hro] at hk;obtain ⟨hlt,hk⟩:=Zvj hk;obtain ⟨ρ',h1,h2,h3⟩:=h.box hlt (t:=t) (cs:=(a.eval x).cells) hx;refine Zmh (v:=.pointer (some ⟨w.heap.size,0,none⟩)) ?_ hk ⟨⟨_,rfl⟩,by rw [h3]⟩ h1 h2 rfl;unfold execOp;rw [ho];simp [Instr.box,newVar,newRow]
 unfold Zr2 at hr1
 split at hr1
 ·rename_i xs hc
  unfold Go.Proofs.Qz.cellsOf at hc;split at hc
  ·rename_i y
   cases hc;have hp:Zlb X ρ w y (a.eval x):=hp;refine key [y] ?_ hr1;rw [Z42 hp.one];exact ⟨hp,trivial⟩
  ·rename_i ys
   cases hc;obtain ⟨cs,hx,hxs⟩:=hp;refine key _ ?_ hr1;rw [hx];exact hxs
  ·cases hc
 ·cases hr1
theorem Zhkb (T:Zob P C.ti) (h:Rel X ρ st a w) {t:TypeId} (ho:o.op = .alloc t)
  (hr:(Zfe C t fun i=>.new (.box t i.zero) fun n=>.ret (.one (.ptr n 0))).run st K=some r):Zdb P o a w X ρ st K r:=by
 obtain ⟨i,hi,hr1⟩:=Z2f hr
 obtain ⟨q,hq,_,_,z,hz,hz1,hz2⟩:=(T _ _ hi).info
 obtain ⟨hlt,hr1⟩:=Zvj hr1
 obtain ⟨ρ',h1,h2,h3⟩:=h.box hlt (t:=t) (cs:=z.cells) (hz2 X ρ w)
 refine Zmh (v:=.pointer (some ⟨w.heap.size,0,none⟩)) ?_ hr1 ⟨⟨_,rfl⟩,by rw [h3]⟩ h1 h2 rfl
 unfold execOp
 rw [ho]
 simp [Instr.alloc,zeroValue,typeInfo,hq,hz,newVar,newRow]
end
section
variable {P:Program} {o:Oper} {X:Nat→Prop} {ρ ρ':Rho} {st st':St} {a:Act} {w w':World} {g:Option (Nat×Bool)} {R:Type} {r:R} {K:AV→St→Option R} {C:Ctx}
def overL {α:Type} (xs:List α) (p:Nat) (ys:List α):List α:=xs.take p++ys++xs.drop (p+ys.length)
theorem Zks {α:Type} (xs:List α) (p:Nat) (ys:List α) (h:p+ys.length≤xs.length):(overL xs p ys).length=xs.length:=by
 simp only [overL,List.length_append,Y4,List.length_drop]
 omega
theorem Z15 {α:Type} (xs:List α) (p:Nat) (y:α) (ys:List α) (h:p+(ys.length+1)≤xs.length):overL (xs.set p y) (p+1) ys=overL xs p (y::ys):=by
 unfold overL
 have hp:p<xs.length:=by omega
 rw [List.set_eq_take_append_cons_drop,Xc hp]
 have hl:(xs.take p).length=p:=by simp;omega
 have h1:List.take (p+1) (xs.take p++y::xs.drop (p+1))=xs.take p++[y]:=by
  rw [List.take_append,hl,List.take_of_length_le (by rw [hl];omega)];have:p+1-p=1:=by omega
  rw [this];rfl
 have h2:Yt (p+1+ys.length) (xs.take p++y::xs.drop (p+1))=xs.drop (p+(ys.length+1)):=by
  rw [List.drop_append,hl,List.drop_eq_nil_of_le (by rw [hl];omega)];have:p+1+ys.length-p=ys.length+1:=by omega
  rw [this,List.drop_succ_cons,List.drop_drop];simp only [List.nil_append];congr 1;omega
 rw [h1,h2]
 simp
theorem Zfrb {b i:Nat} {cs:Array Value} {t:TypeId} {fr:Nat×Nat} (h:w.heap[b]? = some (.cells cs t fr)) (u:Value):(w.setCell ⟨b,i,none⟩ u).heap[b]? = some (.cells (cs.setIfInBounds i u) t fr):=by
 simp [World.setCell,Array.getElem?_modify,h]
theorem Zrs (b:Nat) {t:TypeId} {fr:Nat×Nat}:∀(vs:List Value) (p:Nat) (cs:Array Value) (w:World),w.heap[b]? = some (.cells cs t fr)→p+vs.length≤cs.size →
  (w.setCells b p vs).heap[b]? = some (.cells (overL cs.toList p vs).toArray t fr)
 | [],p,cs,w,h,_=>by
  rw [World.setCells,h];simp [overL]
 | v::vs,p,cs,w,h,hl=>by
  have hl':p+(vs.length+1)≤cs.size:=hl;have ih:=Zrs b vs (p+1) (cs.setIfInBounds p v) (w.setCell ⟨b,p,none⟩ v) (Zfrb h v) (by simp;omega);rw [World.setCells,ih];congr 3;rw [Yz,Z15 _ _ _ _ (by simpa using hl')]
theorem Ze1 (b:Nat):∀(vs:List Value) (p:Nat) (w:World) (k:Nat),k≠b→(w.setCells b p vs).heap[k]? = w.heap[k]?
 | [],_,_,_,_=>rfl
 | v::vs,p,w,k,h=>by
  rw [World.setCells,Ze1 b vs (p+1) _ k h];exact Below.heap_setCell w ⟨b,p,none⟩ v k h
theorem Zb7 (b:Nat):∀(vs:List Value) (p:Nat) (w:World),(w.setCells b p vs).os=w.os∧(w.setCells b p vs).tape=w.tape∧(w.setCells b p vs).output=w.output∧(w.setCells b p vs).heap.size=w.heap.size
 | [],_,_=>⟨rfl,rfl,rfl,rfl⟩
 | v::vs,p,w=>by
  obtain ⟨h1,h2,h3,h4⟩:=Zb7 b vs (p+1) (w.setCell ⟨b,p,none⟩ v);exact ⟨h1,h2,h3,h4.trans (World.size_setCell _ _ _)⟩
theorem Zx0 {t:TypeId} {i:TI} (Ti:TiFor P t i) {b p:Nat} {cs:Array Value} {bt:TypeId} {fr:Nat×Nat} (h:w.heap[b]? = some (.cells cs bt fr)) (hu:Z8n fr cs.size) {v:Value}
  (hs:v.cells.size=i.sz) (hl:p+v.cells.size≤cs.size) (h1:∀u∈v.cells.toList,u.oneCell'=true):(storeVar t ⟨b,p,none⟩ v).run P w = .ok () (w.setCells b p v.cells.toList):=by
 have hst:=run_storeCells_cells (P:=P) b p v.cells.toList 0 w (fun j hj=>by
   rw [cell_of_row w b _ cs bt fr h];have:p+j<cs.size:=by simp at hj;omega
   simp [this]) (fun j hj=>by
   have hj':p+j<cs.size:=by simp at hj;omega
   simp only [World.frozen?,h,Yo];rcases hu with rfl | hu
   ·simp
   ·have:¬(fr.1≤p+j):=by omega
    simp [this]) h1
 unfold storeVar
 simp only [Sem.run_bind,Zxg Ti,Result.andThen_ok,hs,ne_eq,not_true_eq_false,if_false]
 simpa using hst
theorem Zot {i b p:Nat} {vs:List Value} (h:Rel X ρ st a w) (hb:owns (ρ i) b):Ext ρ w ρ (w.setCells b p vs):=by
 obtain ⟨h1,h2,h3,h4⟩:=Zb7 b vs p w
 refine ⟨h1,h2,h3,Y8 h4.symm,fun k hk hn=>Ze1 b vs p w k (fun e=>hn i (e▸hb)),fun i b h=>.inl ⟨i,h⟩,fun _ _ h=>.inl h⟩
theorem Zor {i:Nat} {c:Option Conc} (h:ρ i=c):upd ρ i c=ρ:=by
 funext j
 unfold upd
 split
 ·rename_i hj;rw [hj,h]
 ·rfl
theorem Rel.write {i b p:Nat} {vs:List Value} (h:Rel X ρ st a w) (hb:owns (ρ i) b) (e:Ent) (he:Zid X ρ (w.setCells b p vs) e (ρ i)):Rel X ρ (st.setB i e) a (w.setCells b p vs):=by
 have x:=Zot (p:=p) (vs:=vs) h hb
 have key:=h.step (w':=w.setCells b p vs) i e (ρ i) (by rw [Zor rfl];exact x) (fun k hk=>⟨Yx (h.lt i k hk).1 x.size,(h.lt i k hk).2⟩)
  (fun j k hk hj=>h.sep j i k hj hk) (fun j k hj hk=>Ze1 b vs p w k (fun ek=>hj (h.sep j i b (ek▸hk) hb))) (by rw [Zor rfl];exact he)
  (st':=st.setB i e) rfl rfl rfl (fun j=>Zkg st i e j) (by rw [Zor rfl];exact h.fresh)
 rwa [Zor rfl] at key
theorem Z25 {xs ys zs:List Leaf} {p:Nat} (h:Zrq xs p ys=some zs):p+ys.length≤xs.length∧zs=overL xs p ys:=by
 unfold Zrq at h
 cases hle:Yv (p+ys.length) xs.length with
 | false=>rw [hle] at h;cases h
 | true=>
  rw [hle] at h;cases h;exact ⟨Yp hle,rfl⟩
theorem Zq.overL {xs ys:List Leaf} {cs ds:List Value} {p:Nat} (h:Zq X ρ w xs cs) (k:Zq X ρ w ys ds):Zq X ρ w (overL xs p ys) (overL cs p ds):=by
 unfold Go.Proofs.Qz.overL
 rw [k.len]
 exact ((h.take p).append k).append (h.drop _)
theorem Zw0 {t:TypeId} {x y:Operand} (ho:o.op = .store t x y) {A:Addr} (hx:a.eval x = .pointer (some A)) (hs:(storeVar t A (a.eval y)).run P w = .ok () w'):(execOp a.eval o).run P w = .ok .skip w':=by
 unfold execOp
 rw [ho]
 simp [Instr.storeAt,Instr.sureAddr,hx,hs]
theorem Z8v {av:AV} (hrun:(execOp a.eval o).run P w = .ok .skip w') (hk:K av st'=some r) (hv:Z4 X ρ' w' av undef) (h:Rel X ρ' st' a w') (x:Ext ρ w ρ' w') (hn:st'.n=st.n):Zdb P o a w X ρ st K r:=by
 intro next Q hq
 unfold Oper.wp
 rw [hrun]
 exact hq av undef ρ' st' w' hk hv h x hn
theorem Z9m {α:Type} (xs:List α) (p:Nat) (ys:List α) (h:p+ys.length≤xs.length) (n:Nat):(overL xs p ys)[n]? = if n<p then xs[n]? else if n<p+ys.length then ys[n-p]? else xs[n]? :=by
 unfold overL
 have hl:(xs.take p).length=p:=by simp;omega
 by_cases h1:n<p
 ·rw [Xc h1,Ys,Y0 (by omega),Ym,Xc h1]
 ·rw [Xd h1]
  by_cases h2:n<p+ys.length
  ·rw [Xc h2,Ys,Y1 (by omega),hl,Y0 (by omega)]
  ·rw [Xd h2,Y1 (by simp;omega)]
   rw [Yi];congr 1;simp;omega
theorem Zki {α:Type} (xs:List α) (j s n:Nat):((xs.drop (j*s)).take s)[n]? = if n<s then xs[j*s+n]? else none:=by
 rw [Ym,Yi]
theorem Z5rb (T:Zob P C.ti) (h:Rel X ρ st a w) {t:TypeId} {x y:Operand} (ho:o.op = .store t x y) {p v:AV} (hp:Z4 X ρ w p (a.eval x)) (hv:Z4 X ρ w v (a.eval y))
  (hr:(store C t p v).run st K=some r):Zdb P o a w X ρ st K r:=by
 unfold store at hr
 obtain ⟨ti,hti,hr1⟩:=Z2f hr
 clear hr
 have Ti:=T _ _ hti
 split at hr1
 ·cases hr1
 ·rename_i ys hys
  have hyc:Zq X ρ w ys (a.eval y).cells.toList:=by
   unfold Go.Proofs.Qz.cellsOf at hys;split at hys
   ·cases hys
    have hv:Zlb X ρ w _ (a.eval y):=hv;rw [Z42 hv.one];exact ⟨hv,trivial⟩
   ·cases hys
    obtain ⟨cs,hx,hxs⟩:=hv;rw [hx];exact hxs
   ·cases hys
  cases hlen:Ya ys.length ti.sz with
  | false=>rw [hlen] at hr1;cases hr1
  | true=>
   rw [hlen] at hr1;have hlen:=Yb hlen
   have hsz:(a.eval y).cells.size=ti.sz:=by
    rw [← hlen,hyc.len,Yc]
   replace hr1:(match p with
    | .one (.ptr b off)=>M.getb b (Zo1 b off ys)
    | .aptr n i z off=>(M.mapL Ztq ys).bind fun ys=>.getb n (Zn1 n i z off ys)
    | _=>.fail).run st K=some r:=hr1
   split at hr1
   ·rename_i b off
    replace hr1:(Zo1 b off ys (st.ent b)).run st K=some r:=hr1;unfold Zo1 at hr1;split at hr1
    ·rename_i bt xs he
     split at hr1
     ·rename_i zs hzs
      obtain ⟨hle,rfl⟩:=Z25 hzs;have h0:=h.ents b;rw [he] at h0;obtain ⟨gb,cs,fr,hb,hh,hu,hxs⟩:=h0;have h2:=hp.2;rw [hb] at h2;have hown:owns (ρ b) gb:=by rw [hb];rfl
      have hle2:off+(a.eval y).cells.toList.length≤cs.size:=by
       have l1:=hyc.len;have l2:=hxs.len;simp only [Yc] at l1 l2 ⊢;omega
      have hrun:=Zx0 (P:=P) (p:=off) Ti hh hu hsz (by simpa using hle2) hyc.one;have hblk:=Zrs gb (a.eval y).cells.toList off cs w hh hle2;have x:=Zot (p:=off) (vs:=(a.eval y).cells.toList) h hown;refine Z8v (Zw0 ho h2 hrun) hr1 rfl (h.write hown _ ?_) x rfl;rw [hb];refine ⟨gb,_,fr,rfl,hblk,?_,?_⟩
      ·rw [Yu,Zks _ _ _ (by simpa using hle2),Yc]
       exact hu
      ·simpa using (hxs.overL hyc).ext x
     ·cases hr1
    ·cases hr1
   ·rename_i n i z off
    rw [M.run_bind] at hr1;obtain ⟨ys',ρ1,st1,hr2,hrel1,e1,hn1,hys',hd⟩:=Zb6 h hyc hr1;replace hr2:(Zn1 n i z off ys' (st1.ent n)).run st1 K=some r:=hr2;unfold Zn1 at hr2;split at hr2
    ·rename_i fz et rt l he
     cases hz:Ya z rt.sz with
     | false=>rw [hz] at hr2;cases hr2
     | true=>
      rw [hz] at hr2;have hz:=Yb hz;obtain ⟨u,hu,hr3⟩:=Zyf hr2;obtain ⟨hi0,hi1,hi2⟩:=Z1m hu;split at hr3
      ·rename_i zs hzs
       split at hr3
       ·rename_i y' hy'
        obtain ⟨hle,rfl⟩:=Z25 hzs;have h0:=hrel1.ents n;rw [he] at h0;obtain ⟨uv,huv,h0⟩:=h0;have hp1:=(show Z4 X ρ w (.aptr n i z off) (a.eval x) from hp).ext e1;have hp1:Zsm (ρ1 n) i z off (a.eval x):=hp1;rw [huv] at hp1;obtain ⟨gb,m,cap,hu3,_,hx⟩:=hp1;subst hz
        have hmp:Z0 et=false:=by
         rw [hu3] at h0;exact h0.noMap
        rcases h0.slice hmp with ⟨rfl,rfl⟩ | ⟨g',cap',cs,fr,rfl,hh,hun,hfz,hlc,hcs,hrow⟩
        ·cases hi2
        ·cases hu3
         have hown:owns (ρ1 n) gb:=by rw [huv];rfl
         have hll:(Z2 rt u).length=rt.sz:=Z04 rt u;have hyl:ys'.length=(a.eval y).cells.toList.length:=hys'.len
         have hcap:(i.toNat+1)*rt.sz≤cs.size:=by
          rw [hcs];exact Ye _ (by omega)
         have hm:(i.toNat+1)*rt.sz=i.toNat*rt.sz+rt.sz:=by rw [Yg,Yh]
         have hle2:i.toNat*rt.sz+off+(a.eval y).cells.toList.length≤cs.size:=by omega
         have hrun:=Zx0 (P:=P) (p:=i.toNat*rt.sz+off) Ti hh hun hsz (by simpa using hle2) hyc.one;have hblk:=Zrs gb (a.eval y).cells.toList (i.toNat*rt.sz+off) cs w hh hle2;have x1:=Zot (p:=i.toNat*rt.sz+off) (vs:=(a.eval y).cells.toList) hrel1 hown;refine Z8v (Zw0 ho hx hrun) hr3 rfl (hrel1.write hown _ ?_) (e1.trans x1) hn1;rw [huv]
         have hlen2:(overL cs.toList (i.toNat*rt.sz+off) (a.eval y).cells.toList).toArray.size=cs.size:=by
          rw [Yu,Zks _ _ _ (by simpa using hle2),Yc]
         refine ⟨_,rfl,Zfc.ok (.inr ⟨gb,_,_,fr,by rw [Y3],hblk,by rw [hlen2];exact hun,hfz,by rw [Y3];exact hlc,by rw [hlen2];exact hcs,?_⟩) hmp⟩;intro j q hj;have hle3:i.toNat*rt.sz+off+(a.eval y).cells.toList.length≤cs.toList.length:=by rw [Yc];exact hle2
         rw [List.getElem?_set] at hj
         by_cases hij:i.toNat=j
         ·subst hij
          rw [Xc rfl,Xc hi1] at hj;cases hj;have hold:=hrow _ _ hi2;have hlv:=Zq.overL (p:=off) (Z5t hold) hys'
          have heq:(Yt (i.toNat*rt.sz) (overL cs.toList (i.toNat*rt.sz+off) (a.eval y).cells.toList)).take rt.sz=overL ((cs.toList.drop (i.toNat*rt.sz)).take rt.sz) off (a.eval y).cells.toList:=by
           apply Yl;intro k;have hlr:((cs.toList.drop (i.toNat*rt.sz)).take rt.sz).length=rt.sz:=by simp;omega
           rw [Zki,Z9m _ _ _ hle3,Z9m _ _ _ (by rw [hlr];omega),Zki]
           by_cases hk:k<rt.sz
           ·rw [Xc hk]
            by_cases hk1:k<off
            ·rw [Xc hk1,Xc (by omega),Xc hk]
            ·rw [Xd hk1,Xd (by omega)]
             by_cases hk2:k<off+(a.eval y).cells.toList.length
             ·rw [Xc hk2,Xc (by omega)]
              congr 1;omega
             ·rw [Xd hk2,Xd (by omega),Xc hk]
           ·rw [Xd hk,Xd (by omega),Xd (by omega),Xd hk]
          rw [Yn,heq];exact (Zrx hy' hlv).ext x1
         ·rw [Xd hij] at hj
          have heq:(Yt (j*rt.sz) (overL cs.toList (i.toNat*rt.sz+off) (a.eval y).cells.toList)).take rt.sz=(cs.toList.drop (j*rt.sz)).take rt.sz:=by
           apply Yl;intro k;rw [Zki,Zki,Z9m _ _ _ hle3]
           by_cases hk:k<rt.sz
           ·rw [Xc hk,Xc hk]
            rcases Yaa j i.toNat with hlt | hge
            ·have:(j+1)*rt.sz≤i.toNat*rt.sz:=Ye _ hlt
             rw [Yg,Yh] at this;rw [Xc (by omega)]
            ·have:(i.toNat+1)*rt.sz≤j*rt.sz:=Ye _ (by omega)
             rw [Xd (by omega),Xd (by omega)]
           ·rw [Xd hk,Xd hk]
          rw [Yn,heq];exact (hrow j q hj).ext x1
       ·cases hr3
      ·cases hr3
    ·cases hr2
   ·cases hr1
end
section
variable {P:Program} {o:Oper} {X:Nat→Prop} {ρ ρ':Rho} {st st':St} {a:Act} {w w':World} {g:Option (Nat×Bool)} {R:Type} {r:R} {K:AV→St→Option R} {C:Ctx}
def Zyl (X:Nat→Prop) (ρ:Rho) (w:World):List (Nat×List Leaf)→List (Nat×Value)→Prop
 | [],[]=>True
 | p::ps,q::qs=>p.1=q.1∧Zq X ρ w p.2 q.2.cells.toList∧Zyl X ρ w ps qs
 | _,_=>False
theorem Zyl.ext:∀{ps:List (Nat×List Leaf)} {qs:List (Nat×Value)},Zyl X ρ w ps qs→Ext ρ w ρ' w'→Zyl X ρ' w' ps qs
 | [],[],_,_=>trivial
 | _::_,_::_,h,e=>⟨h.1,h.2.1.ext e,Zyl.ext h.2.2 e⟩
 | [],_::_,h,_=>h.elim
 | _::_,[],h,_=>h.elim
theorem Zwib {av:AV} {xs:List Leaf} {v:Value} (h:Go.Proofs.Qz.cellsOf av=some xs) (hv:Z4 X ρ w av v):Zq X ρ w xs v.cells.toList:=by
 unfold Go.Proofs.Qz.cellsOf at h
 split at h
 ·cases h
  have hv:Zlb X ρ w _ v:=hv;rw [Z42 hv.one];exact ⟨hv,trivial⟩
 ·cases h
  obtain ⟨cs,rfl,hxs⟩:=hv;exact hxs
 ·cases h
theorem Zb0 (h:Rel X ρ st a w) (hg:Zyc a g):∀{ps:List (Nat×Operand)} {K:List (Nat×List Leaf)→St→Option R},(Zro g ps).run st K=some r →
  ∃qs,K qs st=some r∧Zyl X ρ w qs (ps.map fun p=>(p.1,a.eval p.2))
 | [],K,hr=>⟨[],hr,trivial⟩
 | p::ps,K,hr=>by
  unfold Zro M.mapL at hr;rw [M.run_bind,M.run_bind] at hr;obtain ⟨av,hr,hv⟩:=Zyb h hg hr;rename_i hr0;clear hr0;split at hr
  ·rename_i xs hxs
   have hr:((M.mapL _ ps).bind _).run st K=some r:=hr;rw [M.run_bind] at hr;obtain ⟨qs,hr,hq⟩:=Zb0 h hg (ps:=ps) hr;exact ⟨(p.1,xs)::qs,hr,rfl,Zwib hxs hv,hq⟩
  ·cases hr
theorem Zxdb:∀{ps:List (Nat×List Leaf)} {qs:List (Nat×Value)} {ρ:Rho} {st:St} {K:List (Nat×List Leaf)→St→Option R},Rel X ρ st a w→Zyl X ρ w ps qs→(Zh0 ps).run st K=some r →
  ∃ps' ρ' st',K ps' st'=some r∧Rel X ρ' st' a w∧Ext ρ w ρ' w∧st'.n=st.n∧Zyl X ρ' w ps' qs
 | [],[],ρ,st,K,h,_,hr=>⟨[],ρ,st,hr,h,Ext.refl _ _,rfl,trivial⟩
 | p::ps,q::qs,ρ,st,K,h,hp,hr=>by
  unfold Zh0 M.mapL at hr;rw [M.run_bind,M.run_bind] at hr;obtain ⟨ys,ρ1,st1,hr1,h1,e1,n1,l1,_⟩:=Zb6 h hp.2.1 hr;have hr1:((M.mapL _ ps).bind _).run st1 K=some r:=hr1;rw [M.run_bind] at hr1;obtain ⟨ps',ρ2,st2,hr2,h2,e2,n2,l2⟩:=Zxdb h1 (hp.2.2.ext e1) (K:=fun x st'=>K ((p.1,ys)::x) st') hr1;exact ⟨(p.1,ys)::ps',ρ2,st2,hr2,h2,e1.trans e2,n2.trans n1,hp.1,l1.ext e2,l2⟩
 | [],_::_,_,_,_,_,h,_=>h.elim
 | _::_,[],_,_,_,_,h,_=>h.elim
theorem Zgbb:∀(vs:List Value) (k off:Nat) (cs:Array Value),off+k+vs.length≤cs.size→(vs.zipIdx k).foldl (fun (cs:Array Value) (p:Value×Nat)=>cs.setIfInBounds (off+p.2) p.1) cs=(overL cs.toList (off+k) vs).toArray
 | [],k,off,cs,_=>by simp [overL]
 | v::vs,k,off,cs,h=>by
  have h':off+k+(vs.length+1)≤cs.size:=h;rw [List.zipIdx_cons,List.foldl_cons,Zgbb vs (k+1) off _ (by simp;omega)];rw [Yz];congr 1;exact Z15 _ _ _ _ (by simpa using h')
theorem Zw3 {place:Nat→Option (Nat×Nat)} {cs:Array Value} {f off size:Nat} {v:Value} {rest:List (Nat×Value)} (hp:place f=some (off,size)) (hs:v.cells.size=size) (hl:off+v.cells.size≤cs.size):
  Instr.fill place cs ((f,v)::rest)=Instr.fill place (overL cs.toList off v.cells.toList).toArray rest:=by
 rw [Instr.fill,hp]
 dsimp only
 have h1:¬(v.cells.size≠size∨off+v.cells.size > cs.size):=by omega
 have h2:(decide (v.cells.size≠size)||decide (off+v.cells.size > cs.size))=false:=by simp;omega
 rw [h2]
 simp only [Bool.false_eq_true,if_false]
 congr 1
 have:=Zgbb v.cells.toList 0 off cs (by simpa using hl)
 rw [Yo] at this
 rw [← this,← Array.toList_zipIdx,Array.foldl_toList]
theorem Zi9 (T:Zob P C.ti) {ti:TI} {places:List (Nat×Nat)} (hpl:∀(f o:Nat) (ft:TypeId),ti.offs[f]? = some (o,ft)→∃q,P.info? ft=some q∧places[f]? = some (o,q.size)):
  ∀{qs:List (Nat×List Leaf)} {vs:List (Nat×Value)} {xs ys:List Leaf} {cs:Array Value},Zyl X ρ w qs vs→Zq X ρ w xs cs.toList→Zbt C ti xs qs=some ys →
   ∃cs',Instr.fill (places.toArray[·]?) cs vs=some cs'∧Zq X ρ w ys cs'.toList
 | [],[],xs,ys,cs,_,hx,h=>by cases h;exact ⟨cs,rfl,hx⟩
 | q::qs,v::vs,xs,ys,cs,hq,hx,h=>by
  obtain ⟨h1,h2,h3⟩:=hq;obtain ⟨f,zs⟩:=q;obtain ⟨f',u⟩:=v;obtain rfl:f=f':=h1;unfold Zbt at h;split at h
  ·rename_i o ft hof
   split at h
   ·rename_i fi hfi
    cases hl:Ya zs.length fi.sz with
    | false=>rw [hl] at h;cases h
    | true=>
     rw [hl] at h;have hl:=Yb hl
     replace h:(match Zrq xs o zs with
      | some ws=>Zbt C ti ws qs
      | none=>none)=some ys:=h
     split at h
     ·rename_i ws hws
      obtain ⟨hle,rfl⟩:=Z25 hws;obtain ⟨q,hq,hp⟩:=hpl f o ft hof;obtain ⟨q',hq',hqs,_⟩:=(T _ _ hfi).info;rw [hq] at hq';cases hq';have l1:=hx.len;have l2:zs.length=u.cells.size:=by rw [← Yc];exact h2.len
      rw [Zw3 (off:=o) (size:=q.size) (by simpa using hp) (by rw [← l2,hl,hqs]) (by simp only [Yc] at l1;omega)];exact Zi9 T hpl h3 (by simpa using hx.overL h2) h
     ·cases h
   ·cases h
  ·cases h
 | [],_::_,_,_,_,h,_,_=>h.elim
 | _::_,[],_,_,_,h,_,_=>h.elim
theorem Zmkb (T:Zob P C.ti) (h:Rel X ρ st a w) (hg:Zyc a g) {t:TypeId} {ps:Array (Nat×Operand)} (ho:o.op = .build t ps)
  (hr:(Zfe C t fun ti=>(Zro g ps.toList).bind fun qs=>Zky C ti qs).run st K=some r):Zdb P o a w X ρ st K r:=by
 obtain ⟨ti,hti,hr1⟩:=Z2f hr
 clear hr
 rw [M.run_bind] at hr1
 obtain ⟨qs,hr,hq⟩:=Zb0 h hg hr1
 clear hr1
 unfold Zky at hr
 cases hk:Ya ti.kind 4 with
 | false=>rw [hk] at hr;cases hr
 | true=>
  rw [hk] at hr
  replace hr:(match Zbt C ti ti.zero qs with
   | some xs=>M.ret (AV.agg xs)
   | none=>.fail).run st K=some r:=hr
  split at hr
  ·rename_i xs hxs
   have Ti:=T _ _ hti;obtain ⟨fs,places,hu,hpl,hp⟩:=Ti.places (Yb hk);obtain ⟨q,hq1,_,_,z,hz,hz1,hz2⟩:=Ti.info;obtain ⟨cs',hf,hl⟩:=Zi9 T hp hq (hz2 X ρ w) hxs;refine Zib (v:=.agg cs') ?_ hr ⟨cs',rfl,hl⟩ h;unfold execOp;rw [ho]
   have hb:P.built t (ps.map fun (i,x)=>(i,a.eval x)).toList=some cs':=by
    unfold Program.built;simp only [hq1,hu,hz,hpl];rw [← hf];simp
   simp [run_build w t _ cs' hb]
  ·cases hr
theorem Zepb (cs:List Value) (k s:Nat) (vs:List Value) (hv:vs.length=s) (hl:(k+1)*s≤cs.length):((overL cs (k*s) vs).drop (k*s)).take s=vs:=by
 have hm:(k+1)*s=k*s+s:=by rw [Yg,Yh]
 apply Yl
 intro n
 rw [Zki,Z9m _ _ _ (by omega)]
 by_cases hn:n<s
 ·rw [Xc hn,Xd (by omega),Xc (by omega)]
  congr 1;omega
 ·rw [Xd hn,List.getElem?_eq_none (by omega)]
theorem Zdpb (cs:List Value) (j k s:Nat) (vs:List Value) (hv:vs.length=s) (hl:(k+1)*s≤cs.length) (hjk:j≠k):((overL cs (k*s) vs).drop (j*s)).take s=(cs.drop (j*s)).take s:=by
 have hm:(k+1)*s=k*s+s:=by rw [Yg,Yh]
 apply Yl
 intro n
 rw [Zki,Zki,Z9m _ _ _ (by omega)]
 by_cases hn:n<s
 ·rw [Xc hn,Xc hn]
  rcases Yaa j k with hlt | hge
  ·have:(j+1)*s≤k*s:=Ye _ hlt
   rw [Yg,Yh] at this;rw [Xc (by omega)]
  ·have:(k+1)*s≤j*s:=Ye _ (by omega)
   rw [Xd (by omega),Xd (by omega)]
 ·rw [Xd hn,Xd hn]
theorem Zveb {t:Ty} {s:Nat} (hs:t.sz=s):∀{qs:List (Nat×List Leaf)} {vs:List (Nat×Value)} {l:List t.T} {k:Nat} {cs:Array Value},Zyl X ρ w qs vs→Zou t qs k=some l→(k+qs.length)*s≤cs.size →
  ∃cs',Instr.fill (fun i=>some (i*s,s)) cs vs=some cs'∧l.length=qs.length∧cs'.size=cs.size∧(∀j,j<k→(cs'.toList.drop (j*s)).take s=(cs.toList.drop (j*s)).take s) ∧
   ∀(j:Nat) (x:t.T),l[j]? = some x→Rep w (Fix X ρ w) t x ((cs'.toList.drop ((k+j)*s)).take s)
 | [],[],l,k,cs,_,h,_=>by
  cases h;exact ⟨cs,rfl,rfl,rfl,fun _ _=>rfl,fun j x hj=>by cases hj⟩
 | q::qs,v::vs,l,k,cs,hq,h,hl=>by
  obtain ⟨h1,h2,h3⟩:=hq;obtain ⟨f,ys⟩:=q;obtain ⟨f',u⟩:=v;obtain rfl:f=f':=h1;unfold Zou at h;cases hf:Ya f k with
  | false=>rw [hf] at h;cases h
  | true=>
   rw [hf] at h;obtain rfl:=Yb hf
   replace h:(match Z9h t ys,Zou t qs (f+1) with
    | some x,some l=>some (x::l)
    | _,_=>none)=some l:=h
   split at h
   ·rename_i x l' hx hl'
    cases h;have hrep:=Zrx hx h2;have hul:u.cells.toList.length=s:=by rw [hrep.len,hs]
    have hle:(f+1)*s≤cs.toList.length:=by
     refine Yw (Ye _ ?_) (by simpa using hl);simp
    have hm:(f+1)*s=f*s+s:=by rw [Yg,Yh]
    rw [Zw3 (off:=f*s) (size:=s) rfl (by simpa using hul) (by simp at hul hle;omega)]
    have hsz:(overL cs.toList (f*s) u.cells.toList).toArray.size=cs.size:=by
     rw [Yu,Zks _ _ _ (by omega),Yc]
    obtain ⟨cs',g1,g2,g3,g4,g5⟩:=Zveb hs (cs:=(overL cs.toList (f*s) u.cells.toList).toArray) h3 hl' (by rw [hsz];refine Yw (Ye _ ?_) hl;simp;omega);refine ⟨cs',g1,by simp [g2],by rw [g3,hsz],?_,?_⟩
    ·intro j hj
     rw [g4 j (by omega),Yn,Zdpb _ _ _ _ _ hul hle (by omega)]
    ·intro j y hj
     cases j with
     | zero=>
      cases hj;rw [Yo,g4 f (by omega),Yn,Zepb _ _ _ _ hul hle];exact hrep
     | succ j=>
      have:=g5 j y (by simpa using hj)
      rwa [show f+1+j=f+(j+1) by omega] at this
   ·cases h
 | [],_::_,_,_,_,h,_,_=>h.elim
 | _::_,[],_,_,_,h,_,_=>h.elim
theorem Zxq (T:Zob P C.ti) {t:TypeId} {ti:TI} (hti:C.ti.get t=some ti) (hk:ti.kind=3):P.underlying t=some (.slice ti.elem):=by
 obtain ⟨d,hd,_,_,_,hd3,_⟩:=(T _ _ hti).und
 rw [hd,hd3 hk]
theorem Zokb (T:Zob P C.ti) (h:Rel X ρ st a w) (hg:Zyc a g) {t:TypeId} {n:Nat} {ps:Array (Nat×Operand)} (ho:o.op = .buildSlice t n ps)
  (hr:(Zvi C t fun ti ei=>(Zro g ps.toList).bind fun qs=>(Zh0 qs).bind fun qs=>Zv2 ti ei n qs).run st K=some r):Zdb P o a w X ρ st K r:=by
 obtain ⟨ti,ei,hti,hei,hk,hr1⟩:=Zfm hr
 clear hr
 rw [M.run_bind] at hr1
 obtain ⟨qs0,hr,hq0⟩:=Zb0 h hg hr1
 clear hr1
 rw [M.run_bind] at hr
 obtain ⟨qs,ρ1,st1,hr1,h1,e1,n1,hq⟩:=Zxdb h hq0 hr
 clear hr
 have hu:=Zxq T hti hk
 unfold Zv2 at hr1
 cases hc:(Ya qs.length n&&Yv (n*ei.sz) 16777216&&Ya ei.ty.sz ei.sz&&Nat.blt 0 ei.sz) with
 | false=>rw [hc] at hr1;cases hr1
 | true=>
  rw [hc] at hr1;simp only [Yk] at hc;obtain ⟨⟨⟨c1,c2⟩,c3⟩,c4⟩:=hc;have c1:=Yb c1;have c2:=Yp c2;have c3:=Yb c3;have c4:0<ei.sz:=Yp c4
  replace hr1:(match Zou ei.ty qs 0 with
   | some l=>M.new (.arr false ti.elem ei.ty l) fun m=>.ret (AV.one (.own m))
   | none=>.fail).run st1 K=some r:=hr1
  split at hr1
  ·rename_i l hl
   obtain ⟨hlt,hr1⟩:=Zvj hr1;obtain ⟨q,hq1,hq2,_,z,hz,hz1,hz2⟩:=(T _ _ hei).info;have hzs:z.cells.size=ei.sz:=hz1
   let cs0:Array Value:=(Yr (n*ei.sz)).map (z.cells[· % z.cells.size]!)
   have hs0:cs0.size=n*ei.sz:=by simp [cs0]
   obtain ⟨cs',g1,g2,g3,_,g5⟩:=Zveb c3 (k:=0) (cs:=cs0) hq hl (by rw [hs0,c1];simp);have hll:l.length=n:=by rw [g2,c1]
   have hn:n≤16777216:=Yw (Nat.le_mul_of_pos_right _ c4) c2;have x:=Zqp ρ1 w (.cells cs' ti.elem)
   have e2:=x.slot (n:=st1.nb) (c:=.row (.slice (some ⟨w.heap.size,0,none⟩) n n)) (h1.fresh.1 _ (.inl ⟨Yd _,hlt⟩)) (fun b hb=>by
    have hb:some w.heap.size=some b:=hb;cases hb;exact Yd _)
   have hrow:Zac (w.alloc (.cells cs' ti.elem)) (Fix X (upd ρ1 st1.nb (some (.row (.slice (some ⟨w.heap.size,0,none⟩) n n)))) (w.alloc (.cells cs' ti.elem))) false ti.elem ei.ty (.slice (some ⟨w.heap.size,0,none⟩) n n) l:=by
    refine Zfc.ok (.inr ⟨w.heap.size,n,cs',(0,0),by rw [hll],heap_alloc_new w _,.inl rfl,fun _=>⟨rfl,by unfold maxLen;omega⟩,by rw [hll];exact Yd _,by rw [g3,hs0,c3],?_⟩) ((T _ _ hti).low hk);intro j y hj;have:=g5 j y hj;rw [Yf] at this;rw [c3];exact this.ext e2
   obtain ⟨ρ',k1,k2,k3⟩:=h1.row hlt x (fun j b hb=>Zfo w _ (h1.lt j b hb).1) (v:=.slice (some ⟨w.heap.size,0,none⟩) n n) (fun b hb=>by cases hb;exact Yd _) hrow;refine Zmh (v:=.slice (some ⟨w.heap.size,0,none⟩) n n) ?_ hr1 ?_ k1 (e1.trans k2) n1
   ·unfold execOp
    rw [ho];have hlim:¬(2^24<n*ei.sz):=by omega
    have hfill:Instr.fill (fun i=>some (i*ei.sz,ei.sz)) cs0 (ps.map fun (i,x)=>(i,a.eval x)).toList=some cs':=by
     rw [← g1];simp
    by_cases h0:n*ei.sz=0
    ·have hn0:n=0:=by
      rcases Nat.mul_eq_zero.1 h0 with h | h
      ·exact h
      ·omega
     subst hn0;have hcs0:cs0 = #[]:=by apply Array.eq_empty_of_size_eq_zero;rw [hs0];simp
     rw [hcs0] at g1;simp [Instr.buildSlice,run_underlying hu,Zxg (T _ _ hei),newRow,show Yr 0 = #[] from rfl,g1]
    ·simp only [Instr.buildSlice,Sem.run_bind,run_underlying hu,Result.andThen_ok,Zxg (w:=w) (T _ _ hei)]
     rw [Xd hlim];have hzero:(zeroValue ti.elem).run P w = .ok z w:=by simp [zeroValue,typeInfo,hq1,hz]
     rw [Xd h0];simp only [Sem.run_bind,hzero,Result.andThen_ok,Sem.run_pure];have hfill2:Instr.fill (fun i=>some (i*ei.sz,ei.sz)) (Array.map (fun x=>z.cells[x%z.cells.size]!) (Yr (n*ei.sz))) (ps.map fun (i,x)=>(i,a.eval x)).toList=some cs':=hfill;rw [hfill2];simp [newRow]
   ·show Zlb X ρ' (w.alloc (.cells cs' ti.elem)) (.own st1.nb) _
    exact ⟨.inl ⟨_,_,_,rfl⟩,by rw [k3]⟩
  ·cases hr1
end
end Go.Proofs.Qz
